/-
  CRC32C: what the function answers.
  Conditions: the slice's bytes can be read.
  The swarm: what take and number of a Reader do, as summaries for the closed run.
  Conditions: as each theorem states.
  The swarm: printed texts as summaries: what a text without a loop computes is what the call does.
  Conditions: as each theorem states.
  The swarm: faster summaries for the closed run: bytes of a long row are found by steps of 128, and rows of zeros are known.
  Conditions: as each theorem states.
  The swarm: printed texts of the Reader and of the disk's blocks as summaries.
  Conditions: as each theorem states.
  Printed by a program: texts without a loop as summaries.
  Conditions: as each theorem states.
  The swarm: what a disk's Image answers.
  Conditions: as each theorem states.
  The swarm: printed texts of functions, each linked to the program.
  Conditions: none.
  The swarm: printed texts of functions, each linked to the program.
  Conditions: none.
-/
import Derived.Test.YtdmnphocgfnlpaaGreatDoorG12
import Derived.Test.YtdmnphocgfnlpaaGreatDoorProg
import Derived.KernelRfl
namespace Go.Proofs.YtdmnphocgfnlpaaGreatDoor
open Go Go.Abs
noncomputable section

/-- One bit of the table. -/
def crcBit (c : Nat) : Nat := (c / 2) ^^^ (0x82f63b78 * (c % 2))
def crcTab (i : Nat) : Nat := crcBit (crcBit (crcBit (crcBit i)))
def crcHalf (tab : Nat → Nat) (r : Nat) : Nat := tab (r % 16) ^^^ (r / 16)
def crcStep (r x : Nat) : Nat := crcHalf crcTab (crcHalf crcTab (r ^^^ x))
def crcN (l : List Nat) : Nat := 4294967295 ^^^ l.foldl crcStep 4294967295

theorem crcBit_lt {c : Nat} (h : c < 4294967296) : crcBit c < 4294967296 := by
  unfold crcBit
  have h1 : c / 2 < 2 ^ 32 := by omega
  have h2 : 0x82f63b78 * (c % 2) < 2 ^ 32 := by omega
  exact Nat.xor_lt_two_pow h1 h2
theorem crcTab_lt {c : Nat} (h : c < 4294967296) : crcTab c < 4294967296 := crcBit_lt (crcBit_lt (crcBit_lt (crcBit_lt h)))
theorem crcHalf_lt {tab : Nat → Nat} (ht : ∀ q, q < 16 → tab q < 4294967296) {r : Nat} (h : r < 4294967296) : crcHalf tab r < 4294967296 :=
  Nat.xor_lt_two_pow (n := 32) (ht _ (by omega)) (by omega)
theorem crcMix_lt {r : Nat} (h : r < 4294967296) : crcHalf crcTab r < 4294967296 := crcHalf_lt (fun q hq => crcTab_lt (by omega)) h
theorem crcStep_lt {r x : Nat} (h : r < 4294967296) (hx : x < 256) : crcStep r x < 4294967296 :=
  crcMix_lt (crcMix_lt (Nat.xor_lt_two_pow (n := 32) h (by omega)))
theorem crcFold_lt : ∀ (l : List Nat) (r : Nat), r < 4294967296 → (∀ x ∈ l, x < 256) → l.foldl crcStep r < 4294967296
  | [], r, h, _ => h
  | x :: l, r, h, hx => crcFold_lt l _ (crcStep_lt h (hx x List.mem_cons_self)) (fun y hy => hx y (List.mem_cons_of_mem _ hy))

abbrev u32 (n : Nat) : Value := .int .u32 (n : Int)
abbrev u8 (n : Nat) : Value := .int .u8 (n : Int)
abbrev i64n (n : Nat) : Value := .int .i64 (n : Int)

def crcIter (c : Nat) : Nat → Nat
  | 0 => c
  | i + 1 => crcBit (crcIter c i)
theorem crcIter_lt {c : Nat} (hc : c < 4294967296) : ∀ i, crcIter c i < 4294967296
  | 0 => hc
  | i + 1 => crcBit_lt (crcIter_lt hc i)

section
variable (C : CallF)

theorem crc_bit_ops {c : Nat} (hc : c < 4294967296) : bin Tryz.prog .shr 77 (u32 c) (.int .u64 1) = some (u32 (c / 2)) ∧ bin Tryz.prog .and 77 (u32 c) (.int .u32 1) = some (u32 (c % 2)) ∧
    bin Tryz.prog .mul 77 (.int .u32 2197175160) (u32 (c % 2)) = some (u32 (2197175160 * (c % 2))) ∧ bin Tryz.prog .xor 77 (u32 (c / 2)) (u32 (2197175160 * (c % 2))) = some (u32 (crcBit c)) := by
  refine ⟨?_, ?_, ?_, ?_⟩
  · exact bin_shr_nat Tryz.prog 77 (k := .u32) (k' := .u64) (a := c) (b := 1) (by decide)
  · have h1 := bin_and_nat Tryz.prog 77 (k := .u32) rfl (a := c) (b := 1) hc (by decide)
    rw [Nat.and_one_is_mod] at h1
    exact h1
  · rw [bin_mul, wrap_u32_mod]
    congr 2
    omega
  · exact bin_xor_nat Tryz.prog 77 (k := .u32) rfl (a := c / 2) (b := 2197175160 * (c % 2)) (by show _ < 2 ^ 32; omega) (by show _ < 2 ^ 32; omega)

theorem crc_inner (x : Nat → Value) (h : Heap) (c : Nat) (hc : c < 4294967296) (h5 : x 5 = u32 c) (h14 : x 14 = .int .i64 0) :
    ∃ x', iter (codeA Tryz.prog C (partOf Tryz.f126 [1, 1, 0, 1, 0, 0, 1, 1, 0, 0, 1, 1, 0, 1, 0, 0])) rounds (mkF 54 x) h = some (.exit 2, mkF 54 x', h) ∧ x' 5 = u32 (crcTab c) ∧
      x' 0 = x 0 ∧ x' 3 = x 3 ∧ x' 4 = x 4 ∧ x' 9 = x 9 := by
  obtain ⟨ex, x', h', h1, rfl, rfl, h2⟩ := loop_inv (t126l126_110100110011010_eq C)
    (Inv := fun k y h1 => k ≤ 4 ∧ h1 = h ∧ y 5 = u32 (crcIter c (4 - k)) ∧ y 14 = i64n (4 - k) ∧ y 0 = x 0 ∧ y 3 = x 3 ∧ y 4 = x 4 ∧ y 9 = x 9)
    (fin := fun ex y h1 => ex = .exit 2 ∧ h1 = h ∧ y 5 = u32 (crcTab c) ∧ y 0 = x 0 ∧ y 3 = x 3 ∧ y 4 = x 4 ∧ y 9 = x 9)
    (by
      rintro k y _ ⟨hk, rfl, i5, i14, i0, i3, i4, i9⟩
      obtain ⟨o1, o2, o3, o4⟩ := crc_bit_ops (crcIter_lt hc (4 - k))
      unfold t126l126_110100110011010
      simp -implicitDefEqProofs only [i5, i14, i64n, bin_lss, pu_some, thenV_some]
      by_cases hz : k = 0
      · subst hz
        refine ⟨_, _, _, rfl, .inr ⟨by simp, rfl, rfl, ?_⟩⟩
        simp -implicitDefEqProofs only [up_cons, up_nil, i5, i0, i3, i4, i9, Nat.reduceEqDiff, if_false, and_true]
        rfl
      · have hlt : ((4 - k : Nat) : Int) < 4 := by omega
        simp -implicitDefEqProofs only [decide_eq_true hlt, o1, o2, o3, o4, pu_some, thenV_some, bin_add]
        refine ⟨_, _, _, rfl, .inl ⟨rfl, k - 1, by omega, by omega, rfl, ?_⟩⟩
        simp -implicitDefEqProofs only [up_cons, up_nil, i0, i3, i4, i9, Nat.reduceEqDiff, if_false, if_true, and_true]
        refine ⟨?_, ?_⟩
        · have : 4 - (k - 1) = (4 - k) + 1 := by omega
          rw [this]; rfl
        · rw [wrap_i64 (by omega) (by omega)]
          congr 1
          omega)
    (k := 4) (by decide) ⟨by omega, rfl, h5, h14, rfl, rfl, rfl, rfl⟩
  exact ⟨x', h1, h2⟩

def tabBlk (i : Nat) : Blk := (List.range 16).map fun j => u32 (if j < i then crcTab j else 0)
theorem tabBlk_length (i : Nat) : (tabBlk i).length = 16 := by simp [tabBlk]
theorem tabBlk_at {i j : Nat} (hj : j < 16) : (tabBlk i)[j]? = some (u32 (if j < i then crcTab j else 0)) := by
  unfold tabBlk
  rw [List.getElem?_map, List.getElem?_range hj]; rfl
theorem tabBlk_set {i : Nat} (hi : i < 16) : (tabBlk i).set i (u32 (crcTab i)) = tabBlk (i + 1) := by
  apply List.ext_getElem?
  intro j
  rw [List.getElem?_set, tabBlk_length]
  by_cases hj : j < 16
  · rw [tabBlk_at hj, tabBlk_at hj]
    by_cases e : i = j
    · subst e; simp [hi]
    · rw [if_neg e]
      by_cases h2 : j < i
      · rw [if_pos h2, if_pos (by omega)]
      · rw [if_neg h2, if_neg (by omega)]
  · rw [List.getElem?_eq_none (by rw [tabBlk_length]; omega), List.getElem?_eq_none (by rw [tabBlk_length]; omega)]
    split
    · omega
    · rfl

theorem crc_table (x : Nat → Value) (h : Heap) (B : Nat) (hB : h.n0 ≤ B) (hg : h.get B = some (tabBlk 0)) (h3 : x 3 = ptr B 0) (h9 : x 9 = .int .i64 0) :
    ∃ x' h', iter (codeA Tryz.prog C (partOf Tryz.f126 [1, 1, 0, 1, 0, 0])) rounds (mkF 54 x) h = some (.exit 0, mkF 54 x', h') ∧ x' 0 = x 0 ∧ x' 3 = ptr B 0 ∧ Kept h h' (· = B) ∧ h'.get B = some (tabBlk 16) := by
  obtain ⟨ex, x', h', h1, rfl, h2⟩ := loop_inv (t126l126_11010_eq C)
    (Inv := fun k y h1 => k ≤ 16 ∧ y 9 = i64n (16 - k) ∧ y 0 = x 0 ∧ y 3 = ptr B 0 ∧ Kept h h1 (· = B) ∧ h1.get B = some (tabBlk (16 - k)))
    (fin := fun ex y h1 => ex = .exit 0 ∧ y 0 = x 0 ∧ y 3 = ptr B 0 ∧ Kept h h1 (· = B) ∧ h1.get B = some (tabBlk 16))
    (by
      rintro k y h1 ⟨hk, i9, i0, i3, ik, ig⟩
      unfold t126l126_11010
      simp -implicitDefEqProofs only [i9, i64n, bin_lss, pu_some, thenV_some]
      by_cases hz : k = 0
      · subst hz
        refine ⟨_, _, _, rfl, .inr ⟨by simp, rfl, ?_⟩⟩
        simp -implicitDefEqProofs only [up_cons, up_nil, i0, i3, Nat.reduceEqDiff, if_false, true_and]
        exact ⟨ik, ig⟩
      · have hlt : ((16 - k : Nat) : Int) < 16 := by omega
        have hw : IntKind.wrap .u32 ((16 - k : Nat) : Int) = ((16 - k : Nat) : Int) := wrap_u32 (by omega) (by omega)
        simp -implicitDefEqProofs only [decide_eq_true hlt, cvI_int, thenV_some, hw]
        obtain ⟨z, hz1, z5, z0, z3, z4, z9⟩ := crc_inner C (up y [(4, .int .i64 ((16 - k : Nat) : Int)), (5, u32 (16 - k)), (10, .bool true), (11, .int .i64 ((16 - k : Nat) : Int)), (12, .int .i64 ((16 - k : Nat) : Int)), (13, u32 (16 - k)), (14, .int .i64 0)]) h1 (16 - k) (by omega) rfl rfl
        rw [hz1]
        simp -implicitDefEqProofs only [up_cons, up_nil, Nat.reduceEqDiff, if_false, if_true] at z0 z3 z4 z9
        simp -implicitDefEqProofs only [endL_exit, b126_17, if_true, t126k126_15_eq]
        have hlt2 : (0 : Int) ≤ ((16 - k : Nat) : Int) ∧ ((16 - k : Nat) : Int) < ((16 : Nat) : Int) := by omega
        unfold t126k126_15
        simp -implicitDefEqProofs only [z3, i3, z4, z5, idxA, hlt2, and_self, if_true, addP_ptr, pu_some, thenV_some, Nat.zero_add, Int.toNat_natCast, Nat.mul_one]
        rw [stN1_at ig (by rw [tabBlk_length]; omega) (by rw [ik.n0]; exact hB) rfl rfl, tabBlk_set (by omega)]
        simp -implicitDefEqProofs only [thenV_some, t126k126_11_eq]
        unfold t126k126_11
        simp -implicitDefEqProofs only [up_cons, up_nil, Nat.reduceEqDiff, if_false, if_true, z9, i9, bin_add, pu_some, thenV_some]
        refine ⟨_, _, _, rfl, .inl ⟨rfl, k - 1, by omega, by omega, ?_⟩⟩
        have hb : h1.n0 ≤ B := by rw [ik.n0]; exact hB
        have e1 : 16 - (k - 1) = 16 - k + 1 := by omega
        simp -implicitDefEqProofs only [up_cons, up_nil, Nat.reduceEqDiff, if_false, if_true, z0, i0, z3, i3, true_and, e1]
        refine ⟨?_, ik.trans (Kept.set hb ig (.inr rfl)), Heap.get_set_same hb ig _⟩
        rw [wrap_i64 (by omega) (by omega)]
        congr 1)
    (k := 16) (by decide) ⟨by omega, h9, rfl, h3, Kept.refl _ _, hg⟩
  exact ⟨x', h', h1, h2⟩
end

theorem noHoles_u8 : ∀ l : List Nat, noHoles (l.map u8) = true
  | [] => rfl
  | x :: l => by
    have := noHoles_u8 l
    simp only [noHoles, List.map_cons, List.all_cons] at this ⊢
    rw [this]; rfl
theorem noHoles_part (l : List Nat) (o n : Nat) : noHoles (((l.map u8).drop o).take n) = true := by
  rw [← List.map_drop, ← List.map_take]; exact noHoles_u8 _
/-- The bytes of a slice. -/
def nat8 : Value → Option Nat
  | .int .u8 (.ofNat n) => if n < 256 then some n else none
  | _ => none
theorem nat8_eq {v : Value} {n : Nat} (h : nat8 v = some n) : v = u8 n ∧ n < 256 := by
  unfold nat8 at h
  split at h
  · split at h
    · cases h; exact ⟨rfl, by assumption⟩
    · cases h
  · cases h
def bytesOf : List Value → Option (List Nat)
  | [] => some []
  | v :: l => match nat8 v, bytesOf l with
    | some n, some r => some (n :: r)
    | _, _ => none
theorem bytesOf_eq : ∀ {l : List Value} {r : List Nat}, bytesOf l = some r → l = r.map u8 ∧ ∀ n ∈ r, n < 256
  | [], r, h => by cases h; exact ⟨rfl, by simp⟩
  | v :: l, r, h => by
    unfold bytesOf at h
    split at h
    · rename_i n r' h1 h2
      cases h
      obtain ⟨rfl, h3⟩ := nat8_eq h1
      obtain ⟨rfl, h4⟩ := bytesOf_eq h2
      refine ⟨rfl, fun m hm => ?_⟩
      rcases List.mem_cons.1 hm with rfl | hm
      · exact h3
      · exact h4 m hm
    · cases h
theorem bytesOf_map : ∀ {r : List Nat}, (∀ n ∈ r, n < 256) → bytesOf (r.map u8) = some r
  | [], _ => rfl
  | n :: r, h => by
    have h1 : nat8 (u8 n) = some n := by
      show (if n < 256 then some n else none) = some n
      rw [if_pos (h n List.mem_cons_self)]
    simp -implicitDefEqProofs only [List.map_cons, bytesOf, h1, bytesOf_map (r := r) (fun m hm => h m (List.mem_cons_of_mem _ hm))]
/-- What a slice of bytes holds. -/
def sliceBytes (a : Option Addr) (n : Nat) (h : Heap) : Option (List Nat) := (firstA 1 n (.slice a n n) h).bind bytesOf

theorem sliceBytes_spec {a : Option Addr} {n : Nat} {h : Heap} {l : List Nat} (e : sliceBytes a n h = some l) :
    l.length = n ∧ (∀ m ∈ l, m < 256) ∧ (0 < n → ∃ b off s k, a = some ⟨b, off, s⟩ ∧ h.get b = some k ∧ off + n ≤ k.length ∧ ∀ i, i < n → k[off + i]? = some (u8 (l.getD i 0))) := by
  unfold sliceBytes at e
  rw [Option.bind_eq_some_iff] at e
  obtain ⟨cs, h1, h2⟩ := e
  obtain ⟨rfl, h3⟩ := bytesOf_eq h2
  unfold firstA at h1
  split at h1
  · split at h1
    · rename_i hn
      simp -implicitDefEqProofs only [Option.some.injEq] at h1
      have : l = [] := by cases l with | nil => rfl | cons => simp at h1
      subst this; subst hn
      exact ⟨rfl, h3, fun h => absurd h (by omega)⟩
    · cases h1
  · rename_i b off s _ _ heq
    split at h1
    · rename_i hn
      simp -implicitDefEqProofs only [Option.some.injEq] at h1
      have : l = [] := by cases l with | nil => rfl | cons => simp at h1
      subst this
      have : n = 0 := by omega
      subst this
      exact ⟨rfl, h3, fun h => absurd h (by omega)⟩
    · split at h1
      · rename_i k hk
        split at h1
        · rename_i hl0
          have hl := hl0.1
          rw [Nat.mul_one] at h1 hl
          simp -implicitDefEqProofs only [Option.some.injEq] at h1
          have hlen : l.length = n := by
            have := congrArg List.length h1
            simp -implicitDefEqProofs only [List.length_map, List.length_take, List.length_drop] at this
            omega
          refine ⟨hlen, h3, fun _ => ⟨b, off, s, k, ?_, hk, hl, ?_⟩⟩
          · cases heq; rfl
          · intro i hi
            have h4 := congrArg (·[i]?) h1
            simp -implicitDefEqProofs only [List.getElem?_take, hi, if_true, List.getElem?_drop, List.getElem?_map] at h4
            rw [h4, List.getD_eq_getElem?_getD, List.getElem?_eq_getElem (by omega)]
            rfl
        · cases h1
      · cases h1
  · cases (show Value.slice a n n = .string _ by assumption)
  · cases h1

theorem sliceBytes_mono {a : Option Addr} {n : Nat} {h h' : Heap} {l : List Nat} (e : sliceBytes a n h = some l) (hm : ∀ b k, h.get b = some k → h'.get b = some k) : sliceBytes a n h' = some l := by
  unfold sliceBytes at e ⊢
  rw [Option.bind_eq_some_iff] at e ⊢
  obtain ⟨cs, h1, h2⟩ := e
  refine ⟨cs, ?_, h2⟩
  unfold firstA at h1 ⊢
  split at h1
  · exact h1
  · split at h1
    · rw [if_pos (by assumption)]; exact h1
    · rw [if_neg (by assumption)]
      split at h1
      · rename_i k hk
        rw [hm _ _ hk]; exact h1
      · cases h1
  · cases (show Value.slice a n n = .string _ by assumption)
  · cases h1

def s126 : List Value → Heap → Out
  | [.slice a n c], h => match sliceBytes a n h with
    | some l => if n < 9223372036854775807 then some (u32 (crcN l), h) else none
    | none => none
  | _, _ => none

theorem crc_mix (tab : Nat → Nat) (ht : ∀ q, q < 16 → tab q < 4294967296) (r : Nat) (hr : r < 4294967296) : bin Tryz.prog .and 77 (u32 r) (.int .u32 15) = some (u32 (r % 16)) ∧ bin Tryz.prog .shr 77 (u32 r) (.int .u64 4) = some (u32 (r / 16)) ∧
    bin Tryz.prog .xor 77 (u32 (tab (r % 16))) (u32 (r / 16)) = some (u32 (crcHalf tab r)) := by
  refine ⟨?_, ?_, ?_⟩
  · have h1 := bin_and_nat Tryz.prog 77 (k := .u32) rfl (a := r) (b := 15) hr (by decide)
    rw [show r &&& 15 = r % 16 from Nat.and_two_pow_sub_one_eq_mod r 4] at h1
    exact h1
  · exact bin_shr_nat Tryz.prog 77 (k := .u32) (k' := .u64) (a := r) (b := 4) (by decide)
  · exact bin_xor_nat Tryz.prog 77 (k := .u32) rfl (ht _ (by omega)) (by show _ < 2 ^ 32; omega)

section
variable (C : CallF)
theorem crc_round (tab : Nat → Nat) (ht : ∀ q, q < 16 → tab q < 4294967296) (y : Nat → Value) (h : Heap) (B : Nat) (blk : Blk) (hg : h.get B = some blk) (hblk : ∀ q, q < 16 → blk[q]? = some (u32 (tab q)))
    (b off len c i V R : Nat) (s : Option Nat) (kb : Blk) (hkb : h.get b = some kb) (hcell : kb[off + i]? = some (u8 V)) (hV : V < 256) (hR : R < 4294967296) (hi : i < len) (hlen : len < 9223372036854775807)
    (i3 : y 3 = ptr B 0) (i6 : y 6 = u32 R) (i27 : y 27 = .slice (some ⟨b, off, s⟩) len c) (i28 : y 28 = i64n len) (i29 : y 29 = i64n i) :
    ∃ y', t126l126_1111010 C y h = some (.normal, mkF 54 y', h) ∧ y' 3 = y 3 ∧ y' 6 = u32 (crcHalf tab (crcHalf tab (R ^^^ V))) ∧ y' 27 = y 27 ∧ y' 28 = y 28 ∧ y' 29 = i64n (i + 1) := by
  have hlt : (i : Int) < (len : Int) := by omega
  have hidx : (0 : Int) ≤ (i : Int) ∧ (i : Int) < (len : Int) := by omega
  have hw : IntKind.wrap .u32 ((V : Nat) : Int) = (V : Int) := wrap_u32 (by omega) (by omega)
  have hx := bin_xor_nat Tryz.prog 77 (k := .u32) rfl (a := R) (b := V) hR (by show _ < 2 ^ 32; omega)
  have hr1 : R ^^^ V < 4294967296 := Nat.xor_lt_two_pow (n := 32) hR (by omega)
  generalize R ^^^ V = R1 at *
  obtain ⟨a1, a2, a3⟩ := crc_mix tab ht _ hr1
  have hr2 := crcHalf_lt ht hr1
  generalize crcHalf tab R1 = R2 at *
  obtain ⟨b1, b2, b3⟩ := crc_mix tab ht _ hr2
  generalize crcHalf tab R2 = R3 at *
  have hi1 : ∀ q : Nat, (0 : Int) ≤ ((q % 16 : Nat) : Int) ∧ ((q % 16 : Nat) : Int) < ((16 : Nat) : Int) := fun q => by omega
  have hld : ∀ q : Nat, ld1 (ptr B (q % 16)) h = some (u32 (tab (q % 16)), h) := fun q => ld1_at hg (hblk _ (by omega))
  unfold t126l126_1111010
  simp -implicitDefEqProofs only [i28, i29, i64n, bin_lss, pu_some, thenV_some, decide_eq_true hlt, i27, idxS, hidx, and_self, if_true, Int.toNat_natCast, Nat.mul_one, ld1_at hkb hcell, cvI_int, hw, i6, hx, a1, i3, idxA, hi1, addP_ptr, Nat.zero_add, hld, a2, a3, b1, b2, b3, bin_add]
  refine ⟨_, rfl, ?_⟩
  simp -implicitDefEqProofs only [up_cons, up_nil, Nat.reduceEqDiff, if_false, if_true, i3, i27, i28, true_and]
  rw [wrap_i64 (by omega) (by omega)]
  rfl

theorem crc_bytes (x : Nat → Value) (h : Heap) (B : Nat) (a : Option Addr) (n c : Nat) (l : List Nat) (hg : h.get B = some (tabBlk 16)) (hl : sliceBytes a n h = some l)
    (h3 : x 3 = ptr B 0) (h6 : x 6 = u32 4294967295) (h27 : x 27 = .slice a n c) (h28 : x 28 = i64n n) (h29 : x 29 = .int .i64 0) (hn : n < rounds) (hn2 : n < 9223372036854775807) :
    ∃ x', iter (codeA Tryz.prog C (partOf Tryz.f126 [1, 1, 1, 1, 0, 1, 0, 0])) rounds (mkF 54 x) h = some (.exit 4, mkF 54 x', h) ∧ x' 6 = u32 (l.foldl crcStep 4294967295) := by
  obtain ⟨hlen, hb, hat⟩ := sliceBytes_spec hl
  obtain ⟨ex, x', h', h1, rfl, rfl, h2⟩ := loop_inv (t126l126_1111010_eq C)
    (Inv := fun k y h1 => k ≤ n ∧ h = h1 ∧ y 3 = ptr B 0 ∧ y 6 = u32 ((l.take (n - k)).foldl crcStep 4294967295) ∧ y 27 = .slice a n c ∧ y 28 = i64n n ∧ y 29 = i64n (n - k))
    (fin := fun ex y h1 => ex = .exit 4 ∧ h1 = h ∧ y 6 = u32 (l.foldl crcStep 4294967295))
    (by
      rintro k y _ ⟨hk, rfl, i3, i6, i27, i28, i29⟩
      by_cases hz : k = 0
      · subst hz
        unfold t126l126_1111010
        simp -implicitDefEqProofs only [i28, i29, i64n, bin_lss, pu_some, thenV_some]
        simp -implicitDefEqProofs only [Nat.sub_zero, Int.lt_irrefl, decide_false]
        refine ⟨_, _, _, rfl, .inr ⟨by simp, rfl, rfl, ?_⟩⟩
        simp -implicitDefEqProofs only [up_cons, up_nil, Nat.reduceEqDiff, if_false, i6, Nat.sub_zero]
        rw [List.take_of_length_le (by omega)]
      · have e1 : n - (k - 1) = n - k + 1 := by omega
        have hnk : n - k < n := by omega
        have hlt2 : n - k < l.length := by omega
        obtain ⟨b, off, s, kb, rfl, hkb, hkl, hat2⟩ := hat (by omega)
        have hcell := hat2 (n - k) hnk
        clear hat hat2
        have hr : ((l.take (n - k)).foldl crcStep 4294967295) < 4294967296 := crcFold_lt _ _ (by omega) (fun m hm => hb m (List.mem_of_mem_take hm))
        have hbv : l.getD (n - k) 0 < 256 := by
          rw [List.getD_eq_getElem?_getD, List.getElem?_eq_getElem hlt2]
          exact hb _ (List.getElem_mem _)
        obtain ⟨y', q1, q3, q6, q27, q28, q29⟩ := crc_round C crcTab (fun q hq => crcTab_lt (by omega)) y h B (tabBlk 16) hg (fun q hq => by rw [tabBlk_at hq, if_pos hq]) b off n c (n - k) _ _ s kb hkb hcell hbv hr hnk hn2 i3 i6 i27 i28 i29
        refine ⟨_, _, _, q1, .inl ⟨rfl, k - 1, by omega, by omega, rfl, q3.trans i3, ?_, q27.trans i27, q28.trans i28, by rw [q29, e1]⟩⟩
        rw [q6, e1, List.take_add_one, List.foldl_append]
        have hV2 : l[n - k]? = some (l.getD (n - k) 0) := by
          rw [List.getD_eq_getElem?_getD, List.getElem?_eq_getElem hlt2]
          rfl
        rw [hV2, Option.toList_some, List.foldl_cons, List.foldl_nil, crcStep])
    (k := n) hn ⟨by omega, rfl, h3, by rw [h6, Nat.sub_self, List.take_zero, List.foldl_nil], h27, h28, by rw [h29, Nat.sub_self]; rfl⟩
  exact ⟨x', h1, h2⟩

theorem bits_xor_nat {k : IntKind} (hk : k.signed = false) {a b : Nat} (ha : a < 2 ^ k.bits) (hb : b < 2 ^ k.bits) : bitsA .xor k (a : Int) (b : Int) = some (.int k ((a ^^^ b : Nat) : Int)) := by
  simp -implicitDefEqProofs only [bitsA, ofInt_natCast, BitVec.toNat_xor, BitVec.toNat_ofNat, Nat.mod_eq_of_lt ha, Nat.mod_eq_of_lt hb]
  rw [bits_u hk _ (Nat.xor_lt_two_pow ha hb)]
theorem unA_xor_u32 {r : Nat} (hr : r < 4294967296) : unA .xor (u32 r) = some (u32 (4294967295 ^^^ r)) := by
  have h0 : 4294967295 < 2 ^ IntKind.bits .u32 := by show 4294967295 < 2 ^ 32; omega
  have h1 := bits_xor_nat (k := .u32) rfl (a := 4294967295) (b := r) h0 hr
  have h2 : IntKind.max .u32 = ((4294967295 : Nat) : Int) := by decide
  have h3 : unA .xor (u32 r) = bitsA .xor .u32 (IntKind.max .u32) r := rfl
  rw [h3, h2]
  exact h1

theorem t126_is (a : Option Addr) (n c : Nat) (l : List Nat) (h : Heap) (hl : sliceBytes a n h = some l) (hn : n < 9223372036854775807) :
    ∃ h1, t126 C (.slice a n c) h = some (u32 (crcN l), h1) ∧ ∀ b k, h.getB b = some k → h1.getB b = some k := by
  unfold t126
  simp -implicitDefEqProofs only [newC, Abs.newRow, thenV_some]
  have hg0 : (h.alloc (tabBlk 0)).get h.next = some (tabBlk 0) := by rw [Heap.get_alloc, if_pos rfl]
  have hz : List.replicate 16 (Value.int IntKind.u32 0) = tabBlk 0 := rfl
  rw [hz]
  obtain ⟨x', h', h1, x0, x3, hk, hg⟩ := crc_table C (up (bs [.slice a n c]) [(2, .int .u32 0), (3, ptr h.next 0), (9, .int .i64 0)]) (h.alloc (tabBlk 0)) h.next h.n0_le_next hg0 rfl rfl
  rw [h1]
  have x0' : x' 0 = .slice a n c := x0
  have hm : ∀ b k, h.getB b = some k → h'.getB b = some k := by
    intro b k hb
    have hlt := h.lt_of_getB hb
    rw [hk.getB b (by simp; omega) (by omega), Heap.getB_alloc, if_neg (by omega)]; exact hb
  simp -implicitDefEqProofs only [endL_exit, b126_4, if_true, t126k126_2_eq]
  unfold t126k126_2
  simp -implicitDefEqProofs only [x0', lenL_slice, pu_some, thenV_some]
  obtain ⟨z, hz1, z6⟩ := crc_bytes C (up x' [(6, .int .u32 4294967295), (27, .slice a n c), (28, .int .i64 n), (29, .int .i64 0)]) h' h.next a n c l hg (sliceBytes_mono hl fun b k hb => h'.get_of_getB (hm b _ (h.getB_of_get hb)))
    (by simp -implicitDefEqProofs only [up_cons, up_nil, Nat.reduceEqDiff, if_false, x3]) rfl rfl rfl rfl (by have : rounds = 18446744073709551616 := rfl; omega) hn
  rw [hz1]
  simp -implicitDefEqProofs only [endL_exit, b126_8, if_true, t126k126_6_eq]
  unfold t126k126_6
  obtain ⟨_, hb, _⟩ := sliceBytes_spec hl
  refine ⟨h', ?_, hm⟩
  simp -implicitDefEqProofs only [z6, thenV_some, unA_xor_u32 (crcFold_lt l 4294967295 (by omega) hb), pu_some, crcN]

theorem mixed : Tryz.prog.follows .mixedOrders = true := by kernel_rfl
theorem is126 : IsFn Tryz.prog 126 Tryz.f126 := ⟨by kernel_rfl, by kernel_rfl, by kernel_rfl, by kernel_rfl⟩
theorem c126 : Contract Tryz.prog 126 s126 := by
  have key : ∀ args h v h', s126 args h = some (v, h') → ∃ a n c l, args = [.slice a n c] ∧ sliceBytes a n h = some l ∧ n < 9223372036854775807 ∧ v = u32 (crcN l) ∧ h' = h := by
    intro args h v h' e
    unfold s126 at e
    split at e
    · split at e
      · rename_i l hl
        split at e
        · rename_i hn
          cases e
          exact ⟨_, _, _, l, rfl, hl, hn, rfl, rfl⟩
        · cases e
      · cases e
    · cases e
  refine .quiet (callL_sound [] (by simp)) mixed is126 ?_ ?_
  · intro args h v h' e
    obtain ⟨a, n, c, l, rfl, hl, hn, rfl, rfl⟩ := key _ _ _ _ e
    exact ⟨rfl, fun _ => rfl⟩
  · intro args h v h' e _ _
    obtain ⟨a, n, c, l, rfl, hl, hn, rfl, rfl⟩ := key _ _ _ _ e
    obtain ⟨h1, h2, h3⟩ := t126_is (callL []) a n c l _ hl hn
    exact ⟨h1, (t126_eq _ _ _).trans h2, h3⟩
end
end
end Go.Proofs.YtdmnphocgfnlpaaGreatDoor

namespace Go.Proofs.YtdmnphocgfnlpaaGreatDoor
open Go Go.Abs
noncomputable section
theorem globals2 : Tryz.prog.globals.size = 2 := by kernel_rfl
theorem _root_.Go.Abs.Contract.weaker {P : Program} {f : FuncId} {s t : List Value → Heap → Out} (c : Contract P f s) (h : ∀ args g r, t args g = some r → s args g = some r) : Contract P f t :=
  ⟨c.fn, fun _ _ _ _ e => c.grow _ _ _ _ (h _ _ _ e), fun _ _ _ _ e => c.bd _ _ _ _ (h _ _ _ e), fun _ _ _ _ e => c.run _ _ _ _ (h _ _ _ e)⟩
noncomputable abbrev X00 : CallF := callL [(126, s126)]
theorem C0_sound : CSound Tryz.prog X00 := callL_sound _ (by
  intro p hp
  simp only [List.mem_cons, List.not_mem_nil, or_false] at hp
  subst hp
  exact c126)
noncomputable abbrev C0 : CallF := CC Tryz.prog X00
theorem C0_body {f : FuncId} {fn : Func} (i : IsFn Tryz.prog f fn) {args : List Value} {h : Heap} {r : Value × Heap} (hg : 2 ≤ h.n0) (hX : X00 f args h = none) (e : bodyK Tryz.prog C0 fn args h = some r) : C0 f args h = some r :=
  CC_body i (by rw [globals2]; exact hg) hX e
/-- take: the text itself. -/
noncomputable def s93 (args : List Value) (h : Heap) : Out :=
  match args with
  | [x, y] => if Nat.ble 2 h.n0 then t93 (callL []) x y h else none
  | _ => none
theorem is93 : IsFn Tryz.prog 93 Tryz.f93 := ⟨by kernel_rfl, by kernel_rfl, by kernel_rfl, by kernel_rfl⟩
theorem s93_run {args : List Value} {h : Heap} {r : Value × Heap} (e : s93 args h = some r) : C0 93 args h = some r := by
  unfold s93 at e
  split at e
  · split at e
    · rename_i hg
      exact C0_body is93 (Nat.le_of_ble_eq_true hg) rfl ((t93_eq _ _ _ _).trans e)
    · cases e
  · cases e
theorem c93 : Contract Tryz.prog 93 s93 := (Contract.of_CC mixed C0_sound is93).weaker fun _ _ _ e => s93_run e
/-- Numbers, the highest byte first. -/
def be (l : List Nat) : Nat := l.foldl (fun v x => v * 256 + x) 0
theorem be_snoc (l : List Nat) (x : Nat) : be (l ++ [x]) = be l * 256 + x := by simp [be]
theorem be_lt : ∀ (n : Nat) (l : List Nat), l.length = n → (∀ x ∈ l, x < 256) → be l < 256 ^ n
  | 0, l, hl, _ => by
    have : l = [] := List.length_eq_zero_iff.1 hl
    subst this; decide
  | n + 1, l, hl, hb => by
    rcases List.eq_nil_or_concat l with h0 | ⟨m, x, h0⟩
    · subst h0; cases hl
    · rw [List.concat_eq_append] at h0
      subst h0
      have hm : m.length = n := by simpa using hl
      have := be_lt n m hm (fun y hy => hb y (List.mem_append_left _ hy))
      have hx := hb x (by simp)
      rw [be_snoc, Nat.pow_succ]
      omega
theorem take_snocN {l : List Nat} {i : Nat} (h : i < l.length) : l.take (i + 1) = l.take i ++ [l.getD i 0] := by
  rw [List.take_add_one, List.getElem?_eq_getElem h, List.getD_eq_getElem?_getD, List.getElem?_eq_getElem h]; rfl
theorem add3 {a b : Nat} (h : a + b ≤ 9223372036854775807) : bin Tryz.prog .add 3 (i64n a) (.int .i64 (b : Int)) = some (i64n (a + b)) := by
  unfold i64n; rw [bin_add, wrap_i64 (by omega) (by omega), Int.natCast_add]
theorem add31 {a : Nat} (h : a + 1 ≤ 9223372036854775807) : bin Tryz.prog .add 3 (i64n a) (.int .i64 1) = some (i64n (a + 1)) := add3 h
theorem lss3 (a b : Nat) : bin Tryz.prog .lss 3 (i64n a) (i64n b) = some (.bool (decide (a < b))) := by
  rw [bin_lss]
  congr 2
  by_cases e : a < b
  · rw [decide_eq_true e, decide_eq_true (by omega)]
  · rw [decide_eq_false e, decide_eq_false (by omega)]
theorem shl_or {v x : Nat} (hv : v < 72057594037927936) (hx : x < 256) : bin Tryz.prog .shl 27 (.int .u64 (v : Int)) (.int .u64 8) = some (.int .u64 ((v * 256 : Nat) : Int)) ∧
    bin Tryz.prog .or 27 (.int .u64 ((v * 256 : Nat) : Int)) (.int .u64 (x : Int)) = some (.int .u64 ((v * 256 + x : Nat) : Int)) := by
  constructor
  · rw [bin_int]
    have h2 : min (8 : Int).toNat (IntKind.bits .u64) = 8 := by decide
    simp only [binI, show ¬ ((8 : Int) < 0) by decide, if_false, h2]
    have h3 : (2 : Int) ^ 8 = 256 := by decide
    rw [h3, show (v : Int) * 256 = ((v * 256 : Nat) : Int) by omega, wrap_u64 (by omega) (by omega)]
  · rw [bin_or_nat Tryz.prog 27 (k := .u64) rfl (by show _ < 2 ^ 64; omega) (by show _ < 2 ^ 64; omega)]
    have := Nat.two_pow_add_eq_or_of_lt (i := 8) (b := x) (by omega) v
    rw [show v * 256 = 2 ^ 8 * v by omega, ← this]
theorem byte_at {h : Heap} {a : Option Addr} {n c i : Nat} {l : List Nat} (e : sliceBytes a n h = some l) (hi : i < n) : ∃ b p, a.map (·.block) = some b ∧ idxS 1 (.slice a n c) (i64n i) = some (ptr b p) ∧ ld1 (ptr b p) h = some (u8 (l.getD i 0), h) := by
  obtain ⟨h1, h2, h3⟩ := sliceBytes_spec e
  obtain ⟨b, off, s, k, rfl, hk, hlen, hc⟩ := h3 (by omega)
  refine ⟨b, off + i, rfl, ?_, ld1_at hk (hc i hi) rfl⟩
  unfold idxS
  simp only [i64n]
  rw [if_pos (by omega), Int.toNat_natCast, Nat.mul_one]
/-- number: take, and the bytes' number. -/
noncomputable def s92 (args : List Value) (h : Heap) : Out :=
  match args with
  | [x, y] => match s93 [x, y] h with
    | some (.slice a n _, g) => match sliceBytes a n g with
      | some l => if Nat.ble 2 h.n0 && Nat.ble n 8 then some (.int .u64 (be l : Nat), g) else none
      | none => none
    | _ => none
  | _ => none
theorem is92 : IsFn Tryz.prog 92 Tryz.f92 := ⟨by kernel_rfl, by kernel_rfl, by kernel_rfl, by kernel_rfl⟩
theorem num92 {x y : Value} {h h1 : Heap} {a : Option Addr} {n c : Nat} {l : List Nat} (e1 : C0 93 [x, y] h = some (.slice a n c, h1)) (e : sliceBytes a n h1 = some l) (hn : n ≤ 8) : t92 C0 x y h = some (.int .u64 ((be l : Nat) : Int), h1) := by
  obtain ⟨hl, hb, _⟩ := sliceBytes_spec e
  have hll : lenL (.slice a n c) = some (i64n n) := rfl
  unfold t92
  simp -implicitDefEqProofs only [thenV_some, e1, hll, pu_some]
  refine endL_fin (n := 23) (fin := fun ex y g => ex = .exit 0 ∧ g = h1 ∧ y 5 = .int .u64 ((be l : Nat) : Int)) (Q := fun o : Out => o = some (Value.int .u64 ((be l : Nat) : Int), h1))
    (loop_fin (t92l92_11010_eq C0) (Inv := fun k y g => ∃ i, i + k = n ∧ y 10 = .slice a n c ∧ y 11 = i64n n ∧ y 12 = i64n i ∧ g = h1 ∧ y 5 = .int .u64 ((be (l.take i) : Nat) : Int)) ?_ n (by have : rounds = 18446744073709551616 := rfl; omega) ⟨0, Nat.zero_add _, rfl, rfl, rfl, rfl, rfl⟩) ?_
  · rintro k y g ⟨i, hik, y10, y11, y12, rfl, y5⟩
    unfold t92l92_11010
    simp -implicitDefEqProofs only [y12, y11, thenV_some, pu_some, lss3]
    by_cases hi : i < n
    · obtain ⟨b, p, _, i1, i2⟩ := byte_at (c := c) e hi
      have hv : l.getD i 0 < 256 := by
        rw [List.getD_eq_getElem?_getD, List.getElem?_eq_getElem (by omega)]
        exact hb _ (List.getElem_mem _)
      have hbe := be_lt i (l.take i) (by simp; omega) (fun x hx => hb x (List.mem_of_mem_take hx))
      have hbe2 : be (l.take i) < 72057594037927936 := Nat.lt_of_lt_of_le hbe (Nat.le_trans (Nat.pow_le_pow_right (by decide) (show i ≤ 7 by omega)) (by decide))
      obtain ⟨b1, b2⟩ := shl_or hbe2 hv
      have hw : IntKind.wrap .u64 ((l.getD i 0 : Nat) : Int) = ((l.getD i 0 : Nat) : Int) := wrap_u64 (by omega) (by omega)
      simp -implicitDefEqProofs only [decide_eq_true hi, thenV_some, y10, y5, b1, pu_some, i1, i2, u8, cvI_int, hw, b2, add31 (show i + 1 ≤ 9223372036854775807 by omega)]
      refine Rnd.next (k - 1) (by omega) ⟨i + 1, by omega, y10, y11, rfl, rfl, ?_⟩
      rw [take_snocN (by omega), be_snoc]; rfl
    · have : i = n := by omega
      subst this
      simp -implicitDefEqProofs only [decide_eq_false hi]
      exact Rnd.out 0 ⟨rfl, rfl, by rw [List.take_of_length_le (by omega)] at y5; exact y5⟩
  · rintro ex z g ⟨rfl, rfl, z5⟩
    simp -implicitDefEqProofs only [endL_exit, b92_4, if_true, t92k92_2_eq]
    unfold t92k92_2
    rw [z5]
    rfl
theorem s92_run {args : List Value} {h : Heap} {r : Value × Heap} (e : s92 args h = some r) : C0 92 args h = some r := by
  unfold s92 at e
  split at e
  · rename_i x y
    split at e
    · rename_i a n c g h93
      split at e
      · rename_i l hl
        split at e
        · rename_i hc
          cases e
          rw [Bool.and_eq_true] at hc
          exact C0_body is92 (Nat.le_of_ble_eq_true hc.1) rfl ((t92_eq _ _ _ _).trans (num92 (s93_run h93) hl (Nat.le_of_ble_eq_true hc.2)))
        · cases e
      · cases e
    · cases e
  · cases e
theorem c92 : Contract Tryz.prog 92 s92 := (Contract.of_CC mixed C0_sound is92).weaker fun _ _ _ e => s92_run e
end
end Go.Proofs.YtdmnphocgfnlpaaGreatDoor

namespace Go.Proofs.YtdmnphocgfnlpaaGreatDoor
open Go Go.Abs
noncomputable section
def lateOne : Late Unit := ⟨fun q => q (), fun h => h (), fun a b h => h () a b⟩
theorem _root_.Go.Abs.bodyK_mono {P : Program} {C D : CallF} (hc : ∀ f args h r, C f args h = some r → D f args h = some r) {fn : Func} {args : List Value} {h : Heap} {r : Value × Heap} (e : bodyK P C fn args h = some r) : bodyK P D fn args h = some r := by
  rw [bodyK_eq] at e ⊢
  exact bodyA_late lateOne (D := fun _ => D) (fun f args h r e => hc f args h r e) fn args h r e
/-- The summaries hold of the calls. -/
def Holds (C : CallF) : Prop := ∀ f args h r, C f args h = some r → C0 f args h = some r
def Hold1 (f : FuncId) (s : List Value → Heap → Out) : Prop := ∀ args h r, s args h = some r → C0 f args h = some r
theorem Holds.nil : Holds (callL []) := fun _ _ _ _ e => by cases e
theorem Holds.cons {L : List (FuncId × (List Value → Heap → Out))} {f : FuncId} {s : List Value → Heap → Out} (h : Hold1 f s) (H : Holds (callL L)) : Holds (callL ((f, s) :: L)) := by
  intro g args h' r e
  simp only [callL] at e
  split at e
  · rename_i hg; subst hg; exact h _ _ _ e
  · exact H _ _ _ _ e
theorem h126 : Hold1 126 s126 := fun args h r e => CC_known (show X00 126 args h = some r from e)
theorem h92 : Hold1 92 s92 := fun _ _ _ e => s92_run e
theorem h93 : Hold1 93 s93 := fun _ _ _ e => s93_run e
theorem hold_text {f : FuncId} {fn : Func} {C : CallF} (i : IsFn Tryz.prog f fn) (H : Holds C) {args : List Value} {h : Heap} {r : Value × Heap} (hg : Nat.ble 2 h.n0 = true) (hX : X00 f args h = none) (e : bodyK Tryz.prog C fn args h = some r) : C0 f args h = some r :=
  C0_body i (Nat.le_of_ble_eq_true hg) hX (bodyK_mono H e)
theorem Hold1.contract {f : FuncId} {fn : Func} {s : List Value → Heap → Out} (i : IsFn Tryz.prog f fn) (h : Hold1 f s) : Contract Tryz.prog f s := (Contract.of_CC mixed C0_sound i).weaker fun _ _ _ e => h _ _ _ e
noncomputable def s81 (args : List Value) (h : Heap) : Out :=
  match args with
  | [x] => if Nat.ble 2 h.n0 = true then t81 (callL []) x h else none
  | _ => none
theorem is81 : IsFn Tryz.prog 81 Tryz.f81 := ⟨by kernel_rfl, by kernel_rfl, by kernel_rfl, by kernel_rfl⟩
theorem h81 : Hold1 81 s81 := by
  intro args h r e
  unfold s81 at e
  split at e
  · split at e
    · rename_i hg
      exact hold_text (C := callL []) is81 Holds.nil hg rfl ((t81_eq _ _ _).trans e)
    · cases e
  · cases e
end
end Go.Proofs.YtdmnphocgfnlpaaGreatDoor

namespace Go.Proofs.YtdmnphocgfnlpaaGreatDoor
open Go Go.Abs
noncomputable section
def dropK (n : Nat) (l : List Value) : List Value :=
  Nat.rec (motive := fun _ => List Value → List Value) (fun l => l) (fun _ ih l => List.rec (motive := fun _ => List Value) [] (fun _ t _ => ih t) l) n l
theorem dropK_eq : ∀ (n : Nat) (l : List Value), dropK n l = l.drop n
  | 0, l => rfl
  | n + 1, [] => rfl
  | n + 1, _ :: t => dropK_eq n t
def dropQ (q : Nat) (k : List Value) : List Value := Nat.rec (motive := fun _ => List Value) k (fun _ ih => dropK 128 ih) q
theorem dropQ_eq (k : List Value) : ∀ q, dropQ q k = k.drop (128 * q)
  | 0 => rfl
  | q + 1 => by
    show dropK 128 (dropQ q k) = _
    rw [dropK_eq, dropQ_eq k q, List.drop_drop]
    rfl
def cutQ (off n : Nat) (k : List Value) : List Value := (dropK (Nat.mod off 128) (dropQ (Nat.div off 128) k)).take n
theorem cutQ_eq (off n : Nat) (k : List Value) : cutQ off n k = (k.drop off).take n := by
  unfold cutQ
  rw [dropK_eq, dropQ_eq, List.drop_drop]
  have : 128 * Nat.div off 128 + Nat.mod off 128 = off := Nat.div_add_mod off 128
  rw [this]
/-- Rows of zero bytes. -/
def isZ (v : Value) : Bool :=
  match v with
  | .int .u8 (.ofNat m) => Nat.beq m 0
  | _ => false
theorem isZ_eq {v : Value} (h : isZ v = true) : v = u8 0 := by
  unfold isZ at h
  split at h
  · have := Nat.eq_of_beq_eq_true h
    subst this; rfl
  · cases h
def zeroRow (n : Nat) (l : List Value) : Bool :=
  Nat.rec (motive := fun _ => List Value → Bool) (fun l => List.rec (motive := fun _ => Bool) true (fun _ _ _ => false) l)
    (fun _ ih l => List.rec (motive := fun _ => Bool) false (fun v t _ => Bool.rec (motive := fun _ => Bool) false (ih t) (isZ v)) l) n l
theorem zeroRow_eq : ∀ (n : Nat) (l : List Value), zeroRow n l = true → l = (List.replicate n 0).map u8
  | 0, [], _ => rfl
  | 0, _ :: _, h => by cases h
  | n + 1, [], h => by cases h
  | n + 1, v :: t, h => by
    have h : Bool.rec (motive := fun _ => Bool) false (zeroRow n t) (isZ v) = true := h
    cases hz : isZ v with
    | false => rw [hz] at h; cases h
    | true =>
      rw [hz] at h
      rw [isZ_eq hz, zeroRow_eq n t h]; rfl
theorem sliceBytes_cut {b off n : Nat} {s : Option Nat} {h : Heap} {k : List Value} {l : List Nat} (hk : h.get b = some k) (hn : 0 < n) (hl : l.length = n) (hb : ∀ x ∈ l, x < 256) (e : cutQ off n k = l.map u8) : sliceBytes (some ⟨b, off, s⟩) n h = some l := by
  rw [cutQ_eq] at e
  have hlen : off + n ≤ k.length := by
    have := congrArg List.length e
    rw [List.length_take, List.length_drop, List.length_map, hl] at this
    omega
  have hf : firstA 1 n (.slice (some ⟨b, off, s⟩) n n) h = some (l.map u8) := by
    unfold firstA
    simp only [Nat.mul_one, hk]
    rw [if_neg (by omega), e, if_pos ⟨hlen, by rw [noHoles_u8]⟩]
  unfold sliceBytes
  rw [hf]
  exact bytesOf_map hb
def crcZ : Nat := crcN (List.replicate 124 0)
/-- CRC32C: blocks of zeros are known. -/
def s126q (args : List Value) (h : Heap) : Out :=
  match args with
  | [.slice (some ⟨b, off, s⟩) n c] => match Nat.beq n 124 with
    | true => match h.get b with
      | some k => match zeroRow 124 (cutQ off 124 k) with
        | true => some (u32 crcZ, h)
        | false => s126 [.slice (some ⟨b, off, s⟩) n c] h
      | none => none
    | false => s126 [.slice (some ⟨b, off, s⟩) n c] h
  | _ => none
theorem h126q : Hold1 126 s126q := by
  intro args h r e
  unfold s126q at e
  split at e
  · rename_i b off s n c
    split at e
    · rename_i hn
      have hn := Nat.eq_of_beq_eq_true hn
      subst hn
      split at e
      · rename_i k hk
        split at e
        · rename_i hz
          have := sliceBytes_cut (s := s) hk (by decide) (by simp) (by intro x hx; rw [List.eq_of_mem_replicate hx]; decide) (zeroRow_eq _ _ hz)
          cases e
          refine h126 _ _ _ ?_
          show (match sliceBytes (some ⟨b, off, s⟩) 124 h with
            | some l => if 124 < 9223372036854775807 then some (u32 (crcN l), h) else none
            | none => none) = _
          rw [this]
          rfl
        · exact h126 _ _ _ e
      · cases e
    · exact h126 _ _ _ e
  · cases e
/-- Rows of integers. -/
def isI (v : Value) : Bool :=
  match v with
  | .int _ _ => true
  | _ => false
def keepB (b : Bool) : Bool := b
def intRow (n : Nat) (l : List Value) : Bool :=
  Nat.rec (motive := fun _ => List Value → Bool) (fun l => List.rec (motive := fun _ => Bool) true (fun _ _ _ => false) l)
    (fun _ ih l => List.rec (motive := fun _ => Bool) false (fun v t _ => Bool.rec (motive := fun _ => Bool) false (keepB (ih t)) (isI v)) l) n l
theorem intRow_eq : ∀ (n : Nat) (l : List Value), intRow n l = true → l.length = n ∧ oneCells l = true ∧ noHoles l = true
  | 0, [], _ => ⟨rfl, rfl, rfl⟩
  | 0, _ :: _, h => by cases h
  | n + 1, [], h => by cases h
  | n + 1, v :: t, h => by
    have h : Bool.rec (motive := fun _ => Bool) false (intRow n t) (isI v) = true := h
    cases hz : isI v with
    | false => rw [hz] at h; cases h
    | true =>
      rw [hz] at h
      obtain ⟨h1, h2, h3⟩ := intRow_eq n t h
      unfold isI at hz
      split at hz
      · refine ⟨by rw [List.length_cons, h1], ?_, ?_⟩
        · unfold oneCells at h2 ⊢
          rw [List.all_cons, h2]; rfl
        · unfold noHoles at h3 ⊢
          rw [List.all_cons, h3]; rfl
      · cases hz
theorem eqs28 (a : Addr) (n c : Nat) : bin Tryz.prog .eql 28 (.slice (some a) n c) (.slice none 0 0) = some (.bool false) := by kernel_rfl
/-- Clone of a row of integers. -/
def s81q (args : List Value) (h : Heap) : Out :=
  match args with
  | [.slice (some ⟨b, off, s⟩) n c] => match Nat.ble 2 h.n0 && (Nat.blt 0 n && Nat.ble n 1000000) with
    | true => match h.get b with
      | some k => match intRow n (cutQ off n k) with
        | true => some (.slice (some ⟨h.next + 1, 0, some 1⟩) n n, (h.alloc []).alloc (cutQ off n k))
        | false => none
      | none => none
    | false => s81 [.slice (some ⟨b, off, s⟩) n c] h
  | args => s81 args h
theorem h81q : Hold1 81 s81q := by
  intro args h r e
  unfold s81q at e
  split at e
  · rename_i b off s n c
    split at e
    · rename_i hc
      simp only [Bool.and_eq_true] at hc
      obtain ⟨hg, h0, h1⟩ := hc
      have h0 : 0 < n := by simpa using h0
      have h1 : n ≤ 1000000 := Nat.le_of_ble_eq_true h1
      split at e
      · rename_i k hk
        split at e
        · rename_i hr
          cases e
          obtain ⟨e1, e2, e3⟩ := intRow_eq _ _ hr
          refine h81 _ _ _ ?_
          unfold s81
          simp only [hg, if_true]
          rw [cutQ_eq] at e1 e2 e3 ⊢
          have hlen : off + n ≤ k.length := by
            rw [List.length_take, List.length_drop] at e1
            omega
          have hf : firstA 1 n (.slice (some ⟨b, off, s⟩) n c) (h.alloc []) = some ((k.drop off).take n) := by
            unfold firstA
            simp only [Nat.mul_one, Heap.get_alloc_some hk]
            rw [if_neg (by omega), if_pos ⟨hlen, e3⟩]
          have ha : appendA 1 1 (.slice (some ⟨h.next, 0, none⟩) 0 0) (.slice (some ⟨b, off, s⟩) n c) (h.alloc []) = some (.slice (some ⟨h.next + 1, 0, some 1⟩) n n, (h.alloc []).alloc ((k.drop off).take n)) := by
            unfold appendA
            simp only [lenA, hf]
            rw [if_neg (by simp [e2]; omega), if_neg (by omega)]
            simp only [firstA, Nat.zero_mul, if_true, List.length_nil, Nat.zero_add, List.nil_append, Heap.next_alloc]
            simp
          unfold t81
          simp -implicitDefEqProofs only [thenV_some, eqs28, pu_some]
          rw [show bslR 1 (.int .u8 0) 0 [] h = some (.slice (some ⟨h.next, 0, none⟩) 0 0, h.alloc []) from rfl]
          simp -implicitDefEqProofs only [thenV_some, ha]
        · cases e
      · cases e
    · exact h81 _ _ _ e
  · exact h81 _ _ _ e
end
end Go.Proofs.YtdmnphocgfnlpaaGreatDoor

namespace Go.Proofs.YtdmnphocgfnlpaaGreatDoor
open Go Go.Abs
noncomputable section
noncomputable def s319 (args : List Value) (h : Heap) : Out :=
  match args with
  | [x] => if Nat.ble 2 h.n0 = true then t319 (callL []) x h else none
  | _ => none
theorem is319 : IsFn Tryz.prog 319 Tryz.f319 := ⟨by kernel_rfl, by kernel_rfl, by kernel_rfl, by kernel_rfl⟩
theorem h319 : Hold1 319 s319 := by
  intro args h r e
  unfold s319 at e
  split at e
  · split at e
    · rename_i hg
      exact hold_text (C := callL []) is319 Holds.nil hg rfl ((t319_eq _ _ _).trans e)
    · cases e
  · cases e
theorem c319 : Contract Tryz.prog 319 s319 := h319.contract is319
noncomputable def s49 (args : List Value) (h : Heap) : Out :=
  match args with
  | [x] => if Nat.ble 2 h.n0 = true then t49 (callL []) x h else none
  | _ => none
theorem is49 : IsFn Tryz.prog 49 Tryz.f49 := ⟨by kernel_rfl, by kernel_rfl, by kernel_rfl, by kernel_rfl⟩
theorem h49 : Hold1 49 s49 := by
  intro args h r e
  unfold s49 at e
  split at e
  · split at e
    · rename_i hg
      exact hold_text (C := callL []) is49 Holds.nil hg rfl ((t49_eq _ _ _).trans e)
    · cases e
  · cases e
theorem c49 : Contract Tryz.prog 49 s49 := h49.contract is49
noncomputable def s45 (args : List Value) (h : Heap) : Out :=
  match args with
  | [x] => if Nat.ble 2 h.n0 = true then t45 (callL [(81, s81q), (92, s92), (93, s93)]) x h else none
  | _ => none
theorem is45 : IsFn Tryz.prog 45 Tryz.f45 := ⟨by kernel_rfl, by kernel_rfl, by kernel_rfl, by kernel_rfl⟩
theorem h45 : Hold1 45 s45 := by
  intro args h r e
  unfold s45 at e
  split at e
  · split at e
    · rename_i hg
      exact hold_text (C := callL [(81, s81q), (92, s92), (93, s93)]) is45 (.cons h81q (.cons h92 (.cons h93 Holds.nil))) hg rfl ((t45_eq _ _ _).trans e)
    · cases e
  · cases e
theorem c45 : Contract Tryz.prog 45 s45 := h45.contract is45
noncomputable def s47 (args : List Value) (h : Heap) : Out :=
  match args with
  | [x] => if Nat.ble 2 h.n0 = true then t47 (callL [(81, s81q), (92, s92), (93, s93)]) x h else none
  | _ => none
theorem is47 : IsFn Tryz.prog 47 Tryz.f47 := ⟨by kernel_rfl, by kernel_rfl, by kernel_rfl, by kernel_rfl⟩
theorem h47 : Hold1 47 s47 := by
  intro args h r e
  unfold s47 at e
  split at e
  · split at e
    · rename_i hg
      exact hold_text (C := callL [(81, s81q), (92, s92), (93, s93)]) is47 (.cons h81q (.cons h92 (.cons h93 Holds.nil))) hg rfl ((t47_eq _ _ _).trans e)
    · cases e
  · cases e
theorem c47 : Contract Tryz.prog 47 s47 := h47.contract is47
noncomputable def s48 (args : List Value) (h : Heap) : Out :=
  match args with
  | [x] => if Nat.ble 2 h.n0 = true then t48 (callL [(81, s81q), (92, s92), (93, s93)]) x h else none
  | _ => none
theorem is48 : IsFn Tryz.prog 48 Tryz.f48 := ⟨by kernel_rfl, by kernel_rfl, by kernel_rfl, by kernel_rfl⟩
theorem h48 : Hold1 48 s48 := by
  intro args h r e
  unfold s48 at e
  split at e
  · split at e
    · rename_i hg
      exact hold_text (C := callL [(81, s81q), (92, s92), (93, s93)]) is48 (.cons h81q (.cons h92 (.cons h93 Holds.nil))) hg rfl ((t48_eq _ _ _).trans e)
    · cases e
  · cases e
theorem c48 : Contract Tryz.prog 48 s48 := h48.contract is48
noncomputable def s50 (args : List Value) (h : Heap) : Out :=
  match args with
  | [x] => if Nat.ble 2 h.n0 = true then t50 (callL [(81, s81q), (92, s92), (93, s93)]) x h else none
  | _ => none
theorem is50 : IsFn Tryz.prog 50 Tryz.f50 := ⟨by kernel_rfl, by kernel_rfl, by kernel_rfl, by kernel_rfl⟩
theorem h50 : Hold1 50 s50 := by
  intro args h r e
  unfold s50 at e
  split at e
  · split at e
    · rename_i hg
      exact hold_text (C := callL [(81, s81q), (92, s92), (93, s93)]) is50 (.cons h81q (.cons h92 (.cons h93 Holds.nil))) hg rfl ((t50_eq _ _ _).trans e)
    · cases e
  · cases e
theorem c50 : Contract Tryz.prog 50 s50 := h50.contract is50
noncomputable def s180 (args : List Value) (h : Heap) : Out :=
  match args with
  | [x, y] => if Nat.ble 2 h.n0 = true then t180 (callL [(81, s81q), (92, s92), (93, s93)]) x y h else none
  | _ => none
theorem is180 : IsFn Tryz.prog 180 Tryz.f180 := ⟨by kernel_rfl, by kernel_rfl, by kernel_rfl, by kernel_rfl⟩
theorem h180 : Hold1 180 s180 := by
  intro args h r e
  unfold s180 at e
  split at e
  · split at e
    · rename_i hg
      exact hold_text (C := callL [(81, s81q), (92, s92), (93, s93)]) is180 (.cons h81q (.cons h92 (.cons h93 Holds.nil))) hg rfl ((t180_eq _ _ _ _).trans e)
    · cases e
  · cases e
theorem c180 : Contract Tryz.prog 180 s180 := h180.contract is180
noncomputable def s435 (args : List Value) (h : Heap) : Out :=
  match args with
  | [x, y] => if Nat.ble 2 h.n0 = true then t435 (callL [(45, s45), (48, s48), (126, s126q)]) x y h else none
  | _ => none
theorem is435 : IsFn Tryz.prog 435 Tryz.f435 := ⟨by kernel_rfl, by kernel_rfl, by kernel_rfl, by kernel_rfl⟩
theorem h435 : Hold1 435 s435 := by
  intro args h r e
  unfold s435 at e
  split at e
  · split at e
    · rename_i hg
      exact hold_text (C := callL [(45, s45), (48, s48), (126, s126q)]) is435 (.cons h45 (.cons h48 (.cons h126q Holds.nil))) hg rfl ((t435_eq _ _ _ _).trans e)
    · cases e
  · cases e
theorem c435 : Contract Tryz.prog 435 s435 := h435.contract is435
noncomputable def s368 (args : List Value) (h : Heap) : Out :=
  match args with
  | [x, y, z] => if Nat.ble 2 h.n0 = true then t368 (callL [(319, s319), (435, s435), (50, s50), (48, s48), (47, s47), (180, s180), (49, s49)]) x y z h else none
  | _ => none
theorem is368 : IsFn Tryz.prog 368 Tryz.f368 := ⟨by kernel_rfl, by kernel_rfl, by kernel_rfl, by kernel_rfl⟩
theorem h368 : Hold1 368 s368 := by
  intro args h r e
  unfold s368 at e
  split at e
  · split at e
    · rename_i hg
      exact hold_text (C := callL [(319, s319), (435, s435), (50, s50), (48, s48), (47, s47), (180, s180), (49, s49)]) is368 (.cons h319 (.cons h435 (.cons h50 (.cons h48 (.cons h47 (.cons h180 (.cons h49 Holds.nil))))))) hg rfl ((t368_eq _ _ _ _ _).trans e)
    · cases e
  · cases e
theorem c368 : Contract Tryz.prog 368 s368 := h368.contract is368
end
end Go.Proofs.YtdmnphocgfnlpaaGreatDoor

namespace Go.Proofs.YtdmnphocgfnlpaaGreatDoor
open Go Go.Abs
noncomputable section
def s12 (args : List Value) (h : Heap) : Out :=
  match args with
  | [x0] => if Nat.ble 2 h.n0 = true then t12 (callL []) x0 h else none
  | _ => none
theorem is12 : IsFn Tryz.prog 12 Tryz.f12 := ⟨by kernel_rfl, by kernel_rfl, by kernel_rfl, by kernel_rfl⟩
theorem h12 : Hold1 12 s12 := by
  intro args h r e
  unfold s12 at e
  split at e
  · split at e
    · rename_i hg
      exact hold_text (C := callL []) is12 Holds.nil hg rfl ((t12_eq _ _ _).trans e)
    · cases e
  · cases e
theorem c12 : Contract Tryz.prog 12 s12 := h12.contract is12
def s36 (args : List Value) (h : Heap) : Out :=
  match args with
  | [x0] => if Nat.ble 2 h.n0 = true then t36 (callL []) x0 h else none
  | _ => none
theorem is36 : IsFn Tryz.prog 36 Tryz.f36 := ⟨by kernel_rfl, by kernel_rfl, by kernel_rfl, by kernel_rfl⟩
theorem h36 : Hold1 36 s36 := by
  intro args h r e
  unfold s36 at e
  split at e
  · split at e
    · rename_i hg
      exact hold_text (C := callL []) is36 Holds.nil hg rfl ((t36_eq _ _ _).trans e)
    · cases e
  · cases e
theorem c36 : Contract Tryz.prog 36 s36 := h36.contract is36
def s40 (args : List Value) (h : Heap) : Out :=
  match args with
  | [x0] => if Nat.ble 2 h.n0 = true then t40 (callL []) x0 h else none
  | _ => none
theorem is40 : IsFn Tryz.prog 40 Tryz.f40 := ⟨by kernel_rfl, by kernel_rfl, by kernel_rfl, by kernel_rfl⟩
theorem h40 : Hold1 40 s40 := by
  intro args h r e
  unfold s40 at e
  split at e
  · split at e
    · rename_i hg
      exact hold_text (C := callL []) is40 Holds.nil hg rfl ((t40_eq _ _ _).trans e)
    · cases e
  · cases e
theorem c40 : Contract Tryz.prog 40 s40 := h40.contract is40
def s43 (args : List Value) (h : Heap) : Out :=
  match args with
  | [x0] => if Nat.ble 2 h.n0 = true then t43 (callL [(81, s81q)]) x0 h else none
  | _ => none
theorem is43 : IsFn Tryz.prog 43 Tryz.f43 := ⟨by kernel_rfl, by kernel_rfl, by kernel_rfl, by kernel_rfl⟩
theorem h43 : Hold1 43 s43 := by
  intro args h r e
  unfold s43 at e
  split at e
  · split at e
    · rename_i hg
      exact hold_text (C := callL [(81, s81q)]) is43 (.cons h81q Holds.nil) hg rfl ((t43_eq _ _ _).trans e)
    · cases e
  · cases e
theorem c43 : Contract Tryz.prog 43 s43 := h43.contract is43
def s46 (args : List Value) (h : Heap) : Out :=
  match args with
  | [x0] => if Nat.ble 2 h.n0 = true then t46 (callL [(92, s92)]) x0 h else none
  | _ => none
theorem is46 : IsFn Tryz.prog 46 Tryz.f46 := ⟨by kernel_rfl, by kernel_rfl, by kernel_rfl, by kernel_rfl⟩
theorem h46 : Hold1 46 s46 := by
  intro args h r e
  unfold s46 at e
  split at e
  · split at e
    · rename_i hg
      exact hold_text (C := callL [(92, s92)]) is46 (.cons h92 Holds.nil) hg rfl ((t46_eq _ _ _).trans e)
    · cases e
  · cases e
theorem c46 : Contract Tryz.prog 46 s46 := h46.contract is46
def s51 (args : List Value) (h : Heap) : Out :=
  match args with
  | [x0] => if Nat.ble 2 h.n0 = true then t51 (callL [(81, s81q), (92, s92), (93, s93)]) x0 h else none
  | _ => none
theorem is51 : IsFn Tryz.prog 51 Tryz.f51 := ⟨by kernel_rfl, by kernel_rfl, by kernel_rfl, by kernel_rfl⟩
theorem h51 : Hold1 51 s51 := by
  intro args h r e
  unfold s51 at e
  split at e
  · split at e
    · rename_i hg
      exact hold_text (C := callL [(81, s81q), (92, s92), (93, s93)]) is51 (.cons h81q (.cons h92 (.cons h93 Holds.nil))) hg rfl ((t51_eq _ _ _).trans e)
    · cases e
  · cases e
theorem c51 : Contract Tryz.prog 51 s51 := h51.contract is51
def s53 (args : List Value) (h : Heap) : Out :=
  match args with
  | [x0] => if Nat.ble 2 h.n0 = true then t53 (callL []) x0 h else none
  | _ => none
theorem is53 : IsFn Tryz.prog 53 Tryz.f53 := ⟨by kernel_rfl, by kernel_rfl, by kernel_rfl, by kernel_rfl⟩
theorem h53 : Hold1 53 s53 := by
  intro args h r e
  unfold s53 at e
  split at e
  · split at e
    · rename_i hg
      exact hold_text (C := callL []) is53 Holds.nil hg rfl ((t53_eq _ _ _).trans e)
    · cases e
  · cases e
theorem c53 : Contract Tryz.prog 53 s53 := h53.contract is53
def s57 (args : List Value) (h : Heap) : Out :=
  match args with
  | [] => if Nat.ble 2 h.n0 = true then t57 (callL [])  h else none
  | _ => none
theorem is57 : IsFn Tryz.prog 57 Tryz.f57 := ⟨by kernel_rfl, by kernel_rfl, by kernel_rfl, by kernel_rfl⟩
theorem h57 : Hold1 57 s57 := by
  intro args h r e
  unfold s57 at e
  split at e
  · split at e
    · rename_i hg
      exact hold_text (C := callL []) is57 Holds.nil hg rfl ((t57_eq _ _).trans e)
    · cases e
  · cases e
theorem c57 : Contract Tryz.prog 57 s57 := h57.contract is57
def s60 (args : List Value) (h : Heap) : Out :=
  match args with
  | [x0, x1] => if Nat.ble 2 h.n0 = true then t60 (callL []) x0 x1 h else none
  | _ => none
theorem is60 : IsFn Tryz.prog 60 Tryz.f60 := ⟨by kernel_rfl, by kernel_rfl, by kernel_rfl, by kernel_rfl⟩
theorem h60 : Hold1 60 s60 := by
  intro args h r e
  unfold s60 at e
  split at e
  · split at e
    · rename_i hg
      exact hold_text (C := callL []) is60 Holds.nil hg rfl ((t60_eq _ _ _ _).trans e)
    · cases e
  · cases e
theorem c60 : Contract Tryz.prog 60 s60 := h60.contract is60
def s87 (args : List Value) (h : Heap) : Out :=
  match args with
  | [x0] => if Nat.ble 2 h.n0 = true then t87 (callL []) x0 h else none
  | _ => none
theorem is87 : IsFn Tryz.prog 87 Tryz.f87 := ⟨by kernel_rfl, by kernel_rfl, by kernel_rfl, by kernel_rfl⟩
theorem h87 : Hold1 87 s87 := by
  intro args h r e
  unfold s87 at e
  split at e
  · split at e
    · rename_i hg
      exact hold_text (C := callL []) is87 Holds.nil hg rfl ((t87_eq _ _ _).trans e)
    · cases e
  · cases e
theorem c87 : Contract Tryz.prog 87 s87 := h87.contract is87
def s91 (args : List Value) (h : Heap) : Out :=
  match args with
  | [x0, x1] => if Nat.ble 2 h.n0 = true then t91 (callL []) x0 x1 h else none
  | _ => none
theorem is91 : IsFn Tryz.prog 91 Tryz.f91 := ⟨by kernel_rfl, by kernel_rfl, by kernel_rfl, by kernel_rfl⟩
theorem h91 : Hold1 91 s91 := by
  intro args h r e
  unfold s91 at e
  split at e
  · split at e
    · rename_i hg
      exact hold_text (C := callL []) is91 Holds.nil hg rfl ((t91_eq _ _ _ _).trans e)
    · cases e
  · cases e
theorem c91 : Contract Tryz.prog 91 s91 := h91.contract is91
def s104 (args : List Value) (h : Heap) : Out :=
  match args with
  | [x0] => if Nat.ble 2 h.n0 = true then t104 (callL []) x0 h else none
  | _ => none
theorem is104 : IsFn Tryz.prog 104 Tryz.f104 := ⟨by kernel_rfl, by kernel_rfl, by kernel_rfl, by kernel_rfl⟩
theorem h104 : Hold1 104 s104 := by
  intro args h r e
  unfold s104 at e
  split at e
  · split at e
    · rename_i hg
      exact hold_text (C := callL []) is104 Holds.nil hg rfl ((t104_eq _ _ _).trans e)
    · cases e
  · cases e
theorem c104 : Contract Tryz.prog 104 s104 := h104.contract is104
def s110 (args : List Value) (h : Heap) : Out :=
  match args with
  | [x0, x1] => if Nat.ble 2 h.n0 = true then t110 (callL []) x0 x1 h else none
  | _ => none
theorem is110 : IsFn Tryz.prog 110 Tryz.f110 := ⟨by kernel_rfl, by kernel_rfl, by kernel_rfl, by kernel_rfl⟩
theorem h110 : Hold1 110 s110 := by
  intro args h r e
  unfold s110 at e
  split at e
  · split at e
    · rename_i hg
      exact hold_text (C := callL []) is110 Holds.nil hg rfl ((t110_eq _ _ _ _).trans e)
    · cases e
  · cases e
theorem c110 : Contract Tryz.prog 110 s110 := h110.contract is110
def s111 (args : List Value) (h : Heap) : Out :=
  match args with
  | [x0] => if Nat.ble 2 h.n0 = true then t111 (callL []) x0 h else none
  | _ => none
theorem is111 : IsFn Tryz.prog 111 Tryz.f111 := ⟨by kernel_rfl, by kernel_rfl, by kernel_rfl, by kernel_rfl⟩
theorem h111 : Hold1 111 s111 := by
  intro args h r e
  unfold s111 at e
  split at e
  · split at e
    · rename_i hg
      exact hold_text (C := callL []) is111 Holds.nil hg rfl ((t111_eq _ _ _).trans e)
    · cases e
  · cases e
theorem c111 : Contract Tryz.prog 111 s111 := h111.contract is111
def s114 (args : List Value) (h : Heap) : Out :=
  match args with
  | [x0] => if Nat.ble 2 h.n0 = true then t114 (callL []) x0 h else none
  | _ => none
theorem is114 : IsFn Tryz.prog 114 Tryz.f114 := ⟨by kernel_rfl, by kernel_rfl, by kernel_rfl, by kernel_rfl⟩
theorem h114 : Hold1 114 s114 := by
  intro args h r e
  unfold s114 at e
  split at e
  · split at e
    · rename_i hg
      exact hold_text (C := callL []) is114 Holds.nil hg rfl ((t114_eq _ _ _).trans e)
    · cases e
  · cases e
theorem c114 : Contract Tryz.prog 114 s114 := h114.contract is114
def s125 (args : List Value) (h : Heap) : Out :=
  match args with
  | [x0] => if Nat.ble 2 h.n0 = true then t125 (callL [(45, s45), (46, s46), (47, s47), (48, s48), (49, s49), (180, s180)]) x0 h else none
  | _ => none
theorem is125 : IsFn Tryz.prog 125 Tryz.f125 := ⟨by kernel_rfl, by kernel_rfl, by kernel_rfl, by kernel_rfl⟩
theorem h125 : Hold1 125 s125 := by
  intro args h r e
  unfold s125 at e
  split at e
  · split at e
    · rename_i hg
      exact hold_text (C := callL [(45, s45), (46, s46), (47, s47), (48, s48), (49, s49), (180, s180)]) is125 (.cons h45 (.cons h46 (.cons h47 (.cons h48 (.cons h49 (.cons h180 Holds.nil)))))) hg rfl ((t125_eq _ _ _).trans e)
    · cases e
  · cases e
theorem c125 : Contract Tryz.prog 125 s125 := h125.contract is125
def s128 (args : List Value) (h : Heap) : Out :=
  match args with
  | [x0] => if Nat.ble 2 h.n0 = true then t128 (callL [(49, s49)]) x0 h else none
  | _ => none
theorem is128 : IsFn Tryz.prog 128 Tryz.f128 := ⟨by kernel_rfl, by kernel_rfl, by kernel_rfl, by kernel_rfl⟩
theorem h128 : Hold1 128 s128 := by
  intro args h r e
  unfold s128 at e
  split at e
  · split at e
    · rename_i hg
      exact hold_text (C := callL [(49, s49)]) is128 (.cons h49 Holds.nil) hg rfl ((t128_eq _ _ _).trans e)
    · cases e
  · cases e
theorem c128 : Contract Tryz.prog 128 s128 := h128.contract is128
def s140 (args : List Value) (h : Heap) : Out :=
  match args with
  | [x0] => if Nat.ble 2 h.n0 = true then t140 (callL []) x0 h else none
  | _ => none
theorem is140 : IsFn Tryz.prog 140 Tryz.f140 := ⟨by kernel_rfl, by kernel_rfl, by kernel_rfl, by kernel_rfl⟩
theorem h140 : Hold1 140 s140 := by
  intro args h r e
  unfold s140 at e
  split at e
  · split at e
    · rename_i hg
      exact hold_text (C := callL []) is140 Holds.nil hg rfl ((t140_eq _ _ _).trans e)
    · cases e
  · cases e
theorem c140 : Contract Tryz.prog 140 s140 := h140.contract is140
def s158 (args : List Value) (h : Heap) : Out :=
  match args with
  | [x0] => if Nat.ble 2 h.n0 = true then t158 (callL []) x0 h else none
  | _ => none
theorem is158 : IsFn Tryz.prog 158 Tryz.f158 := ⟨by kernel_rfl, by kernel_rfl, by kernel_rfl, by kernel_rfl⟩
theorem h158 : Hold1 158 s158 := by
  intro args h r e
  unfold s158 at e
  split at e
  · split at e
    · rename_i hg
      exact hold_text (C := callL []) is158 Holds.nil hg rfl ((t158_eq _ _ _).trans e)
    · cases e
  · cases e
theorem c158 : Contract Tryz.prog 158 s158 := h158.contract is158
def s166 (args : List Value) (h : Heap) : Out :=
  match args with
  | [x0] => if Nat.ble 2 h.n0 = true then t166 (callL []) x0 h else none
  | _ => none
theorem is166 : IsFn Tryz.prog 166 Tryz.f166 := ⟨by kernel_rfl, by kernel_rfl, by kernel_rfl, by kernel_rfl⟩
theorem h166 : Hold1 166 s166 := by
  intro args h r e
  unfold s166 at e
  split at e
  · split at e
    · rename_i hg
      exact hold_text (C := callL []) is166 Holds.nil hg rfl ((t166_eq _ _ _).trans e)
    · cases e
  · cases e
theorem c166 : Contract Tryz.prog 166 s166 := h166.contract is166
def s168 (args : List Value) (h : Heap) : Out :=
  match args with
  | [x0] => if Nat.ble 2 h.n0 = true then t168 (callL []) x0 h else none
  | _ => none
theorem is168 : IsFn Tryz.prog 168 Tryz.f168 := ⟨by kernel_rfl, by kernel_rfl, by kernel_rfl, by kernel_rfl⟩
theorem h168 : Hold1 168 s168 := by
  intro args h r e
  unfold s168 at e
  split at e
  · split at e
    · rename_i hg
      exact hold_text (C := callL []) is168 Holds.nil hg rfl ((t168_eq _ _ _).trans e)
    · cases e
  · cases e
theorem c168 : Contract Tryz.prog 168 s168 := h168.contract is168
def s170 (args : List Value) (h : Heap) : Out :=
  match args with
  | [x0] => if Nat.ble 2 h.n0 = true then t170 (callL []) x0 h else none
  | _ => none
theorem is170 : IsFn Tryz.prog 170 Tryz.f170 := ⟨by kernel_rfl, by kernel_rfl, by kernel_rfl, by kernel_rfl⟩
theorem h170 : Hold1 170 s170 := by
  intro args h r e
  unfold s170 at e
  split at e
  · split at e
    · rename_i hg
      exact hold_text (C := callL []) is170 Holds.nil hg rfl ((t170_eq _ _ _).trans e)
    · cases e
  · cases e
theorem c170 : Contract Tryz.prog 170 s170 := h170.contract is170
def s182 (args : List Value) (h : Heap) : Out :=
  match args with
  | [x0] => if Nat.ble 2 h.n0 = true then t182 (callL []) x0 h else none
  | _ => none
theorem is182 : IsFn Tryz.prog 182 Tryz.f182 := ⟨by kernel_rfl, by kernel_rfl, by kernel_rfl, by kernel_rfl⟩
theorem h182 : Hold1 182 s182 := by
  intro args h r e
  unfold s182 at e
  split at e
  · split at e
    · rename_i hg
      exact hold_text (C := callL []) is182 Holds.nil hg rfl ((t182_eq _ _ _).trans e)
    · cases e
  · cases e
theorem c182 : Contract Tryz.prog 182 s182 := h182.contract is182
def s190 (args : List Value) (h : Heap) : Out :=
  match args with
  | [x0, x1, x2] => if Nat.ble 2 h.n0 = true then t190 (callL []) x0 x1 x2 h else none
  | _ => none
theorem is190 : IsFn Tryz.prog 190 Tryz.f190 := ⟨by kernel_rfl, by kernel_rfl, by kernel_rfl, by kernel_rfl⟩
theorem h190 : Hold1 190 s190 := by
  intro args h r e
  unfold s190 at e
  split at e
  · split at e
    · rename_i hg
      exact hold_text (C := callL []) is190 Holds.nil hg rfl ((t190_eq _ _ _ _ _).trans e)
    · cases e
  · cases e
theorem c190 : Contract Tryz.prog 190 s190 := h190.contract is190
def s191 (args : List Value) (h : Heap) : Out :=
  match args with
  | [] => if Nat.ble 2 h.n0 = true then t191 (callL [])  h else none
  | _ => none
theorem is191 : IsFn Tryz.prog 191 Tryz.f191 := ⟨by kernel_rfl, by kernel_rfl, by kernel_rfl, by kernel_rfl⟩
theorem h191 : Hold1 191 s191 := by
  intro args h r e
  unfold s191 at e
  split at e
  · split at e
    · rename_i hg
      exact hold_text (C := callL []) is191 Holds.nil hg rfl ((t191_eq _ _).trans e)
    · cases e
  · cases e
theorem c191 : Contract Tryz.prog 191 s191 := h191.contract is191
def s215 (args : List Value) (h : Heap) : Out :=
  match args with
  | [x0] => if Nat.ble 2 h.n0 = true then t215 (callL []) x0 h else none
  | _ => none
theorem is215 : IsFn Tryz.prog 215 Tryz.f215 := ⟨by kernel_rfl, by kernel_rfl, by kernel_rfl, by kernel_rfl⟩
theorem h215 : Hold1 215 s215 := by
  intro args h r e
  unfold s215 at e
  split at e
  · split at e
    · rename_i hg
      exact hold_text (C := callL []) is215 Holds.nil hg rfl ((t215_eq _ _ _).trans e)
    · cases e
  · cases e
theorem c215 : Contract Tryz.prog 215 s215 := h215.contract is215
def s228 (args : List Value) (h : Heap) : Out :=
  match args with
  | [x0] => if Nat.ble 2 h.n0 = true then t228 (callL []) x0 h else none
  | _ => none
theorem is228 : IsFn Tryz.prog 228 Tryz.f228 := ⟨by kernel_rfl, by kernel_rfl, by kernel_rfl, by kernel_rfl⟩
theorem h228 : Hold1 228 s228 := by
  intro args h r e
  unfold s228 at e
  split at e
  · split at e
    · rename_i hg
      exact hold_text (C := callL []) is228 Holds.nil hg rfl ((t228_eq _ _ _).trans e)
    · cases e
  · cases e
theorem c228 : Contract Tryz.prog 228 s228 := h228.contract is228
def s234 (args : List Value) (h : Heap) : Out :=
  match args with
  | [x0] => if Nat.ble 2 h.n0 = true then t234 (callL []) x0 h else none
  | _ => none
theorem is234 : IsFn Tryz.prog 234 Tryz.f234 := ⟨by kernel_rfl, by kernel_rfl, by kernel_rfl, by kernel_rfl⟩
theorem h234 : Hold1 234 s234 := by
  intro args h r e
  unfold s234 at e
  split at e
  · split at e
    · rename_i hg
      exact hold_text (C := callL []) is234 Holds.nil hg rfl ((t234_eq _ _ _).trans e)
    · cases e
  · cases e
theorem c234 : Contract Tryz.prog 234 s234 := h234.contract is234
def s240 (args : List Value) (h : Heap) : Out :=
  match args with
  | [x0] => if Nat.ble 2 h.n0 = true then t240 (callL []) x0 h else none
  | _ => none
theorem is240 : IsFn Tryz.prog 240 Tryz.f240 := ⟨by kernel_rfl, by kernel_rfl, by kernel_rfl, by kernel_rfl⟩
theorem h240 : Hold1 240 s240 := by
  intro args h r e
  unfold s240 at e
  split at e
  · split at e
    · rename_i hg
      exact hold_text (C := callL []) is240 Holds.nil hg rfl ((t240_eq _ _ _).trans e)
    · cases e
  · cases e
theorem c240 : Contract Tryz.prog 240 s240 := h240.contract is240
def s254 (args : List Value) (h : Heap) : Out :=
  match args with
  | [x0, x1] => if Nat.ble 2 h.n0 = true then t254 (callL []) x0 x1 h else none
  | _ => none
theorem is254 : IsFn Tryz.prog 254 Tryz.f254 := ⟨by kernel_rfl, by kernel_rfl, by kernel_rfl, by kernel_rfl⟩
theorem h254 : Hold1 254 s254 := by
  intro args h r e
  unfold s254 at e
  split at e
  · split at e
    · rename_i hg
      exact hold_text (C := callL []) is254 Holds.nil hg rfl ((t254_eq _ _ _ _).trans e)
    · cases e
  · cases e
theorem c254 : Contract Tryz.prog 254 s254 := h254.contract is254
def s302 (args : List Value) (h : Heap) : Out :=
  match args with
  | [x0, x1] => if Nat.ble 2 h.n0 = true then t302 (callL [(91, s91)]) x0 x1 h else none
  | _ => none
theorem is302 : IsFn Tryz.prog 302 Tryz.f302 := ⟨by kernel_rfl, by kernel_rfl, by kernel_rfl, by kernel_rfl⟩
theorem h302 : Hold1 302 s302 := by
  intro args h r e
  unfold s302 at e
  split at e
  · split at e
    · rename_i hg
      exact hold_text (C := callL [(91, s91)]) is302 (.cons h91 Holds.nil) hg rfl ((t302_eq _ _ _ _).trans e)
    · cases e
  · cases e
theorem c302 : Contract Tryz.prog 302 s302 := h302.contract is302
def s307 (args : List Value) (h : Heap) : Out :=
  match args with
  | [x0] => if Nat.ble 2 h.n0 = true then t307 (callL []) x0 h else none
  | _ => none
theorem is307 : IsFn Tryz.prog 307 Tryz.f307 := ⟨by kernel_rfl, by kernel_rfl, by kernel_rfl, by kernel_rfl⟩
theorem h307 : Hold1 307 s307 := by
  intro args h r e
  unfold s307 at e
  split at e
  · split at e
    · rename_i hg
      exact hold_text (C := callL []) is307 Holds.nil hg rfl ((t307_eq _ _ _).trans e)
    · cases e
  · cases e
theorem c307 : Contract Tryz.prog 307 s307 := h307.contract is307
def s318 (args : List Value) (h : Heap) : Out :=
  match args with
  | [x0] => if Nat.ble 2 h.n0 = true then t318 (callL []) x0 h else none
  | _ => none
theorem is318 : IsFn Tryz.prog 318 Tryz.f318 := ⟨by kernel_rfl, by kernel_rfl, by kernel_rfl, by kernel_rfl⟩
theorem h318 : Hold1 318 s318 := by
  intro args h r e
  unfold s318 at e
  split at e
  · split at e
    · rename_i hg
      exact hold_text (C := callL []) is318 Holds.nil hg rfl ((t318_eq _ _ _).trans e)
    · cases e
  · cases e
theorem c318 : Contract Tryz.prog 318 s318 := h318.contract is318
def s343 (args : List Value) (h : Heap) : Out :=
  match args with
  | [x0] => if Nat.ble 2 h.n0 = true then t343 (callL []) x0 h else none
  | _ => none
theorem is343 : IsFn Tryz.prog 343 Tryz.f343 := ⟨by kernel_rfl, by kernel_rfl, by kernel_rfl, by kernel_rfl⟩
theorem h343 : Hold1 343 s343 := by
  intro args h r e
  unfold s343 at e
  split at e
  · split at e
    · rename_i hg
      exact hold_text (C := callL []) is343 Holds.nil hg rfl ((t343_eq _ _ _).trans e)
    · cases e
  · cases e
theorem c343 : Contract Tryz.prog 343 s343 := h343.contract is343
def s344 (args : List Value) (h : Heap) : Out :=
  match args with
  | [x0] => if Nat.ble 2 h.n0 = true then t344 (callL []) x0 h else none
  | _ => none
theorem is344 : IsFn Tryz.prog 344 Tryz.f344 := ⟨by kernel_rfl, by kernel_rfl, by kernel_rfl, by kernel_rfl⟩
theorem h344 : Hold1 344 s344 := by
  intro args h r e
  unfold s344 at e
  split at e
  · split at e
    · rename_i hg
      exact hold_text (C := callL []) is344 Holds.nil hg rfl ((t344_eq _ _ _).trans e)
    · cases e
  · cases e
theorem c344 : Contract Tryz.prog 344 s344 := h344.contract is344
def s347 (args : List Value) (h : Heap) : Out :=
  match args with
  | [x0] => if Nat.ble 2 h.n0 = true then t347 (callL []) x0 h else none
  | _ => none
theorem is347 : IsFn Tryz.prog 347 Tryz.f347 := ⟨by kernel_rfl, by kernel_rfl, by kernel_rfl, by kernel_rfl⟩
theorem h347 : Hold1 347 s347 := by
  intro args h r e
  unfold s347 at e
  split at e
  · split at e
    · rename_i hg
      exact hold_text (C := callL []) is347 Holds.nil hg rfl ((t347_eq _ _ _).trans e)
    · cases e
  · cases e
theorem c347 : Contract Tryz.prog 347 s347 := h347.contract is347
def s366 (args : List Value) (h : Heap) : Out :=
  match args with
  | [x0, x1] => if Nat.ble 2 h.n0 = true then t366 (callL []) x0 x1 h else none
  | _ => none
theorem is366 : IsFn Tryz.prog 366 Tryz.f366 := ⟨by kernel_rfl, by kernel_rfl, by kernel_rfl, by kernel_rfl⟩
theorem h366 : Hold1 366 s366 := by
  intro args h r e
  unfold s366 at e
  split at e
  · split at e
    · rename_i hg
      exact hold_text (C := callL []) is366 Holds.nil hg rfl ((t366_eq _ _ _ _).trans e)
    · cases e
  · cases e
theorem c366 : Contract Tryz.prog 366 s366 := h366.contract is366
def s367 (args : List Value) (h : Heap) : Out :=
  match args with
  | [x0, x1] => if Nat.ble 2 h.n0 = true then t367 (callL [(46, s46), (48, s48), (50, s50), (435, s435)]) x0 x1 h else none
  | _ => none
theorem is367 : IsFn Tryz.prog 367 Tryz.f367 := ⟨by kernel_rfl, by kernel_rfl, by kernel_rfl, by kernel_rfl⟩
theorem h367 : Hold1 367 s367 := by
  intro args h r e
  unfold s367 at e
  split at e
  · split at e
    · rename_i hg
      exact hold_text (C := callL [(46, s46), (48, s48), (50, s50), (435, s435)]) is367 (.cons h46 (.cons h48 (.cons h50 (.cons h435 Holds.nil)))) hg rfl ((t367_eq _ _ _ _).trans e)
    · cases e
  · cases e
theorem c367 : Contract Tryz.prog 367 s367 := h367.contract is367
def s373 (args : List Value) (h : Heap) : Out :=
  match args with
  | [x0] => if Nat.ble 2 h.n0 = true then t373 (callL []) x0 h else none
  | _ => none
theorem is373 : IsFn Tryz.prog 373 Tryz.f373 := ⟨by kernel_rfl, by kernel_rfl, by kernel_rfl, by kernel_rfl⟩
theorem h373 : Hold1 373 s373 := by
  intro args h r e
  unfold s373 at e
  split at e
  · split at e
    · rename_i hg
      exact hold_text (C := callL []) is373 Holds.nil hg rfl ((t373_eq _ _ _).trans e)
    · cases e
  · cases e
theorem c373 : Contract Tryz.prog 373 s373 := h373.contract is373
def s376 (args : List Value) (h : Heap) : Out :=
  match args with
  | [x0] => if Nat.ble 2 h.n0 = true then t376 (callL []) x0 h else none
  | _ => none
theorem is376 : IsFn Tryz.prog 376 Tryz.f376 := ⟨by kernel_rfl, by kernel_rfl, by kernel_rfl, by kernel_rfl⟩
theorem h376 : Hold1 376 s376 := by
  intro args h r e
  unfold s376 at e
  split at e
  · split at e
    · rename_i hg
      exact hold_text (C := callL []) is376 Holds.nil hg rfl ((t376_eq _ _ _).trans e)
    · cases e
  · cases e
theorem c376 : Contract Tryz.prog 376 s376 := h376.contract is376
def s385 (args : List Value) (h : Heap) : Out :=
  match args with
  | [x0] => if Nat.ble 2 h.n0 = true then t385 (callL []) x0 h else none
  | _ => none
theorem is385 : IsFn Tryz.prog 385 Tryz.f385 := ⟨by kernel_rfl, by kernel_rfl, by kernel_rfl, by kernel_rfl⟩
theorem h385 : Hold1 385 s385 := by
  intro args h r e
  unfold s385 at e
  split at e
  · split at e
    · rename_i hg
      exact hold_text (C := callL []) is385 Holds.nil hg rfl ((t385_eq _ _ _).trans e)
    · cases e
  · cases e
theorem c385 : Contract Tryz.prog 385 s385 := h385.contract is385
def s392 (args : List Value) (h : Heap) : Out :=
  match args with
  | [x0] => if Nat.ble 2 h.n0 = true then t392 (callL []) x0 h else none
  | _ => none
theorem is392 : IsFn Tryz.prog 392 Tryz.f392 := ⟨by kernel_rfl, by kernel_rfl, by kernel_rfl, by kernel_rfl⟩
theorem h392 : Hold1 392 s392 := by
  intro args h r e
  unfold s392 at e
  split at e
  · split at e
    · rename_i hg
      exact hold_text (C := callL []) is392 Holds.nil hg rfl ((t392_eq _ _ _).trans e)
    · cases e
  · cases e
theorem c392 : Contract Tryz.prog 392 s392 := h392.contract is392
def s411 (args : List Value) (h : Heap) : Out :=
  match args with
  | [x0] => if Nat.ble 2 h.n0 = true then t411 (callL []) x0 h else none
  | _ => none
theorem is411 : IsFn Tryz.prog 411 Tryz.f411 := ⟨by kernel_rfl, by kernel_rfl, by kernel_rfl, by kernel_rfl⟩
theorem h411 : Hold1 411 s411 := by
  intro args h r e
  unfold s411 at e
  split at e
  · split at e
    · rename_i hg
      exact hold_text (C := callL []) is411 Holds.nil hg rfl ((t411_eq _ _ _).trans e)
    · cases e
  · cases e
theorem c411 : Contract Tryz.prog 411 s411 := h411.contract is411
def s439 (args : List Value) (h : Heap) : Out :=
  match args with
  | [x0] => if Nat.ble 2 h.n0 = true then t439 (callL [(43, s43), (126, s126q)]) x0 h else none
  | _ => none
theorem is439 : IsFn Tryz.prog 439 Tryz.f439 := ⟨by kernel_rfl, by kernel_rfl, by kernel_rfl, by kernel_rfl⟩
theorem h439 : Hold1 439 s439 := by
  intro args h r e
  unfold s439 at e
  split at e
  · split at e
    · rename_i hg
      exact hold_text (C := callL [(43, s43), (126, s126q)]) is439 (.cons h43 (.cons h126q Holds.nil)) hg rfl ((t439_eq _ _ _).trans e)
    · cases e
  · cases e
theorem c439 : Contract Tryz.prog 439 s439 := h439.contract is439
def s42 (args : List Value) (h : Heap) : Out :=
  match args with
  | [x0, x1] => if Nat.ble 2 h.n0 = true then t42 (callL [(91, s91)]) x0 x1 h else none
  | _ => none
theorem is42 : IsFn Tryz.prog 42 Tryz.f42 := ⟨by kernel_rfl, by kernel_rfl, by kernel_rfl, by kernel_rfl⟩
theorem h42 : Hold1 42 s42 := by
  intro args h r e
  unfold s42 at e
  split at e
  · split at e
    · rename_i hg
      exact hold_text (C := callL [(91, s91)]) is42 (.cons h91 Holds.nil) hg rfl ((t42_eq _ _ _ _).trans e)
    · cases e
  · cases e
theorem c42 : Contract Tryz.prog 42 s42 := h42.contract is42
def s66 (args : List Value) (h : Heap) : Out :=
  match args with
  | [x0] => if Nat.ble 2 h.n0 = true then t66 (callL [(114, s114)]) x0 h else none
  | _ => none
theorem is66 : IsFn Tryz.prog 66 Tryz.f66 := ⟨by kernel_rfl, by kernel_rfl, by kernel_rfl, by kernel_rfl⟩
theorem h66 : Hold1 66 s66 := by
  intro args h r e
  unfold s66 at e
  split at e
  · split at e
    · rename_i hg
      exact hold_text (C := callL [(114, s114)]) is66 (.cons h114 Holds.nil) hg rfl ((t66_eq _ _ _).trans e)
    · cases e
  · cases e
theorem c66 : Contract Tryz.prog 66 s66 := h66.contract is66
def s103 (args : List Value) (h : Heap) : Out :=
  match args with
  | [x0] => if Nat.ble 2 h.n0 = true then t103 (callL [(158, s158)]) x0 h else none
  | _ => none
theorem is103 : IsFn Tryz.prog 103 Tryz.f103 := ⟨by kernel_rfl, by kernel_rfl, by kernel_rfl, by kernel_rfl⟩
theorem h103 : Hold1 103 s103 := by
  intro args h r e
  unfold s103 at e
  split at e
  · split at e
    · rename_i hg
      exact hold_text (C := callL [(158, s158)]) is103 (.cons h158 Holds.nil) hg rfl ((t103_eq _ _ _).trans e)
    · cases e
  · cases e
theorem c103 : Contract Tryz.prog 103 s103 := h103.contract is103
def s113 (args : List Value) (h : Heap) : Out :=
  match args with
  | [x0] => if Nat.ble 2 h.n0 = true then t113 (callL [(166, s166)]) x0 h else none
  | _ => none
theorem is113 : IsFn Tryz.prog 113 Tryz.f113 := ⟨by kernel_rfl, by kernel_rfl, by kernel_rfl, by kernel_rfl⟩
theorem h113 : Hold1 113 s113 := by
  intro args h r e
  unfold s113 at e
  split at e
  · split at e
    · rename_i hg
      exact hold_text (C := callL [(166, s166)]) is113 (.cons h166 Holds.nil) hg rfl ((t113_eq _ _ _).trans e)
    · cases e
  · cases e
theorem c113 : Contract Tryz.prog 113 s113 := h113.contract is113
def s233 (args : List Value) (h : Heap) : Out :=
  match args with
  | [x0] => if Nat.ble 2 h.n0 = true then t233 (callL [(318, s318), (319, s319)]) x0 h else none
  | _ => none
theorem is233 : IsFn Tryz.prog 233 Tryz.f233 := ⟨by kernel_rfl, by kernel_rfl, by kernel_rfl, by kernel_rfl⟩
theorem h233 : Hold1 233 s233 := by
  intro args h r e
  unfold s233 at e
  split at e
  · split at e
    · rename_i hg
      exact hold_text (C := callL [(318, s318), (319, s319)]) is233 (.cons h318 (.cons h319 Holds.nil)) hg rfl ((t233_eq _ _ _).trans e)
    · cases e
  · cases e
theorem c233 : Contract Tryz.prog 233 s233 := h233.contract is233
def s272 (args : List Value) (h : Heap) : Out :=
  match args with
  | [x0] => if Nat.ble 2 h.n0 = true then t272 (callL [(347, s347)]) x0 h else none
  | _ => none
theorem is272 : IsFn Tryz.prog 272 Tryz.f272 := ⟨by kernel_rfl, by kernel_rfl, by kernel_rfl, by kernel_rfl⟩
theorem h272 : Hold1 272 s272 := by
  intro args h r e
  unfold s272 at e
  split at e
  · split at e
    · rename_i hg
      exact hold_text (C := callL [(347, s347)]) is272 (.cons h347 Holds.nil) hg rfl ((t272_eq _ _ _).trans e)
    · cases e
  · cases e
theorem c272 : Contract Tryz.prog 272 s272 := h272.contract is272
def s410 (args : List Value) (h : Heap) : Out :=
  match args with
  | [x0] => if Nat.ble 2 h.n0 = true then t410 (callL [(411, s411)]) x0 h else none
  | _ => none
theorem is410 : IsFn Tryz.prog 410 Tryz.f410 := ⟨by kernel_rfl, by kernel_rfl, by kernel_rfl, by kernel_rfl⟩
theorem h410 : Hold1 410 s410 := by
  intro args h r e
  unfold s410 at e
  split at e
  · split at e
    · rename_i hg
      exact hold_text (C := callL [(411, s411)]) is410 (.cons h411 Holds.nil) hg rfl ((t410_eq _ _ _).trans e)
    · cases e
  · cases e
theorem c410 : Contract Tryz.prog 410 s410 := h410.contract is410
def s102 (args : List Value) (h : Heap) : Out :=
  match args with
  | [x0] => if Nat.ble 2 h.n0 = true then t102 (callL [(103, s103)]) x0 h else none
  | _ => none
theorem is102 : IsFn Tryz.prog 102 Tryz.f102 := ⟨by kernel_rfl, by kernel_rfl, by kernel_rfl, by kernel_rfl⟩
theorem h102 : Hold1 102 s102 := by
  intro args h r e
  unfold s102 at e
  split at e
  · split at e
    · rename_i hg
      exact hold_text (C := callL [(103, s103)]) is102 (.cons h103 Holds.nil) hg rfl ((t102_eq _ _ _).trans e)
    · cases e
  · cases e
theorem c102 : Contract Tryz.prog 102 s102 := h102.contract is102
def s172 (args : List Value) (h : Heap) : Out :=
  match args with
  | [x0] => if Nat.ble 2 h.n0 = true then t172 (callL [(233, s233)]) x0 h else none
  | _ => none
theorem is172 : IsFn Tryz.prog 172 Tryz.f172 := ⟨by kernel_rfl, by kernel_rfl, by kernel_rfl, by kernel_rfl⟩
theorem h172 : Hold1 172 s172 := by
  intro args h r e
  unfold s172 at e
  split at e
  · split at e
    · rename_i hg
      exact hold_text (C := callL [(233, s233)]) is172 (.cons h233 Holds.nil) hg rfl ((t172_eq _ _ _).trans e)
    · cases e
  · cases e
theorem c172 : Contract Tryz.prog 172 s172 := h172.contract is172
def s132 (args : List Value) (h : Heap) : Out :=
  match args with
  | [x0] => if Nat.ble 2 h.n0 = true then t132 (callL [(172, s172)]) x0 h else none
  | _ => none
theorem is132 : IsFn Tryz.prog 132 Tryz.f132 := ⟨by kernel_rfl, by kernel_rfl, by kernel_rfl, by kernel_rfl⟩
theorem h132 : Hold1 132 s132 := by
  intro args h r e
  unfold s132 at e
  split at e
  · split at e
    · rename_i hg
      exact hold_text (C := callL [(172, s172)]) is132 (.cons h172 Holds.nil) hg rfl ((t132_eq _ _ _).trans e)
    · cases e
  · cases e
theorem c132 : Contract Tryz.prog 132 s132 := h132.contract is132
def s194 (args : List Value) (h : Heap) : Out :=
  match args with
  | [x0] => if Nat.ble 2 h.n0 = true then t194 (callL [(132, s132)]) x0 h else none
  | _ => none
theorem is194 : IsFn Tryz.prog 194 Tryz.f194 := ⟨by kernel_rfl, by kernel_rfl, by kernel_rfl, by kernel_rfl⟩
theorem h194 : Hold1 194 s194 := by
  intro args h r e
  unfold s194 at e
  split at e
  · split at e
    · rename_i hg
      exact hold_text (C := callL [(132, s132)]) is194 (.cons h132 Holds.nil) hg rfl ((t194_eq _ _ _).trans e)
    · cases e
  · cases e
theorem c194 : Contract Tryz.prog 194 s194 := h194.contract is194
def s112 (args : List Value) (h : Heap) : Out :=
  match args with
  | [x0] => if Nat.ble 2 h.n0 = true then t112 (callL [(132, s132)]) x0 h else none
  | _ => none
theorem is112 : IsFn Tryz.prog 112 Tryz.f112 := ⟨by kernel_rfl, by kernel_rfl, by kernel_rfl, by kernel_rfl⟩
theorem h112 : Hold1 112 s112 := by
  intro args h r e
  unfold s112 at e
  split at e
  · split at e
    · rename_i hg
      exact hold_text (C := callL [(132, s132)]) is112 (.cons h132 Holds.nil) hg rfl ((t112_eq _ _ _).trans e)
    · cases e
  · cases e
theorem c112 : Contract Tryz.prog 112 s112 := h112.contract is112
def s184 (args : List Value) (h : Heap) : Out :=
  match args with
  | [x0] => if Nat.ble 2 h.n0 = true then t184 (callL [(112, s112)]) x0 h else none
  | _ => none
theorem is184 : IsFn Tryz.prog 184 Tryz.f184 := ⟨by kernel_rfl, by kernel_rfl, by kernel_rfl, by kernel_rfl⟩
theorem h184 : Hold1 184 s184 := by
  intro args h r e
  unfold s184 at e
  split at e
  · split at e
    · rename_i hg
      exact hold_text (C := callL [(112, s112)]) is184 (.cons h112 Holds.nil) hg rfl ((t184_eq _ _ _).trans e)
    · cases e
  · cases e
theorem c184 : Contract Tryz.prog 184 s184 := h184.contract is184
def s209 (args : List Value) (h : Heap) : Out :=
  match args with
  | [x0] => if Nat.ble 2 h.n0 = true then t209 (callL [(112, s112)]) x0 h else none
  | _ => none
theorem is209 : IsFn Tryz.prog 209 Tryz.f209 := ⟨by kernel_rfl, by kernel_rfl, by kernel_rfl, by kernel_rfl⟩
theorem h209 : Hold1 209 s209 := by
  intro args h r e
  unfold s209 at e
  split at e
  · split at e
    · rename_i hg
      exact hold_text (C := callL [(112, s112)]) is209 (.cons h112 Holds.nil) hg rfl ((t209_eq _ _ _).trans e)
    · cases e
  · cases e
theorem c209 : Contract Tryz.prog 209 s209 := h209.contract is209
def s63 (args : List Value) (h : Heap) : Out :=
  match args with
  | [x0] => if Nat.ble 2 h.n0 = true then t63 (callL [(112, s112), (113, s113)]) x0 h else none
  | _ => none
theorem is63 : IsFn Tryz.prog 63 Tryz.f63 := ⟨by kernel_rfl, by kernel_rfl, by kernel_rfl, by kernel_rfl⟩
theorem h63 : Hold1 63 s63 := by
  intro args h r e
  unfold s63 at e
  split at e
  · split at e
    · rename_i hg
      exact hold_text (C := callL [(112, s112), (113, s113)]) is63 (.cons h112 (.cons h113 Holds.nil)) hg rfl ((t63_eq _ _ _).trans e)
    · cases e
  · cases e
theorem c63 : Contract Tryz.prog 63 s63 := h63.contract is63
def s65 (args : List Value) (h : Heap) : Out :=
  match args with
  | [x0] => if Nat.ble 2 h.n0 = true then t65 (callL [(66, s66), (112, s112)]) x0 h else none
  | _ => none
theorem is65 : IsFn Tryz.prog 65 Tryz.f65 := ⟨by kernel_rfl, by kernel_rfl, by kernel_rfl, by kernel_rfl⟩
theorem h65 : Hold1 65 s65 := by
  intro args h r e
  unfold s65 at e
  split at e
  · split at e
    · rename_i hg
      exact hold_text (C := callL [(66, s66), (112, s112)]) is65 (.cons h66 (.cons h112 Holds.nil)) hg rfl ((t65_eq _ _ _).trans e)
    · cases e
  · cases e
theorem c65 : Contract Tryz.prog 65 s65 := h65.contract is65
def s88 (args : List Value) (h : Heap) : Out :=
  match args with
  | [x0] => if Nat.ble 2 h.n0 = true then t88 (callL [(112, s112), (132, s132)]) x0 h else none
  | _ => none
theorem is88 : IsFn Tryz.prog 88 Tryz.f88 := ⟨by kernel_rfl, by kernel_rfl, by kernel_rfl, by kernel_rfl⟩
theorem h88 : Hold1 88 s88 := by
  intro args h r e
  unfold s88 at e
  split at e
  · split at e
    · rename_i hg
      exact hold_text (C := callL [(112, s112), (132, s132)]) is88 (.cons h112 (.cons h132 Holds.nil)) hg rfl ((t88_eq _ _ _).trans e)
    · cases e
  · cases e
theorem c88 : Contract Tryz.prog 88 s88 := h88.contract is88
def s130 (args : List Value) (h : Heap) : Out :=
  match args with
  | [x0] => if Nat.ble 2 h.n0 = true then t130 (callL [(184, s184)]) x0 h else none
  | _ => none
theorem is130 : IsFn Tryz.prog 130 Tryz.f130 := ⟨by kernel_rfl, by kernel_rfl, by kernel_rfl, by kernel_rfl⟩
theorem h130 : Hold1 130 s130 := by
  intro args h r e
  unfold s130 at e
  split at e
  · split at e
    · rename_i hg
      exact hold_text (C := callL [(184, s184)]) is130 (.cons h184 Holds.nil) hg rfl ((t130_eq _ _ _).trans e)
    · cases e
  · cases e
theorem c130 : Contract Tryz.prog 130 s130 := h130.contract is130
def s29 (args : List Value) (h : Heap) : Out :=
  match args with
  | [x0, x1] => if Nat.ble 2 h.n0 = true then t29 (callL [(60, s60), (65, s65)]) x0 x1 h else none
  | _ => none
theorem is29 : IsFn Tryz.prog 29 Tryz.f29 := ⟨by kernel_rfl, by kernel_rfl, by kernel_rfl, by kernel_rfl⟩
theorem h29 : Hold1 29 s29 := by
  intro args h r e
  unfold s29 at e
  split at e
  · split at e
    · rename_i hg
      exact hold_text (C := callL [(60, s60), (65, s65)]) is29 (.cons h60 (.cons h65 Holds.nil)) hg rfl ((t29_eq _ _ _ _).trans e)
    · cases e
  · cases e
theorem c29 : Contract Tryz.prog 29 s29 := h29.contract is29
def s31 (args : List Value) (h : Heap) : Out :=
  match args with
  | [x0, x1] => if Nat.ble 2 h.n0 = true then t31 (callL [(60, s60), (88, s88)]) x0 x1 h else none
  | _ => none
theorem is31 : IsFn Tryz.prog 31 Tryz.f31 := ⟨by kernel_rfl, by kernel_rfl, by kernel_rfl, by kernel_rfl⟩
theorem h31 : Hold1 31 s31 := by
  intro args h r e
  unfold s31 at e
  split at e
  · split at e
    · rename_i hg
      exact hold_text (C := callL [(60, s60), (88, s88)]) is31 (.cons h60 (.cons h88 Holds.nil)) hg rfl ((t31_eq _ _ _ _).trans e)
    · cases e
  · cases e
theorem c31 : Contract Tryz.prog 31 s31 := h31.contract is31
def s78 (args : List Value) (h : Heap) : Out :=
  match args with
  | [x0, x1] => if Nat.ble 2 h.n0 = true then t78 (callL [(130, s130)]) x0 x1 h else none
  | _ => none
theorem is78 : IsFn Tryz.prog 78 Tryz.f78 := ⟨by kernel_rfl, by kernel_rfl, by kernel_rfl, by kernel_rfl⟩
theorem h78 : Hold1 78 s78 := by
  intro args h r e
  unfold s78 at e
  split at e
  · split at e
    · rename_i hg
      exact hold_text (C := callL [(130, s130)]) is78 (.cons h130 Holds.nil) hg rfl ((t78_eq _ _ _ _).trans e)
    · cases e
  · cases e
theorem c78 : Contract Tryz.prog 78 s78 := h78.contract is78
end
end Go.Proofs.YtdmnphocgfnlpaaGreatDoor

namespace Go.Proofs.YtdmnphocgfnlpaaGreatDoor
open Go Go.Abs
noncomputable section
theorem nil139 (b o : Nat) : bin Tryz.prog .eql 139 (ptr b o) (.pointer none) = some (.bool false) := by kernel_rfl
theorem arr128 (b off : Nat) : sliceArr 128 1 (ptr b off) none none none = some (.slice (some ⟨b, off, none⟩) 128 128) := rfl
def z8 : Value := .int .u8 0
theorem zerosZ (n : Nat) : zeros [z8] n = List.replicate n z8 := by
  unfold zeros
  induction n with
  | zero => rfl
  | succ n ih => rw [List.range_succ, List.flatMap_append, ih, List.replicate_succ']; rfl
theorem mkZ {h : Heap} {c : Nat} (hc : c ≤ 281474976710656) : mkR 1 1 z8 (i64n 0) (i64n c) h = some (.slice (some ⟨h.next, 0, none⟩) 0 c, h.alloc (List.replicate c z8)) := by
  have e : z8.cells = #[z8] := rfl
  unfold mkR
  simp only [e, i64n]
  rw [if_pos (by
    simp only [Bool.and_eq_true, decide_eq_true_eq, beq_iff_eq]
    refine ⟨⟨⟨⟨⟨⟨by omega, by omega⟩, by omega⟩, by omega⟩, rfl⟩, rfl⟩, by decide⟩)]
  rw [Int.toNat_natCast, Int.toNat_natCast, zerosZ]
theorem append_cells {h : Heap} {b len cap n c : Nat} {a : Option Addr} {k l : List Value} (hb : h.get b = some k) (h0 : h.n0 ≤ b) (hf : firstA 1 n (.slice a n c) h = some l) (hl : l.length = n) (ho : oneCells l = true) (hn : 0 < n)
    (hroom : len + n ≤ cap) (hlen : len + n ≤ k.length) (hcap : cap ≤ 140737488355328) : appendA 1 1 (.slice (some ⟨b, 0, none⟩) len cap) (.slice a n c) h = some (.slice (some ⟨b, 0, none⟩) (len + n) cap, h.set b (splice k len l)) := by
  unfold appendA
  simp only [lenA]
  rw [hf]
  simp only [ho, Bool.not_true, Bool.false_or]
  rw [if_neg (by
    simp only [Bool.or_eq_true, Bool.not_eq_true', decide_eq_false_iff_not, decide_eq_true_eq, not_or, Nat.not_le]
    exact ⟨⟨by omega, by omega⟩, by omega⟩), if_pos hroom, if_neg (by omega)]
  unfold stL
  simp only [hb]
  rw [if_pos (by simp only [ho, Bool.and_true, Bool.and_eq_true, decide_eq_true_eq]; exact ⟨h0, by omega⟩), Nat.mul_one, Nat.zero_add]
  rfl
theorem all_sub {p : Value → Bool} {k : List Value} (h : k.all p = true) (o n : Nat) : ((k.drop o).take n).all p = true :=
  List.all_eq_true.2 fun x hx => List.all_eq_true.1 h x (List.mem_of_mem_drop (List.mem_of_mem_take hx))
/-- A disk's header and its blocks. -/
structure Dq (h : Heap) (d bb n : Nat) (k : List Value) : Prop where
  hd : ∃ r, h.get d = some (.slice (some ⟨bb, 0, none⟩) n n :: r)
  img : h.get bb = some k
  len : k.length = 128 * n
  small : n ≤ 4096
  one : oneCells k = true
  hole : noHoles k = true
theorem Dq.mono {h g : Heap} {d bb n : Nat} {k : List Value} (x : Dq h d bb n k) (h1 : g.get d = h.get d) (h2 : g.get bb = h.get bb) : Dq g d bb n k := by
  obtain ⟨r, hr⟩ := x.hd
  exact ⟨⟨r, h1.trans hr⟩, h2.trans x.img, x.len, x.small, x.one, x.hole⟩
theorem Dq.l0 {h : Heap} {d bb n : Nat} {k : List Value} (x : Dq h d bb n k) : ld1 (ptr d 0) h = some (.slice (some ⟨bb, 0, none⟩) n n, h) := by
  obtain ⟨r, hr⟩ := x.hd
  exact ld1_at hr rfl
theorem Dq.blk {h : Heap} {d bb n : Nat} {k : List Value} (x : Dq h d bb n k) {i : Nat} (hi : i < n) : firstA 1 128 (.slice (some ⟨bb, i * 128, none⟩) 128 128) h = some ((k.drop (i * 128)).take 128) := by
  have := x.len
  unfold firstA
  simp only [Nat.mul_one, x.img]
  rw [if_neg (by decide), if_pos ⟨by omega, all_sub x.hole _ _⟩]
theorem t86_is (C : CallF) {d bb n : Nat} {k : List Value} {h : Heap} (x : Dq h d bb n k) : ∃ g, t86 C (ptr d 0) h = some (.slice (some ⟨h.next, 0, none⟩) (128 * n) (128 * n), g) ∧ g.n0 = h.n0 ∧ g.getB h.next = some (.cells k) ∧ ∀ c, c ≠ h.next → g.getB c = h.getB c := by
  have hlen := x.len
  have hsm := x.small
  obtain ⟨r0, hr0⟩ := x.hd
  have hdl := h.lt_of_get hr0
  have hbl := h.lt_of_get x.img
  have hw : IntKind.wrap .i64 ((n : Int) * 128) = ((128 * n : Nat) : Int) := by
    rw [wrap_i64 (by omega) (by omega)]
    omega
  have hmk := mkZ (h := h) (c := 128 * n) (by omega)
  have x0 : Dq (h.alloc (List.replicate (128 * n) z8)) d bb n k := x.mono (by rw [Heap.get_alloc, if_neg (by omega)]) (by rw [Heap.get_alloc, if_neg (by omega)])
  have hg0 : (h.alloc (List.replicate (128 * n) z8)).get h.next = some (List.replicate (128 * n) z8) := by rw [Heap.get_alloc, if_pos rfl]
  unfold t86
  simp -implicitDefEqProofs only [thenV_some, nil139, pu_some, nilCheck_ptr, addP_ptr, Nat.zero_add, x.l0, lenL_slice, bin_mul, hw]
  rw [show (Value.int .i64 0) = i64n 0 from rfl, show (Value.int .u8 0) = z8 from rfl, show (Value.int .i64 ((128 * n : Nat) : Int)) = i64n (128 * n) from rfl, hmk]
  simp -implicitDefEqProofs only [thenV_some, pu_some, nilCheck_ptr, addP_ptr, Nat.zero_add, x0.l0, lenL_slice]
  refine endL_fin (n := 33) (Q := fun o : Out => ∃ g, o = some (Value.slice (some ⟨h.next, 0, none⟩) (128 * n) (128 * n), g) ∧ g.n0 = h.n0 ∧ g.getB h.next = some (.cells k) ∧ ∀ c, c ≠ h.next → g.getB c = h.getB c)
    (fin := fun ex y g => ex = .exit 0 ∧ y 3 = .slice (some ⟨h.next, 0, none⟩) (128 * n) (128 * n) ∧ g.n0 = h.n0 ∧ g.get h.next = some k ∧ ∀ c, c ≠ h.next → g.getB c = h.getB c)
    (loop_fin (t86l86_111010_eq C)
    (Inv := fun j y g => j ≤ n ∧ y 0 = ptr d 0 ∧ y 3 = .slice (some ⟨h.next, 0, none⟩) (128 * (n - j)) (128 * n) ∧ y 18 = i64n n ∧ y 19 = i64n (n - j) ∧
      g.get h.next = some (k.take (128 * (n - j)) ++ List.replicate (128 * j) z8) ∧ g.n0 = h.n0 ∧ g.next = h.next + 1 ∧ ∀ c, c ≠ h.next → g.getB c = h.getB c) ?_ n (by have : rounds = 18446744073709551616 := rfl; omega)
      ⟨Nat.le_refl _, rfl, by rw [Nat.sub_self]; rfl, rfl, by rw [Nat.sub_self]; rfl, by rw [Nat.sub_self, hg0]; simp, rfl, rfl, fun c hc => by rw [Heap.getB_alloc, if_neg hc]⟩) ?_
  · rintro j y g ⟨hj, i0, i3, i18, i19, ig, in0, inx, io⟩
    have ioc : ∀ c, c ≠ h.next → g.get c = h.get c := fun c hc => by unfold Heap.get; rw [io c hc]
    have xg : Dq g d bb n k := x.mono (ioc d (by omega)) (ioc bb (by omega))
    unfold t86l86_111010
    simp -implicitDefEqProofs only [i18, i19, i64n, bin_lss, pu_some, thenV_some]
    by_cases hz : j = 0
    · subst hz
      simp -implicitDefEqProofs only [Nat.sub_zero, Int.lt_irrefl, decide_false]
      refine Rnd.out 0 ⟨rfl, by simp only [up_cons, up_nil, Nat.reduceEqDiff, if_false, i3, Nat.sub_zero], in0, ?_, io⟩
      rw [ig, Nat.sub_zero, List.take_of_length_le (by omega)]; simp
    · have hlt : ((n - j : Nat) : Int) < (n : Int) := by omega
      have hix : idxS 128 (.slice (some ⟨bb, 0, none⟩) n n) (.int .i64 ((n - j : Nat) : Int)) = some (ptr bb ((n - j) * 128)) := by
        unfold idxS
        simp only
        rw [if_pos (by omega), Int.toNat_natCast, Nat.zero_add]
      have hcl : ((k.drop ((n - j) * 128)).take 128).length = 128 := by simp; omega
      have ha := append_cells (b := h.next) (len := 128 * (n - j)) (cap := 128 * n) ig (by rw [in0]; exact h.n0_le_next) (xg.blk (i := n - j) (by omega)) hcl (all_sub xg.one _ _) (by decide) (by omega)
        (by simp; omega) (by omega)
      simp -implicitDefEqProofs only [decide_eq_true hlt, thenV_some, i3, i0, nilCheck_ptr, pu_some, addP_ptr, Nat.zero_add, xg.l0, hix, arr128, ha, bin_add]
      refine Rnd.next (j - 1) (by omega) ⟨by omega, ?_⟩
      have e1 : n - (j - 1) = n - j + 1 := by omega
      simp only [up_cons, up_nil, Nat.reduceEqDiff, if_false, if_true, i0, i18, true_and, e1]
      refine ⟨by rw [Nat.mul_add], ?_, ?_, in0, inx, fun c hc => (Heap.getB_set_other (by rw [in0]; exact h.n0_le_next) (by omega) _ hc).trans (io c hc)⟩
      · rw [wrap_i64 (by omega) (by omega)]; rfl
      · rw [Heap.get_set_same (by rw [in0]; exact h.n0_le_next) ig]
        refine congrArg some ?_
        have m1 : (k.take (128 * (n - j))).length = 128 * (n - j) := by simp; omega
        unfold splice
        rw [hcl, List.take_left' m1, List.drop_append, m1]
        have m3 : List.drop (128 * (n - j) + 128) (List.take (128 * (n - j)) k) = [] := List.drop_eq_nil_of_le (by rw [m1]; omega)
        have m4 : 128 * j - (128 * (n - j) + 128 - 128 * (n - j)) = 128 * (j - 1) := by omega
        have m5 : 128 * (n - j + 1) = 128 * (n - j) + 128 := by omega
        rw [m3, List.nil_append, List.drop_replicate, m4, m5, List.take_add, Nat.mul_comm 128 (n - j)]
  · rintro ex z g ⟨rfl, z3, zn, zg, zo⟩
    simp -implicitDefEqProofs only [endL_exit, b86_7, if_true, t86k86_5_eq]
    unfold t86k86_5
    simp -implicitDefEqProofs only [z3, thenV_some]
    exact ⟨g, rfl, zn, Heap.getB_of_get _ zg, zo⟩
/-- Image of a disk. -/
def s86 (args : List Value) (h : Heap) : Out :=
  match args with
  | [.pointer (some ⟨d, 0, none⟩)] => match h.get d with
    | some (.slice (some ⟨bb, 0, none⟩) n c :: _) => match h.get bb with
      | some k => match Nat.beq n c && (Nat.ble n 4096 && intRow (Nat.mul 128 n) k) with
        | true => some (.slice (some ⟨h.next, 0, none⟩) (128 * n) (128 * n), h.alloc k)
        | false => none
      | none => none
    | _ => none
  | _ => none
theorem is86 : IsFn Tryz.prog 86 Tryz.f86 := ⟨by kernel_rfl, by kernel_rfl, by kernel_rfl, by kernel_rfl⟩
theorem c86 : Contract Tryz.prog 86 s86 := by
  have key : ∀ args h v h', s86 args h = some (v, h') → ∃ d bb n k, args = [ptr d 0] ∧ Dq h d bb n k ∧ v = .slice (some ⟨h.next, 0, none⟩) (128 * n) (128 * n) ∧ h' = h.alloc k := by
    intro args h v h' e
    unfold s86 at e
    split at e
    · rename_i d
      split at e
      · rename_i bb n c r hr
        split at e
        · rename_i k hk
          split at e
          · rename_i hc
            cases e
            simp only [Bool.and_eq_true] at hc
            obtain ⟨h1, h2, h3⟩ := hc
            have h1 := Nat.eq_of_beq_eq_true h1
            subst h1
            obtain ⟨a1, a2, a3⟩ := intRow_eq _ _ h3
            exact ⟨d, bb, n, k, rfl, ⟨⟨r, hr⟩, hk, a1, Nat.le_of_ble_eq_true h2, a2, a3⟩, rfl, rfl⟩
          · cases e
        · cases e
      · cases e
    · cases e
  refine .mk' (C := callL []) (callL_sound [] (by simp)) mixed is86 ?_ ?_
  · intro args h v h' e
    obtain ⟨d, bb, n, k, rfl, x, rfl, rfl⟩ := key _ _ _ _ e
    refine ⟨Grow.alloc _ _, fun _ hb => ⟨by simp [bdV], hb.alloc ?_⟩⟩
    exact bdL_mono (Nat.le_succ _) (hb _ _ x.img)
  · intro args h v h' e _ hh
    obtain ⟨d, bb, n, k, rfl, x, rfl, rfl⟩ := key _ _ _ _ e
    obtain ⟨g, h1, h2, h3, h4⟩ := t86_is (callL []) x
    refine ⟨_, g, id, (t86_eq _ _ _).trans h1, .sub (by simp [bdV]) (hh.alloc (bdL_mono (Nat.le_succ _) (hh _ _ x.img))) (fun b q _ hb => ?_)⟩
    rw [Heap.getB_alloc] at hb
    split at hb
    · rename_i e; subst e; rw [h3]; exact hb
    · rename_i e; rw [h4 b e]; exact hb
end
end Go.Proofs.YtdmnphocgfnlpaaGreatDoor

namespace Go.Proofs.YtdmnphocgfnlpaaGreatDoor
open Go Go.Abs
end Go.Proofs.YtdmnphocgfnlpaaGreatDoor

namespace Go.Proofs.YtdmnphocgfnlpaaGreatDoor
open Go Go.Abs
end Go.Proofs.YtdmnphocgfnlpaaGreatDoor

