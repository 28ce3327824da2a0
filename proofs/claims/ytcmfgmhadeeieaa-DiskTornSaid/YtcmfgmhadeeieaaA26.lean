/-
  The abstract machine: bit operations on natural numbers.
  Conditions: as each theorem states.
-/
import Derived.Test.YtcmfgmhadeeieaaA25
namespace Go.Abs

theorem ofInt_natCast (w n : Nat) : BitVec.ofInt w (n : Int) = BitVec.ofNat w n := by simp

section
variable (P : Program) (t : TypeId)
theorem bits_u {k : IntKind} (hk : k.signed = false) (n : Nat) (hn : n < 2 ^ k.bits) : IntKind.wrap k (n : Int) = n := by
  unfold IntKind.wrap
  simp only [hk, Bool.false_and, Bool.false_eq_true, if_false]
  have : ((2 : Int) ^ k.bits) = ((2 ^ k.bits : Nat) : Int) := by simp
  rw [this, ← Int.natCast_emod, Nat.mod_eq_of_lt hn]

theorem bin_xor_nat {k : IntKind} (hk : k.signed = false) {a b : Nat} (ha : a < 2 ^ k.bits) (hb : b < 2 ^ k.bits) : bin P .xor t (.int k a) (.int k b) = some (.int k ((a ^^^ b : Nat) : Int)) := by
  rw [bin_int]
  simp only [binI, ne_eq, not_true, if_false, bitsA, ofInt_natCast, BitVec.toNat_xor, BitVec.toNat_ofNat, Nat.mod_eq_of_lt ha, Nat.mod_eq_of_lt hb]
  rw [bits_u hk _ (Nat.xor_lt_two_pow ha hb)]
theorem bin_and_nat {k : IntKind} (hk : k.signed = false) {a b : Nat} (ha : a < 2 ^ k.bits) (hb : b < 2 ^ k.bits) : bin P .and t (.int k a) (.int k b) = some (.int k ((a &&& b : Nat) : Int)) := by
  rw [bin_int]
  simp only [binI, ne_eq, not_true, if_false, bitsA, ofInt_natCast, BitVec.toNat_and, BitVec.toNat_ofNat, Nat.mod_eq_of_lt ha, Nat.mod_eq_of_lt hb]
  rw [bits_u hk _ (Nat.and_lt_two_pow a hb)]
theorem bin_or_nat {k : IntKind} (hk : k.signed = false) {a b : Nat} (ha : a < 2 ^ k.bits) (hb : b < 2 ^ k.bits) : bin P .or t (.int k a) (.int k b) = some (.int k ((a ||| b : Nat) : Int)) := by
  rw [bin_int]
  simp only [binI, ne_eq, not_true, if_false, bitsA, ofInt_natCast, BitVec.toNat_or, BitVec.toNat_ofNat, Nat.mod_eq_of_lt ha, Nat.mod_eq_of_lt hb]
  rw [bits_u hk _ (Nat.or_lt_two_pow ha hb)]
theorem bin_shr_nat {k k' : IntKind} {a b : Nat} (hb : b ≤ k.bits) : bin P .shr t (.int k a) (.int k' b) = some (.int k ((a / 2 ^ b : Nat) : Int)) := by
  rw [bin_int]
  have h1 : ¬ ((b : Int) < 0) := by omega
  simp only [binI, h1, if_false, Int.toNat_natCast, Nat.min_eq_left hb]
  have : ((2 : Int) ^ b) = ((2 ^ b : Nat) : Int) := by simp
  rw [this, Int.fdiv_eq_ediv_of_nonneg _ (Int.natCast_nonneg _)]
  rfl
end
end Go.Abs
