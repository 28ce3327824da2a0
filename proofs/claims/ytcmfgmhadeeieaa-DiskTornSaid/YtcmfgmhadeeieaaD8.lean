/-
  Strings out of bytes; bytes stored one by one; booleans compared.
  Conditions: as each theorem states.
-/
import Derived.Test.YtcmfgmhadeeieaaD7
namespace Go.Proofs.Ytcmfgmhadeeieaa
open Go Go.Abs

def strOf (l : List Nat) : ByteArray := ⟨(l.map UInt8.ofNat).toArray⟩
theorem mapM_asByte : ∀ {l : List Nat}, (l.map u8).mapM asByte = some (l.map UInt8.ofNat)
  | [] => rfl
  | n :: l => by
    have ih := mapM_asByte (l := l)
    rw [List.map_cons, List.mapM_cons, ih]
    rfl
theorem cvBS_at {a : Option Addr} {n c : Nat} {h : Heap} {l : List Nat} (e : sliceBytes a n h = some l) : cvBS (.slice a n c) h = some (.string (strOf l), h) := by
  have hl := (sliceBytes_spec e).1
  have hf := firstA_of e (Nat.le_refl n) (c := c)
  rw [List.take_of_length_le (by omega)] at hf
  unfold cvBS bsR
  simp only [hf, mapM_asByte]
  rfl
theorem bin_str_eql (t : TypeId) (a b : ByteArray) : bin Try.prog .eql t (.string a) (.string b) = some (.bool (a.toList == b.toList)) := by
  unfold bin binA
  rfl
theorem bin_str_neq (t : TypeId) (a b : ByteArray) : bin Try.prog .neq t (.string a) (.string b) = some (.bool (!(a.toList == b.toList))) := by
  unfold bin binA
  rfl

theorem st_byte {h : Heap} {b o : Nat} {l : List Nat} {v : Nat} (hg : h.get b = some (l.map u8)) (ho : o < l.length) (hn : h.n0 ≤ b) : stN 1 (ptr b o) (u8 v) h = some (undef, h.set b ((l.set o v).map u8)) := by
  rw [stN1_at hg (by simpa using ho) hn rfl rfl, List.map_set]

theorem sliceBytes_at {h : Heap} {b off n : Nat} {s : Option Nat} {l : List Nat} (hg : h.get b = some (l.map u8)) (hl : off + n ≤ l.length) (hb : ∀ x ∈ l, x < 256) : sliceBytes (some ⟨b, off, s⟩) n h = some ((l.drop off).take n) := by
  unfold sliceBytes
  rw [Option.bind_eq_some_iff]
  refine ⟨((l.drop off).take n).map u8, ?_, bytesOf_map (fun y hy => hb y (List.mem_of_mem_drop (List.mem_of_mem_take hy)))⟩
  simp only [firstA, hg, Nat.mul_one]
  by_cases h0 : n = 0
  · rw [if_pos h0, h0]; rfl
  · rw [if_neg h0, if_pos (by simpa using hl)]
    simp
end Go.Proofs.Ytcmfgmhadeeieaa
