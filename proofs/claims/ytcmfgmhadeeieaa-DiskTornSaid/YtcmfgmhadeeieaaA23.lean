/-
  The abstract machine: rules for reading the printed texts.
  Conditions: none (lemmas).
-/
import Derived.Test.YtcmfgmhadeeieaaA22
namespace Go.Abs

@[simp] theorem thenV_some {α : Type} (v : Value) (h : Heap) (k : Value → Heap → Option α) : thenV (some (v, h)) k = k v h := rfl
@[simp] theorem thenV_none {α : Type} (k : Value → Heap → Option α) : thenV none k = none := rfl
@[simp] theorem pu_some (v : Value) (h : Heap) : pu (some v) h = some (v, h) := rfl
@[simp] theorem guardK_true (o : Out) (h : Heap) : guardK true o h = o := rfl
@[simp] theorem guardK_false (o : Out) (h : Heap) : guardK false o h = some (undef, h) := rfl
@[simp] theorem bOf_bool (b : Bool) : bOf (.bool b) = some b := rfl
@[simp] theorem bOf_undef : bOf undef = none := rfl
@[simp] theorem endL_ret {α : Type} (e : Env) (h : Heap) (r : Env → Heap → Option α) (x : Nat → Env → Heap → Option α) : endL (some (.ret, e, h)) r x = r e h := rfl
@[simp] theorem endL_exit {α : Type} (i : Nat) (e : Env) (h : Heap) (r : Env → Heap → Option α) (x : Nat → Env → Heap → Option α) : endL (some (.exit i, e, h)) r x = x i e h := rfl
@[simp] theorem nilCheck_ptr (b o : Nat) : nilCheckA (ptr b o) = some (ptr b o) := rfl
@[simp] theorem addP_ptr (b o n : Nat) : addP (ptr b o) n = some (ptr b (o + n)) := rfl
@[simp] theorem lenL_slice (p : Option Addr) (n c : Nat) : lenL (.slice p n c) = some (.int .i64 n) := rfl
@[simp] theorem lenS_string (s : ByteArray) : lenS (.string s) = some (.int .i64 s.size) := rfl
@[simp] theorem unA_not (b : Bool) : unA .not (.bool b) = some (.bool !b) := rfl
@[simp] theorem extractA_tuple (vs : Array Value) (i : Nat) : extractA (.tuple vs) i = vs[i]? := rfl
@[simp] theorem cvI_int (k j : IntKind) (n : Int) (h : Heap) : cvI k (.int j n) h = some (.int k (k.wrap n), h) := rfl

section
variable (P : Program) (t : TypeId) (k : IntKind) (a b : Int)
theorem bin_int (op : BinOp) (k' : IntKind) : bin P op t (.int k a) (.int k' b) = binI op k k' a b := by cases op <;> rfl
@[simp] theorem bin_add : bin P .add t (.int k a) (.int k b) = some (.int k (k.wrap (a + b))) := by rw [bin_int]; simp [binI]
@[simp] theorem bin_sub : bin P .sub t (.int k a) (.int k b) = some (.int k (k.wrap (a - b))) := by rw [bin_int]; simp [binI]
@[simp] theorem bin_mul : bin P .mul t (.int k a) (.int k b) = some (.int k (k.wrap (a * b))) := by rw [bin_int]; simp [binI]
theorem bin_quo (hb : b ≠ 0) : bin P .quo t (.int k a) (.int k b) = some (.int k (k.wrap (a.tdiv b))) := by rw [bin_int]; simp [binI, hb]
theorem bin_rem (hb : b ≠ 0) : bin P .rem t (.int k a) (.int k b) = some (.int k (a.tmod b)) := by rw [bin_int]; simp [binI, hb]
@[simp] theorem bin_eql : bin P .eql t (.int k a) (.int k b) = some (.bool (a == b)) := by rw [bin_int]; simp [binI]
@[simp] theorem bin_neq : bin P .neq t (.int k a) (.int k b) = some (.bool (a != b)) := by rw [bin_int]; simp [binI]
@[simp] theorem bin_lss : bin P .lss t (.int k a) (.int k b) = some (.bool (decide (a < b))) := by rw [bin_int]; simp [binI]
@[simp] theorem bin_leq : bin P .leq t (.int k a) (.int k b) = some (.bool (decide (a ≤ b))) := by rw [bin_int]; simp [binI]
@[simp] theorem bin_gtr : bin P .gtr t (.int k a) (.int k b) = some (.bool (decide (a > b))) := by rw [bin_int]; simp [binI]
@[simp] theorem bin_geq : bin P .geq t (.int k a) (.int k b) = some (.bool (decide (a ≥ b))) := by rw [bin_int]; simp [binI]
end

theorem ld1_at {h : Heap} {b o : Nat} {k : Blk} {c : Value} (hg : h.get b = some k) (hc : k[o]? = some c) : ld1 (ptr b o) h = some (c, h) := by
  unfold ld1 ptr
  simp only [hg, hc]
theorem ldN_at {h : Heap} {b o n : Nat} {k : Blk} (hg : h.get b = some k) (hc : o + n ≤ k.length) : ldN n (ptr b o) h = some (.agg ((k.drop o).take n).toArray, h) := by
  unfold ldN ptr
  simp only [hg, hc, if_true]

/-- A loop by what stands before each round: k rounds are still to come. -/
theorem iter_inv {step : Env → Heap → Option (Ex × Env × Heap)} {Inv : Nat → Env → Heap → Prop} {fin : Ex → Env → Heap → Prop}
    (hs : ∀ k e h, Inv k e h → ∃ x e' h', step e h = some (x, e', h') ∧ ((x = .normal ∧ ∃ j, j < k ∧ Inv j e' h') ∨ (x ≠ .normal ∧ fin x e' h'))) :
    ∀ (k n : Nat) (e : Env) (h : Heap), k < n → Inv k e h → ∃ x e' h', iter step n e h = some (x, e', h') ∧ fin x e' h' := by
  intro k
  induction k using Nat.strongRecOn with
  | _ k ih =>
    intro n e h hn hi
    obtain ⟨m, rfl⟩ : ∃ m, n = m + 1 := ⟨n - 1, by omega⟩
    obtain ⟨x, e', h', h1, h2 | h2⟩ := hs k e h hi
    · obtain ⟨rfl, j, hj, hi2⟩ := h2
      obtain ⟨x, e2, h3, h4, h5⟩ := ih j hj m e' h' (by omega) hi2
      exact ⟨x, e2, h3, by simp only [iter, h1]; exact h4, h5⟩
    · refine ⟨x, e', h', ?_, h2.2⟩
      simp only [iter, h1]
      cases x with
      | normal => exact absurd rfl h2.1
      | ret => rfl
      | exit i => rfl

theorem wrap_i64_if (x : Int) : IntKind.wrap .i64 x = if 9223372036854775808 ≤ x % 18446744073709551616 then x % 18446744073709551616 - 18446744073709551616 else x % 18446744073709551616 := by
  unfold IntKind.wrap
  simp [IntKind.bits, IntKind.signed]
theorem wrap_i64 {x : Int} (h1 : -9223372036854775808 ≤ x) (h2 : x ≤ 9223372036854775807) : IntKind.wrap .i64 x = x := by
  rw [wrap_i64_if]
  split <;> omega
theorem wrap_u64 {x : Int} (h1 : 0 ≤ x) (h2 : x < 18446744073709551616) : IntKind.wrap .u64 x = x := by
  simp only [IntKind.wrap, IntKind.bits, IntKind.signed, Bool.false_and, Bool.false_eq_true, if_false]
  omega
theorem wrap_u32 {x : Int} (h1 : 0 ≤ x) (h2 : x < 4294967296) : IntKind.wrap .u32 x = x := by
  simp only [IntKind.wrap, IntKind.bits, IntKind.signed, Bool.false_and, Bool.false_eq_true, if_false]
  omega
theorem wrap_u16 {x : Int} (h1 : 0 ≤ x) (h2 : x < 65536) : IntKind.wrap .u16 x = x := by
  simp only [IntKind.wrap, IntKind.bits, IntKind.signed, Bool.false_and, Bool.false_eq_true, if_false]
  omega
theorem wrap_u8 {x : Int} (h1 : 0 ≤ x) (h2 : x < 256) : IntKind.wrap .u8 x = x := by
  simp only [IntKind.wrap, IntKind.bits, IntKind.signed, Bool.false_and, Bool.false_eq_true, if_false]
  omega
theorem wrap_u8_mod (x : Int) : IntKind.wrap .u8 x = x % 256 := by
  simp only [IntKind.wrap, IntKind.bits, IntKind.signed, Bool.false_and, Bool.false_eq_true, if_false]
  omega
theorem wrap_u32_mod (x : Int) : IntKind.wrap .u32 x = x % 4294967296 := by
  simp only [IntKind.wrap, IntKind.bits, IntKind.signed, Bool.false_and, Bool.false_eq_true, if_false]
  omega
theorem wrap_u64_mod (x : Int) : IntKind.wrap .u64 x = x % 18446744073709551616 := by
  simp only [IntKind.wrap, IntKind.bits, IntKind.signed, Bool.false_and, Bool.false_eq_true, if_false]
  omega
theorem wrap_u16_mod (x : Int) : IntKind.wrap .u16 x = x % 65536 := by
  simp only [IntKind.wrap, IntKind.bits, IntKind.signed, Bool.false_and, Bool.false_eq_true, if_false]
  omega
end Go.Abs
