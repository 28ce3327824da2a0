/-
  The device: Down, Blocks, Arm, Write, Read.
  Conditions: as each theorem states.
-/
import Derived.Test.YtcmfgmhadeeieaaD4
namespace Go.Proofs.Ytcmfgmhadeeieaa
open Go Go.Abs

/-- Down. -/
noncomputable def s36 : List Value → Heap → Out
  | [.pointer none], h => some (.bool false, h)
  | [.pointer (some ⟨d, 0, none⟩)], h => match dkOf h d with
    | some D => some (.bool D.down, h)
    | none => none
  | _, _ => none
theorem s36_at {h : Heap} {d : Nat} {D : Dk} (a : IsDk h d D) : s36 [ptr d 0] h = some (.bool D.down, h) := by
  unfold s36 ptr
  simp only [a.of]
theorem t36_nil (C : CallF) (h : Heap) : t36 C (.pointer none) h = some (.bool false, h) := by
  unfold t36
  simp -implicitDefEqProofs only [thenV_some, nil27n', pu_some, bOf_bool, fs, guardK_false, Bool.false_eq_true, if_false]
theorem t36_is (C : CallF) {d : Nat} {D : Dk} {h : Heap} (a : IsDk h d D) : t36 C (ptr d 0) h = some (.bool D.down, h) := by
  unfold t36
  simp -implicitDefEqProofs only [thenV_some, nil27n, pu_some, bOf_bool, beq_self_eq_true, guardK_true, nilCheck_ptr, addP_ptr, Nat.zero_add, a.l1, if_true]
theorem is36 : IsFn Try.prog 36 Try.f36 := ⟨by kernel_rfl, by kernel_rfl, by kernel_rfl, by kernel_rfl⟩
theorem c36 : Contract Try.prog 36 s36 := by
  have key : ∀ args h v h', s36 args h = some (v, h') → (args = [.pointer none] ∧ v = .bool false ∧ h' = h) ∨ ∃ d D, args = [ptr d 0] ∧ IsDk h d D ∧ v = .bool D.down ∧ h' = h := by
    intro args h v h' e
    unfold s36 at e
    split at e
    · cases e; exact .inl ⟨rfl, rfl, rfl⟩
    · split at e
      · cases e; exact .inr ⟨_, _, rfl, dkOf_spec (by assumption), rfl, rfl⟩
      · cases e
    · cases e
  refine onDisk (callL_sound [] (by simp)) is36 ?_ ?_
  · intro args h v h' e
    rcases key _ _ _ _ e with ⟨rfl, rfl, rfl⟩ | ⟨d, D, rfl, a, rfl, rfl⟩
    · exact ⟨fun _ => rfl, .inl rfl⟩
    · exact ⟨fun _ => rfl, .inl rfl⟩
  · intro args h v h' e _ _
    rcases key _ _ _ _ e with ⟨rfl, rfl, rfl⟩ | ⟨d, D, rfl, a, rfl, rfl⟩
    · exact ⟨h', (t36_eq _ _ _).trans (t36_nil _ _), fun _ _ _ h => h⟩
    · exact ⟨h', (t36_eq _ _ _).trans (t36_is _ a), fun _ _ _ h => h⟩

/-- Blocks. -/
noncomputable def s50 : List Value → Heap → Out
  | [.pointer none], h => some (.int .i64 0, h)
  | [.pointer (some ⟨d, 0, none⟩)], h => match dkOf h d with
    | some D => some (i64n D.n, h)
    | none => none
  | _, _ => none
theorem s50_at {h : Heap} {d : Nat} {D : Dk} (a : IsDk h d D) : s50 [ptr d 0] h = some (i64n D.n, h) := by
  unfold s50 ptr
  simp only [a.of]
theorem t50_nil (C : CallF) (h : Heap) : t50 C (.pointer none) h = some (.int .i64 0, h) := by
  unfold t50
  simp -implicitDefEqProofs only [thenV_some, nil27e', pu_some]
theorem t50_is (C : CallF) {d : Nat} {D : Dk} {h : Heap} (a : IsDk h d D) : t50 C (ptr d 0) h = some (i64n D.n, h) := by
  unfold t50
  simp -implicitDefEqProofs only [thenV_some, nil27e, pu_some, nilCheck_ptr, addP_ptr, Nat.zero_add, a.l0, lenL_slice]
theorem is50 : IsFn Try.prog 50 Try.f50 := ⟨by kernel_rfl, by kernel_rfl, by kernel_rfl, by kernel_rfl⟩
theorem c50 : Contract Try.prog 50 s50 := by
  have key : ∀ args h v h', s50 args h = some (v, h') → (args = [.pointer none] ∧ v = .int .i64 0 ∧ h' = h) ∨ ∃ d D, args = [ptr d 0] ∧ IsDk h d D ∧ v = i64n D.n ∧ h' = h := by
    intro args h v h' e
    unfold s50 at e
    split at e
    · cases e; exact .inl ⟨rfl, rfl, rfl⟩
    · split at e
      · cases e; exact .inr ⟨_, _, rfl, dkOf_spec (by assumption), rfl, rfl⟩
      · cases e
    · cases e
  refine onDisk (callL_sound [] (by simp)) is50 ?_ ?_
  · intro args h v h' e
    rcases key _ _ _ _ e with ⟨rfl, rfl, rfl⟩ | ⟨d, D, rfl, a, rfl, rfl⟩
    · exact ⟨fun _ => rfl, .inl rfl⟩
    · exact ⟨fun _ => rfl, .inl rfl⟩
  · intro args h v h' e _ _
    rcases key _ _ _ _ e with ⟨rfl, rfl, rfl⟩ | ⟨d, D, rfl, a, rfl, rfl⟩
    · exact ⟨h', (t50_eq _ _ _).trans (t50_nil _ _), fun _ _ _ h => h⟩
    · exact ⟨h', (t50_eq _ _ _).trans (t50_is _ a), fun _ _ _ h => h⟩

/-- Arm. -/
def Dk.arm (D : Dk) (after keep : Int) : Int × Dk :=
  if D.down then (9, D) else if after < 0 ∨ keep < 0 ∨ 128 < keep then (2, D) else (0, { D with armed := true, after := after, keep := keep })
theorem Dk.arm_like (D : Dk) (a k : Int) : Like D (D.arm a k).2 := by
  unfold Dk.arm
  split
  · exact ⟨rfl, rfl, rfl⟩
  · split <;> exact ⟨rfl, rfl, rfl⟩
noncomputable def s48 : List Value → Heap → Out
  | [.pointer none, .int .i64 _, .int .i64 _], h => some (.int .i64 1, h)
  | [.pointer (some ⟨d, 0, none⟩), .int .i64 a, .int .i64 k], h => match dkOf h d with
    | some D => if a ≤ 9223372036854775807 then some (.int .i64 (D.arm a k).1, putDk h d (D.arm a k).2) else none
    | none => none
  | _, _ => none
theorem t48_nil (C : CallF) (a k : Int) (h : Heap) : t48 C (.pointer none) (.int .i64 a) (.int .i64 k) h = some (.int .i64 1, h) := by
  unfold t48
  simp -implicitDefEqProofs only [thenV_some, nil27e', pu_some]
theorem t48_is (C : CallF) {d : Nat} {D : Dk} {h : Heap} (a k : Int) (ha : a ≤ 9223372036854775807) (x : IsDk h d D) : ∃ g, t48 C (ptr d 0) (.int .i64 a) (.int .i64 k) h = some (.int .i64 (D.arm a k).1, g) ∧ Upd h d D (D.arm a k).2 g := by
  unfold t48 Dk.arm
  simp -implicitDefEqProofs only [thenV_some, nil27e, pu_some, nilCheck_ptr, addP_ptr, Nat.zero_add, x.l1]
  cases hd : D.down with
  | true => exact ⟨h, rfl, .refl x⟩
  | false =>
    simp -implicitDefEqProofs only [thenV_some, pu_some, bin_lss, bOf_bool, Bool.false_eq_true, if_false]
    by_cases h1 : a < 0
    · simp -implicitDefEqProofs only [h1, decide_true, sf, guardK_false, thenV_some, if_true, bOf_bool, true_or]
      exact ⟨h, rfl, .refl x⟩
    · simp -implicitDefEqProofs only [h1, decide_false, beq_self_eq_true, guardK_true, thenV_some, pu_some, bin_lss, bOf_bool, false_or, Bool.false_eq_true, if_false]
      by_cases h2 : k < 0
      · simp -implicitDefEqProofs only [h2, decide_true, sf, guardK_false, thenV_some, if_true, bOf_bool, true_or]
        exact ⟨h, rfl, .refl x⟩
      · simp -implicitDefEqProofs only [h2, decide_false, beq_self_eq_true, guardK_true, thenV_some, pu_some, bin_gtr, bOf_bool, false_or, Bool.false_eq_true, if_false]
        by_cases h3 : k > 128
        · simp -implicitDefEqProofs only [h3, decide_true, if_true, thenV_some]
          exact ⟨h, rfl, .refl x⟩
        · have u1 : Upd h d D { D with armed := true } _ := (Upd.refl x).step ⟨rfl, rfl, rfl⟩ x.after x.keep
          have u2 : Upd h d D { D with armed := true, after := a } _ := u1.step ⟨rfl, rfl, rfl⟩ ⟨by show 0 ≤ a; omega, ha⟩ x.keep
          have u3 : Upd h d D { D with armed := true, after := a, keep := k } _ := u2.step ⟨rfl, rfl, rfl⟩ ⟨by show 0 ≤ a; omega, ha⟩ ⟨by show 0 ≤ k; omega, by show k ≤ 128; omega⟩
          simp -implicitDefEqProofs only [h3, decide_false, if_false, thenV_some, pu_some, nilCheck_ptr, addP_ptr, Nat.zero_add, x.s2, u1.is.s3, u2.is.s4]
          refine ⟨_, rfl, ?_⟩
          rw [← hd]
          exact u3
theorem is48 : IsFn Try.prog 48 Try.f48 := ⟨by kernel_rfl, by kernel_rfl, by kernel_rfl, by kernel_rfl⟩
theorem s48_inv {args : List Value} {h h' : Heap} {v : Value} (e : s48 args h = some (v, h')) : (∃ a k, args = [.pointer none, .int .i64 a, .int .i64 k] ∧ v = .int .i64 1 ∧ h' = h) ∨
    ∃ d D a k, args = [ptr d 0, .int .i64 a, .int .i64 k] ∧ IsDk h d D ∧ a ≤ 9223372036854775807 ∧ v = .int .i64 (D.arm a k).1 ∧ h' = putDk h d (D.arm a k).2 := by
  unfold s48 at e
  split at e
  · cases e; exact .inl ⟨_, _, rfl, rfl, rfl⟩
  · split at e
    · split at e
      · cases e; exact .inr ⟨_, _, _, _, rfl, dkOf_spec (by assumption), by assumption, rfl, rfl⟩
      · cases e
    · cases e
  · cases e
theorem c48 : Contract Try.prog 48 s48 := by
  refine onDisk (callL_sound [] (by simp)) is48 ?_ ?_
  · intro args h v h' e
    rcases s48_inv e with ⟨_, _, rfl, rfl, rfl⟩ | ⟨d, D, a, k, rfl, x, ha, rfl, rfl⟩
    · exact ⟨fun _ => rfl, .inl rfl⟩
    · exact ⟨fun _ => rfl, .inr ⟨d, D, (D.arm a k).2, x, (D.arm_like a k).bb, rfl⟩⟩
  · intro args h v h' e _ _
    rcases s48_inv e with ⟨_, _, rfl, rfl, rfl⟩ | ⟨d, D, a, k, rfl, x, ha, rfl, rfl⟩
    · exact ⟨h', (t48_eq _ _ _ _ _).trans (t48_nil _ _ _ _), fun _ _ _ h => h⟩
    · obtain ⟨g, h1, u⟩ := t48_is (callL []) a k ha x
      exact ⟨g, (t48_eq _ _ _ _ _).trans h1, u.told⟩

/-- Write. -/
def Dk.lay (D : Dk) (i : Int) (l : List Nat) : Dk := { D with img := spliceN D.img (i.toNat * 128) l }
def Dk.write (D : Dk) (i : Int) (l : List Nat) : Int × Dk :=
  if D.fault i = 0 then
    if l.length = 128 then
      if D.armed then
        if D.after = 0 then (9, (D.lay i (l.take D.keep.toNat)).off)
        else (0, { D.lay i l with after := D.after - 1 })
      else (0, D.lay i l)
    else (10, D)
  else (D.fault i, D)
theorem Dk.fault_zero {D : Dk} {i : Int} (h : D.fault i = 0) : D.down = false ∧ 0 ≤ i ∧ i < D.n := by
  unfold Dk.fault at h
  split at h
  · cases h
  · split at h
    · cases h
    · rename_i h1 h2
      refine ⟨by simpa using h1, by omega, by omega⟩
theorem Dk.lay_okd {h : Heap} {d : Nat} {D : Dk} (a : IsDk h d D) {i : Int} {l : List Nat} (hi : D.fault i = 0) (hl : l.length ≤ 128) (hb : ∀ x ∈ l, x < 256) : Okd D (D.lay i l) := by
  obtain ⟨_, h1, h2⟩ := Dk.fault_zero hi
  refine ⟨rfl, rfl, ?_, ?_, a.after, a.keep⟩
  · exact spliceN_length (by have := a.len; omega)
  · exact spliceN_byte a.byte hb
theorem Dk.write_okd {h : Heap} {d : Nat} {D : Dk} (a : IsDk h d D) (i : Int) {l : List Nat} (hb : ∀ x ∈ l, x < 256) : Okd D (D.write i l).2 := by
  have r : Okd D D := ⟨rfl, rfl, rfl, a.byte, a.after, a.keep⟩
  unfold Dk.write
  split
  · rename_i hf
    split
    · rename_i hl
      have o1 := Dk.lay_okd a hf (by omega) hb
      split
      · split
        · have o := Dk.lay_okd a (l := l.take D.keep.toNat) hf (by simp; omega) (fun x hx => hb x (List.mem_of_mem_take hx))
          have lk := (D.lay i (l.take D.keep.toNat)).off_like
          refine ⟨lk.bb.trans o.bb, lk.n.trans o.n, by rw [lk.img]; exact o.len, by rw [lk.img]; exact o.byte, ?_, ?_⟩
          · unfold Dk.off; split <;> exact a.after
          · unfold Dk.off; split <;> exact a.keep
        · rename_i h1
          refine ⟨o1.bb, o1.n, o1.len, o1.byte, ?_, a.keep⟩
          have := a.after
          show 0 ≤ D.after - 1 ∧ D.after - 1 ≤ _
          omega
      · exact o1
    · exact r
  · exact r
/-- A slice of bytes as they come. -/
def goodS (a : Option Addr) (n c : Nat) : Bool := Nat.ble n c && (match a with | some ⟨_, _, some s⟩ => s == 1 | _ => true)
theorem goodS_le {a : Option Addr} {n c : Nat} (h : goodS a n c = true) : n ≤ c := by
  unfold goodS at h
  rw [Bool.and_eq_true] at h
  exact Nat.le_of_ble_eq_true h.1
theorem sliceBytes_sub {b off n lo hi : Nat} {s s' : Option Nat} {h : Heap} {l : List Nat} (e : sliceBytes (some ⟨b, off, s⟩) n h = some l) (h1 : lo ≤ hi) (h2 : hi ≤ n) :
    sliceBytes (some ⟨b, off + lo, s'⟩) (hi - lo) h = some ((l.drop lo).take (hi - lo)) := by
  obtain ⟨hl, hb, hat⟩ := sliceBytes_spec e
  unfold sliceBytes
  rw [Option.bind_eq_some_iff]
  refine ⟨((l.drop lo).take (hi - lo)).map u8, ?_, bytesOf_map (fun x hx => hb x (List.mem_of_mem_drop (List.mem_of_mem_take hx)))⟩
  simp only [firstA, Nat.mul_one]
  by_cases h0 : hi - lo = 0
  · rw [if_pos h0, h0]; rfl
  · rw [if_neg h0]
    obtain ⟨b', off', s'', k, hx, hk, hkl, hk2⟩ := hat (by omega)
    cases hx
    simp only [hk]
    rw [if_pos (by omega)]
    congr 1
    apply List.ext_getElem?
    intro i
    rw [List.getElem?_take, List.getElem?_map, List.getElem?_take, List.getElem?_drop, List.getElem?_drop]
    by_cases hi2 : i < hi - lo
    · rw [if_pos hi2, if_pos hi2, Nat.add_assoc, hk2 (lo + i) (by omega), List.getD_eq_getElem?_getD, List.getElem?_eq_getElem (by omega)]
      rfl
    · rw [if_neg hi2, if_neg hi2]; rfl
/-- A part of a slice of bytes. -/
theorem slR_bytes {a : Option Addr} {n c lo hi : Nat} {vl vh : Option Value} {h : Heap} {l : List Nat} (g : goodS a n c = true) (e : sliceBytes a n h = some l) (h1 : lo ≤ hi) (h2 : hi ≤ n) (hh : boundA n c vh = some hi) (hl : boundA 0 hi vl = some lo) :
    ∃ a' c', slR 1 (.slice a n c) vl vh none = some (.slice a' (hi - lo) c') ∧ sliceBytes a' (hi - lo) h = some ((l.drop lo).take (hi - lo)) ∧ goodS a' (hi - lo) c' = true := by
  have hn := goodS_le g
  have hb : boundsA n c vl vh none = some (lo, hi, c) := by
    unfold boundsA
    have : boundA c c none = some c := rfl
    rw [this]
    simp only [hh, hl]
  have hble : Nat.ble (hi - lo) (c - lo) = true := Nat.ble_eq_true_of_le (by omega)
  cases a with
  | none =>
    have hl0 : l = [] := by
      unfold sliceBytes firstA at e
      by_cases hz : n = 0
      · subst hz
        obtain ⟨h3, _⟩ := sliceBytes_spec (a := none) (n := 0) (h := h) (l := l) (by unfold sliceBytes firstA; exact e)
        exact List.length_eq_zero_iff.1 h3
      · simp only [hz, if_false, Option.bind_none] at e; cases e
    have hn0 : n = 0 := by
      have := (sliceBytes_spec e).1
      rw [hl0] at this; exact this.symm
    subst hn0
    have : hi = 0 := by omega
    subst this
    have : lo = 0 := by omega
    subst this
    refine ⟨none, c - 0, ?_, ?_, ?_⟩
    · unfold slR sliceSl
      simp only [hb]
    · subst hl0; rfl
    · unfold goodS; simp
  | some x =>
    obtain ⟨b, off, s⟩ := x
    cases s with
    | none =>
      refine ⟨some ⟨b, if c = lo then off else off + lo * 1, none⟩, c - lo, ?_, ?_, ?_⟩
      · unfold slR sliceSl
        simp only [hb]
      · by_cases hc : c = lo
        · have h3 : hi - lo = 0 := by omega
          rw [if_pos hc, h3]
          have : (l.drop lo).take 0 = [] := rfl
          rw [this]
          unfold sliceBytes firstA; simp; rfl
        · rw [if_neg hc, Nat.mul_one]
          exact sliceBytes_sub e h1 h2
      · unfold goodS; rw [hble]; rfl
    | some s =>
      have hs : s = 1 := by
        unfold goodS at g
        rw [Bool.and_eq_true] at g
        exact eq_of_beq g.2
      subst hs
      refine ⟨some ⟨b, off + lo * 1, some 1⟩, c - lo, ?_, ?_, ?_⟩
      · unfold slR sliceSl
        simp only [hb, if_true]
      · rw [Nat.mul_one]; exact sliceBytes_sub e h1 h2
      · unfold goodS; rw [hble]; rfl

noncomputable def s19 : List Value → Heap → Out
  | [.pointer none, .int .i64 _, .slice _ _ _], h => some (.int .i64 1, h)
  | [.pointer (some ⟨d, 0, none⟩), .int .i64 i, .slice a n c], h => match dkOf h d, sliceBytes a n h with
    | some D, some l => if goodS a n c then some (.int .i64 (D.write i l).1, putDk h d (D.write i l).2) else none
    | _, _ => none
  | _, _ => none
theorem s19_at {h : Heap} {d : Nat} {D : Dk} (x : IsDk h d D) (i : Int) {a : Option Addr} {n c : Nat} {l : List Nat} (hl : sliceBytes a n h = some l) (hg : goodS a n c = true) :
    s19 [ptr d 0, .int .i64 i, .slice a n c] h = some (.int .i64 (D.write i l).1, putDk h d (D.write i l).2) := by
  unfold s19 ptr
  simp only [x.of, hl, hg, if_true]
theorem s19_inv {args : List Value} {h h' : Heap} {v : Value} (e : s19 args h = some (v, h')) : (∃ i a n c, args = [.pointer none, .int .i64 i, .slice a n c] ∧ v = .int .i64 1 ∧ h' = h) ∨
    ∃ d D i a n c l, args = [ptr d 0, .int .i64 i, .slice a n c] ∧ IsDk h d D ∧ sliceBytes a n h = some l ∧ goodS a n c = true ∧ v = .int .i64 (D.write i l).1 ∧ h' = putDk h d (D.write i l).2 := by
  unfold s19 at e
  split at e
  · cases e; exact .inl ⟨_, _, _, _, rfl, rfl, rfl⟩
  · split at e
    · split at e
      · cases e; exact .inr ⟨_, _, _, _, _, _, _, rfl, dkOf_spec (by assumption), by assumption, by assumption, rfl, rfl⟩
      · cases e
    · cases e
  · cases e

theorem sliceBytes_congr {a : Option Addr} {n : Nat} {h h' : Heap} (e : ∀ x, a = some x → h'.get x.block = h.get x.block) : sliceBytes a n h' = sliceBytes a n h := by
  unfold sliceBytes firstA
  cases a with
  | none => rfl
  | some x => simp only [e x rfl]
theorem IsDk.bytes_off {h : Heap} {d : Nat} {D : Dk} (x : IsDk h d D) {a : Option Addr} {n : Nat} {l : List Nat} (e : sliceBytes a n h = some l) (hn : 6 < n) : ∀ y, a = some y → y.block ≠ d := by
  rintro y rfl rfl
  obtain ⟨_, _, hat⟩ := sliceBytes_spec e
  obtain ⟨b, off, s, k, hx, hk, hkl, _⟩ := hat (by omega)
  cases hx
  have h1 : h.get b = some D.hdr := x.hdr
  rw [hk] at h1
  cases h1
  simp [Dk.hdr] at hkl
  omega

theorem s32_at {h : Heap} {d : Nat} {D : Dk} (a : IsDk h d D) : s32 [ptr d 0] h = some (.tuple #[], putDk h d D.off) := by
  unfold s32 ptr
  simp only [a.of]

theorem arr128 (b off : Nat) : sliceArr 128 1 (ptr b off) none none none = some (.slice (some ⟨b, off, none⟩) 128 128) := by
  unfold sliceArr ptr
  have : boundsA 128 128 none none none = some (0, 128, 128) := rfl
  simp only [this, Nat.zero_mul, Nat.add_zero, ite_self, Nat.sub_zero]

theorem bin28n (a b : Int) : bin Try.prog .neq 28 (.int .i64 a) (.int .i64 b) = some (.bool (a != b)) := bin_neq ..

/-- Bytes laid into one disk's block. -/
theorem lay_told {h g : Heap} {d : Nat} {D E : Dk} {i : Int} {l : List Nat} (u : Upd h d D E g) (hi : E.fault i = 0) (hl : l.length ≤ 128) (hb : ∀ x ∈ l, x < 256) {g' : Heap} (h0 : g'.n0 = g.n0) (hn : g'.next = g.next)
    (hg : g'.get E.bb = some ((spliceN E.img (i.toNat * 128) l).map u8)) (ho : ∀ e, e ≠ E.bb → g'.get e = g.get e) :
    IsDk g' d (E.lay i l) ∧ (∀ c, c ≠ d → c ≠ D.bb → g'.get c = h.get c) := by
  have o := Dk.lay_okd u.is hi hl hb
  refine ⟨⟨?_, hg, by rw [o.len]; exact u.is.len, o.byte, by rw [h0]; exact u.is.dn, by rw [h0]; exact u.is.bn, u.is.ne, u.is.small, u.is.after, u.is.keep⟩, ?_⟩
  · rw [ho d u.is.ne]; exact u.is.hdr
  · intro c h1 h2
    rw [ho c (by rw [u.like.bb]; exact h2)]; exact u.get c h1
theorem told_of {h g : Heap} {d : Nat} {D E : Dk} (a : IsDk h d D) (b : IsDk g d E) (hb : E.bb = D.bb) (ho : ∀ c, c ≠ d → c ≠ D.bb → g.get c = h.get c) : ∀ b k, (putDk h d E).n0 ≤ b → (putDk h d E).get b = some k → g.get b = some k := by
  intro c k _ hc
  rw [putDk_get a hb] at hc
  split at hc
  · cases hc; rename_i e; rw [e]; exact b.img
  · split at hc
    · cases hc; rename_i e; rw [e]; exact b.hdr
    · rename_i e1 e2; rw [ho c e2 (by rw [← hb]; exact e1)]; exact hc

theorem t19_is (C : CallF) (H53 : ∀ args h, C 53 args h = s53 args h) (H32 : ∀ args h, C 32 args h = s32 args h) {d : Nat} {D : Dk} {h : Heap} (x : IsDk h d D) (i : Int) {a : Option Addr} {n c : Nat} {l : List Nat} (hl : sliceBytes a n h = some l) (hgd : goodS a n c = true) :
    ∃ g, t19 C (ptr d 0) (.int .i64 i) (.slice a n c) h = some (.int .i64 (D.write i l).1, g) ∧ ∀ b k, (putDk h d (D.write i l).2).n0 ≤ b → (putDk h d (D.write i l).2).get b = some k → g.get b = some k := by
  obtain ⟨hlen, hbyte, _⟩ := sliceBytes_spec hl
  unfold t19 Dk.write
  simp -implicitDefEqProofs only [thenV_some, H53, s53_at i x, bin28n, pu_some]
  by_cases hf : D.fault i = 0
  · obtain ⟨hdn, hi1, hi2⟩ := Dk.fault_zero hf
    have hix : idxS 128 (.slice (some ⟨D.bb, 0, none⟩) D.n D.n) (.int .i64 i) = some (ptr D.bb (i.toNat * 128)) := by
      unfold idxS
      simp only [hi1, hi2, and_self, if_true, Nat.zero_add]
    have hroom : i.toNat * 128 + 128 ≤ D.img.length := by have := x.len; omega
    simp -implicitDefEqProofs only [hf, bne_self_eq_false, thenV_some, lenL_slice, pu_some, bin_neq, if_true, hlen]
    by_cases hn : n = 128
    · subst hn
      simp -implicitDefEqProofs only [Int.cast_ofNat_Int, bne_self_eq_false, thenV_some, nilCheck_ptr, pu_some, addP_ptr, Nat.zero_add, x.l2, unA_not, if_true]
      cases har : D.armed with
      | false =>
        obtain ⟨g, hc, g0, gn, gb, go⟩ := copy_bytes (dl := 128) (dc := 128) (s := none) (c := c) x.img x.bn hl (off := i.toNat * 128) (by simpa using hroom)
        simp -implicitDefEqProofs only [Bool.not_false, thenV_some, nilCheck_ptr, pu_some, addP_ptr, Nat.zero_add, x.l0, hix, arr128, hc, Bool.false_eq_true, if_false]
        rw [Nat.min_self, List.take_of_length_le (by omega)] at gb
        obtain ⟨y, yo⟩ := lay_told (.refl x) hf (by omega) hbyte g0 gn gb go
        exact ⟨g, rfl, told_of x y rfl yo⟩
      | true =>
        simp -implicitDefEqProofs only [Bool.not_true, thenV_some, nilCheck_ptr, pu_some, addP_ptr, Nat.zero_add, x.l3, bin_eql, if_true]
        by_cases hz : D.after = 0
        · obtain ⟨kn, hk⟩ : ∃ kn : Nat, D.keep = (kn : Int) := ⟨D.keep.toNat, by have := x.keep; omega⟩
          have hk128 : kn ≤ 128 := by have := x.keep; omega
          have hcl := goodS_le hgd
          obtain ⟨a', c', e1, e2, e3⟩ := slR_bytes (vl := none) (vh := some (.int .i64 D.keep)) (lo := 0) (hi := kn) hgd hl (by omega) hk128 (by
            simp only [boundA]
            rw [if_pos (by omega), hk]; rfl) rfl
          obtain ⟨g, hc, g0, gn, gb, go⟩ := copy_bytes (dl := 128) (dc := 128) (s := none) (c := c') x.img x.bn e2 (off := i.toNat * 128) (by omega)
          have hkt : D.keep.toNat = kn := by omega
          rw [Nat.sub_zero, Nat.min_eq_left hk128] at gb hc
          rw [List.drop_zero, List.take_take, Nat.min_self] at gb
          obtain ⟨y, yo⟩ := lay_told (.refl x) hf (l := l.take kn) (by simp; omega) (fun q hq => hbyte q (List.mem_of_mem_take hq)) g0 gn gb go
          simp -implicitDefEqProofs only [hz, beq_self_eq_true, thenV_some, nilCheck_ptr, pu_some, addP_ptr, Nat.zero_add, x.l0, hix, arr128, x.l4, e1, Nat.sub_zero, hc, if_true]
          have hd2 : ld1 (ptr d 4) h = some (.int .i64 D.keep, h) := x.l4
          simp -implicitDefEqProofs only [H32, s32_at y, thenV_some, hkt]
          have hh := y.put (E := (D.lay i (l.take kn)).off) ⟨((D.lay i (l.take kn)).off_like).bb, ((D.lay i (l.take kn)).off_like).n, by rw [((D.lay i (l.take kn)).off_like).img], by rw [((D.lay i (l.take kn)).off_like).img]; exact y.byte, by unfold Dk.off; split <;> exact x.after, by unfold Dk.off; split <;> exact x.keep⟩
          refine ⟨_, rfl, told_of x hh ((D.lay i (l.take kn)).off_like).bb ?_⟩
          intro e h1 h2
          have hbb := ((D.lay i (l.take kn)).off_like).bb
          rw [putDk_get y hbb, if_neg (by rw [hbb]; exact h2), if_neg h1]
          exact yo e h1 h2
        · have hz2 : (D.after == 0) = false := by simpa using hz
          have hw : IntKind.wrap .i64 (D.after - 1) = D.after - 1 := wrap_i64 (by have := x.after; omega) (by have := x.after; omega)
          have u1 : Upd h d D { D with after := D.after - 1 } _ := (Upd.refl x).step ⟨rfl, rfl, rfl⟩ ⟨by have := x.after; show 0 ≤ D.after - 1; omega, by have := x.after; show D.after - 1 ≤ _; omega⟩ x.keep
          have hl2 : sliceBytes a 128 (h.set d { D with after := D.after - 1 }.hdr) = some l := by
            rw [sliceBytes_congr (h := h) (fun y hy => Heap.get_set_other x.dn x.lt _ (x.bytes_off hl (by omega) y hy))]; exact hl
          obtain ⟨g, hc, g0, gn, gb, go⟩ := copy_bytes (dl := 128) (dc := 128) (s := none) (c := c) u1.is.img u1.is.bn hl2 (off := i.toNat * 128) (by simpa using hroom)
          rw [Nat.min_self, List.take_of_length_le (by omega)] at gb
          obtain ⟨y, yo⟩ := lay_told u1 hf (by omega) hbyte g0 gn gb go
          have hc : copyA 1 (.slice (some ⟨D.bb, i.toNat * 128, none⟩) 128 128) (.slice a 128 c) (h.set d { D with after := D.after - 1 }.hdr) = some (i64n (min 128 128), g) := hc
          have l0 : ld1 (ptr d 0) (h.set d { D with after := D.after - 1 }.hdr) = some (.slice (some ⟨D.bb, 0, none⟩) D.n D.n, h.set d { D with after := D.after - 1 }.hdr) := u1.is.l0
          simp -implicitDefEqProofs only [hz2, thenV_some, nilCheck_ptr, pu_some, addP_ptr, Nat.zero_add, x.l3, bin_sub, hw, x.s3, l0, hix, arr128, hz, if_false, hc]
          exact ⟨g, rfl, told_of x y rfl yo⟩
    · have hn2 : ((n : Int) != 128) = true := by
        have : (n : Int) ≠ 128 := by omega
        simpa using this
      simp -implicitDefEqProofs only [hn2, thenV_some, hn, if_false]
      exact ⟨h, rfl, fun b k _ hb => (putDk_self x b k).2 hb⟩
  · have hf2 : (D.fault i != 0) = true := by simpa using hf
    simp -implicitDefEqProofs only [hf2, thenV_some, hf, if_false]
    exact ⟨h, rfl, fun b k _ hb => (putDk_self x b k).2 hb⟩

end Go.Proofs.Ytcmfgmhadeeieaa
