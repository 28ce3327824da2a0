/-
  The device: loss and return of power, Arm, Write, Read.
  Conditions: as each theorem states.
-/
import Derived.Test.YtcmfgmhadeeieaaD3
namespace Go.Proofs.Ytcmfgmhadeeieaa
open Go Go.Abs

/-- A heap that differs from another in one disk's first block alone. -/
structure Upd (h : Heap) (d : Nat) (D E : Dk) (g : Heap) : Prop where
  n0 : g.n0 = h.n0
  next : g.next = h.next
  was : IsDk h d D
  is : IsDk g d E
  like : Like D E
  get : ∀ c, c ≠ d → g.get c = h.get c
theorem Upd.refl {h : Heap} {d : Nat} {D : Dk} (a : IsDk h d D) : Upd h d D D h := ⟨rfl, rfl, a, a, ⟨rfl, rfl, rfl⟩, fun _ _ => rfl⟩
theorem Upd.step {h g : Heap} {d : Nat} {D E F : Dk} (u : Upd h d D E g) (l : Like E F) (ha : 0 ≤ F.after ∧ F.after ≤ 9223372036854775807) (hk : 0 ≤ F.keep ∧ F.keep ≤ 128) : Upd h d D F (g.set d F.hdr) where
  n0 := u.n0
  next := u.next
  was := u.was
  is := u.is.setHdr l ha hk
  like := ⟨l.bb.trans u.like.bb, l.n.trans u.like.n, l.img.trans u.like.img⟩
  get c hc := (Heap.get_set_other u.is.dn u.is.lt _ hc).trans (u.get c hc)
theorem Upd.told {h g : Heap} {d : Nat} {D E : Dk} (u : Upd h d D E g) : ∀ b k, (putDk h d E).n0 ≤ b → (putDk h d E).get b = some k → g.get b = some k := by
  intro b k _ hb
  rw [putDk_get u.was u.like.bb] at hb
  split at hb
  · cases hb; rename_i e; rw [e]; exact u.is.img
  · split at hb
    · cases hb; rename_i e; rw [e]; exact u.is.hdr
    · rw [u.get b (by assumption)]; exact hb
theorem putDk_self {h : Heap} {d : Nat} {D : Dk} (a : IsDk h d D) : ∀ b k, h.get b = some k ↔ (putDk h d D).get b = some k := by
  intro b k
  rw [putDk_get a rfl]
  split
  · rename_i e; rw [e, a.img]
  · split
    · rename_i e; rw [e, a.hdr]
    · exact Iff.rfl

section bytes
/-- Numbers laid over others. -/
def spliceN (l : List Nat) (off : Nat) (xs : List Nat) : List Nat := l.take off ++ xs ++ l.drop (off + xs.length)
theorem spliceN_map (l : List Nat) (off : Nat) (xs : List Nat) : splice (l.map u8) off (xs.map u8) = (spliceN l off xs).map u8 := by
  simp [splice, spliceN]
theorem spliceN_length {l : List Nat} {off : Nat} {xs : List Nat} (h : off + xs.length ≤ l.length) : (spliceN l off xs).length = l.length := by
  simp [spliceN]; omega
theorem spliceN_byte {l : List Nat} {off : Nat} {xs : List Nat} (hl : ∀ x ∈ l, x < 256) (hx : ∀ x ∈ xs, x < 256) : ∀ x ∈ spliceN l off xs, x < 256 := by
  intro x h
  simp only [spliceN, List.mem_append] at h
  rcases h with (h | h) | h
  · exact hl x (List.mem_of_mem_take h)
  · exact hx x h
  · exact hl x (List.mem_of_mem_drop h)
theorem one_u8 : ∀ l : List Nat, oneCells (l.map u8) = true
  | [] => rfl
  | x :: l => by
    have := one_u8 l
    simp only [oneCells, List.map_cons, List.all_cons] at this ⊢
    rw [this]; rfl

theorem firstA_of {a : Option Addr} {n c : Nat} {h : Heap} {l : List Nat} (e : sliceBytes a n h = some l) {m : Nat} (hm : m ≤ n) : firstA 1 m (.slice a n c) h = some ((l.take m).map u8) := by
  unfold sliceBytes at e
  rw [Option.bind_eq_some_iff] at e
  obtain ⟨cs, h1, h2⟩ := e
  obtain ⟨rfl, h3⟩ := bytesOf_eq h2
  cases a with
  | none =>
    simp only [firstA] at h1 ⊢
    split at h1
    · cases l with
      | nil => simp; omega
      | cons => simp at h1
    · cases h1
  | some x =>
    obtain ⟨b, off, s⟩ := x
    simp only [firstA, Nat.mul_one] at h1 ⊢
    by_cases hm0 : m = 0
    · subst hm0; simp
    · rw [if_neg hm0]
      rw [if_neg (by omega)] at h1
      cases hk : h.get b with
      | none => rw [hk] at h1; cases h1
      | some k =>
        rw [hk] at h1
        simp only at h1 ⊢
        split at h1
        · rw [if_pos (by omega), List.map_take]
          simp only [Option.some.injEq] at h1
          rw [← h1, List.take_take, Nat.min_eq_left hm]
        · cases h1

/-- Bytes copied into a block of bytes. -/
theorem copy_bytes {h : Heap} {b off dl dc n c : Nat} {s : Option Nat} {a : Option Addr} {img l : List Nat} (hb : h.get b = some (img.map u8)) (h0 : h.n0 ≤ b) (hs : sliceBytes a n h = some l) (hlen : off + min n dl ≤ img.length) :
    ∃ g, copyA 1 (.slice (some ⟨b, off, s⟩) dl dc) (.slice a n c) h = some (i64n (min n dl), g) ∧ g.n0 = h.n0 ∧ g.next = h.next ∧ g.get b = some ((spliceN img off (l.take (min n dl))).map u8) ∧ (∀ e, e ≠ b → g.get e = h.get e) := by
  have hl := (sliceBytes_spec hs).1
  unfold copyA
  simp only [lenA]
  rw [firstA_of hs (Nat.min_le_left n dl)]
  simp only
  by_cases h1 : min n dl = 0
  · rw [if_pos h1]
    refine ⟨h, rfl, rfl, rfl, ?_, fun _ _ => rfl⟩
    rw [h1, hb]; simp [spliceN]
  · rw [if_neg h1]
    refine ⟨h.set b ((spliceN img off (l.take (min n dl))).map u8), ?_, rfl, rfl, Heap.get_set_same h0 hb _, fun e he => Heap.get_set_other h0 (h.lt_of_get hb) _ he⟩
    unfold stL
    simp only [hb]
    rw [if_pos (by simp only [one_u8, List.length_map, List.length_take, Bool.and_true, Bool.and_eq_true, decide_eq_true_eq]; exact ⟨h0, by omega⟩), spliceN_map]
    rfl
end bytes

theorem s53_at {h : Heap} {d : Nat} {D : Dk} (i : Int) (a : IsDk h d D) : s53 [ptr d 0, .int .i64 i] h = some (.int .i64 (D.fault i), h) := by
  unfold s53 ptr
  simp only [a.of]

/-- PowerOff. -/
def Dk.off (D : Dk) : Dk := if D.down then D else { D with down := true, armed := false, turn := IntKind.wrap .i64 (D.turn + 1) }
theorem Dk.off_like (D : Dk) : Like D D.off := by unfold Dk.off; split <;> exact ⟨rfl, rfl, rfl⟩
noncomputable def s32 : List Value → Heap → Out
  | [.pointer none], h => some (.tuple #[], h)
  | [.pointer (some ⟨d, 0, none⟩)], h => match dkOf h d with
    | some D => some (.tuple #[], putDk h d D.off)
    | none => none
  | _, _ => none
theorem t32_nil (C : CallF) (h : Heap) : t32 C (.pointer none) h = some (.tuple #[], h) := by
  unfold t32
  simp -implicitDefEqProofs only [thenV_some, nil27e', pu_some, bOf_bool, sf, guardK_false, if_true]
theorem t32_is (C : CallF) {d : Nat} {D : Dk} {h : Heap} (a : IsDk h d D) : ∃ g, t32 C (ptr d 0) h = some (.tuple #[], g) ∧ Upd h d D D.off g := by
  unfold t32 Dk.off
  simp -implicitDefEqProofs only [thenV_some, nil27e, pu_some, bOf_bool, beq_self_eq_true, guardK_true, nilCheck_ptr, addP_ptr, Nat.zero_add, a.l1, Bool.false_eq_true, if_false]
  cases hd : D.down with
  | true => exact ⟨h, rfl, by rw [if_pos rfl]; exact .refl a⟩
  | false =>
    have u1 : Upd h d D { D with down := true } _ := (Upd.refl a).step ⟨rfl, rfl, rfl⟩ a.after a.keep
    have u2 : Upd h d D { D with down := true, armed := false } _ := u1.step ⟨rfl, rfl, rfl⟩ a.after a.keep
    have u3 : Upd h d D { D with down := true, armed := false, turn := IntKind.wrap .i64 (D.turn + 1) } _ := u2.step ⟨rfl, rfl, rfl⟩ a.after a.keep
    simp -implicitDefEqProofs only [a.s1, u1.is.s2, u2.is.l5, u2.is.s5, thenV_some, bin_add, pu_some, Bool.false_eq_true, if_false]
    exact ⟨_, rfl, u3⟩
theorem is32 : IsFn Try.prog 32 Try.f32 := ⟨by kernel_rfl, by kernel_rfl, by kernel_rfl, by kernel_rfl⟩
theorem s32_inv {args : List Value} {h h' : Heap} {v : Value} (e : s32 args h = some (v, h')) : (args = [.pointer none] ∧ v = .tuple #[] ∧ h' = h) ∨ ∃ d D, args = [ptr d 0] ∧ IsDk h d D ∧ v = .tuple #[] ∧ h' = putDk h d D.off := by
  unfold s32 at e
  split at e
  · cases e; exact .inl ⟨rfl, rfl, rfl⟩
  · split at e
    · cases e; exact .inr ⟨_, _, rfl, dkOf_spec (by assumption), rfl, rfl⟩
    · cases e
  · cases e
theorem c32 : Contract Try.prog 32 s32 := by
  refine onDisk (callL_sound [] (by simp)) is32 ?_ ?_
  · intro args h v h' e
    rcases s32_inv e with ⟨rfl, rfl, rfl⟩ | ⟨d, D, rfl, a, rfl, rfl⟩
    · exact ⟨fun _ => rfl, .inl rfl⟩
    · exact ⟨fun _ => rfl, .inr ⟨d, D, _, a, D.off_like.bb, rfl⟩⟩
  · intro args h v h' e _ _
    rcases s32_inv e with ⟨rfl, rfl, rfl⟩ | ⟨d, D, rfl, a, rfl, rfl⟩
    · exact ⟨h', (t32_eq _ _ _).trans (t32_nil _ _), fun _ _ _ h => h⟩
    · obtain ⟨g, h1, u⟩ := t32_is (callL []) a
      exact ⟨g, (t32_eq _ _ _).trans h1, u.told⟩

/-- PowerOn. -/
def Dk.on (D : Dk) : Dk := { D with down := false, armed := false }
noncomputable def s33 : List Value → Heap → Out
  | [.pointer none], h => some (.tuple #[], h)
  | [.pointer (some ⟨d, 0, none⟩)], h => match dkOf h d with
    | some D => some (.tuple #[], putDk h d D.on)
    | none => none
  | _, _ => none
theorem t33_nil (C : CallF) (h : Heap) : t33 C (.pointer none) h = some (.tuple #[], h) := by
  unfold t33
  simp -implicitDefEqProofs only [thenV_some, nil27n', pu_some]
theorem t33_is (C : CallF) {d : Nat} {D : Dk} {h : Heap} (a : IsDk h d D) : ∃ g, t33 C (ptr d 0) h = some (.tuple #[], g) ∧ Upd h d D D.on g := by
  unfold t33 Dk.on
  have u1 : Upd h d D { D with down := false } _ := (Upd.refl a).step ⟨rfl, rfl, rfl⟩ a.after a.keep
  have u2 : Upd h d D { D with down := false, armed := false } _ := u1.step ⟨rfl, rfl, rfl⟩ a.after a.keep
  simp -implicitDefEqProofs only [thenV_some, nil27n, pu_some, nilCheck_ptr, addP_ptr, Nat.zero_add, a.s1, u1.is.s2]
  exact ⟨_, rfl, u2⟩
theorem is33 : IsFn Try.prog 33 Try.f33 := ⟨by kernel_rfl, by kernel_rfl, by kernel_rfl, by kernel_rfl⟩
theorem s33_inv {args : List Value} {h h' : Heap} {v : Value} (e : s33 args h = some (v, h')) : (args = [.pointer none] ∧ v = .tuple #[] ∧ h' = h) ∨ ∃ d D, args = [ptr d 0] ∧ IsDk h d D ∧ v = .tuple #[] ∧ h' = putDk h d D.on := by
  unfold s33 at e
  split at e
  · cases e; exact .inl ⟨rfl, rfl, rfl⟩
  · split at e
    · cases e; exact .inr ⟨_, _, rfl, dkOf_spec (by assumption), rfl, rfl⟩
    · cases e
  · cases e
theorem c33 : Contract Try.prog 33 s33 := by
  refine onDisk (callL_sound [] (by simp)) is33 ?_ ?_
  · intro args h v h' e
    rcases s33_inv e with ⟨rfl, rfl, rfl⟩ | ⟨d, D, rfl, a, rfl, rfl⟩
    · exact ⟨fun _ => rfl, .inl rfl⟩
    · exact ⟨fun _ => rfl, .inr ⟨d, D, D.on, a, rfl, rfl⟩⟩
  · intro args h v h' e _ _
    rcases s33_inv e with ⟨rfl, rfl, rfl⟩ | ⟨d, D, rfl, a, rfl, rfl⟩
    · exact ⟨h', (t33_eq _ _ _).trans (t33_nil _ _), fun _ _ _ h => h⟩
    · obtain ⟨g, h1, u⟩ := t33_is (callL []) a
      exact ⟨g, (t33_eq _ _ _).trans h1, u.told⟩

end Go.Proofs.Ytcmfgmhadeeieaa
