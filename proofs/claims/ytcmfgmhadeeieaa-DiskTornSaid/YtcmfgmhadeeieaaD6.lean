/-
  The device: Write, Read, NewDisk, Image.
  Conditions: as each theorem states.
-/
import Derived.Test.YtcmfgmhadeeieaaD5
namespace Go.Proofs.Ytcmfgmhadeeieaa
open Go Go.Abs

theorem is19 : IsFn Try.prog 19 Try.f19 := ⟨by kernel_rfl, by kernel_rfl, by kernel_rfl, by kernel_rfl⟩
theorem t19_nil (C : CallF) (H53 : ∀ args h, C 53 args h = s53 args h) (i : Int) (a : Option Addr) (n c : Nat) (h : Heap) : t19 C (.pointer none) (.int .i64 i) (.slice a n c) h = some (.int .i64 1, h) := by
  unfold t19
  have e : s53 [.pointer none, .int .i64 i] h = some (.int .i64 1, h) := rfl
  simp -implicitDefEqProofs only [thenV_some, H53, e, bin28n, pu_some, show ((1 : Int) != 0) = true from rfl]
theorem c19 : Contract Try.prog 19 s19 := by
  refine onDisk (C := callL [(53, s53), (32, s32)]) (callL_sound _ ?_) is19 ?_ ?_
  · intro p hp
    simp only [List.mem_cons, List.not_mem_nil, or_false] at hp
    rcases hp with rfl | rfl
    · exact c53
    · exact c32
  · intro args h v h' e
    rcases s19_inv e with ⟨i, a, n, c, rfl, rfl, rfl⟩ | ⟨d, D, i, a, n, c, l, rfl, x, hl, hg, rfl, rfl⟩
    · exact ⟨fun _ => rfl, .inl rfl⟩
    · exact ⟨fun _ => rfl, .inr ⟨d, D, (D.write i l).2, x, (Dk.write_okd x i (sliceBytes_spec hl).2.1).bb, rfl⟩⟩
  · intro args h v h' e _ _
    rcases s19_inv e with ⟨i, a, n, c, rfl, rfl, rfl⟩ | ⟨d, D, i, a, n, c, l, rfl, x, hl, hg, rfl, rfl⟩
    · exact ⟨h', (t19_eq _ _ _ _ _).trans (t19_nil _ (fun _ _ => rfl) _ _ _ _ _), fun _ _ _ h => h⟩
    · obtain ⟨g, h1, h2⟩ := t19_is (callL [(53, s53), (32, s32)]) (fun _ _ => rfl) (fun _ _ => rfl) x i (c := c) hl hg
      exact ⟨g, (t19_eq _ _ _ _ _).trans h1, h2⟩

/-- Read. -/
def Dk.read (D : Dk) (i : Int) : List Nat := (D.img.drop (i.toNat * 128)).take 128
def newSlice (h : Heap) (n : Nat) : Value := .slice (some ⟨h.next, 0, none⟩) n n
noncomputable def s20 : List Value → Heap → Out
  | [.pointer none, .int .i64 _], h => some (.tuple #[.slice none 0 0, .int .i64 1], h)
  | [.pointer (some ⟨d, 0, none⟩), .int .i64 i], h => match dkOf h d with
    | some D => if D.fault i = 0 then some (.tuple #[newSlice h 128, .int .i64 0], h.alloc ((D.read i).map u8)) else some (.tuple #[.slice none 0 0, .int .i64 (D.fault i)], h)
    | none => none
  | _, _ => none
theorem s20_at {h : Heap} {d : Nat} {D : Dk} (x : IsDk h d D) (i : Int) (hf : D.fault i = 0) : s20 [ptr d 0, .int .i64 i] h = some (.tuple #[newSlice h 128, .int .i64 0], h.alloc ((D.read i).map u8)) := by
  unfold s20 ptr
  simp only [x.of, hf, if_true]
theorem s20_bad {h : Heap} {d : Nat} {D : Dk} (x : IsDk h d D) (i : Int) (hf : D.fault i ≠ 0) : s20 [ptr d 0, .int .i64 i] h = some (.tuple #[.slice none 0 0, .int .i64 (D.fault i)], h) := by
  unfold s20 ptr
  simp only [x.of, hf, if_false]
theorem s20_inv {args : List Value} {h h' : Heap} {v : Value} (e : s20 args h = some (v, h')) : (∃ i, args = [.pointer none, .int .i64 i] ∧ v = .tuple #[.slice none 0 0, .int .i64 1] ∧ h' = h) ∨
    ∃ d D i, args = [ptr d 0, .int .i64 i] ∧ IsDk h d D ∧ ((D.fault i = 0 ∧ v = .tuple #[newSlice h 128, .int .i64 0] ∧ h' = h.alloc ((D.read i).map u8)) ∨ (D.fault i ≠ 0 ∧ v = .tuple #[.slice none 0 0, .int .i64 (D.fault i)] ∧ h' = h)) := by
  unfold s20 at e
  split at e
  · cases e; exact .inl ⟨_, rfl, rfl, rfl⟩
  · split at e
    · split at e
      · cases e; exact .inr ⟨_, _, _, rfl, dkOf_spec (by assumption), .inl ⟨by assumption, rfl, rfl⟩⟩
      · cases e; exact .inr ⟨_, _, _, rfl, dkOf_spec (by assumption), .inr ⟨by assumption, rfl, rfl⟩⟩
    · cases e
  · cases e
theorem Dk.read_length {h : Heap} {d : Nat} {D : Dk} (x : IsDk h d D) {i : Int} (hf : D.fault i = 0) : (D.read i).length = 128 := by
  obtain ⟨_, h1, h2⟩ := Dk.fault_zero hf
  have := x.len
  simp only [Dk.read, List.length_take, List.length_drop]
  omega
theorem Dk.read_byte {h : Heap} {d : Nat} {D : Dk} (x : IsDk h d D) (i : Int) : ∀ y ∈ D.read i, y < 256 := fun y hy => x.byte y (List.mem_of_mem_drop (List.mem_of_mem_take hy))

theorem stN_all {h : Heap} {k k' : Blk} (hk : k'.length = k.length) (ho : oneCells k' = true) : stN k.length (ptr h.next 0) (.agg k'.toArray) (h.alloc k) = some (undef, (h.alloc k).set h.next k') := by
  unfold stN ptr
  have hc : (Value.agg k'.toArray).cells = k'.toArray := rfl
  have hg : (h.alloc k).get h.next = some k := by rw [Heap.get_alloc, if_pos rfl]
  simp only [hc, List.size_toArray, hk, if_true]
  unfold stL
  simp only [hg]
  rw [if_pos (by simp [ho, hk, Heap.n0_le_next])]
  have : splice k 0 k' = k' := by simp [splice, hk]
  simp [this]

theorem set_new {h : Heap} {k k' : Blk} {b : Nat} {y : Blk} (hb : (h.alloc k').get b = some y) : ((h.alloc k).set h.next k').get b = some y := by
  rw [Heap.get_alloc] at hb
  have hg : (h.alloc k).get h.next = some k := by rw [Heap.get_alloc, if_pos rfl]
  have h0 : (h.alloc k).n0 ≤ h.next := h.n0_le_next
  split at hb
  · rename_i e; subst e
    rw [Heap.get_set_same h0 hg]; exact hb
  · rename_i e
    rw [Heap.get_set_other h0 (by simp) _ e, Heap.get_alloc, if_neg e]; exact hb

theorem t20_is (C : CallF) (H53 : ∀ args h, C 53 args h = s53 args h) {d : Nat} {D : Dk} {h : Heap} (x : IsDk h d D) (i : Int) (hf : D.fault i = 0) :
    ∃ k, t20 C (ptr d 0) (.int .i64 i) h = some (.tuple #[newSlice h 128, .int .i64 0], (h.alloc k).set h.next ((D.read i).map u8)) := by
  obtain ⟨hdn, hi1, hi2⟩ := Dk.fault_zero hf
  have hlen := Dk.read_length x hf
  have hix : idxS 128 (.slice (some ⟨D.bb, 0, none⟩) D.n D.n) (.int .i64 i) = some (ptr D.bb (i.toNat * 128)) := by
    unfold idxS
    simp only [hi1, hi2, and_self, if_true, Nat.zero_add]
  have hld : ldN 128 (ptr D.bb (i.toNat * 128)) h = some (.agg ((D.read i).map u8).toArray, h) := by
    rw [ldN_at x.img (by have := x.len; simp; omega)]
    simp [Dk.read]
  have hst := stN_all (h := h) (k := List.replicate 128 (.int .u8 0)) (k' := (D.read i).map u8) (by simp [hlen]) (one_u8 _)
  rw [List.length_replicate] at hst
  unfold t20
  simp -implicitDefEqProofs only [thenV_some, H53, s53_at i x, bin28n, pu_some, hf, bne_self_eq_false, nilCheck_ptr, addP_ptr, Nat.zero_add, x.l0, hix, hld, newC, Abs.newRow, hst, arr128]
  exact ⟨_, rfl⟩
theorem t20_bad (C : CallF) (H53 : ∀ args h, C 53 args h = s53 args h) {p : Value} {h : Heap} (i n : Int) (hs : s53 [p, .int .i64 i] h = some (.int .i64 n, h)) (hn : n ≠ 0) :
    t20 C p (.int .i64 i) h = some (.tuple #[.slice none 0 0, .int .i64 n], h) := by
  have hf2 : (n != 0) = true := by simpa using hn
  unfold t20
  simp -implicitDefEqProofs only [thenV_some, H53, hs, bin28n, pu_some, hf2]
theorem is20 : IsFn Try.prog 20 Try.f20 := ⟨by kernel_rfl, by kernel_rfl, by kernel_rfl, by kernel_rfl⟩
theorem c20 : Contract Try.prog 20 s20 := by
  refine .mk' (C := callL [(53, s53)]) (callL_sound _ ?_) mixed is20 ?_ ?_
  · intro p hp
    simp only [List.mem_cons, List.not_mem_nil, or_false] at hp
    rcases hp with rfl
    exact c53
  · intro args h v h' e
    rcases s20_inv e with ⟨i, rfl, rfl, rfl⟩ | ⟨d, D, i, rfl, x, ⟨hf, rfl, rfl⟩ | ⟨hf, rfl, rfl⟩⟩
    · exact ⟨Grow.refl _, fun _ h => ⟨rfl, h⟩⟩
    · exact ⟨Grow.alloc _ _, fun _ h => ⟨by simp [newSlice, bdV, bdL], h.alloc (bd_u8 _ _)⟩⟩
    · exact ⟨Grow.refl _, fun _ h => ⟨rfl, h⟩⟩
  · intro args h v h' e _ hh
    rcases s20_inv e with ⟨i, rfl, rfl, rfl⟩ | ⟨d, D, i, rfl, x, ⟨hf, rfl, rfl⟩ | ⟨hf, rfl, rfl⟩⟩
    · exact ⟨_, h', id, (t20_eq _ _ _ _).trans (t20_bad _ (fun _ _ => rfl) i 1 rfl (by decide)), .none rfl hh (fun _ _ _ h => h)⟩
    · obtain ⟨k, h1⟩ := t20_is (callL [(53, s53)]) (fun _ _ => rfl) x i hf
      refine ⟨_, _, id, (t20_eq _ _ _ _).trans h1, .sub (by simp [newSlice, bdV, bdL]) (hh.alloc (bd_u8 _ _)) ?_⟩
      intro b k' _ hb
      exact set_new hb
    · exact ⟨_, h', id, (t20_eq _ _ _ _).trans (t20_bad _ (fun _ _ => rfl) i _ (s53_at i x) hf), .none rfl hh (fun _ _ _ h => h)⟩

/-- NewDisk. -/
def Dk.new (h : Heap) (n : Nat) : Dk := { bb := h.next, n := n, img := List.replicate (128 * n) 0, down := false, armed := false, after := 0, keep := 0, turn := 0 }
def newDk (h : Heap) (n : Nat) : Heap := (h.alloc ((Dk.new h n).img.map u8)).alloc (Dk.new h n).hdr
noncomputable def s18 : List Value → Heap → Out
  | [.int .i64 n], h => if 4 ≤ n ∧ n ≤ 4096 then some (.tuple #[ptr (h.next + 1) 0, .int .i64 0], newDk h n.toNat) else some (.tuple #[.pointer none, .int .i64 2], h)
  | _, _ => none
theorem s18_at {h : Heap} {n : Int} (hn : 4 ≤ n ∧ n ≤ 4096) : s18 [.int .i64 n] h = some (.tuple #[ptr (h.next + 1) 0, .int .i64 0], newDk h n.toNat) := by
  unfold s18
  simp only [hn, and_self, if_true]
theorem new_is (h : Heap) {n : Nat} (hn : n ≤ 4096) : IsDk (newDk h n) (h.next + 1) (Dk.new h n) := by
  have hn0 := h.n0_le_next
  refine ⟨?_, ?_, by simp [Dk.new], ?_, ?_, ?_, ?_, hn, by simp [Dk.new], by simp [Dk.new]⟩
  · unfold newDk; rw [Heap.get_alloc, if_pos (by simp)]
  · unfold newDk
    rw [Heap.get_alloc, if_neg (by simp [Dk.new]), Heap.get_alloc, show (Dk.new h n).bb = h.next from rfl, if_pos rfl]
  · intro y hy
    rw [show (Dk.new h n).img = List.replicate (128 * n) 0 from rfl] at hy
    rw [List.eq_of_mem_replicate hy]; decide
  · show h.n0 ≤ h.next + 1; omega
  · show h.n0 ≤ h.next; omega
  · show h.next + 1 ≠ h.next; omega
theorem new_kept (h : Heap) (n : Nat) (B : Nat → Prop) : Kept h (newDk h n) B := (Kept.alloc h _ B).trans (Kept.alloc _ _ B)
theorem zeros128 (n : Nat) : zeros (List.replicate 128 (.int .u8 0)) n = (List.replicate (128 * n) 0).map u8 := by
  unfold zeros
  rw [List.map_replicate]
  induction n with
  | zero => rfl
  | succ n ih =>
    rw [List.range_succ, List.flatMap_append, ih]
    simp only [List.flatMap_cons, List.flatMap_nil, List.append_nil, u8]
    rw [show ((0 : Nat) : Int) = 0 from rfl, List.replicate_append_replicate]
    congr 1
theorem mk128 {h : Heap} {n : Nat} (hn : n ≤ 4096) :
    mkR 128 128 (.agg (List.replicate 128 (Value.int .u8 0)).toArray) (i64n n) (i64n n) h = some (newSlice h n, h.alloc ((List.replicate (128 * n) 0).map u8)) := by
  have hc : (Value.agg (List.replicate 128 (Value.int .u8 0)).toArray).cells = (List.replicate 128 (Value.int .u8 0)).toArray := rfl
  unfold mkR
  simp only [hc]
  rw [if_pos (by
    simp only [Bool.and_eq_true, decide_eq_true_eq, beq_iff_eq]
    refine ⟨⟨⟨⟨⟨⟨by omega, Int.le_refl _⟩, by omega⟩, by omega⟩, by simp [flatAll, flat]⟩, by simp⟩, by decide⟩)]
  rw [Int.toNat_natCast, zeros128]
  rfl

end Go.Proofs.Ytcmfgmhadeeieaa
