/-
  The device: NewDisk, Image.
  Conditions: as each theorem states.
-/
import Derived.Test.YtcmfgmhadeeieaaD6
namespace Go.Proofs.Ytcmfgmhadeeieaa
open Go Go.Abs

theorem t18_is (C : CallF) {h : Heap} {n : Nat} (h4 : 4 ≤ n) (hn : n ≤ 4096) : t18 C (i64n n) h = some (.tuple #[ptr (h.next + 1) 0, .int .i64 0], newDk h n) := by
  have e1 : ¬ ((n : Int) < 4) := by omega
  have e2 : ¬ ((n : Int) > 4096) := by omega
  have e3 : bldR [(.slice none 0 0), (.bool false), (.bool false), (.int .i64 0), (.int .i64 0), (.int .i64 0)] [(0, 1, newSlice h n)] = some (.agg (Dk.new h n).hdr.toArray) := rfl
  have e4 : box (.agg (Dk.new h n).hdr.toArray) (h.alloc ((List.replicate (128 * n) 0).map u8)) = some (ptr (h.next + 1) 0, newDk h n) := rfl
  unfold t18
  simp -implicitDefEqProofs only [thenV_some, bin_lss, pu_some, e1, decide_false, bOf_bool, beq_self_eq_true, guardK_true, bin_gtr, e2, Bool.false_eq_true, if_false, mk128 hn, e3, e4]
theorem t18_bad (C : CallF) {h : Heap} {n : Int} (hn : ¬ (4 ≤ n ∧ n ≤ 4096)) : t18 C (.int .i64 n) h = some (.tuple #[.pointer none, .int .i64 2], h) := by
  unfold t18
  simp -implicitDefEqProofs only [thenV_some, bin_lss, pu_some]
  by_cases h1 : n < 4
  · simp -implicitDefEqProofs only [h1, decide_true, bOf_bool, sf, guardK_false, thenV_some, if_true]
  · have h2 : n > 4096 := by omega
    simp -implicitDefEqProofs only [h1, decide_false, bOf_bool, beq_self_eq_true, guardK_true, thenV_some, pu_some, bin_gtr, h2, decide_true, Bool.false_eq_true, if_false]
theorem is18 : IsFn Try.prog 18 Try.f18 := ⟨by kernel_rfl, by kernel_rfl, by kernel_rfl, by kernel_rfl⟩
theorem s18_inv {args : List Value} {h h' : Heap} {v : Value} (e : s18 args h = some (v, h')) : ∃ n : Int, args = [.int .i64 n] ∧ (((4 ≤ n ∧ n ≤ 4096) ∧ v = .tuple #[ptr (h.next + 1) 0, .int .i64 0] ∧ h' = newDk h n.toNat) ∨ (¬ (4 ≤ n ∧ n ≤ 4096) ∧ v = .tuple #[.pointer none, .int .i64 2] ∧ h' = h)) := by
  unfold s18 at e
  split at e
  · split at e
    · cases e; exact ⟨_, rfl, .inl ⟨by assumption, rfl, rfl⟩⟩
    · cases e; exact ⟨_, rfl, .inr ⟨by assumption, rfl, rfl⟩⟩
  · cases e
theorem newDk_bd {h : Heap} (hh : HeapBd h) (n : Nat) : HeapBd (newDk h n) := (hh.alloc (bd_u8 _ _)).alloc (bd_hdr (D := Dk.new h n) (by simp [Dk.new]; omega))
theorem c18 : Contract Try.prog 18 s18 := by
  refine .mk' (C := callL []) (callL_sound [] (by simp)) mixed is18 ?_ ?_
  · intro args h v h' e
    obtain ⟨n, rfl, ⟨hn, rfl, rfl⟩ | ⟨hn, rfl, rfl⟩⟩ := s18_inv e
    · exact ⟨(Grow.alloc _ _).trans (Grow.alloc _ _), fun _ h => ⟨by simp [newDk, bdV, bdL, ptr], newDk_bd h _⟩⟩
    · exact ⟨Grow.refl _, fun _ h => ⟨rfl, h⟩⟩
  · intro args h v h' e _ hh
    obtain ⟨n, rfl, ⟨hn, rfl, rfl⟩ | ⟨hn, rfl, rfl⟩⟩ := s18_inv e
    · obtain ⟨m, rfl⟩ : ∃ m : Nat, n = m := ⟨n.toNat, by omega⟩
      exact ⟨_, _, id, (t18_eq _ _ _).trans (t18_is _ (by omega) (by omega)), .sub (by simp [newDk, bdV, bdL, ptr]) (newDk_bd hh _) (fun b k _ hb => hb)⟩
    · exact ⟨_, _, id, (t18_eq _ _ _).trans (t18_bad _ hn), .none rfl hh (fun _ _ _ h => h)⟩

/-- Bytes appended where there is room. -/
theorem append_bytes {h : Heap} {b off len cap n c : Nat} {s : Option Nat} {a : Option Addr} {img l : List Nat} (hb : h.get b = some (img.map u8)) (h0 : h.n0 ≤ b) (hs : sliceBytes a n h = some l)
    (hroom : len + n ≤ cap) (hlen : off + len + n ≤ img.length) (hcap : cap ≤ 140737488355328) :
    ∃ g, appendA 1 1 (.slice (some ⟨b, off, s⟩) len cap) (.slice a n c) h = some (.slice (some ⟨b, off, s⟩) (len + n) cap, g) ∧ g.n0 = h.n0 ∧ g.next = h.next ∧ g.get b = some ((spliceN img (off + len) l).map u8) ∧ (∀ e, e ≠ b → g.get e = h.get e) := by
  have hl := (sliceBytes_spec hs).1
  have hf := firstA_of hs (Nat.le_refl n) (c := c)
  rw [List.take_of_length_le (by omega)] at hf
  unfold appendA
  simp only [lenA]
  rw [hf]
  simp only [one_u8, Bool.not_true, Bool.false_or]
  rw [if_neg (by
    simp only [List.length_map, Bool.or_eq_true, Bool.not_eq_true', decide_eq_false_iff_not, decide_eq_true_eq, not_or, Nat.not_le]
    exact ⟨⟨by omega, by omega⟩, by omega⟩), if_pos hroom]
  by_cases h1 : n = 0
  · subst h1
    have : l = [] := List.length_eq_zero_iff.1 hl
    subst this
    rw [if_pos rfl]
    exact ⟨h, rfl, rfl, rfl, by rw [hb]; simp [spliceN], fun _ _ => rfl⟩
  · rw [if_neg h1]
    refine ⟨h.set b ((spliceN img (off + len) l).map u8), ?_, rfl, rfl, Heap.get_set_same h0 hb _, fun e he => Heap.get_set_other h0 (h.lt_of_get hb) _ he⟩
    unfold stL
    simp only [hb]
    rw [if_pos (by simp only [one_u8, List.length_map, Bool.and_true, Bool.and_eq_true, decide_eq_true_eq]; exact ⟨h0, by omega⟩), Nat.mul_one, spliceN_map]
    rfl

theorem zeros1 (n : Nat) : zeros [.int .u8 0] n = (List.replicate n 0).map u8 := by
  unfold zeros
  rw [List.map_replicate]
  induction n with
  | zero => rfl
  | succ n ih => rw [List.range_succ, List.flatMap_append, ih, List.replicate_succ']; rfl
theorem mk1 {h : Heap} {n c : Nat} (hn : n ≤ c) (hc : c ≤ 281474976710656) :
    mkR 1 1 (.int .u8 0) (i64n n) (i64n c) h = some (.slice (some ⟨h.next, 0, none⟩) n c, h.alloc ((List.replicate c 0).map u8)) := by
  have e : (Value.int .u8 0).cells = #[.int .u8 0] := rfl
  unfold mkR
  simp only [e]
  rw [if_pos (by
    simp only [Bool.and_eq_true, decide_eq_true_eq, beq_iff_eq]
    refine ⟨⟨⟨⟨⟨⟨by omega, by omega⟩, by omega⟩, by omega⟩, rfl⟩, rfl⟩, by decide⟩)]
  rw [Int.toNat_natCast, Int.toNat_natCast, zeros1]

/-- Image. -/
noncomputable def s25 : List Value → Heap → Out
  | [.pointer none], h => some (.slice none 0 0, h)
  | [.pointer (some ⟨d, 0, none⟩)], h => match dkOf h d with
    | some D => some (newSlice h (128 * D.n), h.alloc (D.img.map u8))
    | none => none
  | _, _ => none
theorem s25_at {h : Heap} {d : Nat} {D : Dk} (x : IsDk h d D) : s25 [ptr d 0] h = some (newSlice h (128 * D.n), h.alloc (D.img.map u8)) := by
  unfold s25 ptr
  simp only [x.of]
theorem t25_nil (C : CallF) (h : Heap) : t25 C (.pointer none) h = some (.slice none 0 0, h) := by
  unfold t25
  simp -implicitDefEqProofs only [thenV_some, nil27e', pu_some]

theorem blockBytes {h : Heap} {d : Nat} {D : Dk} (x : IsDk h d D) {i : Nat} (hi : i < D.n) : sliceBytes (some ⟨D.bb, i * 128, none⟩) 128 h = some ((D.img.drop (i * 128)).take 128) := by
  unfold sliceBytes
  rw [Option.bind_eq_some_iff]
  refine ⟨((D.img.drop (i * 128)).take 128).map u8, ?_, bytesOf_map (fun y hy => x.byte y (List.mem_of_mem_drop (List.mem_of_mem_take hy)))⟩
  simp only [firstA, x.img]
  rw [if_neg (by decide), if_pos (by have := x.len; simp; omega)]
  simp

theorem t25_is (C : CallF) {d : Nat} {D : Dk} {h : Heap} (x : IsDk h d D) : ∃ g, t25 C (ptr d 0) h = some (newSlice h (128 * D.n), g) ∧ ∀ b k, (h.alloc (D.img.map u8)).get b = some k → g.get b = some k := by
  have hw : IntKind.wrap .i64 ((D.n : Int) * 128) = ((128 * D.n : Nat) : Int) := by
    rw [wrap_i64 (by omega) (by have := x.small; omega)]
    omega
  have hmk := mk1 (h := h) (n := 0) (c := 128 * D.n) (by omega) (by have := x.small; omega)
  have x0 : IsDk (h.alloc ((List.replicate (128 * D.n) 0).map u8)) d D := x.mono rfl (by rw [Heap.get_alloc, if_neg (by have := x.lt; omega)]) (by rw [Heap.get_alloc, if_neg (by have := x.blt; omega)])
  have hg0 : (h.alloc ((List.replicate (128 * D.n) 0).map u8)).get h.next = some ((List.replicate (128 * D.n) 0).map u8) := by rw [Heap.get_alloc, if_pos rfl]
  unfold t25
  simp -implicitDefEqProofs only [thenV_some, nil27e, pu_some, nilCheck_ptr, addP_ptr, Nat.zero_add, x.l0, lenL_slice, bin_mul, hw]
  rw [show (Value.int .i64 0) = i64n 0 from rfl, hmk]
  simp -implicitDefEqProofs only [thenV_some, pu_some, nilCheck_ptr, addP_ptr, Nat.zero_add, x0.l0, lenL_slice]
  obtain ⟨ex, y, g, h1, rfl, r3, rg, rk⟩ := loop_inv (t25l25_111010_eq C)
    (Inv := fun k y g => k ≤ D.n ∧ y 0 = ptr d 0 ∧ y 3 = .slice (some ⟨h.next, 0, none⟩) (128 * (D.n - k)) (128 * D.n) ∧ y 18 = i64n D.n ∧ y 19 = i64n (D.n - k) ∧
      g.get h.next = some ((D.img.take (128 * (D.n - k)) ++ List.replicate (128 * k) 0).map u8) ∧ g.n0 = h.n0 ∧ g.next = h.next + 1 ∧ ∀ c, c ≠ h.next → g.get c = h.get c)
    (fin := fun ex y g => ex = .exit 0 ∧ y 3 = newSlice h (128 * D.n) ∧ g.get h.next = some (D.img.map u8) ∧ ∀ c, c ≠ h.next → g.get c = h.get c)
    (by
      rintro k y g ⟨hk, i0, i3, i18, i19, ig, in0, inx, io⟩
      have hlen := x.len
      have hsm := x.small
      have xg : IsDk g d D := x.mono in0 (io d (by have := x.lt; omega)) (io D.bb (by have := x.blt; omega))
      unfold t25l25_111010
      simp -implicitDefEqProofs only [i18, i19, bin_lss, pu_some, thenV_some]
      by_cases hz : k = 0
      · subst hz
        simp -implicitDefEqProofs only [Nat.sub_zero, Int.lt_irrefl, decide_false]
        refine ⟨_, _, _, rfl, .inr ⟨by simp, rfl, ?_, ?_, io⟩⟩
        · simp only [up_cons, up_nil, Nat.reduceEqDiff, if_false, i3, Nat.sub_zero]; rfl
        · rw [ig, Nat.sub_zero, List.take_of_length_le (by omega)]; simp
      · have hlt : ((D.n - k : Nat) : Int) < (D.n : Int) := by omega
        have hix : idxS 128 (.slice (some ⟨D.bb, 0, none⟩) D.n D.n) (i64n (D.n - k)) = some (ptr D.bb ((D.n - k) * 128)) := by
          unfold idxS
          simp only [i64n]
          rw [if_pos (by omega), Int.toNat_natCast, Nat.zero_add]
        obtain ⟨g', ha, q1, q2, q3, q4⟩ := append_bytes (b := h.next) (off := 0) (len := 128 * (D.n - k)) (cap := 128 * D.n) (s := none) (c := 128) ig (by rw [in0]; exact h.n0_le_next) (blockBytes xg (i := D.n - k) (by omega))
          (by omega) (by simp; omega) (by omega)
        simp -implicitDefEqProofs only [decide_eq_true hlt, thenV_some, i3, i0, nilCheck_ptr, pu_some, addP_ptr, Nat.zero_add, xg.l0, hix, arr128, ha, bin_add]
        refine ⟨_, _, _, rfl, .inl ⟨rfl, k - 1, by omega, by omega, ?_⟩⟩
        have e1 : D.n - (k - 1) = D.n - k + 1 := by omega
        simp only [up_cons, up_nil, Nat.reduceEqDiff, if_false, if_true, i0, i18, true_and, e1]
        refine ⟨by rw [Nat.mul_add], ?_, ?_, q1.trans in0, q2.trans inx, fun c hc => (q4 c hc).trans (io c hc)⟩
        · rw [wrap_i64 (by omega) (by omega)]; rfl
        · rw [q3]
          refine congrArg (fun q => some (List.map u8 q)) ?_
          have m1 : (D.img.take (128 * (D.n - k))).length = 128 * (D.n - k) := by simp; omega
          have m2 : ((D.img.drop ((D.n - k) * 128)).take 128).length = 128 := by simp; omega
          unfold spliceN
          rw [Nat.zero_add, m2, List.take_left' m1, List.drop_append, m1]
          have m3 : List.drop (128 * (D.n - k) + 128) (List.take (128 * (D.n - k)) D.img) = [] := List.drop_eq_nil_of_le (by rw [m1]; omega)
          have m4 : 128 * k - (128 * (D.n - k) + 128 - 128 * (D.n - k)) = 128 * (k - 1) := by omega
          have m5 : 128 * (D.n - k + 1) = 128 * (D.n - k) + 128 := by omega
          rw [m3, List.nil_append, List.drop_replicate, m4, m5, List.take_add, Nat.mul_comm 128 (D.n - k)])
    (k := D.n) (by have : rounds = 18446744073709551616 := rfl; have := x.small; omega)
    (x := up (bs [ptr d 0]) [(2, .slice none 0 0), (3, .slice (some ⟨h.next, 0, none⟩) 0 (128 * D.n)), (5, ptr d 0), (6, .bool false), (7, ptr d 0), (8, ptr d 0), (9, ptr d 0), (10, .slice (some ⟨D.bb, 0, none⟩) D.n D.n), (11, i64n D.n), (12, i64n (128 * D.n)), (13, .slice (some ⟨h.next, 0, none⟩) 0 (128 * D.n)), (14, ptr d 0), (15, ptr d 0), (16, ptr d 0), (17, .slice (some ⟨D.bb, 0, none⟩) D.n D.n), (18, i64n D.n), (19, i64n 0)])
    (h := h.alloc ((List.replicate (128 * D.n) 0).map u8))
    ⟨Nat.le_refl _, rfl, by rw [Nat.sub_self]; rfl, rfl, by rw [Nat.sub_self]; rfl, by rw [Nat.sub_self, hg0]; simp, rfl, rfl, fun c hc => by rw [Heap.get_alloc, if_neg hc]⟩
  rw [h1]
  simp -implicitDefEqProofs only [endL_exit, b25_7, if_true, t25k25_5_eq]
  unfold t25k25_5
  simp -implicitDefEqProofs only [r3, thenV_some]
  refine ⟨g, rfl, ?_⟩
  intro b k hb
  rw [Heap.get_alloc] at hb
  split at hb
  · rename_i e; subst e; rw [rg]; exact hb
  · rw [rk b (by assumption)]; exact hb
theorem is25 : IsFn Try.prog 25 Try.f25 := ⟨by kernel_rfl, by kernel_rfl, by kernel_rfl, by kernel_rfl⟩
theorem c25 : Contract Try.prog 25 s25 := by
  have key : ∀ args h v h', s25 args h = some (v, h') → (args = [.pointer none] ∧ v = .slice none 0 0 ∧ h' = h) ∨ ∃ d D, args = [ptr d 0] ∧ IsDk h d D ∧ v = newSlice h (128 * D.n) ∧ h' = h.alloc (D.img.map u8) := by
    intro args h v h' e
    unfold s25 at e
    split at e
    · cases e; exact .inl ⟨rfl, rfl, rfl⟩
    · split at e
      · cases e; exact .inr ⟨_, _, rfl, dkOf_spec (by assumption), rfl, rfl⟩
      · cases e
    · cases e
  refine .mk' (C := callL []) (callL_sound [] (by simp)) mixed is25 ?_ ?_
  · intro args h v h' e
    rcases key _ _ _ _ e with ⟨rfl, rfl, rfl⟩ | ⟨d, D, rfl, x, rfl, rfl⟩
    · exact ⟨Grow.refl _, fun _ h => ⟨rfl, h⟩⟩
    · exact ⟨Grow.alloc _ _, fun _ h => ⟨by simp [newSlice, bdV], h.alloc (bd_u8 _ _)⟩⟩
  · intro args h v h' e _ hh
    rcases key _ _ _ _ e with ⟨rfl, rfl, rfl⟩ | ⟨d, D, rfl, x, rfl, rfl⟩
    · exact ⟨_, _, id, (t25_eq _ _ _).trans (t25_nil _ _), .none rfl hh (fun _ _ _ h => h)⟩
    · obtain ⟨g, h1, h2⟩ := t25_is (callL []) x
      exact ⟨_, g, id, (t25_eq _ _ _).trans h1, .sub (by simp [newSlice, bdV]) (hh.alloc (bd_u8 _ _)) (fun b k _ hb => h2 b k hb)⟩

end Go.Proofs.Ytcmfgmhadeeieaa
