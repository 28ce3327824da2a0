/-
  DiskTorn: its round.
  Conditions: as each theorem states.
-/
import Derived.Test.YtcmfgmhadeeieaaD9
namespace Go.Proofs.Ytcmfgmhadeeieaa
open Go Go.Abs

theorem bin4n (a b : Bool) : bin Try.prog .neq 4 (.bool a) (.bool b) = some (.bool (a != b)) := by
  cases a <;> cases b <;> kernel_rfl
theorem bin28e (a b : Int) : bin Try.prog .eql 28 (.int .i64 a) (.int .i64 b) = some (.bool (a == b)) := bin_eql ..

/-- What stands before round i. -/
structure TornAt (x : Nat → Value) (g : Heap) (b after keep M d i : Nat) (D : Dk) : Prop where
  i0 : x 0 = i64n b
  i1 : x 1 = i64n after
  i2 : x 2 = i64n keep
  i7 : x 7 = ptr d 0
  i9 : x 9 = .slice (some ⟨M, 0, none⟩) (128 * b) (128 * b)
  i10 : x 10 = i64n i
  dk : IsDk g d D
  n : D.n = b
  img : g.get M = some (D.img.map u8)
  Md : M ≠ d
  Mb : M ≠ D.bb
  M0 : g.n0 ≤ M
  st : i ≤ after → D.down = false ∧ D.armed = true ∧ D.after = ((after - i : Nat) : Int) ∧ D.keep = (keep : Int)
  en : after < i → D.down = true

def fb (i : Nat) : List Nat := partB (fun j => (i + j + 1) % 256) 128
theorem fb_length (i : Nat) : (fb i).length = 128 := partB_length ..
theorem fb_byte (i : Nat) : ∀ x ∈ fb i, x < 256 := by
  intro x hx
  unfold fb partB at hx
  rw [List.mem_map] at hx
  obtain ⟨j, _, rfl⟩ := hx
  split
  · exact Nat.mod_lt _ (by omega)
  · omega

section
variable (C : CallF) (H19 : ∀ args h, C 19 args h = s19 args h)
include H19
theorem torn_round {x : Nat → Value} {g : Heap} {b after keep M d i : Nat} {D : Dk} (S : TornAt x g b after keep M d i D) (hb : 4 ≤ b) (hb2 : b ≤ 64) (ha : after ≤ 20) (hk : keep ≤ 128) (hi : i ≤ after) :
    ∃ x' g' D', t11l11_11111010 C x g = some (.normal, mkF 186 x', g') ∧ TornAt x' g' b after keep M d (i + 1) D' ∧ D'.bb = D.bb ∧ g.next ≤ g'.next ∧ (∀ c, c < g.next → c ≠ d → c ≠ D.bb → c ≠ M → g'.get c = g.get c) := by
  obtain ⟨sd, sa, sf', sk⟩ := S.st hi
  have hle : ((i : Int) ≤ (after : Int)) := by omega
  -- the block to write
  have hmk := mk1 (h := g) (n := 128) (c := 128) (Nat.le_refl _) (by decide)
  have gB : (g.alloc ((List.replicate 128 0).map u8)).get g.next = some ((List.replicate 128 0).map u8) := by rw [Heap.get_alloc, if_pos rfl]
  obtain ⟨y, g2, f1, ⟨y0, y1, y2, y7, y9, y10, y11⟩, fB, fo, fn, fx⟩ := torn_fill C (up x [(11, .slice (some ⟨g.next, 0, none⟩) 128 128), (12, .int .i64 0), (58, i64n i), (59, i64n after), (60, .bool true), (63, .slice (some ⟨g.next, 0, none⟩) 128 128)])
    (g.alloc ((List.replicate 128 0).map u8)) g.next i (by omega) g.n0_le_next gB (by simp only [up_cons, up_nil, Nat.reduceEqDiff, if_false, S.i10]) rfl rfl
  simp only [up_cons, up_nil, Nat.reduceEqDiff, if_false, if_true, S.i0, S.i1, S.i2, S.i7, S.i9, S.i10] at y0 y1 y2 y7 y9 y10 y11
  have hd : d < g.next := S.dk.lt
  have hbb : D.bb < g.next := S.dk.blt
  have hM : M < g.next := g.lt_of_get S.img
  have old : ∀ c, c < g.next → g2.get c = g.get c := by
    intro c hc
    rw [fo c (by omega), Heap.get_alloc, if_neg (by omega)]
  have dk2 : IsDk g2 d D := S.dk.mono fn (old d hd) (old D.bb hbb)
  have sl : sliceBytes (some ⟨g.next, 0, none⟩) 128 g2 = some (fb i) := by
    have := sliceBytes_at (s := none) (off := 0) (n := 128) fB (by rw [partB_length]; omega) (fb_byte i)
    rw [this, List.drop_zero, List.take_of_length_le (by rw [partB_length]; omega)]; rfl
  -- the place
  have hr : (i : Int).tmod (b : Int) = ((i % b : Nat) : Int) := by
    rw [Int.tmod_eq_emod_of_nonneg (by omega)]; omega
  have hat : i % b < b := Nat.mod_lt _ (by omega)
  generalize hA : i % b = A at *
  have hfault : D.fault (A : Int) = 0 := by
    unfold Dk.fault
    rw [sd, S.n, if_neg (by simp), if_neg (by omega)]
  have hw := s19_at (c := 128) dk2 (A : Int) sl rfl
  have okd := Dk.write_okd dk2 (A : Int) (fb_byte i)
  have hpd := dk2.put okd
  -- the model's block behind the write
  have mget : ∀ E : Dk, E.bb = D.bb → (putDk g2 d E).get M = some (D.img.map u8) ∧ (putDk g2 d E).get g.next = some ((fb i).map u8) := by
    intro E hE
    constructor
    · rw [putDk_get dk2 hE, if_neg (by rw [hE]; exact S.Mb), if_neg S.Md, old M hM]; exact S.img
    · rw [putDk_get dk2 hE, if_neg (by rw [hE]; omega), if_neg (by omega)]; exact fB
  have pget : ∀ E : Dk, E.bb = D.bb → ∀ c, c < g.next → c ≠ d → c ≠ D.bb → (putDk g2 d E).get c = g.get c := by
    intro E hE c h1 h2 h3
    rw [putDk_get dk2 hE, if_neg (by rw [hE]; exact h3), if_neg h2]; exact old c h1
  have hlenD : D.img.length = 128 * b := by rw [S.dk.len, S.n]
  have layE : ∀ l : List Nat, (D.lay (A : Int) l).img = spliceN D.img (128 * A) l := by
    intro l
    show spliceN D.img ((A : Int).toNat * 128) l = _
    rw [Int.toNat_natCast, Nat.mul_comm]
  unfold t11l11_11111010
  simp -implicitDefEqProofs only [S.i10, S.i1, thenV_some, bin_leq, pu_some, decide_eq_true hle]
  rw [show (Value.int .i64 128) = i64n 128 from rfl, hmk]
  simp -implicitDefEqProofs only [thenV_some]
  rw [f1]
  simp -implicitDefEqProofs only [endL_exit, b11_27, if_true, t11k11_25_eq]
  unfold t11k11_25
  have hbne : (b : Int) ≠ 0 := by omega
  simp -implicitDefEqProofs only [y0, y1, y2, y7, y9, y10, y11, thenV_some, bin_rem _ _ _ _ _ hbne, hr, pu_some, bin_eql]
  by_cases hlast : i = after
  · subst hlast
    have hD0 : D.after = 0 := by rw [sf']; simp
    have hwr : D.write (A : Int) (fb i) = (9, (D.lay (A : Int) ((fb i).take keep)).off) := by
      unfold Dk.write
      rw [if_pos hfault, if_pos (fb_length i), sa, if_pos rfl, if_pos hD0, sk, Int.toNat_natCast]
    rw [hwr] at hw okd hpd
    have hlk := (D.lay (A : Int) ((fb i).take keep)).off_like
    obtain ⟨m1, m2⟩ := mget _ okd.bb
    simp -implicitDefEqProofs only [beq_self_eq_true, thenV_some, H19, hw, bin28e, pu_some, show ((9 : Int) == 0) = false from rfl, bin_lss, Int.lt_irrefl, decide_false, bin4n, show (false != false) = false from rfl, bOf_bool, guardK_true, bin_eql,
      bin28n, show ((9 : Int) != 9) = false from rfl, if_true, Bool.false_eq_true, if_false]
    obtain ⟨z, g4, c1, ⟨z0, z1, z2, z7, z9, z10⟩, cM, co, cn, cx⟩ := torn_copy C (up y [(13, i64n A), (14, i64n keep), (15, .int .i64 9), (16, .int .i64 0), (76, i64n i), (77, i64n b), (78, i64n A), (79, i64n i), (80, i64n i), (81, .bool true), (82, i64n keep), (83, ptr d 0), (84, i64n A), (85, .slice (some ⟨g.next, 0, none⟩) 128 128), (86, .int .i64 9), (87, .int .i64 9), (88, .bool false), (89, i64n i), (90, i64n i), (91, .bool false), (92, .bool false), (93, .bool false), (94, i64n i), (95, i64n i), (96, .bool true), (97, .bool true), (98, .int .i64 9), (99, .bool false), (100, .bool false), (101, .bool false)])
      (putDk g2 d (D.lay (A : Int) ((fb i).take keep)).off) g.next M A keep (128 * b) D.img (fb i) hk (show g2.n0 ≤ M by rw [fn]; exact S.M0) (by omega) m1 m2 (fb_length i) hlenD (by omega) (by omega) (by simp only [up_cons, up_nil, Nat.reduceEqDiff, if_false, y9]) (by simp only [up_cons, up_nil, Nat.reduceEqDiff, if_false, y11]) rfl rfl rfl
    rw [c1]
    simp only [up_cons, up_nil, Nat.reduceEqDiff, if_false, if_true, y0, y1, y2, y7, y9, y10] at z0 z1 z2 z7 z9 z10
    simp -implicitDefEqProofs only [endL_exit, b11_36, if_true, t11k11_22_eq]
    unfold t11k11_22
    simp -implicitDefEqProofs only [z10, thenV_some, bin_add, pu_some]
    have ebb := okd.bb
    refine ⟨_, _, (D.lay (A : Int) ((fb i).take keep)).off, rfl, ?_, ebb, by rw [cx]; show g.next ≤ g2.next; rw [fx]; exact Nat.le_succ _, fun c h1 h2 h3 h4 => (co c h4).trans (pget _ ebb c h1 h2 h3)⟩
    refine ⟨?_, ?_, ?_, ?_, ?_, ?_, hpd.mono cn (co d S.Md.symm) (co _ (by rw [ebb]; exact S.Mb.symm)), by rw [okd.n]; exact S.n, ?_, S.Md, by rw [ebb]; exact S.Mb, ?_, ?_, ?_⟩
    · simp only [up_cons, up_nil, Nat.reduceEqDiff, if_false, z0]
    · simp only [up_cons, up_nil, Nat.reduceEqDiff, if_false, z1]
    · simp only [up_cons, up_nil, Nat.reduceEqDiff, if_false, z2]
    · simp only [up_cons, up_nil, Nat.reduceEqDiff, if_false, z7]
    · simp only [up_cons, up_nil, Nat.reduceEqDiff, if_false, z9]
    · simp only [up_cons, up_nil, Nat.reduceEqDiff, if_false, if_true]
      rw [wrap_i64 (by omega) (by omega)]
      exact congrArg (Value.int .i64) (by omega)
    · rw [cM, hlk.img, layE]
    · rw [cn]; show g2.n0 ≤ M; rw [fn]; exact S.M0
    · intro h; omega
    · intro _
      unfold Dk.off
      split
      · assumption
      · rfl
  · have hlt : (i : Int) < (after : Int) := by omega
    have hne : ((i : Int) == (after : Int)) = false := by
      have : (i : Int) ≠ (after : Int) := by omega
      simpa using this
    have hwr : D.write (A : Int) (fb i) = (0, { D.lay (A : Int) (fb i) with after := D.after - 1 }) := by
      unfold Dk.write
      rw [if_pos hfault, if_pos (fb_length i), sa, if_pos rfl, if_neg (by omega)]
    rw [hwr] at hw okd hpd
    obtain ⟨m1, m2⟩ := mget _ okd.bb
    simp -implicitDefEqProofs only [hne, thenV_some, H19, hw, bin28e, pu_some, beq_self_eq_true, bin_lss, decide_eq_true hlt, bin4n, bne_self_eq_false, bOf_bool, guardK_true, bin_eql,
      fs, guardK_false, if_true, Bool.false_eq_true, if_false]
    obtain ⟨z, g4, c1, ⟨z0, z1, z2, z7, z9, z10⟩, cM, co, cn, cx⟩ := torn_copy C (up y [(13, i64n A), (14, .int .i64 128), (15, .int .i64 0), (16, .int .i64 0), (76, i64n i), (77, i64n b), (78, i64n A), (79, i64n i), (80, i64n after), (81, .bool false), (83, ptr d 0), (84, i64n A), (85, .slice (some ⟨g.next, 0, none⟩) 128 128), (86, .int .i64 0), (87, .int .i64 0), (88, .bool true), (89, i64n i), (90, i64n after), (91, .bool true), (92, .bool false), (93, .bool false), (94, i64n i), (95, i64n after), (96, .bool false), (97, .bool false), (98, undef), (99, undef), (100, .bool false), (101, .bool false)])
      (putDk g2 d { D.lay (A : Int) (fb i) with after := D.after - 1 }) g.next M A 128 (128 * b) D.img (fb i) (Nat.le_refl _) (show g2.n0 ≤ M by rw [fn]; exact S.M0) (by omega) m1 m2 (fb_length i) hlenD (by omega) (by omega) (by simp only [up_cons, up_nil, Nat.reduceEqDiff, if_false, y9]) (by simp only [up_cons, up_nil, Nat.reduceEqDiff, if_false, y11]) rfl rfl rfl
    rw [c1]
    simp only [up_cons, up_nil, Nat.reduceEqDiff, if_false, if_true, y0, y1, y2, y7, y9, y10] at z0 z1 z2 z7 z9 z10
    simp -implicitDefEqProofs only [endL_exit, b11_36, if_true, t11k11_22_eq]
    unfold t11k11_22
    simp -implicitDefEqProofs only [z10, thenV_some, bin_add, pu_some]
    refine ⟨_, _, { D.lay (A : Int) (fb i) with after := D.after - 1 }, rfl, ?_, rfl, by rw [cx]; show g.next ≤ g2.next; rw [fx]; exact Nat.le_succ _, fun c h1 h2 h3 h4 => (co c h4).trans (pget _ okd.bb c h1 h2 h3)⟩
    refine ⟨?_, ?_, ?_, ?_, ?_, ?_, hpd.mono cn (co d S.Md.symm) (co _ S.Mb.symm), S.n, ?_, S.Md, S.Mb, ?_, ?_, ?_⟩
    · simp only [up_cons, up_nil, Nat.reduceEqDiff, if_false, z0]
    · simp only [up_cons, up_nil, Nat.reduceEqDiff, if_false, z1]
    · simp only [up_cons, up_nil, Nat.reduceEqDiff, if_false, z2]
    · simp only [up_cons, up_nil, Nat.reduceEqDiff, if_false, z7]
    · simp only [up_cons, up_nil, Nat.reduceEqDiff, if_false, z9]
    · simp only [up_cons, up_nil, Nat.reduceEqDiff, if_false, if_true]
      rw [wrap_i64 (by omega) (by omega)]
      exact congrArg (Value.int .i64) (by omega)
    · rw [cM, List.take_of_length_le (by rw [fb_length]; omega)]
      exact congrArg (fun q => some (List.map u8 q)) (layE (fb i)).symm
    · rw [cn]; show g2.n0 ≤ M; rw [fn]; exact S.M0
    · intro h
      exact ⟨sd, sa, by show D.after - 1 = _; omega, sk⟩
    · intro h; omega
end
end Go.Proofs.Ytcmfgmhadeeieaa
