/-
  DiskTorn: what it answers.
  Conditions: as each theorem states.
-/
import Derived.Test.YtcmfgmhadeeieaaD10
namespace Go.Proofs.Ytcmfgmhadeeieaa
open Go Go.Abs

section
variable (C : CallF) (H14 : ∀ args h, C 14 args h = s14 args h) (H18 : ∀ args h, C 18 args h = s18 args h) (H48 : ∀ args h, C 48 args h = s48 args h) (H19 : ∀ args h, C 19 args h = s19 args h)
  (H20 : ∀ args h, C 20 args h = s20 args h) (H36 : ∀ args h, C 36 args h = s36 args h) (H25 : ∀ args h, C 25 args h = s25 args h) (H33 : ∀ args h, C 33 args h = s33 args h)
include H19
theorem torn_loop {x : Nat → Value} {g : Heap} {b after keep M d : Nat} {D : Dk} (S : TornAt x g b after keep M d 0 D) (hb : 4 ≤ b) (hb2 : b ≤ 64) (ha : after ≤ 20) (hk : keep ≤ 128) :
    ∃ x' g' D', iter (codeA Try.prog C (partOf Try.f11 [1, 1, 1, 1, 1, 0, 1, 0, 0])) rounds (mkF 186 x) g = some (.exit 0, mkF 186 x', g') ∧ TornAt x' g' b after keep M d (after + 1) D' ∧ D'.bb = D.bb ∧ g.next ≤ g'.next ∧ (∀ c, c < g.next → c ≠ d → c ≠ D.bb → c ≠ M → g'.get c = g.get c) := by
  obtain ⟨ex, x', g', h1, rfl, D', h2⟩ := loop_inv (t11l11_11111010_eq C)
    (Inv := fun k y q => k ≤ after + 1 ∧ ∃ E, TornAt y q b after keep M d (after + 1 - k) E ∧ E.bb = D.bb ∧ g.next ≤ q.next ∧ (∀ c, c < g.next → c ≠ d → c ≠ D.bb → c ≠ M → q.get c = g.get c))
    (fin := fun ex y q => ex = .exit 0 ∧ ∃ E, TornAt y q b after keep M d (after + 1) E ∧ E.bb = D.bb ∧ g.next ≤ q.next ∧ (∀ c, c < g.next → c ≠ d → c ≠ D.bb → c ≠ M → q.get c = g.get c))
    (by
      rintro k y q ⟨hk2, E, T, hbb, hn, hf⟩
      by_cases hz : k = 0
      · subst hz
        have hle : ¬ (((after + 1 - 0 : Nat) : Int) ≤ (after : Int)) := by omega
        unfold t11l11_11111010
        simp -implicitDefEqProofs only [T.i10, T.i1, thenV_some, bin_leq, pu_some, decide_eq_false hle]
        refine ⟨_, _, _, rfl, .inr ⟨by simp, rfl, E, ?_, hbb, hn, hf⟩⟩
        refine ⟨?_, ?_, ?_, ?_, ?_, ?_, T.dk, T.n, T.img, T.Md, T.Mb, T.M0, T.st, T.en⟩
        · simp only [up_cons, up_nil, Nat.reduceEqDiff, if_false, T.i0]
        · simp only [up_cons, up_nil, Nat.reduceEqDiff, if_false, T.i1]
        · simp only [up_cons, up_nil, Nat.reduceEqDiff, if_false, T.i2]
        · simp only [up_cons, up_nil, Nat.reduceEqDiff, if_false, T.i7]
        · simp only [up_cons, up_nil, Nat.reduceEqDiff, if_false, T.i9]
        · simp only [up_cons, up_nil, Nat.reduceEqDiff, if_false, T.i10]; rfl
      · obtain ⟨y', q', E', r1, r2, r3, r4, r5⟩ := torn_round C H19 T hb hb2 ha hk (by omega)
        refine ⟨_, _, _, r1, .inl ⟨rfl, k - 1, by omega, by omega, E', ?_, r3.trans hbb, Nat.le_trans hn r4, fun c h1 h2 h3 h4 => (r5 c (by omega) h2 (by rw [hbb]; exact h3) h4).trans (hf c h1 h2 h3 h4)⟩⟩
        have : after + 1 - (k - 1) = after + 1 - k + 1 := by omega
        rw [this]; exact r2)
    (k := after + 1) (by have : rounds = 18446744073709551616 := rfl; omega) (x := x) (h := g) ⟨Nat.le_refl _, D, by rw [Nat.sub_self]; exact S, rfl, Nat.le_refl _, fun _ _ _ _ _ => rfl⟩
  exact ⟨x', g', D', h1, h2⟩

include H14 H20 H36 H25 H33
theorem torn_end {x : Nat → Value} {g : Heap} {b after keep M d : Nat} {D : Dk} (S : TornAt x g b after keep M d (after + 1) D) (hb : 4 ≤ b) (hb2 : b ≤ 64) (ha : after ≤ 20) :
    ∃ g', t11k11_9 C x g = some (.bool true, g') ∧ (∀ c k, c < g.next → c ≠ d → c ≠ D.bb → g.get c = some k → g'.get c = some k) := by
  have hdown := S.en (by omega)
  have hf : ∀ i, D.fault i = 9 := fun i => by unfold Dk.fault; rw [if_pos hdown]
  have hd : d < g.next := S.dk.lt
  have hbb : D.bb < g.next := S.dk.blt
  have hM : M < g.next := g.lt_of_get S.img
  have hlenD : D.img.length = 128 * b := by rw [S.dk.len, S.n]
  -- the write that is refused
  have hmk := mk1 (h := g) (n := 128) (c := 128) (Nat.le_refl _) (by decide)
  have dk1 : IsDk (g.alloc ((List.replicate 128 0).map u8)) d D := S.dk.mono rfl (by rw [Heap.get_alloc, if_neg (by omega)]) (by rw [Heap.get_alloc, if_neg (by omega)])
  have sl : sliceBytes (some ⟨g.next, 0, none⟩) 128 (g.alloc ((List.replicate 128 0).map u8)) = some (List.replicate 128 0) := by
    rw [sliceBytes_at (l := List.replicate 128 0) (by rw [Heap.get_alloc, if_pos rfl]) (by simp) (by intro y hy; rw [List.eq_of_mem_replicate hy]; decide)]
    rfl
  have hw := s19_at (c := 128) dk1 0 sl rfl
  have hwr : D.write 0 (List.replicate 128 0) = (9, D) := by
    unfold Dk.write
    rw [hf, if_neg (by decide)]
  rw [hwr] at hw
  have dk2 : IsDk (putDk (g.alloc ((List.replicate 128 0).map u8)) d D) d D := dk1.put ⟨rfl, rfl, rfl, dk1.byte, dk1.after, dk1.keep⟩
  have g2 : ∀ c k, (g.alloc ((List.replicate 128 0).map u8)).get c = some k ↔ (putDk (g.alloc ((List.replicate 128 0).map u8)) d D).get c = some k := putDk_self dk1
  have n2 : (putDk (g.alloc ((List.replicate 128 0).map u8)) d D).next = g.next + 1 := rfl
  have o2 : (putDk (g.alloc ((List.replicate 128 0).map u8)) d D).n0 = g.n0 := rfl
  have slM0 : sliceBytes (some ⟨M, 0, none⟩) (128 * b) g = some D.img := by
    rw [sliceBytes_at S.img (by omega) S.dk.byte, List.drop_zero, List.take_of_length_le (by omega)]
  have m1 : ∀ c k, g.get c = some k → (putDk (g.alloc ((List.replicate 128 0).map u8)) d D).get c = some k := fun c k hc => (g2 c k).1 (Heap.get_alloc_some hc _)
  generalize hG2 : putDk (g.alloc ((List.replicate 128 0).map u8)) d D = G2 at *
  -- the image
  have hi := s25_at dk2
  rw [S.n] at hi
  have slI : sliceBytes (some ⟨G2.next, 0, none⟩) (128 * b) (G2.alloc (D.img.map u8)) = some D.img := by
    rw [sliceBytes_at (l := D.img) (by rw [Heap.get_alloc, if_pos rfl]) (by omega) S.dk.byte, List.drop_zero, List.take_of_length_le (by omega)]
  have cv1 := cvBS_at (c := 128 * b) slI
  have slM2 : sliceBytes (some ⟨M, 0, none⟩) (128 * b) G2 = some D.img := sliceBytes_mono slM0 m1
  have slM3 : sliceBytes (some ⟨M, 0, none⟩) (128 * b) (G2.alloc (D.img.map u8)) = some D.img := sliceBytes_mono slM2 (fun c k hc => Heap.get_alloc_some hc _)
  have cv2 := cvBS_at (c := 128 * b) slM2
  have cv3 := cvBS_at (c := 128 * b) slM3
  -- power
  have dk3 : IsDk (G2.alloc (D.img.map u8)) d D := dk2.mono rfl (by rw [Heap.get_alloc, if_neg (by omega)]) (by rw [Heap.get_alloc, if_neg (by omega)])
  have m3 : ∀ c k, g.get c = some k → (G2.alloc (D.img.map u8)).get c = some k := fun c k hc => Heap.get_alloc_some (m1 c k hc) _
  have n3 : (G2.alloc (D.img.map u8)).next = g.next + 2 := by rw [Heap.next_alloc, n2]
  generalize hG3 : G2.alloc (D.img.map u8) = G3 at *
  have hon : s33 [ptr d 0] G3 = some (.tuple #[], putDk G3 d D.on) := by
    unfold s33 ptr
    simp only [dk3.of]
  have dk4 : IsDk (putDk G3 d D.on) d D.on := dk3.put ⟨rfl, rfl, rfl, dk3.byte, dk3.after, dk3.keep⟩
  have get4 := putDk_get (E := D.on) dk3 rfl
  have n4 : (putDk G3 d D.on).next = g.next + 2 := n3
  have slM4 : sliceBytes (some ⟨M, 0, none⟩) (128 * b) (putDk G3 d D.on) = some D.img := by
    rw [sliceBytes_congr (h := G3) (fun y hy => by
      cases hy
      rw [get4, if_neg (by exact S.Mb), if_neg S.Md])]
    exact slM3
  have m4 : ∀ c k, c ≠ d → c ≠ D.bb → g.get c = some k → (putDk G3 d D.on).get c = some k := by
    intro c k h1 h2 h3
    rw [get4, if_neg (by exact h2), if_neg h1]; exact m3 c k h3
  generalize hG4 : putDk G3 d D.on = G4 at *
  -- the block that is read
  have hbne : (b : Int) ≠ 0 := by omega
  have hr : (after : Int).tmod (b : Int) = ((after % b : Nat) : Int) := by
    rw [Int.tmod_eq_emod_of_nonneg (by omega)]; omega
  have hat : after % b < b := Nat.mod_lt _ (by omega)
  generalize hA : after % b = A at *
  have hnoF : ∀ i : Int, 0 ≤ i → i < b → D.on.fault i = 0 := by
    intro i h1 h2
    unfold Dk.fault
    rw [show D.on.down = false from rfl, if_neg (by simp), show D.on.n = D.n from rfl, S.n, if_neg (by omega)]
  have hrd := s20_at dk4 (A : Int) (hnoF A (by omega) (by omega))
  have hrl : (D.on.read (A : Int)).length = 128 := Dk.read_length dk4 (hnoF A (by omega) (by omega))
  have hrb := Dk.read_byte dk4 (A : Int)
  have hre : D.on.read (A : Int) = (D.img.drop (128 * A)).take 128 := by
    unfold Dk.read
    rw [Int.toNat_natCast, Nat.mul_comm]; rfl
  have dk5 : IsDk (G4.alloc ((D.on.read (A : Int)).map u8)) d D.on := dk4.mono rfl (by rw [Heap.get_alloc, if_neg (by omega)]) (by rw [Heap.get_alloc, if_neg (by show D.bb ≠ _; omega)])
  have slR5 : sliceBytes (some ⟨G4.next, 0, none⟩) 128 (G4.alloc ((D.on.read (A : Int)).map u8)) = some (D.on.read (A : Int)) := by
    rw [sliceBytes_at (l := D.on.read (A : Int)) (by rw [Heap.get_alloc, if_pos rfl]) (by omega) hrb, List.drop_zero, List.take_of_length_le (by omega)]
  have slM5 : sliceBytes (some ⟨M, 0, none⟩) (128 * b) (G4.alloc ((D.on.read (A : Int)).map u8)) = some D.img := sliceBytes_mono slM4 (fun c k hc => Heap.get_alloc_some hc _)
  have m5 : ∀ c k, c ≠ d → c ≠ D.bb → g.get c = some k → (G4.alloc ((D.on.read (A : Int)).map u8)).get c = some k := fun c k h1 h2 h3 => Heap.get_alloc_some (m4 c k h1 h2 h3) _
  have cvR := cvBS_at (c := 128) slR5
  obtain ⟨a', c', e1, e2, e3⟩ := slR_bytes (vl := some (i64n (128 * A))) (vh := some (i64n (128 * A + 128))) (lo := 128 * A) (hi := 128 * A + 128) (c := 128 * b) (a := some ⟨M, 0, none⟩) (by unfold goodS; simp) slM5 (by omega) (by omega)
    (by simp only [boundA, i64n]; rw [if_pos (by omega)]; rfl) (by simp only [boundA, i64n]; rw [if_pos (by omega)]; rfl)
  rw [Nat.add_sub_cancel_left] at e1 e2 e3
  have cvP := cvBS_at (c := c') e2
  have w1 : IntKind.wrap .i64 (128 * (A : Int)) = ((128 * A : Nat) : Int) := by rw [wrap_i64 (by omega) (by omega)]; omega
  have w2 : IntKind.wrap .i64 (((128 * A : Nat) : Int) + 128) = ((128 * A + 128 : Nat) : Int) := by rw [wrap_i64 (by omega) (by omega)]; omega
  have hm1 : bin Try.prog .mul 3 (i64n 128) (.int .i64 (A : Int)) = some (i64n (128 * A)) := by
    rw [bin_mul]
    have : IntKind.wrap .i64 (((128 : Nat) : Int) * (A : Int)) = ((128 * A : Nat) : Int) := w1
    rw [this]
  have ha1 : bin Try.prog .add 3 (i64n (128 * A)) (i64n 128) = some (i64n (128 * A + 128)) := by
    rw [bin_add]
    have : IntKind.wrap .i64 (((128 * A : Nat) : Int) + ((128 : Nat) : Int)) = ((128 * A + 128 : Nat) : Int) := w2
    rw [this]
  have dn5 := s36_at dk5
  have hw5 := s19_at (c := 128) dk5 1 slR5 rfl
  have hwr5 : D.on.write 1 (D.on.read (A : Int)) = (0, D.on.lay 1 (D.on.read (A : Int))) := by
    unfold Dk.write
    rw [if_pos (hnoF 1 (by omega) (by omega)), if_pos hrl, if_neg (by simp [Dk.on])]
  rw [hwr5] at hw5
  have h14 : ∀ q : Heap, s14 [] q = some (.bool true, q) := fun _ => rfl
  have hs : ∀ l m : List Nat, l = m → (!((strOf l).toList == (strOf m).toList)) = false := by
    rintro l _ rfl
    simp
  have hs2 : ∀ l m : List Nat, l = m → ((strOf l).toList == (strOf m).toList) = true := by
    rintro l _ rfl
    simp
  have hchk : ∀ (o : Out) (v : Value) (q : Heap), o = some (v, q) → veq v v = true → chkR true o v = true := by
    rintro o v q rfl h
    unfold chkR same
    simpa using h
  have hv : veq (.string (strOf D.img)) (.string (strOf D.img)) = true := by simp [veq]
  have hbad := s20_bad S.dk 0 (by rw [hf]; decide)
  rw [hf] at hbad
  have dn0 := s36_at S.dk
  rw [hdown] at dn0
  have hc := hchk (cvBS (.slice (some ⟨M, 0, none⟩) (128 * b) (128 * b)) G2) _ _ cv2 hv
  have hxt0 : ∀ a b : Value, extractA (.tuple #[a, b]) 0 = some a := fun _ _ => rfl
  have hxt1 : ∀ a b : Value, extractA (.tuple #[a, b]) 1 = some b := fun _ _ => rfl
  unfold t11k11_9
  simp -implicitDefEqProofs only [S.i7, S.i9, S.i0, S.i1, thenV_some, H20, hbad, hxt0, hxt1, pu_some, H36, dn0, unA_not, Bool.not_true, bOf_bool, beq_self_eq_true, guardK_true, bin28n, show ((9 : Int) != 9) = false from rfl, Bool.false_eq_true, if_false]
  rw [show (Value.int .i64 128) = i64n 128 from rfl, hmk]
  simp -implicitDefEqProofs only [thenV_some, H19, hw, hG2, bin28n, pu_some, show ((9 : Int) != 9) = false from rfl, Bool.false_eq_true, if_false, bOf_bool, beq_self_eq_true, guardK_true, H25, hi, newSlice, hG3, cv1, cv3, bin_str_neq, hs D.img D.img rfl, Bool.not_true, hc, Bool.and_true,
    H33, hon, hG4, bin_rem _ _ _ _ _ hbne, hr, hrd, hxt0, hxt1, H36, dn5, show D.on.down = false from rfl, unA_not, Bool.not_false, bin28e, show ((0 : Int) == 0) = true from rfl, if_true, cvR, hm1, ha1, e1, cvP, bin_str_eql, hs2 _ _ hre, hw5, H14, h14]
  refine ⟨_, rfl, ?_⟩
  intro c k h1 h2 h3 h4
  rw [putDk_get dk5 (E := D.on.lay 1 (D.on.read (A : Int))) rfl, if_neg (by exact h3), if_neg h2]
  exact m5 c k h2 h3 h4

theorem torn_rest {X : Nat → Value} {h g : Heap} {b after keep M d : Nat} {D : Dk} (S : TornAt X g b after keep M d 0 D) (hb : 4 ≤ b) (hb2 : b ≤ 64) (ha : after ≤ 20) (hk : keep ≤ 128)
    (old : ∀ c k, h.get c = some k → g.get c = some k ∧ c ≠ d ∧ c ≠ D.bb ∧ c ≠ M) :
    ∃ g', endL (iter (codeA Try.prog C (partOf Try.f11 [1, 1, 1, 1, 1, 0, 1, 0, 0])) rounds (mkF 186 X) g) (resultsA Try.prog Try.f11.results.toList) (b11_11 C) = some (.bool true, g') ∧ ∀ c k, h.get c = some k → g'.get c = some k := by
  obtain ⟨y, q, E, h1, T, hbb, hn, hf⟩ := torn_loop C H19 S hb hb2 ha hk
  obtain ⟨g', h2, h3⟩ := torn_end C H14 H19 H20 H36 H25 H33 T hb hb2 ha
  rw [h1]
  simp -implicitDefEqProofs only [endL_exit, b11_11, if_true, t11k11_9_eq]
  refine ⟨g', h2, fun c k hc => ?_⟩
  obtain ⟨a1, a2, a3, a4⟩ := old c k hc
  have hlt := g.lt_of_get a1
  exact h3 c k (by omega) a2 (by rw [hbb]; exact a3) (by rw [hf c hlt a2 a3 a4]; exact a1)

include H18 H48
theorem t11_is (b after keep : Int) (h : Heap) (hb : inI64 b = true) (ha : inI64 after = true) (hk : inI64 keep = true) :
    ∃ g', t11 C (.int .i64 b) (.int .i64 after) (.int .i64 keep) h = some (.bool true, g') ∧ ∀ c k, h.get c = some k → g'.get c = some k := by
  have h14 : ∀ q : Heap, s14 [] q = some (.bool true, q) := fun _ => rfl
  have hxt0 : ∀ a b : Value, extractA (.tuple #[a, b]) 0 = some a := fun _ _ => rfl
  have hxt1 : ∀ a b : Value, extractA (.tuple #[a, b]) 1 = some b := fun _ _ => rfl
  unfold t11
  simp -implicitDefEqProofs only [thenV_some, bin_lss, pu_some, bOf_bool]
  by_cases c1 : b < 4
  · simp -implicitDefEqProofs only [c1, decide_true, sf, guardK_false, thenV_some, if_true, bOf_bool, H14, h14]
    exact ⟨h, rfl, fun _ _ h => h⟩
  simp -implicitDefEqProofs only [c1, decide_false, beq_self_eq_true, guardK_true, thenV_some, pu_some, bin_gtr, Bool.false_eq_true, if_false, bOf_bool]
  by_cases c2 : b > 64
  · simp -implicitDefEqProofs only [c2, decide_true, sf, guardK_false, thenV_some, if_true, bOf_bool, H14, h14]
    exact ⟨h, rfl, fun _ _ h => h⟩
  simp -implicitDefEqProofs only [c2, decide_false, beq_self_eq_true, guardK_true, thenV_some, pu_some, bin_lss, Bool.false_eq_true, if_false, bOf_bool]
  by_cases c3 : after < 0
  · simp -implicitDefEqProofs only [c3, decide_true, sf, guardK_false, thenV_some, if_true, bOf_bool, H14, h14]
    exact ⟨h, rfl, fun _ _ h => h⟩
  simp -implicitDefEqProofs only [c3, decide_false, beq_self_eq_true, guardK_true, thenV_some, pu_some, bin_gtr, Bool.false_eq_true, if_false, bOf_bool]
  by_cases c4 : after > 20
  · simp -implicitDefEqProofs only [c4, decide_true, sf, guardK_false, thenV_some, if_true, bOf_bool, H14, h14]
    exact ⟨h, rfl, fun _ _ h => h⟩
  simp -implicitDefEqProofs only [c4, decide_false, beq_self_eq_true, guardK_true, thenV_some, pu_some, bin_lss, Bool.false_eq_true, if_false, bOf_bool]
  by_cases c5 : keep < 0
  · simp -implicitDefEqProofs only [c5, decide_true, sf, guardK_false, thenV_some, if_true, bOf_bool, H14, h14]
    exact ⟨h, rfl, fun _ _ h => h⟩
  simp -implicitDefEqProofs only [c5, decide_false, beq_self_eq_true, guardK_true, thenV_some, pu_some, bin_gtr, Bool.false_eq_true, if_false, bOf_bool]
  by_cases c6 : keep > 128
  · simp -implicitDefEqProofs only [c6, decide_true, sf, guardK_false, thenV_some, if_true, bOf_bool, H14, h14]
    exact ⟨h, rfl, fun _ _ h => h⟩
  obtain ⟨bn, rfl⟩ : ∃ bn : Nat, b = bn := ⟨b.toNat, by omega⟩
  obtain ⟨an, rfl⟩ : ∃ an : Nat, after = an := ⟨after.toNat, by omega⟩
  obtain ⟨kn, rfl⟩ : ∃ kn : Nat, keep = kn := ⟨keep.toNat, by omega⟩
  have hnew := s18_at (h := h) (n := (bn : Int)) ⟨by omega, by omega⟩
  rw [Int.toNat_natCast] at hnew
  have dk0 := new_is h (n := bn) (by omega)
  have harm : s48 [ptr (h.next + 1) 0, .int .i64 an, .int .i64 kn] (newDk h bn) = some (.int .i64 0, putDk (newDk h bn) (h.next + 1) { Dk.new h bn with armed := true, after := an, keep := kn }) := by
    unfold s48 ptr
    simp only [dk0.of]
    rw [if_pos (by omega)]
    have : (Dk.new h bn).arm an kn = (0, { Dk.new h bn with armed := true, after := an, keep := kn }) := by
      unfold Dk.arm
      rw [if_neg (by simp [Dk.new]), if_neg (by omega)]
    rw [this]
  have dk1 : IsDk (putDk (newDk h bn) (h.next + 1) { Dk.new h bn with armed := true, after := an, keep := kn }) (h.next + 1) { Dk.new h bn with armed := true, after := an, keep := kn } :=
    dk0.put ⟨rfl, rfl, rfl, dk0.byte, ⟨by show (0 : Int) ≤ an; omega, by show (an : Int) ≤ _; omega⟩, ⟨by show (0 : Int) ≤ kn; omega, by show (kn : Int) ≤ _; omega⟩⟩
  have get1 := fun c => putDk_get dk0 (E := { Dk.new h bn with armed := true, after := an, keep := kn }) rfl c
  have n1 : (putDk (newDk h bn) (h.next + 1) { Dk.new h bn with armed := true, after := an, keep := kn }).next = h.next + 2 := rfl
  have o1 : (putDk (newDk h bn) (h.next + 1) { Dk.new h bn with armed := true, after := an, keep := kn }).n0 = h.n0 := rfl
  have old1 : ∀ c k, h.get c = some k → (putDk (newDk h bn) (h.next + 1) { Dk.new h bn with armed := true, after := an, keep := kn }).get c = some k := by
    intro c k hc
    have hlt := h.lt_of_get hc
    rw [get1, if_neg (by show c ≠ h.next; omega), if_neg (by omega)]
    exact ((new_kept h bn (fun _ => False)).get c hlt (fun h => h)).trans hc
  have hm : bin Try.prog .mul 3 (.int .i64 128) (.int .i64 (bn : Int)) = some (i64n (128 * bn)) := by
    rw [bin_mul, wrap_i64 (by omega) (by omega)]
    exact congrArg (fun q => some (Value.int .i64 q)) (by omega)
  generalize hG : putDk (newDk h bn) (h.next + 1) { Dk.new h bn with armed := true, after := an, keep := kn } = G at *
  have hmk := mk1 (h := G) (n := 128 * bn) (c := 128 * bn) (Nat.le_refl _) (by omega)
  simp -implicitDefEqProofs only [c6, decide_false, Bool.false_eq_true, if_false, H18, hnew, thenV_some, hxt0, hxt1, pu_some, bin28n, show ((0 : Int) != 0) = false from rfl, bOf_bool, beq_self_eq_true, guardK_true, H48, harm, hm, hmk]
  refine torn_rest C H14 H19 H20 H36 H25 H33 (b := bn) (after := an) (keep := kn) (M := G.next) (d := h.next + 1) (D := { Dk.new h bn with armed := true, after := an, keep := kn }) ⟨rfl, rfl, rfl, rfl, rfl, rfl, ?_, rfl, ?_, by omega, by show G.next ≠ h.next; omega, G.n0_le_next, ?_, by omega⟩ (by omega) (by omega) (by omega) (by omega) ?_
  · exact dk1.mono rfl (by rw [Heap.get_alloc, if_neg (by omega)]) (by rw [Heap.get_alloc, if_neg (by show h.next ≠ _; omega)])
  · rw [Heap.get_alloc, if_pos rfl]; rfl
  · intro _; exact ⟨rfl, rfl, by simp, rfl⟩
  · intro c k hc
    have hlt := h.lt_of_get hc
    exact ⟨Heap.get_alloc_some (old1 c k hc) _, by omega, by show c ≠ h.next; omega, by omega⟩
end

def s11 : List Value → Heap → Out
  | [.int .i64 a, .int .i64 b, .int .i64 c], h => if inI64 a && inI64 b && inI64 c then some (.bool true, h) else none
  | _, _ => none
theorem is11 : IsFn Try.prog 11 Try.f11 := ⟨by kernel_rfl, by kernel_rfl, by kernel_rfl, by kernel_rfl⟩
noncomputable abbrev C11 : CallF := callL [(14, s14), (18, s18), (48, s48), (19, s19), (20, s20), (36, s36), (25, s25), (33, s33)]
theorem C11_sound : CSound Try.prog C11 := callL_sound _ (by
  intro p hp
  simp only [List.mem_cons, List.not_mem_nil, or_false] at hp
  rcases hp with rfl | rfl | rfl | rfl | rfl | rfl | rfl | rfl
  · exact c14
  · exact c18
  · exact c48
  · exact c19
  · exact c20
  · exact c36
  · exact c25
  · exact c33)
theorem c11 : Contract Try.prog 11 s11 := by
  have key : ∀ args h v h', s11 args h = some (v, h') → ∃ a b c, args = [.int .i64 a, .int .i64 b, .int .i64 c] ∧ inI64 a = true ∧ inI64 b = true ∧ inI64 c = true ∧ v = .bool true ∧ h' = h := by
    intro args h v h' e
    unfold s11 at e
    split at e
    · split at e
      · rename_i hh
        simp only [Bool.and_eq_true] at hh
        cases e
        exact ⟨_, _, _, rfl, hh.1.1, hh.1.2, hh.2, rfl, rfl⟩
      · cases e
    · cases e
  refine .quiet C11_sound mixed is11 ?_ ?_
  · intro args h v h' e
    obtain ⟨a, b, c, rfl, _, _, _, rfl, rfl⟩ := key _ _ _ _ e
    exact ⟨rfl, fun _ => rfl⟩
  · intro args h v h' e _ _
    obtain ⟨a, b, c, rfl, ha, hb, hc, rfl, rfl⟩ := key _ _ _ _ e
    obtain ⟨g', h1, h2⟩ := t11_is C11 (fun _ _ => rfl) (fun _ _ => rfl) (fun _ _ => rfl) (fun _ _ => rfl) (fun _ _ => rfl) (fun _ _ => rfl) (fun _ _ => rfl) (fun _ _ => rfl) a b c h' ha hb hc
    exact ⟨g', (t11_eq _ _ _ _ _).trans h1, h2⟩
end Go.Proofs.Ytcmfgmhadeeieaa
