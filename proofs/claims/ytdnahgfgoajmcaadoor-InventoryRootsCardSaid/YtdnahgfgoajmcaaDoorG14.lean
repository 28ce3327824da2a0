/-
  The digest's Hash: Sum, whole; NewHash.
  Conditions: the digest's table holds what it holds at the start.
  The hashes of records and of nodes.
  Conditions: the digest's table holds what it holds at the start.
  The document's SHA-256: the words of a block.
  Conditions: as each theorem states.
  The document's SHA-256: the rounds.
  Conditions: as each theorem states.
  The document's SHA-256: a block.
  Conditions: as each theorem states.
  The document's SHA-256: the padding of a message.
  Conditions: as each theorem states.
  The document's SHA-256: the blocks, and the digest's bytes.
  Conditions: as each theorem states.
  The document's SHA-256: fold.
  Conditions: as each theorem states.
  The document's hashes of records and of nodes.
  Conditions: the package variables hold what they hold at the start.
  The document's hash of two hashes.
  Conditions: the package variables hold what they hold at the start.
  Both hashes are one: what is written, block by block.
  Conditions: none (plain lists).
  Both hashes are one.
  Conditions: none (plain lists).
  Both sides hash records and nodes alike.
  Conditions: none (plain lists).
  InventoryVerifies: half, of the document.
  Conditions: as each theorem states.
  InventoryVerifies: the inner loop of Verify.
  Conditions: as each theorem states.
  InventoryVerifies: the loop of Verify over a proof.
  Conditions: as each theorem states.
  InventoryVerifies: Verify, whole.
  Conditions: as each theorem states.
  InventoryVerifies: climb, of the document.
  Conditions: the package variables hold what they hold at the start.
  InventoryVerifies: the plain law: the program and the document accept the same proofs.
  Conditions: as each theorem states.
  InventoryVerifies: Verify of the document, and the law.
  Conditions: the package variables hold what they hold at the start.
  InventoryProofs, InventoryRoots: the plain law of the tree: by halves, by levels, by a stack.
  Conditions: as each theorem states.
-/
import Derived.Test.YtdnahgfgoajmcaaDoorG13
namespace Go.Proofs.YtdnahgfgoajmcaaDoor
open Go Go.Abs
attribute [local congr] thenV_congr
theorem is123 : IsFn Tryd.prog 123 Tryd.f123 := ⟨by kernel_rfl, by kernel_rfl, by kernel_rfl, by kernel_rfl⟩
theorem is121 : IsFn Tryd.prog 121 Tryd.f121 := ⟨by kernel_rfl, by kernel_rfl, by kernel_rfl, by kernel_rfl⟩
theorem results123 : Tryd.f123.results.toList = [.cell 2 35] := by kernel_rfl
theorem agg35 : aggT Tryd.prog 35 = some true := by kernel_rfl
theorem dig_cells {l : List Nat} (h : D32 l) : (u8s l).length = 32 ∧ Abs.noHoles (u8s l) = true ∧ oneCells (u8s l) = true := by
  have t := dig_typed h
  exact ⟨t.1, t.all.1, t.all.2.1⟩
set_option maxRecDepth 100000 in
/-- Sum -/
theorem r123 {h : Heap} (hG : 4 ≤ h.n0) (hz : h.get 3 = some roundsL) {p : Nat} {s : HD} (o : s.Ok) (hp : h.get p = some s.cells) (hn : s.n ≤ 100000) :
    ∃ h', CW 123 [ptr p 0] h = some (.agg (u8s s.sum).toArray, h') ∧ Old h h' := by
  have hplt := h.lt_of_get hp
  have clen : s.cells.length = 73 := by
    show (hashC s.S s.B s.n).length = 73
    rw [hash_len, o.S, o.B]
  have hok := hash_ok s
  obtain ⟨h1, z1, o1, g1, n1⟩ := fresh (List.replicate 32 (.int .u8 0)) h
  have L1 := ldN_all (n := 73) (Old.get o1 hp) clen hok.1
  obtain ⟨h2, z2, o2, g2, n2⟩ := fresh zHash h1
  obtain ⟨h3, e3, k3, g3, _, n3⟩ := stored_all (n := 73) (k' := s.cells) g2 (by rw [o2.n0]; exact h1.n0_le_next) rfl clen hok.2
  have o3 : Old h1 h3 := Old.of_new o2 k3 (Nat.le_refl _)
  obtain ⟨h4, z4, o4, g4, n4⟩ := fresh (List.replicate 72 (.int .u8 0)) h3
  have hp4 : h4.n0 ≤ h3.next := by rw [o4.n0]; exact h3.n0_le_next
  have ix0 : idxA 72 1 (ptr h3.next 0) (.int .i64 0) = some (ptr h3.next 0) := by
    have := idxN (N := 72) (b := h3.next) (o := 0) (i := 0) (by decide)
    exact this
  obtain ⟨h5, e5, k5, g5, _, n5⟩ := stored (o := 0) (v := .int .u8 128) g4 hp4 (by decide) rfl rfl
  have o5 : Old h3 h5 := Old.of_new o4 k5 (Nat.le_refl _)
  have O5 : Old h h5 := (o1.trans o3).trans o5
  have l72 : ld1 (ptr p 72) h5 = some (i64n s.n, h5) := ld1_at (Old.get O5 hp) (by
    show (hashC s.S s.B s.n)[72]? = _
    unfold hashC
    rw [List.getElem?_append_right (by simp [o.S]), List.getElem?_append_right (by simp [o.S, o.B])]
    simp [o.S, o.B]) rfl
  have a8 : bin Tryd.prog .add 3 (i64n s.n) (.int .i64 8) = some (i64n (s.n + 8)) := by
    unfold i64n
    rw [bin_add, show (s.n : Int) + 8 = ((s.n + 8 : Nat) : Int) by omega, wrap_i64 (by omega) (by omega)]
  have rm : bin Tryd.prog .rem 3 (i64n (s.n + 8)) (.int .i64 64) = some (i64n ((s.n + 8) % 64)) := by
    unfold i64n
    rw [bin_rem Tryd.prog 3 .i64 _ 64 (by decide)]
    rfl
  have hm : (s.n + 8) % 64 < 64 := Nat.mod_lt _ (by decide)
  have sb : bin Tryd.prog .sub 3 (.int .i64 64) (i64n ((s.n + 8) % 64)) = some (i64n (64 - (s.n + 8) % 64)) := by
    unfold i64n
    rw [bin_sub, show (64 : Int) - (((s.n + 8) % 64 : Nat) : Int) = ((64 - (s.n + 8) % 64 : Nat) : Int) by omega, wrap_i64 (by omega) (by omega)]
  have cu : cvI .u64 (i64n s.n) h5 = some (.int .u64 (s.n : Int), h5) := by
    unfold i64n
    rw [cvI_int, wrap_u64 (by omega) (by omega)]
  have ml : bin Tryd.prog .mul 32 (.int .u64 (s.n : Int)) (.int .u64 8) = some (.int .u64 ((s.n * 8 : Nat) : Int)) := by
    rw [bin_mul, show (s.n : Int) * 8 = ((s.n * 8 : Nat) : Int) by omega, wrap_u64 (by omega) (by omega)]
  have hpad : padOf s.n = (padT (64 - (s.n + 8) % 64) (s.n * 8) 8).take (64 - (s.n + 8) % 64 + 8) := rfl
  have hplen : (padOf s.n).length = 64 - (s.n + 8) % 64 + 8 := by rw [hpad, List.length_take, padT_len]; omega
  have hsum : s.sum = digT (s.wr (padOf s.n)).S 32 := rfl
  generalize hNN : 64 - (s.n + 8) % 64 = N at *
  have hN : N ≤ 64 := by omega
  have hp5 : h5.n0 ≤ h3.next := by rw [k5.n0]; exact hp4
  have key : ∃ o : Out, t123 CW (ptr p 0) h = o ∧ ∃ h', o = some (.agg (u8s s.sum).toArray, h') ∧ Old h h' := by
    refine ⟨_, rfl, ?_⟩
    unfold t123
    simp -implicitDefEqProofs only [z1, eql158, nilCheck_ptr, L1, z2, e3, z4, ix0, e5, addP_ptr, Nat.zero_add, l72, a8, rm, sb, cu, ml, thenV_some, pu_some]
    refine endL_fin (Q := fun o : Out => ∃ h', o = some (.agg (u8s s.sum).toArray, h') ∧ Old h h') (sum1 (N := N) (v := s.n * 8) hN (by omega) hp5 g5 (p2 := ptr h.next 0) (p3 := ptr h1.next 0) rfl rfl rfl rfl rfl rfl) ?_
    rintro _ y g6 ⟨rfl, y2, y3, y4, y5, K6, G6, N6⟩
    simp -implicitDefEqProofs only [endL_exit, b123_11, if_true, t123k123_9_eq]
    unfold t123k123_9
    have O6 : Old h3 g6 := o5.also K6 (fun d hd e => by omega)
    have OO6 : Old h g6 := (o1.trans o3).trans O6
    have b8 : bin Tryd.prog .add 3 (i64n N) (.int .i64 8) = some (i64n (N + 8)) := addc (c := 8) (by omega)
    have sa : sliceArr 72 1 (ptr h3.next 0) none (some (i64n (N + 8))) none = some (.slice (some ⟨h3.next, 0, none⟩) (N + 8) 72) := by
      have b1 : boundA 72 72 (some (i64n (N + 8))) = some (N + 8) := by
        unfold boundA i64n
        simp only
        rw [if_pos (by omega), Int.toNat_natCast]
      unfold sliceArr
      have b2 : boundA 72 72 (none : Option Value) = some 72 := rfl
      have b3 : boundA 0 (N + 8) (none : Option Value) = some 0 := rfl
      simp only [boundsA, b1, b2, b3]
      show some (Value.slice (some ⟨h3.next, if 72 = 0 then 0 else 0 + 0 * 1, none⟩) (N + 8 - 0) (72 - 0)) = _
      rw [if_neg (by decide)]
      rfl
    have sl := sliceBytes_at (off := 0) (n := N + 8) (s := none) G6 (by rw [padT_len]; omega) (padT_bys _ _ _)
    rw [List.drop_zero, ← hpad] at sl
    have hg6 : 4 ≤ g6.n0 := by rw [OO6.n0]; exact hG
    have G3 : g6.get h1.next = some s.cells := Old.get O6 g3
    obtain ⟨h7, e7, k7, g7, w7, m7⟩ := r122 (h := g6) hg6 (Old.get OO6 hz) (p := h1.next) (s := s) o G3 (by rw [OO6.n0]; have := h.n0_le_next; omega) (c := 72) sl (fun _ => by
      unfold goodS
      rw [Nat.ble_eq_true_of_le (show N + 8 ≤ 72 by omega)]
      rfl) (fun y hy _ e => by cases hy; have : h3.next = h1.next := e; omega) (by omega)
    obtain ⟨h8, z8, o8, g8, n8⟩ := fresh (List.replicate 32 (.int .u8 0)) h7
    have m6 := O6.next
    have q7 := k7.next
    simp -implicitDefEqProofs only [y5, b8, y4, sa, y3, e7, z8, thenV_some, pu_some]
    refine endL_fin (Q := fun o : Out => ∃ h', o = some (.agg (u8s s.sum).toArray, h') ∧ Old h h') (sum2 (p := h1.next) (b := h7.next) w7.S (Old.get o8 g7) (by have := h7.lt_of_get g7; omega) (by rw [o8.n0]; exact h7.n0_le_next) g8 (p2 := ptr h.next 0) y2 y3 rfl rfl) ?_
    rintro _ y' g9 ⟨rfl, y2', y8', K9, G9, N9⟩
    simp -implicitDefEqProofs only [endL_exit, b123_16, if_true, t123k123_14_eq]
    unfold t123k123_14
    have dc := dig_cells (sum_d32 s)
    rw [← hsum] at G9
    have L9 := ldN_all G9 dc.1 dc.2.1
    have O7 : Old h h7 := Old.of_new OO6 k7 (by omega)
    have O9 : Old h g9 := (O7.trans o8).also K9 (fun d hd e => by have := O7.next; omega)
    have g1' : g9.get h.next = some (List.replicate 32 (.int .u8 0)) := by
      have e1 : h3.get h.next = some (List.replicate 32 (.int .u8 0)) := Old.get o3 g1
      have e6 : g6.get h.next = some (List.replicate 32 (.int .u8 0)) := Old.get O6 e1
      have e7' : h7.get h.next = some (List.replicate 32 (.int .u8 0)) := Kept.getE k7 e6 (by omega)
      exact Kept.getE K9 (Old.get o8 e7') (by omega)
    obtain ⟨h10, e10, k10, g10, _, _⟩ := stored_all (n := 32) (k' := u8s s.sum) g1' (by rw [O9.n0]; exact h.n0_le_next) rfl dc.1 dc.2.2
    have L10 := ldN_all g10 dc.1 dc.2.1
    simp -implicitDefEqProofs only [y8', L9, y2', e10, thenV_some]
    refine ⟨h10, ?_, Old.of_new O9 k10 (Nat.le_refl _)⟩
    exact res_cell results123 agg35 size32 (show 2 < 66 by decide) _ (by
      show ldN 32 (y' 2) h10 = _
      rw [y2']
      exact L10)
  obtain ⟨o1, e, h', e', r⟩ := key
  exact ⟨h', CW_body is123 hG rfl ((t123_eq _ _ _).trans (e.trans e')), r⟩
end Go.Proofs.YtdnahgfgoajmcaaDoor

namespace Go.Proofs.YtdnahgfgoajmcaaDoor
open Go Go.Abs
attribute [local congr] thenV_congr
def H0 : List (BitVec 32) := [1779033703, 3144134277, 1013904242, 2773480762, 1359893119, 2600822924, 528734635, 1541459225].map (BitVec.ofNat 32)
def HD0 : HD := ⟨H0, List.replicate 64 0, 0⟩
theorem HD0_ok : HD0.Ok := ⟨rfl, rfl, fun x hx => by have := List.eq_of_mem_replicate (show x ∈ List.replicate 64 0 from hx); omega⟩
theorem bldH : bldR (List.replicate 8 (.int .u32 0)) [(0, 1, (.int .u32 1779033703)), (1, 1, (.int .u32 3144134277)), (2, 1, (.int .u32 1013904242)), (3, 1, (.int .u32 2773480762)), (4, 1, (.int .u32 1359893119)), (5, 1, (.int .u32 2600822924)), (6, 1, (.int .u32 528734635)), (7, 1, (.int .u32 1541459225))] = some (.agg (wvs H0).toArray) := by kernel_rfl
theorem bldH2 : bldR zHash [(0, 8, .agg (wvs H0).toArray)] = some (.agg HD0.cells.toArray) := by kernel_rfl
theorem r121 {h : Heap} (hG : 4 ≤ h.n0) : ∃ h', CW 121 [] h = some (ptr h.next 0, h') ∧ Old h h' ∧ h'.get h.next = some HD0.cells ∧ h'.next = h.next + 1 := by
  have b := box_at h HD0.cells (hash_ok HD0).2
  refine ⟨h.alloc HD0.cells, CW_body is121 hG rfl ((t121_eq _ _).trans ?_), Kept.alloc _ _ _, by rw [Heap.get_alloc, if_pos rfl], Heap.next_alloc ..⟩
  unfold t121
  simp -implicitDefEqProofs only [bldH, bldH2, b, thenV_some, pu_some]
theorem is69 : IsFn Tryd.prog 69 Tryd.f69 := ⟨by kernel_rfl, by kernel_rfl, by kernel_rfl, by kernel_rfl⟩
theorem is70 : IsFn Tryd.prog 70 Tryd.f70 := ⟨by kernel_rfl, by kernel_rfl, by kernel_rfl, by kernel_rfl⟩
theorem results69 : Tryd.f69.results.toList = [.cell 2 35] := by kernel_rfl
theorem results70 : Tryd.f70.results.toList = [.cell 4 35] := by kernel_rfl
/-- The hash of a record's bytes; the hash of two hashes. -/
def leafD (r : RecD) : List Nat := ((HD0.wr [0]).wr (encRec r)).sum
def nodeD (a b : List Nat) : List Nat := (((HD0.wr [1]).wr a).wr b).sum
theorem leafD_ok (r : RecD) : D32 (leafD r) := sum_d32 _
theorem nodeD_ok (a b : List Nat) : D32 (nodeD a b) := sum_d32 _
set_option maxRecDepth 100000 in
/-- leaf -/
theorem r69 {h : Heap} (hG : 4 ≤ h.n0) (hz : h.get 3 = some roundsL) {r : RecD} (w : r.Wf) (v : recB r = true) : ∃ h', CW 69 [.agg (recC r).toArray] h = some (.agg (u8s (leafD r)).toArray, h') ∧ Old h h' := by
  obtain ⟨h1, b1, o1, g1, n1⟩ := rec_box2 h w
  obtain ⟨h2, z2, o2, g2, n2⟩ := fresh (List.replicate 32 (.int .u8 0)) h1
  have L2 := ldN_all (o2.get g1) (rec_cells w).1 (rec_cells w).2.1
  have O2 := o1.trans o2
  obtain ⟨a, c, h3, e3, s3, o3, ha, gd⟩ := r43 (h := h2) (by rw [O2.n0]; exact hG) w v
  have O3 := O2.trans o3
  obtain ⟨h4, e4, o4, g4, n4⟩ := r121 (h := h3) (by rw [O3.n0]; exact hG)
  have O4 := O3.trans o4
  have b5 : bslR 1 (.int .u8 0) 1 [(0, .int .u8 0)] h4 = some (.slice (some ⟨h4.next, 0, none⟩) 1 1, h4.alloc [u8 0]) := bsl1 h4 0
  have o5 : Old h4 (h4.alloc [u8 0]) := Kept.alloc _ _ _
  have s5 := bytes1 h4 (x := 0) (by decide)
  have O5 := O4.trans o5
  obtain ⟨h6, e6, k6, g6, w6, m6⟩ := r122 (h := h4.alloc [u8 0]) (by rw [O5.n0]; exact hG) (Old.get O5 hz) (p := h3.next) HD0_ok (Old.get o5 g4) (by rw [O5.n0]; have := h.n0_le_next; have := O3.next; omega) (c := 1) s5 (fun _ => rfl) (fun y hy _ e => by cases hy; have : h4.next = h3.next := e; omega) (by show 0 + 1 ≤ 1000000; omega)
  have O6 : Old h h6 := Old.of_new O5 k6 (by have := O3.next; omega)
  have s6 : sliceBytes a 53 h6 = some (encRec r) := k6.bytes (Old.bytes (o4.trans o5) s3) (fun y hy _ e => by
    have q := ha y hy
    have : y.block < h3.next := by
      obtain ⟨b', off', s', k', hx, hk', _⟩ := (sliceBytes_spec s3).2.2 (by decide)
      rw [hy] at hx
      cases hx
      exact h3.lt_of_get hk'
    omega)
  obtain ⟨h7, e7, k7, g7, w7, m7⟩ := r122 (h := h6) (by rw [O6.n0]; exact hG) (Old.get O6 hz) (p := h3.next) w6 g6 (by rw [O6.n0]; have := h.n0_le_next; have := O3.next; omega) (c := c) s6 (fun _ => gd) (fun y hy _ e => by
    have q := ha y hy
    have : y.block < h3.next := by
      obtain ⟨b', off', s', k', hx, hk', _⟩ := (sliceBytes_spec s3).2.2 (by decide)
      rw [hy] at hx
      cases hx
      exact h3.lt_of_get hk'
    omega) (by rw [m6]; show 0 + 1 + 53 ≤ 1000000; omega)
  have O7 : Old h h7 := Old.of_new O6 k7 (by have := O3.next; omega)
  obtain ⟨h8, e8, o8⟩ := r123 (h := h7) (by rw [O7.n0]; exact hG) (Old.get O7 hz) (p := h3.next) w7 g7 (by rw [m7, m6]; show 0 + 1 + 53 ≤ 100000; omega)
  have O8 := O7.trans o8
  have e8 : CW 123 [ptr h3.next 0] h7 = some (.agg (u8s (leafD r)).toArray, h8) := e8
  have dc := dig_cells (leafD_ok r)
  have hne : ¬ h1.next = h3.next := by have := o3.next; omega
  have q2 : h8.get h1.next = some (List.replicate 32 (.int .u8 0)) := Old.get o8 (Kept.getE k7 (Kept.getE k6 (Old.get (o4.trans o5) (o3.get g2)) hne) hne)
  obtain ⟨h9, e9, k9, g9, _, _⟩ := stored_all (n := 32) (k' := u8s (leafD r)) q2 (by rw [O8.n0]; have := h.n0_le_next; have := o1.next; omega) rfl dc.1 dc.2.2
  have L9 := ldN_all g9 dc.1 dc.2.1
  refine ⟨h9, CW_body is69 hG rfl ((t69_eq _ _ _).trans ?_), Old.of_new O8 k9 (by have := o1.next; omega)⟩
  unfold t69
  simp -implicitDefEqProofs only [b1, z2, L2, e3, ext0, ext1, e4, b5, e6, e7, e8, e9, thenV_some, pu_some]
  exact res_cell results69 agg35 size32 (show 2 < 20 by decide) _ L9
set_option maxRecDepth 100000 in
/-- node -/
theorem r70 {h : Heap} (hG : 4 ≤ h.n0) (hz : h.get 3 = some roundsL) {a b : List Nat} (wa : D32 a) (wb : D32 b) : ∃ h', CW 70 [.agg (u8s a).toArray, .agg (u8s b).toArray] h = some (.agg (u8s (nodeD a b)).toArray, h') ∧ Old h h' := by
  have ca := dig_cells wa
  have cb := dig_cells wb
  have b1 := box_at h _ ca.2.2
  have o1 : Old h (h.alloc (u8s a)) := Kept.alloc _ _ _
  have g1 : (h.alloc (u8s a)).get h.next = some (u8s a) := by rw [Heap.get_alloc, if_pos rfl]
  have n1 : (h.alloc (u8s a)).next = h.next + 1 := Heap.next_alloc ..
  generalize h.alloc (u8s a) = h1 at *
  have b2 := box_at h1 _ cb.2.2
  have o2 : Old h1 (h1.alloc (u8s b)) := Kept.alloc _ _ _
  have g2 : (h1.alloc (u8s b)).get h1.next = some (u8s b) := by rw [Heap.get_alloc, if_pos rfl]
  have n2 : (h1.alloc (u8s b)).next = h1.next + 1 := Heap.next_alloc ..
  generalize h1.alloc (u8s b) = h2 at *
  obtain ⟨h3, z3, o3, g3, n3⟩ := fresh (List.replicate 32 (.int .u8 0)) h2
  have O3 := (o1.trans o2).trans o3
  obtain ⟨h4, e4, o4, g4, n4⟩ := r121 (h := h3) (by rw [O3.n0]; exact hG)
  have O4 := O3.trans o4
  have b5 : bslR 1 (.int .u8 0) 1 [(0, .int .u8 1)] h4 = some (.slice (some ⟨h4.next, 0, none⟩) 1 1, h4.alloc [u8 1]) := bsl1 h4 1
  have o5 : Old h4 (h4.alloc [u8 1]) := Kept.alloc _ _ _
  have s5 := bytes1 h4 (x := 1) (by decide)
  have O5 := O4.trans o5
  have hpl : h.n0 ≤ h3.next := by have := h.n0_le_next; have := O3.next; omega
  obtain ⟨h6, e6, k6, g6, w6, m6⟩ := r122 (h := h4.alloc [u8 1]) (by rw [O5.n0]; exact hG) (Old.get O5 hz) (p := h3.next) HD0_ok (Old.get o5 g4) (by rw [O5.n0]; exact hpl) (c := 1) s5 (fun _ => rfl) (fun y hy _ e => by cases hy; have : h4.next = h3.next := e; omega) (by show 0 + 1 ≤ 1000000; omega)
  have O6 : Old h h6 := Old.of_new O5 k6 (by have := O3.next; omega)
  have q1 : h6.get h.next = some (u8s a) := Kept.getE k6 (Old.get (((o2.trans o3).trans o4).trans o5) g1) (by omega)
  have q2 : h6.get h1.next = some (u8s b) := Kept.getE k6 (Old.get ((o3.trans o4).trans o5) g2) (by omega)
  have t1 := sliceBytes_at (off := 0) (n := 32) (s := none) q1 (by rw [wa.1]; decide) wa.2
  rw [List.drop_zero, List.take_of_length_le (by rw [wa.1]; decide)] at t1
  obtain ⟨h7, e7, k7, g7, w7, m7⟩ := r122 (h := h6) (by rw [O6.n0]; exact hG) (Old.get O6 hz) (p := h3.next) w6 g6 (by rw [O6.n0]; exact hpl) (c := 32) t1 (fun _ => rfl) (fun y hy _ e => by cases hy; have : h.next = h3.next := e; omega) (by rw [m6]; show 0 + 1 + 32 ≤ 1000000; omega)
  have O7 : Old h h7 := Old.of_new O6 k7 (by have := O3.next; omega)
  have t2 := sliceBytes_at (off := 0) (n := 32) (s := none) (Kept.getE k7 q2 (by omega)) (by rw [wb.1]; decide) wb.2
  rw [List.drop_zero, List.take_of_length_le (by rw [wb.1]; decide)] at t2
  obtain ⟨h8, e8, k8, g8, w8, m8⟩ := r122 (h := h7) (by rw [O7.n0]; exact hG) (Old.get O7 hz) (p := h3.next) w7 g7 (by rw [O7.n0]; exact hpl) (c := 32) t2 (fun _ => rfl) (fun y hy _ e => by cases hy; have : h1.next = h3.next := e; omega) (by rw [m7, m6]; show 0 + 1 + 32 + 32 ≤ 1000000; omega)
  have O8 : Old h h8 := Old.of_new O7 k8 (by have := O3.next; omega)
  obtain ⟨h9, e9, o9⟩ := r123 (h := h8) (by rw [O8.n0]; exact hG) (Old.get O8 hz) (p := h3.next) w8 g8 (by rw [m8, m7, m6]; show 0 + 1 + 32 + 32 ≤ 100000; omega)
  have O9 := O8.trans o9
  have e9 : CW 123 [ptr h3.next 0] h8 = some (.agg (u8s (nodeD a b)).toArray, h9) := e9
  have dc := dig_cells (nodeD_ok a b)
  have hne : ¬ h2.next = h3.next := by omega
  have q3 : h9.get h2.next = some (List.replicate 32 (.int .u8 0)) := Old.get o9 (Kept.getE k8 (Kept.getE k7 (Kept.getE k6 (Old.get (o4.trans o5) g3) hne) hne) hne)
  obtain ⟨h10, e10, k10, g10, _, _⟩ := stored_all (n := 32) (k' := u8s (nodeD a b)) q3 (by rw [O9.n0]; have := h.n0_le_next; omega) rfl dc.1 dc.2.2
  have L10 := ldN_all g10 dc.1 dc.2.1
  refine ⟨h10, CW_body is70 hG rfl ((t70_eq _ _ _ _).trans ?_), Old.of_new O9 k10 (by omega)⟩
  unfold t70
  simp -implicitDefEqProofs only [b1, b2, z3, e4, b5, e6, arr32, e7, e8, e9, e10, thenV_some, pu_some]
  exact res_cell results70 agg35 size32 (show 4 < 18 by decide) _ L10
end Go.Proofs.YtdnahgfgoajmcaaDoor

namespace Go.Proofs.YtdnahgfgoajmcaaDoor
open Go Go.Abs
attribute [local congr] thenV_congr
theorem is161 : IsFn Tryd.prog 161 Tryd.f161 := ⟨by kernel_rfl, by kernel_rfl, by kernel_rfl, by kernel_rfl⟩
theorem r161 {h : Heap} (hG : 4 ≤ h.n0) (x : BitVec 32) {k : Nat} (hk : k ≤ 32) : CW 161 [wv x, .int .u64 (k : Int)] h = some (wv (rotR x k), h) := by
  refine CW_body is161 hG rfl ((t161_eq _ _ _ _).trans ?_)
  unfold t161
  have e2 : bin Tryd.prog .sub 111 (.int .u64 32) (.int .u64 (k : Int)) = some (.int .u64 ((32 - k : Nat) : Int)) := by
    rw [bin_sub, show (32 : Int) - (k : Int) = ((32 - k : Nat) : Int) by omega, wrap_u64 (by omega) (by omega)]
  simp -implicitDefEqProofs only [e2, w_shl x (show 32 - k ≤ 32 by omega), w_shr x hk, w_or, thenV_some, pu_some]
  unfold rotR
  rw [BitVec.or_comm]
/-- The words of a block, one after another. -/
def schW (B : List Nat) : Nat → List (BitVec 32)
  | 0 => []
  | i + 1 => schW B i ++ [if i < 16 then wAt B i else nextW (schW B i)]
theorem schW_len (B : List Nat) : ∀ i, (schW B i).length = i
  | 0 => rfl
  | i + 1 => by rw [schW, List.length_append, schW_len B i]; rfl
theorem schW_16 (B : List Nat) : ∀ i, i ≤ 16 → schW B i = (List.range i).map (wAt B)
  | 0, _ => rfl
  | i + 1, h => by
    rw [schW, schW_16 B i (by omega), if_pos (by omega), List.range_succ, List.map_append]
    rfl
theorem schW_ext (B : List Nat) : ∀ i, schW B (16 + i) = extW i (sch0 B)
  | 0 => schW_16 B 16 (by decide)
  | i + 1 => by
    rw [show 16 + (i + 1) = (16 + i) + 1 from rfl, schW, if_neg (by omega), schW_ext B i, extW_snoc]
theorem schW_64 (B : List Nat) : schW B 64 = extW 48 (sch0 B) := schW_ext B 48
theorem chkW (x : BitVec 32) (h : Heap) : chkR true (some (wv x, h)) (wv x) = true := chkI .u32 _ _
set_option maxRecDepth 100000 in
/-- The first loop of round: 64 words. -/
theorem rnd1 {h : Heap} (hG : 4 ≤ h.n0) {b : Nat} {B : List Nat} (hBl : B.length = 64) {a : Option Addr} {c : Nat} (hB : sliceBytes a 64 h = some B) (ha : ∀ y, a = some y → ¬ y.block = b) (hb : h.n0 ≤ b) (hw : h.get b = some (wTab []))
    {p3 p4 p6 : Value} {x : Nat → Value} (x2 : x 2 = .slice a 64 c) (x3 : x 3 = p3) (x4 : x 4 = p4) (x6 : x 6 = p6) (x7 : x 7 = ptr b 0) (x8 : x 8 = i64n 0) :
    Fin 206 (fun ex y g => ex = .exit 0 ∧ y 3 = p3 ∧ y 4 = p4 ∧ y 6 = p6 ∧ y 7 = ptr b 0 ∧ Kept h g (· = b) ∧ g.get b = some (wTab (extW 48 (sch0 B))) ∧ g.next = h.next) (iter (codeA Tryd.prog CW (partOf Tryd.f153 [1, 1, 0, 1, 0, 0])) rounds (mkF 206 x) h) := by
  have hby : Bys B := (sliceBytes_spec hB).2.1
  refine loop_fin (t153l153_11010_eq CW) (Inv := fun k y g => ∃ i, i + k = 64 ∧ y 2 = .slice a 64 c ∧ y 3 = p3 ∧ y 4 = p4 ∧ y 6 = p6 ∧ y 7 = ptr b 0 ∧ y 8 = i64n i ∧ Kept h g (· = b) ∧ g.get b = some (wTab (schW B i)) ∧ g.next = h.next) ?_ 64 (by have : rounds = 18446744073709551616 := rfl; omega) ⟨0, Nat.zero_add _, x2, x3, x4, x6, x7, x8, Kept.refl _ _, hw, rfl⟩
  rintro k y g ⟨i, hik, y2, y3, y4, y6, y7, y8, K, gw, gn⟩
  unfold t153l153_11010
  have l64 : bin Tryd.prog .lss 3 (i64n i) (.int .i64 64) = some (.bool (decide (i < 64))) := lss3 i 64
  have l16 : bin Tryd.prog .lss 3 (i64n i) (.int .i64 16) = some (.bool (decide (i < 16))) := lss3 i 16
  simp -implicitDefEqProofs only [y8, l64, thenV_some, pu_some]
  by_cases hi : i < 64
  · simp -implicitDefEqProofs only [decide_eq_true hi, l16, thenV_some, pu_some]
    have len := schW_len B i
    have ix : ∀ j, j < 64 → idxA 64 1 (ptr b 0) (i64n j) = some (ptr b j) := fun j hj => by rw [idxN hj, Nat.zero_add]
    have hg : 4 ≤ g.n0 := by rw [K.n0]; exact hG
    by_cases h16 : i < 16
    · have sl : sliceBytes a 64 g = some B := K.bytes hB (fun y hy _ => ha y hy)
      obtain ⟨_, q0, _, i0, d0⟩ := byte_at (c := c) (i := 4 * i) sl (by omega)
      obtain ⟨_, q1, _, i1, d1⟩ := byte_at (c := c) (i := 4 * i + 1) sl (by omega)
      obtain ⟨_, q2, _, i2, d2⟩ := byte_at (c := c) (i := 4 * i + 2) sl (by omega)
      obtain ⟨_, q3, _, i3, d3⟩ := byte_at (c := c) (i := 4 * i + 3) sl (by omega)
      have c0 := w_byte _ (bys_getD hby (j := 4 * i) (by omega)) g
      have c1 := w_byte _ (bys_getD hby (j := 4 * i + 1) (by omega)) g
      have c2 := w_byte _ (bys_getD hby (j := 4 * i + 2) (by omega)) g
      have c3 := w_byte _ (bys_getD hby (j := 4 * i + 3) (by omega)) g
      have a1 : bin Tryd.prog .add 3 (i64n (4 * i)) (.int .i64 1) = some (i64n (4 * i + 1)) := addc (c := 1) (by omega)
      have a2 : bin Tryd.prog .add 3 (i64n (4 * i)) (.int .i64 2) = some (i64n (4 * i + 2)) := addc (c := 2) (by omega)
      have a3 : bin Tryd.prog .add 3 (i64n (4 * i)) (.int .i64 3) = some (i64n (4 * i + 3)) := addc (c := 3) (by omega)
      have sh24 : ∀ x : BitVec 32, bin Tryd.prog .shl 174 (wv x) (.int .u64 24) = some (wv (x <<< 24)) := fun x => w_shl x (k := 24) (by decide)
      have sh16 : ∀ x : BitVec 32, bin Tryd.prog .shl 174 (wv x) (.int .u64 16) = some (wv (x <<< 16)) := fun x => w_shl x (k := 16) (by decide)
      have sh8 : ∀ x : BitVec 32, bin Tryd.prog .shl 174 (wv x) (.int .u64 8) = some (wv (x <<< 8)) := fun x => w_shl x (k := 8) (by decide)
      obtain ⟨g2, e2, k2, s2, _, m2⟩ := stored (o := i) (v := wv (wAt B i)) gw (by rw [K.n0]; exact hb) (by rw [wTab_len (by omega)]; omega) rfl rfl
      have hw4 : wv (BitVec.ofNat 32 (B.getD (4 * i) 0) <<< 24 ||| BitVec.ofNat 32 (B.getD (4 * i + 1) 0) <<< 16 ||| BitVec.ofNat 32 (B.getD (4 * i + 2) 0) <<< 8 ||| BitVec.ofNat 32 (B.getD (4 * i + 3) 0)) = wv (wAt B i) := rfl
      simp -implicitDefEqProofs only [decide_eq_true h16, y2, y7, y8, mul4 (show i < 1000 by omega), i0, i1, i2, i3, d0, d1, d2, d3, c0, c1, c2, c3, a1, a2, a3, sh24, sh16, sh8, w_or, hw4, ix i hi, e2, add31 (show i + 1 ≤ 9223372036854775807 by omega), thenV_some, pu_some]
      refine Rnd.next (k - 1) (by omega) ⟨i + 1, by omega, y2, y3, y4, y6, y7, rfl, K.trans k2, ?_, m2.trans gn⟩
      rw [s2, wTab_set len hi, schW, if_pos h16]
    · have s15 : bin Tryd.prog .sub 3 (i64n i) (.int .i64 15) = some (i64n (i - 15)) := subc (c := 15) (by omega) (by omega)
      have s2 : bin Tryd.prog .sub 3 (i64n i) (.int .i64 2) = some (i64n (i - 2)) := subc (c := 2) (by omega) (by omega)
      have s16 : bin Tryd.prog .sub 3 (i64n i) (.int .i64 16) = some (i64n (i - 16)) := subc (c := 16) (by omega) (by omega)
      have s7 : bin Tryd.prog .sub 3 (i64n i) (.int .i64 7) = some (i64n (i - 7)) := subc (c := 7) (by omega) (by omega)
      have lw : ∀ j, j < i → ld1 (ptr b j) g = some (wv ((schW B i).getD j 0), g) := fun j hj => ld1_at gw (wTab_at (by omega)) rfl
      have lX := lw (i - 15) (by omega)
      have lY := lw (i - 2) (by omega)
      have rt7 : CW 161 [wv ((schW B i).getD (i - 15) 0), .int .u64 7] g = some (wv (rotR ((schW B i).getD (i - 15) 0) 7), g) := r161 hg _ (k := 7) (by decide)
      have rt18 : CW 161 [wv ((schW B i).getD (i - 15) 0), .int .u64 18] g = some (wv (rotR ((schW B i).getD (i - 15) 0) 18), g) := r161 hg _ (k := 18) (by decide)
      have rt17 : CW 161 [wv ((schW B i).getD (i - 2) 0), .int .u64 17] g = some (wv (rotR ((schW B i).getD (i - 2) 0) 17), g) := r161 hg _ (k := 17) (by decide)
      have rt19 : CW 161 [wv ((schW B i).getD (i - 2) 0), .int .u64 19] g = some (wv (rotR ((schW B i).getD (i - 2) 0) 19), g) := r161 hg _ (k := 19) (by decide)
      have sh3 : ∀ x : BitVec 32, bin Tryd.prog .shr 174 (wv x) (.int .u64 3) = some (wv (x >>> 3)) := fun x => w_shr x (k := 3) (by decide)
      have sh10 : ∀ x : BitVec 32, bin Tryd.prog .shr 174 (wv x) (.int .u64 10) = some (wv (x >>> 10)) := fun x => w_shr x (k := 10) (by decide)
      have hN : wv ((rotR ((schW B i).getD (i - 2) 0) 17 ^^^ rotR ((schW B i).getD (i - 2) 0) 19 ^^^ (schW B i).getD (i - 2) 0 >>> 10) + (schW B i).getD (i - 7) 0 + (rotR ((schW B i).getD (i - 15) 0) 7 ^^^ rotR ((schW B i).getD (i - 15) 0) 18 ^^^ (schW B i).getD (i - 15) 0 >>> 3) + (schW B i).getD (i - 16) 0) = wv (nextW (schW B i)) := by
        unfold nextW s0w s1w
        rw [len]
        congr 1
        ac_rfl
      obtain ⟨g2, e2, k2, t2, _, m2⟩ := stored (o := i) (v := wv (nextW (schW B i))) gw (by rw [K.n0]; exact hb) (by rw [wTab_len (by omega)]; omega) rfl rfl
      simp -implicitDefEqProofs only [decide_eq_false h16, y7, y8, s15, s2, s16, s7, ix (i - 15) (by omega), ix (i - 2) (by omega), ix (i - 16) (by omega), ix (i - 7) (by omega), ix i hi, lX, lY, lw (i - 16) (by omega), lw (i - 7) (by omega), rt7, rt18, rt17, rt19, w_xor, sh3, sh10, w_add, hN, e2, chkW, Bool.and_self, Bool.and_true, add31 (show i + 1 ≤ 9223372036854775807 by omega), thenV_some, pu_some]
      refine Rnd.next (k - 1) (by omega) ⟨i + 1, by omega, y2, y3, y4, y6, y7, rfl, K.trans k2, ?_, m2.trans gn⟩
      rw [t2, wTab_set len hi, schW, if_neg h16]
  · have : i = 64 := by omega
    subst this
    simp -implicitDefEqProofs only [decide_eq_false hi, thenV_some, pu_some]
    rw [schW_64] at gw
    exact Rnd.out 0 ⟨rfl, y3, y4, y6, y7, K, gw, gn⟩
end Go.Proofs.YtdnahgfgoajmcaaDoor

namespace Go.Proofs.YtdnahgfgoajmcaaDoor
open Go Go.Abs
attribute [local congr] thenV_congr
theorem ch_eq (e f g : BitVec 32) : (e &&& f) ^^^ (~~~e &&& g) = g ^^^ (e &&& (f ^^^ g)) := by
  apply BitVec.eq_of_getLsbD_eq
  intro i hi
  simp only [BitVec.getLsbD_xor, BitVec.getLsbD_and, BitVec.getLsbD_not, hi, decide_true, Bool.true_and]
  cases e.getLsbD i <;> cases f.getLsbD i <;> cases g.getLsbD i <;> rfl
theorem maj_eq (a b c : BitVec 32) : (a &&& b) ^^^ (a &&& c) ^^^ (b &&& c) = (a &&& b) ||| (c &&& (a ||| b)) := by
  apply BitVec.eq_of_getLsbD_eq
  intro i hi
  simp only [BitVec.getLsbD_xor, BitVec.getLsbD_and, BitVec.getLsbD_or]
  cases a.getLsbD i <;> cases b.getLsbD i <;> cases c.getLsbD i <;> rfl
theorem rots161 {h : Heap} (hG : 4 ≤ h.n0) (x : BitVec 32) : CW 161 [wv x, .int .u64 6] h = some (wv (rotR x 6), h) ∧ CW 161 [wv x, .int .u64 11] h = some (wv (rotR x 11), h) ∧ CW 161 [wv x, .int .u64 25] h = some (wv (rotR x 25), h) ∧ CW 161 [wv x, .int .u64 2] h = some (wv (rotR x 2), h) ∧ CW 161 [wv x, .int .u64 13] h = some (wv (rotR x 13), h) ∧ CW 161 [wv x, .int .u64 22] h = some (wv (rotR x 22), h) :=
  ⟨r161 hG x (k := 6) (by decide), r161 hG x (k := 11) (by decide), r161 hG x (k := 25) (by decide), r161 hG x (k := 2) (by decide), r161 hG x (k := 13) (by decide), r161 hG x (k := 22) (by decide)⟩
theorem St.l_ok (s : St) : (wvs s.l).length = 8 ∧ Abs.noHoles (wvs s.l) = true ∧ oneCells (wvs s.l) = true := ⟨rfl, (words_ok _).1, (words_ok _).2⟩
set_option maxRecDepth 100000 in
/-- The second loop of round: 64 steps. -/
theorem rnd2 {h : Heap} (hG : 4 ≤ h.n0) {b kb q p : Nat} {W : List (BitVec 32)} (hl : W.length = 64) (hw : h.get b = some (wTab W)) (hk : h.get kb = some (wvs rkW)) (hq0 : h.n0 ≤ q) (hqb : ¬ b = q) (hqk : ¬ kb = q) {s : St} (hq : h.get q = some (wvs s.l))
    {p6 : Value} {x : Nat → Value} (x3 : x 3 = ptr p 0) (x4 : x 4 = ptr kb 0) (x6 : x 6 = p6) (x7 : x 7 = ptr b 0) (x11 : x 11 = ptr q 0) (x12 : x 12 = i64n 0) :
    Fin 206 (fun ex y g => ex = .exit 2 ∧ y 3 = ptr p 0 ∧ y 6 = p6 ∧ y 11 = ptr q 0 ∧ Kept h g (· = q) ∧ g.get q = some (wvs (runS W 64 s).l) ∧ g.next = h.next) (iter (codeA Tryd.prog CW (partOf Tryd.f153 [1, 1, 1, 1, 0, 1, 0, 0])) rounds (mkF 206 x) h) := by
  refine loop_fin (t153l153_1111010_eq CW) (Inv := fun k y g => ∃ i, i + k = 64 ∧ y 3 = ptr p 0 ∧ y 4 = ptr kb 0 ∧ y 6 = p6 ∧ y 7 = ptr b 0 ∧ y 11 = ptr q 0 ∧ y 12 = i64n i ∧ Kept h g (· = q) ∧ g.get q = some (wvs (runS W i s).l) ∧ g.next = h.next) ?_ 64 (by have : rounds = 18446744073709551616 := rfl; omega) ⟨0, Nat.zero_add _, x3, x4, x6, x7, x11, x12, Kept.refl _ _, hq, rfl⟩
  rintro k y g ⟨i, hik, y3, y4, y6, y7, y11, y12, K, gq, gn⟩
  unfold t153l153_1111010
  have l64 : bin Tryd.prog .lss 3 (i64n i) (.int .i64 64) = some (.bool (decide (i < 64))) := lss3 i 64
  simp -implicitDefEqProofs only [y12, l64, thenV_some, pu_some]
  by_cases hi : i < 64
  · have hg : 4 ≤ g.n0 := by rw [K.n0]; exact hG
    have ixb : idxA 64 1 (ptr b 0) (i64n i) = some (ptr b i) := by rw [idxN hi, Nat.zero_add]
    have ixk : idxA 64 1 (ptr kb 0) (i64n i) = some (ptr kb i) := by rw [idxN hi, Nat.zero_add]
    have lw : ld1 (ptr b i) g = some (wv (W.getD i 0), g) := ld1_at (Kept.getE K hw hqb) (wTab_at (by omega)) rfl
    have lk : ld1 (ptr kb i) g = some (wv (rkW.getD i 0), g) := ld1_at (Kept.getE K hk hqk) (by
      rw [List.getElem?_map, List.getD_eq_getElem?_getD, List.getElem?_eq_getElem (by rw [rkW_len]; exact hi)]
      rfl) rfl
    have ix : ∀ j, j < 8 → idxA 8 1 (ptr q 0) (i64n j) = some (ptr q j) := fun j hj => by rw [idxN hj, Nat.zero_add]
    have i0 : idxA 8 1 (ptr q 0) (.int .i64 0) = some (ptr q 0) := ix 0 (by decide)
    have i1 : idxA 8 1 (ptr q 0) (.int .i64 1) = some (ptr q 1) := ix 1 (by decide)
    have i2 : idxA 8 1 (ptr q 0) (.int .i64 2) = some (ptr q 2) := ix 2 (by decide)
    have i3 : idxA 8 1 (ptr q 0) (.int .i64 3) = some (ptr q 3) := ix 3 (by decide)
    have i4 : idxA 8 1 (ptr q 0) (.int .i64 4) = some (ptr q 4) := ix 4 (by decide)
    have i5 : idxA 8 1 (ptr q 0) (.int .i64 5) = some (ptr q 5) := ix 5 (by decide)
    have i6 : idxA 8 1 (ptr q 0) (.int .i64 6) = some (ptr q 6) := ix 6 (by decide)
    have i7 : idxA 8 1 (ptr q 0) (.int .i64 7) = some (ptr q 7) := ix 7 (by decide)
    generalize hs : runS W i s = u at *
    have d0 : ld1 (ptr q 0) g = some (wv u.a, g) := ld1_at gq rfl rfl
    have d1 : ld1 (ptr q 1) g = some (wv u.b, g) := ld1_at gq rfl rfl
    have d2 : ld1 (ptr q 2) g = some (wv u.c, g) := ld1_at gq rfl rfl
    have d3 : ld1 (ptr q 3) g = some (wv u.d, g) := ld1_at gq rfl rfl
    have d4 : ld1 (ptr q 4) g = some (wv u.e, g) := ld1_at gq rfl rfl
    have d5 : ld1 (ptr q 5) g = some (wv u.f, g) := ld1_at gq rfl rfl
    have d6 : ld1 (ptr q 6) g = some (wv u.g, g) := ld1_at gq rfl rfl
    have d7 : ld1 (ptr q 7) g = some (wv u.i, g) := ld1_at gq rfl rfl
    obtain ⟨re6, re11, re25, _⟩ := rots161 hg u.e
    obtain ⟨_, _, _, ra2, ra13, ra22⟩ := rots161 hg u.a
    generalize hu : stepS u (rkW.getD i 0) (W.getD i 0) = u' at *
    have ok := St.l_ok u'
    obtain ⟨g2, e2, k2, t2, _, n2⟩ := stored_all (n := 8) (k' := wvs u'.l) gq (by rw [K.n0]; exact hq0) rfl rfl ok.2.2
    have bl := bld8 (t1S u (rkW.getD i 0) (W.getD i 0) + t2S u) u.a u.b u.c (u.d + t1S u (rkW.getD i 0) (W.getD i 0)) u.e u.f u.g
    have e2 : stN 8 (ptr q 0) (.agg (wvs [t1S u (rkW.getD i 0) (W.getD i 0) + t2S u, u.a, u.b, u.c, u.d + t1S u (rkW.getD i 0) (W.getD i 0), u.e, u.f, u.g]).toArray) g = some (undef, g2) := by rw [← hu] at e2; exact e2
    have ht1 : wv (u.i + (rotR u.e 6 ^^^ rotR u.e 11 ^^^ rotR u.e 25) + (u.g ^^^ (u.e &&& (u.f ^^^ u.g))) + rkW.getD i 0 + W.getD i 0) = wv (t1S u (rkW.getD i 0) (W.getD i 0)) := rfl
    have ht2 : wv ((rotR u.a 2 ^^^ rotR u.a 13 ^^^ rotR u.a 22) + ((u.a &&& u.b) ||| (u.c &&& (u.a ||| u.b)))) = wv (t2S u) := rfl
    simp -implicitDefEqProofs only [decide_eq_true hi, y4, y7, y11, y12, i0, i1, i2, i3, i4, i5, i6, i7, d0, d1, d2, d3, d4, d5, d6, d7, w_not, w_and, w_xor, ch_eq, maj_eq, re6, re11, re25, ra2, ra13, ra22, ixb, ixk, lw, lk, w_add, ht1, ht2, bl, e2, chkW, Bool.and_self, Bool.and_true, add31 (show i + 1 ≤ 9223372036854775807 by omega), thenV_some, pu_some]
    refine Rnd.next (k - 1) (by omega) ⟨i + 1, by omega, y3, y4, y6, y7, y11, rfl, K.trans k2, ?_, n2.trans gn⟩
    rw [t2, runS, hs, hu]
  · have : i = 64 := by omega
    subst this
    simp -implicitDefEqProofs only [decide_eq_false hi, thenV_some, pu_some]
    exact Rnd.out 2 ⟨rfl, y3, y6, y11, K, gq, gn⟩
end Go.Proofs.YtdnahgfgoajmcaaDoor

namespace Go.Proofs.YtdnahgfgoajmcaaDoor
open Go Go.Abs
attribute [local congr] thenV_congr
theorem wvs_at {L : List (BitVec 32)} {i : Nat} (hi : i < L.length) : (wvs L)[i]? = some (wv (L.getD i 0)) := by
  rw [List.getElem?_map, List.getD_eq_getElem?_getD, List.getElem?_eq_getElem hi]
  rfl
/-- The last loop of round. -/
theorem rnd3 {h : Heap} {p q : Nat} {S L : List (BitVec 32)} (hS : S.length = 8) (hL : L.length = 8) (hp : h.get p = some (wvs S)) (hp0 : h.n0 ≤ p) (hq : h.get q = some (wvs L)) (hne : ¬ q = p)
    {p6 : Value} {x : Nat → Value} (x3 : x 3 = ptr p 0) (x6 : x 6 = p6) (x11 : x 11 = ptr q 0) (x19 : x 19 = i64n 0) :
    Fin 206 (fun ex y g => ex = .exit 4 ∧ y 3 = ptr p 0 ∧ y 6 = p6 ∧ Kept h g (· = p) ∧ g.get p = some (wvs (addS S L)) ∧ g.next = h.next) (iter (codeA Tryd.prog CW (partOf Tryd.f153 [1, 1, 1, 1, 1, 0, 1, 0, 0])) rounds (mkF 206 x) h) := by
  have hm0 : mixS S L 0 = S := rfl
  have hm8 : mixS S L 8 = addS S L := by
    obtain ⟨a, b, c, d, e, f, g, j, rfl⟩ := eight hS
    obtain ⟨a', b', c', d', e', f', g', j', rfl⟩ := eight hL
    rfl
  refine loop_fin (t153l153_11111010_eq CW) (Inv := fun k y g => ∃ i, i + k = 8 ∧ y 3 = ptr p 0 ∧ y 6 = p6 ∧ y 11 = ptr q 0 ∧ y 19 = i64n i ∧ Kept h g (· = p) ∧ g.get p = some (wvs (mixS S L i)) ∧ g.next = h.next) ?_ 8 (by have : rounds = 18446744073709551616 := rfl; omega) ⟨0, Nat.zero_add _, x3, x6, x11, x19, Kept.refl _ _, by rw [hm0]; exact hp, rfl⟩
  rintro k y g ⟨i, hik, y3, y6, y11, y19, K, gp, gn⟩
  unfold t153l153_11111010
  have l8 : bin Tryd.prog .lss 3 (i64n i) (.int .i64 8) = some (.bool (decide (i < 8))) := lss3 i 8
  simp -implicitDefEqProofs only [y19, l8, thenV_some, pu_some]
  by_cases hi : i < 8
  · obtain ⟨m1, m2, m3⟩ := mix_step hS hL hi
    have ixp : idxA 8 1 (ptr p 0) (i64n i) = some (ptr p i) := by rw [idxN hi, Nat.zero_add]
    have ixq : idxA 8 1 (ptr q 0) (i64n i) = some (ptr q i) := by rw [idxN hi, Nat.zero_add]
    have lp : ld1 (ptr p i) g = some (wv (S.getD i 0), g) := by
      rw [← m1]
      exact ld1_at gp (wvs_at (by omega)) rfl
    have lq : ld1 (ptr q i) g = some (wv (L.getD i 0), g) := ld1_at (Kept.getE K hq hne) (wvs_at (by omega)) rfl
    obtain ⟨g2, e2, k2, t2, _, n2⟩ := stored (o := i) (v := wv (S.getD i 0 + L.getD i 0)) gp (by rw [K.n0]; exact hp0) (by rw [List.length_map, m3]; omega) rfl rfl
    simp -implicitDefEqProofs only [decide_eq_true hi, y3, y11, y19, ixp, ixq, lp, lq, w_add, e2, add31 (show i + 1 ≤ 9223372036854775807 by omega), thenV_some, pu_some]
    refine Rnd.next (k - 1) (by omega) ⟨i + 1, by omega, y3, y6, y11, rfl, K.trans k2, ?_, n2.trans gn⟩
    rw [t2, ← m2]
    show some ((List.map wv (mixS S L i)).set i (wv (S.getD i 0 + L.getD i 0))) = some (List.map wv ((mixS S L i).set i (S.getD i 0 + L.getD i 0)))
    rw [List.map_set]
  · have : i = 8 := by omega
    subst this
    simp -implicitDefEqProofs only [decide_eq_false hi, thenV_some, pu_some]
    rw [hm8] at gp
    exact Rnd.out 4 ⟨rfl, y3, y6, K, gp, gn⟩
theorem is153 : IsFn Tryd.prog 153 Tryd.f153 := ⟨by kernel_rfl, by kernel_rfl, by kernel_rfl, by kernel_rfl⟩
theorem aggT8 : aggT Tryd.prog 176 = some true := by kernel_rfl
theorem sizT8 : sizeT Tryd.prog 176 = some 8 := by kernel_rfl
theorem results153 : Tryd.f153.results.toList = [.cell 6 176] := by kernel_rfl
set_option maxRecDepth 100000 in
/-- round -/
theorem r153 {h : Heap} (hG : 4 ≤ h.n0) {S : List (BitVec 32)} (hS : S.length = 8) {B : List Nat} (hBl : B.length = 64) {a : Option Addr} {c : Nat} (hB : sliceBytes a 64 h = some B) :
    ∃ h', CW 153 [.agg (wvs S).toArray, .agg (wvs rkW).toArray, .slice a 64 c] h = some (.agg (wvs (compS S B)).toArray, h') ∧ Old h h' := by
  have hS2 := words_ok S
  have hK2 := words_ok rkW
  have b1 := box_at h _ hS2.2
  have o1 : Old h (h.alloc (wvs S)) := Kept.alloc _ _ _
  have g1 : (h.alloc (wvs S)).get h.next = some (wvs S) := by rw [Heap.get_alloc, if_pos rfl]
  have n1 : (h.alloc (wvs S)).next = h.next + 1 := Heap.next_alloc ..
  generalize h.alloc (wvs S) = h1 at *
  have b2 := box_at h1 _ hK2.2
  have o2 : Old h1 (h1.alloc (wvs rkW)) := Kept.alloc _ _ _
  have g2 : (h1.alloc (wvs rkW)).get h1.next = some (wvs rkW) := by rw [Heap.get_alloc, if_pos rfl]
  have n2 : (h1.alloc (wvs rkW)).next = h1.next + 1 := Heap.next_alloc ..
  generalize h1.alloc (wvs rkW) = h2 at *
  obtain ⟨h3, z3, o3, g3, n3⟩ := fresh (List.replicate 8 (.int .u32 0)) h2
  obtain ⟨h4, z4, o4, g4, n4⟩ := fresh (List.replicate 64 (.int .u32 0)) h3
  have O4 : Old h h4 := ((o1.trans o2).trans o3).trans o4
  have hlt : ∀ y, a = some y → ¬ y.block = h3.next := fun y hy e => by
    obtain ⟨b', off', s', k', hx, hk', _⟩ := (sliceBytes_spec hB).2.2 (by decide)
    rw [hy] at hx
    cases hx
    have := h.lt_of_get hk'
    have : b' = h3.next := e
    omega
  have hn0 := h.n0_le_next
  have key : ∃ o : Out, t153 CW (.agg (wvs S).toArray) (.agg (wvs rkW).toArray) (.slice a 64 c) h = o ∧ ∃ h', o = some (.agg (wvs (compS S B)).toArray, h') ∧ Old h h' := by
    refine ⟨_, rfl, ?_⟩
    unfold t153
    simp -implicitDefEqProofs only [b1, b2, z3, z4, thenV_some, pu_some]
    refine endL_fin (Q := fun o : Out => ∃ h', o = some (.agg (wvs (compS S B)).toArray, h') ∧ Old h h') (rnd1 (b := h3.next) (by rw [O4.n0]; exact hG) hBl (Old.bytes O4 hB) hlt (by rw [O4.n0]; omega) g4 (p3 := ptr h.next 0) (p4 := ptr h1.next 0) (p6 := ptr h2.next 0) rfl rfl rfl rfl rfl rfl) ?_
    rintro _ y g5 ⟨rfl, y3, y4, y6, y7, K5, G5, N5⟩
    simp -implicitDefEqProofs only [endL_exit, b153_4, if_true, t153k153_2_eq]
    unfold t153k153_2
    have O5 : Old h3 g5 := Old.of_new o4 K5 (Nat.le_refl _)
    have OO5 : Old h g5 := ((o1.trans o2).trans o3).trans O5
    have P5 : g5.get h.next = some (wvs S) := Old.get ((o2.trans o3).trans O5) g1
    have L5 := ldN_all (n := 8) P5 (by rw [List.length_map, hS]) hS2.1
    obtain ⟨h6, z6, o6, g6, n6⟩ := fresh (List.replicate 8 (.int .u32 0)) g5
    obtain ⟨h7, e7, k7, g7, _, n7⟩ := stored_all (n := 8) (k' := wvs S) g6 (by rw [o6.n0]; exact g5.n0_le_next) rfl (by rw [List.length_map, hS]) hS2.2
    have O7 : Old g5 h7 := Old.of_new o6 k7 (Nat.le_refl _)
    simp -implicitDefEqProofs only [y3, L5, z6, e7, thenV_some]
    have hSl : wvs S = wvs (St.l ⟨S.getD 0 0, S.getD 1 0, S.getD 2 0, S.getD 3 0, S.getD 4 0, S.getD 5 0, S.getD 6 0, S.getD 7 0⟩) := by
      obtain ⟨a, b, c, d, e, f, g, j, rfl⟩ := eight hS
      rfl
    have n5 := O5.next
    refine endL_fin (Q := fun o : Out => ∃ h', o = some (.agg (wvs (compS S B)).toArray, h') ∧ Old h h') (rnd2 (h := h7) (b := h3.next) (kb := h1.next) (q := g5.next) (p := h.next) (by rw [O7.n0, OO5.n0]; exact hG) (W := extW 48 (sch0 B)) (by rw [extW_len]; simp [sch0]) (Old.get O7 G5) (Old.get O7 (Old.get ((o3.trans O5)) g2)) (by rw [O7.n0]; exact g5.n0_le_next) (by omega) (by omega) (by rw [g7]; exact congrArg some hSl) (p6 := ptr h2.next 0) y3 y4 y6 y7 rfl rfl) ?_
    rintro _ y' g8 ⟨rfl, y3', y6', y11', K8, G8, N8⟩
    simp -implicitDefEqProofs only [endL_exit, b153_8, if_true, t153k153_6_eq]
    unfold t153k153_6
    simp -implicitDefEqProofs only [thenV_some]
    have O8 : Old g5 g8 := Old.of_new O7 K8 (Nat.le_refl _)
    refine endL_fin (Q := fun o : Out => ∃ h', o = some (.agg (wvs (compS S B)).toArray, h') ∧ Old h h') (rnd3 (h := g8) (p := h.next) (q := g5.next) hS rfl (Old.get O8 P5) (by rw [O8.n0, OO5.n0]; omega) G8 (by have := OO5.next; omega) (p6 := ptr h2.next 0) y3' y6' y11' rfl) ?_
    rintro _ y9 g9 ⟨rfl, y39, y69, K9, G9, N9⟩
    simp -implicitDefEqProofs only [endL_exit, b153_22, if_true, t153k153_20_eq]
    unfold t153k153_20
    have hcomp : addS S (runS (extW 48 (sch0 B)) 64 ⟨S.getD 0 0, S.getD 1 0, S.getD 2 0, S.getD 3 0, S.getD 4 0, S.getD 5 0, S.getD 6 0, S.getD 7 0⟩).l = compS S B := rfl
    rw [hcomp] at G9
    have cl : (wvs (compS S B)).length = 8 := by rw [List.length_map, compS_len hS]
    have L9 := ldN_all (n := 8) G9 cl (words_ok _).1
    have O9 : Old h g9 := (OO5.trans O8).also K9 (fun d hd e => by omega)
    have q3 : g9.get h2.next = some (List.replicate 8 (.int .u32 0)) := Kept.getE K9 (Old.get O8 (Old.get O5 g3)) (by omega)
    obtain ⟨h10, e10, k10, g10, _, _⟩ := stored_all (n := 8) (k' := wvs (compS S B)) q3 (by rw [O9.n0]; omega) rfl cl (words_ok _).2
    have L10 := ldN_all (n := 8) g10 cl (words_ok _).1
    simp -implicitDefEqProofs only [y39, L9, y69, e10, thenV_some]
    refine ⟨h10, ?_, Old.of_new O9 k10 (by omega)⟩
    exact res_cell results153 aggT8 sizT8 (show 6 < 206 by decide) _ (by
      show ldN 8 (y9 6) h10 = _
      rw [y69]
      exact L10)
  obtain ⟨o9, e, h', e', r⟩ := key
  exact ⟨h', CW_body is153 hG rfl ((t153_eq _ _ _ _ _).trans (e.trans e')), r⟩
end Go.Proofs.YtdnahgfgoajmcaaDoor

namespace Go.Proofs.YtdnahgfgoajmcaaDoor
open Go Go.Abs
attribute [local congr] thenV_congr
/-- The first loop of fold: zeros. -/
theorem fd1 {h0 h : Heap} {v : Value} {l : List Nat} {z : Nat} (K : Old h0 h) (o : OwnB h h0.next v l) (hl : l.length ≤ 1000000) (hz : (l.length + z) % 64 = 56) (hz2 : z < 64) {q0 q4 q5 q6 : Value} {x : Nat → Value} (x0 : x 0 = q0) (x4 : x 4 = q4) (x5 : x 5 = q5) (x6 : x 6 = q6) (x7 : x 7 = v) :
    Fin 74 (fun ex y g => ex = .exit 0 ∧ y 0 = q0 ∧ y 4 = q4 ∧ y 5 = q5 ∧ y 6 = q6 ∧ OwnB g h0.next (y 7) (l ++ List.replicate z 0) ∧ Old h0 g) (iter (codeA Tryd.prog CW (partOf Tryd.f136 [1, 1, 0, 0, 0])) rounds (mkF 74 x) h) := by
  refine loop_fin (t136l136_1100_eq CW) (Inv := fun k y g => ∃ l', y 0 = q0 ∧ y 4 = q4 ∧ y 5 = q5 ∧ y 6 = q6 ∧ OwnB g h0.next (y 7) l' ∧ Old h0 g ∧ (l'.length + k) % 64 = 56 ∧ k < 64 ∧ l' ++ List.replicate k 0 = l ++ List.replicate z 0 ∧ l'.length ≤ 1000064 - k) ?_ z (by have : rounds = 18446744073709551616 := rfl; omega) ⟨l, x0, x4, x5, x6, by rw [x7]; exact o, K, hz, hz2, rfl, by omega⟩
  rintro k y g ⟨l', y0, y4, y5, y6, O, K', hm, hk, hc, hb⟩
  unfold t136l136_1100
  obtain ⟨a, c, hv, s, _, _⟩ := O.bytes
  have hll : lenL (y 7) = some (i64n l'.length) := by rw [hv]; rfl
  have hr : bin Tryd.prog .rem 3 (i64n l'.length) (.int .i64 64) = some (i64n (l'.length % 64)) := by
    unfold i64n
    rw [bin_rem Tryd.prog 3 .i64 _ 64 (by decide)]
    rfl
  cases k with
  | zero =>
    have h56 : l'.length % 64 = 56 := by omega
    have hn : bin Tryd.prog .neq 3 (i64n (l'.length % 64)) (.int .i64 56) = some (.bool false) := by
      unfold i64n
      rw [bin_neq, h56]
      rfl
    simp -implicitDefEqProofs only [hll, hr, hn, thenV_some, pu_some]
    refine Rnd.out 0 ⟨rfl, y0, y4, y5, y6, ?_, K'⟩
    rw [← hc, List.replicate_zero, List.append_nil]
    exact O
  | succ k =>
    have h56 : l'.length % 64 ≠ 56 := by omega
    have hn : bin Tryd.prog .neq 3 (i64n (l'.length % 64)) (.int .i64 56) = some (.bool true) := by
      unfold i64n
      rw [bin_neq]
      congr 2
      simp only [bne_iff_ne, ne_eq]
      omega
    have b0 : bslR 1 (.int .u8 0) 1 [(0, .int .u8 0)] g = some (.slice (some ⟨g.next, 0, none⟩) 1 1, g.alloc [u8 0]) := bsl1 g 0
    obtain ⟨v', g2, e2, O2, K2⟩ := app_one (x := 0) K' O (by decide) (by omega)
    simp -implicitDefEqProofs only [hll, hr, hn, b0, e2, thenV_some, pu_some]
    refine Rnd.next k (by omega) ⟨l' ++ [0], y0, y4, y5, y6, O2, K2, by simp; omega, by omega, ?_, by simp; omega⟩
    rw [← hc, List.append_assoc]
    rfl
/-- The second loop of fold: the length. -/
theorem fd2 {h0 h : Heap} {v : Value} {l : List Nat} {N : Nat} (hN : N < 18446744073709551616) (K : Old h0 h) (o : OwnB h h0.next v l) (hl : l.length ≤ 1000064) {q4 q5 q6 : Value} {x : Nat → Value} (x4 : x 4 = q4) (x5 : x 5 = q5) (x6 : x 6 = q6) (x7 : x 7 = v) (x8 : x 8 = .int .u64 (N : Int)) (x9 : x 9 = .int .i64 7) :
    Fin 74 (fun ex y g => ex = .exit 2 ∧ y 4 = q4 ∧ y 5 = q5 ∧ y 6 = q6 ∧ OwnB g h0.next (y 7) (l ++ beB 8 N) ∧ Old h0 g) (iter (codeA Tryd.prog CW (partOf Tryd.f136 [1, 1, 1, 1, 0, 1, 0, 0])) rounds (mkF 74 x) h) := by
  refine loop_fin (t136l136_1111010_eq CW) (Inv := fun k y g => ∃ l', k ≤ 8 ∧ y 4 = q4 ∧ y 5 = q5 ∧ y 6 = q6 ∧ y 8 = .int .u64 (N : Int) ∧ y 9 = .int .i64 ((k : Int) - 1) ∧ OwnB g h0.next (y 7) l' ∧ Old h0 g ∧ l' ++ beB k N = l ++ beB 8 N ∧ l'.length ≤ 1000072) ?_ 8 (by have : rounds = 18446744073709551616 := rfl; omega) ⟨l, by omega, x4, x5, x6, x8, x9, by rw [x7]; exact o, K, rfl, by omega⟩
  rintro k y g ⟨l', hk, y4, y5, y6, y8, y9, O, K', hc, hb⟩
  unfold t136l136_1111010
  have hlen : l'.length + k = l.length + 8 := by
    have := congrArg List.length hc
    simpa [beB_length] using this
  cases k with
  | zero =>
    have y9' : y 9 = .int .i64 (-1) := y9
    have hg : bin Tryd.prog .geq 3 (.int .i64 (-1)) (.int .i64 0) = some (.bool false) := by rw [bin_geq]; rfl
    simp -implicitDefEqProofs only [y9', hg, thenV_some, pu_some]
    refine Rnd.out 2 ⟨rfl, y4, y5, y6, ?_, K'⟩
    rw [← hc, beB, List.append_nil]
    exact O
  | succ k =>
    have y9' : y 9 = i64n k := by
      rw [y9]
      unfold i64n
      congr 1
      omega
    have hg : bin Tryd.prog .geq 3 (i64n k) (.int .i64 0) = some (.bool true) := by
      unfold i64n
      rw [bin_geq, decide_eq_true (by omega)]
    have cu : cvI .u64 (i64n k) g = some (.int .u64 (k : Int), g) := by
      unfold i64n
      rw [cvI_int, wrap_u64 (by omega) (by omega)]
    have ml : bin Tryd.prog .mul 111 (.int .u64 8) (.int .u64 (k : Int)) = some (.int .u64 ((8 * k : Nat) : Int)) := by
      rw [bin_mul, show (8 : Int) * (k : Int) = ((8 * k : Nat) : Int) by omega, wrap_u64 (by omega) (by omega)]
    have sh : bin Tryd.prog .shr 32 (.int .u64 (N : Int)) (.int .u64 ((8 * k : Nat) : Int)) = some (.int .u64 ((N / 2 ^ (8 * k) : Nat) : Int)) := bin_shr_nat Tryd.prog 32 (by show 8 * k ≤ 64; omega)
    have c8 : cvI .u8 (.int .u64 ((N / 2 ^ (8 * k) : Nat) : Int)) g = some (u8 (N / 256 ^ k % 256), g) := by
      rw [cvI_int, wrap_u8_mod, Nat.pow_mul]
      rfl
    have b1 := bsl1 g (N / 256 ^ k % 256)
    obtain ⟨v', g2, e2, O2, K2⟩ := app_one (x := N / 256 ^ k % 256) K' O (Nat.mod_lt _ (by decide)) (by omega)
    have sb : bin Tryd.prog .sub 3 (i64n k) (.int .i64 1) = some (.int .i64 ((k : Int) - 1)) := by
      unfold i64n
      rw [bin_sub, wrap_i64 (by omega) (by omega)]
    simp -implicitDefEqProofs only [y9', hg, y8, cu, ml, sh, c8, b1, e2, sb, thenV_some, pu_some]
    refine Rnd.next k (by omega) ⟨l' ++ [N / 256 ^ k % 256], by omega, y4, y5, y6, y8, rfl, O2, K2, ?_, by simp; omega⟩
    rw [← hc, List.append_assoc]
    rfl
end Go.Proofs.YtdnahgfgoajmcaaDoor

namespace Go.Proofs.YtdnahgfgoajmcaaDoor
open Go Go.Abs
attribute [local congr] thenV_congr
/-- The state after some blocks. -/
def foldB : Nat → List Nat → List (BitVec 32) → List (BitVec 32)
  | 0, _, S => S
  | t + 1, m, S => foldB t (m.drop 64) (compS S (m.take 64))
theorem foldB_len : ∀ (t : Nat) (m : List Nat) (S : List (BitVec 32)), S.length = 8 → (foldB t m S).length = 8
  | 0, _, _, h => h
  | t + 1, m, S, h => foldB_len t _ _ (compS_len h)
theorem ixT {N b : Nat} {j : Nat} (hj : j < N) : idxA N 1 (ptr b 0) (i64n j) = some (ptr b j) := by rw [idxN hj, Nat.zero_add]
set_option maxRecDepth 100000 in
/-- The third loop of fold: the blocks. -/
theorem fd3 {h : Heap} (hG : 4 ≤ h.n0) {p kb t : Nat} {S : List (BitVec 32)} {m : List Nat} {a : Option Addr} {c : Nat} (hS : S.length = 8) (hp : h.get p = some (wvs S)) (hp0 : h.n0 ≤ p) (hk : h.get kb = some (wvs rkW)) (hkp : ¬ kb = p) (hm : sliceBytes a (64 * t) h = some m) (hg : goodS a (64 * t) c = true) (ha : ∀ y, a = some y → ¬ y.block = p) (ht : t ≤ 100000)
    {q6 : Value} {x : Nat → Value} (x4 : x 4 = ptr kb 0) (x5 : x 5 = ptr p 0) (x6 : x 6 = q6) (x7 : x 7 = .slice a (64 * t) c) (x10 : x 10 = i64n 0) :
    Fin 74 (fun ex y g => ex = .exit 4 ∧ y 5 = ptr p 0 ∧ y 6 = q6 ∧ Kept h g (· = p) ∧ g.get p = some (wvs (foldB t m S))) (iter (codeA Tryd.prog CW (partOf Tryd.f136 [1, 1, 1, 1, 1, 0, 1, 0, 0])) rounds (mkF 74 x) h) := by
  have hml : m.length = 64 * t := (sliceBytes_spec hm).1
  refine loop_fin (t136l136_11111010_eq CW) (Inv := fun k y g => ∃ i S', i + k = t ∧ y 4 = ptr kb 0 ∧ y 5 = ptr p 0 ∧ y 6 = q6 ∧ y 7 = .slice a (64 * t) c ∧ y 10 = i64n (64 * i) ∧ S'.length = 8 ∧ Kept h g (· = p) ∧ g.get p = some (wvs S') ∧ foldB k (m.drop (64 * i)) S' = foldB t m S) ?_ t (by have : rounds = 18446744073709551616 := rfl; omega) ⟨0, S, Nat.zero_add _, x4, x5, x6, x7, x10, hS, Kept.refl _ _, hp, rfl⟩
  rintro k y g ⟨i, S', hik, y4, y5, y6, y7, y10, hS', K, gp, hf⟩
  unfold t136l136_11111010
  have hll : lenL (.slice a (64 * t) c) = some (i64n (64 * t)) := rfl
  simp -implicitDefEqProofs only [y10, y7, hll, lss3, thenV_some, pu_some]
  cases k with
  | zero =>
    have hi : ¬ 64 * i < 64 * t := by omega
    simp -implicitDefEqProofs only [decide_eq_false hi, thenV_some, pu_some]
    exact Rnd.out 4 ⟨rfl, y5, y6, K, by rw [← hf]; exact gp⟩
  | succ k =>
    have hi : 64 * i < 64 * t := by omega
    have hgn : 4 ≤ g.n0 := by rw [K.n0]; exact hG
    have l5 := ldN_all (n := 8) gp (by rw [List.length_map, hS']) (words_ok S').1
    have l4 := ldN_all (n := 64) (Kept.getE K hk hkp) (by rw [List.length_map, rkW_len]) (words_ok rkW).1
    have sl : sliceBytes a (64 * t) g = some m := K.bytes hm (fun y hy _ => ha y hy)
    have a1 : bin Tryd.prog .add 3 (i64n (64 * i)) (.int .i64 64) = some (i64n (64 * i + 64)) := by
      unfold i64n
      rw [bin_add, show ((64 * i : Nat) : Int) + 64 = ((64 * i + 64 : Nat) : Int) by omega, wrap_i64 (by omega) (by omega)]
    obtain ⟨a2, c2, es, ss, gs, bs⟩ := slR_bytes (vl := some (i64n (64 * i))) (vh := some (i64n (64 * i + 64))) (lo := 64 * i) (hi := 64 * i + 64) hg sl (by omega) (by omega) (by
        have := goodS_le hg
        unfold boundA i64n
        simp only
        rw [if_pos (by omega), Int.toNat_natCast]) (by
        unfold boundA i64n
        simp only
        rw [if_pos (by omega), Int.toNat_natCast])
    rw [show 64 * i + 64 - 64 * i = 64 by omega] at es ss
    have hBl : ((m.drop (64 * i)).take 64).length = 64 := by rw [List.length_take, List.length_drop]; omega
    obtain ⟨g2, e2, o2⟩ := r153 (h := g) hgn hS' hBl (c := c2) ss
    have cl : (wvs (compS S' ((m.drop (64 * i)).take 64))).length = 8 := by rw [List.length_map, compS_len hS']
    obtain ⟨g3, e3, k3, g3', _, _⟩ := stored_all (n := 8) (k' := wvs (compS S' ((m.drop (64 * i)).take 64))) (Old.get o2 gp) (by rw [o2.n0, K.n0]; exact hp0) (by rw [List.length_map, hS']) cl (words_ok _).2
    simp -implicitDefEqProofs only [decide_eq_true hi, y4, y5, l5, l4, a1, es, e2, e3, thenV_some, pu_some]
    refine Rnd.next k (by omega) ⟨i + 1, compS S' ((m.drop (64 * i)).take 64), by omega, y4, y5, y6, y7, rfl, compS_len hS', (K.trans (o2.mono (fun _ _ h => h.elim))).trans k3, g3', ?_⟩
    rw [← hf, foldB, List.drop_drop]
    rfl
/-- The last loop of fold: the digest's bytes. -/
theorem fd4 {h : Heap} {b p : Nat} {S : List (BitVec 32)} (hS : S.length = 8) (hp : h.get p = some (wvs S)) (hpb : p ≠ b) (hb : h.n0 ≤ b) (hw : h.get b = some (u8s (digT S 0))) {q6 : Value}
    {x : Nat → Value} (x5 : x 5 = ptr p 0) (x6 : x 6 = q6) (x11 : x 11 = ptr b 0) (x12 : x 12 = i64n 0) :
    Fin 74 (fun ex y g => ex = .exit 6 ∧ y 6 = q6 ∧ y 11 = ptr b 0 ∧ Kept h g (· = b) ∧ g.get b = some (u8s (digT S 32))) (iter (codeA Tryd.prog CW (partOf Tryd.f136 [1, 1, 1, 1, 1, 1, 1, 0, 1, 0, 0])) rounds (mkF 74 x) h) := by
  refine loop_fin (t136l136_1111111010_eq CW) (Inv := fun k y g => ∃ j, j + k = 32 ∧ y 5 = ptr p 0 ∧ y 6 = q6 ∧ y 11 = ptr b 0 ∧ y 12 = i64n j ∧ Kept h g (· = b) ∧ g.get b = some (u8s (digT S j))) ?_ 32 (by have : rounds = 18446744073709551616 := rfl; omega) ⟨0, Nat.zero_add _, x5, x6, x11, x12, Kept.refl _ _, hw⟩
  rintro k y g ⟨j, hjk, y5, y6, y11, y12, K, gw⟩
  unfold t136l136_1111111010
  have l32 : bin Tryd.prog .lss 3 (i64n j) (.int .i64 32) = some (.bool (decide (j < 32))) := lss3 j 32
  simp -implicitDefEqProofs only [y12, l32, thenV_some, pu_some]
  by_cases hj : j < 32
  · have q1 : bin Tryd.prog .quo 3 (i64n j) (.int .i64 4) = some (i64n (j / 4)) := by
      unfold i64n
      rw [bin_quo Tryd.prog 3 .i64 _ 4 (by decide), show Int.tdiv (j : Int) 4 = ((j / 4 : Nat) : Int) from rfl, wrap_i64 (by omega) (by omega)]
    have r1 : bin Tryd.prog .rem 3 (i64n j) (.int .i64 4) = some (i64n (j % 4)) := by
      unfold i64n
      rw [bin_rem Tryd.prog 3 .i64 _ 4 (by decide)]
      rfl
    have cu : cvI .u64 (i64n (j % 4)) g = some (.int .u64 ((j % 4 : Nat) : Int), g) := by
      unfold i64n
      rw [cvI_int, wrap_u64 (by omega) (by omega)]
    have m1 : bin Tryd.prog .mul 111 (.int .u64 8) (.int .u64 ((j % 4 : Nat) : Int)) = some (.int .u64 ((8 * (j % 4) : Nat) : Int)) := by
      rw [bin_mul, show (8 : Int) * ((j % 4 : Nat) : Int) = ((8 * (j % 4) : Nat) : Int) by omega, wrap_u64 (by omega) (by omega)]
    have s1 : bin Tryd.prog .sub 111 (.int .u64 24) (.int .u64 ((8 * (j % 4) : Nat) : Int)) = some (.int .u64 ((24 - 8 * (j % 4) : Nat) : Int)) := by
      rw [bin_sub, show (24 : Int) - ((8 * (j % 4) : Nat) : Int) = ((24 - 8 * (j % 4) : Nat) : Int) by omega, wrap_u64 (by omega) (by omega)]
    have lp : ld1 (ptr p (j / 4)) g = some (wv (S.getD (j / 4) 0), g) := ld1_at (Kept.getE K hp hpb) (wvs_at (by omega)) rfl
    have sh : bin Tryd.prog .shr 174 (wv (S.getD (j / 4) 0)) (.int .u64 ((24 - 8 * (j % 4) : Nat) : Int)) = some (.int .u32 (((S.getD (j / 4) 0).toNat / 2 ^ (24 - 8 * (j % 4)) : Nat) : Int)) := bin_shr_nat Tryd.prog 174 (by show 24 - 8 * (j % 4) ≤ 32; omega)
    have c1 : cvI .u8 (.int .u32 (((S.getD (j / 4) 0).toNat / 2 ^ (24 - 8 * (j % 4)) : Nat) : Int)) g = some (u8 ((S.getD (j / 4) 0).toNat / 2 ^ (24 - 8 * (j % 4)) % 256), g) := by
      rw [cvI_int, wrap_u8_mod]
      rfl
    obtain ⟨g2, e2, k2, t2, _, n2⟩ := stored (o := j) (v := u8 ((S.getD (j / 4) 0).toNat / 2 ^ (24 - 8 * (j % 4)) % 256)) gw (by rw [K.n0]; exact hb) (by rw [List.length_map, digT_len]; omega) rfl rfl
    simp -implicitDefEqProofs only [decide_eq_true hj, y5, y11, y12, q1, r1, cu, m1, s1, ixT (show j / 4 < 8 by omega), lp, sh, c1, ixT hj, e2, add31 (show j + 1 ≤ 9223372036854775807 by omega), thenV_some, pu_some]
    refine Rnd.next (k - 1) (by omega) ⟨j + 1, by omega, y5, y6, y11, rfl, K.trans k2, ?_⟩
    rw [t2, digT]
    show some ((List.map u8 (digT S j)).set j (u8 ((S.getD (j / 4) 0).toNat / 2 ^ (24 - 8 * (j % 4)) % 256))) = some (List.map u8 ((digT S j).set j ((S.getD (j / 4) 0).toNat / 2 ^ (24 - 8 * (j % 4)) % 256)))
    rw [List.map_set]
  · have : j = 32 := by omega
    subst this
    simp -implicitDefEqProofs only [decide_eq_false hj, thenV_some, pu_some]
    exact Rnd.out 6 ⟨rfl, y6, y11, K, gw⟩
end Go.Proofs.YtdnahgfgoajmcaaDoor

namespace Go.Proofs.YtdnahgfgoajmcaaDoor
open Go Go.Abs
attribute [local congr] thenV_congr
theorem is136 : IsFn Tryd.prog 136 Tryd.f136 := ⟨by kernel_rfl, by kernel_rfl, by kernel_rfl, by kernel_rfl⟩
theorem results136 : Tryd.f136.results.toList = [.cell 6 35] := by kernel_rfl
/-- How many zeros stand behind a message of n bytes and the byte 128. -/
def zerosN (n : Nat) : Nat := (119 - n % 64) % 64
/-- A message with its padding. -/
def padM (l : List Nat) : List Nat := ((l ++ [128]) ++ List.replicate (zerosN l.length) 0) ++ beB 8 (l.length * 8)
def blocksN (l : List Nat) : Nat := (l.length + zerosN l.length + 9) / 64
theorem zerosN_spec (n : Nat) : (n + 1 + zerosN n) % 64 = 56 ∧ zerosN n < 64 := by
  unfold zerosN
  omega
theorem padM_len (l : List Nat) : (padM l).length = 64 * blocksN l := by
  have := zerosN_spec l.length
  unfold padM blocksN
  simp only [List.length_append, List.length_replicate, beB_length, List.length_cons, List.length_nil]
  omega
/-- What the document's Sum is of a state and bytes. -/
def sumR (S : List (BitVec 32)) (l : List Nat) : List Nat := digT (foldB (blocksN l) (padM l) S) 32
theorem sumR_ok (S : List (BitVec 32)) (l : List Nat) : D32 (sumR S l) := ⟨digT_len _ 32, digT_bys _ 32⟩
set_option maxRecDepth 100000 in
/-- fold -/
theorem r136 {h : Heap} (hG : 4 ≤ h.n0) {S : List (BitVec 32)} (hS : S.length = 8) {a : Option Addr} {n c : Nat} {l : List Nat} (hl : sliceBytes a n h = some l) (hn : n ≤ 20000) :
    ∃ h', CW 136 [.slice a n c, .agg (wvs rkW).toArray, .agg (wvs S).toArray] h = some (.agg (u8s (sumR S l)).toArray, h') ∧ Old h h' := by
  have hlen : l.length = n := (sliceBytes_spec hl).1
  have hS2 := words_ok S
  have hK2 := words_ok rkW
  have b1 := box_at h _ hK2.2
  have o1 : Old h (h.alloc (wvs rkW)) := Kept.alloc _ _ _
  have g1 : (h.alloc (wvs rkW)).get h.next = some (wvs rkW) := by rw [Heap.get_alloc, if_pos rfl]
  have n1 : (h.alloc (wvs rkW)).next = h.next + 1 := Heap.next_alloc ..
  generalize h.alloc (wvs rkW) = h1 at *
  have b2 := box_at h1 _ hS2.2
  have o2 : Old h1 (h1.alloc (wvs S)) := Kept.alloc _ _ _
  have g2 : (h1.alloc (wvs S)).get h1.next = some (wvs S) := by rw [Heap.get_alloc, if_pos rfl]
  have n2 : (h1.alloc (wvs S)).next = h1.next + 1 := Heap.next_alloc ..
  generalize h1.alloc (wvs S) = h2 at *
  obtain ⟨h3, z3, o3, g3, n3⟩ := fresh (List.replicate 32 (.int .u8 0)) h2
  have O3 : Old h h3 := (o1.trans o2).trans o3
  have b4 := bsl_bytes h3
  have o4 : Old h3 (h3.alloc []) := Kept.alloc _ _ _
  have w4 : OwnB (h3.alloc []) h3.next (.slice (some ⟨h3.next, 0, none⟩) 0 0) [] := ⟨OwnC.empty _ (Nat.le_refl _), by simp⟩
  obtain ⟨v5, h5, e5, w5, o5⟩ := app_sl (c := c) o4 w4 (Old.bytes (O3.trans o4) hl) (by show 0 + n ≤ 100000000; omega)
  rw [List.nil_append] at w5
  have b6 : bslR 1 (.int .u8 0) 1 [(0, .int .u8 128)] h5 = some (.slice (some ⟨h5.next, 0, none⟩) 1 1, h5.alloc [u8 128]) := bsl1 h5 128
  obtain ⟨v6, h6, e6, w6, o6⟩ := app_one (x := 128) o5 w5 (by decide) (by omega)
  have zs := zerosN_spec l.length
  have hn0 := h.n0_le_next
  have key : ∃ o : Out, t136 CW (.slice a n c) (.agg (wvs rkW).toArray) (.agg (wvs S).toArray) h = o ∧ ∃ h', o = some (.agg (u8s (sumR S l)).toArray, h') ∧ Old h h' := by
    refine ⟨_, rfl, ?_⟩
    unfold t136
    simp -implicitDefEqProofs only [b1, b2, z3, b4, e5, b6, e6, thenV_some]
    refine endL_fin (Q := fun o : Out => ∃ h', o = some (.agg (u8s (sumR S l)).toArray, h') ∧ Old h h') (fd1 (h0 := h3) (z := zerosN l.length) o6 w6 (by simp; omega) (by simp only [List.length_append, List.length_cons, List.length_nil]; omega) zs.2 (q0 := .slice a n c) (q4 := ptr h.next 0) (q5 := ptr h1.next 0) (q6 := ptr h2.next 0) rfl rfl rfl rfl rfl) ?_
    rintro _ y g7 ⟨rfl, y0, y4, y5, y6, w7, o7⟩
    simp -implicitDefEqProofs only [endL_exit, b136_3, if_true, t136k136_2_eq]
    unfold t136k136_2
    have hll : lenL (.slice a n c) = some (i64n n) := rfl
    have cu : cvI .u64 (i64n n) g7 = some (.int .u64 (n : Int), g7) := by
      unfold i64n
      rw [cvI_int, wrap_u64 (by omega) (by omega)]
    have ml : bin Tryd.prog .mul 32 (.int .u64 (n : Int)) (.int .u64 8) = some (.int .u64 ((l.length * 8 : Nat) : Int)) := by
      rw [bin_mul, show (n : Int) * 8 = ((l.length * 8 : Nat) : Int) by omega, wrap_u64 (by omega) (by omega)]
    simp -implicitDefEqProofs only [y0, hll, cu, ml, thenV_some, pu_some]
    refine endL_fin (Q := fun o : Out => ∃ h', o = some (.agg (u8s (sumR S l)).toArray, h') ∧ Old h h') (fd2 (h0 := h3) (N := l.length * 8) (by omega) o7 w7 (by simp only [List.length_append, List.length_cons, List.length_nil, List.length_replicate]; omega) y4 y5 y6 rfl rfl rfl) ?_
    rintro _ y' g8 ⟨rfl, y4', y5', y6', w8, o8⟩
    simp -implicitDefEqProofs only [endL_exit, b136_7, if_true, t136k136_5_eq]
    unfold t136k136_5
    simp -implicitDefEqProofs only [thenV_some]
    obtain ⟨a8, c8, hv8, s8, gd8, hN8, _⟩ := w8.bytes
    have hpl : (((l ++ [128]) ++ List.replicate (zerosN l.length) 0) ++ beB 8 (l.length * 8)).length = 64 * blocksN l := padM_len l
    rw [hpl] at hv8 s8 gd8
    have OO8 : Old h g8 := O3.trans o8
    have P8 : g8.get h1.next = some (wvs S) := Old.get (o3.trans o8) g2
    have Q8 : g8.get h.next = some (wvs rkW) := Old.get ((o2.trans o3).trans o8) g1
    have hbl : blocksN l ≤ 100000 := by unfold blocksN; omega
    refine endL_fin (Q := fun o : Out => ∃ h', o = some (.agg (u8s (sumR S l)).toArray, h') ∧ Old h h') (fd3 (h := g8) (by rw [OO8.n0]; exact hG) (p := h1.next) (kb := h.next) (t := blocksN l) hS P8 (by rw [OO8.n0]; omega) Q8 (by omega) s8 gd8 (fun y hy e => by have := hN8 y hy; omega) hbl (q6 := ptr h2.next 0) y4' y5' y6' hv8 rfl) ?_
    rintro _ y9 g9 ⟨rfl, y59, y69, K9, G9⟩
    simp -implicitDefEqProofs only [endL_exit, b136_13, if_true, t136k136_11_eq]
    unfold t136k136_11
    obtain ⟨h10, z10, o10, g10, n10⟩ := fresh (List.replicate 32 (.int .u8 0)) g9
    simp -implicitDefEqProofs only [z10, thenV_some]
    have O9 : Old h g9 := OO8.also K9 (fun d hd e => by omega)
    have m9 := K9.next
    have m8 := o8.next
    refine endL_fin (Q := fun o : Out => ∃ h', o = some (.agg (u8s (sumR S l)).toArray, h') ∧ Old h h') (fd4 (h := h10) (b := g9.next) (p := h1.next) (foldB_len _ _ _ hS) (Old.get o10 G9) (by omega) (by rw [o10.n0]; exact g9.n0_le_next) g10 (q6 := ptr h2.next 0) y59 y69 rfl rfl) ?_
    rintro _ y11 g11 ⟨rfl, y611, y1111, K11, G11⟩
    simp -implicitDefEqProofs only [endL_exit, b136_21, if_true, t136k136_19_eq]
    unfold t136k136_19
    have dc := dig_cells (sumR_ok S l)
    have G11 : g11.get g9.next = some (u8s (sumR S l)) := G11
    have L11 := ldN_all G11 dc.1 dc.2.1
    have O11 : Old h g11 := (O9.trans o10).also K11 (fun d hd e => by have := O9.next; omega)
    have q3 : g11.get h2.next = some (List.replicate 32 (.int .u8 0)) := Kept.getE K11 (Old.get o10 (Kept.getE K9 (Old.get o8 g3) (by omega))) (by omega)
    obtain ⟨h12, e12, k12, g12, _, _⟩ := stored_all (n := 32) (k' := u8s (sumR S l)) q3 (by rw [O11.n0]; omega) rfl dc.1 dc.2.2
    have L12 := ldN_all g12 dc.1 dc.2.1
    simp -implicitDefEqProofs only [y1111, L11, y611, e12, thenV_some]
    refine ⟨h12, ?_, Old.of_new O11 k12 (by omega)⟩
    exact res_cell results136 agg35 size32 (show 6 < 74 by decide) _ (by
      show ldN 32 (y11 6) h12 = _
      rw [y611]
      exact L12)
  obtain ⟨o9, e, h', e', r⟩ := key
  exact ⟨h', CW_body is136 hG rfl ((t136_eq _ _ _ _ _).trans (e.trans e')), r⟩
end Go.Proofs.YtdnahgfgoajmcaaDoor

namespace Go.Proofs.YtdnahgfgoajmcaaDoor
open Go Go.Abs
attribute [local congr] thenV_congr
/-- The document's table of the digest. -/
def GR (h : Heap) : Prop := h.get 1 = some (wvs rkW)
theorem GR.old {h h' : Heap} (x : GR h) (o : Old h h') : GR h' := Old.get o x
theorem is108 : IsFn Tryd.prog 108 Tryd.f108 := ⟨by kernel_rfl, by kernel_rfl, by kernel_rfl, by kernel_rfl⟩
theorem is72 : IsFn Tryd.prog 72 Tryd.f72 := ⟨by kernel_rfl, by kernel_rfl, by kernel_rfl, by kernel_rfl⟩
theorem is110 : IsFn Tryd.prog 110 Tryd.f110 := ⟨by kernel_rfl, by kernel_rfl, by kernel_rfl, by kernel_rfl⟩
theorem results108 : Tryd.f108.results.toList = [.cell 2 35] := by kernel_rfl
theorem results72 : Tryd.f72.results.toList = [.cell 2 35] := by kernel_rfl
theorem results110 : Tryd.f110.results.toList = [.cell 4 35] := by kernel_rfl
set_option maxRecDepth 100000 in
/-- Sum, of the document -/
theorem r108 {h : Heap} (hG : 4 ≤ h.n0) (hr : GR h) {a : Option Addr} {n c : Nat} {l : List Nat} (hl : sliceBytes a n h = some l) (hn : n ≤ 20000) :
    ∃ h', CW 108 [.slice a n c] h = some (.agg (u8s (sumR H0 l)).toArray, h') ∧ Old h h' := by
  obtain ⟨h1, z1, o1, g1, n1⟩ := fresh (List.replicate 32 (.int .u8 0)) h
  have L1 := ldN_all (n := 64) (Old.get o1 hr) (by rw [List.length_map, rkW_len]) (words_ok rkW).1
  obtain ⟨h2, e2, o2⟩ := r136 (h := h1) (by rw [o1.n0]; exact hG) (S := H0) rfl (c := c) (Old.bytes o1 hl) hn
  have dc := dig_cells (sumR_ok H0 l)
  obtain ⟨h3, e3, k3, g3, _, _⟩ := stored_all (n := 32) (k' := u8s (sumR H0 l)) (o2.get g1) (by rw [o2.n0, o1.n0]; exact h.n0_le_next) rfl dc.1 dc.2.2
  have L3 := ldN_all g3 dc.1 dc.2.1
  refine ⟨h3, CW_body is108 hG rfl ((t108_eq _ _ _).trans ?_), Old.of_new (o1.trans o2) k3 (Nat.le_refl _)⟩
  unfold t108
  simp -implicitDefEqProofs only [z1, L1, bldH, e2, e3, thenV_some, pu_some]
  exact res_cell results108 agg35 size32 (show 2 < 7 by decide) _ L3
/-- The document's hash of a record's bytes, and of two hashes. -/
def leafR (r : RecD) : List Nat := sumR H0 ([0] ++ encRec r)
def nodeR (a b : List Nat) : List Nat := sumR H0 (([1] ++ a) ++ b)
set_option maxRecDepth 100000 in
/-- leaf, of the document -/
theorem r72 {h : Heap} (hG : 4 ≤ h.n0) (hr : GR h) (hz : GZ h) {r : RecD} (w : r.Wf) (v : recB r = true) : ∃ h', CW 72 [.agg (recC r).toArray] h = some (.agg (u8s (leafR r)).toArray, h') ∧ Old h h' := by
  obtain ⟨h1, b1, o1, g1, n1⟩ := rec_box2 h w
  obtain ⟨h2, z2, o2, g2, n2⟩ := fresh (List.replicate 32 (.int .u8 0)) h1
  have L2 := ldN_all (o2.get g1) (rec_cells w).1 (rec_cells w).2.1
  have O2 := o1.trans o2
  obtain ⟨v3, h3, e3, w3, o3⟩ := r46 (h := h2) (by rw [O2.n0]; exact hG) (hz.old O2) w v
  have O3 := O2.trans o3
  obtain ⟨a3, c3, rfl, s3, _, _⟩ := w3.bytes
  rw [encRec_len w] at s3 e3
  have b4 : bslR 1 (.int .u8 0) 1 [(0, .int .u8 0)] h3 = some (.slice (some ⟨h3.next, 0, none⟩) 1 1, h3.alloc [u8 0]) := bsl1 h3 0
  have o4 : Old h3 (h3.alloc [u8 0]) := Kept.alloc _ _ _
  obtain ⟨v5, h5, e5, w5, o5⟩ := append_lit (c := c3) (bytes1 h3 (x := 0) (by decide)) (Old.bytes o4 s3) (by decide) (by decide)
  have O5 := (O3.trans o4).trans o5
  obtain ⟨a5, c5, rfl, s5, _, _⟩ := w5.bytes
  have l5 : ([0] ++ encRec r).length = 54 := by rw [List.length_append, encRec_len w]; rfl
  rw [l5] at s5 e5
  obtain ⟨h6, e6, o6⟩ := r108 (h := h5) (by rw [O5.n0]; exact hG) (hr.old O5) (c := c5) s5 (by decide)
  have e6 : CW 108 [.slice a5 54 c5] h5 = some (.agg (u8s (leafR r)).toArray, h6) := e6
  have O6 := O5.trans o6
  have dc := dig_cells (show D32 (leafR r) from sumR_ok _ _)
  obtain ⟨h7, e7, k7, g7, _, _⟩ := stored_all (n := 32) (k' := u8s (leafR r)) (Old.get (((o3.trans o4).trans o5).trans o6) g2) (by rw [O6.n0]; have := h.n0_le_next; have := o1.next; omega) rfl dc.1 dc.2.2
  have L7 := ldN_all g7 dc.1 dc.2.1
  refine ⟨h7, CW_body is72 hG rfl ((t72_eq _ _ _).trans ?_), Old.of_new O6 k7 (by have := o1.next; omega)⟩
  unfold t72
  simp -implicitDefEqProofs only [b1, z2, L2, e3, ext0, ext1, b4, e5, e6, e7, thenV_some, pu_some]
  exact res_cell results72 agg35 size32 (show 2 < 14 by decide) _ L7
end Go.Proofs.YtdnahgfgoajmcaaDoor

namespace Go.Proofs.YtdnahgfgoajmcaaDoor
open Go Go.Abs
attribute [local congr] thenV_congr
set_option maxRecDepth 100000 in
/-- node, of the document -/
theorem r110 {h : Heap} (hG : 4 ≤ h.n0) (hr : GR h) {a b : List Nat} (wa : D32 a) (wb : D32 b) : ∃ h', CW 110 [.agg (u8s a).toArray, .agg (u8s b).toArray] h = some (.agg (u8s (nodeR a b)).toArray, h') ∧ Old h h' := by
  have ca := dig_cells wa
  have cb := dig_cells wb
  have b1 := box_at h _ ca.2.2
  have o1 : Old h (h.alloc (u8s a)) := Kept.alloc _ _ _
  have g1 : (h.alloc (u8s a)).get h.next = some (u8s a) := by rw [Heap.get_alloc, if_pos rfl]
  have n1 : (h.alloc (u8s a)).next = h.next + 1 := Heap.next_alloc ..
  generalize h.alloc (u8s a) = h1 at *
  have b2 := box_at h1 _ cb.2.2
  have o2 : Old h1 (h1.alloc (u8s b)) := Kept.alloc _ _ _
  have g2 : (h1.alloc (u8s b)).get h1.next = some (u8s b) := by rw [Heap.get_alloc, if_pos rfl]
  have n2 : (h1.alloc (u8s b)).next = h1.next + 1 := Heap.next_alloc ..
  generalize h1.alloc (u8s b) = h2 at *
  obtain ⟨h3, z3, o3, g3, n3⟩ := fresh (List.replicate 32 (.int .u8 0)) h2
  have O3 := (o1.trans o2).trans o3
  have b5 : bslR 1 (.int .u8 0) 1 [(0, .int .u8 1)] h3 = some (.slice (some ⟨h3.next, 0, none⟩) 1 1, h3.alloc [u8 1]) := bsl1 h3 1
  have o4 : Old h3 (h3.alloc [u8 1]) := Kept.alloc _ _ _
  have s1 : ∀ g, Old h1 g → sliceBytes (some ⟨h.next, 0, none⟩) 32 g = some a := fun g o => by
    have := sliceBytes_at (off := 0) (n := 32) (s := none) (Old.get o g1) (by rw [wa.1]; decide) wa.2
    rw [List.drop_zero, List.take_of_length_le (by rw [wa.1]; decide)] at this
    exact this
  have s2 : ∀ g, Old h2 g → sliceBytes (some ⟨h1.next, 0, none⟩) 32 g = some b := fun g o => by
    have := sliceBytes_at (off := 0) (n := 32) (s := none) (Old.get o g2) (by rw [wb.1]; decide) wb.2
    rw [List.drop_zero, List.take_of_length_le (by rw [wb.1]; decide)] at this
    exact this
  obtain ⟨v5, h5, e5, w5, o5⟩ := append_lit (c := 32) (bytes1 h3 (x := 1) (by decide)) (s1 _ ((o2.trans o3).trans o4)) (by decide) (by decide)
  have O5 := (o3.trans o4).trans o5
  have w5' : OwnB h5 h3.next v5 ([1] ++ a) := w5.weak o4.next
  obtain ⟨v6, h6, e6, w6, o6⟩ := app_sl (h0 := h3) (c := 32) (o4.trans o5) w5' (s2 _ O5) (by rw [List.length_append, wa.1]; decide)
  have OO6 : Old h h6 := O3.trans o6
  obtain ⟨a6, c6, rfl, s6, _, _⟩ := w6.bytes
  have l6 : (([1] ++ a) ++ b).length = 65 := by rw [List.length_append, List.length_append, wa.1, wb.1]; rfl
  rw [l6] at s6 e6
  obtain ⟨h7, e7, o7⟩ := r108 (h := h6) (by rw [OO6.n0]; exact hG) (hr.old OO6) (c := c6) s6 (by decide)
  have e7 : CW 108 [.slice a6 65 c6] h6 = some (.agg (u8s (nodeR a b)).toArray, h7) := e7
  have O7 := OO6.trans o7
  have dc := dig_cells (show D32 (nodeR a b) from sumR_ok _ _)
  obtain ⟨h8, e8, k8, g8, _, _⟩ := stored_all (n := 32) (k' := u8s (nodeR a b)) (Old.get (o6.trans o7) g3) (by rw [O7.n0]; have := h.n0_le_next; omega) rfl dc.1 dc.2.2
  have L8 := ldN_all g8 dc.1 dc.2.1
  refine ⟨h8, CW_body is110 hG rfl ((t110_eq _ _ _ _).trans ?_), Old.of_new O7 k8 (by omega)⟩
  unfold t110
  simp -implicitDefEqProofs only [b1, b2, z3, arr32, b5, e5, e6, e7, e8, thenV_some, pu_some]
  exact res_cell results110 agg35 size32 (show 4 < 11 by decide) _ L8
end Go.Proofs.YtdnahgfgoajmcaaDoor

namespace Go.Proofs.YtdnahgfgoajmcaaDoor
open Go Go.Abs
theorem wr_fold : ∀ (f : Nat) (s : HD) (l : List Nat), s.B.length = 64 → l.length ≤ f →
    (HD.wrN f s l).S = foldB ((s.n % 64 + l.length) / 64) (s.B.take (s.n % 64) ++ l) s.S ∧ (HD.wrN f s l).B.take ((s.n + l.length) % 64) = (s.B.take (s.n % 64) ++ l).drop (64 * ((s.n % 64 + l.length) / 64)) ∧ (HD.wrN f s l).n = s.n + l.length ∧ (HD.wrN f s l).B.length = 64 := by
  have base : ∀ (s : HD), s.B.length = 64 → s.S = foldB ((s.n % 64 + ([] : List Nat).length) / 64) (s.B.take (s.n % 64) ++ []) s.S ∧ s.B.take ((s.n + ([] : List Nat).length) % 64) = (s.B.take (s.n % 64) ++ []).drop (64 * ((s.n % 64 + ([] : List Nat).length) / 64)) ∧ s.n = s.n + ([] : List Nat).length ∧ s.B.length = 64 := by
    intro s hB
    have h0 : (s.n % 64 + ([] : List Nat).length) / 64 = 0 := by simp only [List.length_nil]; omega
    rw [h0]
    refine ⟨rfl, ?_, rfl, hB⟩
    rw [List.append_nil, Nat.mul_zero, List.drop_zero]
    rfl
  intro f
  induction f with
  | zero =>
    intro s l hB hl
    have : l = [] := List.length_eq_zero_iff.1 (by omega)
    subst this
    exact base s hB
  | succ f ih =>
    intro s l hB hl
    rw [HD.wrN]
    by_cases e : l = []
    · subst e
      rw [if_pos rfl]
      exact base s hB
    · rw [if_neg e]
      have hp : 0 < l.length := List.length_pos_iff.2 e
      have hm : s.n % 64 < 64 := Nat.mod_lt _ (by decide)
      generalize hat : s.n % 64 = a at *
      generalize hk : min l.length (64 - a) = k at *
      have hPB : (s.put l).B = s.B.take a ++ (l.take k ++ s.B.drop (a + k)) := by unfold HD.put; simp only [hat, hk]
      have hPn : (s.put l).n = s.n + k := by unfold HD.put; simp only [hat, hk]
      have hPS : (s.put l).S = if a + k = 64 then compS s.S (s.B.take a ++ (l.take k ++ s.B.drop (a + k))) else s.S := by unfold HD.put; simp only [hat, hk]
      have hPl : (s.put l).B.length = 64 := by
        rw [hPB]
        simp only [List.length_append, List.length_take, List.length_drop, hB]
        omega
      obtain ⟨i1, i2, i3, i4⟩ := ih (s.put l) (l.drop k) hPl (by rw [List.length_drop]; omega)
      have hdl : (l.drop k).length = l.length - k := List.length_drop
      rw [hPn, hdl] at i1 i2 i3
      by_cases hc : a + k = 64
      · have a0 : (s.n + k) % 64 = 0 := by omega
        have t1 : (a + l.length) / 64 = (l.length - k) / 64 + 1 := by omega
        have hB2 : s.B.take a ++ (l.take k ++ s.B.drop (a + k)) = (s.B.take a ++ l).take 64 := by
          rw [hc, List.drop_eq_nil_of_le (by omega), List.append_nil, List.take_append, List.length_take, hB, Nat.min_eq_left (by omega), List.take_take, Nat.min_eq_right (by omega), show 64 - a = k by omega]
        have hD2 : l.drop k = (s.B.take a ++ l).drop 64 := by
          have q : (s.B.take a).drop 64 = [] := List.drop_eq_nil_of_le (by rw [List.length_take]; omega)
          rw [List.drop_append, List.length_take, hB, Nat.min_eq_left (by omega), q, List.nil_append, show 64 - a = k by omega]
        rw [a0, List.take_zero, List.nil_append, Nat.zero_add] at i1 i2
        rw [hPS, if_pos hc, hB2] at i1
        refine ⟨?_, ?_, by rw [i3]; omega, i4⟩
        · rw [i1, t1, foldB, ← hD2]
        · rw [show (s.n + l.length) % 64 = (s.n + k + (l.length - k)) % 64 by congr 1; omega, i2, t1, hD2, List.drop_drop]
          congr 1
          omega
      · have hkl : k = l.length := by omega
        have d0 : l.drop k = [] := List.drop_eq_nil_of_le (by omega)
        have a1 : (s.n + k) % 64 = a + l.length := by omega
        have t0 : (a + l.length) / 64 = 0 := by omega
        have z0 : ((s.n + k) % 64 + (l.length - k)) / 64 = 0 := by omega
        rw [z0] at i1 i2
        rw [d0] at i1 i2 i3 i4 ⊢
        rw [hPS, if_neg hc] at i1
        refine ⟨?_, ?_, by rw [i3]; omega, i4⟩
        · rw [i1, t0]
          rfl
        · rw [show (s.n + l.length) % 64 = (s.n + k + (l.length - k)) % 64 by congr 1; omega, i2, t0, a1, hPB]
          rw [Nat.mul_zero, List.drop_zero, List.drop_zero, List.append_nil, ← List.append_assoc, List.take_append_of_le_length (by simp [hB]; omega), List.take_of_length_le (by simp [hB]; omega), hkl, List.take_length]
end Go.Proofs.YtdnahgfgoajmcaaDoor

namespace Go.Proofs.YtdnahgfgoajmcaaDoor
open Go Go.Abs
theorem foldB_add : ∀ (t u : Nat) (m : List Nat) (S : List (BitVec 32)), foldB (t + u) m S = foldB u (m.drop (64 * t)) (foldB t m S)
  | 0, u, m, S => by rw [Nat.zero_add, Nat.mul_zero, List.drop_zero, foldB]
  | t + 1, u, m, S => by
    rw [show t + 1 + u = (t + u) + 1 by omega, foldB, foldB_add t u, foldB, List.drop_drop, show 64 + 64 * t = 64 * (t + 1) by omega]
theorem foldB_app : ∀ (t : Nat) (m x : List Nat) (S : List (BitVec 32)), 64 * t ≤ m.length → foldB t (m ++ x) S = foldB t m S
  | 0, _, _, _, _ => rfl
  | t + 1, m, x, S, h => by
    rw [foldB, foldB, List.take_append_of_le_length (by omega), List.drop_append_of_le_length (by omega), foldB_app t _ x _ (by rw [List.length_drop]; omega)]
theorem beB8_at (v : Nat) {j : Nat} (hj : j < 8) : (beB 8 v)[j]? = some (v / 2 ^ (56 - 8 * j) % 256) := by
  match j, hj with
  | 0, _ => rfl
  | 1, _ => rfl
  | 2, _ => rfl
  | 3, _ => rfl
  | 4, _ => rfl
  | 5, _ => rfl
  | 6, _ => rfl
  | 7, _ => rfl
theorem padT_form {N : Nat} (h1 : 1 ≤ N) (h2 : N ≤ 64) (v : Nat) : ∀ j, j ≤ 8 → padT N v j = (128 :: List.replicate (N - 1) 0) ++ ((beB 8 v).take j ++ List.replicate (72 - N - j) 0)
  | 0, _ => by
    rw [padT, List.take_zero, List.nil_append, List.cons_append, List.replicate_append_replicate]
    congr 2
    omega
  | j + 1, h => by
    rw [padT, padT_form h1 h2 v j (by omega)]
    have hT : (beB 8 v).take (j + 1) = (beB 8 v).take j ++ [v / 2 ^ (56 - 8 * j) % 256] := by
      rw [List.take_add_one, beB8_at v (by omega)]
      rfl
    have hR : List.replicate (72 - N - j) 0 = 0 :: List.replicate (72 - N - (j + 1)) 0 := by
      rw [show 72 - N - j = (72 - N - (j + 1)) + 1 by omega, List.replicate_succ]
    rw [hT, hR, ← List.append_assoc, set_nat (A := (128 :: List.replicate (N - 1) 0) ++ (beB 8 v).take j) (B' := (v / 2 ^ (56 - 8 * j) % 256) :: List.replicate (72 - N - (j + 1)) 0) 0 (by simp [beB_length]; omega) rfl]
    simp only [List.append_assoc, List.cons_append, List.nil_append]
theorem padOf_eq (n : Nat) : padOf n = ([128] ++ List.replicate (zerosN n) 0) ++ beB 8 (n * 8) := by
  have hz : 64 - (n + 8) % 64 - 1 = zerosN n := by unfold zerosN; omega
  have hm : (n + 8) % 64 < 64 := Nat.mod_lt _ (by decide)
  unfold padOf
  rw [padT_form (by omega) (by omega) _ 8 (Nat.le_refl _), hz, List.take_of_length_le (l := beB 8 (n * 8)) (by rw [beB_length]; decide)]
  have e : (128 :: List.replicate (zerosN n) 0) ++ (beB 8 (n * 8) ++ List.replicate (72 - (64 - (n + 8) % 64) - 8) 0) = (([128] ++ List.replicate (zerosN n) 0) ++ beB 8 (n * 8)) ++ List.replicate (72 - (64 - (n + 8) % 64) - 8) 0 := by simp only [List.append_assoc, List.cons_append, List.nil_append]
  rw [e, List.take_append_of_le_length (by simp [beB_length]; omega), List.take_of_length_le (by simp [beB_length]; omega)]
theorem HD.sum_def (s : HD) : s.sum = digT (s.wr (padOf s.n)).S 32 := rfl
theorem HD.wr_def (s : HD) (l : List Nat) : s.wr l = HD.wrN l.length s l := rfl
theorem sum_same (l : List Nat) : (HD0.wr l).sum = sumR H0 l := by
  obtain ⟨a1, a2, a3, a4⟩ := wr_fold l.length HD0 l rfl (Nat.le_refl _)
  have n0 : HD0.n = 0 := rfl
  rw [n0] at a1 a2 a3
  have e0 : (0 : Nat) % 64 = 0 := rfl
  rw [e0, List.take_zero, List.nil_append, Nat.zero_add] at a1 a2
  rw [Nat.zero_add] at a3
  obtain ⟨b1, _, _, _⟩ := wr_fold (padOf l.length).length (HD0.wr l) (padOf l.length) a4 (Nat.le_refl _)
  have a3 : (HD0.wr l).n = l.length := a3
  have a2 : (HD0.wr l).B.take (l.length % 64) = l.drop (64 * (l.length / 64)) := a2
  have a1 : (HD0.wr l).S = foldB (l.length / 64) l H0 := a1
  rw [a3, a2, a1] at b1
  have hp : padM l = l ++ padOf l.length := by
    rw [padOf_eq]
    unfold padM
    simp only [List.append_assoc]
  have hpl : (padOf l.length).length = zerosN l.length + 9 := by
    rw [padOf_eq]
    simp [beB_length]
  have hb : blocksN l = l.length / 64 + (l.length % 64 + (padOf l.length).length) / 64 := by
    unfold blocksN
    rw [hpl]
    omega
  have q : (HD0.wr l).sum = digT ((HD0.wr l).wr (padOf (HD0.wr l).n)).S 32 := HD.sum_def _
  rw [q, a3, HD.wr_def (HD0.wr l) (padOf l.length), b1]
  unfold sumR
  rw [hb, hp, foldB_add, foldB_app (l.length / 64) l (padOf l.length) H0 (by omega), List.drop_append_of_le_length (by omega)]
end Go.Proofs.YtdnahgfgoajmcaaDoor

namespace Go.Proofs.YtdnahgfgoajmcaaDoor
open Go Go.Abs
/-- A sum hangs on the state, the size, and the bytes that wait. -/
theorem sum_congr {s u : HD} (hs : s.B.length = 64) (hu : u.B.length = 64) (hS : s.S = u.S) (hn : s.n = u.n) (hB : s.B.take (s.n % 64) = u.B.take (u.n % 64)) : s.sum = u.sum := by
  obtain ⟨a1, _⟩ := wr_fold (padOf s.n).length s (padOf s.n) hs (Nat.le_refl _)
  obtain ⟨b1, _⟩ := wr_fold (padOf u.n).length u (padOf u.n) hu (Nat.le_refl _)
  rw [HD.sum_def, HD.sum_def, HD.wr_def s (padOf s.n), HD.wr_def u (padOf u.n), a1, b1, hS, hB, hn]
theorem wr_two {s : HD} (hs : s.B.length = 64) (a b : List Nat) : ((s.wr a).wr b).sum = (s.wr (a ++ b)).sum := by
  obtain ⟨a1, a2, a3, a4⟩ := wr_fold a.length s a hs (Nat.le_refl _)
  rw [← HD.wr_def s a] at a1 a2 a3 a4
  obtain ⟨b1, b2, b3, b4⟩ := wr_fold b.length (s.wr a) b a4 (Nat.le_refl _)
  rw [← HD.wr_def (s.wr a) b] at b1 b2 b3 b4
  obtain ⟨c1, c2, c3, c4⟩ := wr_fold (a ++ b).length s (a ++ b) hs (Nat.le_refl _)
  rw [← HD.wr_def s (a ++ b)] at c1 c2 c3 c4
  rw [a3] at b1 b2 b3
  rw [a2] at b1 b2
  rw [List.length_append] at c1 c2 c3
  have hP : (s.B.take (s.n % 64)).length = s.n % 64 := by
    have : s.n % 64 < 64 := Nat.mod_lt _ (by decide)
    rw [List.length_take, hs, Nat.min_eq_left (by omega)]
  have ht : (s.n % 64 + (a.length + b.length)) / 64 = (s.n % 64 + a.length) / 64 + ((s.n + a.length) % 64 + b.length) / 64 := by omega
  have hle : 64 * ((s.n % 64 + a.length) / 64) ≤ (s.B.take (s.n % 64) ++ a).length := by
    rw [List.length_append, hP]
    omega
  have hd : (s.B.take (s.n % 64) ++ (a ++ b)).drop (64 * ((s.n % 64 + a.length) / 64)) = (s.B.take (s.n % 64) ++ a).drop (64 * ((s.n % 64 + a.length) / 64)) ++ b := by
    rw [← List.append_assoc, List.drop_append_of_le_length hle]
  refine sum_congr b4 c4 ?_ (by rw [b3, c3]; omega) ?_
  · rw [b1, c1, a1, ht, foldB_add, hd, ← List.append_assoc, foldB_app _ _ b _ hle]
  · rw [b3, b2, c3, show s.n + (a.length + b.length) = s.n + a.length + b.length by omega, show (s.n + a.length + b.length) % 64 = (s.n + (a.length + b.length)) % 64 by congr 1; omega, c2, ht, Nat.mul_add, ← List.drop_drop, hd]
theorem leaf_same (r : RecD) : leafD r = leafR r := by
  unfold leafD leafR
  rw [wr_two rfl, sum_same]
theorem node_same (a b : List Nat) : nodeD a b = nodeR a b := by
  have h1 : (HD0.wr [1]).B.length = 64 := (wr_fold 1 HD0 [1] rfl (Nat.le_refl _)).2.2.2
  unfold nodeD nodeR
  rw [wr_two h1, wr_two rfl, sum_same, List.append_assoc]
end Go.Proofs.YtdnahgfgoajmcaaDoor

namespace Go.Proofs.YtdnahgfgoajmcaaDoor
open Go Go.Abs
attribute [local congr] thenV_congr
/-- The greatest power of two below n, from m on. -/
def halfG : Nat → Nat → Nat → Nat
  | 0, m, _ => m
  | f + 1, m, n => if 2 * m < n then halfG f (2 * m) n else m
def halfN (n : Nat) : Nat := halfG 30 1 n
theorem is109 : IsFn Tryd.prog 109 Tryd.f109 := ⟨by kernel_rfl, by kernel_rfl, by kernel_rfl, by kernel_rfl⟩
theorem r109 {h : Heap} (hG : 4 ≤ h.n0) {n : Nat} (hn : n ≤ 1048576) : CW 109 [i64n n] h = some (i64n (halfN n), h) := by
  refine CW_body is109 hG rfl ((t109_eq _ _ _).trans ?_)
  unfold t109
  simp -implicitDefEqProofs only [thenV_some]
  refine endL_fin (n := 11) (fin := fun ex y g => ex = .exit 0 ∧ g = h ∧ y 3 = i64n (halfN n)) (Q := fun o : Out => o = some (i64n (halfN n), h))
    (loop_fin (t109l109_1100_eq CW) (Inv := fun k y g => ∃ m, y 0 = i64n n ∧ y 3 = i64n m ∧ g = h ∧ m ≤ 1048576 ∧ halfG k m n = halfN n ∧ n ≤ m * 2 ^ (k + 1)) ?_ 30 (by have : rounds = 18446744073709551616 := rfl; omega) ⟨1, rfl, rfl, rfl, by decide, rfl, by omega⟩) ?_
  · rintro k y g ⟨m, y0, y3, rfl, hm, hh, hb⟩
    unfold t109l109_1100
    have m1 : bin Tryd.prog .mul 3 (.int .i64 2) (i64n m) = some (i64n (2 * m)) := by
      unfold i64n
      rw [bin_mul, show (2 : Int) * (m : Int) = ((2 * m : Nat) : Int) by omega, wrap_i64 (by omega) (by omega)]
    have m2 : bin Tryd.prog .mul 3 (i64n m) (.int .i64 2) = some (i64n (2 * m)) := by
      unfold i64n
      rw [bin_mul, show (m : Int) * 2 = ((2 * m : Nat) : Int) by omega, wrap_i64 (by omega) (by omega)]
    simp -implicitDefEqProofs only [y0, y3, m1, lss3, thenV_some, pu_some]
    by_cases hlt : 2 * m < n
    · cases k with
      | zero => omega
      | succ k =>
        simp -implicitDefEqProofs only [decide_eq_true hlt, y3, m2, thenV_some, pu_some]
        refine Rnd.next k (by omega) ⟨2 * m, y0, rfl, rfl, by omega, ?_, ?_⟩
        · rw [← hh, halfG, if_pos hlt]
        · calc n ≤ m * 2 ^ (k + 1 + 1) := hb
            _ = 2 * m * 2 ^ (k + 1) := by rw [Nat.pow_succ 2 (k + 1), Nat.mul_comm (2 ^ (k + 1)) 2, ← Nat.mul_assoc, Nat.mul_comm m 2]
    · simp -implicitDefEqProofs only [decide_eq_false hlt, thenV_some, pu_some]
      refine Rnd.out 0 ⟨rfl, rfl, ?_⟩
      rw [← hh]
      show y 3 = _
      rw [y3]
      cases k with
      | zero => rfl
      | succ k => rw [halfG, if_neg hlt]
  · rintro ex z g ⟨rfl, rfl, z3⟩
    simp -implicitDefEqProofs only [endL_exit, b109_3, if_true, t109k109_2_eq]
    unfold t109k109_2
    rw [z3]
    rfl
end Go.Proofs.YtdnahgfgoajmcaaDoor

namespace Go.Proofs.YtdnahgfgoajmcaaDoor
open Go Go.Abs
attribute [local congr] thenV_congr
/-- Levels at which a node has no sibling. -/
def lvl : Nat → Nat → Nat → Nat × Nat
  | 0, i, b => (i, b)
  | f + 1, i, b => if i % 2 = 0 ∧ i ≠ 0 then lvl f (i / 2) (b / 2) else (i, b)
theorem and1 {i : Nat} (hi : i ≤ 1048576) : bin Tryd.prog .and 3 (i64n i) (.int .i64 1) = some (i64n (i % 2)) := by
  unfold i64n
  rw [bin_int]
  unfold binI bitsA
  simp only
  have e1 : BitVec.ofInt (IntKind.bits .i64) ((i : Nat) : Int) = BitVec.ofNat 64 i := by
    show BitVec.ofInt 64 _ = _
    rw [BitVec.ofInt_natCast]
  have e2 : BitVec.ofInt (IntKind.bits .i64) 1 = BitVec.ofNat 64 1 := rfl
  rw [e1, e2]
  have e3 : (BitVec.ofNat 64 i &&& BitVec.ofNat 64 1).toNat = i % 2 := by
    rw [BitVec.toNat_and, BitVec.toNat_ofNat, BitVec.toNat_ofNat, Nat.mod_eq_of_lt (by omega), show 1 % 2 ^ 64 = 1 from rfl, Nat.and_one_is_mod]
  show some (Value.int .i64 (IntKind.wrap .i64 (((BitVec.ofNat 64 i &&& BitVec.ofNat 64 1).toNat : Nat) : Int))) = _
  rw [e3, wrap_i64 (by omega) (by omega)]
theorem shr1 {i : Nat} : bin Tryd.prog .shr 3 (i64n i) (.int .u64 1) = some (i64n (i / 2)) := bin_shr_nat Tryd.prog 3 (k := .i64) (k' := .u64) (b := 1) (by decide)
end Go.Proofs.YtdnahgfgoajmcaaDoor

namespace Go.Proofs.YtdnahgfgoajmcaaDoor
open Go Go.Abs
attribute [local congr] thenV_congr
/-- A slice of digests that can be read in every heap in which its block is as it was. -/
def PR (h : Heap) (v : Value) (P : List (List Nat)) : Prop :=
  (∃ a c, v = .slice a P.length c) ∧ (∀ p ∈ P, D32 p) ∧ ∀ j, j < P.length → ∃ b o, idxS 32 v (i64n j) = some (ptr b o) ∧ b < h.next ∧ ∀ g : Heap, g.get b = h.get b → ldN 32 (ptr b o) g = some (.agg (u8s (P.getD j [])).toArray, g)
/-- How Verify climbs: none where it stops at once. -/
def vr : List (List Nat) → Nat → Nat → List Nat → Option (Nat × List Nat)
  | [], _, b, D => some (b, D)
  | p :: P, i, b, D => if b = 0 then none else if i % 2 = 1 ∨ i = b then vr P ((lvl i i b).1 / 2) ((lvl i i b).2 / 2) (nodeD p D) else vr P (i / 2) (b / 2) (nodeD D p)
end Go.Proofs.YtdnahgfgoajmcaaDoor

namespace Go.Proofs.YtdnahgfgoajmcaaDoor
open Go Go.Abs
attribute [local congr] thenV_congr
theorem eqD35 {a b : List Nat} (wa : D32 a) (wb : D32 b) : bin Tryd.prog .eql 35 (.agg (u8s a).toArray) (.agg (u8s b).toArray) = some (.bool (decide (a = b))) := by
  obtain ⟨r, hr, hrun⟩ := dig_run (d := 9998) (dig_typed wa) (dig_typed wb)
  have hr' : r = decide (a = b) := by
    by_cases e : a = b
    · rw [decide_eq_true e, hr.2 (by rw [e])]
    · rw [decide_eq_false e]
      cases r with
      | false => rfl
      | true => exact absurd (u8s_inj (hr.1 rfl)) e
  rw [← hr']
  exact (bin_agg (by kernel_rfl) (ground_agg (dig_typed wa).all.2.2) (ground_agg (dig_typed wb).all.2.2) hrun).1
theorem eql0 (b : Nat) : bin Tryd.prog .eql 3 (i64n b) (.int .i64 0) = some (.bool (decide (b = 0))) := by
  unfold i64n
  rw [bin_eql]
  congr 2
  rw [Bool.eq_iff_iff]
  simp only [beq_iff_eq, decide_eq_true_eq]
  omega
theorem PR.mono {h h' : Heap} {v : Value} {P : List (List Nat)} (x : PR h v P) (o : Old h h') : PR h' v P := by
  refine ⟨x.1, x.2.1, fun j hj => ?_⟩
  obtain ⟨b, q, h1, h2, h3⟩ := x.2.2 j hj
  have hb : h'.get b = h.get b := Kept.get o b h2 (fun h => h)
  exact ⟨b, q, h1, Nat.lt_of_lt_of_le h2 o.next, fun g e => h3 g (e.trans hb)⟩
end Go.Proofs.YtdnahgfgoajmcaaDoor

namespace Go.Proofs.YtdnahgfgoajmcaaDoor
open Go Go.Abs
attribute [local congr] thenV_congr
theorem halfG_ge : ∀ (f m n : Nat), m ≤ halfG f m n
  | 0, m, n => Nat.le_refl _
  | f + 1, m, n => by
    rw [halfG]
    split
    · exact Nat.le_trans (by omega) (halfG_ge f (2 * m) n)
    · exact Nat.le_refl _
theorem halfG_lt : ∀ (f m n : Nat), m < n → halfG f m n < n
  | 0, m, n, h => h
  | f + 1, m, n, h => by
    rw [halfG]
    split
    · exact halfG_lt f (2 * m) n (by assumption)
    · exact h
theorem half_pos (n : Nat) : 1 ≤ halfN n := halfG_ge _ _ _
theorem half_lt {n : Nat} (h : 2 ≤ n) : halfN n < n := halfG_lt _ _ _ h
theorem eql1 (n : Nat) : bin Tryd.prog .eql 3 (i64n n) (.int .i64 1) = some (.bool (decide (n = 1))) := by
  unfold i64n
  rw [bin_eql]
  congr 2
  rw [Bool.eq_iff_iff]
  simp only [beq_iff_eq, decide_eq_true_eq]
  omega
theorem sub_nn {a b : Nat} (h : b ≤ a) (ha : a < 9223372036854775808) : bin Tryd.prog .sub 3 (i64n a) (i64n b) = some (i64n (a - b)) := by
  unfold i64n
  rw [bin_sub, show (a : Int) - (b : Int) = ((a - b : Nat) : Int) by omega, wrap_i64 (by omega) (by omega)]
theorem sub_n1 {a : Nat} (h : 1 ≤ a) (ha : a < 9223372036854775808) : bin Tryd.prog .sub 3 (i64n a) (.int .i64 1) = some (i64n (a - 1)) := sub_nn (b := 1) h ha
/-- A slice whose parts can be taken. -/
def gS (v : Value) : Prop := ∃ a n c, v = .slice a n c ∧ n ≤ c ∧ (0 < n → ∀ b o s, a = some ⟨b, o, some s⟩ → s = 32)
theorem PR.cut {h : Heap} {v : Value} {P : List (List Nat)} {p : List Nat} (x : PR h v (P ++ [p])) (g : gS v) :
    ∃ v', slR 32 v none (some (i64n P.length)) none = some v' ∧ PR h v' P ∧ gS v' := by
  obtain ⟨⟨a, c, rfl⟩, hd, hp⟩ := x
  rw [List.length_append, List.length_singleton] at *
  obtain ⟨a', n', c', e, hle, hs⟩ := g
  cases e
  obtain ⟨b0, o0, e0, _⟩ := hp 0 (by omega)
  cases a with
  | none => cases e0
  | some A =>
    obtain ⟨b, off, sp⟩ := A
    have hb : boundsA (P.length + 1) c none (some (i64n P.length)) none = some (0, P.length, c) := by
      have h1 : boundA c c none = some c := rfl
      have h2 : boundA (P.length + 1) c (some (i64n P.length)) = some P.length := by
        unfold boundA i64n
        simp only
        rw [if_pos (by omega)]
        rfl
      unfold boundsA
      rw [h1]
      simp only [h2]
      rfl
    refine ⟨.slice (some ⟨b, off, sp⟩) P.length c, ?_, ⟨⟨_, _, rfl⟩, fun q hq => hd q (List.mem_append_left _ hq), fun j hj => ?_⟩, ⟨_, _, _, rfl, by omega, fun _ => hs (by omega)⟩⟩
    · unfold slR sliceSl
      cases sp with
      | none =>
        simp only [hb]
        rw [if_neg (by omega), Nat.zero_mul, Nat.add_zero, Nat.sub_zero, Nat.sub_zero]
      | some s =>
        have : s = 32 := hs (by omega) b off s rfl
        subst this
        simp only [hb]
        rw [if_pos ⟨True.intro, by decide⟩, Nat.zero_mul, Nat.add_zero, Nat.sub_zero, Nat.sub_zero]
    · obtain ⟨b1, o1, e1, e2, e3⟩ := hp j (by omega)
      have e4 : (P ++ [p]).getD j [] = P.getD j [] := by
        rw [List.getD_eq_getElem?_getD, List.getD_eq_getElem?_getD, List.getElem?_append_left hj]
      rw [e4] at e3
      refine ⟨b1, o1, ?_, e2, e3⟩
      rw [← e1]
      unfold idxS i64n
      simp only
      rw [if_pos (by omega), if_pos (by omega)]
theorem PR.last {h : Heap} {v : Value} {P : List (List Nat)} {p : List Nat} (x : PR h v (P ++ [p])) : ∃ b o, idxS 32 v (i64n P.length) = some (ptr b o) ∧ D32 p ∧ ∀ g : Heap, Old h g → ldN 32 (ptr b o) g = some (.agg (u8s p).toArray, g) := by
  obtain ⟨b, o, e1, e2, e3⟩ := x.2.2 P.length (by rw [List.length_append, List.length_singleton]; omega)
  have e4 : (P ++ [p]).getD P.length [] = p := by
    rw [List.getD_eq_getElem?_getD, List.getElem?_append_right (Nat.le_refl _), Nat.sub_self]
    rfl
  rw [e4] at e3
  exact ⟨b, o, e1, x.2.1 p (List.mem_append_right _ List.mem_cons_self), fun g og => e3 g (Kept.get og b e2 (fun h => h))⟩
theorem PR.len {h : Heap} {v : Value} {P : List (List Nat)} (x : PR h v P) : lenL v = some (i64n P.length) := by
  obtain ⟨⟨a, c, rfl⟩, _, _⟩ := x
  rfl
end Go.Proofs.YtdnahgfgoajmcaaDoor

namespace Go.Proofs.YtdnahgfgoajmcaaDoor
open Go Go.Abs
theorem halfG_s (f m n : Nat) : halfG (f + 1) m n = if 2 * m < n then halfG f (2 * m) n else m := rfl
theorem halfG_fuel : ∀ (f m n : Nat), n ≤ m * 2 ^ (f + 1) → halfG (f + 1) m n = halfG f m n
  | 0, m, n, h => by
    rw [halfG_s, if_neg (by omega)]
    rfl
  | f + 1, m, n, h => by
    rw [halfG_s (f + 1) m n, halfG_s f m n]
    split
    · exact halfG_fuel f (2 * m) n (by
        calc n ≤ m * 2 ^ (f + 1 + 1) := h
          _ = 2 * m * 2 ^ (f + 1) := by rw [Nat.pow_succ 2 (f + 1), Nat.mul_comm (2 ^ (f + 1)) 2, ← Nat.mul_assoc, Nat.mul_comm m 2])
    · rfl
theorem halfG_two : ∀ (f m n : Nat), halfG f (2 * m) n = 2 * halfG f m ((n + 1) / 2)
  | 0, m, n => rfl
  | f + 1, m, n => by
    rw [halfG_s, halfG_s]
    by_cases c : 2 * (2 * m) < n
    · rw [if_pos c, if_pos (by omega), halfG_two f (2 * m) n]
    · rw [if_neg c, if_neg (by omega)]
theorem half_two {n : Nat} (h : 3 ≤ n) (hn : n ≤ 1048576) : halfN n = 2 * halfN ((n + 1) / 2) := by
  unfold halfN
  rw [show halfG 30 1 n = halfG 29 (2 * 1) n by rw [halfG_s, if_pos (by omega)], halfG_two 29 1 n, halfG_fuel 29 1 _ (by omega)]
def stp (i : Nat) (p D : List Nat) : List Nat := if i % 2 = 1 then nodeR p D else nodeR D p
end Go.Proofs.YtdnahgfgoajmcaaDoor

namespace Go.Proofs.YtdnahgfgoajmcaaDoor
open Go Go.Abs
attribute [local congr] thenV_congr
/-- The cells of a list of digests. -/
def digsC (P : List (List Nat)) : List Value := P.flatMap u8s
theorem digsC_len : ∀ {P : List (List Nat)}, (∀ p ∈ P, D32 p) → (digsC P).length = P.length * 32
  | [], _ => rfl
  | p :: P, h => by
    have ih := digsC_len (P := P) fun q hq => h q (List.mem_cons_of_mem _ hq)
    have hp := (dig_cells (h p List.mem_cons_self)).1
    unfold digsC at ih ⊢
    rw [List.flatMap_cons, List.length_append, ih, hp, List.length_cons]
    omega
theorem digsC_get : ∀ {P : List (List Nat)}, (∀ p ∈ P, D32 p) → ∀ {j : Nat}, j < P.length → ((digsC P).drop (j * 32)).take 32 = u8s (P.getD j [])
  | [], _, j, hj => absurd hj (Nat.not_lt_zero j)
  | p :: P, h, j, hj => by
    have hp := (dig_cells (h p List.mem_cons_self)).1
    cases j with
    | zero =>
      unfold digsC
      rw [List.flatMap_cons, Nat.zero_mul, List.drop_zero, ← hp, List.take_left]
      rfl
    | succ j =>
      have ih := digsC_get (P := P) (fun q hq => h q (List.mem_cons_of_mem _ hq)) (j := j) (by rw [List.length_cons] at hj; omega)
      unfold digsC at ih ⊢
      rw [List.flatMap_cons, show (j + 1) * 32 = 32 + j * 32 by omega, ← List.drop_drop, List.drop_left' hp, List.getD_cons_succ, ih]
theorem digsC_ok : ∀ {P : List (List Nat)}, (∀ p ∈ P, D32 p) → Abs.noHoles (digsC P) = true ∧ oneCells (digsC P) = true
  | [], _ => ⟨rfl, rfl⟩
  | p :: P, h => by
    have ih := digsC_ok (P := P) fun q hq => h q (List.mem_cons_of_mem _ hq)
    have hp := dig_cells (h p List.mem_cons_self)
    unfold digsC at ih ⊢
    unfold Abs.noHoles oneCells at *
    rw [List.flatMap_cons, List.all_append, List.all_append, ih.1, ih.2, hp.2.1, hp.2.2]
    exact ⟨rfl, rfl⟩
/-- A slice of digests, its cells in one block. -/
def DgS (h : Heap) (v : Value) (P : List (List Nat)) : Prop := (∀ p ∈ P, D32 p) ∧ SlN h digK v P.length (digsC P)
theorem DgS.pr {h : Heap} {v : Value} {P : List (List Nat)} (x : DgS h v P) : PR h v P := by
  obtain ⟨hd, a, c, rfl, _, _, h0⟩ := x
  refine ⟨⟨_, _, rfl⟩, hd, fun j hj => ?_⟩
  obtain ⟨b, off, s, k, rfl, hk, hlen, hcs⟩ := h0 (by omega)
  rw [show digK.length = 32 from rfl] at hlen hcs
  have hm := mul_le (z := 32) hj
  have e : (k.drop (off + j * 32)).take 32 = u8s (P.getD j []) := by
    rw [← digsC_get hd hj, ← hcs]
    rw [List.drop_take, List.take_take, List.drop_drop, Nat.min_eq_left (by omega)]
  refine ⟨b, off + j * 32, ?_, h.lt_of_get hk, fun g hg => ?_⟩
  · unfold idxS i64n
    simp only
    rw [if_pos (by omega), Int.toNat_natCast]
  · have dp : D32 (P.getD j []) := hd _ (by
      rw [List.getD_eq_getElem?_getD, List.getElem?_eq_getElem hj]
      exact List.getElem_mem hj)
    have := ldN_at (o := off + j * 32) (n := 32) (hg.trans hk) (by omega) (by rw [e]; exact (dig_cells dp).2.1)
    rw [e] at this
    exact this
theorem DgS.mono {h h' : Heap} {v : Value} {P : List (List Nat)} (x : DgS h v P) (o : Old h h') : DgS h' v P := by
  obtain ⟨hd, a, c, rfl, hn, ht, h0⟩ := x
  refine ⟨hd, a, c, rfl, hn, ht, fun hp => ?_⟩
  obtain ⟨b, off, s, k, rfl, hk, hlen, hcs⟩ := h0 hp
  exact ⟨b, off, s, k, rfl, Old.get o hk, hlen, hcs⟩
end Go.Proofs.YtdnahgfgoajmcaaDoor

namespace Go.Proofs.YtdnahgfgoajmcaaDoor
open Go Go.Abs
variable (nd : List Nat → List Nat → List Nat)
/-- The tree hash of leaves, by halves. -/
def treeG : Nat → List (List Nat) → List Nat
  | 0, _ => []
  | f + 1, L => if L.length ≤ 1 then L.headD [] else nd (treeG f (L.take (halfN L.length))) (treeG f (L.drop (halfN L.length)))
def treeN (L : List (List Nat)) : List Nat := treeG nd L.length L
theorem treeG_s (f : Nat) (L : List (List Nat)) : treeG nd (f + 1) L = if L.length ≤ 1 then L.headD [] else nd (treeG nd f (L.take (halfN L.length))) (treeG nd f (L.drop (halfN L.length))) := rfl
theorem treeG_fuel : ∀ (f g : Nat) (L : List (List Nat)), L.length ≤ f → L.length ≤ g → treeG nd f L = treeG nd g L
  | 0, 0, L, _, _ => rfl
  | 0, g + 1, L, h, _ => by
    have : L = [] := List.length_eq_zero_iff.1 (by omega)
    subst this
    rfl
  | f + 1, 0, L, _, h => by
    have : L = [] := List.length_eq_zero_iff.1 (by omega)
    subst this
    rfl
  | f + 1, g + 1, L, h1, h2 => by
    rw [treeG_s nd, treeG_s nd]
    split
    · rfl
    · rename_i c
      have a1 := half_pos L.length
      have a2 := half_lt (n := L.length) (by omega)
      rw [treeG_fuel f g (L.take (halfN L.length)) (by rw [List.length_take]; omega) (by rw [List.length_take]; omega), treeG_fuel f g (L.drop (halfN L.length)) (by rw [List.length_drop]; omega) (by rw [List.length_drop]; omega)]
theorem treeN_two {L : List (List Nat)} (h : 2 ≤ L.length) : treeN nd L = nd (treeN nd (L.take (halfN L.length))) (treeN nd (L.drop (halfN L.length))) := by
  have a1 := half_pos L.length
  have a2 := half_lt h
  unfold treeN
  obtain ⟨f, hf⟩ : ∃ f, L.length = f + 1 := ⟨L.length - 1, by omega⟩
  rw [show treeG nd L.length L = treeG nd (f + 1) L by rw [hf], treeG_s nd, if_neg (by omega), treeG_fuel nd f (L.take (halfN L.length)).length _ (by rw [List.length_take]; omega) (Nat.le_refl _), treeG_fuel nd f (L.drop (halfN L.length)).length _ (by rw [List.length_drop]; omega) (Nat.le_refl _)]
theorem treeN_one (d : List Nat) : treeN nd [d] = d := rfl
/-- One level of the tree. -/
def pairs : List (List Nat) → List (List Nat)
  | a :: b :: L => nd a b :: pairs L
  | L => L
theorem pairs_c (a b : List Nat) (L : List (List Nat)) : pairs nd (a :: b :: L) = nd a b :: pairs nd L := rfl
theorem pairs_len : ∀ (L : List (List Nat)), (pairs nd L).length = (L.length + 1) / 2
  | [] => rfl
  | [a] => by rw [show pairs nd [a] = [a] from rfl, List.length_singleton]
  | a :: b :: L => by
    rw [pairs_c nd, List.length_cons, pairs_len L, List.length_cons, List.length_cons]
    omega
theorem pairs_take : ∀ (k : Nat) (L : List (List Nat)), (pairs nd L).take k = pairs nd (L.take (2 * k))
  | 0, L => by rw [Nat.mul_zero, List.take_zero, List.take_zero]; rfl
  | k + 1, [] => rfl
  | k + 1, [a] => by
    rw [show 2 * (k + 1) = (2 * k + 1) + 1 by omega, List.take_succ_cons, List.take_nil, show pairs nd [a] = [a] from rfl, List.take_succ_cons, List.take_nil]
  | k + 1, a :: b :: L => by
    rw [pairs_c nd, List.take_succ_cons, pairs_take k L, show 2 * (k + 1) = (2 * k + 1) + 1 by omega, List.take_succ_cons, List.take_succ_cons, pairs_c nd]
theorem pairs_drop : ∀ (k : Nat) (L : List (List Nat)), (pairs nd L).drop k = pairs nd (L.drop (2 * k))
  | 0, L => by rw [Nat.mul_zero, List.drop_zero, List.drop_zero]
  | k + 1, [] => by rw [List.drop_nil]; rfl
  | k + 1, [a] => by
    rw [show 2 * (k + 1) = (2 * k + 1) + 1 by omega, List.drop_succ_cons, List.drop_nil]
    rw [show pairs nd [a] = [a] from rfl, List.drop_succ_cons, List.drop_nil]
    rfl
  | k + 1, a :: b :: L => by
    rw [pairs_c nd, List.drop_succ_cons, pairs_drop k L, show 2 * (k + 1) = (2 * k + 1) + 1 by omega, List.drop_succ_cons, List.drop_succ_cons]
theorem treeN_pairs : ∀ (n : Nat) (L : List (List Nat)), L.length = n → n ≤ 1048576 → treeN nd (pairs nd L) = treeN nd L := by
  intro n
  induction n using Nat.strongRecOn with
  | _ n ih =>
    intro L hL hn
    match L, hL with
    | [], _ => rfl
    | [a], _ => rfl
    | [a, b], _ => rfl
    | a :: b :: c :: L, hL =>
      have h3 : 3 ≤ n := by rw [List.length_cons, List.length_cons, List.length_cons] at hL; omega
      generalize a :: b :: c :: L = M at *
      have ht := half_two h3 hn
      have hp := half_pos ((n + 1) / 2)
      have hl := half_lt (n := n) (by omega)
      have pl := pairs_len nd M
      rw [hL] at pl
      rw [treeN_two nd (L := pairs nd M) (by omega), treeN_two nd (L := M) (by omega), pl, pairs_take nd, pairs_drop nd, hL, ht]
      rw [ih (M.take (2 * halfN ((n + 1) / 2))).length (by rw [List.length_take]; omega) _ rfl (by rw [List.length_take]; omega), ih (M.drop (2 * halfN ((n + 1) / 2))).length (by rw [List.length_drop]; omega) _ rfl (by rw [List.length_drop]; omega)]
/-- A hash is put on the stack of complete trees. -/
def push : Nat → List Nat → List (List Nat) → Nat → List (List Nat)
  | 0, d, T, _ => d :: T
  | f + 1, d, T, i => if i % 2 = 1 then (match T with | x :: T => push f (nd x d) T (i / 2) | [] => [d]) else d :: T
theorem push_s (f : Nat) (d : List Nat) (T : List (List Nat)) (i : Nat) : push nd (f + 1) d T i = if i % 2 = 1 then (match T with | x :: T => push nd f (nd x d) T (i / 2) | [] => [d]) else d :: T := rfl
theorem push_z (d : List Nat) (T : List (List Nat)) (i : Nat) : push nd 0 d T i = d :: T := rfl
theorem push_fuel : ∀ (f g : Nat) (d : List Nat) (T : List (List Nat)) (i : Nat), i ≤ f → i ≤ g → push nd f d T i = push nd g d T i
  | 0, 0, d, T, i, _, _ => rfl
  | 0, g + 1, d, T, i, h, _ => by rw [push_z nd, push_s nd, if_neg (by omega)]
  | f + 1, 0, d, T, i, _, h => by rw [push_z nd, push_s nd, if_neg (by omega)]
  | f + 1, g + 1, d, T, i, h1, h2 => by
    rw [push_s nd, push_s nd]
    split
    · cases T with
      | nil => rfl
      | cons x T => exact push_fuel f g (nd x d) T (i / 2) (by omega) (by omega)
    · rfl
/-- The stack after these leaves; its top at the head. -/
def stk : List (List Nat) → List (List Nat) → Nat → List (List Nat)
  | [], T, _ => T
  | d :: L, T, i => stk L (push nd i d T i) (i + 1)
theorem stk_s (d : List Nat) (L T : List (List Nat)) (i : Nat) : stk nd (d :: L) T i = stk nd L (push nd i d T i) (i + 1) := rfl
theorem stk_z (T : List (List Nat)) (i : Nat) : stk nd [] T i = T := rfl
theorem stk_app : ∀ (L M T : List (List Nat)) (i : Nat), stk nd (L ++ M) T i = stk nd M (stk nd L T i) (i + L.length)
  | [], M, T, i => rfl
  | d :: L, M, T, i => by
    rw [List.cons_append, stk_s nd, stk_s nd, stk_app L M, List.length_cons, Nat.add_assoc, Nat.add_comm 1]
/-- The stack, joined from its top. -/
def finS : List (List Nat) → List Nat
  | [] => []
  | d :: T => T.foldl (fun d x => nd x d) d
theorem fin_push : ∀ (f : Nat) (d : List Nat) (T : List (List Nat)) (i : Nat), finS nd (push nd f d T i) = finS nd (d :: T)
  | 0, d, T, i => rfl
  | f + 1, d, T, i => by
    rw [push_s nd]
    split
    · cases T with
      | nil => rfl
      | cons x T =>
        show finS nd (push nd f (nd x d) T (i / 2)) = _
        rw [fin_push f]
        rfl
    · rfl
theorem pairs_app : ∀ (k : Nat) (L M : List (List Nat)), L.length = 2 * k → pairs nd (L ++ M) = pairs nd L ++ pairs nd M
  | 0, L, M, h => by
    have : L = [] := List.length_eq_zero_iff.1 (by omega)
    subst this
    rfl
  | k + 1, L, M, h => by
    match L, h with
    | [], h => rw [List.length_nil] at h; omega
    | [a], h => rw [List.length_cons, List.length_nil] at h; omega
    | a :: b :: L, h =>
      rw [List.cons_append, List.cons_append, pairs_c nd, pairs_c nd, pairs_app k L M (by rw [List.length_cons, List.length_cons] at h; omega), List.cons_append]
theorem stk_even : ∀ (k : Nat) (L : List (List Nat)), L.length = 2 * k → stk nd L [] 0 = stk nd (pairs nd L) [] 0
  | 0, L, h => by
    have : L = [] := List.length_eq_zero_iff.1 (by omega)
    subst this
    rfl
  | k + 1, L, h => by
    have e1 : L = L.take (2 * k) ++ L.drop (2 * k) := (List.take_append_drop _ _).symm
    have l1 : (L.take (2 * k)).length = 2 * k := by rw [List.length_take]; omega
    have l2 : (L.drop (2 * k)).length = 2 := by rw [List.length_drop]; omega
    generalize L.take (2 * k) = A at *
    generalize L.drop (2 * k) = B at *
    subst e1
    match B, l2 with
    | [a, b], _ =>
      have ih := stk_even k A l1
      have pl := pairs_len nd A
      rw [l1] at pl
      have e2 : push nd (2 * k) a (stk nd A [] 0) (2 * k) = a :: stk nd A [] 0 := by
        cases k with
        | zero => rfl
        | succ k => rw [show 2 * (k + 1) = (2 * k + 1) + 1 by omega, push_s nd, if_neg (by omega)]
      rw [stk_app nd, l1, pairs_app nd k A _ l1, stk_app nd, pl, ← ih, Nat.zero_add, stk_s nd, stk_s nd, stk_z nd, e2, push_s nd, if_pos (by omega)]
      show push nd (2 * k) (nd a b) (stk nd A [] 0) ((2 * k + 1) / 2) = stk nd [nd a b] _ _
      rw [stk_s nd, stk_z nd, Nat.zero_add, show (2 * k + 1) / 2 = k by omega]
      exact push_fuel nd _ _ _ _ _ (by omega) (by omega)
/-- The stack, joined, is the tree. -/
theorem fin_stk : ∀ (n : Nat) (L : List (List Nat)), L.length = n → 1 ≤ n → n ≤ 1048576 → finS nd (stk nd L [] 0) = treeN nd L := by
  intro n
  induction n using Nat.strongRecOn with
  | _ n ih =>
    intro L hL h1 hn
    by_cases c1 : n = 1
    · subst c1
      match L, hL with
      | [d], _ => rfl
    · have pl := pairs_len nd L
      rw [hL] at pl
      have e := ih ((n + 1) / 2) (by omega) (pairs nd L) pl (by omega) (by omega)
      rw [treeN_pairs nd n L hL hn] at e
      rw [← e]
      by_cases c2 : n % 2 = 0
      · rw [stk_even nd (n / 2) L (by omega)]
      · have e1 : L = L.take (2 * (n / 2)) ++ L.drop (2 * (n / 2)) := (List.take_append_drop _ _).symm
        have l1 : (L.take (2 * (n / 2))).length = 2 * (n / 2) := by rw [List.length_take]; omega
        have l2 : (L.drop (2 * (n / 2))).length = 1 := by rw [List.length_drop]; omega
        generalize L.take (2 * (n / 2)) = A at *
        generalize L.drop (2 * (n / 2)) = B at *
        subst e1
        match B, l2 with
        | [a], _ =>
          rw [pairs_app nd (n / 2) A _ l1, stk_app nd, stk_app nd, stk_even nd (n / 2) A l1]
          show finS nd (stk nd [a] _ _) = finS nd (stk nd [a] _ _)
          rw [stk_s nd, stk_z nd, stk_s nd, stk_z nd, fin_push nd, fin_push nd]
theorem stk_snoc (L : List (List Nat)) (d : List Nat) : stk nd (L ++ [d]) [] 0 = push nd L.length d (stk nd L [] 0) L.length := by
  rw [stk_app nd, stk_s nd, stk_z nd, Nat.zero_add]
/-- How many trees the stack holds. -/
def pcG : Nat → Nat → Nat
  | 0, _ => 0
  | f + 1, i => i % 2 + pcG f (i / 2)
def pc (i : Nat) : Nat := pcG i i
theorem pcG_fuel : ∀ (f g i : Nat), i ≤ f → i ≤ g → pcG f i = pcG g i
  | 0, 0, i, _, _ => rfl
  | 0, g + 1, i, h, _ => by
    have : i = 0 := by omega
    subst this
    rw [pcG, show pcG (g + 1) 0 = 0 + pcG g 0 from rfl, ← pcG_fuel 0 g 0 (Nat.le_refl _) (Nat.zero_le _)]
    rfl
  | f + 1, 0, i, _, h => by
    have : i = 0 := by omega
    subst this
    rw [show pcG (f + 1) 0 = 0 + pcG f 0 from rfl, pcG_fuel f 0 0 (Nat.zero_le _) (Nat.le_refl _)]
    rfl
  | f + 1, g + 1, i, h1, h2 => by rw [show pcG (f + 1) i = i % 2 + pcG f (i / 2) from rfl, show pcG (g + 1) i = i % 2 + pcG g (i / 2) from rfl, pcG_fuel f g (i / 2) (by omega) (by omega)]
theorem pc_step (i : Nat) : pc i = i % 2 + pc (i / 2) := by
  cases i with
  | zero => rfl
  | succ i =>
    unfold pc
    rw [show pcG (i + 1) (i + 1) = (i + 1) % 2 + pcG i ((i + 1) / 2) from rfl, pcG_fuel i ((i + 1) / 2) _ (by omega) (Nat.le_refl _)]
theorem push_len : ∀ (f : Nat) (d : List Nat) (T : List (List Nat)) (i : Nat), i ≤ f → T.length = pc i → (push nd f d T i).length = pc (i + 1)
  | 0, d, T, i, h, hT => by
    have : i = 0 := by omega
    subst this
    rw [push_z nd, List.length_cons, hT]
    rfl
  | f + 1, d, T, i, h, hT => by
    rw [push_s nd]
    rw [pc_step] at hT
    by_cases c : i % 2 = 1
    · rw [if_pos c]
      cases T with
      | nil => rw [List.length_nil] at hT; omega
      | cons x T =>
        rw [List.length_cons] at hT
        have := push_len f (nd x d) T (i / 2) (by omega) (by omega)
        show (push nd f (nd x d) T (i / 2)).length = _
        rw [this, pc_step (i + 1), show (i + 1) / 2 = i / 2 + 1 by omega, show (i + 1) % 2 = 0 by omega, Nat.zero_add]
    · rw [if_neg c, List.length_cons, hT, pc_step (i + 1), show (i + 1) / 2 = i / 2 by omega, show (i + 1) % 2 = 1 by omega]
      omega
theorem stk_len : ∀ (L T : List (List Nat)) (i : Nat), T.length = pc i → (stk nd L T i).length = pc (i + L.length)
  | [], T, i, h => h
  | d :: L, T, i, h => by
    rw [stk_s nd, stk_len L _ _ (push_len nd i d T i (Nat.le_refl _) h), List.length_cons, Nat.add_assoc, Nat.add_comm 1]
theorem push_ok (hnd : ∀ a b, D32 (nd a b)) : ∀ (f : Nat) {d : List Nat} {T : List (List Nat)} (i : Nat), D32 d → (∀ t ∈ T, D32 t) → ∀ t ∈ push nd f d T i, D32 t
  | 0, d, T, i, hd, hT => fun t ht => by
    rw [push_z nd] at ht
    rcases List.mem_cons.1 ht with rfl | ht
    · exact hd
    · exact hT t ht
  | f + 1, d, T, i, hd, hT => by
    rw [push_s nd]
    split
    · cases T with
      | nil => exact fun t ht => by rw [List.mem_singleton.1 ht]; exact hd
      | cons x T => exact push_ok hnd f (i / 2) (hnd _ _) fun t ht => hT t (List.mem_cons_of_mem _ ht)
    · intro t ht
      rcases List.mem_cons.1 ht with rfl | ht
      · exact hd
      · exact hT t ht
end Go.Proofs.YtdnahgfgoajmcaaDoor

