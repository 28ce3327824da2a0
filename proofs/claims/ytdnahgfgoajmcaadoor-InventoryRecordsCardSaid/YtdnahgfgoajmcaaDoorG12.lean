/-
  The wire: records decoded.
  Conditions: as each theorem states.
  The wire: two manifests, and two messages, are compared.
  Conditions: as each theorem states.
  Taken over from the disk's texts: numbers of functions and types are mapped.
  Conditions: as each theorem states.
  The wire: manifests and bodies, written.
  Conditions: as each theorem states.
  The wire's plain law: numbers, texts and lists that are written are read again, and what is read is what was written.
  Conditions: as each theorem states.
  The wire's plain law: bytes that are decoded are the frame of their message.
  Conditions: as each theorem states.
  The wire: messages and bytes as the laws handle them.
  Conditions: as each theorem states.
  Digests in letters; Describe.
  Conditions: as each theorem states.
  The wire's known run; the calls' evaluator; lists of typed cells, and their equality.
  Conditions: as each theorem states.
  The wire: slices of typed cells, and their comparison, element by element.
  Conditions: as each theorem states.
  InventoryRecordBack: records encoded and decoded, the walk.
  Conditions: the digest's table holds what it holds at the start.
-/
import Derived.Test.YtdnahgfgoajmcaaDoorG11
namespace Go.Proofs.YtdnahgfgoajmcaaDoor
open Go Go.Abs
attribute [local congr] thenV_congr
theorem copy_mid {h : Heap} {b off dc c n : Nat} {s : Option Nat} {a : Option Addr} {A B C : List Value} {l : List Nat} (g : h.get b = some (A ++ (B ++ C))) (h0 : h.n0 ≤ b) (hA : A.length = off) (hB : B.length = n) (hs : sliceBytes a n h = some l) (hn : 0 < n) :
    ∃ g', copyA 1 (.slice (some ⟨b, off, s⟩) n dc) (.slice a n c) h = some (i64n n, g') ∧ Kept h g' (· = b) ∧ g'.get b = some (A ++ (u8s l ++ C)) ∧ g'.next = h.next := by
  obtain ⟨hl, hb, _⟩ := sliceBytes_spec hs
  have hf := firstA_of hs (Nat.le_refl n) (c := c)
  rw [List.take_of_length_le (by omega)] at hf
  have hsp : splice (A ++ (B ++ C)) off (u8s l) = A ++ (u8s l ++ C) := splice_app hA hB (by rw [List.length_map]; exact hl)
  refine ⟨h.set b (A ++ (u8s l ++ C)), ?_, Kept.set h0 g (.inr rfl), Heap.get_set_same h0 g _, rfl⟩
  unfold copyA
  simp only [lenA]
  rw [Nat.min_self, hf]
  simp only
  rw [if_neg (by omega)]
  unfold stL
  simp only [g]
  rw [if_pos (by
    have h1 : off + (u8s l).length ≤ (A ++ (B ++ C)).length := by rw [List.length_append, List.length_append, List.length_map, hA, hB]; omega
    simp only [decide_eq_true h0, decide_eq_true h1, (u8s_ok l).2, Bool.and_self]), hsp]
  rfl
section
variable {x : RecD} (ho : x.obj.length = 32)
include ho
theorem rset33 (v : Int) : (recC x).set 33 (.int .i64 v) = recC { x with holder := v } := set_app (A := .int .u8 (x.kind : Int) :: u8s x.obj) 0 (by simp [ho]) rfl
theorem rset34 (v : Nat) : (recC x).set 34 (.int .u64 (v : Int)) = recC { x with inc := v } := set_app (A := .int .u8 (x.kind : Int) :: u8s x.obj) 1 (by simp [ho]) rfl
theorem rset35 (v : Nat) : (recC x).set 35 (.int .u64 (v : Int)) = recC { x with num := v } := set_app (A := .int .u8 (x.kind : Int) :: u8s x.obj) 2 (by simp [ho]) rfl
theorem rset36 (v : Bool) : (recC x).set 36 (.bool v) = recC { x with held := v } := set_app (A := .int .u8 (x.kind : Int) :: u8s x.obj) 3 (by simp [ho]) rfl
theorem rset37 (v : Int) : (recC x).set 37 (.int .i64 v) = recC { x with k := v } := set_app (A := .int .u8 (x.kind : Int) :: u8s x.obj) 4 (by simp [ho]) rfl
theorem rset38 (v : Int) : (recC x).set 38 (.int .i64 v) = recC { x with n := v } := set_app (A := .int .u8 (x.kind : Int) :: u8s x.obj) 5 (by simp [ho]) rfl
theorem recC_len : (recC x).length = 39 := by unfold recC u8s; simp [ho]
end
/-- The record that 53 bytes tell. -/
def decRx (l : List Nat) : RecD := ⟨be (l.take 1), (l.drop 1).take 32, (be ((l.drop 33).take 1) : Nat), be ((l.drop 34).take 8), be ((l.drop 42).take 8), be ((l.drop 50).take 1) == 1, (be ((l.drop 51).take 1) : Nat), (be ((l.drop 52).take 1) : Nat)⟩
/-- What DecodeRecord returns. -/
def decR (l : List Nat) : RecD × Int :=
  if l.length < 53 then (RecD.z, 4) else if 53 < l.length then (RecD.z, 3) else if 1 < be ((l.drop 50).take 1) then (RecD.z, 5) else if recB (decRx l) then (decRx l, 0) else (RecD.z, 2)
theorem be1_lt {l : List Nat} (hb : Bys l) (j : Nat) : be ((l.drop j).take 1) < 256 := be_lt' (n := 1) (by rw [List.length_take]; omega) fun x hx => hb x (List.mem_of_mem_drop (List.mem_of_mem_take hx))
theorem be8_lt {l : List Nat} (hb : Bys l) (j : Nat) : be ((l.drop j).take 8) < 18446744073709551616 := be_lt' (n := 8) (by rw [List.length_take]; omega) fun x hx => hb x (List.mem_of_mem_drop (List.mem_of_mem_take hx))
theorem i64_nat {n : Nat} (h : n < 256) : I64 (n : Int) := ⟨by omega, by omega⟩
theorem RecD.z_wf : RecD.z.Wf := ⟨by decide, z32_ok, i64_0, by decide, by decide, i64_0, i64_0⟩
theorem decRx_wf {l : List Nat} (hl : l.length = 53) (hb : Bys l) : (decRx l).Wf :=
  ⟨be1_lt hb 0, ⟨by show ((l.drop 1).take 32).length = 32; rw [List.length_take, List.length_drop]; omega, fun x hx => hb x (List.mem_of_mem_drop (List.mem_of_mem_take hx))⟩, i64_nat (be1_lt hb 33), be8_lt hb 34, be8_lt hb 42, i64_nat (be1_lt hb 51), i64_nat (be1_lt hb 52)⟩
theorem agg61 : aggT Tryd.prog 58 = some true := by kernel_rfl
theorem siz61 : sizeT Tryd.prog 58 = some 39 := by kernel_rfl
theorem results44 : Tryd.f44.results.toList = [.cell 2 58, .tmp 3] := by kernel_rfl
theorem is44 : IsFn Tryd.prog 44 Tryd.f44 := ⟨by kernel_rfl, by kernel_rfl, by kernel_rfl, by kernel_rfl⟩
/-- A record stored in a block of its own, and returned. -/
theorem rec_end {h0 h : Heap} {b : Nat} {k : Blk} (o : Old h0 h) (hb : h0.next ≤ b) (g : h.get b = some k) (hk : k.length = 39) {r : RecD} (w : r.Wf) : ∃ h', stN 39 (ptr b 0) (.agg (recC r).toArray) h = some (undef, h') ∧ ldN 39 (ptr b 0) h' = some (.agg (recC r).toArray, h') ∧ Old h0 h' := by
  have hn : h.n0 ≤ b := by rw [o.n0]; exact Nat.le_trans h0.n0_le_next hb
  obtain ⟨h', e1, k1, g1, _, _⟩ := stored_all (n := 39) g hn hk (rec_cells w).1 (rec_cells w).2.2
  exact ⟨h', e1, ldN_all g1 (rec_cells w).1 (rec_cells w).2.1, Old.of_new o k1 hb⟩
set_option maxRecDepth 100000 in
/-- DecodeRecord -/
theorem q44 {h : Heap} (hG : 4 ≤ h.n0) {a : Option Addr} {n c : Nat} {l : List Nat} (hl : sliceBytes a n h = some l) (hn : n ≤ 21000) : ∃ h', CW 44 [.slice a n c] h = some (.tuple #[.agg (recC (decR l).1).toArray, .int .i64 (decR l).2], h') ∧ Old h h' := by
  obtain ⟨hlen, hby, _⟩ := sliceBytes_spec hl
  obtain ⟨h1, z1, o1, g1, n1⟩ := fresh [(.int .u8 0), (.int .u8 0), (.int .u8 0), (.int .u8 0), (.int .u8 0), (.int .u8 0), (.int .u8 0), (.int .u8 0), (.int .u8 0), (.int .u8 0), (.int .u8 0), (.int .u8 0), (.int .u8 0), (.int .u8 0), (.int .u8 0), (.int .u8 0), (.int .u8 0), (.int .u8 0), (.int .u8 0), (.int .u8 0), (.int .u8 0), (.int .u8 0), (.int .u8 0), (.int .u8 0), (.int .u8 0), (.int .u8 0), (.int .u8 0), (.int .u8 0), (.int .u8 0), (.int .u8 0), (.int .u8 0), (.int .u8 0), (.int .u8 0), (.int .i64 0), (.int .u64 0), (.int .u64 0), (.bool false), (.int .i64 0), (.int .i64 0)] h
  have bz : bldR [(.int .u8 0), (.int .u8 0), (.int .u8 0), (.int .u8 0), (.int .u8 0), (.int .u8 0), (.int .u8 0), (.int .u8 0), (.int .u8 0), (.int .u8 0), (.int .u8 0), (.int .u8 0), (.int .u8 0), (.int .u8 0), (.int .u8 0), (.int .u8 0), (.int .u8 0), (.int .u8 0), (.int .u8 0), (.int .u8 0), (.int .u8 0), (.int .u8 0), (.int .u8 0), (.int .u8 0), (.int .u8 0), (.int .u8 0), (.int .u8 0), (.int .u8 0), (.int .u8 0), (.int .u8 0), (.int .u8 0), (.int .u8 0), (.int .u8 0), (.int .i64 0), (.int .u64 0), (.int .u64 0), (.bool false), (.int .i64 0), (.int .i64 0)] [] = some (.agg (recC RecD.z).toArray) := rfl
  have hln : lenL (.slice a n c) = some (i64n n) := rfl
  unfold decR
  by_cases c1 : l.length < 53
  · rw [if_pos c1]
    have q1 : bin Tryd.prog .lss 3 (i64n n) (.int .i64 53) = some (.bool true) := by rw [bin_lss, decide_eq_true (by omega)]
    obtain ⟨h2, e2, l2, o2⟩ := rec_end o1 (Nat.le_refl _) g1 rfl RecD.z_wf
    refine ⟨h2, CW_body is44 hG rfl ((t44_eq _ _ _).trans ?_), o2⟩
    unfold t44
    simp -implicitDefEqProofs only [z1, hln, q1, bz, e2, thenV_some, pu_some]
    exact res_cell_tmp results44 agg61 siz61 (show 2 < 58 by decide) (show 3 < 58 by decide) _ l2
  rw [if_neg c1]
  have q1 : bin Tryd.prog .lss 3 (i64n n) (.int .i64 53) = some (.bool false) := by rw [bin_lss, decide_eq_false (by omega)]
  by_cases c2 : 53 < l.length
  · rw [if_pos c2]
    have q2 : bin Tryd.prog .gtr 3 (i64n n) (.int .i64 53) = some (.bool true) := by rw [bin_gtr, decide_eq_true (by omega)]
    obtain ⟨h2, e2, l2, o2⟩ := rec_end o1 (Nat.le_refl _) g1 rfl RecD.z_wf
    refine ⟨h2, CW_body is44 hG rfl ((t44_eq _ _ _).trans ?_), o2⟩
    unfold t44
    simp -implicitDefEqProofs only [z1, hln, q1, q2, bz, e2, thenV_some, pu_some]
    exact res_cell_tmp results44 agg61 siz61 (show 2 < 58 by decide) (show 3 < 58 by decide) _ l2
  rw [if_neg c2]
  have q2 : bin Tryd.prog .gtr 3 (i64n n) (.int .i64 53) = some (.bool false) := by rw [bin_gtr, decide_eq_false (by omega)]
  have h53 : l.length = 53 := by omega
  obtain ⟨r, h2, e2, R2, o2, lr⟩ := r92 (h := h1) (by rw [o1.n0]; exact hG) (c := c) (Old.bytes o1 hl) hn
  have rl2 := R2.lt
  obtain ⟨h3, e3, K3⟩ := r93 R2 (by omega)
  have R3 := K3.rd
  have O3 : Old h1 h3 := o2.also K3.kept (fun d hd e => by omega)
  have n3 := K3.next
  have bk : bldR [(.int .u8 0), (.int .u8 0), (.int .u8 0), (.int .u8 0), (.int .u8 0), (.int .u8 0), (.int .u8 0), (.int .u8 0), (.int .u8 0), (.int .u8 0), (.int .u8 0), (.int .u8 0), (.int .u8 0), (.int .u8 0), (.int .u8 0), (.int .u8 0), (.int .u8 0), (.int .u8 0), (.int .u8 0), (.int .u8 0), (.int .u8 0), (.int .u8 0), (.int .u8 0), (.int .u8 0), (.int .u8 0), (.int .u8 0), (.int .u8 0), (.int .u8 0), (.int .u8 0), (.int .u8 0), (.int .u8 0), (.int .u8 0), (.int .u8 0), (.int .i64 0), (.int .u64 0), (.int .u64 0), (.bool false), (.int .i64 0), (.int .i64 0)] [(0, 1, .int .u8 ((be (l.take 1) : Nat) : Int))] = some (.agg (recC { RecD.z with kind := be (l.take 1) }).toArray) := rfl
  have wk : ({ RecD.z with kind := be (l.take 1) } : RecD).Wf := { RecD.z_wf with kind := be1_lt hby 0 }
  obtain ⟨h4, z4, o4, g4, n4⟩ := fresh [(.int .u8 0), (.int .u8 0), (.int .u8 0), (.int .u8 0), (.int .u8 0), (.int .u8 0), (.int .u8 0), (.int .u8 0), (.int .u8 0), (.int .u8 0), (.int .u8 0), (.int .u8 0), (.int .u8 0), (.int .u8 0), (.int .u8 0), (.int .u8 0), (.int .u8 0), (.int .u8 0), (.int .u8 0), (.int .u8 0), (.int .u8 0), (.int .u8 0), (.int .u8 0), (.int .u8 0), (.int .u8 0), (.int .u8 0), (.int .u8 0), (.int .u8 0), (.int .u8 0), (.int .u8 0), (.int .u8 0), (.int .u8 0), (.int .u8 0), (.int .i64 0), (.int .u64 0), (.int .u64 0), (.bool false), (.int .i64 0), (.int .i64 0)] h3
  have p4 : h4.n0 ≤ h3.next := by rw [o4.n0]; exact h3.n0_le_next
  obtain ⟨h5, e5, k5, g5, p5, n5⟩ := stored_all (n := 39) (k' := recC { RecD.z with kind := be (l.take 1) }) g4 p4 rfl (rec_cells wk).1 (rec_cells wk).2.2
  have o35 : Old h3 h5 := Old.of_new o4 k5 (Nat.le_refl _)
  have O5 := O3.trans o35
  have R5 := R3.keepB o35 (fun _ _ h => h)
  obtain ⟨a6, c6, h6, e6, s6, _, R6, k6, _⟩ := r94 R5 (n := 32) (by rw [List.length_drop]; omega)
  have e6 : CW 94 [ptr r 0, .int .i64 32] h5 = _ := e6
  have O6 : Old h1 h6 := O5.also k6 (fun d hd e => by omega)
  have hD : r < h3.next := by omega
  have g6 : h6.get h3.next = some (recC { RecD.z with kind := be (l.take 1) }) := k6.getE g5 (by omega)
  have p6 : h6.n0 ≤ h3.next := by rw [k6.n0]; exact p5
  obtain ⟨h7, e7, k7, g7, n7⟩ := copy_mid (A := [.int .u8 ((be (l.take 1) : Nat) : Int)]) (B := u8s z32) (C := [.int .i64 0, .int .u64 0, .int .u64 0, .bool false, .int .i64 0, .int .i64 0]) (off := 1) (n := 32) (dc := 32) (c := c6) (s := none) g6 p6 rfl rfl s6 (by decide)
  have kD : ∀ {b : Nat}, b = r ∨ (h1.next ≤ b ∧ b < r) → ¬ b = h3.next := fun hb e => by omega
  have R7 := R6.keepB k7 (fun b hb e => kD hb e)
  have O7 : Old h1 h7 := O6.also k7 (fun d hd e => by have := O3.next; omega)
  have p7 : h7.n0 ≤ h3.next := by rw [k7.n0]; exact p6
  have g7 : h7.get h3.next = some (recC { RecD.z with kind := be (l.take 1), obj := (l.drop 1).take 32 }) := g7
  rw [List.drop_drop] at R7
  have hobj : ((l.drop 1).take 32).length = 32 := by rw [List.length_take, List.length_drop]; omega
  obtain ⟨h8, e8, K8⟩ := r93 R7 (by rw [List.length_drop]; omega)
  have R8 := K8.rd
  rw [List.drop_drop] at R8
  have O8 : Old h1 h8 := O7.also K8.kept (fun d hd e => by omega)
  have g8 := K8.kept.getE g7 (by omega)
  have p8 : h8.n0 ≤ h3.next := by rw [K8.kept.n0]; exact p7
  obtain ⟨h9, e9, K9⟩ := r95 R8 (by rw [List.length_drop]; omega)
  have R9 := K9.rd
  rw [List.drop_drop] at R9
  have O9 : Old h1 h9 := O8.also K9.kept (fun d hd e => by omega)
  have g9 := K9.kept.getE g8 (by omega)
  have p9 : h9.n0 ≤ h3.next := by rw [K9.kept.n0]; exact p8
  obtain ⟨h10, e10, K10⟩ := r95 R9 (by rw [List.length_drop]; omega)
  have R10 := K10.rd
  rw [List.drop_drop] at R10
  have O10 : Old h1 h10 := O9.also K10.kept (fun d hd e => by omega)
  have g10 := K10.kept.getE g9 (by omega)
  have p10 : h10.n0 ≤ h3.next := by rw [K10.kept.n0]; exact p9
  obtain ⟨h11, e11, k11, g11, p11, _⟩ := stored (v := .int .i64 ((be ((l.drop 33).take 1) : Nat) : Int)) (o := 33) g10 p10 (by rw [recC_len hobj]; decide) rfl rfl
  rw [rset33 hobj] at g11
  have R11 := R10.keepB k11 (fun b hb e => kD hb e)
  have O11 : Old h1 h11 := O10.also k11 (fun d hd e => by have := O3.next; omega)
  obtain ⟨h12, e12, k12, g12, p12, _⟩ := stored (v := .int .u64 ((be ((l.drop 34).take 8) : Nat) : Int)) (o := 34) g11 p11 (by rw [recC_len hobj]; decide) rfl rfl
  rw [rset34 hobj] at g12
  have R12 := R11.keepB k12 (fun b hb e => kD hb e)
  have O12 : Old h1 h12 := O11.also k12 (fun d hd e => by have := O3.next; omega)
  obtain ⟨h13, e13, k13, g13, p13, _⟩ := stored (v := .int .u64 ((be ((l.drop 42).take 8) : Nat) : Int)) (o := 35) g12 p12 (by rw [recC_len hobj]; decide) rfl rfl
  rw [rset35 hobj] at g13
  have R13 := R12.keepB k13 (fun b hb e => kD hb e)
  have O13 : Old h1 h13 := O12.also k13 (fun d hd e => by have := O3.next; omega)
  obtain ⟨h14, e14, K14⟩ := r93 R13 (by rw [List.length_drop]; omega)
  have R14 := K14.rd
  rw [List.drop_drop] at R14
  have O14 : Old h1 h14 := O13.also K14.kept (fun d hd e => by omega)
  have g14 := K14.kept.getE g13 (by omega)
  have p14 : h14.n0 ≤ h3.next := by rw [K14.kept.n0]; exact p13
  obtain ⟨h15, e15, K15⟩ := r93 R14 (by rw [List.length_drop]; omega)
  have R15 := K15.rd
  rw [List.drop_drop] at R15
  have O15 : Old h1 h15 := O14.also K15.kept (fun d hd e => by omega)
  have g15 := K15.kept.getE g14 (by omega)
  have p15 : h15.n0 ≤ h3.next := by rw [K15.kept.n0]; exact p14
  obtain ⟨h16, e16, K16⟩ := r93 R15 (by rw [List.length_drop]; omega)
  have R16 := K16.rd
  rw [List.drop_drop] at R16
  have O16 : Old h1 h16 := O15.also K16.kept (fun d hd e => by omega)
  have g16 := K16.kept.getE g15 (by omega)
  have p16 : h16.n0 ≤ h3.next := by rw [K16.kept.n0]; exact p15
  obtain ⟨h17, e17, k17, g17, p17, _⟩ := stored (v := .bool (be ((l.drop 50).take 1) == 1)) (o := 36) g16 p16 (by rw [recC_len hobj]; decide) rfl rfl
  rw [rset36 hobj] at g17
  have R17 := R16.keepB k17 (fun b hb e => kD hb e)
  have O17 : Old h1 h17 := O16.also k17 (fun d hd e => by have := O3.next; omega)
  obtain ⟨h18, e18, k18, g18, p18, _⟩ := stored (v := .int .i64 ((be ((l.drop 51).take 1) : Nat) : Int)) (o := 37) g17 p17 (by rw [recC_len hobj]; decide) rfl rfl
  rw [rset37 hobj] at g18
  have R18 := R17.keepB k18 (fun b hb e => kD hb e)
  have O18 : Old h1 h18 := O17.also k18 (fun d hd e => by have := O3.next; omega)
  obtain ⟨h19, e19, k19, g19, p19, _⟩ := stored (v := .int .i64 ((be ((l.drop 52).take 1) : Nat) : Int)) (o := 38) g18 p18 (by rw [recC_len hobj]; decide) rfl rfl
  rw [rset38 hobj] at g19
  have R19 := R18.keepB k19 (fun b hb e => kD hb e)
  have O19 : Old h1 h19 := O18.also k19 (fun d hd e => by have := O3.next; omega)
  have g19 : h19.get h3.next = some (recC (decRx l)) := g19
  have wx := decRx_wf h53 hby
  have l19 : ldN 39 (ptr h3.next 0) h19 = some (.agg (recC (decRx l)).toArray, h19) := ldN_all g19 (rec_cells wx).1 (rec_cells wx).2.1
  have w1 : ∀ j, IntKind.wrap .i64 ((be ((l.drop j).take 1) : Nat) : Int) = ((be ((l.drop j).take 1) : Nat) : Int) := fun j => by
    have := be1_lt hby j
    exact wrap_i64 (by omega) (by omega)
  have w33 := w1 33
  have w51 := w1 51
  have w52 := w1 52
  have hheld : ((((be ((l.drop 50).take 1) : Nat) : Int)) == 1) = (be ((l.drop 50).take 1) == 1) := by
    by_cases e : be ((l.drop 50).take 1) = 1
    · rw [e]; rfl
    · rw [beq_eq_false_iff_ne.2 e, beq_eq_false_iff_ne.2 (by omega)]
  have g1' := Old.get O19 g1
  by_cases c3 : 1 < be ((l.drop 50).take 1)
  · rw [if_pos c3]
    have q3 : bin Tryd.prog .gtr 5 (.int .u8 ((be ((l.drop 50).take 1) : Nat) : Int)) (.int .u8 1) = some (.bool true) := by rw [bin_gtr, decide_eq_true (by omega)]
    obtain ⟨h20, e20, l20, o20⟩ := rec_end (o1.trans O19) (Nat.le_refl _) g1' rfl RecD.z_wf
    refine ⟨h20, CW_body is44 hG rfl ((t44_eq _ _ _).trans ?_), o20⟩
    unfold t44
    simp -implicitDefEqProofs only [z1, hln, q1, q2, e2, e3, bk, z4, e5, addP_ptr, Nat.zero_add, arr32, e6, e7, e8, e9, e10, e11, e12, e13, e14, e15, e16, e17, e18, e19, cvI_int, w33, w51, w52, bin_eql, hheld, thenV_some, pu_some, q3, bz, e20]
    exact res_cell_tmp results44 agg61 siz61 (show 2 < 58 by decide) (show 3 < 58 by decide) _ l20
  rw [if_neg c3]
  have q3 : bin Tryd.prog .gtr 5 (.int .u8 ((be ((l.drop 50).take 1) : Nat) : Int)) (.int .u8 1) = some (.bool false) := by rw [bin_gtr, decide_eq_false (by omega)]
  obtain ⟨h20, e20, o20⟩ := r42 (h := h19) R19.g4 wx
  have O20 := o1.trans (O19.trans o20)
  have g1'' := Old.get o20 g1'
  cases c4 : recB (decRx l) with
  | false =>
    rw [c4] at e20
    obtain ⟨h21, e21, l21, o21⟩ := rec_end O20 (Nat.le_refl _) g1'' rfl RecD.z_wf
    refine ⟨h21, CW_body is44 hG rfl ((t44_eq _ _ _).trans ?_), o21⟩
    unfold t44
    simp -implicitDefEqProofs only [z1, hln, q1, q2, e2, e3, bk, z4, e5, addP_ptr, Nat.zero_add, arr32, e6, e7, e8, e9, e10, e11, e12, e13, e14, e15, e16, e17, e18, e19, cvI_int, w33, w51, w52, bin_eql, hheld, thenV_some, pu_some, q3, l19, e20, unA_not, Bool.not_false, bz, e21]
    exact res_cell_tmp results44 agg61 siz61 (show 2 < 58 by decide) (show 3 < 58 by decide) _ l21
  | true =>
    rw [c4] at e20
    have l20 : ldN 39 (ptr h3.next 0) h20 = some (.agg (recC (decRx l)).toArray, h20) := ldN_all (Old.get o20 g19) (rec_cells wx).1 (rec_cells wx).2.1
    obtain ⟨h21, e21, l21, o21⟩ := rec_end O20 (Nat.le_refl _) g1'' rfl wx
    refine ⟨h21, CW_body is44 hG rfl ((t44_eq _ _ _).trans ?_), o21⟩
    unfold t44
    simp -implicitDefEqProofs only [z1, hln, q1, q2, e2, e3, bk, z4, e5, addP_ptr, Nat.zero_add, arr32, e6, e7, e8, e9, e10, e11, e12, e13, e14, e15, e16, e17, e18, e19, cvI_int, w33, w51, w52, bin_eql, hheld, thenV_some, pu_some, q3, l19, e20, unA_not, Bool.not_true, l20, e21]
    exact res_cell_tmp results44 agg61 siz61 (show 2 < 58 by decide) (show 3 < 58 by decide) _ l21
end Go.Proofs.YtdnahgfgoajmcaaDoor

namespace Go.Proofs.YtdnahgfgoajmcaaDoor
open Go Go.Abs
attribute [local congr] thenV_congr
def strOf (l : List Nat) : ByteArray := ⟨(l.map UInt8.ofNat).toArray⟩
def u8v (n : Nat) : Value := .int .u8 (n : Int)
theorem mapM_asByte : ∀ {l : List Nat}, (l.map u8v).mapM asByte = some (l.map UInt8.ofNat)
  | [] => rfl
  | n :: l => by
    have ih := mapM_asByte (l := l)
    rw [List.map_cons, List.mapM_cons, ih]
    rfl
theorem strOf_inj {a b : List Nat} (ha : ∀ x ∈ a, x < 256) (hb : ∀ x ∈ b, x < 256) : ((strOf a).toList == (strOf b).toList) = decide (a = b) := by
  have hl : ∀ l : List Nat, (strOf l).toList = l.map UInt8.ofNat := fun l => Go.ByteArray.toList_mk _
  have hinj : ∀ a b : List Nat, (∀ x ∈ a, x < 256) → (∀ x ∈ b, x < 256) → a.map UInt8.ofNat = b.map UInt8.ofNat → a = b := by
    intro a
    induction a with
    | nil => intro b _ _ h; simpa using h.symm
    | cons x a ih =>
      intro b ha hb h
      match b with
      | [] => simp at h
      | y :: b =>
        rw [List.map_cons, List.map_cons, List.cons.injEq] at h
        have hx := ha x List.mem_cons_self
        have hy := hb y List.mem_cons_self
        have e : x = y := by
          have := congrArg UInt8.toNat h.1
          rw [UInt8.toNat_ofNat', UInt8.toNat_ofNat'] at this
          omega
        rw [e, ih b (fun z hz => ha z (List.mem_cons_of_mem _ hz)) (fun z hz => hb z (List.mem_cons_of_mem _ hz)) h.2]
  rw [hl, hl]
  by_cases e : a = b
  · rw [decide_eq_true e, e]; exact beq_self_eq_true _
  · rw [decide_eq_false e, beq_eq_false_iff_ne]
    exact fun h => e (hinj a b ha hb h)
end Go.Proofs.YtdnahgfgoajmcaaDoor

namespace Go.Proofs.YtdnahgfgoajmcaaDoor
open Go Go.Abs
section
theorem cvBS_at {a : Option Addr} {n c : Nat} {h : Heap} {l : List Nat} (e : sliceBytes a n h = some l) : cvBS (.slice a n c) h = some (.string (strOf l), h) := by
  have hl := (sliceBytes_spec e).1
  have hf := firstA_of e (Nat.le_refl n) (c := c)
  rw [List.take_of_length_le (by omega)] at hf
  unfold cvBS bsR
  simp only [hf, show (l.map u8).mapM asByte = some (l.map UInt8.ofNat) from mapM_asByte]
  rfl
end
end Go.Proofs.YtdnahgfgoajmcaaDoor

namespace Go.Proofs.YtdnahgfgoajmcaaDoor
open Go Go.Abs
attribute [local congr] thenV_congr
end Go.Proofs.YtdnahgfgoajmcaaDoor

namespace Go.Proofs.YtdnahgfgoajmcaaDoor
open Go Go.Abs
theorem Bys.take {l : List Nat} (h : Bys l) (n : Nat) : Bys (l.take n) := fun x hx => h x (List.mem_of_mem_take hx)
theorem Bys.drop {l : List Nat} (h : Bys l) (n : Nat) : Bys (l.drop n) := fun x hx => h x (List.mem_of_mem_drop hx)
theorem bit_lt (b : Bool) : bit b < 2 := by cases b <;> decide
theorem i8_of {x : Int} (h0 : 0 ≤ x) (h1 : x ≤ 255) : (i8 x : Int) = x := by unfold i8; omega
/-- What a valid record's numbers are. -/
theorem rec_small {r : RecD} (v : recB r = true) : 0 ≤ r.holder ∧ r.holder ≤ 15 ∧ 0 ≤ r.k ∧ r.k ≤ 255 ∧ 0 ≤ r.n ∧ r.n ≤ 255 := by
  have hh : holderB r = true → 0 ≤ r.holder ∧ r.holder ≤ 15 := fun h => by
    unfold holderB at h
    simp only [Bool.and_eq_true, decide_eq_true_eq] at h
    omega
  unfold recB at v
  split at v
  · rw [Bool.and_eq_true, decide_eq_true_eq] at v
    obtain ⟨e, h⟩ := v
    have h := hh h
    rw [e]
    exact ⟨h.1, h.2, show (0 : Int) ≤ 0 by decide, show (0 : Int) ≤ 255 by decide, show (0 : Int) ≤ 0 by decide, show (0 : Int) ≤ 255 by decide⟩
  split at v
  · rw [decide_eq_true_eq] at v
    rw [v]
    exact ⟨show (0 : Int) ≤ 0 by decide, show (0 : Int) ≤ 15 by decide, show (0 : Int) ≤ 0 by decide, show (0 : Int) ≤ 255 by decide, show (0 : Int) ≤ 0 by decide, show (0 : Int) ≤ 255 by decide⟩
  split at v
  · unfold pieceB at v
    simp only [Bool.and_eq_true, decide_eq_true_eq] at v
    have h := hh v.1.1.1.1
    omega
  · cases v
end Go.Proofs.YtdnahgfgoajmcaaDoor

namespace Go.Proofs.YtdnahgfgoajmcaaDoor
open Go Go.Abs
end Go.Proofs.YtdnahgfgoajmcaaDoor

namespace Go.Proofs.YtdnahgfgoajmcaaDoor
open Go Go.Abs
attribute [local congr] thenV_congr
theorem str_dec {a b : List Nat} (ha : Bys a) (hb : Bys b) : bin Tryd.prog .eql 9 (.string (strOf a)) (.string (strOf b)) = some (.bool (decide (a = b))) ∧ bin Tryd.prog .neq 9 (.string (strOf a)) (.string (strOf b)) = some (.bool !(decide (a = b))) := by
  rw [← strOf_inj ha hb]
  exact ⟨rfl, rfl⟩
end Go.Proofs.YtdnahgfgoajmcaaDoor

namespace Go.Proofs.YtdnahgfgoajmcaaDoor
open Go Go.Abs
attribute [local congr] thenV_congr
theorem str_self (a : ByteArray) : bin Tryd.prog .eql 9 (.string a) (.string a) = some (.bool true) := by
  unfold bin eqOk
  simp only [if_true]
  unfold binA
  simp only [ground, flat, Bool.and_self, if_true]
  have e : (binOp .eql 9 (.string a) (.string a)) = pure (.bool (a.toList == a.toList)) := rfl
  rw [e, beq_self_eq_true]
  rfl
end Go.Proofs.YtdnahgfgoajmcaaDoor

namespace Go.Proofs.YtdnahgfgoajmcaaDoor
open Go Go.Abs
/-- Elements whose cells are of these kinds. -/
def TypedN (ks : List Kd) (n : Nat) (cs : List Value) : Prop := cs.length = n * ks.length ∧ ∀ i, i < n → Typed ks ((cs.drop (i * ks.length)).take ks.length)
end Go.Proofs.YtdnahgfgoajmcaaDoor

namespace Go.Proofs.YtdnahgfgoajmcaaDoor
open Go Go.Abs
/-- A slice of n elements with these cells. -/
def SlN (h : Heap) (ks : List Kd) (v : Value) (n : Nat) (cs : List Value) : Prop :=
  ∃ a c, v = .slice a n c ∧ (a = none → n = 0) ∧ TypedN ks n cs ∧ (0 < n → ∃ b off s k, a = some ⟨b, off, s⟩ ∧ h.get b = some k ∧ off + n * ks.length ≤ k.length ∧ (k.drop off).take (n * ks.length) = cs)
/-- The block that a slice leads to, if it has elements. -/
def slB : Value → Option Nat
  | .slice (some a) (_ + 1) _ => some a.block
  | _ => none
theorem mul_le {i n z : Nat} (hi : i < n) : i * z + z ≤ n * z := by
  have := Nat.mul_le_mul_right z (show i + 1 ≤ n by omega)
  rw [Nat.add_mul, Nat.one_mul] at this
  exact this
end Go.Proofs.YtdnahgfgoajmcaaDoor

namespace Go.Proofs.YtdnahgfgoajmcaaDoor
open Go Go.Abs
attribute [local congr] thenV_congr
/-- The half that decodes bytes. -/
noncomputable def e9 (x1 : Value) (h : Heap) : Out :=
  thenV (bslR 1 (.int .u8 0) 0 [] h) fun y46 h =>
  thenV (some (x1, h)) fun y47 h =>
  thenV (appendA 1 1 y46 y47 h) fun y48 h =>
  thenV (CW 44 [y48] h) fun y49 h =>
  thenV (some (y49, h)) fun y45 h =>
  thenV (pu (extractA y45 0) h) fun y50 h =>
  thenV (pu (extractA y45 1) h) fun y51 h =>
  thenV (newC [(.int .u8 0), (.int .u8 0), (.int .u8 0), (.int .u8 0), (.int .u8 0), (.int .u8 0), (.int .u8 0), (.int .u8 0), (.int .u8 0), (.int .u8 0), (.int .u8 0), (.int .u8 0), (.int .u8 0), (.int .u8 0), (.int .u8 0), (.int .u8 0), (.int .u8 0), (.int .u8 0), (.int .u8 0), (.int .u8 0), (.int .u8 0), (.int .u8 0), (.int .u8 0), (.int .u8 0), (.int .u8 0), (.int .u8 0), (.int .u8 0), (.int .u8 0), (.int .u8 0), (.int .u8 0), (.int .u8 0), (.int .u8 0), (.int .u8 0), (.int .i64 0), (.int .u64 0), (.int .u64 0), (.bool false), (.int .i64 0), (.int .i64 0)] h) fun y9 h =>
  thenV (stN 39 y9 y50 h) fun _ h =>
  thenV (some (y51, h)) fun y10 h =>
  thenV (some (y10, h)) fun y52 h =>
  thenV (pu (bin Tryd.prog .neq 26 y52 (.int .i64 0)) h) fun y53 h =>
  (match y53 with
  | .bool true =>
  thenV (CW 14 [] h) fun y54 h =>
  thenV (some (y54, h)) fun y4_1 h =>
  some (y4_1, h)
  | .bool false =>
  thenV (ldN 39 y9 h) fun y56 h =>
  thenV (CW 43 [y56] h) fun y57 h =>
  thenV (some (y57, h)) fun y55 h =>
  thenV (pu (extractA y55 0) h) fun y58 h =>
  thenV (pu (extractA y55 1) h) fun y59 h =>
  thenV (some (y58, h)) fun y11 h =>
  thenV (some (y59, h)) fun y12 h =>
  thenV (ldN 39 y9 h) fun y60 h =>
  thenV (CW 42 [y60] h) fun y61 h =>
  thenV (some (y61, h)) fun y62 h =>
  thenV (guardK (bOf y62 == some true) (some (y12, h)) h) fun y63 h =>
  thenV (guardK (bOf y62 == some true) (pu (bin Tryd.prog .eql 26 y63 (.int .i64 0)) h) h) fun y64 h =>
  thenV (match y62 with | .bool t => some (if t then y64 else (.bool false), h) | _ => none) fun y65 h =>
  thenV (some (y65, h)) fun y66 h =>
  thenV (guardK (bOf y66 == some true) (some (y11, h)) h) fun y67 h =>
  thenV (guardK (bOf y66 == some true) (cvBS y67 h) h) fun y68 h =>
  thenV (guardK (bOf y66 == some true) (some (x1, h)) h) fun y69 h =>
  thenV (guardK (bOf y66 == some true) (cvBS y69 h) h) fun y70 h =>
  thenV (guardK (bOf y66 == some true) (pu (bin Tryd.prog .eql 9 y68 y70) h) h) fun y71 h =>
  thenV (match y66 with | .bool t => some (if t then y71 else (.bool false), h) | _ => none) fun y72 h =>
  thenV (some (y72, h)) fun y73 h =>
  thenV (guardK (bOf y73 == some true) (CW 14 [] h) h) fun y74 h =>
  thenV (match y73 with | .bool t => some (if t then y74 else (.bool false), h) | _ => none) fun y75 h =>
  thenV (some (y75, h)) fun y4_1 h =>
  some (y4_1, h)
  | _ => none)
/-- The cells of a record that is zero. -/
abbrev zrC : List Value := [(.int .u8 0), (.int .u8 0), (.int .u8 0), (.int .u8 0), (.int .u8 0), (.int .u8 0), (.int .u8 0), (.int .u8 0), (.int .u8 0), (.int .u8 0), (.int .u8 0), (.int .u8 0), (.int .u8 0), (.int .u8 0), (.int .u8 0), (.int .u8 0), (.int .u8 0), (.int .u8 0), (.int .u8 0), (.int .u8 0), (.int .u8 0), (.int .u8 0), (.int .u8 0), (.int .u8 0), (.int .u8 0), (.int .u8 0), (.int .u8 0), (.int .u8 0), (.int .u8 0), (.int .u8 0), (.int .u8 0), (.int .u8 0), (.int .u8 0), (.int .i64 0), (.int .u64 0), (.int .u64 0), (.bool false), (.int .i64 0), (.int .i64 0)]
end Go.Proofs.YtdnahgfgoajmcaaDoor

