/-
  The wire: records decoded.
  Conditions: as each theorem states.
  The wire: two manifests, and two messages, are compared.
  Conditions: as each theorem states.
  Taken over from the disk's texts: numbers of functions and types are mapped.
  Conditions: as each theorem states.
  The wire: manifests and bodies, written.
  Conditions: as each theorem states.
  The wire's plain law: numbers, texts and lists that are written are read again, and what is read is what was written.
  Conditions: as each theorem states.
  The wire's plain law: bytes that are decoded are the frame of their message.
  Conditions: as each theorem states.
  The wire: messages and bytes as the laws handle them.
  Conditions: as each theorem states.
  Digests in letters; Describe.
  Conditions: as each theorem states.
  InventoryRecordBack: records encoded and decoded, the walk.
  Conditions: the digest's table holds what it holds at the start.
  The wire's known run; the calls' evaluator; lists of typed cells, and their equality.
  Conditions: as each theorem states.
  The wire: slices of typed cells, and their comparison, element by element.
  Conditions: as each theorem states.
-/
import Derived.Test.YtdnahgfgoajmcaaDoorG11
namespace Go.Proofs.YtdnahgfgoajmcaaDoor
open Go Go.Abs
attribute [local congr] thenV_congr
theorem copy_mid {h : Heap} {b off dc c n : Nat} {s : Option Nat} {a : Option Addr} {A B C : List Value} {l : List Nat} (g : h.get b = some (A ++ (B ++ C))) (h0 : h.n0 ≤ b) (hA : A.length = off) (hB : B.length = n) (hs : sliceBytes a n h = some l) (hn : 0 < n) :
    ∃ g', copyA 1 (.slice (some ⟨b, off, s⟩) n dc) (.slice a n c) h = some (i64n n, g') ∧ Kept h g' (· = b) ∧ g'.get b = some (A ++ (u8s l ++ C)) ∧ g'.next = h.next := by
  obtain ⟨hl, hb, _⟩ := sliceBytes_spec hs
  have hf := firstA_of hs (Nat.le_refl n) (c := c)
  rw [List.take_of_length_le (by omega)] at hf
  have hsp : splice (A ++ (B ++ C)) off (u8s l) = A ++ (u8s l ++ C) := splice_app hA hB (by rw [List.length_map]; exact hl)
  refine ⟨h.set b (A ++ (u8s l ++ C)), ?_, Kept.set h0 g (.inr rfl), Heap.get_set_same h0 g _, rfl⟩
  unfold copyA
  simp only [lenA]
  rw [Nat.min_self, hf]
  simp only
  rw [if_neg (by omega)]
  unfold stL
  simp only [g]
  rw [if_pos (by
    have h1 : off + (u8s l).length ≤ (A ++ (B ++ C)).length := by rw [List.length_append, List.length_append, List.length_map, hA, hB]; omega
    simp only [decide_eq_true h0, decide_eq_true h1, (u8s_ok l).2, Bool.and_self]), hsp]
  rfl
section
variable {x : RecD} (ho : x.obj.length = 32)
include ho
theorem rset33 (v : Int) : (recC x).set 33 (.int .i64 v) = recC { x with holder := v } := set_app (A := .int .u8 (x.kind : Int) :: u8s x.obj) 0 (by simp [ho]) rfl
theorem rset34 (v : Nat) : (recC x).set 34 (.int .u64 (v : Int)) = recC { x with inc := v } := set_app (A := .int .u8 (x.kind : Int) :: u8s x.obj) 1 (by simp [ho]) rfl
theorem rset35 (v : Nat) : (recC x).set 35 (.int .u64 (v : Int)) = recC { x with num := v } := set_app (A := .int .u8 (x.kind : Int) :: u8s x.obj) 2 (by simp [ho]) rfl
theorem rset36 (v : Bool) : (recC x).set 36 (.bool v) = recC { x with held := v } := set_app (A := .int .u8 (x.kind : Int) :: u8s x.obj) 3 (by simp [ho]) rfl
theorem rset37 (v : Int) : (recC x).set 37 (.int .i64 v) = recC { x with k := v } := set_app (A := .int .u8 (x.kind : Int) :: u8s x.obj) 4 (by simp [ho]) rfl
theorem rset38 (v : Int) : (recC x).set 38 (.int .i64 v) = recC { x with n := v } := set_app (A := .int .u8 (x.kind : Int) :: u8s x.obj) 5 (by simp [ho]) rfl
theorem recC_len : (recC x).length = 39 := by unfold recC u8s; simp [ho]
end
/-- The record that 53 bytes tell. -/
def decRx (l : List Nat) : RecD := ⟨be (l.take 1), (l.drop 1).take 32, (be ((l.drop 33).take 1) : Nat), be ((l.drop 34).take 8), be ((l.drop 42).take 8), be ((l.drop 50).take 1) == 1, (be ((l.drop 51).take 1) : Nat), (be ((l.drop 52).take 1) : Nat)⟩
/-- What DecodeRecord returns. -/
def decR (l : List Nat) : RecD × Int :=
  if l.length < 53 then (RecD.z, 4) else if 53 < l.length then (RecD.z, 3) else if 1 < be ((l.drop 50).take 1) then (RecD.z, 5) else if recB (decRx l) then (decRx l, 0) else (RecD.z, 2)
theorem be1_lt {l : List Nat} (hb : Bys l) (j : Nat) : be ((l.drop j).take 1) < 256 := be_lt' (n := 1) (by rw [List.length_take]; omega) fun x hx => hb x (List.mem_of_mem_drop (List.mem_of_mem_take hx))
theorem be8_lt {l : List Nat} (hb : Bys l) (j : Nat) : be ((l.drop j).take 8) < 18446744073709551616 := be_lt' (n := 8) (by rw [List.length_take]; omega) fun x hx => hb x (List.mem_of_mem_drop (List.mem_of_mem_take hx))
theorem i64_nat {n : Nat} (h : n < 256) : I64 (n : Int) := ⟨by omega, by omega⟩
theorem RecD.z_wf : RecD.z.Wf := ⟨by decide, z32_ok, i64_0, by decide, by decide, i64_0, i64_0⟩
theorem decRx_wf {l : List Nat} (hl : l.length = 53) (hb : Bys l) : (decRx l).Wf :=
  ⟨be1_lt hb 0, ⟨by show ((l.drop 1).take 32).length = 32; rw [List.length_take, List.length_drop]; omega, fun x hx => hb x (List.mem_of_mem_drop (List.mem_of_mem_take hx))⟩, i64_nat (be1_lt hb 33), be8_lt hb 34, be8_lt hb 42, i64_nat (be1_lt hb 51), i64_nat (be1_lt hb 52)⟩
theorem agg61 : aggT Tryd.prog 58 = some true := by kernel_rfl
theorem siz61 : sizeT Tryd.prog 58 = some 39 := by kernel_rfl
theorem results44 : Tryd.f44.results.toList = [.cell 2 58, .tmp 3] := by kernel_rfl
theorem is44 : IsFn Tryd.prog 44 Tryd.f44 := ⟨by kernel_rfl, by kernel_rfl, by kernel_rfl, by kernel_rfl⟩
/-- A record stored in a block of its own, and returned. -/
theorem rec_end {h0 h : Heap} {b : Nat} {k : Blk} (o : Old h0 h) (hb : h0.next ≤ b) (g : h.get b = some k) (hk : k.length = 39) {r : RecD} (w : r.Wf) : ∃ h', stN 39 (ptr b 0) (.agg (recC r).toArray) h = some (undef, h') ∧ ldN 39 (ptr b 0) h' = some (.agg (recC r).toArray, h') ∧ Old h0 h' := by
  have hn : h.n0 ≤ b := by rw [o.n0]; exact Nat.le_trans h0.n0_le_next hb
  obtain ⟨h', e1, k1, g1, _, _⟩ := stored_all (n := 39) g hn hk (rec_cells w).1 (rec_cells w).2.2
  exact ⟨h', e1, ldN_all g1 (rec_cells w).1 (rec_cells w).2.1, Old.of_new o k1 hb⟩
set_option maxRecDepth 100000 in
/-- DecodeRecord -/
theorem q44 {h : Heap} (hG : 4 ≤ h.n0) {a : Option Addr} {n c : Nat} {l : List Nat} (hl : sliceBytes a n h = some l) (hn : n ≤ 21000) : ∃ h', CW 44 [.slice a n c] h = some (.tuple #[.agg (recC (decR l).1).toArray, .int .i64 (decR l).2], h') ∧ Old h h' := by
  obtain ⟨hlen, hby, _⟩ := sliceBytes_spec hl
  obtain ⟨h1, z1, o1, g1, n1⟩ := fresh [(.int .u8 0), (.int .u8 0), (.int .u8 0), (.int .u8 0), (.int .u8 0), (.int .u8 0), (.int .u8 0), (.int .u8 0), (.int .u8 0), (.int .u8 0), (.int .u8 0), (.int .u8 0), (.int .u8 0), (.int .u8 0), (.int .u8 0), (.int .u8 0), (.int .u8 0), (.int .u8 0), (.int .u8 0), (.int .u8 0), (.int .u8 0), (.int .u8 0), (.int .u8 0), (.int .u8 0), (.int .u8 0), (.int .u8 0), (.int .u8 0), (.int .u8 0), (.int .u8 0), (.int .u8 0), (.int .u8 0), (.int .u8 0), (.int .u8 0), (.int .i64 0), (.int .u64 0), (.int .u64 0), (.bool false), (.int .i64 0), (.int .i64 0)] h
  have bz : bldR [(.int .u8 0), (.int .u8 0), (.int .u8 0), (.int .u8 0), (.int .u8 0), (.int .u8 0), (.int .u8 0), (.int .u8 0), (.int .u8 0), (.int .u8 0), (.int .u8 0), (.int .u8 0), (.int .u8 0), (.int .u8 0), (.int .u8 0), (.int .u8 0), (.int .u8 0), (.int .u8 0), (.int .u8 0), (.int .u8 0), (.int .u8 0), (.int .u8 0), (.int .u8 0), (.int .u8 0), (.int .u8 0), (.int .u8 0), (.int .u8 0), (.int .u8 0), (.int .u8 0), (.int .u8 0), (.int .u8 0), (.int .u8 0), (.int .u8 0), (.int .i64 0), (.int .u64 0), (.int .u64 0), (.bool false), (.int .i64 0), (.int .i64 0)] [] = some (.agg (recC RecD.z).toArray) := rfl
  have hln : lenL (.slice a n c) = some (i64n n) := rfl
  unfold decR
  by_cases c1 : l.length < 53
  · rw [if_pos c1]
    have q1 : bin Tryd.prog .lss 3 (i64n n) (.int .i64 53) = some (.bool true) := by rw [bin_lss, decide_eq_true (by omega)]
    obtain ⟨h2, e2, l2, o2⟩ := rec_end o1 (Nat.le_refl _) g1 rfl RecD.z_wf
    refine ⟨h2, CW_body is44 hG rfl ((t44_eq _ _ _).trans ?_), o2⟩
    unfold t44
    simp -implicitDefEqProofs only [z1, hln, q1, bz, e2, thenV_some, pu_some]
    exact res_cell_tmp results44 agg61 siz61 (show 2 < 58 by decide) (show 3 < 58 by decide) _ l2
  rw [if_neg c1]
  have q1 : bin Tryd.prog .lss 3 (i64n n) (.int .i64 53) = some (.bool false) := by rw [bin_lss, decide_eq_false (by omega)]
  by_cases c2 : 53 < l.length
  · rw [if_pos c2]
    have q2 : bin Tryd.prog .gtr 3 (i64n n) (.int .i64 53) = some (.bool true) := by rw [bin_gtr, decide_eq_true (by omega)]
    obtain ⟨h2, e2, l2, o2⟩ := rec_end o1 (Nat.le_refl _) g1 rfl RecD.z_wf
    refine ⟨h2, CW_body is44 hG rfl ((t44_eq _ _ _).trans ?_), o2⟩
    unfold t44
    simp -implicitDefEqProofs only [z1, hln, q1, q2, bz, e2, thenV_some, pu_some]
    exact res_cell_tmp results44 agg61 siz61 (show 2 < 58 by decide) (show 3 < 58 by decide) _ l2
  rw [if_neg c2]
  have q2 : bin Tryd.prog .gtr 3 (i64n n) (.int .i64 53) = some (.bool false) := by rw [bin_gtr, decide_eq_false (by omega)]
  have h53 : l.length = 53 := by omega
  obtain ⟨r, h2, e2, R2, o2, lr⟩ := r92 (h := h1) (by rw [o1.n0]; exact hG) (c := c) (Old.bytes o1 hl) hn
  have rl2 := R2.lt
  obtain ⟨h3, e3, K3⟩ := r93 R2 (by omega)
  have R3 := K3.rd
  have O3 : Old h1 h3 := o2.also K3.kept (fun d hd e => by omega)
  have n3 := K3.next
  have bk : bldR [(.int .u8 0), (.int .u8 0), (.int .u8 0), (.int .u8 0), (.int .u8 0), (.int .u8 0), (.int .u8 0), (.int .u8 0), (.int .u8 0), (.int .u8 0), (.int .u8 0), (.int .u8 0), (.int .u8 0), (.int .u8 0), (.int .u8 0), (.int .u8 0), (.int .u8 0), (.int .u8 0), (.int .u8 0), (.int .u8 0), (.int .u8 0), (.int .u8 0), (.int .u8 0), (.int .u8 0), (.int .u8 0), (.int .u8 0), (.int .u8 0), (.int .u8 0), (.int .u8 0), (.int .u8 0), (.int .u8 0), (.int .u8 0), (.int .u8 0), (.int .i64 0), (.int .u64 0), (.int .u64 0), (.bool false), (.int .i64 0), (.int .i64 0)] [(0, 1, .int .u8 ((be (l.take 1) : Nat) : Int))] = some (.agg (recC { RecD.z with kind := be (l.take 1) }).toArray) := rfl
  have wk : ({ RecD.z with kind := be (l.take 1) } : RecD).Wf := { RecD.z_wf with kind := be1_lt hby 0 }
  obtain ⟨h4, z4, o4, g4, n4⟩ := fresh [(.int .u8 0), (.int .u8 0), (.int .u8 0), (.int .u8 0), (.int .u8 0), (.int .u8 0), (.int .u8 0), (.int .u8 0), (.int .u8 0), (.int .u8 0), (.int .u8 0), (.int .u8 0), (.int .u8 0), (.int .u8 0), (.int .u8 0), (.int .u8 0), (.int .u8 0), (.int .u8 0), (.int .u8 0), (.int .u8 0), (.int .u8 0), (.int .u8 0), (.int .u8 0), (.int .u8 0), (.int .u8 0), (.int .u8 0), (.int .u8 0), (.int .u8 0), (.int .u8 0), (.int .u8 0), (.int .u8 0), (.int .u8 0), (.int .u8 0), (.int .i64 0), (.int .u64 0), (.int .u64 0), (.bool false), (.int .i64 0), (.int .i64 0)] h3
  have p4 : h4.n0 ≤ h3.next := by rw [o4.n0]; exact h3.n0_le_next
  obtain ⟨h5, e5, k5, g5, p5, n5⟩ := stored_all (n := 39) (k' := recC { RecD.z with kind := be (l.take 1) }) g4 p4 rfl (rec_cells wk).1 (rec_cells wk).2.2
  have o35 : Old h3 h5 := Old.of_new o4 k5 (Nat.le_refl _)
  have O5 := O3.trans o35
  have R5 := R3.keepB o35 (fun _ _ h => h)
  obtain ⟨a6, c6, h6, e6, s6, _, R6, k6, _⟩ := r94 R5 (n := 32) (by rw [List.length_drop]; omega)
  have e6 : CW 94 [ptr r 0, .int .i64 32] h5 = _ := e6
  have O6 : Old h1 h6 := O5.also k6 (fun d hd e => by omega)
  have hD : r < h3.next := by omega
  have g6 : h6.get h3.next = some (recC { RecD.z with kind := be (l.take 1) }) := k6.getE g5 (by omega)
  have p6 : h6.n0 ≤ h3.next := by rw [k6.n0]; exact p5
  obtain ⟨h7, e7, k7, g7, n7⟩ := copy_mid (A := [.int .u8 ((be (l.take 1) : Nat) : Int)]) (B := u8s z32) (C := [.int .i64 0, .int .u64 0, .int .u64 0, .bool false, .int .i64 0, .int .i64 0]) (off := 1) (n := 32) (dc := 32) (c := c6) (s := none) g6 p6 rfl rfl s6 (by decide)
  have kD : ∀ {b : Nat}, b = r ∨ (h1.next ≤ b ∧ b < r) → ¬ b = h3.next := fun hb e => by omega
  have R7 := R6.keepB k7 (fun b hb e => kD hb e)
  have O7 : Old h1 h7 := O6.also k7 (fun d hd e => by have := O3.next; omega)
  have p7 : h7.n0 ≤ h3.next := by rw [k7.n0]; exact p6
  have g7 : h7.get h3.next = some (recC { RecD.z with kind := be (l.take 1), obj := (l.drop 1).take 32 }) := g7
  rw [List.drop_drop] at R7
  have hobj : ((l.drop 1).take 32).length = 32 := by rw [List.length_take, List.length_drop]; omega
  obtain ⟨h8, e8, K8⟩ := r93 R7 (by rw [List.length_drop]; omega)
  have R8 := K8.rd
  rw [List.drop_drop] at R8
  have O8 : Old h1 h8 := O7.also K8.kept (fun d hd e => by omega)
  have g8 := K8.kept.getE g7 (by omega)
  have p8 : h8.n0 ≤ h3.next := by rw [K8.kept.n0]; exact p7
  obtain ⟨h9, e9, K9⟩ := r95 R8 (by rw [List.length_drop]; omega)
  have R9 := K9.rd
  rw [List.drop_drop] at R9
  have O9 : Old h1 h9 := O8.also K9.kept (fun d hd e => by omega)
  have g9 := K9.kept.getE g8 (by omega)
  have p9 : h9.n0 ≤ h3.next := by rw [K9.kept.n0]; exact p8
  obtain ⟨h10, e10, K10⟩ := r95 R9 (by rw [List.length_drop]; omega)
  have R10 := K10.rd
  rw [List.drop_drop] at R10
  have O10 : Old h1 h10 := O9.also K10.kept (fun d hd e => by omega)
  have g10 := K10.kept.getE g9 (by omega)
  have p10 : h10.n0 ≤ h3.next := by rw [K10.kept.n0]; exact p9
  obtain ⟨h11, e11, k11, g11, p11, _⟩ := stored (v := .int .i64 ((be ((l.drop 33).take 1) : Nat) : Int)) (o := 33) g10 p10 (by rw [recC_len hobj]; decide) rfl rfl
  rw [rset33 hobj] at g11
  have R11 := R10.keepB k11 (fun b hb e => kD hb e)
  have O11 : Old h1 h11 := O10.also k11 (fun d hd e => by have := O3.next; omega)
  obtain ⟨h12, e12, k12, g12, p12, _⟩ := stored (v := .int .u64 ((be ((l.drop 34).take 8) : Nat) : Int)) (o := 34) g11 p11 (by rw [recC_len hobj]; decide) rfl rfl
  rw [rset34 hobj] at g12
  have R12 := R11.keepB k12 (fun b hb e => kD hb e)
  have O12 : Old h1 h12 := O11.also k12 (fun d hd e => by have := O3.next; omega)
  obtain ⟨h13, e13, k13, g13, p13, _⟩ := stored (v := .int .u64 ((be ((l.drop 42).take 8) : Nat) : Int)) (o := 35) g12 p12 (by rw [recC_len hobj]; decide) rfl rfl
  rw [rset35 hobj] at g13
  have R13 := R12.keepB k13 (fun b hb e => kD hb e)
  have O13 : Old h1 h13 := O12.also k13 (fun d hd e => by have := O3.next; omega)
  obtain ⟨h14, e14, K14⟩ := r93 R13 (by rw [List.length_drop]; omega)
  have R14 := K14.rd
  rw [List.drop_drop] at R14
  have O14 : Old h1 h14 := O13.also K14.kept (fun d hd e => by omega)
  have g14 := K14.kept.getE g13 (by omega)
  have p14 : h14.n0 ≤ h3.next := by rw [K14.kept.n0]; exact p13
  obtain ⟨h15, e15, K15⟩ := r93 R14 (by rw [List.length_drop]; omega)
  have R15 := K15.rd
  rw [List.drop_drop] at R15
  have O15 : Old h1 h15 := O14.also K15.kept (fun d hd e => by omega)
  have g15 := K15.kept.getE g14 (by omega)
  have p15 : h15.n0 ≤ h3.next := by rw [K15.kept.n0]; exact p14
  obtain ⟨h16, e16, K16⟩ := r93 R15 (by rw [List.length_drop]; omega)
  have R16 := K16.rd
  rw [List.drop_drop] at R16
  have O16 : Old h1 h16 := O15.also K16.kept (fun d hd e => by omega)
  have g16 := K16.kept.getE g15 (by omega)
  have p16 : h16.n0 ≤ h3.next := by rw [K16.kept.n0]; exact p15
  obtain ⟨h17, e17, k17, g17, p17, _⟩ := stored (v := .bool (be ((l.drop 50).take 1) == 1)) (o := 36) g16 p16 (by rw [recC_len hobj]; decide) rfl rfl
  rw [rset36 hobj] at g17
  have R17 := R16.keepB k17 (fun b hb e => kD hb e)
  have O17 : Old h1 h17 := O16.also k17 (fun d hd e => by have := O3.next; omega)
  obtain ⟨h18, e18, k18, g18, p18, _⟩ := stored (v := .int .i64 ((be ((l.drop 51).take 1) : Nat) : Int)) (o := 37) g17 p17 (by rw [recC_len hobj]; decide) rfl rfl
  rw [rset37 hobj] at g18
  have R18 := R17.keepB k18 (fun b hb e => kD hb e)
  have O18 : Old h1 h18 := O17.also k18 (fun d hd e => by have := O3.next; omega)
  obtain ⟨h19, e19, k19, g19, p19, _⟩ := stored (v := .int .i64 ((be ((l.drop 52).take 1) : Nat) : Int)) (o := 38) g18 p18 (by rw [recC_len hobj]; decide) rfl rfl
  rw [rset38 hobj] at g19
  have R19 := R18.keepB k19 (fun b hb e => kD hb e)
  have O19 : Old h1 h19 := O18.also k19 (fun d hd e => by have := O3.next; omega)
  have g19 : h19.get h3.next = some (recC (decRx l)) := g19
  have wx := decRx_wf h53 hby
  have l19 : ldN 39 (ptr h3.next 0) h19 = some (.agg (recC (decRx l)).toArray, h19) := ldN_all g19 (rec_cells wx).1 (rec_cells wx).2.1
  have w1 : ∀ j, IntKind.wrap .i64 ((be ((l.drop j).take 1) : Nat) : Int) = ((be ((l.drop j).take 1) : Nat) : Int) := fun j => by
    have := be1_lt hby j
    exact wrap_i64 (by omega) (by omega)
  have w33 := w1 33
  have w51 := w1 51
  have w52 := w1 52
  have hheld : ((((be ((l.drop 50).take 1) : Nat) : Int)) == 1) = (be ((l.drop 50).take 1) == 1) := by
    by_cases e : be ((l.drop 50).take 1) = 1
    · rw [e]; rfl
    · rw [beq_eq_false_iff_ne.2 e, beq_eq_false_iff_ne.2 (by omega)]
  have g1' := Old.get O19 g1
  by_cases c3 : 1 < be ((l.drop 50).take 1)
  · rw [if_pos c3]
    have q3 : bin Tryd.prog .gtr 5 (.int .u8 ((be ((l.drop 50).take 1) : Nat) : Int)) (.int .u8 1) = some (.bool true) := by rw [bin_gtr, decide_eq_true (by omega)]
    obtain ⟨h20, e20, l20, o20⟩ := rec_end (o1.trans O19) (Nat.le_refl _) g1' rfl RecD.z_wf
    refine ⟨h20, CW_body is44 hG rfl ((t44_eq _ _ _).trans ?_), o20⟩
    unfold t44
    simp -implicitDefEqProofs only [z1, hln, q1, q2, e2, e3, bk, z4, e5, addP_ptr, Nat.zero_add, arr32, e6, e7, e8, e9, e10, e11, e12, e13, e14, e15, e16, e17, e18, e19, cvI_int, w33, w51, w52, bin_eql, hheld, thenV_some, pu_some, q3, bz, e20]
    exact res_cell_tmp results44 agg61 siz61 (show 2 < 58 by decide) (show 3 < 58 by decide) _ l20
  rw [if_neg c3]
  have q3 : bin Tryd.prog .gtr 5 (.int .u8 ((be ((l.drop 50).take 1) : Nat) : Int)) (.int .u8 1) = some (.bool false) := by rw [bin_gtr, decide_eq_false (by omega)]
  obtain ⟨h20, e20, o20⟩ := r42 (h := h19) R19.g4 wx
  have O20 := o1.trans (O19.trans o20)
  have g1'' := Old.get o20 g1'
  cases c4 : recB (decRx l) with
  | false =>
    rw [c4] at e20
    obtain ⟨h21, e21, l21, o21⟩ := rec_end O20 (Nat.le_refl _) g1'' rfl RecD.z_wf
    refine ⟨h21, CW_body is44 hG rfl ((t44_eq _ _ _).trans ?_), o21⟩
    unfold t44
    simp -implicitDefEqProofs only [z1, hln, q1, q2, e2, e3, bk, z4, e5, addP_ptr, Nat.zero_add, arr32, e6, e7, e8, e9, e10, e11, e12, e13, e14, e15, e16, e17, e18, e19, cvI_int, w33, w51, w52, bin_eql, hheld, thenV_some, pu_some, q3, l19, e20, unA_not, Bool.not_false, bz, e21]
    exact res_cell_tmp results44 agg61 siz61 (show 2 < 58 by decide) (show 3 < 58 by decide) _ l21
  | true =>
    rw [c4] at e20
    have l20 : ldN 39 (ptr h3.next 0) h20 = some (.agg (recC (decRx l)).toArray, h20) := ldN_all (Old.get o20 g19) (rec_cells wx).1 (rec_cells wx).2.1
    obtain ⟨h21, e21, l21, o21⟩ := rec_end O20 (Nat.le_refl _) g1'' rfl wx
    refine ⟨h21, CW_body is44 hG rfl ((t44_eq _ _ _).trans ?_), o21⟩
    unfold t44
    simp -implicitDefEqProofs only [z1, hln, q1, q2, e2, e3, bk, z4, e5, addP_ptr, Nat.zero_add, arr32, e6, e7, e8, e9, e10, e11, e12, e13, e14, e15, e16, e17, e18, e19, cvI_int, w33, w51, w52, bin_eql, hheld, thenV_some, pu_some, q3, l19, e20, unA_not, Bool.not_true, l20, e21]
    exact res_cell_tmp results44 agg61 siz61 (show 2 < 58 by decide) (show 3 < 58 by decide) _ l21
end Go.Proofs.YtdnahgfgoajmcaaDoor

namespace Go.Proofs.YtdnahgfgoajmcaaDoor
open Go Go.Abs
attribute [local congr] thenV_congr
def strOf (l : List Nat) : ByteArray := ⟨(l.map UInt8.ofNat).toArray⟩
def u8v (n : Nat) : Value := .int .u8 (n : Int)
theorem mapM_asByte : ∀ {l : List Nat}, (l.map u8v).mapM asByte = some (l.map UInt8.ofNat)
  | [] => rfl
  | n :: l => by
    have ih := mapM_asByte (l := l)
    rw [List.map_cons, List.mapM_cons, ih]
    rfl
end Go.Proofs.YtdnahgfgoajmcaaDoor

namespace Go.Proofs.YtdnahgfgoajmcaaDoor
open Go Go.Abs
section
theorem cvBS_at {a : Option Addr} {n c : Nat} {h : Heap} {l : List Nat} (e : sliceBytes a n h = some l) : cvBS (.slice a n c) h = some (.string (strOf l), h) := by
  have hl := (sliceBytes_spec e).1
  have hf := firstA_of e (Nat.le_refl n) (c := c)
  rw [List.take_of_length_le (by omega)] at hf
  unfold cvBS bsR
  simp only [hf, show (l.map u8).mapM asByte = some (l.map UInt8.ofNat) from mapM_asByte]
  rfl
end
end Go.Proofs.YtdnahgfgoajmcaaDoor

namespace Go.Proofs.YtdnahgfgoajmcaaDoor
open Go Go.Abs
attribute [local congr] thenV_congr
theorem encRec_len {r : RecD} (w : r.Wf) : (encRec r).length = 53 := by unfold encRec; simp only [List.length_append, beB_length, w.obj.1]
end Go.Proofs.YtdnahgfgoajmcaaDoor

namespace Go.Proofs.YtdnahgfgoajmcaaDoor
open Go Go.Abs
theorem be_cons (x : Nat) : ∀ l : List Nat, be (x :: l) = x * 256 ^ l.length + be l := by
  have key : ∀ (l : List Nat) (a : Nat), l.foldl (fun v x => v * 256 + x) a = a * 256 ^ l.length + be l := by
    intro l
    induction l with
    | nil => intro a; simp [be]
    | cons y l ih =>
      intro a
      have e1 : be (y :: l) = l.foldl (fun v x => v * 256 + x) (0 * 256 + y) := rfl
      rw [List.foldl_cons, ih, e1, ih, List.length_cons, Nat.pow_succ, Nat.add_mul, Nat.zero_mul, Nat.zero_add, Nat.mul_assoc, Nat.mul_comm 256, Nat.add_assoc]
  intro l
  have e1 : be (x :: l) = l.foldl (fun v x => v * 256 + x) (0 * 256 + x) := rfl
  rw [e1, key, Nat.zero_mul, Nat.zero_add]
theorem be_beB : ∀ n v, be (beB n v) = v % 256 ^ n
  | 0, v => by simp [beB, be, Nat.mod_one]
  | n + 1, v => by
    rw [beB, be_cons, beB_length, be_beB n v, Nat.mod_pow_succ, Nat.mul_comm, Nat.add_comm]
theorem be_beB_lt {n v : Nat} (h : v < 256 ^ n) : be (beB n v) = v := by rw [be_beB, Nat.mod_eq_of_lt h]
theorem beB_add (x m v : Nat) : ∀ n, n ≤ m → beB n (x * 256 ^ m + v) = beB n v
  | 0, _ => rfl
  | n + 1, h => by
    rw [beB, beB, beB_add x m v n (by omega)]
    congr 1
    obtain ⟨d, rfl⟩ : ∃ d, m = n + 1 + d := ⟨m - (n + 1), by omega⟩
    rw [Nat.pow_add, Nat.pow_succ, show x * (256 ^ n * 256 * 256 ^ d) = 256 ^ n * (256 * (x * 256 ^ d)) by
      rw [Nat.mul_assoc (256 ^ n), Nat.mul_left_comm x, Nat.mul_left_comm x], Nat.mul_add_div (Nat.pow_pos (by decide)), Nat.mul_add_mod]
theorem beB_be : ∀ (l : List Nat), Bys l → beB l.length (be l) = l
  | [], _ => rfl
  | x :: l, hb => by
    have hx := hb x List.mem_cons_self
    have hl : Bys l := fun y hy => hb y (List.mem_cons_of_mem _ hy)
    have h1 : be l < 256 ^ l.length := be_lt _ l rfl hl
    rw [List.length_cons, beB, be_cons, beB_add _ _ _ _ (Nat.le_refl _), beB_be l hl]
    congr 1
    rw [Nat.mul_comm, Nat.mul_add_div (Nat.pow_pos (by decide)), Nat.div_eq_of_lt h1]
    omega
theorem Bys.take {l : List Nat} (h : Bys l) (n : Nat) : Bys (l.take n) := fun x hx => h x (List.mem_of_mem_take hx)
theorem Bys.drop {l : List Nat} (h : Bys l) (n : Nat) : Bys (l.drop n) := fun x hx => h x (List.mem_of_mem_drop hx)
theorem bit_lt (b : Bool) : bit b < 2 := by cases b <;> decide
theorem be_field {A F X : List Nat} {n m : Nat} (hA : A.length = n) (hF : F.length = m) : ((A ++ (F ++ X)).drop n).take m = F := by
  rw [List.drop_left' hA, List.take_left' hF]
theorem be_last {A F : List Nat} {n m : Nat} (hA : A.length = n) (hF : F.length = m) : ((A ++ F).drop n).take m = F := by
  rw [List.drop_left' hA, List.take_of_length_le (by omega)]
/-- The parts of a record's bytes. -/
theorem encRec_at {r : RecD} (w : r.Wf) : (encRec r).take 1 = beB 1 r.kind ∧ ((encRec r).drop 1).take 32 = r.obj ∧ ((encRec r).drop 33).take 1 = beB 1 (i8 r.holder) ∧ ((encRec r).drop 34).take 8 = beB 8 r.inc ∧ ((encRec r).drop 42).take 8 = beB 8 r.num ∧ ((encRec r).drop 50).take 1 = beB 1 (bit r.held) ∧ ((encRec r).drop 51).take 1 = beB 1 (i8 r.k) ∧ ((encRec r).drop 52).take 1 = beB 1 (i8 r.n) := by
  unfold encRec
  have ho := w.obj.1
  refine ⟨List.take_left' (beB_length ..), be_field (beB_length ..) ho, ?_, ?_, ?_, ?_, ?_, ?_⟩
  · rw [← List.append_assoc]; exact be_field (by simp only [List.length_append, beB_length, ho]) (beB_length ..)
  · rw [← List.append_assoc, ← List.append_assoc]; exact be_field (by simp only [List.length_append, beB_length, ho]) (beB_length ..)
  · rw [← List.append_assoc, ← List.append_assoc, ← List.append_assoc]; exact be_field (by simp only [List.length_append, beB_length, ho]) (beB_length ..)
  · rw [← List.append_assoc, ← List.append_assoc, ← List.append_assoc, ← List.append_assoc]; exact be_field (by simp only [List.length_append, beB_length, ho]) (beB_length ..)
  · rw [← List.append_assoc, ← List.append_assoc, ← List.append_assoc, ← List.append_assoc, ← List.append_assoc]; exact be_field (by simp only [List.length_append, beB_length, ho]) (beB_length ..)
  · rw [← List.append_assoc, ← List.append_assoc, ← List.append_assoc, ← List.append_assoc, ← List.append_assoc, ← List.append_assoc]; exact be_last (by simp only [List.length_append, beB_length, ho]) (beB_length ..)
theorem i8_of {x : Int} (h0 : 0 ≤ x) (h1 : x ≤ 255) : (i8 x : Int) = x := by unfold i8; omega
theorem i8_nat {n : Nat} (h : n < 256) : i8 (n : Int) = n := by unfold i8; omega
/-- What a valid record's numbers are. -/
theorem rec_small {r : RecD} (v : recB r = true) : 0 ≤ r.holder ∧ r.holder ≤ 15 ∧ 0 ≤ r.k ∧ r.k ≤ 255 ∧ 0 ≤ r.n ∧ r.n ≤ 255 := by
  have hh : holderB r = true → 0 ≤ r.holder ∧ r.holder ≤ 15 := fun h => by
    unfold holderB at h
    simp only [Bool.and_eq_true, decide_eq_true_eq] at h
    omega
  unfold recB at v
  split at v
  · rw [Bool.and_eq_true, decide_eq_true_eq] at v
    obtain ⟨e, h⟩ := v
    have h := hh h
    rw [e]
    exact ⟨h.1, h.2, show (0 : Int) ≤ 0 by decide, show (0 : Int) ≤ 255 by decide, show (0 : Int) ≤ 0 by decide, show (0 : Int) ≤ 255 by decide⟩
  split at v
  · rw [decide_eq_true_eq] at v
    rw [v]
    exact ⟨show (0 : Int) ≤ 0 by decide, show (0 : Int) ≤ 15 by decide, show (0 : Int) ≤ 0 by decide, show (0 : Int) ≤ 255 by decide, show (0 : Int) ≤ 0 by decide, show (0 : Int) ≤ 255 by decide⟩
  split at v
  · unfold pieceB at v
    simp only [Bool.and_eq_true, decide_eq_true_eq] at v
    have h := hh v.1.1.1.1
    omega
  · cases v
theorem decR_enc {r : RecD} (w : r.Wf) (v : recB r = true) : decR (encRec r) = (r, 0) := by
  obtain ⟨a1, a2, a3, a4, a5, a6, a7, a8⟩ := encRec_at w
  have hl := encRec_len w
  obtain ⟨b1, b2, b3, b4, b5, b6⟩ := rec_small v
  have hx : decRx (encRec r) = r := by
    unfold decRx
    rw [a1, a2, a3, a4, a5, a6, a7, a8, be_beB_lt (by have := w.kind; omega), be_beB_lt (by have := i8_lt r.holder; omega), be_beB_lt (by have := w.inc; omega), be_beB_lt (by have := w.num; omega), be_beB_lt (by have := bit_lt r.held; omega), be_beB_lt (by have := i8_lt r.k; omega), be_beB_lt (by have := i8_lt r.n; omega), i8_of b1 (by omega), i8_of b3 b4, i8_of b5 b6]
    cases r with
    | mk a b c d e f g h => cases f <;> rfl
  unfold decR
  rw [if_neg (by omega), if_neg (by omega), a6, be_beB_lt (by have := bit_lt r.held; omega), if_neg (by have := bit_lt r.held; omega), hx, if_pos v]
end Go.Proofs.YtdnahgfgoajmcaaDoor

namespace Go.Proofs.YtdnahgfgoajmcaaDoor
open Go Go.Abs
theorem beB_of {n : Nat} {l : List Nat} (hl : l.length = n) (hb : Bys l) : beB n (be l) = l := by rw [← hl, beB_be l hb]
theorem glue (l : List Nat) (a b : Nat) : (l.drop a).take b ++ l.drop (a + b) = l.drop a := by rw [← List.drop_drop, List.take_append_drop]
theorem be_part {l : List Nat} (hb : Bys l) {a b : Nat} (h : a + b ≤ l.length) : beB b (be ((l.drop a).take b)) = (l.drop a).take b := beB_of (by rw [List.length_take, List.length_drop]; omega) ((hb.drop a).take b)
theorem encR_dec {l : List Nat} (hb : Bys l) (h : (decR l).2 = 0) : encRec (decR l).1 = l := by
  unfold decR at h ⊢
  split at h
  · cases h
  split at h
  · cases h
  split at h
  · cases h
  split at h
  · rename_i c1 c2 c3 c4
    rw [if_neg c1, if_neg c2, if_neg c3, if_pos c4]
    have hl : l.length = 53 := by omega
    unfold encRec decRx
    have p0 := be_part hb (a := 0) (b := 1) (by omega)
    rw [List.drop_zero] at p0
    have i1 : i8 ((be ((l.drop 33).take 1) : Nat) : Int) = be ((l.drop 33).take 1) := i8_nat (be1_lt hb 33)
    have i2 : i8 ((be ((l.drop 51).take 1) : Nat) : Int) = be ((l.drop 51).take 1) := i8_nat (be1_lt hb 51)
    have i3 : i8 ((be ((l.drop 52).take 1) : Nat) : Int) = be ((l.drop 52).take 1) := i8_nat (be1_lt hb 52)
    have i4 : bit (be ((l.drop 50).take 1) == 1) = be ((l.drop 50).take 1) := by
      generalize be ((l.drop 50).take 1) = x at c3 ⊢
      have : x = 0 ∨ x = 1 := by omega
      rcases this with rfl | rfl <;> rfl
    simp only
    rw [i1, i2, i3, i4, p0, be_part hb (by omega), be_part hb (by omega), be_part hb (by omega), be_part hb (by omega), be_part hb (by omega), be_part hb (by omega)]
    rw [show (l.drop 52).take 1 = l.drop 52 by rw [List.take_of_length_le (by rw [List.length_drop]; omega)], glue l 51 1, glue l 50 1, glue l 42 8, glue l 34 8, glue l 33 1, glue l 1 32, List.take_append_drop]
  · cases h
end Go.Proofs.YtdnahgfgoajmcaaDoor

namespace Go.Proofs.YtdnahgfgoajmcaaDoor
open Go Go.Abs
attribute [local congr] thenV_congr
end Go.Proofs.YtdnahgfgoajmcaaDoor

namespace Go.Proofs.YtdnahgfgoajmcaaDoor
open Go Go.Abs
attribute [local congr] thenV_congr
theorem str_self (a : ByteArray) : bin Tryd.prog .eql 9 (.string a) (.string a) = some (.bool true) := by
  unfold bin eqOk
  simp only [if_true]
  unfold binA
  simp only [ground, flat, Bool.and_self, if_true]
  have e : (binOp .eql 9 (.string a) (.string a)) = pure (.bool (a.toList == a.toList)) := rfl
  rw [e, beq_self_eq_true]
  rfl
end Go.Proofs.YtdnahgfgoajmcaaDoor

namespace Go.Proofs.YtdnahgfgoajmcaaDoor
open Go Go.Abs
attribute [local congr] thenV_congr
theorem is9 : IsFn Tryd.prog 9 Tryd.f9 := ⟨by kernel_rfl, by kernel_rfl, by kernel_rfl, by kernel_rfl⟩
/-- The half that decodes bytes. -/
noncomputable def e9 (x1 : Value) (h : Heap) : Out :=
  thenV (bslR 1 (.int .u8 0) 0 [] h) fun y46 h =>
  thenV (some (x1, h)) fun y47 h =>
  thenV (appendA 1 1 y46 y47 h) fun y48 h =>
  thenV (CW 44 [y48] h) fun y49 h =>
  thenV (some (y49, h)) fun y45 h =>
  thenV (pu (extractA y45 0) h) fun y50 h =>
  thenV (pu (extractA y45 1) h) fun y51 h =>
  thenV (newC [(.int .u8 0), (.int .u8 0), (.int .u8 0), (.int .u8 0), (.int .u8 0), (.int .u8 0), (.int .u8 0), (.int .u8 0), (.int .u8 0), (.int .u8 0), (.int .u8 0), (.int .u8 0), (.int .u8 0), (.int .u8 0), (.int .u8 0), (.int .u8 0), (.int .u8 0), (.int .u8 0), (.int .u8 0), (.int .u8 0), (.int .u8 0), (.int .u8 0), (.int .u8 0), (.int .u8 0), (.int .u8 0), (.int .u8 0), (.int .u8 0), (.int .u8 0), (.int .u8 0), (.int .u8 0), (.int .u8 0), (.int .u8 0), (.int .u8 0), (.int .i64 0), (.int .u64 0), (.int .u64 0), (.bool false), (.int .i64 0), (.int .i64 0)] h) fun y9 h =>
  thenV (stN 39 y9 y50 h) fun _ h =>
  thenV (some (y51, h)) fun y10 h =>
  thenV (some (y10, h)) fun y52 h =>
  thenV (pu (bin Tryd.prog .neq 26 y52 (.int .i64 0)) h) fun y53 h =>
  (match y53 with
  | .bool true =>
  thenV (CW 14 [] h) fun y54 h =>
  thenV (some (y54, h)) fun y4_1 h =>
  some (y4_1, h)
  | .bool false =>
  thenV (ldN 39 y9 h) fun y56 h =>
  thenV (CW 43 [y56] h) fun y57 h =>
  thenV (some (y57, h)) fun y55 h =>
  thenV (pu (extractA y55 0) h) fun y58 h =>
  thenV (pu (extractA y55 1) h) fun y59 h =>
  thenV (some (y58, h)) fun y11 h =>
  thenV (some (y59, h)) fun y12 h =>
  thenV (ldN 39 y9 h) fun y60 h =>
  thenV (CW 42 [y60] h) fun y61 h =>
  thenV (some (y61, h)) fun y62 h =>
  thenV (guardK (bOf y62 == some true) (some (y12, h)) h) fun y63 h =>
  thenV (guardK (bOf y62 == some true) (pu (bin Tryd.prog .eql 26 y63 (.int .i64 0)) h) h) fun y64 h =>
  thenV (match y62 with | .bool t => some (if t then y64 else (.bool false), h) | _ => none) fun y65 h =>
  thenV (some (y65, h)) fun y66 h =>
  thenV (guardK (bOf y66 == some true) (some (y11, h)) h) fun y67 h =>
  thenV (guardK (bOf y66 == some true) (cvBS y67 h) h) fun y68 h =>
  thenV (guardK (bOf y66 == some true) (some (x1, h)) h) fun y69 h =>
  thenV (guardK (bOf y66 == some true) (cvBS y69 h) h) fun y70 h =>
  thenV (guardK (bOf y66 == some true) (pu (bin Tryd.prog .eql 9 y68 y70) h) h) fun y71 h =>
  thenV (match y66 with | .bool t => some (if t then y71 else (.bool false), h) | _ => none) fun y72 h =>
  thenV (some (y72, h)) fun y73 h =>
  thenV (guardK (bOf y73 == some true) (CW 14 [] h) h) fun y74 h =>
  thenV (match y73 with | .bool t => some (if t then y74 else (.bool false), h) | _ => none) fun y75 h =>
  thenV (some (y75, h)) fun y4_1 h =>
  some (y4_1, h)
  | _ => none)
/-- The cells of a record that is zero. -/
abbrev zrC : List Value := [(.int .u8 0), (.int .u8 0), (.int .u8 0), (.int .u8 0), (.int .u8 0), (.int .u8 0), (.int .u8 0), (.int .u8 0), (.int .u8 0), (.int .u8 0), (.int .u8 0), (.int .u8 0), (.int .u8 0), (.int .u8 0), (.int .u8 0), (.int .u8 0), (.int .u8 0), (.int .u8 0), (.int .u8 0), (.int .u8 0), (.int .u8 0), (.int .u8 0), (.int .u8 0), (.int .u8 0), (.int .u8 0), (.int .u8 0), (.int .u8 0), (.int .u8 0), (.int .u8 0), (.int .u8 0), (.int .u8 0), (.int .u8 0), (.int .u8 0), (.int .i64 0), (.int .u64 0), (.int .u64 0), (.bool false), (.int .i64 0), (.int .i64 0)]
theorem decR_ok {l : List Nat} (hb : Bys l) (h : (decR l).2 = 0) : (decR l).1.Wf ∧ recB (decR l).1 = true := by
  unfold decR at h ⊢
  split at h
  · cases h
  split at h
  · cases h
  split at h
  · cases h
  split at h
  · rename_i c1 c2 c3 c4
    rw [if_neg c1, if_neg c2, if_neg c3, if_pos c4]
    exact ⟨decRx_wf (by omega) hb, c4⟩
  · cases h
theorem neq_rec {a : RecD} (wa : a.Wf) : bin Tryd.prog .neq 58 (.agg (recC a).toArray) (.agg (recC a).toArray) = some (.bool false) := by
  obtain ⟨r, h1, _, h3⟩ := eq58 _ _ (rec_typed wa) (rec_typed wa)
  rw [h1.2 rfl] at h3
  exact h3
set_option maxRecDepth 100000 in
theorem e9_at {g : Heap} (hG : 4 ≤ g.n0) (hz : g.get 3 = some roundsL) {a : Option Addr} {n c : Nat} {m : List Nat} (hm : sliceBytes a n g = some m) (hn : n ≤ 200) : ∃ h', e9 (.slice a n c) g = some (.bool true, h') := by
  obtain ⟨_, hby, _⟩ := sliceBytes_spec hm
  have E1 := bsl_bytes g
  have o1 : Old g (g.alloc []) := Kept.alloc _ _ _
  obtain ⟨b, s, c', g2, e2, sl2, _, _, n2, x2, k2⟩ := append_fresh (g := g.alloc []) (E := g.next) (c := c) (by rw [o1.n0]; exact g.n0_le_next) (Old.bytes o1 hm) (show n ≤ 21000 by omega)
  have o2 : Old (g.alloc []) g2 := ⟨n2, x2, fun e he _ => k2 e he⟩
  have O2 := o1.trans o2
  obtain ⟨g3, e3, o3⟩ := q44 (h := g2) (c := c') (by rw [O2.n0]; exact hG) sl2 (by omega)
  have O3 := O2.trans o3
  obtain ⟨g4, z4, o4, G4, n4⟩ := fresh zrC g3
  have W : (decR m).1.Wf := by
    by_cases he : (decR m).2 = 0
    · exact (decR_ok hby he).1
    · unfold decR at he ⊢
      split
      · exact RecD.z_wf
      split
      · exact RecD.z_wf
      split
      · exact RecD.z_wf
      split
      · rename_i c1 c2 c3 c4
        exact decRx_wf (by omega) hby
      · exact RecD.z_wf
  have hn4 : g4.n0 ≤ g3.next := by rw [o4.n0]; exact g3.n0_le_next
  obtain ⟨g5, e5, k5, G5, _, _⟩ := stored_all (n := 39) G4 hn4 rfl (rec_cells W).1 (rec_cells W).2.2
  have o5 : Old g3 g5 := Old.of_new o4 k5 (Nat.le_refl _)
  have O5 := O3.trans o5
  have L5 := ldN_all G5 (rec_cells W).1 (rec_cells W).2.1
  by_cases he : (decR m).2 = 0
  · obtain ⟨_, hv⟩ := decR_ok hby he
    obtain ⟨a6, c6, g6, e6, sl6, o6, _⟩ := r43 (h := g5) (by rw [O5.n0]; exact hG) W hv
    have G6 := o6.get G5
    have L6 := ldN_all G6 (rec_cells W).1 (rec_cells W).2.1
    obtain ⟨g7, e7, o7⟩ := r42 (h := g6) (by rw [o6.n0, O5.n0]; exact hG) W
    have O7 := (O5.trans o6).trans o7
    have c1 := cvBS_at (c := c6) (Old.bytes o7 sl6)
    have c2 := cvBS_at (c := c) (Old.bytes O7 hm)
    have k14 := r14 (Old.get O7 hz)
    have enc := encR_dec hby he
    rw [enc] at c1
    rw [hv] at e7
    refine ⟨g7, ?_⟩
    unfold e9
    have q1 : bin Tryd.prog .neq 26 (.int .i64 0) (.int .i64 0) = some (.bool false) := by kernel_rfl
    have q2 : bin Tryd.prog .eql 26 (.int .i64 0) (.int .i64 0) = some (.bool true) := by kernel_rfl
    rw [he] at e3
    simp -implicitDefEqProofs only [E1, e2, e3, ext0, ext1, z4, e5, L5, e6, L6, e7, c1, c2, k14, q1, q2, str_self, thenV_some, pu_some, bOf_bool, fs, sf, beq_self_eq_true, guardK_true, guardK_false, Bool.false_eq_true, if_false, if_true, Bool.not_true, Bool.not_false, Bool.and_true, Bool.true_and, Bool.and_false, Bool.false_and, Bool.or_true, Bool.true_or, Bool.or_false, Bool.false_or]
  · have k14 := r14 (Old.get O5 hz)
    refine ⟨g5, ?_⟩
    unfold e9
    have q1 : bin Tryd.prog .neq 26 (.int .i64 (decR m).2) (.int .i64 0) = some (.bool true) := by
      rw [bin_neq]
      simpa using he
    simp -implicitDefEqProofs only [E1, e2, e3, ext0, ext1, z4, e5, k14, q1, thenV_some, pu_some, bOf_bool, fs, sf, beq_self_eq_true, guardK_true, guardK_false, Bool.false_eq_true, if_false, if_true, Bool.not_true, Bool.not_false, Bool.and_true, Bool.true_and, Bool.and_false, Bool.false_and, Bool.or_true, Bool.true_or, Bool.or_false, Bool.false_or]
set_option maxRecDepth 100000 in
theorem r9 {h : Heap} (hG : 4 ≤ h.n0) (hz : h.get 3 = some roundsL) {r : RecD} (w : r.Wf) {a : Option Addr} {n c : Nat} {m : List Nat} (hm : sliceBytes a n h = some m) : ∃ h', CW 9 [.agg (recC r).toArray, .slice a n c] h = some (.bool true, h') := by
  obtain ⟨h1, b1, o1, g1, n1⟩ := rec_box2 h w
  have hln : lenL (.slice a n c) = some (i64n n) := rfl
  by_cases hn : n ≤ 200
  · have q0 : bin Tryd.prog .gtr 3 (i64n n) (.int .i64 200) = some (.bool false) := by rw [bin_gtr, decide_eq_false (by omega)]
    have L1 := ldN_all g1 (rec_cells w).1 (rec_cells w).2.1
    obtain ⟨h2, e2, o2⟩ := r42 (h := h1) (by rw [o1.n0]; exact hG) w
    have O2 := o1.trans o2
    cases v : recB r with
    | false =>
      obtain ⟨h', e'⟩ := e9_at (g := h2) (c := c) (by rw [O2.n0]; exact hG) (Old.get O2 hz) (Old.bytes O2 hm) hn
      unfold e9 at e'
      rw [v] at e2
      refine ⟨h', CW_body is9 hG rfl ((t9_eq _ _ _ _).trans ?_)⟩
      unfold t9
      simp -implicitDefEqProofs only [b1, hln, q0, L1, e2, thenV_some, pu_some] at e' ⊢
      exact e'
    | true =>
      rw [v] at e2
      have L2 := ldN_all (o2.get g1) (rec_cells w).1 (rec_cells w).2.1
      obtain ⟨a3, c3, h3, e3, sl3, o3, _⟩ := r43 (h := h2) (by rw [O2.n0]; exact hG) w v
      have O3 := O2.trans o3
      obtain ⟨h4, e4, o4⟩ := q44 (h := h3) (c := c3) (by rw [O3.n0]; exact hG) sl3 (by omega)
      rw [decR_enc w v] at e4
      have O4 := O3.trans o4
      obtain ⟨h5, z5, o5, G5, n5⟩ := fresh zrC h4
      obtain ⟨h6, e6, k6, G6, _, _⟩ := stored_all (n := 39) G5 (by rw [o5.n0]; exact h4.n0_le_next) rfl (rec_cells w).1 (rec_cells w).2.2
      have o6 : Old h4 h6 := Old.of_new o5 k6 (Nat.le_refl _)
      have O6 := O4.trans o6
      have L6 := ldN_all G6 (rec_cells w).1 (rec_cells w).2.1
      have L6' := ldN_all (o6.get (o4.get (o3.get (o2.get g1)))) (rec_cells w).1 (rec_cells w).2.1
      obtain ⟨h', e'⟩ := e9_at (g := h6) (c := c) (by rw [O6.n0]; exact hG) (Old.get O6 hz) (Old.bytes O6 hm) hn
      have nr := neq_rec w
      have q1 : bin Tryd.prog .neq 26 (.int .i64 0) (.int .i64 0) = some (.bool false) := by kernel_rfl
      have q2 : bin Tryd.prog .neq 3 (.int .i64 ((53 : Nat) : Int)) (.int .i64 53) = some (.bool false) := by kernel_rfl
      have hl3 : lenL (.slice a3 53 c3) = some (.int .i64 ((53 : Nat) : Int)) := rfl
      unfold e9 at e'
      refine ⟨h', CW_body is9 hG rfl ((t9_eq _ _ _ _).trans ?_)⟩
      unfold t9
      simp -implicitDefEqProofs only [b1, hln, q0, L1, e2, L2, e3, ext0, ext1, e4, z5, e6, L6, L6', nr, q1, q2, hl3, thenV_some, pu_some, bOf_bool, fs, sf, beq_self_eq_true, guardK_true, guardK_false, Bool.false_eq_true, if_false, if_true, Bool.not_true, Bool.not_false, Bool.and_true, Bool.true_and, Bool.and_false, Bool.false_and, Bool.or_true, Bool.true_or, Bool.or_false, Bool.false_or] at e' ⊢
      exact e'
  · have q0 : bin Tryd.prog .gtr 3 (i64n n) (.int .i64 200) = some (.bool true) := by rw [bin_gtr, decide_eq_true (by omega)]
    have k14 := r14 (o1.get hz)
    refine ⟨h1, CW_body is9 hG rfl ((t9_eq _ _ _ _).trans ?_)⟩
    unfold t9
    simp -implicitDefEqProofs only [b1, hln, q0, k14, thenV_some, pu_some]
end Go.Proofs.YtdnahgfgoajmcaaDoor

namespace Go.Proofs.YtdnahgfgoajmcaaDoor
open Go Go.Abs
/-- Elements whose cells are of these kinds. -/
def TypedN (ks : List Kd) (n : Nat) (cs : List Value) : Prop := cs.length = n * ks.length ∧ ∀ i, i < n → Typed ks ((cs.drop (i * ks.length)).take ks.length)
end Go.Proofs.YtdnahgfgoajmcaaDoor

namespace Go.Proofs.YtdnahgfgoajmcaaDoor
open Go Go.Abs
/-- A slice of n elements with these cells. -/
def SlN (h : Heap) (ks : List Kd) (v : Value) (n : Nat) (cs : List Value) : Prop :=
  ∃ a c, v = .slice a n c ∧ (a = none → n = 0) ∧ TypedN ks n cs ∧ (0 < n → ∃ b off s k, a = some ⟨b, off, s⟩ ∧ h.get b = some k ∧ off + n * ks.length ≤ k.length ∧ (k.drop off).take (n * ks.length) = cs)
/-- The block that a slice leads to, if it has elements. -/
def slB : Value → Option Nat
  | .slice (some a) (_ + 1) _ => some a.block
  | _ => none
theorem mul_le {i n z : Nat} (hi : i < n) : i * z + z ≤ n * z := by
  have := Nat.mul_le_mul_right z (show i + 1 ≤ n by omega)
  rw [Nat.add_mul, Nat.one_mul] at this
  exact this
end Go.Proofs.YtdnahgfgoajmcaaDoor

