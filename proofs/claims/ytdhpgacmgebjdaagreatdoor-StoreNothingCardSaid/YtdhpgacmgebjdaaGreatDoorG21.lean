/-
  A nil store: what its methods answer; Open of a nil disk.
  Conditions: as each theorem states.
  Get of a nil store; a copy of a manifest and a piece; whether a script is heavy.
  Conditions: as each theorem states.
  A copy of a manifest and a piece; whether a script is heavy.
  Conditions: as each theorem states.
  Whether a script of one call is heavy.
  Conditions: the call's cells can be read.
  The law: a nil store refuses every call, Open refuses a nil disk.
  Conditions: the argument's cells can be read.
  A call as an argument.
  Conditions: the argument can be read as data.
-/
import Derived.Test.YtdhpgacmgebjdaaGreatDoorG20
namespace Go.Proofs.YtdhpgacmgebjdaaGreatDoor
open Go Go.Abs
attribute [local congr] thenV_congr
abbrev nilP : Value := .pointer none
theorem nil28 : bin Tryz.prog .eql 28 nilP nilP = some (.bool true) := by kernel_rfl
theorem nil24 : bin Tryz.prog .eql 24 nilP nilP = some (.bool true) := by kernel_rfl
theorem neq10 : bin Tryz.prog .neq 25 (.int .i64 1) (.int .i64 0) = some (.bool true) := by kernel_rfl
theorem neq11 : bin Tryz.prog .neq 25 (.int .i64 1) (.int .i64 1) = some (.bool false) := by kernel_rfl
theorem eql10 : bin Tryz.prog .eql 25 (.int .i64 1) (.int .i64 0) = some (.bool false) := by kernel_rfl
theorem bx {x : Value} (hx : oneCells x.cells.toList = true) (h : Heap) : box x h = some (ptr h.next 0, h.alloc x.cells.toList) := by
  unfold box
  rw [if_pos hx]
  rfl
theorem bt : (bOf (.bool true) == some true) = true := rfl
theorem bt' : (bOf (.bool true) == some false) = false := rfl
theorem bf : (bOf (.bool false) == some false) = true := rfl
theorem bf' : (bOf (.bool false) == some true) = false := rfl
theorem old_alloc (h : Heap) (k : Blk) : Old h (h.alloc k) := Kept.alloc _ _ _
theorem isn60 : IsFn Tryz.prog 60 Tryz.f60 := ⟨by kernel_rfl, by kernel_rfl, by kernel_rfl, by kernel_rfl⟩
theorem isn14 : IsFn Tryz.prog 14 Tryz.f14 := ⟨by kernel_rfl, by kernel_rfl, by kernel_rfl, by kernel_rfl⟩
theorem isn17 : IsFn Tryz.prog 17 Tryz.f17 := ⟨by kernel_rfl, by kernel_rfl, by kernel_rfl, by kernel_rfl⟩
theorem isn18 : IsFn Tryz.prog 18 Tryz.f18 := ⟨by kernel_rfl, by kernel_rfl, by kernel_rfl, by kernel_rfl⟩
theorem isn19 : IsFn Tryz.prog 19 Tryz.f19 := ⟨by kernel_rfl, by kernel_rfl, by kernel_rfl, by kernel_rfl⟩
theorem isn23 : IsFn Tryz.prog 23 Tryz.f23 := ⟨by kernel_rfl, by kernel_rfl, by kernel_rfl, by kernel_rfl⟩
theorem isn27 : IsFn Tryz.prog 27 Tryz.f27 := ⟨by kernel_rfl, by kernel_rfl, by kernel_rfl, by kernel_rfl⟩
theorem isn32 : IsFn Tryz.prog 32 Tryz.f32 := ⟨by kernel_rfl, by kernel_rfl, by kernel_rfl, by kernel_rfl⟩
theorem isn33 : IsFn Tryz.prog 33 Tryz.f33 := ⟨by kernel_rfl, by kernel_rfl, by kernel_rfl, by kernel_rfl⟩
theorem isn34 : IsFn Tryz.prog 34 Tryz.f34 := ⟨by kernel_rfl, by kernel_rfl, by kernel_rfl, by kernel_rfl⟩
theorem isn35 : IsFn Tryz.prog 35 Tryz.f35 := ⟨by kernel_rfl, by kernel_rfl, by kernel_rfl, by kernel_rfl⟩
theorem isn36 : IsFn Tryz.prog 36 Tryz.f36 := ⟨by kernel_rfl, by kernel_rfl, by kernel_rfl, by kernel_rfl⟩
theorem isn37 : IsFn Tryz.prog 37 Tryz.f37 := ⟨by kernel_rfl, by kernel_rfl, by kernel_rfl, by kernel_rfl⟩
theorem isn38 : IsFn Tryz.prog 38 Tryz.f38 := ⟨by kernel_rfl, by kernel_rfl, by kernel_rfl, by kernel_rfl⟩
theorem isn39 : IsFn Tryz.prog 39 Tryz.f39 := ⟨by kernel_rfl, by kernel_rfl, by kernel_rfl, by kernel_rfl⟩
theorem isn40 : IsFn Tryz.prog 40 Tryz.f40 := ⟨by kernel_rfl, by kernel_rfl, by kernel_rfl, by kernel_rfl⟩
theorem isn41 : IsFn Tryz.prog 41 Tryz.f41 := ⟨by kernel_rfl, by kernel_rfl, by kernel_rfl, by kernel_rfl⟩
section
variable {h : Heap} (hG : 3 ≤ h.n0)
include hG
theorem n60 : CW 60 [nilP] h = some (.int .i64 1, h) := by
  refine CW_body isn60 hG rfl ((t60_eq _ _ _).trans ?_)
  unfold t60
  simp -implicitDefEqProofs only [nil28, thenV_some, pu_some]
theorem n14 (x : Value) : CW 14 [nilP, x] h = some (.tuple #[nilP, .int .i64 1], h) := by
  refine CW_body isn14 hG rfl ((t14_eq _ _ _ _).trans ?_)
  unfold t14
  simp -implicitDefEqProofs only [nil24, thenV_some, pu_some]
theorem n27 : CW 27 [nilP] h = some (.int .u64 0, h) := by
  refine CW_body isn27 hG rfl ((t27_eq _ _ _).trans ?_)
  unfold t27
  simp -implicitDefEqProofs only [n60 hG, neq10, thenV_some, pu_some]
theorem n38 : CW 38 [nilP] h = some (.int .i64 0, h) := by
  refine CW_body isn38 hG rfl ((t38_eq _ _ _).trans ?_)
  unfold t38
  simp -implicitDefEqProofs only [n60 hG, neq10, thenV_some, pu_some]
theorem n36 : CW 36 [nilP] h = some (.int .i64 1, h) := by
  refine CW_body isn36 hG rfl ((t36_eq _ _ _).trans ?_)
  unfold t36
  simp -implicitDefEqProofs only [n60 hG, neq10, thenV_some, pu_some]
theorem n18 : CW 18 [nilP] h = some (.slice none 0 0, h) := by
  refine CW_body isn18 hG rfl ((t18_eq _ _ _).trans ?_)
  unfold t18
  simp -implicitDefEqProofs only [n60 hG, neq10, thenV_some, pu_some]
theorem n39 : CW 39 [nilP] h = some (.slice none 0 0, h) := by
  refine CW_body isn39 hG rfl ((t39_eq _ _ _).trans ?_)
  unfold t39
  simp -implicitDefEqProofs only [n60 hG, neq10, thenV_some, pu_some]
theorem n23 {x : Value} (hx : oneCells x.cells.toList = true) : CW 23 [nilP, x] h = some (.bool false, h.alloc x.cells.toList) := by
  refine CW_body isn23 hG rfl ((t23_eq _ _ _ _).trans ?_)
  unfold t23
  simp -implicitDefEqProofs only [bx hx, n60 (h := h.alloc x.cells.toList) hG, neq10, eql10, bOf, thenV_some, pu_some]
theorem n32 {x : Value} (hx : oneCells x.cells.toList = true) : CW 32 [nilP, x] h = some (.tuple #[.int .i64 0, .int .i64 0, .int .i64 1], h.alloc x.cells.toList) := by
  refine CW_body isn32 hG rfl ((t32_eq _ _ _ _).trans ?_)
  unfold t32
  simp -implicitDefEqProofs only [bx hx, n60 (h := h.alloc x.cells.toList) hG, neq10, eql10, bOf, thenV_some, pu_some]
theorem n33 {x : Value} (hx : oneCells x.cells.toList = true) : CW 33 [nilP, x] h = some (.int .i64 1, h.alloc x.cells.toList) := by
  refine CW_body isn33 hG rfl ((t33_eq _ _ _ _).trans ?_)
  unfold t33
  simp -implicitDefEqProofs only [bx hx, n60 (h := h.alloc x.cells.toList) hG, neq10, eql10, bOf, thenV_some, pu_some]
theorem n34 {x : Value} (hx : oneCells x.cells.toList = true) : CW 34 [nilP, x] h = some (.int .i64 1, h.alloc x.cells.toList) := by
  refine CW_body isn34 hG rfl ((t34_eq _ _ _ _).trans ?_)
  unfold t34
  simp -implicitDefEqProofs only [bx hx, n60 (h := h.alloc x.cells.toList) hG, neq10, eql10, bOf, thenV_some, pu_some]
theorem n35 {x : Value} (hx : oneCells x.cells.toList = true) : CW 35 [nilP, x] h = some (.int .i64 1, h.alloc x.cells.toList) := by
  refine CW_body isn35 hG rfl ((t35_eq _ _ _ _).trans ?_)
  unfold t35
  simp -implicitDefEqProofs only [bx hx, n60 (h := h.alloc x.cells.toList) hG, neq10, eql10, bOf, thenV_some, pu_some]
theorem n41 {x : Value} (hx : oneCells x.cells.toList = true) : CW 41 [nilP, x] h = some (.bool false, h.alloc x.cells.toList) := by
  refine CW_body isn41 hG rfl ((t41_eq _ _ _ _).trans ?_)
  unfold t41
  simp -implicitDefEqProofs only [bx hx, n60 (h := h.alloc x.cells.toList) hG, eql10, guardK_false, guardK_true, bt, bf, bf', if_true, if_false, Bool.false_eq_true, thenV_some, pu_some]
theorem n17 {x y : Value} (hx : oneCells x.cells.toList = true) (hy : oneCells y.cells.toList = true) : CW 17 [nilP, x, y] h = some (.int .i64 1, (h.alloc x.cells.toList).alloc y.cells.toList) := by
  refine CW_body isn17 hG rfl ((t17_eq _ _ _ _ _).trans ?_)
  unfold t17
  simp -implicitDefEqProofs only [bx hx, bx hy, n60 (h := (h.alloc x.cells.toList).alloc y.cells.toList) hG, neq10, thenV_some, pu_some]
theorem n40 (x : Value) : CW 40 [nilP, x] h = some (.slice none 0 0, h.alloc [nilP]) := by
  have b1 : box nilP h = some (ptr h.next 0, h.alloc [nilP]) := rfl
  have g1 : (h.alloc [nilP]).get h.next = some [nilP] := by rw [Heap.get_alloc, if_pos rfl]
  have l1 : ld1 (ptr h.next 0) (h.alloc [nilP]) = some (nilP, h.alloc [nilP]) := ld1_at g1 rfl
  refine CW_body isn40 hG rfl ((t40_eq _ _ _ _).trans ?_)
  unfold t40
  simp -implicitDefEqProofs only [b1, l1, n60 (h := h.alloc [nilP]) hG, neq10, thenV_some, pu_some]
end
section
variable {P : Program} {C : CallF} {a b : Code} {e e' : Env} {h h' : Heap}
theorem cSeq (x : codeA P C a e h = some (.normal, e', h')) : codeA P C (.seq a b) e h = codeA P C b e' h' := by
  show (match codeA P C a e h with | some (.normal, e', h') => codeA P C b e' h' | r => r) = _
  rw [x]
theorem cSeqX {ex : Ex} (x : codeA P C a e h = some (ex, e', h')) (hx : ex ≠ .normal) : codeA P C (.seq a b) e h = some (ex, e', h') := by
  show (match codeA P C a e h with | some (.normal, e', h') => codeA P C b e' h' | r => r) = _
  rw [x]
  cases ex with
  | normal => exact absurd rfl hx
  | ret => rfl
  | exit i => rfl
end
theorem bod37 : Tryz.f37.body = some (.seq (partOf Tryz.f37 [0]) (.seq (partOf Tryz.f37 [1, 0]) (partOf Tryz.f37 [1, 1]))) := by kernel_rfl
theorem env37 (a : Value) : ([a] ++ List.replicate (Tryz.f37.ntmps - [a].length) undef : Env) = mkF 24 (bs [a]) := by kernel_rfl
theorem res37 : Tryz.f37.results.toList = [.tmp 2] := by kernel_rfl
theorem n37 {h : Heap} (hG : 3 ≤ h.n0) : CW 37 [nilP] h = some (.int .i64 0, h) := by
  refine CW_body isn37 hG rfl ?_
  have e0 : ∃ y, t37p37_0 CW (bs [nilP]) h = some (.normal, mkF 24 y, h) ∧ y 0 = nilP := by
    unfold t37p37_0
    simp -implicitDefEqProofs only [thenV_some]
    exact ⟨_, rfl, rfl⟩
  obtain ⟨y, e0, y0⟩ := e0
  have e1 : ∃ z, t37p37_10 CW y h = some (.ret, mkF 24 z, h) ∧ z 2 = .int .i64 0 := by
    unfold t37p37_10
    simp -implicitDefEqProofs only [y0, n60 hG, neq10, thenV_some, pu_some]
    exact ⟨_, rfl, rfl⟩
  obtain ⟨z, e1, z2⟩ := e1
  rw [bodyK_eq]
  unfold bodyA
  rw [bod37]
  simp only [env37]
  rw [cSeq ((t37p37_0_eq _ _ _).trans e0), cSeqX ((t37p37_10_eq _ _ _).trans e1) (fun h => by cases h)]
  simp only
  rw [res_one res37 (by decide), z2]
/-- The zeros of a manifest and of a piece. -/
abbrev zM : List Value := [(.int .i64 0), (.int .i64 0), (.int .i64 0), (.int .i64 0), (.int .u8 0), (.int .u8 0), (.int .u8 0), (.int .u8 0), (.int .u8 0), (.int .u8 0), (.int .u8 0), (.int .u8 0), (.int .u8 0), (.int .u8 0), (.int .u8 0), (.int .u8 0), (.int .u8 0), (.int .u8 0), (.int .u8 0), (.int .u8 0), (.int .u8 0), (.int .u8 0), (.int .u8 0), (.int .u8 0), (.int .u8 0), (.int .u8 0), (.int .u8 0), (.int .u8 0), (.int .u8 0), (.int .u8 0), (.int .u8 0), (.int .u8 0), (.int .u8 0), (.int .u8 0), (.int .u8 0), (.int .u8 0), (.slice none 0 0)]
abbrev zP : List Value := [(.int .i64 0), (.slice none 0 0)]
theorem ldN_all {h : Heap} {b n : Nat} {k : List Value} (g : h.get b = some k) (hl : k.length = n) (nh : Abs.noHoles k = true) : ldN n (ptr b 0) h = some (.agg k.toArray, h) := by
  have e : (k.drop 0).take n = k := by rw [List.drop_zero, List.take_of_length_le (by omega)]
  have := ldN_at (o := 0) (n := n) g (by omega) (by rw [e]; exact nh)
  rw [e] at this
  exact this
theorem stN_whole {h : Heap} {b : Nat} {k k' : Blk} (hk : h.get b = some k) (h0 : h.n0 ≤ b) {n : Nat} (hn : k.length = n) (hn' : k'.length = n) (ho : oneCells k' = true) : stN n (ptr b 0) (.agg k'.toArray) h = some (undef, h.set b k') := by
  unfold stN ptr
  have hc : (Value.agg k'.toArray).cells = k'.toArray := rfl
  simp only [hc, List.size_toArray, hn', if_true]
  unfold stL
  simp only [hk]
  rw [if_pos (by simp [ho, h0, hn, hn'])]
  have : splice k 0 k' = k' := by unfold splice; simp [hn, hn']
  rw [this]; rfl
theorem stored_all {h : Heap} {b n : Nat} {k k' : Blk} (g : h.get b = some k) (hn : h.n0 ≤ b) (hl : k.length = n) (hl' : k'.length = n) (ho : oneCells k' = true) : ∃ h2, stN n (ptr b 0) (.agg k'.toArray) h = some (undef, h2) ∧ Kept h h2 (· = b) ∧ h2.get b = some k' ∧ h2.n0 ≤ b ∧ h2.next = h.next :=
  ⟨_, stN_whole g hn hl hl' ho, Kept.set hn g (.inr rfl), Heap.get_set_same hn g _, hn, rfl⟩
theorem ld_agg {t n : Nat} (h1 : aggT Tryz.prog t = some true) (h2 : sizeT Tryz.prog t = some n) (v : Value) (h : Heap) : ld Tryz.prog t v h = ldN n v h := by
  unfold ld
  rw [h1, h2]
theorem getD_mkF {n k : Nat} (hk : k < n) (x : Nat → Value) : (mkF n x).getD k undef = x k := by
  unfold mkF
  rw [List.getD_eq_getElem?_getD, List.getElem?_map, List.getElem?_range hk]; rfl
end Go.Proofs.YtdhpgacmgebjdaaGreatDoor

namespace Go.Proofs.YtdhpgacmgebjdaaGreatDoor
open Go Go.Abs
attribute [local congr] thenV_congr
theorem agg35 : aggT Tryz.prog 35 = some true := by kernel_rfl
theorem agg37 : aggT Tryz.prog 37 = some true := by kernel_rfl
theorem siz35 : sizeT Tryz.prog 35 = some 37 := by kernel_rfl
theorem siz37 : sizeT Tryz.prog 37 = some 2 := by kernel_rfl
theorem bod19 : Tryz.f19.body = some (.seq (partOf Tryz.f19 [0]) (.seq (partOf Tryz.f19 [1, 0]) (partOf Tryz.f19 [1, 1]))) := by kernel_rfl
theorem env19 (a b : Value) : ([a, b] ++ List.replicate (Tryz.f19.ntmps - [a, b].length) undef : Env) = mkF 56 (bs [a, b]) := by kernel_rfl
theorem res19 : Tryz.f19.results.toList = [.cell 4 35, .cell 5 37, .tmp 6] := by kernel_rfl
theorem res16 : Tryz.f16.results.toList = [.cell 4 35, .cell 5 37] := by kernel_rfl
theorem bldM : bldR zM [] = some (.agg zM.toArray) := rfl
theorem bldP : bldR zP [] = some (.agg zP.toArray) := rfl
theorem n19 {h : Heap} (hG : 3 ≤ h.n0) {x : Value} (hx : oneCells x.cells.toList = true) : ∃ g, CW 19 [nilP, x] h = some (.tuple #[.agg zM.toArray, .agg zP.toArray, .int .i64 1], g) ∧ Old h g := by
  have o0 := old_alloc h x.cells.toList
  obtain ⟨h1, e1, o1, g1, n1⟩ := fresh zM (h.alloc x.cells.toList)
  obtain ⟨h2, e2, o2, g2, n2⟩ := fresh zP h1
  have n0 : (h.alloc x.cells.toList).next = h.next + 1 := rfl
  have O2 := (o0.trans o1).trans o2
  have hb1 : h2.n0 ≤ (h.alloc x.cells.toList).next := by rw [O2.n0, n0]; have := h.n0_le_next; omega
  have hb2 : h2.n0 ≤ h1.next := by rw [O2.n0, n1, n0]; have := h.n0_le_next; omega
  have G1 := Old.get o2 g1
  obtain ⟨h3, e3, k3, g3, m3, x3⟩ := stored_all (n := 37) (k' := zM) G1 hb1 rfl rfl rfl
  have G2 : h3.get h1.next = some zP := Kept.getE k3 g2 (by omega)
  obtain ⟨h4, e4, k4, g4, m4, x4⟩ := stored_all (n := 2) (k' := zP) G2 (by rw [k3.n0]; exact hb2) rfl rfl rfl
  have G3 : h4.get (h.alloc x.cells.toList).next = some zM := Kept.getE k4 g3 (by omega)
  have l1 := ldN_all (n := 37) G3 rfl rfl
  have l2 := ldN_all (n := 2) g4 rfl rfl
  refine ⟨h4, ?_, Old.of_new (Old.of_new O2 k3 (by omega)) k4 (by omega)⟩
  refine CW_body isn19 hG rfl ?_
  have p0 : ∃ y, t19p19_0 CW (bs [nilP, x]) h = some (.normal, mkF 56 y, h2) ∧ y 0 = nilP ∧ y 4 = ptr (h.alloc x.cells.toList).next 0 ∧ y 5 = ptr h1.next 0 := by
    unfold t19p19_0
    have b0 : box (bs [nilP, x] 1) h = some (ptr h.next 0, h.alloc x.cells.toList) := bx hx h
    simp -implicitDefEqProofs only [b0, e1, e2, thenV_some]
    exact ⟨_, rfl, rfl, rfl, rfl⟩
  obtain ⟨y, p0, y0, y4, y5⟩ := p0
  have p1 : ∃ z, t19p19_10 CW y h2 = some (.ret, mkF 56 z, h4) ∧ z 4 = y 4 ∧ z 5 = y 5 ∧ z 6 = .int .i64 1 := by
    unfold t19p19_10
    simp -implicitDefEqProofs only [y0, y4, y5, n60 (h := h2) (by rw [O2.n0]; exact hG), neq10, bldM, bldP, e3, e4, thenV_some, pu_some]
    refine ⟨_, rfl, ?_⟩
    refine ⟨?_, ?_, rfl⟩
    · exact y4
    · exact y5
  obtain ⟨z, p1, z4, z5, z6⟩ := p1
  rw [bodyK_eq]
  unfold bodyA
  rw [bod19]
  simp only [env19]
  rw [cSeq ((t19p19_0_eq _ _ _).trans p0), cSeqX ((t19p19_10_eq _ _ _).trans p1) (fun h => by cases h)]
  simp only
  rw [res19]
  simp only [resultsA, List.mapM_cons, List.mapM_nil, resultA, getD_mkF (show 4 < 56 by decide), getD_mkF (show 5 < 56 by decide), getD_mkF (show 6 < 56 by decide), ld_agg agg35 siz35, ld_agg agg37 siz37, z4, z5, z6, y4, y5, l1, l2]
  rfl
end Go.Proofs.YtdhpgacmgebjdaaGreatDoor

namespace Go.Proofs.YtdhpgacmgebjdaaGreatDoor
open Go Go.Abs
attribute [local congr] thenV_congr
/-- A slice of n elements of z cells that can be read. -/
def SlR (h : Heap) (z n : Nat) (v : Value) : Prop := ∃ a c l, v = .slice a n c ∧ firstA z n v h = some l ∧ l.length = n * z ∧ oneCells l = true
theorem SlR.old {h g : Heap} {z n : Nat} {v : Value} (s : SlR h z n v) (o : Old h g) : SlR g z n v := by
  obtain ⟨a, c, l, rfl, e, h1, h2⟩ := s
  refine ⟨a, c, l, rfl, ?_, h1, h2⟩
  unfold firstA at e ⊢
  cases a with
  | none => exact e
  | some a =>
    obtain ⟨b, off, s⟩ := a
    simp only at e ⊢
    split at e
    · rename_i hz; rw [if_pos hz]; exact e
    · rename_i hz
      rw [if_neg hz]
      cases hk : h.get b with
      | none => rw [hk] at e; cases e
      | some k => rw [hk] at e; rw [Old.get o hk]; exact e
theorem SlR.len {h : Heap} {z n : Nat} {v : Value} (s : SlR h z n v) : lenL v = some (i64n n) := by
  obtain ⟨a, c, l, rfl, _⟩ := s
  rfl
theorem SlR.cell {h : Heap} {z n : Nat} {v : Value} (s : SlR h z n v) : isHole v = false ∧ v.oneCell' = true := by
  obtain ⟨a, c, l, rfl, _⟩ := s
  exact ⟨rfl, rfl⟩
/-- append to an empty slice. -/
theorem app_any {h : Heap} {b z n : Nat} {v : Value} (s : SlR h z n v) (hb : n * z ≤ 140737488355328) (hn : n ≤ 1000000) : ∃ w g a c, appendA z z (.slice (some ⟨b, 0, none⟩) 0 0) v h = some (w, g) ∧ Old h g ∧ w = .slice a n c ∧ g.next ≤ h.next + 1 := by
  obtain ⟨a, c, l, rfl, e, h1, h2⟩ := s
  unfold appendA
  simp only [lenA, e, h2, h1]
  rw [if_neg (by
    simp only [Bool.not_true, Bool.false_or, Bool.or_eq_true, Bool.not_eq_true', decide_eq_false_iff_not, Nat.not_le, decide_eq_true_eq, Nat.zero_add]
    rintro ((h | h) | h)
    · omega
    · omega
    · exact h rfl)]
  by_cases h0 : n = 0
  · subst h0
    rw [if_pos (by omega), if_pos rfl]
    exact ⟨_, _, _, _, rfl, Kept.refl _ _, rfl, by omega⟩
  · rw [if_neg (by omega)]
    have f0 : firstA z 0 (.slice (some ⟨b, 0, none⟩) 0 0) h = some [] := by
      unfold firstA
      simp only [Nat.zero_mul, if_true]
    simp only [f0, List.length_nil, Nat.zero_mul, ne_eq, not_true_eq_false, if_false]
    exact ⟨_, _, some ⟨h.next, 0, some z⟩, n, rfl, old_alloc _ _, by rw [Nat.zero_add], Nat.le_refl _⟩
theorem bsl32 (h : Heap) : bslR 32 (.agg (List.replicate 32 (.int .u8 0)).toArray) 0 [] h = some (.slice (some ⟨h.next, 0, none⟩) 0 0, h.alloc []) := rfl
theorem bsl1 (h : Heap) : bslR 1 (.int .u8 0) 0 [] h = some (.slice (some ⟨h.next, 0, none⟩) 0 0, h.alloc []) := rfl
theorem isn16 : IsFn Tryz.prog 16 Tryz.f16 := ⟨by kernel_rfl, by kernel_rfl, by kernel_rfl, by kernel_rfl⟩
theorem isn31 : IsFn Tryz.prog 31 Tryz.f31 := ⟨by kernel_rfl, by kernel_rfl, by kernel_rfl, by kernel_rfl⟩
theorem one_set {l : List Value} {i : Nat} {v : Value} (h : oneCells l = true) (hv : v.oneCell' = true) : oneCells (l.set i v) = true := by
  unfold oneCells at h ⊢
  rw [List.all_eq_true] at h ⊢
  intro x hx
  rcases List.mem_or_eq_of_mem_set hx with h1 | h1
  · exact h x h1
  · subst h1; exact hv
theorem nh_set {l : List Value} {i : Nat} {v : Value} (h : Abs.noHoles l = true) (hv : isHole v = false) : Abs.noHoles (l.set i v) = true := by
  unfold Abs.noHoles at h ⊢
  rw [List.all_eq_true] at h ⊢
  intro x hx
  rcases List.mem_or_eq_of_mem_set hx with h1 | h1
  · exact h x h1
  · subst h1; rw [hv]; rfl
/-- own -/
theorem n16 {h : Heap} (hG : 3 ≤ h.n0) {M : List Value} {ix : Int} {sv dv : Value} {n m : Nat} (hM : M.length = 37) (oM : oneCells M = true) (nM : Abs.noHoles M = true) (h36 : M[36]? = some sv) (hs : SlR h 32 n sv) (hd : SlR h 1 m dv) (hn : n ≤ 60) (hm : m ≤ 2000) :
    ∃ M' P' g, CW 16 [.agg M.toArray, .agg #[.int .i64 ix, dv]] h = some (.tuple #[.agg M'.toArray, .agg P'.toArray], g) ∧ Old h g ∧ oneCells M' = true ∧ oneCells P' = true := by
  have hle := h.n0_le_next
  have b0 := box_at h M oM
  have o1 := old_alloc h M
  have n1 : (h.alloc M).next = h.next + 1 := rfl
  have g1 : (h.alloc M).get h.next = some M := by rw [Heap.get_alloc, if_pos rfl]
  have oP : oneCells [.int .i64 ix, dv] = true := by
    unfold oneCells
    rw [List.all_cons, List.all_cons, hd.cell.2]; rfl
  generalize hh1 : h.alloc M = h1 at *
  have b1 := box_at h1 [.int .i64 ix, dv] oP
  have o2 := old_alloc h1 [.int .i64 ix, dv]
  have n2 : (h1.alloc [.int .i64 ix, dv]).next = h1.next + 1 := rfl
  have g2 : (h1.alloc [.int .i64 ix, dv]).get h1.next = some [.int .i64 ix, dv] := by rw [Heap.get_alloc, if_pos rfl]
  generalize hh2 : h1.alloc [.int .i64 ix, dv] = h2 at *
  obtain ⟨h3, e3, o3, g3, n3⟩ := fresh zM h2
  obtain ⟨h4, e4, o4, g4, n4⟩ := fresh zP h3
  have s5 := bsl32 h4
  have o5 := old_alloc h4 []
  have n5 : (h4.alloc []).next = h4.next + 1 := rfl
  generalize hh5 : h4.alloc [] = h5 at *
  have O5 : Old h1 h5 := ((o2.trans o3).trans o4).trans o5
  have l5 : ld1 (ptr h.next 36) h5 = some (sv, h5) := ld1_at (Old.get O5 g1) h36 hs.cell.1
  obtain ⟨v, h6, a6, c6, e6, o6, rfl, n6⟩ := app_any (b := h4.next) (hs.old (o1.trans O5)) (by omega) (by omega)
  have g16 := Old.get (O5.trans o6) g1
  have N0 : ∀ {g : Heap}, Old h g → g.n0 = h.n0 := fun o => o.n0
  have O6 : Old h h6 := (o1.trans O5).trans o6
  obtain ⟨h7, e7, k7, g7, m7, x7⟩ := stored (o := 36) (v := .slice a6 n c6) g16 (by rw [O6.n0]; exact hle) (by omega) rfl rfl
  have s8 := bsl1 h7
  have o8 := old_alloc h7 []
  have n8 : (h7.alloc []).next = h7.next + 1 := rfl
  generalize hh8 : h7.alloc [] = h8 at *
  have ne12 : ¬ (h1.next = h.next) := by omega
  have g27 : h7.get h1.next = some [.int .i64 ix, dv] := Kept.getE k7 (Old.get (((o3.trans o4).trans o5).trans o6) g2) ne12
  have l8 : ld1 (ptr h1.next 1) h8 = some (dv, h8) := ld1_at (Old.get o8 g27) rfl hd.cell.1
  have O7 : Old h h7 := Old.of_new O6 k7 (Nat.le_refl _)
  obtain ⟨w, h9, a9, c9, e9, o9, rfl, n9⟩ := app_any (b := h7.next) (hd.old (O7.trans o8)) (by omega) (by omega)
  have g29 := Old.get (o8.trans o9) g27
  have O9 : Old h h9 := (O7.trans o8).trans o9
  obtain ⟨hA, eA, kA, gA, mA, xA⟩ := stored (o := 1) (v := .slice a9 m c9) g29 (by rw [O9.n0]; omega) (Nat.lt_succ_self 1) rfl rfl
  have OA : Old h hA := Old.of_new O9 kA (by omega)
  have gM : hA.get h.next = some (M.set 36 (.slice a6 n c6)) := Kept.getE kA (Old.get (o8.trans o9) g7) (by omega)
  have lM := ldN_all (n := 37) gM (by rw [List.length_set]; exact hM) (nh_set nM rfl)
  have lP := ldN_all (n := 2) gA rfl rfl
  have hlt : h2.next < h6.next := by
    have := o6.next; have := o5.next; omega
  have g3A : hA.get h2.next = some zM := Kept.getE kA (Old.get (o8.trans o9) (Kept.getE k7 (Old.get ((o4.trans o5).trans o6) g3) (by omega))) (by omega)
  have g4A : hA.get h3.next = some zP := Kept.getE kA (Old.get (o8.trans o9) (Kept.getE k7 (Old.get (o5.trans o6) g4) (by omega))) (by omega)
  obtain ⟨hB, eB, kB, gB, mB, xB⟩ := stored_all (n := 37) (k' := M.set 36 (.slice a6 n c6)) g3A (by rw [OA.n0]; omega) rfl (by rw [List.length_set]; exact hM) (one_set oM rfl)
  have gPB : hB.get h1.next = some ([.int .i64 ix, dv].set 1 (.slice a9 m c9)) := Kept.getE kB gA (by omega)
  have lPB := ldN_all (n := 2) gPB rfl rfl
  obtain ⟨hC, eC, kC, gC, mC, xC⟩ := stored_all (n := 2) (k' := [.int .i64 ix, .slice a9 m c9]) (Kept.getE kB g4A (by omega)) (by rw [kB.n0, OA.n0]; omega) rfl rfl rfl
  have OB : Old h hB := Old.of_new OA kB (by omega)
  have OC : Old h hC := Old.of_new OB kC (by omega)
  have gBC : hC.get h2.next = some (M.set 36 (.slice a6 n c6)) := Kept.getE kC gB (by omega)
  have lB := ldN_all (n := 37) gBC (by rw [List.length_set]; exact hM) (nh_set nM rfl)
  have lC := ldN_all (n := 2) gC rfl rfl
  have ck : chkR true (some (.agg [.int .i64 ix, .slice a9 m c9].toArray, hB)) (.agg [.int .i64 ix, .slice a9 m c9].toArray) = true := by
    show (!true || (veqL [.int .i64 ix, .slice a9 m c9] [.int .i64 ix, .slice a9 m c9])) = true
    simp [veqL, veq]
  have st : ([.int .i64 ix, dv].set 1 (.slice a9 m c9) : List Value) = [.int .i64 ix, .slice a9 m c9] := rfl
  rw [st] at lP lPB
  refine ⟨M.set 36 (.slice a6 n c6), [.int .i64 ix, .slice a9 m c9], hC, ?_, OC, one_set oM rfl, rfl⟩
  refine CW_body isn16 hG rfl ((t16_eq _ _ _ _).trans ?_)
  unfold t16
  have b1' : box (.agg #[.int .i64 ix, dv]) h1 = some (ptr h1.next 0, h2) := b1
  simp -implicitDefEqProofs only [b0, b1', e3, e4, s5, addP_ptr, Nat.zero_add, l5, e6, e7, s8, l8, e9, eA, lM, lP, eB, lPB, eC, ck, Bool.and_true, thenV_some, pu_some]
  rw [res16]
  simp only [resultsA, List.mapM_cons, List.mapM_nil, resultA, getD_mkF (show 4 < 18 by decide), getD_mkF (show 5 < 18 by decide), ld_agg agg35 siz35, ld_agg agg37 siz37]
  simp only [up_cons, up_nil, Nat.reduceEqDiff, if_false, if_true, lB, lC]
  rfl
end Go.Proofs.YtdhpgacmgebjdaaGreatDoor

namespace Go.Proofs.YtdhpgacmgebjdaaGreatDoor
open Go Go.Abs
attribute [local congr] thenV_congr
theorem iter_ret1 {f : Env → Heap → Option (Ex × Env × Heap)} {e e' : Env} {h h' : Heap} {x : Ex} (a : f e h = some (x, e', h')) (hx : x ≠ .normal) : iter f rounds e h = some (x, e', h') := by
  obtain ⟨n, hn⟩ : ∃ n, rounds = n + 1 := ⟨rounds - 1, by unfold rounds; omega⟩
  rw [hn]
  unfold iter
  rw [a]
  cases x with
  | normal => exact absurd rfl hx
  | _ => rfl
theorem iter_two {f : Env → Heap → Option (Ex × Env × Heap)} {e e1 e' : Env} {h h1 h' : Heap} {x : Ex} (a : f e h = some (.normal, e1, h1)) (b : f e1 h1 = some (x, e', h')) (hx : x ≠ .normal) : iter f rounds e h = some (x, e', h') := by
  obtain ⟨n, hn⟩ : ∃ n, rounds = n + 2 := ⟨rounds - 2, by unfold rounds; omega⟩
  rw [hn]
  unfold iter
  rw [a]
  simp only
  unfold iter
  rw [b]
  cases x with
  | normal => exact absurd rfl hx
  | _ => rfl
theorem bsl_one {n : Nat} {z : Value} {cs : List Value} {h : Heap} (hz : (flatAll z.cells.toList && z.cells.size = n && 0 < n && 1 * n ≤ 16777216) = true) (hc : cs.length = n) (ho : oneCells cs = true) (hzl : z.cells.toList.length = n) : bslR n z 1 [(0, .agg cs.toArray)] h = some (.slice (some ⟨h.next, 0, none⟩) 1 1, h.alloc cs) := by
  have e : (Value.agg cs.toArray).cells = cs.toArray := rfl
  have f : fillL (zeros z.cells.toList 1) [(0 * n, n, .agg cs.toArray)] = some cs := by
    unfold fillL
    have zl : zeros z.cells.toList 1 = z.cells.toList := by unfold zeros; rw [show List.range 1 = [0] from rfl]; simp
    rw [if_pos (by rw [e, zl]; simp [hc, ← hzl])]
    unfold fillL
    rw [zl, e, Nat.zero_mul]
    unfold splice
    rw [List.take_zero, List.nil_append, List.drop_of_length_le (by rw [Nat.zero_add, hzl, hc]; exact Nat.le_refl _), List.append_nil]
  unfold bslR
  rw [if_pos (by rw [hz]; simpa [e] using ho)]
  simp only [List.map_cons, List.map_nil, f]
theorem res31 : Tryz.f31.results.toList = [.tmp 2] := by kernel_rfl
theorem n31 {h : Heap} (hG : 3 ≤ h.n0) {b : Nat} {cs : List Value} {sv dv : Value} {n m : Nat} (g : h.get b = some cs) (h72 : cs[72]? = some sv) (h74 : cs[74]? = some dv) (hs : SlR h 32 n sv) (hd : SlR h 1 m dv) :
    CW 31 [.slice (some ⟨b, 0, none⟩) 1 1] h = some (.bool (decide (60 < n) || decide (2000 < m)), h) := by
  refine CW_body isn31 hG rfl ((t31_eq _ _ _).trans ?_)
  have l1 : lenL (.slice (some ⟨b, 0, none⟩) 1 1) = some (i64n 1) := rfl
  have c1 : bin Tryz.prog .gtr 3 (i64n 1) (.int .i64 60) = some (.bool false) := by kernel_rfl
  have c2 : bin Tryz.prog .lss 3 (.int .i64 0) (i64n 1) = some (.bool true) := by kernel_rfl
  have c3 : bin Tryz.prog .add 3 (.int .i64 0) (.int .i64 1) = some (.int .i64 1) := by kernel_rfl
  have c4 : bin Tryz.prog .lss 3 (.int .i64 1) (i64n 1) = some (.bool false) := by kernel_rfl
  have ix : idxS 76 (.slice (some ⟨b, 0, none⟩) 1 1) (.int .i64 0) = some (ptr b 0) := rfl
  have r1 : ld1 (ptr b (0 + 36 + 36)) h = some (sv, h) := ld1_at g h72 hs.cell.1
  have r2 : ld1 (ptr b (0 + 73 + 1)) h = some (dv, h) := ld1_at g h74 hd.cell.1
  have k1 : bin Tryz.prog .gtr 3 (i64n n) (.int .i64 60) = some (.bool (decide (60 < n))) := gtr3 n 60
  have k2 : bin Tryz.prog .gtr 3 (i64n m) (.int .i64 2000) = some (.bool (decide (2000 < m))) := gtr3 m 2000
  unfold t31
  simp -implicitDefEqProofs only [l1, c1, thenV_some, pu_some]
  have rd : ∀ x : Nat → Value, x 0 = .slice (some ⟨b, 0, none⟩) 1 1 → x 3 = .int .i64 0 →
      (∃ y, t31l31_11010 CW x h = some (.ret, mkF 31 y, h) ∧ y 2 = .bool true ∧ (decide (60 < n) || decide (2000 < m)) = true) ∨
      (∃ y, t31l31_11010 CW x h = some (.normal, mkF 31 y, h) ∧ y 0 = x 0 ∧ y 3 = .int .i64 1 ∧ (decide (60 < n) || decide (2000 < m)) = false) := by
    intro x x0 x3
    unfold t31l31_11010
    by_cases h1 : 60 < n
    · refine .inl ?_
      simp -implicitDefEqProofs only [x0, x3, l1, c2, ix, addP_ptr, r1, hs.len, k1, decide_eq_true h1, bt', guardK_false, if_true, thenV_some, pu_some]
      exact ⟨_, rfl, by simp [up_cons], by simp [h1]⟩
    · by_cases h2 : 2000 < m
      · refine .inl ?_
        simp -implicitDefEqProofs only [x0, x3, l1, c2, ix, addP_ptr, r1, hs.len, k1, decide_eq_false h1, bf, guardK_true, r2, hd.len, k2, decide_eq_true h2, if_false, Bool.false_eq_true, thenV_some, pu_some]
        exact ⟨_, rfl, by simp [up_cons], by simp [h2]⟩
      · refine .inr ?_
        simp -implicitDefEqProofs only [x0, x3, l1, c2, ix, addP_ptr, r1, hs.len, k1, decide_eq_false h1, bf, guardK_true, r2, hd.len, k2, decide_eq_false h2, if_false, Bool.false_eq_true, c3, thenV_some, pu_some]
        exact ⟨_, rfl, by simp [up_cons, x0], by simp [up_cons], by simp [h1, h2]⟩
  rcases rd (up (bs [.slice (some ⟨b, 0, none⟩) 1 1]) [(2, .bool false), (3, .int .i64 0), (4, .slice (some ⟨b, 0, none⟩) 1 1), (5, i64n 1), (6, .bool false)]) rfl rfl with ⟨y, e, y2, q⟩ | ⟨y, e, y0, y3, q⟩
  · rw [iter_ret1 ((t31l31_11010_eq _ _ _).trans e) (by simp), endL_ret, res_one res31 (by decide), y2, q]
  · have e2 : ∃ z, t31l31_11010 CW y h = some (.exit 0, mkF 31 z, h) := by
      unfold t31l31_11010
      simp -implicitDefEqProofs only [y0, y3, up_cons, up_nil, Nat.reduceEqDiff, if_false, if_true, bs, List.getD_cons_zero, l1, c4, thenV_some, pu_some]
      exact ⟨_, rfl⟩
    obtain ⟨z, e2⟩ := e2
    rw [iter_two ((t31l31_11010_eq _ _ _).trans e) ((t31l31_11010_eq _ _ _).trans e2) (by simp), endL_exit]
    unfold b31_6
    rw [if_pos rfl, t31k31_4_eq]
    unfold t31k31_4
    rw [thenV_some, q]
end Go.Proofs.YtdhpgacmgebjdaaGreatDoor

namespace Go.Proofs.YtdhpgacmgebjdaaGreatDoor
open Go Go.Abs
attribute [local congr] thenV_congr
theorem isn6 : IsFn Tryz.prog 6 Tryz.f6 := ⟨by kernel_rfl, by kernel_rfl, by kernel_rfl, by kernel_rfl⟩
/-- What the law's argument holds. -/
structure ArgD (h : Heap) (cs : List Value) : Prop where
  len : cs.length = 76
  one : oneCells cs = true
  nh : Abs.noHoles cs = true
  c3 : ∃ v, cs[3]? = some v ∧ v.cells = #[v]
  sM : ∃ sv n, cs[72]? = some sv ∧ SlR h 32 n sv
  sP : ∃ ix dv m, (cs.drop 73).take 2 = [.int .i64 ix, dv] ∧ SlR h 1 m dv
theorem part_ok {l : List Value} {p n : Nat} (o : oneCells l = true) : oneCells ((l.drop p).take n) = true := by
  unfold oneCells at o ⊢
  rw [List.all_eq_true] at o ⊢
  exact fun x hx => o x (List.mem_of_mem_drop (List.mem_of_mem_take hx))
theorem part_nh {l : List Value} {p n : Nat} (o : Abs.noHoles l = true) : Abs.noHoles ((l.drop p).take n) = true := by
  unfold Abs.noHoles at o ⊢
  rw [List.all_eq_true] at o ⊢
  exact fun x hx => o x (List.mem_of_mem_drop (List.mem_of_mem_take hx))
theorem nh_at {l : List Value} {i : Nat} {v : Value} (o : Abs.noHoles l = true) (g : l[i]? = some v) : isHole v = false := by
  unfold Abs.noHoles at o
  rw [List.all_eq_true] at o
  have := o v (List.mem_of_getElem? g)
  simpa using this
theorem one_at {l : List Value} {i : Nat} {v : Value} (o : oneCells l = true) (g : l[i]? = some v) : v.oneCell' = true := by
  unfold oneCells at o
  rw [List.all_eq_true] at o
  exact o v (List.mem_of_getElem? g)
theorem nil25 : bin Tryz.prog .eql 52 (.int .u64 0) (.int .u64 0) = some (.bool true) := by kernel_rfl
theorem nil3 : bin Tryz.prog .eql 3 (.int .i64 0) (.int .i64 0) = some (.bool true) := by kernel_rfl
theorem notF : unA .not (.bool false) = some (.bool true) := rfl
theorem lenN : lenL (.slice none 0 0) = some (.int .i64 0) := rfl
set_option maxRecDepth 20000 in
set_option maxHeartbeats 4000000 in
theorem r6 {h : Heap} {cs : List Value} (hG : 3 ≤ h.n0) (gr : h.get 1 = some roundsL) (a : ArgD h cs) : ∃ g, CW 6 [.agg cs.toArray] h = some (.bool true, g) := by
  obtain ⟨len, one, nh, ⟨v3, e3, c3⟩, ⟨sv, n, e72, hs⟩, ⟨ix, dv, m, eP, hd⟩⟩ := a
  have hle := h.n0_le_next
  have bx1 := box_at h cs one
  have O1 := old_alloc h cs
  have g1 : (h.alloc cs).get h.next = some cs := by rw [Heap.get_alloc, if_pos rfl]
  have G1 : 3 ≤ (h.alloc cs).n0 := hG
  have R1 := Old.get O1 gr
  have hs1 := hs.old O1
  have hd1 := hd.old O1
  generalize hh1 : h.alloc cs = h1 at *
  have h74 : cs[74]? = some dv := by
    have := congrArg (fun l => l[1]?) eP
    simpa [List.getElem?_take, List.getElem?_drop] using this
  obtain ⟨v1, e1⟩ : ∃ v1, cs[1]? = some v1 := ⟨_, List.getElem?_eq_getElem (show 1 < cs.length by omega)⟩
  generalize hb : h.next = b at *
  have rd : ∀ g, Old h1 g → ld1 (ptr b 1) g = some (v1, g) ∧ ld1 (ptr b 3) g = some (v3, g) ∧ ldN 32 (ptr b 4) g = some (.agg ((cs.drop 4).take 32).toArray, g) ∧ ldN 37 (ptr b 36) g = some (.agg ((cs.drop 36).take 37).toArray, g) ∧ ldN 2 (ptr b 73) g = some (.agg #[.int .i64 ix, dv], g) ∧ ldN 76 (ptr b 0) g = some (.agg cs.toArray, g) ∧ 3 ≤ g.n0 ∧ g.get 1 = some roundsL := by
    intro g o
    have gg := Old.get o g1
    refine ⟨ld1_at gg e1 (nh_at nh e1), ld1_at gg e3 (nh_at nh e3), ldN_at gg (by omega) (part_nh nh), ldN_at gg (by omega) (part_nh nh), ?_, ldN_all gg len nh, by rw [o.n0]; exact G1, Old.get o R1⟩
    have := ldN_at (o := 73) (n := 2) gg (by omega) (part_nh nh)
    rw [eP] at this
    exact this
  have oid : oneCells (Value.agg ((cs.drop 4).take 32).toArray).cells.toList = true := by
    show oneCells ((cs.drop 4).take 32).toArray.toList = true
    simpa using part_ok one
  have ov3 : oneCells v3.cells.toList = true := by
    rw [c3]; unfold oneCells; simp [one_at one e3]
  generalize hid : (Value.agg ((cs.drop 4).take 32).toArray) = idv at *
  have eb : bslR 76 (.agg #[(.int .i64 0), (.int .i64 0), (.int .i64 0), (.int .u64 0), (.int .u8 0), (.int .u8 0), (.int .u8 0), (.int .u8 0), (.int .u8 0), (.int .u8 0), (.int .u8 0), (.int .u8 0), (.int .u8 0), (.int .u8 0), (.int .u8 0), (.int .u8 0), (.int .u8 0), (.int .u8 0), (.int .u8 0), (.int .u8 0), (.int .u8 0), (.int .u8 0), (.int .u8 0), (.int .u8 0), (.int .u8 0), (.int .u8 0), (.int .u8 0), (.int .u8 0), (.int .u8 0), (.int .u8 0), (.int .u8 0), (.int .u8 0), (.int .u8 0), (.int .u8 0), (.int .u8 0), (.int .u8 0), (.int .i64 0), (.int .i64 0), (.int .i64 0), (.int .i64 0), (.int .u8 0), (.int .u8 0), (.int .u8 0), (.int .u8 0), (.int .u8 0), (.int .u8 0), (.int .u8 0), (.int .u8 0), (.int .u8 0), (.int .u8 0), (.int .u8 0), (.int .u8 0), (.int .u8 0), (.int .u8 0), (.int .u8 0), (.int .u8 0), (.int .u8 0), (.int .u8 0), (.int .u8 0), (.int .u8 0), (.int .u8 0), (.int .u8 0), (.int .u8 0), (.int .u8 0), (.int .u8 0), (.int .u8 0), (.int .u8 0), (.int .u8 0), (.int .u8 0), (.int .u8 0), (.int .u8 0), (.int .u8 0), (.slice none 0 0), (.int .i64 0), (.slice none 0 0), (.int .u8 0)]) 1 [(0, .agg cs.toArray)] h1 = some (.slice (some ⟨h1.next, 0, none⟩) 1 1, h1.alloc cs) := bsl_one (by kernel_rfl) len one (by kernel_rfl)
  have O2 := old_alloc h1 cs
  have g2 : (h1.alloc cs).get h1.next = some cs := by rw [Heap.get_alloc, if_pos rfl]
  generalize hh2 : h1.alloc cs = h2 at *
  have a76 := (rd h1 (Kept.refl _ _)).2.2.2.2.2.1
  have e31 := n31 (h := h2) (by rw [O2.n0]; exact G1) g2 e72 h74 (hs1.old O2) (hd1.old O2)
  obtain ⟨a1, a3, a4, a36, a73, _, G2, R2⟩ := rd h2 O2
  have bo : bOf (.bool false) = some false := rfl
  cases hq : (decide (60 < n) || decide (2000 < m)) with
  | true =>
    rw [hq] at e31
    refine ⟨h2, CW_body isn6 hG rfl ((t6_eq _ _ _).trans ?_)⟩
    unfold t6
    simp -implicitDefEqProofs only [bx1, a76, eb, e31, r12 R2, thenV_some, pu_some]
  | false =>
    rw [hq] at e31
    have hn : n ≤ 60 := by simp at hq; omega
    have hm : m ≤ 2000 := by simp at hq; omega
    obtain ⟨h3, e19, o3⟩ := n19 G2 oid
    have O3 := O2.trans o3
    obtain ⟨h4, e4, o4, g4, x4⟩ := fresh zM h3
    have O4 := O3.trans o4
    obtain ⟨h5, e5, o5, g5, x5⟩ := fresh zP h4
    have O5 := O4.trans o5
    have q1 := h1.n0_le_next
    have q2 := O3.next
    have q3 := O3.n0
    obtain ⟨h6, e6, k6, g6, m6, x6⟩ := stored_all (n := 37) (k' := zM) (Old.get o5 g4) (by rw [o5.n0, o4.n0]; omega) rfl rfl rfl
    have O6 := Old.of_new O5 k6 (by omega)
    obtain ⟨h7, e7, k7, g7, m7, x7⟩ := stored_all (n := 2) (k' := zP) (Kept.getE k6 g5 (by omega)) (by rw [k6.n0, o5.n0, o4.n0]; omega) rfl rfl rfl
    have O7 := Old.of_new O6 k7 (by omega)
    obtain ⟨b1, b3, b4, b36, b73, _, G7, R7⟩ := rd h7 O7
    have e32 := n32 G7 oid
    have O8 := O7.trans (old_alloc h7 idv.cells.toList)
    generalize h7.alloc idv.cells.toList = h8 at *
    obtain ⟨c1, c3', c4, c36, c73, _, G8, R8⟩ := rd h8 O8
    have e33 := n33 G8 ov3
    have O9 := O8.trans (old_alloc h8 v3.cells.toList)
    generalize h8.alloc v3.cells.toList = h9 at *
    obtain ⟨d1, d3, d4, d36, d73, _, G9, R9⟩ := rd h9 O9
    have e34 := n34 G9 oid
    have OA := O9.trans (old_alloc h9 idv.cells.toList)
    generalize h9.alloc idv.cells.toList = hA at *
    obtain ⟨f1, f3, f4, f36, f73, _, GA, RA⟩ := rd hA OA
    have e35 := n35 GA oid
    have OB := OA.trans (old_alloc hA idv.cells.toList)
    generalize hA.alloc idv.cells.toList = hB at *
    obtain ⟨p1, p3, p4, p36, p73, _, GB, RB⟩ := rd hB OB
    have e36 := n36 GB
    have h36 : ((cs.drop 36).take 37)[36]? = some sv := by rw [List.getElem?_take, if_pos (by decide), List.getElem?_drop]; exact e72
    obtain ⟨M', P', hC, e16, oC, oM, oP⟩ := n16 GB (M := (cs.drop 36).take 37) (ix := ix) (by rw [List.length_take, List.length_drop]; omega) (part_ok one) (part_nh nh) h36 (hs1.old OB) (hd1.old OB) hn hm
    have OC := OB.trans oC
    obtain ⟨_, _, _, _, _, _, GC, RC⟩ := rd hC OC
    have e17 := n17 GC (x := .agg M'.toArray) (y := .agg P'.toArray) (show oneCells M'.toArray.toList = true by simpa using oM) (show oneCells P'.toArray.toList = true by simpa using oP)
    have OD := (OC.trans (old_alloc hC (Value.agg M'.toArray).cells.toList)).trans (old_alloc _ (Value.agg P'.toArray).cells.toList)
    generalize (hC.alloc (Value.agg M'.toArray).cells.toList).alloc (Value.agg P'.toArray).cells.toList = hD at *
    obtain ⟨s1, s3, s4, s36, s73, _, GD, RD⟩ := rd hD OD
    have e40 := n40 GD v1
    have OE := OD.trans (old_alloc hD [nilP])
    generalize hD.alloc [nilP] = hE at *
    obtain ⟨t1, t3, t4, t36, t73, _, GE, RE⟩ := rd hE OE
    have e23 := n23 GE oid
    have OF := OE.trans (old_alloc hE idv.cells.toList)
    generalize hE.alloc idv.cells.toList = hF at *
    obtain ⟨u1, u3, u4, u36, u73, _, GF, RF⟩ := rd hF OF
    have e41 := n41 GF oid
    have OG := OF.trans (old_alloc hF idv.cells.toList)
    generalize hF.alloc idv.cells.toList = hG' at *
    obtain ⟨_, _, _, _, _, _, GG, RG⟩ := rd hG' OG
    refine ⟨hG', CW_body isn6 hG rfl ((t6_eq _ _ _).trans ?_)⟩
    have xa : ∀ (x y : Value), extractA (.tuple #[x, y]) 0 = some x := fun _ _ => rfl
    have xb : ∀ (x y : Value), extractA (.tuple #[x, y]) 1 = some y := fun _ _ => rfl
    have xc : ∀ (x y z : Value), extractA (.tuple #[x, y, z]) 0 = some x := fun _ _ _ => rfl
    have xd : ∀ (x y z : Value), extractA (.tuple #[x, y, z]) 1 = some y := fun _ _ _ => rfl
    have xe : ∀ (x y z : Value), extractA (.tuple #[x, y, z]) 2 = some z := fun _ _ _ => rfl
    unfold t6
    simp -implicitDefEqProofs only [bx1, a76, eb, e31, addP_ptr, Nat.zero_add, a1, n14 G2, xa, xb, a4, e19, xc, xd, xe, e4, e5, e6, e7, b4, e32, neq11, bf, bt, bf', bt', guardK_true, guardK_false, if_true, if_false, Bool.false_eq_true, c3', e33, d4, e34, f4, e35, e36, p36, p73, e16, e17, n27 GD, nil25, n37 GD, nil3, n38 GD, n18 GD, lenN, n39 GD, s1, e40, t4, e23, notF, u4, e41, r12 RG, thenV_some, pu_some]
end Go.Proofs.YtdhpgacmgebjdaaGreatDoor

namespace Go.Proofs.YtdhpgacmgebjdaaGreatDoor
open Go Go.Abs
open Go.ChangeShapes Go.WideShapes Go.ChangeAt Go.RowKit
theorem all_of_get {p : Value → Bool} {l : List Value} (h : ∀ i, i < l.length → ∃ v, l[i]? = some v ∧ p v = true) : l.all p = true := by
  rw [List.all_eq_true]
  intro x hx
  obtain ⟨i, hi⟩ := List.mem_iff_getElem?.1 hx
  obtain ⟨v, h1, h2⟩ := h i (List.getElem?_eq_some_iff.1 hi).1
  rw [hi] at h1
  cases h1
  exact h2
theorem TypedN.cell {ks : List Kd} {n : Nat} {cs : List Value} (x : TypedN ks n cs) {i : Nat} (hi : i < cs.length) : ∃ v, cs[i]? = some v ∧ isHole v = false ∧ v.oneCell' = true := by
  refine ⟨_, List.getElem?_eq_getElem hi, ?_⟩
  have hz : 0 < ks.length := by
    rcases Nat.eq_zero_or_pos ks.length with h | h
    · rw [x.1, h, Nat.mul_zero] at hi; omega
    · exact h
  have h1 : i / ks.length < n := Nat.div_lt_of_lt_mul (by rw [Nat.mul_comm, ← x.1]; exact hi)
  have h2 := Nat.mod_lt i hz
  have h3 := Nat.div_add_mod i ks.length
  have q := x.2 (i / ks.length) h1
  have e : ((cs.drop (i / ks.length * ks.length)).take ks.length)[i % ks.length]? = some cs[i] := by
    rw [List.getElem?_take, if_pos h2, List.getElem?_drop, show i / ks.length * ks.length + i % ks.length = i by rw [Nat.mul_comm]; exact h3, List.getElem?_eq_getElem hi]
  have := q.cell e
  exact ⟨this.1, this.2.1⟩
theorem SlN.slR {h : Heap} {ks : List Kd} {v : Value} {n : Nat} {cs : List Value} (x : SlN h ks v n cs) (hz : 0 < ks.length) : SlR h ks.length n v := by
  have ty := x.typed
  obtain ⟨a, c, rfl, h1, _, h3⟩ := x
  have hn : Abs.noHoles cs = true := all_of_get fun i hi => by
    obtain ⟨v, a, b, _⟩ := ty.cell hi
    exact ⟨v, a, by rw [b]; rfl⟩
  have ho : oneCells cs = true := all_of_get fun i hi => by
    obtain ⟨v, a, _, b⟩ := ty.cell hi
    exact ⟨v, a, b⟩
  refine ⟨a, c, cs, rfl, ?_, ty.1, ho⟩
  by_cases h0 : n = 0
  · subst h0
    have : cs = [] := List.length_eq_zero_iff.1 (by rw [ty.1, Nat.zero_mul])
    subst this
    cases a with
    | none => rfl
    | some y => unfold firstA; simp
  · obtain ⟨b, off, s, k, rfl, h4, h5, h6⟩ := h3 (by omega)
    unfold firstA
    have h9 : n * ks.length ≠ 0 := Nat.mul_ne_zero h0 (by omega)
    simp only [h4, h6, if_neg h9, if_pos (And.intro h5 hn)]
section
variable {H : Type} {enc : TypeId × Value → H} {W : World} {base : Nat} {held : Bool}
theorem reads_arr {t e : TypeId} {n : Nat} {k : Kd} (ht : Tryz.prog.underlying t = some (.array n e)) (h1 : Tryz.prog.cellsOf e = 1) (hn : Tryz.prog.cellsOf t = n) (R : Reads enc W base held e [k]) : Reads enc W base held t (List.replicate n k) := fun fuel cs x h => by
  obtain ⟨xs, m, rfl, _, hl, hx, hf⟩ := DataW.trod_array ht h
  rw [hn] at hl
  refine ⟨by rw [hl, List.length_replicate], fun j t' hj => ?_⟩
  have hj' : j < n := by
    have := (List.getElem?_eq_some_iff.1 hj).1
    rwa [List.length_replicate] at this
  rw [List.getElem?_replicate, if_pos hj'] at hj
  cases hj
  have := hf j hj'
  rw [List.getElem?_eq_getElem (by omega), h1, Nat.mul_one] at this
  obtain ⟨v, g1, g2⟩ := (R _ _ _ this).2 0 k rfl
  rw [List.getElem?_take, if_pos (by omega), List.getElem?_drop, Nat.add_zero] at g1
  exact ⟨v, g1, g2⟩
theorem rd5 : Reads enc W base held 5 [.u8] := reads_u8 Tryz.underlying5
theorem rd32 : Reads enc W base held 32 (List.replicate 32 .u8) := reads_arr Tryz.underlying32 (by kernel_rfl) (by kernel_rfl) rd5
theorem sl33 {fuel : Nat} {v : Value} {x : DataW H × List MemPlace} (h : DataW.trod enc Tryz.prog W base (fun _ => true) held fuel 33 [v] = some x) : isHole (clean W.heap.size v) = false ∧ ∃ n, SlR (topHeap W (view W)) 32 n (clean W.heap.size v) := by
  obtain ⟨h1, n, cs, S⟩ := sl_of Tryz.underlying33 (ks := List.replicate 32 .u8) (by kernel_rfl) (by decide) rd32 h
  exact ⟨h1, n, S.slR (by decide)⟩
theorem sl22 {fuel : Nat} {v : Value} {x : DataW H × List MemPlace} (h : DataW.trod enc Tryz.prog W base (fun _ => true) held fuel 22 [v] = some x) : isHole (clean W.heap.size v) = false ∧ ∃ n, SlR (topHeap W (view W)) 1 n (clean W.heap.size v) := by
  obtain ⟨h1, n, cs, S⟩ := sl_of Tryz.underlying22 (ks := [.u8]) (by kernel_rfl) (by decide) rd5 h
  exact ⟨h1, n, S.slR (by decide)⟩
/-- These places hold cells that are no holes. -/
def Good (W : World) (cs : List Value) (p n : Nat) : Prop := ∀ i, p ≤ i → i < p + n → ∃ v, cs[i]? = some v ∧ isHole (clean W.heap.size v) = false ∧ (clean W.heap.size v).oneCell' = true
theorem Good.typed {cs : List Value} {p : Nat} {ks : List Kd} (h : Typed ks ((cs.drop p).take ks.length)) : Good W cs p ks.length := by
  intro i h1 h2
  obtain ⟨v, e, k⟩ := h.2 (i - p) _ (List.getElem?_eq_getElem (show i - p < ks.length by omega))
  have e' := e
  rw [List.getElem?_take, if_pos (by omega), List.getElem?_drop, show p + (i - p) = i by omega] at e'
  refine ⟨v, e', ?_⟩
  rw [k.clean]
  have := h.cell e
  exact ⟨this.1, this.2.1⟩
theorem sub_part {cs : List Value} {p n o z : Nat} (h : o + z ≤ n) : (((cs.drop p).take n).drop o).take z = (cs.drop (p + o)).take z := by
  rw [List.drop_take, List.take_take, List.drop_drop, Nat.min_eq_left (by omega)]
theorem one_part {cs : List Value} {p : Nat} (hp : p < cs.length) : (cs.drop p).take 1 = [cs[p]] := by
  rw [List.drop_eq_getElem_cons hp, List.take_succ_cons, List.take_zero]
theorem rd3 : Reads enc W base held 3 [.i .i64] := fun fuel cs x h => by
  obtain ⟨n, rfl, _, w⟩ := DataW.trod_int Tryz.underlying3 h
  exact .one ⟨n, rfl, w⟩
theorem rd52 : Reads enc W base held 52 [.i .u64] := fun fuel cs x h => by
  obtain ⟨n, rfl, _, w⟩ := DataW.trod_int Tryz.underlying52 h
  exact .one ⟨n, rfl, w⟩
theorem ArgD.of {cs : List Value} {fuel : Nat} {x : DataW H × List MemPlace} (h : DataW.trod enc Tryz.prog W base (fun _ => true) held fuel 54 cs = some x) : ArgD (topHeap W (view W)) (cs.map (clean W.heap.size)) := by
  obtain ⟨_, _, _, _, hl, _⟩ := DataW.trod_struct Tryz.underlying54 h
  have hl : cs.length = 76 := hl.trans (by kernel_rfl)
  obtain ⟨_, _, q0⟩ := fld Tryz.underlying54 h (i := 0) (z := 1) rfl (by kernel_rfl)
  obtain ⟨_, _, q1⟩ := fld Tryz.underlying54 h (i := 1) (z := 1) rfl (by kernel_rfl)
  obtain ⟨_, _, q2⟩ := fld Tryz.underlying54 h (i := 2) (z := 1) rfl (by kernel_rfl)
  obtain ⟨_, _, q3⟩ := fld Tryz.underlying54 h (i := 3) (z := 1) rfl (by kernel_rfl)
  obtain ⟨_, _, q4⟩ := fld Tryz.underlying54 h (i := 4) (z := 32) rfl (by kernel_rfl)
  obtain ⟨_, _, q5⟩ := fld Tryz.underlying54 h (i := 5) (z := 37) rfl (by kernel_rfl)
  obtain ⟨_, _, q6⟩ := fld Tryz.underlying54 h (i := 6) (z := 2) rfl (by kernel_rfl)
  obtain ⟨_, _, q7⟩ := fld Tryz.underlying54 h (i := 7) (z := 1) rfl (by kernel_rfl)
  have q5 : DataW.trod enc Tryz.prog W base (fun _ => true) held _ 35 ((cs.drop 36).take 37) = some _ := q5
  have q6 : DataW.trod enc Tryz.prog W base (fun _ => true) held _ 37 ((cs.drop 73).take 2) = some _ := q6
  obtain ⟨_, _, m0⟩ := fld Tryz.underlying35 q5 (i := 0) (z := 1) rfl (by kernel_rfl)
  obtain ⟨_, _, m1⟩ := fld Tryz.underlying35 q5 (i := 1) (z := 1) rfl (by kernel_rfl)
  obtain ⟨_, _, m2⟩ := fld Tryz.underlying35 q5 (i := 2) (z := 1) rfl (by kernel_rfl)
  obtain ⟨_, _, m3⟩ := fld Tryz.underlying35 q5 (i := 3) (z := 1) rfl (by kernel_rfl)
  obtain ⟨_, _, m4⟩ := fld Tryz.underlying35 q5 (i := 4) (z := 32) rfl (by kernel_rfl)
  obtain ⟨_, _, m5⟩ := fld Tryz.underlying35 q5 (i := 5) (z := 1) rfl (by kernel_rfl)
  obtain ⟨_, _, p0⟩ := fld Tryz.underlying37 q6 (i := 0) (z := 1) rfl (by kernel_rfl)
  obtain ⟨_, _, p1⟩ := fld Tryz.underlying37 q6 (i := 1) (z := 1) rfl (by kernel_rfl)
  rw [sub_part (by decide)] at m0 m1 m2 m3 m4 m5 p0 p1
  have G0 := Good.typed (W := W) (p := 0) (rd3 _ _ _ q0)
  have G1 := Good.typed (W := W) (p := 1) (rd3 _ _ _ q1)
  have G2 := Good.typed (W := W) (p := 2) (rd3 _ _ _ q2)
  have G3 := Good.typed (W := W) (p := 3) (rd52 _ _ _ q3)
  have G4 := Good.typed (W := W) (p := 4) (rd32 _ _ _ q4)
  have G5 := Good.typed (W := W) (p := 36) (rd3 _ _ _ m0)
  have G6 := Good.typed (W := W) (p := 37) (rd3 _ _ _ m1)
  have G7 := Good.typed (W := W) (p := 38) (rd3 _ _ _ m2)
  have G8 := Good.typed (W := W) (p := 39) (rd3 _ _ _ m3)
  have G9 := Good.typed (W := W) (p := 40) (rd32 _ _ _ m4)
  have GA := Good.typed (W := W) (p := 73) (rd3 _ _ _ p0)
  have GB := Good.typed (W := W) (p := 75) (rd5 _ _ _ q7)
  have m5 : DataW.trod enc Tryz.prog W base (fun _ => true) held _ 33 ((cs.drop 72).take 1) = some _ := m5
  have p1 : DataW.trod enc Tryz.prog W base (fun _ => true) held _ 22 ((cs.drop 74).take 1) = some _ := p1
  rw [one_part (by omega)] at m5 p1
  obtain ⟨sh, sn, sm⟩ := sl33 m5
  obtain ⟨ph, pn, pm⟩ := sl22 p1
  have all : Good W cs 0 76 := by
    intro i _ hi
    simp only [List.length_cons, List.length_nil, List.length_replicate, Nat.zero_add] at G0 G1 G2 G3 G4 G5 G6 G7 G8 G9 GA GB
    rcases Nat.lt_or_ge i 36 with h1 | h1
    · rcases Nat.lt_or_ge i 4 with h2 | h2
      · rcases Nat.lt_or_ge i 2 with h3 | h3
        · rcases Nat.lt_or_ge i 1 with h4 | h4
          · exact G0 i (by omega) (by omega)
          · exact G1 i (by omega) (by omega)
        · rcases Nat.lt_or_ge i 3 with h4 | h4
          · exact G2 i (by omega) (by omega)
          · exact G3 i (by omega) (by omega)
      · exact G4 i (by omega) (by omega)
    · rcases Nat.lt_or_ge i 72 with h2 | h2
      · rcases Nat.lt_or_ge i 40 with h3 | h3
        · rcases Nat.lt_or_ge i 38 with h4 | h4
          · rcases Nat.lt_or_ge i 37 with h5 | h5
            · exact G5 i (by omega) (by omega)
            · exact G6 i (by omega) (by omega)
          · rcases Nat.lt_or_ge i 39 with h5 | h5
            · exact G7 i (by omega) (by omega)
            · exact G8 i (by omega) (by omega)
        · exact G9 i (by omega) (by omega)
      · rcases Nat.lt_or_ge i 73 with h3 | h3
        · obtain rfl : i = 72 := by omega
          exact ⟨_, List.getElem?_eq_getElem (by omega), sh, sm.cell.2⟩
        · rcases Nat.lt_or_ge i 74 with h4 | h4
          · exact GA i (by omega) (by omega)
          · rcases Nat.lt_or_ge i 75 with h5 | h5
            · obtain rfl : i = 74 := by omega
              exact ⟨_, List.getElem?_eq_getElem (by omega), ph, pm.cell.2⟩
            · exact GB i (by omega) (by omega)
  have at_ : ∀ {i : Nat} {v : Value}, cs[i]? = some v → (cs.map (clean W.heap.size))[i]? = some (clean W.heap.size v) := fun h => by rw [List.getElem?_map, h]; rfl
  refine ⟨by rw [List.length_map]; exact hl, all_of_get fun i hi => ?_, all_of_get fun i hi => ?_, ?_, ⟨_, sn, at_ (List.getElem?_eq_getElem (by omega)), sm⟩, ?_⟩
  · rw [List.length_map] at hi
    obtain ⟨v, e, a, b⟩ := all i (Nat.zero_le _) (by omega)
    exact ⟨_, at_ e, b⟩
  · rw [List.length_map] at hi
    obtain ⟨v, e, a, b⟩ := all i (Nat.zero_le _) (by omega)
    exact ⟨_, at_ e, by rw [a]; rfl⟩
  · obtain ⟨v, e, k⟩ := (rd52 _ _ _ q3).2 0 _ rfl
    have e : ((cs.drop 3).take 1)[0]? = some v := e
    rw [List.getElem?_take, if_pos (by decide), List.getElem?_drop] at e
    exact ⟨_, at_ e, by rw [k.clean]; exact k.cell.2.2.2⟩
  · obtain ⟨v, e, k⟩ := (rd3 _ _ _ p0).2 0 _ rfl
    obtain ⟨n, rfl, hw⟩ := k
    have e : ((cs.drop 73).take 1)[0]? = some _ := e
    rw [List.getElem?_take, if_pos (by decide), List.getElem?_drop] at e
    have e' := at_ e
    rw [Kd.has.clean (k := .i .i64) ⟨n, rfl, hw⟩] at e'
    have e2 := at_ (List.getElem?_eq_getElem (show 74 < cs.length by omega))
    refine ⟨n, _, pn, ?_, pm⟩
    refine List.ext_getElem? fun j => ?_
    rw [List.getElem?_take]
    rcases j with _ | _ | j
    · rw [if_pos (by decide), List.getElem?_drop]; exact e'
    · rw [if_pos (by decide), List.getElem?_drop]; exact e2
    · rw [if_neg (by omega)]; rfl
end
end Go.Proofs.YtdhpgacmgebjdaaGreatDoor

