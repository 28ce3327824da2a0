/-
  Printed by a program: the texts of some of the seat's functions, each linked to the program.
  Conditions: none.
  Printed by a program: the texts of some of the seat's functions, each linked to the program.
  Conditions: none.
  Printed by a program: the texts of some of the seat's functions, each linked to the program.
  Conditions: none.
  CRC32C: what the function answers.
  Conditions: the slice's bytes can be read.
  Printed by a program: the texts of some of the seat's functions, each linked to the program.
  Conditions: none.
  Printed by a program: the texts of some of the seat's functions, each linked to the program.
  Conditions: none.
  Printed by a program: the texts of some of the seat's functions, each linked to the program.
  Conditions: none.
  Printed by a program: the texts of some of the seat's functions, each linked to the program.
  Conditions: none.
-/
import Derived.Test.YtcmfgmhadeeieaaG4
import Derived.Test.YtcmfgmhadeeieaaProg
import Derived.KernelRfl
namespace Go.Proofs.Ytcmfgmhadeeieaa
open Go Go.Abs
/-- (*stolon/digest.Reader).U32 -/
noncomputable def t85 (C : CallF) (x0 : Value) (h : Heap) : Out :=
  thenV (some ((.int .u32 0), h)) fun _y2 h =>
  thenV (some (x0, h)) fun y3 h =>
  thenV (C 106 [y3, (.int .i64 4)] h) fun y4 h =>
  thenV (cvI .u32 y4 h) fun y5 h =>
  thenV (some (y5, h)) fun y2_1 h =>
  some (y2_1, h)
theorem t85_eq (C : CallF) (x0 : Value) (h : Heap) : bodyK Try.prog C Try.f85 [x0] h = t85 C x0 h :=
  (bodyB_eq Try.prog C Try.f85 [x0] h (by kernel_rfl)).trans (by kernel_rfl)

/-- (*stolon/digest.Reader).U64 -/
noncomputable def t86 (C : CallF) (x0 : Value) (h : Heap) : Out :=
  thenV (some ((.int .u64 0), h)) fun _y2 h =>
  thenV (some (x0, h)) fun y3 h =>
  thenV (C 106 [y3, (.int .i64 8)] h) fun y4 h =>
  thenV (some (y4, h)) fun y2_1 h =>
  some (y2_1, h)
theorem t86_eq (C : CallF) (x0 : Value) (h : Heap) : bodyK Try.prog C Try.f86 [x0] h = t86 C x0 h :=
  (bodyB_eq Try.prog C Try.f86 [x0] h (by kernel_rfl)).trans (by kernel_rfl)

/-- (*stolon/digest.Reader).U8 -/
noncomputable def t87 (C : CallF) (x0 : Value) (h : Heap) : Out :=
  thenV (some ((.int .u8 0), h)) fun _y2 h =>
  thenV (some (x0, h)) fun y3 h =>
  thenV (C 106 [y3, (.int .i64 1)] h) fun y4 h =>
  thenV (cvI .u8 y4 h) fun y5 h =>
  thenV (some (y5, h)) fun y2_1 h =>
  some (y2_1, h)
theorem t87_eq (C : CallF) (x0 : Value) (h : Heap) : bodyK Try.prog C Try.f87 [x0] h = t87 C x0 h :=
  (bodyB_eq Try.prog C Try.f87 [x0] h (by kernel_rfl)).trans (by kernel_rfl)

/-- (*stolon/digest.Reader).U16 -/
noncomputable def t88 (C : CallF) (x0 : Value) (h : Heap) : Out :=
  thenV (some ((.int .u16 0), h)) fun _y2 h =>
  thenV (some (x0, h)) fun y3 h =>
  thenV (C 106 [y3, (.int .i64 2)] h) fun y4 h =>
  thenV (cvI .u16 y4 h) fun y5 h =>
  thenV (some (y5, h)) fun y2_1 h =>
  some (y2_1, h)
theorem t88_eq (C : CallF) (x0 : Value) (h : Heap) : bodyK Try.prog C Try.f88 [x0] h = t88 C x0 h :=
  (bodyB_eq Try.prog C Try.f88 [x0] h (by kernel_rfl)).trans (by kernel_rfl)

/-- (*stolon/digest.Reader).Raw -/
noncomputable def t89 (C : CallF) (x0 x1 : Value) (h : Heap) : Out :=
  thenV (some ((.slice none 0 0), h)) fun _y4 h =>
  thenV (some (x0, h)) fun y5 h =>
  thenV (some (x1, h)) fun y6 h =>
  thenV (C 108 [y5, y6] h) fun y7 h =>
  thenV (C 107 [y7] h) fun y8 h =>
  thenV (some (y8, h)) fun y4_1 h =>
  some (y4_1, h)
theorem t89_eq (C : CallF) (x0 x1 : Value) (h : Heap) : bodyK Try.prog C Try.f89 [x0, x1] h = t89 C x0 x1 h :=
  (bodyB_eq Try.prog C Try.f89 [x0, x1] h (by kernel_rfl)).trans (by kernel_rfl)

/-- (*stolon/digest.Reader).Err -/
noncomputable def t90 (_C : CallF) (x0 : Value) (h : Heap) : Out :=
  thenV (some ((.int .i64 0), h)) fun _y2 h =>
  thenV (some (x0, h)) fun y3 h =>
  thenV (pu (bin Try.prog .eql 134 y3 (.pointer none)) h) fun y4 h =>
  (match y4 with
  | .bool true =>
  thenV (some ((.int .i64 1), h)) fun y2_1 h =>
  some (y2_1, h)
  | .bool false =>
  thenV (some (x0, h)) fun y5 h =>
  thenV (pu (nilCheckA y5) h) fun y6 h =>
  thenV (pu (addP y6 1) h) fun y7 h =>
  thenV (ld1 y7 h) fun y8 h =>
  thenV (some (y8, h)) fun y2_1 h =>
  some (y2_1, h)
  | _ => none)
theorem t90_eq (C : CallF) (x0 : Value) (h : Heap) : bodyK Try.prog C Try.f90 [x0] h = t90 C x0 h :=
  (bodyB_eq Try.prog C Try.f90 [x0] h (by kernel_rfl)).trans (by kernel_rfl)

noncomputable def k95_2 (C : CallF) (e : Env) (h : Heap) : Out := codeK Try.prog C (partOf Try.f95 [1, 1, 1]) e h (resultsA Try.prog Try.f95.results.toList) (resultsA Try.prog Try.f95.results.toList) (fun _ _ _ => none)
noncomputable def b95_4 (C : CallF) (i : Nat) (e : Env) (h : Heap) : Out := if i = 0 then (k95_2 C) e h else (fun _ _ _ => none) i e h
noncomputable def k95_6 (C : CallF) (e : Env) (h : Heap) : Out := codeK Try.prog C (partOf Try.f95 [1, 1, 1, 1, 1]) e h (resultsA Try.prog Try.f95.results.toList) (resultsA Try.prog Try.f95.results.toList) (fun _ _ _ => none)
noncomputable def b95_8 (C : CallF) (i : Nat) (e : Env) (h : Heap) : Out := if i = 4 then (k95_6 C) e h else (fun _ _ _ => none) i e h
noncomputable def k95_11 (C : CallF) (e : Env) (h : Heap) : Option (Ex × Env × Heap) := codeK Try.prog C (partOf Try.f95 [1, 1, 0, 1, 0, 0, 1, 1, 1]) e h (fun e h => some (Ex.normal, e, h)) (fun e h => some (Ex.ret, e, h)) (fun i e h => some (Ex.exit i, e, h))
noncomputable def b95_12 (C : CallF) (i : Nat) (e : Env) (h : Heap) : Option (Ex × Env × Heap) := if i = 1 then (k95_11 C) e h else (fun i e h => some (Ex.exit i, e, h)) i e h
noncomputable def k95_15 (C : CallF) (e : Env) (h : Heap) : Option (Ex × Env × Heap) := codeK Try.prog C (partOf Try.f95 [1, 1, 0, 1, 0, 0, 1, 1, 0, 0, 1, 1, 1]) e h (k95_11 C) (fun e h => some (Ex.ret, e, h)) (b95_12 C)
noncomputable def b95_17 (C : CallF) (i : Nat) (e : Env) (h : Heap) : Option (Ex × Env × Heap) := if i = 2 then (k95_15 C) e h else (b95_12 C) i e h
/-- stolon/digest.CRC32C -/
noncomputable def t95 (C : CallF) (x0 : Value) (h : Heap) : Out :=
  thenV (some ((.int .u32 0), h)) fun y2 h =>
  thenV (newC (List.replicate 16 (.int .u32 0)) h) fun y3 h =>
  thenV (some ((.int .i64 0), h)) fun y9 h =>
  endL (iter (codeA Try.prog C (partOf Try.f95 [1, 1, 0, 1, 0, 0])) rounds (mkF 54 (up (bs [x0]) [(2, y2), (3, y3), (9, y9)])) h) (resultsA Try.prog Try.f95.results.toList) (b95_4 C)
noncomputable def t95k95_2 (C : CallF) (x : Nat → Value) (h : Heap) : Out :=
  thenV (some ((.int .u32 4294967295), h)) fun y6 h =>
  thenV (some ((x 0), h)) fun y27 h =>
  thenV (pu (lenL y27) h) fun y28 h =>
  thenV (some ((.int .i64 0), h)) fun y29 h =>
  endL (iter (codeA Try.prog C (partOf Try.f95 [1, 1, 1, 1, 0, 1, 0, 0])) rounds (mkF 54 (up x [(6, y6), (27, y27), (28, y28), (29, y29)])) h) (resultsA Try.prog Try.f95.results.toList) (b95_8 C)
noncomputable def t95l95_11010 (C : CallF) (x : Nat → Value) (h : Heap) : Option (Ex × Env × Heap) :=
  thenV (pu (bin Try.prog .lss 3 (x 9) (.int .i64 16)) h) fun y10 h =>
  (match y10 with
  | .bool true =>
  thenV (some ((x 9), h)) fun y11 h =>
  thenV (some (y11, h)) fun y4 h =>
  thenV (some (y4, h)) fun y12 h =>
  thenV (cvI .u32 y12 h) fun y13 h =>
  thenV (some (y13, h)) fun y5 h =>
  thenV (some ((.int .i64 0), h)) fun y14 h =>
  endL (iter (codeA Try.prog C (partOf Try.f95 [1, 1, 0, 1, 0, 0, 1, 1, 0, 0, 1, 1, 0, 1, 0, 0])) rounds (mkF 54 (up x [(4, y4), (5, y5), (10, y10), (11, y11), (12, y12), (13, y13), (14, y14)])) h) (fun e h => some (Ex.ret, e, h)) (b95_17 C)
  | .bool false =>
  some (.exit 0, (mkF 54 (up x [(10, y10)])), h)
  | _ => none)
noncomputable def t95k95_6 (_C : CallF) (x : Nat → Value) (h : Heap) : Out :=
  thenV (some ((x 6), h)) fun y52 h =>
  thenV (pu (unA .xor y52) h) fun y53 h =>
  thenV (some (y53, h)) fun y2 h =>
  some (y2, h)
noncomputable def t95l95_1111010 (_C : CallF) (x : Nat → Value) (h : Heap) : Option (Ex × Env × Heap) :=
  thenV (pu (bin Try.prog .lss 3 (x 29) (x 28)) h) fun y30 h =>
  (match y30 with
  | .bool true =>
  thenV (pu (idxS 1 (x 27) (x 29)) h) fun y31 h =>
  thenV (ld1 y31 h) fun y32 h =>
  thenV (some (y32, h)) fun y8 h =>
  thenV (some ((x 6), h)) fun y33 h =>
  thenV (some (y8, h)) fun y34 h =>
  thenV (cvI .u32 y34 h) fun y35 h =>
  thenV (pu (bin Try.prog .xor 113 y33 y35) h) fun y36 h =>
  thenV (some (y36, h)) fun y6 h =>
  thenV (some (y6, h)) fun y37 h =>
  thenV (pu (bin Try.prog .and 113 y37 (.int .u32 15)) h) fun y38 h =>
  thenV (pu (idxA 16 1 (x 3) y38) h) fun y39 h =>
  thenV (ld1 y39 h) fun y40 h =>
  thenV (some (y6, h)) fun y41 h =>
  thenV (pu (bin Try.prog .shr 113 y41 (.int .u64 4)) h) fun y42 h =>
  thenV (pu (bin Try.prog .xor 113 y40 y42) h) fun y43 h =>
  thenV (some (y43, h)) fun y6_1 h =>
  thenV (some (y6_1, h)) fun y44 h =>
  thenV (pu (bin Try.prog .and 113 y44 (.int .u32 15)) h) fun y45 h =>
  thenV (pu (idxA 16 1 (x 3) y45) h) fun y46 h =>
  thenV (ld1 y46 h) fun y47 h =>
  thenV (some (y6_1, h)) fun y48 h =>
  thenV (pu (bin Try.prog .shr 113 y48 (.int .u64 4)) h) fun y49 h =>
  thenV (pu (bin Try.prog .xor 113 y47 y49) h) fun y50 h =>
  thenV (some (y50, h)) fun y6_2 h =>
  thenV (pu (bin Try.prog .add 3 (x 29) (.int .i64 1)) h) fun y51 h =>
  thenV (some (y51, h)) fun y29 h =>
  some (.normal, (mkF 54 (up x [(6, y6_2), (8, y8), (29, y29), (30, y30), (31, y31), (32, y32), (33, y33), (34, y34), (35, y35), (36, y36), (37, y37), (38, y38), (39, y39), (40, y40), (41, y41), (42, y42), (43, y43), (44, y44), (45, y45), (46, y46), (47, y47), (48, y48), (49, y49), (50, y50), (51, y51)])), h)
  | .bool false =>
  some (.exit 4, (mkF 54 (up x [(30, y30)])), h)
  | _ => none)
noncomputable def t95k95_11 (_C : CallF) (x : Nat → Value) (h : Heap) : Option (Ex × Env × Heap) :=
  thenV (pu (bin Try.prog .add 3 (x 9) (.int .i64 1)) h) fun y26 h =>
  thenV (some (y26, h)) fun y9 h =>
  some (.normal, (mkF 54 (up x [(9, y9), (26, y26)])), h)
noncomputable def t95k95_15 (C : CallF) (x : Nat → Value) (h : Heap) : Option (Ex × Env × Heap) :=
  thenV (some ((x 4), h)) fun y23 h =>
  thenV (some ((x 5), h)) fun y24 h =>
  thenV (pu (idxA 16 1 (x 3) y23) h) fun y25 h =>
  thenV (stN 1 y25 y24 h) fun _ h =>
  k95_11 C (mkF 54 (up x [(23, y23), (24, y24), (25, y25)])) h
noncomputable def t95l95_110100110011010 (_C : CallF) (x : Nat → Value) (h : Heap) : Option (Ex × Env × Heap) :=
  thenV (pu (bin Try.prog .lss 3 (x 14) (.int .i64 4)) h) fun y15 h =>
  (match y15 with
  | .bool true =>
  thenV (some ((x 5), h)) fun y16 h =>
  thenV (pu (bin Try.prog .shr 113 y16 (.int .u64 1)) h) fun y17 h =>
  thenV (some ((x 5), h)) fun y18 h =>
  thenV (pu (bin Try.prog .and 113 y18 (.int .u32 1)) h) fun y19 h =>
  thenV (pu (bin Try.prog .mul 113 (.int .u32 2197175160) y19) h) fun y20 h =>
  thenV (pu (bin Try.prog .xor 113 y17 y20) h) fun y21 h =>
  thenV (some (y21, h)) fun y5 h =>
  thenV (pu (bin Try.prog .add 3 (x 14) (.int .i64 1)) h) fun y22 h =>
  thenV (some (y22, h)) fun y14 h =>
  some (.normal, (mkF 54 (up x [(5, y5), (14, y14), (15, y15), (16, y16), (17, y17), (18, y18), (19, y19), (20, y20), (21, y21), (22, y22)])), h)
  | .bool false =>
  some (.exit 2, (mkF 54 (up x [(15, y15)])), h)
  | _ => none)
theorem t95_eq (C : CallF) (x0 : Value) (h : Heap) : bodyK Try.prog C Try.f95 [x0] h = t95 C x0 h :=
  (bodyB_eq Try.prog C Try.f95 [x0] h (by kernel_rfl)).trans (by kernel_rfl)
theorem t95k95_2_eq (C : CallF) (x : Nat → Value) (h : Heap) : k95_2 C (mkF 54 x) h = t95k95_2 C x h :=
  link_partF (b := (partOf Try.f95 [1, 1, 1])) (kE := (resultsA Try.prog Try.f95.results.toList)) (rE := (resultsA Try.prog Try.f95.results.toList)) (xE := (fun _ _ _ => none)) (T := t95k95_2 C) (fun x h => by kernel_rfl) x h
theorem t95l95_11010_eq (C : CallF) (x : Nat → Value) (h : Heap) : codeA Try.prog C (partOf Try.f95 [1, 1, 0, 1, 0, 0]) (mkF 54 x) h = t95l95_11010 C x h :=
  link_roundF (T := t95l95_11010 C) (fun x h => by kernel_rfl) x h
theorem t95k95_6_eq (C : CallF) (x : Nat → Value) (h : Heap) : k95_6 C (mkF 54 x) h = t95k95_6 C x h :=
  link_partF (b := (partOf Try.f95 [1, 1, 1, 1, 1])) (kE := (resultsA Try.prog Try.f95.results.toList)) (rE := (resultsA Try.prog Try.f95.results.toList)) (xE := (fun _ _ _ => none)) (T := t95k95_6 C) (fun x h => by kernel_rfl) x h
theorem t95l95_1111010_eq (C : CallF) (x : Nat → Value) (h : Heap) : codeA Try.prog C (partOf Try.f95 [1, 1, 1, 1, 0, 1, 0, 0]) (mkF 54 x) h = t95l95_1111010 C x h :=
  link_roundF (T := t95l95_1111010 C) (fun x h => by kernel_rfl) x h
theorem t95k95_11_eq (C : CallF) (x : Nat → Value) (h : Heap) : k95_11 C (mkF 54 x) h = t95k95_11 C x h :=
  link_partF (b := (partOf Try.f95 [1, 1, 0, 1, 0, 0, 1, 1, 1])) (kE := (fun e h => some (Ex.normal, e, h))) (rE := (fun e h => some (Ex.ret, e, h))) (xE := (fun i e h => some (Ex.exit i, e, h))) (T := t95k95_11 C) (fun x h => by kernel_rfl) x h
theorem t95k95_15_eq (C : CallF) (x : Nat → Value) (h : Heap) : k95_15 C (mkF 54 x) h = t95k95_15 C x h :=
  link_partF (b := (partOf Try.f95 [1, 1, 0, 1, 0, 0, 1, 1, 0, 0, 1, 1, 1])) (kE := (k95_11 C)) (rE := (fun e h => some (Ex.ret, e, h))) (xE := (b95_12 C)) (T := t95k95_15 C) (fun x h => by kernel_rfl) x h
theorem t95l95_110100110011010_eq (C : CallF) (x : Nat → Value) (h : Heap) : codeA Try.prog C (partOf Try.f95 [1, 1, 0, 1, 0, 0, 1, 1, 0, 0, 1, 1, 0, 1, 0, 0]) (mkF 54 x) h = t95l95_110100110011010 C x h :=
  link_roundF (T := t95l95_110100110011010 C) (fun x h => by kernel_rfl) x h

/-- stolon/digest.NewReader -/
noncomputable def t105 (C : CallF) (x0 : Value) (h : Heap) : Out :=
  thenV (some ((.pointer none), h)) fun _y2 h =>
  thenV (some (x0, h)) fun y3 h =>
  thenV (C 107 [y3] h) fun y4 h =>
  thenV (pu (bldR [(.slice none 0 0), (.int .i64 0)] [(0, 1, y4)]) h) fun y5 h =>
  thenV (box y5 h) fun y6 h =>
  thenV (some (y6, h)) fun y2_1 h =>
  some (y2_1, h)
theorem t105_eq (C : CallF) (x0 : Value) (h : Heap) : bodyK Try.prog C Try.f105 [x0] h = t105 C x0 h :=
  (bodyB_eq Try.prog C Try.f105 [x0] h (by kernel_rfl)).trans (by kernel_rfl)

noncomputable def k106_2 (C : CallF) (e : Env) (h : Heap) : Out := codeK Try.prog C (partOf Try.f106 [1, 1, 1]) e h (resultsA Try.prog Try.f106.results.toList) (resultsA Try.prog Try.f106.results.toList) (fun _ _ _ => none)
noncomputable def b106_4 (C : CallF) (i : Nat) (e : Env) (h : Heap) : Out := if i = 0 then (k106_2 C) e h else (fun _ _ _ => none) i e h
/-- (*stolon/digest.Reader).number -/
noncomputable def t106 (C : CallF) (x0 x1 : Value) (h : Heap) : Out :=
  thenV (some ((.int .u64 0), h)) fun y4 h =>
  thenV (some ((.int .u64 0), h)) fun y5 h =>
  thenV (some (x0, h)) fun y8 h =>
  thenV (some (x1, h)) fun y9 h =>
  thenV (C 108 [y8, y9] h) fun y10 h =>
  thenV (pu (lenL y10) h) fun y11 h =>
  thenV (some ((.int .i64 0), h)) fun y12 h =>
  endL (iter (codeA Try.prog C (partOf Try.f106 [1, 1, 0, 1, 0, 0])) rounds (mkF 23 (up (bs [x0, x1]) [(4, y4), (5, y5), (8, y8), (9, y9), (10, y10), (11, y11), (12, y12)])) h) (resultsA Try.prog Try.f106.results.toList) (b106_4 C)
noncomputable def t106k106_2 (_C : CallF) (x : Nat → Value) (h : Heap) : Out :=
  thenV (some ((x 5), h)) fun y22 h =>
  thenV (some (y22, h)) fun y4 h =>
  some (y4, h)
noncomputable def t106l106_11010 (_C : CallF) (x : Nat → Value) (h : Heap) : Option (Ex × Env × Heap) :=
  thenV (pu (bin Try.prog .lss 3 (x 12) (x 11)) h) fun y13 h =>
  (match y13 with
  | .bool true =>
  thenV (pu (idxS 1 (x 10) (x 12)) h) fun y14 h =>
  thenV (ld1 y14 h) fun y15 h =>
  thenV (some (y15, h)) fun y7 h =>
  thenV (some ((x 5), h)) fun y16 h =>
  thenV (pu (bin Try.prog .shl 58 y16 (.int .u64 8)) h) fun y17 h =>
  thenV (some (y7, h)) fun y18 h =>
  thenV (cvI .u64 y18 h) fun y19 h =>
  thenV (pu (bin Try.prog .or 58 y17 y19) h) fun y20 h =>
  thenV (some (y20, h)) fun y5 h =>
  thenV (pu (bin Try.prog .add 3 (x 12) (.int .i64 1)) h) fun y21 h =>
  thenV (some (y21, h)) fun y12 h =>
  some (.normal, (mkF 23 (up x [(5, y5), (7, y7), (12, y12), (13, y13), (14, y14), (15, y15), (16, y16), (17, y17), (18, y18), (19, y19), (20, y20), (21, y21)])), h)
  | .bool false =>
  some (.exit 0, (mkF 23 (up x [(13, y13)])), h)
  | _ => none)
theorem t106_eq (C : CallF) (x0 x1 : Value) (h : Heap) : bodyK Try.prog C Try.f106 [x0, x1] h = t106 C x0 x1 h :=
  (bodyB_eq Try.prog C Try.f106 [x0, x1] h (by kernel_rfl)).trans (by kernel_rfl)
theorem t106k106_2_eq (C : CallF) (x : Nat → Value) (h : Heap) : k106_2 C (mkF 23 x) h = t106k106_2 C x h :=
  link_partF (b := (partOf Try.f106 [1, 1, 1])) (kE := (resultsA Try.prog Try.f106.results.toList)) (rE := (resultsA Try.prog Try.f106.results.toList)) (xE := (fun _ _ _ => none)) (T := t106k106_2 C) (fun x h => by kernel_rfl) x h
theorem t106l106_11010_eq (C : CallF) (x : Nat → Value) (h : Heap) : codeA Try.prog C (partOf Try.f106 [1, 1, 0, 1, 0, 0]) (mkF 23 x) h = t106l106_11010 C x h :=
  link_roundF (T := t106l106_11010 C) (fun x h => by kernel_rfl) x h

/-- slices.Clone[[]byte,byte] -/
noncomputable def t107 (_C : CallF) (x0 : Value) (h : Heap) : Out :=
  thenV (some ((.slice none 0 0), h)) fun _y2 h =>
  thenV (some (x0, h)) fun y3 h =>
  thenV (pu (bin Try.prog .eql 32 y3 (.slice none 0 0)) h) fun y4 h =>
  (match y4 with
  | .bool true =>
  thenV (some ((.slice none 0 0), h)) fun y2_1 h =>
  some (y2_1, h)
  | .bool false =>
  thenV (bslR 1 (.int .u8 0) 0 [] h) fun y5 h =>
  thenV (some (x0, h)) fun y6 h =>
  thenV (appendA 1 1 y5 y6 h) fun y7 h =>
  thenV (some (y7, h)) fun y2_1 h =>
  some (y2_1, h)
  | _ => none)
theorem t107_eq (C : CallF) (x0 : Value) (h : Heap) : bodyK Try.prog C Try.f107 [x0] h = t107 C x0 h :=
  (bodyB_eq Try.prog C Try.f107 [x0] h (by kernel_rfl)).trans (by kernel_rfl)

/-- (*stolon/digest.Reader).take -/
noncomputable def t108 (_C : CallF) (x0 x1 : Value) (h : Heap) : Out :=
  thenV (some ((.slice none 0 0), h)) fun _y4 h =>
  thenV (some (x0, h)) fun y6 h =>
  thenV (pu (bin Try.prog .eql 134 y6 (.pointer none)) h) fun y7 h =>
  thenV (some (y7, h)) fun y8 h =>
  thenV (guardK (bOf y8 == some false) (some (x0, h)) h) fun y9 h =>
  thenV (guardK (bOf y8 == some false) (pu (nilCheckA y9) h) h) fun y10 h =>
  thenV (guardK (bOf y8 == some false) (pu (addP y10 1) h) h) fun y11 h =>
  thenV (guardK (bOf y8 == some false) (ld1 y11 h) h) fun y12 h =>
  thenV (guardK (bOf y8 == some false) (pu (bin Try.prog .neq 28 y12 (.int .i64 0)) h) h) fun y13 h =>
  thenV (match y8 with | .bool t => some (if t then (.bool true) else y13, h) | _ => none) fun y14 h =>
  (match y14 with
  | .bool true =>
  thenV (some ((.slice none 0 0), h)) fun y4_1 h =>
  some (y4_1, h)
  | .bool false =>
  thenV (some (x1, h)) fun y16 h =>
  thenV (pu (bin Try.prog .lss 3 y16 (.int .i64 0)) h) fun y17 h =>
  thenV (some (y17, h)) fun y15 h =>
  (match y15 with
  | .bool true =>
  thenV (some (x0, h)) fun y18 h =>
  thenV (pu (nilCheckA y18) h) fun y19 h =>
  thenV (pu (addP y19 1) h) fun y20 h =>
  thenV (stN 1 y20 (.int .i64 2) h) fun _ h =>
  thenV (some ((.slice none 0 0), h)) fun y4_1 h =>
  some (y4_1, h)
  | .bool false =>
  thenV (some (x1, h)) fun y22 h =>
  thenV (some (x0, h)) fun y23 h =>
  thenV (pu (nilCheckA y23) h) fun y24 h =>
  thenV (pu (addP y24 0) h) fun y25 h =>
  thenV (ld1 y25 h) fun y26 h =>
  thenV (pu (lenL y26) h) fun y27 h =>
  thenV (pu (bin Try.prog .gtr 3 y22 y27) h) fun y28 h =>
  thenV (some (y28, h)) fun y21 h =>
  (match y21 with
  | .bool true =>
  thenV (some (x0, h)) fun y29 h =>
  thenV (pu (nilCheckA y29) h) fun y30 h =>
  thenV (pu (addP y30 1) h) fun y31 h =>
  thenV (stN 1 y31 (.int .i64 4) h) fun _ h =>
  thenV (some ((.slice none 0 0), h)) fun y4_1 h =>
  some (y4_1, h)
  | .bool false =>
  thenV (some (x0, h)) fun y32 h =>
  thenV (pu (nilCheckA y32) h) fun y33 h =>
  thenV (pu (addP y33 0) h) fun y34 h =>
  thenV (ld1 y34 h) fun y35 h =>
  thenV (some (x1, h)) fun y36 h =>
  thenV (pu (slR 1 y35 none (some y36) none) h) fun y37 h =>
  thenV (some (y37, h)) fun y5 h =>
  thenV (some (x0, h)) fun y38 h =>
  thenV (some (x0, h)) fun y39 h =>
  thenV (pu (nilCheckA y39) h) fun y40 h =>
  thenV (pu (addP y40 0) h) fun y41 h =>
  thenV (ld1 y41 h) fun y42 h =>
  thenV (some (x1, h)) fun y43 h =>
  thenV (pu (slR 1 y42 (some y43) none none) h) fun y44 h =>
  thenV (pu (nilCheckA y38) h) fun y45 h =>
  thenV (pu (addP y45 0) h) fun y46 h =>
  thenV (stN 1 y46 y44 h) fun _ h =>
  thenV (some (y5, h)) fun y47 h =>
  thenV (some (y47, h)) fun y4_1 h =>
  some (y4_1, h)
  | _ => none)
  | _ => none)
  | _ => none)
theorem t108_eq (C : CallF) (x0 x1 : Value) (h : Heap) : bodyK Try.prog C Try.f108 [x0, x1] h = t108 C x0 x1 h :=
  (bodyB_eq Try.prog C Try.f108 [x0, x1] h (by kernel_rfl)).trans (by kernel_rfl)

end Go.Proofs.Ytcmfgmhadeeieaa

namespace Go.Proofs.Ytcmfgmhadeeieaa
open Go Go.Abs
/-- stolon/disk.Cost -/
noncomputable def t15 (_C : CallF) (x0 : Value) (h : Heap) : Out :=
  thenV (some ((.int .i64 0), h)) fun _y2 h =>
  thenV (some (x0, h)) fun y3 h =>
  thenV (pu (bin Try.prog .leq 3 y3 (.int .i64 106)) h) fun y4 h =>
  (match y4 with
  | .bool true =>
  thenV (some ((.int .i64 1), h)) fun y2_1 h =>
  some (y2_1, h)
  | .bool false =>
  thenV (some (x0, h)) fun y5 h =>
  thenV (pu (bin Try.prog .sub 3 y5 (.int .i64 1)) h) fun y6 h =>
  thenV (pu (bin Try.prog .quo 3 y6 (.int .i64 106)) h) fun y7 h =>
  thenV (pu (bin Try.prog .add 3 y7 (.int .i64 1)) h) fun y8 h =>
  thenV (some (y8, h)) fun y2_1 h =>
  some (y2_1, h)
  | _ => none)
theorem t15_eq (C : CallF) (x0 : Value) (h : Heap) : bodyK Try.prog C Try.f15 [x0] h = t15 C x0 h :=
  (bodyB_eq Try.prog C Try.f15 [x0] h (by kernel_rfl)).trans (by kernel_rfl)

/-- stolon/disk.NewDisk -/
noncomputable def t18 (_C : CallF) (x0 : Value) (h : Heap) : Out :=
  thenV (some ((.pointer none), h)) fun _y2 h =>
  thenV (some ((.int .i64 0), h)) fun _y3 h =>
  thenV (some (x0, h)) fun y4 h =>
  thenV (pu (bin Try.prog .lss 3 y4 (.int .i64 4)) h) fun y5 h =>
  thenV (some (y5, h)) fun y6 h =>
  thenV (guardK (bOf y6 == some false) (some (x0, h)) h) fun y7 h =>
  thenV (guardK (bOf y6 == some false) (pu (bin Try.prog .gtr 3 y7 (.int .i64 4096)) h) h) fun y8 h =>
  thenV (match y6 with | .bool t => some (if t then (.bool true) else y8, h) | _ => none) fun y9 h =>
  (match y9 with
  | .bool true =>
  thenV (some ((.pointer none), h)) fun y2_1 h =>
  thenV (some ((.int .i64 2), h)) fun y3_1 h =>
  some (.tuple #[y2_1, y3_1], h)
  | .bool false =>
  thenV (some (x0, h)) fun y10 h =>
  thenV (mkR 128 128 (.agg (List.replicate 128 (.int .u8 0)).toArray) y10 y10 h) fun y11 h =>
  thenV (pu (bldR [(.slice none 0 0), (.bool false), (.bool false), (.int .i64 0), (.int .i64 0), (.int .i64 0)] [(0, 1, y11)]) h) fun y12 h =>
  thenV (box y12 h) fun y13 h =>
  thenV (some (y13, h)) fun y2_1 h =>
  thenV (some ((.int .i64 0), h)) fun y3_1 h =>
  some (.tuple #[y2_1, y3_1], h)
  | _ => none)
theorem t18_eq (C : CallF) (x0 : Value) (h : Heap) : bodyK Try.prog C Try.f18 [x0] h = t18 C x0 h :=
  (bodyB_eq Try.prog C Try.f18 [x0] h (by kernel_rfl)).trans (by kernel_rfl)

/-- (*stolon/disk.Disk).Write -/
noncomputable def t19 (C : CallF) (x0 x1 x2 : Value) (h : Heap) : Out :=
  thenV (some ((.int .i64 0), h)) fun _y6 h =>
  thenV (some (x0, h)) fun y8 h =>
  thenV (some (x1, h)) fun y9 h =>
  thenV (C 53 [y8, y9] h) fun y10 h =>
  thenV (some (y10, h)) fun y7 h =>
  thenV (some (y7, h)) fun y11 h =>
  thenV (pu (bin Try.prog .neq 28 y11 (.int .i64 0)) h) fun y12 h =>
  (match y12 with
  | .bool true =>
  thenV (some (y7, h)) fun y13 h =>
  thenV (some (y13, h)) fun y6_1 h =>
  some (y6_1, h)
  | .bool false =>
  thenV (some (x2, h)) fun y14 h =>
  thenV (pu (lenL y14) h) fun y15 h =>
  thenV (pu (bin Try.prog .neq 3 y15 (.int .i64 128)) h) fun y16 h =>
  (match y16 with
  | .bool true =>
  thenV (some ((.int .i64 10), h)) fun y6_1 h =>
  some (y6_1, h)
  | .bool false =>
  thenV (some (x0, h)) fun y17 h =>
  thenV (pu (nilCheckA y17) h) fun y18 h =>
  thenV (pu (addP y18 2) h) fun y19 h =>
  thenV (ld1 y19 h) fun y20 h =>
  thenV (pu (unA .not y20) h) fun y21 h =>
  (match y21 with
  | .bool true =>
  thenV (some (x0, h)) fun y22 h =>
  thenV (pu (nilCheckA y22) h) fun y23 h =>
  thenV (pu (addP y23 0) h) fun y24 h =>
  thenV (ld1 y24 h) fun y25 h =>
  thenV (some (x1, h)) fun y26 h =>
  thenV (pu (idxS 128 y25 y26) h) fun y27 h =>
  thenV (pu (sliceArr 128 1 y27 none none none) h) fun y28 h =>
  thenV (some (x2, h)) fun y29 h =>
  thenV (copyA 1 y28 y29 h) fun _y30 h =>
  thenV (some ((.int .i64 0), h)) fun y6_1 h =>
  some (y6_1, h)
  | .bool false =>
  thenV (some (x0, h)) fun y31 h =>
  thenV (pu (nilCheckA y31) h) fun y32 h =>
  thenV (pu (addP y32 3) h) fun y33 h =>
  thenV (ld1 y33 h) fun y34 h =>
  thenV (pu (bin Try.prog .eql 3 y34 (.int .i64 0)) h) fun y35 h =>
  (match y35 with
  | .bool true =>
  thenV (some (x0, h)) fun y36 h =>
  thenV (pu (nilCheckA y36) h) fun y37 h =>
  thenV (pu (addP y37 0) h) fun y38 h =>
  thenV (ld1 y38 h) fun y39 h =>
  thenV (some (x1, h)) fun y40 h =>
  thenV (pu (idxS 128 y39 y40) h) fun y41 h =>
  thenV (pu (sliceArr 128 1 y41 none none none) h) fun y42 h =>
  thenV (some (x2, h)) fun y43 h =>
  thenV (some (x0, h)) fun y44 h =>
  thenV (pu (nilCheckA y44) h) fun y45 h =>
  thenV (pu (addP y45 4) h) fun y46 h =>
  thenV (ld1 y46 h) fun y47 h =>
  thenV (pu (slR 1 y43 none (some y47) none) h) fun y48 h =>
  thenV (copyA 1 y42 y48 h) fun _y49 h =>
  thenV (some (x0, h)) fun y50 h =>
  thenV (C 32 [y50] h) fun _y51 h =>
  thenV (some ((.int .i64 9), h)) fun y6_1 h =>
  some (y6_1, h)
  | .bool false =>
  thenV (some (x0, h)) fun y52 h =>
  thenV (pu (nilCheckA y52) h) fun y53 h =>
  thenV (pu (addP y53 3) h) fun y54 h =>
  thenV (ld1 y54 h) fun y55 h =>
  thenV (pu (bin Try.prog .sub 3 y55 (.int .i64 1)) h) fun y56 h =>
  thenV (pu (nilCheckA y52) h) fun y57 h =>
  thenV (pu (addP y57 3) h) fun y58 h =>
  thenV (stN 1 y58 y56 h) fun _ h =>
  thenV (some (x0, h)) fun y59 h =>
  thenV (pu (nilCheckA y59) h) fun y60 h =>
  thenV (pu (addP y60 0) h) fun y61 h =>
  thenV (ld1 y61 h) fun y62 h =>
  thenV (some (x1, h)) fun y63 h =>
  thenV (pu (idxS 128 y62 y63) h) fun y64 h =>
  thenV (pu (sliceArr 128 1 y64 none none none) h) fun y65 h =>
  thenV (some (x2, h)) fun y66 h =>
  thenV (copyA 1 y65 y66 h) fun _y67 h =>
  thenV (some ((.int .i64 0), h)) fun y6_1 h =>
  some (y6_1, h)
  | _ => none)
  | _ => none)
  | _ => none)
  | _ => none)
theorem t19_eq (C : CallF) (x0 x1 x2 : Value) (h : Heap) : bodyK Try.prog C Try.f19 [x0, x1, x2] h = t19 C x0 x1 x2 h :=
  (bodyB_eq Try.prog C Try.f19 [x0, x1, x2] h (by kernel_rfl)).trans (by kernel_rfl)

/-- (*stolon/disk.Disk).Read -/
noncomputable def t20 (C : CallF) (x0 x1 : Value) (h : Heap) : Out :=
  thenV (some ((.slice none 0 0), h)) fun _y4 h =>
  thenV (some ((.int .i64 0), h)) fun _y5 h =>
  thenV (some (x0, h)) fun y8 h =>
  thenV (some (x1, h)) fun y9 h =>
  thenV (C 53 [y8, y9] h) fun y10 h =>
  thenV (some (y10, h)) fun y6 h =>
  thenV (some (y6, h)) fun y11 h =>
  thenV (pu (bin Try.prog .neq 28 y11 (.int .i64 0)) h) fun y12 h =>
  (match y12 with
  | .bool true =>
  thenV (some (y6, h)) fun y13 h =>
  thenV (some ((.slice none 0 0), h)) fun y4_1 h =>
  thenV (some (y13, h)) fun y5_1 h =>
  some (.tuple #[y4_1, y5_1], h)
  | .bool false =>
  thenV (some (x0, h)) fun y14 h =>
  thenV (pu (nilCheckA y14) h) fun y15 h =>
  thenV (pu (addP y15 0) h) fun y16 h =>
  thenV (ld1 y16 h) fun y17 h =>
  thenV (some (x1, h)) fun y18 h =>
  thenV (pu (idxS 128 y17 y18) h) fun y19 h =>
  thenV (ldN 128 y19 h) fun y20 h =>
  thenV (newC (List.replicate 128 (.int .u8 0)) h) fun y7 h =>
  thenV (stN 128 y7 y20 h) fun _ h =>
  thenV (pu (sliceArr 128 1 y7 none none none) h) fun y21 h =>
  thenV (some (y21, h)) fun y4_1 h =>
  thenV (some ((.int .i64 0), h)) fun y5_1 h =>
  some (.tuple #[y4_1, y5_1], h)
  | _ => none)
theorem t20_eq (C : CallF) (x0 x1 : Value) (h : Heap) : bodyK Try.prog C Try.f20 [x0, x1] h = t20 C x0 x1 h :=
  (bodyB_eq Try.prog C Try.f20 [x0, x1] h (by kernel_rfl)).trans (by kernel_rfl)

/-- (*stolon/disk.Journal).Area -/
noncomputable def t22 (C : CallF) (x0 : Value) (h : Heap) : Out :=
  thenV (some ((.int .i64 0), h)) fun _y2 h =>
  thenV (some (x0, h)) fun y3 h =>
  thenV (C 58 [y3] h) fun y4 h =>
  thenV (pu (bin Try.prog .neq 28 y4 (.int .i64 0)) h) fun y5 h =>
  (match y5 with
  | .bool true =>
  thenV (some ((.int .i64 0), h)) fun y2_1 h =>
  some (y2_1, h)
  | .bool false =>
  thenV (some (x0, h)) fun y6 h =>
  thenV (pu (nilCheckA y6) h) fun y7 h =>
  thenV (pu (addP y7 0) h) fun y8 h =>
  thenV (ld1 y8 h) fun y9 h =>
  thenV (C 55 [y9] h) fun y10 h =>
  thenV (some (y10, h)) fun y2_1 h =>
  some (y2_1, h)
  | _ => none)
theorem t22_eq (C : CallF) (x0 : Value) (h : Heap) : bodyK Try.prog C Try.f22 [x0] h = t22 C x0 h :=
  (bodyB_eq Try.prog C Try.f22 [x0] h (by kernel_rfl)).trans (by kernel_rfl)

noncomputable def k25_5 (C : CallF) (e : Env) (h : Heap) : Out := codeK Try.prog C (partOf Try.f25 [1, 1, 1, 1]) e h (resultsA Try.prog Try.f25.results.toList) (resultsA Try.prog Try.f25.results.toList) (fun _ _ _ => none)
noncomputable def b25_7 (C : CallF) (i : Nat) (e : Env) (h : Heap) : Out := if i = 0 then (k25_5 C) e h else (fun _ _ _ => none) i e h
/-- (*stolon/disk.Disk).Image -/
noncomputable def t25 (C : CallF) (x0 : Value) (h : Heap) : Out :=
  thenV (some ((.slice none 0 0), h)) fun y2 h =>
  thenV (some (x0, h)) fun y5 h =>
  thenV (pu (bin Try.prog .eql 27 y5 (.pointer none)) h) fun y6 h =>
  (match y6 with
  | .bool true =>
  thenV (some ((.slice none 0 0), h)) fun y2_1 h =>
  some (y2_1, h)
  | .bool false =>
  thenV (some (x0, h)) fun y7 h =>
  thenV (pu (nilCheckA y7) h) fun y8 h =>
  thenV (pu (addP y8 0) h) fun y9 h =>
  thenV (ld1 y9 h) fun y10 h =>
  thenV (pu (lenL y10) h) fun y11 h =>
  thenV (pu (bin Try.prog .mul 3 y11 (.int .i64 128)) h) fun y12 h =>
  thenV (mkR 1 1 (.int .u8 0) (.int .i64 0) y12 h) fun y13 h =>
  thenV (some (y13, h)) fun y3 h =>
  thenV (some (x0, h)) fun y14 h =>
  thenV (pu (nilCheckA y14) h) fun y15 h =>
  thenV (pu (addP y15 0) h) fun y16 h =>
  thenV (ld1 y16 h) fun y17 h =>
  thenV (pu (lenL y17) h) fun y18 h =>
  thenV (some ((.int .i64 0), h)) fun y19 h =>
  endL (iter (codeA Try.prog C (partOf Try.f25 [1, 1, 1, 0, 1, 0, 0])) rounds (mkF 33 (up (bs [x0]) [(2, y2), (3, y3), (5, y5), (6, y6), (7, y7), (8, y8), (9, y9), (10, y10), (11, y11), (12, y12), (13, y13), (14, y14), (15, y15), (16, y16), (17, y17), (18, y18), (19, y19)])) h) (resultsA Try.prog Try.f25.results.toList) (b25_7 C)
  | _ => none)
noncomputable def t25k25_5 (_C : CallF) (x : Nat → Value) (h : Heap) : Out :=
  thenV (some ((x 3), h)) fun y32 h =>
  thenV (some (y32, h)) fun y2 h =>
  some (y2, h)
noncomputable def t25l25_111010 (_C : CallF) (x : Nat → Value) (h : Heap) : Option (Ex × Env × Heap) :=
  thenV (pu (bin Try.prog .lss 3 (x 19) (x 18)) h) fun y20 h =>
  (match y20 with
  | .bool true =>
  thenV (some ((x 19), h)) fun y21 h =>
  thenV (some (y21, h)) fun y4 h =>
  thenV (some ((x 3), h)) fun y22 h =>
  thenV (some ((x 0), h)) fun y23 h =>
  thenV (pu (nilCheckA y23) h) fun y24 h =>
  thenV (pu (addP y24 0) h) fun y25 h =>
  thenV (ld1 y25 h) fun y26 h =>
  thenV (some (y4, h)) fun y27 h =>
  thenV (pu (idxS 128 y26 y27) h) fun y28 h =>
  thenV (pu (sliceArr 128 1 y28 none none none) h) fun y29 h =>
  thenV (appendA 1 1 y22 y29 h) fun y30 h =>
  thenV (some (y30, h)) fun y3 h =>
  thenV (pu (bin Try.prog .add 3 (x 19) (.int .i64 1)) h) fun y31 h =>
  thenV (some (y31, h)) fun y19 h =>
  some (.normal, (mkF 33 (up x [(3, y3), (4, y4), (19, y19), (20, y20), (21, y21), (22, y22), (23, y23), (24, y24), (25, y25), (26, y26), (27, y27), (28, y28), (29, y29), (30, y30), (31, y31)])), h)
  | .bool false =>
  some (.exit 0, (mkF 33 (up x [(20, y20)])), h)
  | _ => none)
theorem t25_eq (C : CallF) (x0 : Value) (h : Heap) : bodyK Try.prog C Try.f25 [x0] h = t25 C x0 h :=
  (bodyB_eq Try.prog C Try.f25 [x0] h (by kernel_rfl)).trans (by kernel_rfl)
theorem t25k25_5_eq (C : CallF) (x : Nat → Value) (h : Heap) : k25_5 C (mkF 33 x) h = t25k25_5 C x h :=
  link_partF (b := (partOf Try.f25 [1, 1, 1, 1])) (kE := (resultsA Try.prog Try.f25.results.toList)) (rE := (resultsA Try.prog Try.f25.results.toList)) (xE := (fun _ _ _ => none)) (T := t25k25_5 C) (fun x h => by kernel_rfl) x h
theorem t25l25_111010_eq (C : CallF) (x : Nat → Value) (h : Heap) : codeA Try.prog C (partOf Try.f25 [1, 1, 1, 0, 1, 0, 0]) (mkF 33 x) h = t25l25_111010 C x h :=
  link_roundF (T := t25l25_111010 C) (fun x h => by kernel_rfl) x h

/-- (*stolon/disk.Journal).Free -/
noncomputable def t26 (C : CallF) (x0 : Value) (h : Heap) : Out :=
  thenV (some ((.int .i64 0), h)) fun _y2 h =>
  thenV (some (x0, h)) fun y3 h =>
  thenV (C 58 [y3] h) fun y4 h =>
  thenV (pu (bin Try.prog .neq 28 y4 (.int .i64 0)) h) fun y5 h =>
  thenV (some (y5, h)) fun y6 h =>
  thenV (guardK (bOf y6 == some false) (some (x0, h)) h) fun y7 h =>
  thenV (guardK (bOf y6 == some false) (pu (nilCheckA y7) h) h) fun y8 h =>
  thenV (guardK (bOf y6 == some false) (pu (addP y8 6) h) h) fun y9 h =>
  thenV (guardK (bOf y6 == some false) (ld1 y9 h) h) fun y10 h =>
  thenV (guardK (bOf y6 == some false) (pu (unA .not y10) h) h) fun y11 h =>
  thenV (match y6 with | .bool t => some (if t then (.bool true) else y11, h) | _ => none) fun y12 h =>
  (match y12 with
  | .bool true =>
  thenV (some ((.int .i64 0), h)) fun y2_1 h =>
  some (y2_1, h)
  | .bool false =>
  let g5_0 := h
  thenV (some (x0, g5_0)) fun y13 g5_1 =>
  thenV (pu (nilCheckA y13) g5_1) fun y14 g5_2 =>
  thenV (pu (addP y14 0) g5_2) fun y15 g5_3 =>
  thenV (ld1 y15 g5_3) fun y16 g5_4 =>
  thenV (C 55 [y16] g5_4) fun y17 g5_5 =>
  thenV (some (x0, g5_5)) fun y18 g5_6 =>
  thenV (pu (nilCheckA y18) g5_6) fun y19 g5_7 =>
  thenV (pu (addP y19 7) g5_7) fun y20 g5_8 =>
  thenV (ld1 y20 g5_8) fun y21 g5_9 =>
  thenV (pu (bin Try.prog .sub 3 y17 y21) g5_9) fun y22 g5_10 =>
  thenV (some (y22, g5_10)) fun y2_1 g5_11 =>
  (match (chkR true (ld1 y20 g5_4) y21 && true) with
  | true =>
  let h := g5_11
  some (y2_1, h)
  | false => none)
  | _ => none)
theorem t26_eq (C : CallF) (x0 : Value) (h : Heap) : bodyK Try.prog C Try.f26 [x0] h = t26 C x0 h :=
  (bodyB_eq Try.prog C Try.f26 [x0] h (by kernel_rfl)).trans (by kernel_rfl)

/-- (*stolon/disk.Disk).PowerOff -/
noncomputable def t32 (_C : CallF) (x0 : Value) (h : Heap) : Out :=
  thenV (some (x0, h)) fun y2 h =>
  thenV (pu (bin Try.prog .eql 27 y2 (.pointer none)) h) fun y3 h =>
  thenV (some (y3, h)) fun y4 h =>
  thenV (guardK (bOf y4 == some false) (some (x0, h)) h) fun y5 h =>
  thenV (guardK (bOf y4 == some false) (pu (nilCheckA y5) h) h) fun y6 h =>
  thenV (guardK (bOf y4 == some false) (pu (addP y6 1) h) h) fun y7 h =>
  thenV (guardK (bOf y4 == some false) (ld1 y7 h) h) fun y8 h =>
  thenV (match y4 with | .bool t => some (if t then (.bool true) else y8, h) | _ => none) fun y9 h =>
  (match y9 with
  | .bool true =>
  some (.tuple #[], h)
  | .bool false =>
  thenV (some (x0, h)) fun y10 h =>
  thenV (some (x0, h)) fun y11 h =>
  thenV (pu (nilCheckA y10) h) fun y12 h =>
  thenV (pu (addP y12 1) h) fun y13 h =>
  thenV (stN 1 y13 (.bool true) h) fun _ h =>
  thenV (pu (nilCheckA y11) h) fun y14 h =>
  thenV (pu (addP y14 2) h) fun y15 h =>
  thenV (stN 1 y15 (.bool false) h) fun _ h =>
  thenV (some (x0, h)) fun y16 h =>
  thenV (pu (nilCheckA y16) h) fun y17 h =>
  thenV (pu (addP y17 5) h) fun y18 h =>
  thenV (ld1 y18 h) fun y19 h =>
  thenV (pu (bin Try.prog .add 3 y19 (.int .i64 1)) h) fun y20 h =>
  thenV (pu (nilCheckA y16) h) fun y21 h =>
  thenV (pu (addP y21 5) h) fun y22 h =>
  thenV (stN 1 y22 y20 h) fun _ h =>
  some (.tuple #[], h)
  | _ => none)
theorem t32_eq (C : CallF) (x0 : Value) (h : Heap) : bodyK Try.prog C Try.f32 [x0] h = t32 C x0 h :=
  (bodyB_eq Try.prog C Try.f32 [x0] h (by kernel_rfl)).trans (by kernel_rfl)

/-- (*stolon/disk.Disk).PowerOn -/
noncomputable def t33 (_C : CallF) (x0 : Value) (h : Heap) : Out :=
  thenV (some (x0, h)) fun y2 h =>
  thenV (pu (bin Try.prog .neq 27 y2 (.pointer none)) h) fun y3 h =>
  (match y3 with
  | .bool true =>
  thenV (some (x0, h)) fun y4 h =>
  thenV (some (x0, h)) fun y5 h =>
  thenV (pu (nilCheckA y4) h) fun y6 h =>
  thenV (pu (addP y6 1) h) fun y7 h =>
  thenV (stN 1 y7 (.bool false) h) fun _ h =>
  thenV (pu (nilCheckA y5) h) fun y8 h =>
  thenV (pu (addP y8 2) h) fun y9 h =>
  thenV (stN 1 y9 (.bool false) h) fun _ h =>
  some (.tuple #[], h)
  | .bool false =>
  some (.tuple #[], h)
  | _ => none)
theorem t33_eq (C : CallF) (x0 : Value) (h : Heap) : bodyK Try.prog C Try.f33 [x0] h = t33 C x0 h :=
  (bodyB_eq Try.prog C Try.f33 [x0] h (by kernel_rfl)).trans (by kernel_rfl)

/-- (*stolon/disk.Disk).Down -/
noncomputable def t36 (_C : CallF) (x0 : Value) (h : Heap) : Out :=
  thenV (some ((.bool false), h)) fun _y2 h =>
  thenV (some (x0, h)) fun y3 h =>
  thenV (pu (bin Try.prog .neq 27 y3 (.pointer none)) h) fun y4 h =>
  thenV (some (y4, h)) fun y5 h =>
  thenV (guardK (bOf y5 == some true) (some (x0, h)) h) fun y6 h =>
  thenV (guardK (bOf y5 == some true) (pu (nilCheckA y6) h) h) fun y7 h =>
  thenV (guardK (bOf y5 == some true) (pu (addP y7 1) h) h) fun y8 h =>
  thenV (guardK (bOf y5 == some true) (ld1 y8 h) h) fun y9 h =>
  thenV (match y5 with | .bool t => some (if t then y9 else (.bool false), h) | _ => none) fun y10 h =>
  thenV (some (y10, h)) fun y2_1 h =>
  some (y2_1, h)
theorem t36_eq (C : CallF) (x0 : Value) (h : Heap) : bodyK Try.prog C Try.f36 [x0] h = t36 C x0 h :=
  (bodyB_eq Try.prog C Try.f36 [x0] h (by kernel_rfl)).trans (by kernel_rfl)

/-- (*stolon/disk.Disk).Arm -/
noncomputable def t48 (_C : CallF) (x0 x1 x2 : Value) (h : Heap) : Out :=
  thenV (some ((.int .i64 0), h)) fun _y6 h =>
  thenV (some (x0, h)) fun y8 h =>
  thenV (pu (bin Try.prog .eql 27 y8 (.pointer none)) h) fun y9 h =>
  thenV (some (y9, h)) fun y7 h =>
  (match y7 with
  | .bool true =>
  thenV (some ((.int .i64 1), h)) fun y6_1 h =>
  some (y6_1, h)
  | .bool false =>
  thenV (some (x0, h)) fun y11 h =>
  thenV (pu (nilCheckA y11) h) fun y12 h =>
  thenV (pu (addP y12 1) h) fun y13 h =>
  thenV (ld1 y13 h) fun y14 h =>
  thenV (some (y14, h)) fun y10 h =>
  (match y10 with
  | .bool true =>
  thenV (some ((.int .i64 9), h)) fun y6_1 h =>
  some (y6_1, h)
  | .bool false =>
  thenV (some (x1, h)) fun y16 h =>
  thenV (pu (bin Try.prog .lss 3 y16 (.int .i64 0)) h) fun y17 h =>
  thenV (some (y17, h)) fun y18 h =>
  thenV (guardK (bOf y18 == some false) (some (x2, h)) h) fun y19 h =>
  thenV (guardK (bOf y18 == some false) (pu (bin Try.prog .lss 3 y19 (.int .i64 0)) h) h) fun y20 h =>
  thenV (match y18 with | .bool t => some (if t then (.bool true) else y20, h) | _ => none) fun y21 h =>
  thenV (some (y21, h)) fun y22 h =>
  thenV (guardK (bOf y22 == some false) (some (x2, h)) h) fun y23 h =>
  thenV (guardK (bOf y22 == some false) (pu (bin Try.prog .gtr 3 y23 (.int .i64 128)) h) h) fun y24 h =>
  thenV (match y22 with | .bool t => some (if t then (.bool true) else y24, h) | _ => none) fun y25 h =>
  thenV (some (y25, h)) fun y15 h =>
  (match y15 with
  | .bool true =>
  thenV (some ((.int .i64 2), h)) fun y6_1 h =>
  some (y6_1, h)
  | .bool false =>
  thenV (some (x0, h)) fun y26 h =>
  thenV (some (x0, h)) fun y27 h =>
  thenV (some (x0, h)) fun y28 h =>
  thenV (some (x1, h)) fun y29 h =>
  thenV (some (x2, h)) fun y30 h =>
  thenV (pu (nilCheckA y26) h) fun y31 h =>
  thenV (pu (addP y31 2) h) fun y32 h =>
  thenV (stN 1 y32 (.bool true) h) fun _ h =>
  thenV (pu (nilCheckA y27) h) fun y33 h =>
  thenV (pu (addP y33 3) h) fun y34 h =>
  thenV (stN 1 y34 y29 h) fun _ h =>
  thenV (pu (nilCheckA y28) h) fun y35 h =>
  thenV (pu (addP y35 4) h) fun y36 h =>
  thenV (stN 1 y36 y30 h) fun _ h =>
  thenV (some ((.int .i64 0), h)) fun y6_1 h =>
  some (y6_1, h)
  | _ => none)
  | _ => none)
  | _ => none)
theorem t48_eq (C : CallF) (x0 x1 x2 : Value) (h : Heap) : bodyK Try.prog C Try.f48 [x0, x1, x2] h = t48 C x0 x1 x2 h :=
  (bodyB_eq Try.prog C Try.f48 [x0, x1, x2] h (by kernel_rfl)).trans (by kernel_rfl)

/-- (*stolon/disk.Disk).Blocks -/
noncomputable def t50 (_C : CallF) (x0 : Value) (h : Heap) : Out :=
  thenV (some ((.int .i64 0), h)) fun _y2 h =>
  thenV (some (x0, h)) fun y3 h =>
  thenV (pu (bin Try.prog .eql 27 y3 (.pointer none)) h) fun y4 h =>
  (match y4 with
  | .bool true =>
  thenV (some ((.int .i64 0), h)) fun y2_1 h =>
  some (y2_1, h)
  | .bool false =>
  thenV (some (x0, h)) fun y5 h =>
  thenV (pu (nilCheckA y5) h) fun y6 h =>
  thenV (pu (addP y6 0) h) fun y7 h =>
  thenV (ld1 y7 h) fun y8 h =>
  thenV (pu (lenL y8) h) fun y9 h =>
  thenV (some (y9, h)) fun y2_1 h =>
  some (y2_1, h)
  | _ => none)
theorem t50_eq (C : CallF) (x0 : Value) (h : Heap) : bodyK Try.prog C Try.f50 [x0] h = t50 C x0 h :=
  (bodyB_eq Try.prog C Try.f50 [x0] h (by kernel_rfl)).trans (by kernel_rfl)

/-- (*stolon/disk.Disk).fault -/
noncomputable def t53 (_C : CallF) (x0 x1 : Value) (h : Heap) : Out :=
  thenV (some ((.int .i64 0), h)) fun _y4 h =>
  thenV (some (x0, h)) fun y6 h =>
  thenV (pu (bin Try.prog .eql 27 y6 (.pointer none)) h) fun y7 h =>
  thenV (some (y7, h)) fun y5 h =>
  (match y5 with
  | .bool true =>
  thenV (some ((.int .i64 1), h)) fun y4_1 h =>
  some (y4_1, h)
  | .bool false =>
  thenV (some (x0, h)) fun y9 h =>
  thenV (pu (nilCheckA y9) h) fun y10 h =>
  thenV (pu (addP y10 1) h) fun y11 h =>
  thenV (ld1 y11 h) fun y12 h =>
  thenV (some (y12, h)) fun y8 h =>
  (match y8 with
  | .bool true =>
  thenV (some ((.int .i64 9), h)) fun y4_1 h =>
  some (y4_1, h)
  | .bool false =>
  thenV (some (x1, h)) fun y14 h =>
  thenV (pu (bin Try.prog .lss 3 y14 (.int .i64 0)) h) fun y15 h =>
  thenV (some (y15, h)) fun y16 h =>
  thenV (guardK (bOf y16 == some false) (some (x1, h)) h) fun y17 h =>
  thenV (guardK (bOf y16 == some false) (some (x0, h)) h) fun y18 h =>
  thenV (guardK (bOf y16 == some false) (pu (nilCheckA y18) h) h) fun y19 h =>
  thenV (guardK (bOf y16 == some false) (pu (addP y19 0) h) h) fun y20 h =>
  thenV (guardK (bOf y16 == some false) (ld1 y20 h) h) fun y21 h =>
  thenV (guardK (bOf y16 == some false) (pu (lenL y21) h) h) fun y22 h =>
  thenV (guardK (bOf y16 == some false) (pu (bin Try.prog .geq 3 y17 y22) h) h) fun y23 h =>
  thenV (match y16 with | .bool t => some (if t then (.bool true) else y23, h) | _ => none) fun y24 h =>
  thenV (some (y24, h)) fun y13 h =>
  (match y13 with
  | .bool true =>
  thenV (some ((.int .i64 2), h)) fun y4_1 h =>
  some (y4_1, h)
  | .bool false =>
  thenV (some ((.int .i64 0), h)) fun y4_1 h =>
  some (y4_1, h)
  | _ => none)
  | _ => none)
  | _ => none)
theorem t53_eq (C : CallF) (x0 x1 : Value) (h : Heap) : bodyK Try.prog C Try.f53 [x0, x1] h = t53 C x0 x1 h :=
  (bodyB_eq Try.prog C Try.f53 [x0, x1] h (by kernel_rfl)).trans (by kernel_rfl)

/-- (*stolon/disk.Disk).super -/
noncomputable def t54 (C : CallF) (x0 x1 : Value) (h : Heap) : Out :=
  thenV (some ((.int .u64 0), h)) fun _y4 h =>
  thenV (some ((.int .i64 0), h)) fun _y5 h =>
  thenV (some ((.bool false), h)) fun _y6 h =>
  thenV (some (x0, h)) fun y11 h =>
  thenV (some (x1, h)) fun y12 h =>
  thenV (C 84 [y11, y12] h) fun y13 h =>
  thenV (some (y13, h)) fun y10 h =>
  thenV (pu (extractA y10 0) h) fun y14 h =>
  thenV (pu (extractA y10 1) h) fun y15 h =>
  thenV (some (y14, h)) fun y7 h =>
  thenV (some (y15, h)) fun y8 h =>
  thenV (some (y7, h)) fun y16 h =>
  thenV (C 85 [y16] h) fun y17 h =>
  thenV (some (y17, h)) fun y9 h =>
  thenV (some (y7, h)) fun y18 h =>
  thenV (C 86 [y18] h) fun y19 h =>
  thenV (some (y7, h)) fun y20 h =>
  thenV (C 87 [y20] h) fun y21 h =>
  thenV (cvI .i64 y21 h) fun y22 h =>
  thenV (some (y19, h)) fun y4_1 h =>
  thenV (some (y22, h)) fun y5_1 h =>
  thenV (some (y4_1, h)) fun y23 h =>
  thenV (some (y5_1, h)) fun y24 h =>
  thenV (some (y8, h)) fun y25 h =>
  thenV (some (y25, h)) fun y26 h =>
  thenV (guardK (bOf y26 == some true) (some (y9, h)) h) fun y27 h =>
  thenV (guardK (bOf y26 == some true) (pu (bin Try.prog .eql 113 y27 (.int .u32 1398034252)) h) h) fun y28 h =>
  thenV (match y26 with | .bool t => some (if t then y28 else (.bool false), h) | _ => none) fun y29 h =>
  thenV (some (y29, h)) fun y30 h =>
  thenV (guardK (bOf y30 == some true) (some (y5_1, h)) h) fun y31 h =>
  thenV (guardK (bOf y30 == some true) (pu (bin Try.prog .leq 3 y31 (.int .i64 1)) h) h) fun y32 h =>
  thenV (match y30 with | .bool t => some (if t then y32 else (.bool false), h) | _ => none) fun y33 h =>
  thenV (some (y23, h)) fun y4_2 h =>
  thenV (some (y24, h)) fun y5_2 h =>
  thenV (some (y33, h)) fun y6_1 h =>
  some (.tuple #[y4_2, y5_2, y6_1], h)
theorem t54_eq (C : CallF) (x0 x1 : Value) (h : Heap) : bodyK Try.prog C Try.f54 [x0, x1] h = t54 C x0 x1 h :=
  (bodyB_eq Try.prog C Try.f54 [x0, x1] h (by kernel_rfl)).trans (by kernel_rfl)

/-- (*stolon/disk.Disk).area -/
noncomputable def t55 (_C : CallF) (x0 : Value) (h : Heap) : Out :=
  thenV (some ((.int .i64 0), h)) fun _y2 h =>
  thenV (some (x0, h)) fun y3 h =>
  thenV (pu (nilCheckA y3) h) fun y4 h =>
  thenV (pu (addP y4 0) h) fun y5 h =>
  thenV (ld1 y5 h) fun y6 h =>
  thenV (pu (lenL y6) h) fun y7 h =>
  thenV (pu (bin Try.prog .sub 3 y7 (.int .i64 2)) h) fun y8 h =>
  thenV (pu (bin Try.prog .quo 3 y8 (.int .i64 2)) h) fun y9 h =>
  thenV (some (y9, h)) fun y2_1 h =>
  some (y2_1, h)
theorem t55_eq (C : CallF) (x0 : Value) (h : Heap) : bodyK Try.prog C Try.f55 [x0] h = t55 C x0 h :=
  (bodyB_eq Try.prog C Try.f55 [x0] h (by kernel_rfl)).trans (by kernel_rfl)

/-- (*stolon/disk.Disk).log -/
noncomputable def t56 (C : CallF) (x0 x1 x2 : Value) (h : Heap) : Out :=
  thenV (newC [(.int .u64 0), (.int .i64 0), (.int .i64 0), (.slice none 0 0)] h) fun y6 h =>
  thenV (some ((.bool false), h)) fun _y7 h =>
  thenV (some (x0, h)) fun y14 h =>
  thenV (some (x1, h)) fun y15 h =>
  thenV (some (x0, h)) fun y16 h =>
  thenV (C 55 [y16] h) fun y17 h =>
  thenV (pu (bin Try.prog .mul 3 y15 y17) h) fun y18 h =>
  thenV (pu (bin Try.prog .add 3 (.int .i64 2) y18) h) fun y19 h =>
  thenV (some (x2, h)) fun y20 h =>
  thenV (pu (bin Try.prog .add 3 y19 y20) h) fun y21 h =>
  thenV (C 84 [y14, y21] h) fun y22 h =>
  thenV (some (y22, h)) fun y13 h =>
  thenV (pu (extractA y13 0) h) fun y23 h =>
  thenV (pu (extractA y13 1) h) fun y24 h =>
  thenV (some (y23, h)) fun y8 h =>
  thenV (some (y24, h)) fun y9 h =>
  thenV (some (y8, h)) fun y25 h =>
  thenV (C 86 [y25] h) fun y26 h =>
  thenV (pu (bldR [(.int .u64 0), (.int .i64 0), (.int .i64 0), (.slice none 0 0)] [(0, 1, y26)]) h) fun y27 h =>
  thenV (newC [(.int .u64 0), (.int .i64 0), (.int .i64 0), (.slice none 0 0)] h) fun y10 h =>
  thenV (stN 4 y10 y27 h) fun _ h =>
  thenV (some (y8, h)) fun y28 h =>
  thenV (C 85 [y28] h) fun y29 h =>
  thenV (cvI .i64 y29 h) fun y30 h =>
  thenV (some (y30, h)) fun y11 h =>
  thenV (some (y8, h)) fun y31 h =>
  thenV (C 88 [y31] h) fun y32 h =>
  thenV (cvI .i64 y32 h) fun y33 h =>
  thenV (some (y8, h)) fun y34 h =>
  thenV (C 88 [y34] h) fun y35 h =>
  thenV (cvI .i64 y35 h) fun y36 h =>
  thenV (pu (addP y10 1) h) fun y37 h =>
  thenV (stN 1 y37 y33 h) fun _ h =>
  thenV (pu (addP y10 2) h) fun y38 h =>
  thenV (stN 1 y38 y36 h) fun _ h =>
  thenV (some (y8, h)) fun y39 h =>
  thenV (some (y8, h)) fun y40 h =>
  thenV (C 88 [y40] h) fun y41 h =>
  thenV (cvI .i64 y41 h) fun y42 h =>
  thenV (C 89 [y39, y42] h) fun y43 h =>
  thenV (pu (addP y10 3) h) fun y44 h =>
  thenV (stN 1 y44 y43 h) fun _ h =>
  thenV (some (y9, h)) fun y45 h =>
  thenV (some (y45, h)) fun y46 h =>
  thenV (guardK (bOf y46 == some true) (some (y11, h)) h) fun y47 h =>
  thenV (guardK (bOf y46 == some true) (some (x2, h)) h) fun y48 h =>
  thenV (guardK (bOf y46 == some true) (pu (bin Try.prog .eql 3 y47 y48) h) h) fun y49 h =>
  thenV (match y46 with | .bool t => some (if t then y49 else (.bool false), h) | _ => none) fun y50 h =>
  thenV (some (y50, h)) fun y51 h =>
  thenV (guardK (bOf y51 == some true) (pu (addP y10 2) h) h) fun y52 h =>
  thenV (guardK (bOf y51 == some true) (ld1 y52 h) h) fun y53 h =>
  thenV (guardK (bOf y51 == some true) (pu (bin Try.prog .geq 3 y53 (.int .i64 1)) h) h) fun y54 h =>
  thenV (match y51 with | .bool t => some (if t then y54 else (.bool false), h) | _ => none) fun y55 h =>
  thenV (some (y55, h)) fun y56 h =>
  thenV (guardK (bOf y56 == some true) (pu (addP y10 1) h) h) fun y57 h =>
  thenV (guardK (bOf y56 == some true) (ld1 y57 h) h) fun y58 h =>
  thenV (guardK (bOf y56 == some true) (pu (addP y10 2) h) h) fun y59 h =>
  thenV (guardK (bOf y56 == some true) (ld1 y59 h) h) fun y60 h =>
  thenV (guardK (bOf y56 == some true) (pu (bin Try.prog .lss 3 y58 y60) h) h) fun y61 h =>
  thenV (match y56 with | .bool t => some (if t then y61 else (.bool false), h) | _ => none) fun y62 h =>
  thenV (some (y62, h)) fun y63 h =>
  thenV (guardK (bOf y63 == some true) (some (y8, h)) h) fun y64 h =>
  thenV (guardK (bOf y63 == some true) (C 90 [y64] h) h) fun y65 h =>
  thenV (guardK (bOf y63 == some true) (pu (bin Try.prog .eql 28 y65 (.int .i64 0)) h) h) fun y66 h =>
  thenV (match y63 with | .bool t => some (if t then y66 else (.bool false), h) | _ => none) fun y67 h =>
  thenV (some (y67, h)) fun y12 h =>
  thenV (ldN 4 y10 h) fun y68 h =>
  thenV (some (y12, h)) fun y69 h =>
  thenV (stN 4 y6 y68 h) fun _ h =>
  thenV (some (y69, h)) fun y7_1 h =>
  resultsA Try.prog Try.f56.results.toList (mkF 70 (up (bs [x0, x1, x2]) [(6, y6), (7, y7_1), (8, y8), (9, y9), (10, y10), (11, y11), (12, y12), (13, y13), (14, y14), (15, y15), (16, y16), (17, y17), (18, y18), (19, y19), (20, y20), (21, y21), (22, y22), (23, y23), (24, y24), (25, y25), (26, y26), (27, y27), (28, y28), (29, y29), (30, y30), (31, y31), (32, y32), (33, y33), (34, y34), (35, y35), (36, y36), (37, y37), (38, y38), (39, y39), (40, y40), (41, y41), (42, y42), (43, y43), (44, y44), (45, y45), (46, y46), (47, y47), (48, y48), (49, y49), (50, y50), (51, y51), (52, y52), (53, y53), (54, y54), (55, y55), (56, y56), (57, y57), (58, y58), (59, y59), (60, y60), (61, y61), (62, y62), (63, y63), (64, y64), (65, y65), (66, y66), (67, y67), (68, y68), (69, y69)])) h
theorem t56_eq (C : CallF) (x0 x1 x2 : Value) (h : Heap) : bodyK Try.prog C Try.f56 [x0, x1, x2] h = t56 C x0 x1 x2 h :=
  (bodyB_eq Try.prog C Try.f56 [x0, x1, x2] h (by kernel_rfl)).trans (by kernel_rfl)

noncomputable def k57_7 (C : CallF) (e : Env) (h : Heap) : Out := codeK Try.prog C (partOf Try.f57 [1, 1, 1, 1, 1, 1]) e h (resultsA Try.prog Try.f57.results.toList) (resultsA Try.prog Try.f57.results.toList) (fun _ _ _ => none)
noncomputable def b57_9 (C : CallF) (i : Nat) (e : Env) (h : Heap) : Out := if i = 0 then (k57_7 C) e h else (fun _ _ _ => none) i e h
/-- (*stolon/disk.Journal).record -/
noncomputable def t57 (C : CallF) (x0 x1 : Value) (h : Heap) : Out :=
  thenV (some ((.slice none 0 0), h)) fun y4 h =>
  thenV (some ((.int .i64 0), h)) fun y5 h =>
  thenV (some (x0, h)) fun y12 h =>
  thenV (pu (nilCheckA y12) h) fun y13 h =>
  thenV (pu (addP y13 0) h) fun y14 h =>
  thenV (ld1 y14 h) fun y15 h =>
  thenV (C 55 [y15] h) fun y16 h =>
  thenV (some (y16, h)) fun y6 h =>
  thenV (some (x0, h)) fun y17 h =>
  thenV (pu (nilCheckA y17) h) fun y18 h =>
  thenV (pu (addP y18 2) h) fun y19 h =>
  thenV (ld1 y19 h) fun y20 h =>
  thenV (pu (bin Try.prog .lss 3 y20 (.int .i64 0)) h) fun y21 h =>
  thenV (some (y21, h)) fun y22 h =>
  thenV (guardK (bOf y22 == some false) (some (x1, h)) h) fun y23 h =>
  thenV (guardK (bOf y22 == some false) (pu (bin Try.prog .lss 3 y23 (.int .i64 0)) h) h) fun y24 h =>
  thenV (match y22 with | .bool t => some (if t then (.bool true) else y24, h) | _ => none) fun y25 h =>
  thenV (some (y25, h)) fun y26 h =>
  thenV (guardK (bOf y26 == some false) (some (x1, h)) h) fun y27 h =>
  thenV (guardK (bOf y26 == some false) (some (y6, h)) h) fun y28 h =>
  thenV (guardK (bOf y26 == some false) (pu (bin Try.prog .geq 3 y27 y28) h) h) fun y29 h =>
  thenV (match y26 with | .bool t => some (if t then (.bool true) else y29, h) | _ => none) fun y30 h =>
  (match y30 with
  | .bool true =>
  thenV (some ((.slice none 0 0), h)) fun y4_1 h =>
  thenV (some ((.int .i64 0), h)) fun y5_1 h =>
  some (.tuple #[y4_1, y5_1], h)
  | .bool false =>
  thenV (some ((.slice none 0 0), h)) fun y7 h =>
  thenV (some ((.int .i64 1), h)) fun y8 h =>
  thenV (some ((.int .i64 0), h)) fun y9 h =>
  endL (iter (codeA Try.prog C (partOf Try.f57 [1, 1, 1, 1, 1, 0, 1, 0, 0])) rounds (mkF 89 (up (bs [x0, x1]) [(4, y4), (5, y5), (6, y6), (7, y7), (8, y8), (9, y9), (12, y12), (13, y13), (14, y14), (15, y15), (16, y16), (17, y17), (18, y18), (19, y19), (20, y20), (21, y21), (22, y22), (23, y23), (24, y24), (25, y25), (26, y26), (27, y27), (28, y28), (29, y29), (30, y30)])) h) (resultsA Try.prog Try.f57.results.toList) (b57_9 C)
  | _ => none)
noncomputable def t57k57_7 (_C : CallF) (x : Nat → Value) (h : Heap) : Out :=
  thenV (some ((x 7), h)) fun y87 h =>
  thenV (some ((x 8), h)) fun y88 h =>
  thenV (some (y87, h)) fun y4 h =>
  thenV (some (y88, h)) fun y5 h =>
  some (.tuple #[y4, y5], h)
noncomputable def t57l57_11111010 (C : CallF) (x : Nat → Value) (h : Heap) : Option (Ex × Env × Heap) :=
  thenV (some ((x 9), h)) fun y31 h =>
  thenV (some ((x 8), h)) fun y32 h =>
  thenV (pu (bin Try.prog .lss 3 y31 y32) h) fun y33 h =>
  (match y33 with
  | .bool true =>
  thenV (some ((x 1), h)) fun y36 h =>
  thenV (some ((x 9), h)) fun y37 h =>
  thenV (pu (bin Try.prog .add 3 y36 y37) h) fun y38 h =>
  thenV (some ((x 6), h)) fun y39 h =>
  thenV (pu (bin Try.prog .geq 3 y38 y39) h) fun y40 h =>
  (match y40 with
  | .bool true =>
  thenV (some ((.slice none 0 0), h)) fun y4 h =>
  thenV (some ((.int .i64 0), h)) fun y5 h =>
  some (.ret, (mkF 89 (up x [(4, y4), (5, y5), (31, y31), (32, y32), (33, y33), (36, y36), (37, y37), (38, y38), (39, y39), (40, y40)])), h)
  | .bool false =>
  thenV (some ((x 0), h)) fun y42 h =>
  thenV (pu (nilCheckA y42) h) fun y43 h =>
  thenV (pu (addP y43 0) h) fun y44 h =>
  thenV (ld1 y44 h) fun y45 h =>
  thenV (some ((x 0), h)) fun y46 h =>
  thenV (pu (nilCheckA y46) h) fun y47 h =>
  thenV (pu (addP y47 3) h) fun y48 h =>
  thenV (ld1 y48 h) fun y49 h =>
  thenV (some ((x 1), h)) fun y50 h =>
  thenV (some ((x 9), h)) fun y51 h =>
  thenV (pu (bin Try.prog .add 3 y50 y51) h) fun y52 h =>
  thenV (C 56 [y45, y49, y52] h) fun y53 h =>
  thenV (some (y53, h)) fun y41 h =>
  thenV (pu (extractA y41 0) h) fun y54 h =>
  thenV (pu (extractA y41 1) h) fun y55 h =>
  thenV (newC [(.int .u64 0), (.int .i64 0), (.int .i64 0), (.slice none 0 0)] h) fun y10 h =>
  thenV (stN 4 y10 y54 h) fun _ h =>
  thenV (some (y55, h)) fun y11 h =>
  thenV (some ((x 9), h)) fun y56 h =>
  thenV (pu (bin Try.prog .eql 3 y56 (.int .i64 0)) h) fun y57 h =>
  (match y57 with
  | .bool true =>
  thenV (pu (addP y10 2) h) fun y58 h =>
  thenV (ld1 y58 h) fun y59 h =>
  thenV (some (y59, h)) fun y8 h =>
  thenV (some (y11, h)) fun y60 h =>
  thenV (pu (unA .not y60) h) fun y61 h =>
  thenV (some (y61, h)) fun y62 h =>
  thenV (guardK (bOf y62 == some false) (pu (addP y10 0) h) h) fun y63 h =>
  thenV (guardK (bOf y62 == some false) (ld1 y63 h) h) fun y64 h =>
  thenV (guardK (bOf y62 == some false) (some ((x 0), h)) h) fun y65 h =>
  thenV (guardK (bOf y62 == some false) (pu (nilCheckA y65) h) h) fun y66 h =>
  thenV (guardK (bOf y62 == some false) (pu (addP y66 4) h) h) fun y67 h =>
  thenV (guardK (bOf y62 == some false) (ld1 y67 h) h) fun y68 h =>
  thenV (guardK (bOf y62 == some false) (pu (bin Try.prog .neq 58 y64 y68) h) h) fun y69 h =>
  thenV (match y62 with | .bool t => some (if t then (.bool true) else y69, h) | _ => none) fun y70 h =>
  thenV (some (y70, h)) fun y71 h =>
  thenV (guardK (bOf y71 == some false) (pu (addP y10 1) h) h) fun y72 h =>
  thenV (guardK (bOf y71 == some false) (ld1 y72 h) h) fun y73 h =>
  thenV (guardK (bOf y71 == some false) (some ((x 9), h)) h) fun y74 h =>
  thenV (guardK (bOf y71 == some false) (pu (bin Try.prog .neq 3 y73 y74) h) h) fun y75 h =>
  thenV (match y71 with | .bool t => some (if t then (.bool true) else y75, h) | _ => none) fun y76 h =>
  thenV (some (y76, h)) fun y77 h =>
  thenV (guardK (bOf y77 == some false) (pu (addP y10 2) h) h) fun y78 h =>
  thenV (guardK (bOf y77 == some false) (ld1 y78 h) h) fun y79 h =>
  thenV (guardK (bOf y77 == some false) (some (y8, h)) h) fun y80 h =>
  thenV (guardK (bOf y77 == some false) (pu (bin Try.prog .neq 3 y79 y80) h) h) fun y81 h =>
  thenV (match y77 with | .bool t => some (if t then (.bool true) else y81, h) | _ => none) fun y82 h =>
  (match y82 with
  | .bool true =>
  thenV (some ((.slice none 0 0), h)) fun y4 h =>
  thenV (some ((.int .i64 0), h)) fun y5 h =>
  some (.ret, (mkF 89 (up x [(4, y4), (5, y5), (8, y8), (10, y10), (11, y11), (31, y31), (32, y32), (33, y33), (36, y36), (37, y37), (38, y38), (39, y39), (40, y40), (41, y41), (42, y42), (43, y43), (44, y44), (45, y45), (46, y46), (47, y47), (48, y48), (49, y49), (50, y50), (51, y51), (52, y52), (53, y53), (54, y54), (55, y55), (56, y56), (57, y57), (58, y58), (59, y59), (60, y60), (61, y61), (62, y62), (63, y63), (64, y64), (65, y65), (66, y66), (67, y67), (68, y68), (69, y69), (70, y70), (71, y71), (72, y72), (73, y73), (74, y74), (75, y75), (76, y76), (77, y77), (78, y78), (79, y79), (80, y80), (81, y81), (82, y82)])), h)
  | .bool false =>
  thenV (some ((x 7), h)) fun y83 h =>
  thenV (pu (addP y10 3) h) fun y84 h =>
  thenV (ld1 y84 h) fun y85 h =>
  thenV (appendA 1 1 y83 y85 h) fun y86 h =>
  thenV (some (y86, h)) fun y7 h =>
  thenV (some ((x 9), h)) fun y34 h =>
  thenV (pu (bin Try.prog .add 3 y34 (.int .i64 1)) h) fun y35 h =>
  thenV (some (y35, h)) fun y9 h =>
  some (.normal, (mkF 89 (up x [(7, y7), (8, y8), (9, y9), (10, y10), (11, y11), (31, y31), (32, y32), (33, y33), (34, y34), (35, y35), (36, y36), (37, y37), (38, y38), (39, y39), (40, y40), (41, y41), (42, y42), (43, y43), (44, y44), (45, y45), (46, y46), (47, y47), (48, y48), (49, y49), (50, y50), (51, y51), (52, y52), (53, y53), (54, y54), (55, y55), (56, y56), (57, y57), (58, y58), (59, y59), (60, y60), (61, y61), (62, y62), (63, y63), (64, y64), (65, y65), (66, y66), (67, y67), (68, y68), (69, y69), (70, y70), (71, y71), (72, y72), (73, y73), (74, y74), (75, y75), (76, y76), (77, y77), (78, y78), (79, y79), (80, y80), (81, y81), (82, y82), (83, y83), (84, y84), (85, y85), (86, y86)])), h)
  | _ => none)
  | .bool false =>
  thenV (some (y11, h)) fun y60 h =>
  thenV (pu (unA .not y60) h) fun y61 h =>
  thenV (some (y61, h)) fun y62 h =>
  thenV (guardK (bOf y62 == some false) (pu (addP y10 0) h) h) fun y63 h =>
  thenV (guardK (bOf y62 == some false) (ld1 y63 h) h) fun y64 h =>
  thenV (guardK (bOf y62 == some false) (some ((x 0), h)) h) fun y65 h =>
  thenV (guardK (bOf y62 == some false) (pu (nilCheckA y65) h) h) fun y66 h =>
  thenV (guardK (bOf y62 == some false) (pu (addP y66 4) h) h) fun y67 h =>
  thenV (guardK (bOf y62 == some false) (ld1 y67 h) h) fun y68 h =>
  thenV (guardK (bOf y62 == some false) (pu (bin Try.prog .neq 58 y64 y68) h) h) fun y69 h =>
  thenV (match y62 with | .bool t => some (if t then (.bool true) else y69, h) | _ => none) fun y70 h =>
  thenV (some (y70, h)) fun y71 h =>
  thenV (guardK (bOf y71 == some false) (pu (addP y10 1) h) h) fun y72 h =>
  thenV (guardK (bOf y71 == some false) (ld1 y72 h) h) fun y73 h =>
  thenV (guardK (bOf y71 == some false) (some ((x 9), h)) h) fun y74 h =>
  thenV (guardK (bOf y71 == some false) (pu (bin Try.prog .neq 3 y73 y74) h) h) fun y75 h =>
  thenV (match y71 with | .bool t => some (if t then (.bool true) else y75, h) | _ => none) fun y76 h =>
  thenV (some (y76, h)) fun y77 h =>
  thenV (guardK (bOf y77 == some false) (pu (addP y10 2) h) h) fun y78 h =>
  thenV (guardK (bOf y77 == some false) (ld1 y78 h) h) fun y79 h =>
  thenV (guardK (bOf y77 == some false) (some ((x 8), h)) h) fun y80 h =>
  thenV (guardK (bOf y77 == some false) (pu (bin Try.prog .neq 3 y79 y80) h) h) fun y81 h =>
  thenV (match y77 with | .bool t => some (if t then (.bool true) else y81, h) | _ => none) fun y82 h =>
  (match y82 with
  | .bool true =>
  thenV (some ((.slice none 0 0), h)) fun y4 h =>
  thenV (some ((.int .i64 0), h)) fun y5 h =>
  some (.ret, (mkF 89 (up x [(4, y4), (5, y5), (10, y10), (11, y11), (31, y31), (32, y32), (33, y33), (36, y36), (37, y37), (38, y38), (39, y39), (40, y40), (41, y41), (42, y42), (43, y43), (44, y44), (45, y45), (46, y46), (47, y47), (48, y48), (49, y49), (50, y50), (51, y51), (52, y52), (53, y53), (54, y54), (55, y55), (56, y56), (57, y57), (60, y60), (61, y61), (62, y62), (63, y63), (64, y64), (65, y65), (66, y66), (67, y67), (68, y68), (69, y69), (70, y70), (71, y71), (72, y72), (73, y73), (74, y74), (75, y75), (76, y76), (77, y77), (78, y78), (79, y79), (80, y80), (81, y81), (82, y82)])), h)
  | .bool false =>
  thenV (some ((x 7), h)) fun y83 h =>
  thenV (pu (addP y10 3) h) fun y84 h =>
  thenV (ld1 y84 h) fun y85 h =>
  thenV (appendA 1 1 y83 y85 h) fun y86 h =>
  thenV (some (y86, h)) fun y7 h =>
  thenV (some ((x 9), h)) fun y34 h =>
  thenV (pu (bin Try.prog .add 3 y34 (.int .i64 1)) h) fun y35 h =>
  thenV (some (y35, h)) fun y9 h =>
  some (.normal, (mkF 89 (up x [(7, y7), (9, y9), (10, y10), (11, y11), (31, y31), (32, y32), (33, y33), (34, y34), (35, y35), (36, y36), (37, y37), (38, y38), (39, y39), (40, y40), (41, y41), (42, y42), (43, y43), (44, y44), (45, y45), (46, y46), (47, y47), (48, y48), (49, y49), (50, y50), (51, y51), (52, y52), (53, y53), (54, y54), (55, y55), (56, y56), (57, y57), (60, y60), (61, y61), (62, y62), (63, y63), (64, y64), (65, y65), (66, y66), (67, y67), (68, y68), (69, y69), (70, y70), (71, y71), (72, y72), (73, y73), (74, y74), (75, y75), (76, y76), (77, y77), (78, y78), (79, y79), (80, y80), (81, y81), (82, y82), (83, y83), (84, y84), (85, y85), (86, y86)])), h)
  | _ => none)
  | _ => none)
  | _ => none)
  | .bool false =>
  some (.exit 0, (mkF 89 (up x [(31, y31), (32, y32), (33, y33)])), h)
  | _ => none)
theorem t57_eq (C : CallF) (x0 x1 : Value) (h : Heap) : bodyK Try.prog C Try.f57 [x0, x1] h = t57 C x0 x1 h :=
  (bodyB_eq Try.prog C Try.f57 [x0, x1] h (by kernel_rfl)).trans (by kernel_rfl)
theorem t57k57_7_eq (C : CallF) (x : Nat → Value) (h : Heap) : k57_7 C (mkF 89 x) h = t57k57_7 C x h :=
  link_partF (b := (partOf Try.f57 [1, 1, 1, 1, 1, 1])) (kE := (resultsA Try.prog Try.f57.results.toList)) (rE := (resultsA Try.prog Try.f57.results.toList)) (xE := (fun _ _ _ => none)) (T := t57k57_7 C) (fun x h => by kernel_rfl) x h
theorem t57l57_11111010_eq (C : CallF) (x : Nat → Value) (h : Heap) : codeA Try.prog C (partOf Try.f57 [1, 1, 1, 1, 1, 0, 1, 0, 0]) (mkF 89 x) h = t57l57_11111010 C x h :=
  link_roundF (T := t57l57_11111010 C) (fun x h => by kernel_rfl) x h

/-- (*stolon/disk.Journal).fault -/
noncomputable def t58 (_C : CallF) (x0 : Value) (h : Heap) : Out :=
  thenV (some ((.int .i64 0), h)) fun _y2 h =>
  thenV (some (x0, h)) fun y4 h =>
  thenV (pu (bin Try.prog .eql 38 y4 (.pointer none)) h) fun y5 h =>
  thenV (some (y5, h)) fun y3 h =>
  (match y3 with
  | .bool true =>
  thenV (some ((.int .i64 1), h)) fun y2_1 h =>
  some (y2_1, h)
  | .bool false =>
  thenV (some (x0, h)) fun y7 h =>
  thenV (pu (nilCheckA y7) h) fun y8 h =>
  thenV (pu (addP y8 0) h) fun y9 h =>
  thenV (ld1 y9 h) fun y10 h =>
  thenV (pu (nilCheckA y10) h) fun y11 h =>
  thenV (pu (addP y11 1) h) fun y12 h =>
  thenV (ld1 y12 h) fun y13 h =>
  thenV (some (y13, h)) fun y14 h =>
  thenV (guardK (bOf y14 == some false) (some (x0, h)) h) fun y15 h =>
  thenV (guardK (bOf y14 == some false) (pu (nilCheckA y15) h) h) fun y16 h =>
  thenV (guardK (bOf y14 == some false) (pu (addP y16 0) h) h) fun y17 h =>
  thenV (guardK (bOf y14 == some false) (ld1 y17 h) h) fun y18 h =>
  thenV (guardK (bOf y14 == some false) (pu (nilCheckA y18) h) h) fun y19 h =>
  thenV (guardK (bOf y14 == some false) (pu (addP y19 5) h) h) fun y20 h =>
  thenV (guardK (bOf y14 == some false) (ld1 y20 h) h) fun y21 h =>
  thenV (guardK (bOf y14 == some false) (some (x0, h)) h) fun y22 h =>
  thenV (guardK (bOf y14 == some false) (pu (nilCheckA y22) h) h) fun y23 h =>
  thenV (guardK (bOf y14 == some false) (pu (addP y23 1) h) h) fun y24 h =>
  thenV (guardK (bOf y14 == some false) (ld1 y24 h) h) fun y25 h =>
  thenV (guardK (bOf y14 == some false) (pu (bin Try.prog .neq 3 y21 y25) h) h) fun y26 h =>
  thenV (match y14 with | .bool t => some (if t then (.bool true) else y26, h) | _ => none) fun y27 h =>
  thenV (some (y27, h)) fun y6 h =>
  (match y6 with
  | .bool true =>
  thenV (some ((.int .i64 9), h)) fun y2_1 h =>
  some (y2_1, h)
  | .bool false =>
  thenV (some ((.int .i64 0), h)) fun y2_1 h =>
  some (y2_1, h)
  | _ => none)
  | _ => none)
theorem t58_eq (C : CallF) (x0 : Value) (h : Heap) : bodyK Try.prog C Try.f58 [x0] h = t58 C x0 h :=
  (bodyB_eq Try.prog C Try.f58 [x0] h (by kernel_rfl)).trans (by kernel_rfl)

/-- (*stolon/disk.Disk).open -/
noncomputable def t84 (C : CallF) (x0 x1 : Value) (h : Heap) : Out :=
  thenV (some ((.pointer none), h)) fun _y4 h =>
  thenV (some ((.bool false), h)) fun _y5 h =>
  thenV (some (x0, h)) fun y8 h =>
  thenV (pu (nilCheckA y8) h) fun y9 h =>
  thenV (pu (addP y9 0) h) fun y10 h =>
  thenV (ld1 y10 h) fun y11 h =>
  thenV (some (x1, h)) fun y12 h =>
  thenV (pu (idxS 128 y11 y12) h) fun y13 h =>
  thenV (pu (sliceArr 128 1 y13 none none none) h) fun y14 h =>
  thenV (C 105 [y14] h) fun y15 h =>
  thenV (some (y15, h)) fun y6 h =>
  thenV (some (y6, h)) fun y16 h =>
  thenV (C 85 [y16] h) fun y17 h =>
  thenV (some (y17, h)) fun y7 h =>
  thenV (some (y6, h)) fun y18 h =>
  thenV (some (y7, h)) fun y19 h =>
  thenV (some (x0, h)) fun y20 h =>
  thenV (pu (nilCheckA y20) h) fun y21 h =>
  thenV (pu (addP y21 0) h) fun y22 h =>
  thenV (ld1 y22 h) fun y23 h =>
  thenV (some (x1, h)) fun y24 h =>
  thenV (pu (idxS 128 y23 y24) h) fun y25 h =>
  thenV (pu (sliceArr 128 1 y25 (some (.int .i64 4)) none none) h) fun y26 h =>
  thenV (C 95 [y26] h) fun y27 h =>
  thenV (pu (bin Try.prog .eql 113 y19 y27) h) fun y28 h =>
  thenV (some (y18, h)) fun y4_1 h =>
  thenV (some (y28, h)) fun y5_1 h =>
  some (.tuple #[y4_1, y5_1], h)
theorem t84_eq (C : CallF) (x0 x1 : Value) (h : Heap) : bodyK Try.prog C Try.f84 [x0, x1] h = t84 C x0 x1 h :=
  (bodyB_eq Try.prog C Try.f84 [x0, x1] h (by kernel_rfl)).trans (by kernel_rfl)

end Go.Proofs.Ytcmfgmhadeeieaa

namespace Go.Proofs.Ytcmfgmhadeeieaa
open Go Go.Abs
noncomputable def k21_7 (C : CallF) (e : Env) (h : Heap) : Out := codeK Try.prog C (partOf Try.f21 [1, 1, 1, 1, 1]) e h (resultsA Try.prog Try.f21.results.toList) (resultsA Try.prog Try.f21.results.toList) (fun _ _ _ => none)
noncomputable def b21_9 (C : CallF) (i : Nat) (e : Env) (h : Heap) : Out := if i = 0 then (k21_7 C) e h else (fun _ _ _ => none) i e h
noncomputable def k21_11 (C : CallF) (e : Env) (h : Heap) : Out := codeK Try.prog C (partOf Try.f21 [1, 1, 1, 1, 1, 1, 1]) e h (resultsA Try.prog Try.f21.results.toList) (resultsA Try.prog Try.f21.results.toList) (fun _ _ _ => none)
noncomputable def b21_13 (C : CallF) (i : Nat) (e : Env) (h : Heap) : Out := if i = 4 then (k21_11 C) e h else (fun _ _ _ => none) i e h
noncomputable def k21_16 (C : CallF) (e : Env) (h : Heap) : Option (Ex × Env × Heap) := codeK Try.prog C (partOf Try.f21 [1, 1, 1, 1, 0, 1, 0, 0, 1, 1, 1]) e h (fun e h => some (Ex.normal, e, h)) (fun e h => some (Ex.ret, e, h)) (fun i e h => some (Ex.exit i, e, h))
noncomputable def b21_17 (C : CallF) (i : Nat) (e : Env) (h : Heap) : Option (Ex × Env × Heap) := if i = 1 then (k21_16 C) e h else (fun i e h => some (Ex.exit i, e, h)) i e h
noncomputable def b21_25 (C : CallF) (i : Nat) (e : Env) (h : Heap) : Option (Ex × Env × Heap) := if i = 2 then (k21_16 C) e h else (b21_17 C) i e h
/-- stolon/disk.Open -/
noncomputable def t21 (C : CallF) (x0 : Value) (h : Heap) : Out :=
  thenV (some ((.pointer none), h)) fun y2 h =>
  thenV (some ((.slice none 0 0), h)) fun y3 h =>
  thenV (some ((.int .i64 0), h)) fun y4 h =>
  thenV (some (x0, h)) fun y18 h =>
  thenV (C 53 [y18, (.int .i64 0)] h) fun y19 h =>
  thenV (some (y19, h)) fun y5 h =>
  thenV (some (y5, h)) fun y20 h =>
  thenV (pu (bin Try.prog .neq 28 y20 (.int .i64 0)) h) fun y21 h =>
  (match y21 with
  | .bool true =>
  thenV (some (y5, h)) fun y22 h =>
  thenV (some ((.pointer none), h)) fun y2_1 h =>
  thenV (some ((.slice none 0 0), h)) fun y3_1 h =>
  thenV (some (y22, h)) fun y4_1 h =>
  some (.tuple #[y2_1, y3_1, y4_1], h)
  | .bool false =>
  thenV (some (x0, h)) fun y23 h =>
  thenV (pu (nilCheckA y23) h) fun y24 h =>
  thenV (pu (addP y24 5) h) fun y25 h =>
  thenV (ld1 y25 h) fun y26 h =>
  thenV (pu (bin Try.prog .add 3 y26 (.int .i64 1)) h) fun y27 h =>
  thenV (pu (nilCheckA y23) h) fun y28 h =>
  thenV (pu (addP y28 5) h) fun y29 h =>
  thenV (stN 1 y29 y27 h) fun _ h =>
  thenV (some (x0, h)) fun y30 h =>
  thenV (some (x0, h)) fun y31 h =>
  thenV (pu (nilCheckA y31) h) fun y32 h =>
  thenV (pu (addP y32 5) h) fun y33 h =>
  thenV (ld1 y33 h) fun y34 h =>
  thenV (pu (bldR [(.pointer none), (.int .i64 0), (.int .i64 0), (.int .i64 0), (.int .u64 0), (.int .u64 0), (.bool false), (.int .i64 0)] [(0, 1, y30), (1, 1, y34), (2, 1, (.int .i64 (-1)))]) h) fun y35 h =>
  thenV (box y35 h) fun y36 h =>
  thenV (some (y36, h)) fun y6 h =>
  thenV (some ((.int .i64 0), h)) fun y37 h =>
  endL (iter (codeA Try.prog C (partOf Try.f21 [1, 1, 1, 1, 0, 1, 0, 0])) rounds (mkF 131 (up (bs [x0]) [(2, y2), (3, y3), (4, y4), (5, y5), (6, y6), (18, y18), (19, y19), (20, y20), (21, y21), (23, y23), (24, y24), (25, y25), (26, y26), (27, y27), (28, y28), (29, y29), (30, y30), (31, y31), (32, y32), (33, y33), (34, y34), (35, y35), (36, y36), (37, y37)])) h) (resultsA Try.prog Try.f21.results.toList) (b21_9 C)
  | _ => none)
noncomputable def t21k21_7 (C : CallF) (x : Nat → Value) (h : Heap) : Out :=
  thenV (some ((.slice none 0 0), h)) fun y14 h =>
  thenV (some ((.int .i64 0), h)) fun y15 h =>
  endL (iter (codeA Try.prog C (partOf Try.f21 [1, 1, 1, 1, 1, 1, 0, 1, 0, 0])) rounds (mkF 131 (up x [(14, y14), (15, y15)])) h) (resultsA Try.prog Try.f21.results.toList) (b21_13 C)
noncomputable def t21l21_1111010 (C : CallF) (x : Nat → Value) (h : Heap) : Option (Ex × Env × Heap) :=
  thenV (pu (bin Try.prog .lss 3 (x 37) (.int .i64 2)) h) fun y38 h =>
  (match y38 with
  | .bool true =>
  thenV (some ((x 37), h)) fun y39 h =>
  thenV (some (y39, h)) fun y7 h =>
  thenV (some ((x 0), h)) fun y41 h =>
  thenV (some (y7, h)) fun y42 h =>
  thenV (C 54 [y41, y42] h) fun y43 h =>
  thenV (some (y43, h)) fun y40 h =>
  thenV (pu (extractA y40 0) h) fun y44 h =>
  thenV (pu (extractA y40 1) h) fun y45 h =>
  thenV (pu (extractA y40 2) h) fun y46 h =>
  thenV (some (y44, h)) fun y8 h =>
  thenV (some (y45, h)) fun y9 h =>
  thenV (some (y46, h)) fun y10 h =>
  thenV (some (y10, h)) fun y47 h =>
  (match y47 with
  | .bool true =>
  thenV (some ((x 6), h)) fun y48 h =>
  thenV (pu (nilCheckA y48) h) fun y49 h =>
  thenV (pu (addP y49 2) h) fun y50 h =>
  thenV (ld1 y50 h) fun y51 h =>
  thenV (pu (bin Try.prog .lss 3 y51 (.int .i64 0)) h) fun y52 h =>
  thenV (some (y52, h)) fun y53 h =>
  thenV (guardK (bOf y53 == some false) (some (y8, h)) h) fun y54 h =>
  thenV (guardK (bOf y53 == some false) (some ((x 6), h)) h) fun y55 h =>
  thenV (guardK (bOf y53 == some false) (pu (nilCheckA y55) h) h) fun y56 h =>
  thenV (guardK (bOf y53 == some false) (pu (addP y56 4) h) h) fun y57 h =>
  thenV (guardK (bOf y53 == some false) (ld1 y57 h) h) fun y58 h =>
  thenV (guardK (bOf y53 == some false) (pu (bin Try.prog .gtr 58 y54 y58) h) h) fun y59 h =>
  thenV (match y53 with | .bool t => some (if t then (.bool true) else y59, h) | _ => none) fun y60 h =>
  (match y60 with
  | .bool true =>
  thenV (some ((x 6), h)) fun y61 h =>
  thenV (some ((x 6), h)) fun y62 h =>
  thenV (some ((x 6), h)) fun y63 h =>
  thenV (some (y7, h)) fun y64 h =>
  thenV (some (y8, h)) fun y65 h =>
  thenV (some (y9, h)) fun y66 h =>
  thenV (pu (nilCheckA y61) h) fun y67 h =>
  thenV (pu (addP y67 2) h) fun y68 h =>
  thenV (stN 1 y68 y64 h) fun _ h =>
  thenV (pu (nilCheckA y62) h) fun y69 h =>
  thenV (pu (addP y69 4) h) fun y70 h =>
  thenV (stN 1 y70 y65 h) fun _ h =>
  thenV (pu (nilCheckA y63) h) fun y71 h =>
  thenV (pu (addP y71 3) h) fun y72 h =>
  thenV (stN 1 y72 y66 h) fun _ h =>
  thenV (some ((x 6), h)) fun y73 h =>
  thenV (some ((x 6), h)) fun y74 h =>
  thenV (pu (nilCheckA y74) h) fun y75 h =>
  thenV (pu (addP y75 5) h) fun y76 h =>
  thenV (ld1 y76 h) fun y77 h =>
  thenV (some (y8, h)) fun y78 h =>
  thenV (pu (minmax true y77 [y78]) h) fun y79 h =>
  thenV (pu (nilCheckA y73) h) fun y80 h =>
  thenV (pu (addP y80 5) h) fun y81 h =>
  thenV (stN 1 y81 y79 h) fun _ h =>
  thenV (some ((x 0), h)) fun y82 h =>
  thenV (C 55 [y82] h) fun y83 h =>
  thenV (some ((.int .i64 0), h)) fun y84 h =>
  endL (iter (codeA Try.prog C (partOf Try.f21 [1, 1, 1, 1, 0, 1, 0, 0, 1, 1, 0, 0, 1, 1, 1, 0, 0])) rounds (mkF 131 (up x [(7, y7), (8, y8), (9, y9), (10, y10), (38, y38), (39, y39), (40, y40), (41, y41), (42, y42), (43, y43), (44, y44), (45, y45), (46, y46), (47, y47), (48, y48), (49, y49), (50, y50), (51, y51), (52, y52), (53, y53), (54, y54), (55, y55), (56, y56), (57, y57), (58, y58), (59, y59), (60, y60), (61, y61), (62, y62), (63, y63), (64, y64), (65, y65), (66, y66), (67, y67), (68, y68), (69, y69), (70, y70), (71, y71), (72, y72), (73, y73), (74, y74), (75, y75), (76, y76), (77, y77), (78, y78), (79, y79), (80, y80), (81, y81), (82, y82), (83, y83), (84, y84)])) h) (fun e h => some (Ex.ret, e, h)) (b21_25 C)
  | .bool false =>
  thenV (some ((x 6), h)) fun y73 h =>
  thenV (some ((x 6), h)) fun y74 h =>
  thenV (pu (nilCheckA y74) h) fun y75 h =>
  thenV (pu (addP y75 5) h) fun y76 h =>
  thenV (ld1 y76 h) fun y77 h =>
  thenV (some (y8, h)) fun y78 h =>
  thenV (pu (minmax true y77 [y78]) h) fun y79 h =>
  thenV (pu (nilCheckA y73) h) fun y80 h =>
  thenV (pu (addP y80 5) h) fun y81 h =>
  thenV (stN 1 y81 y79 h) fun _ h =>
  thenV (some ((x 0), h)) fun y82 h =>
  thenV (C 55 [y82] h) fun y83 h =>
  thenV (some ((.int .i64 0), h)) fun y84 h =>
  endL (iter (codeA Try.prog C (partOf Try.f21 [1, 1, 1, 1, 0, 1, 0, 0, 1, 1, 0, 0, 1, 1, 1, 0, 0])) rounds (mkF 131 (up x [(7, y7), (8, y8), (9, y9), (10, y10), (38, y38), (39, y39), (40, y40), (41, y41), (42, y42), (43, y43), (44, y44), (45, y45), (46, y46), (47, y47), (48, y48), (49, y49), (50, y50), (51, y51), (52, y52), (53, y53), (54, y54), (55, y55), (56, y56), (57, y57), (58, y58), (59, y59), (60, y60), (73, y73), (74, y74), (75, y75), (76, y76), (77, y77), (78, y78), (79, y79), (80, y80), (81, y81), (82, y82), (83, y83), (84, y84)])) h) (fun e h => some (Ex.ret, e, h)) (b21_25 C)
  | _ => none)
  | .bool false =>
  thenV (some ((x 0), h)) fun y82 h =>
  thenV (C 55 [y82] h) fun y83 h =>
  thenV (some ((.int .i64 0), h)) fun y84 h =>
  endL (iter (codeA Try.prog C (partOf Try.f21 [1, 1, 1, 1, 0, 1, 0, 0, 1, 1, 0, 0, 1, 1, 1, 0, 0])) rounds (mkF 131 (up x [(7, y7), (8, y8), (9, y9), (10, y10), (38, y38), (39, y39), (40, y40), (41, y41), (42, y42), (43, y43), (44, y44), (45, y45), (46, y46), (47, y47), (82, y82), (83, y83), (84, y84)])) h) (fun e h => some (Ex.ret, e, h)) (b21_25 C)
  | _ => none)
  | .bool false =>
  some (.exit 0, (mkF 131 (up x [(38, y38)])), h)
  | _ => none)
noncomputable def t21k21_11 (_C : CallF) (x : Nat → Value) (h : Heap) : Out :=
  thenV (some ((x 6), h)) fun y129 h =>
  thenV (some ((x 14), h)) fun y130 h =>
  thenV (some (y129, h)) fun y2 h =>
  thenV (some (y130, h)) fun y3 h =>
  thenV (some ((.int .i64 0), h)) fun y4 h =>
  some (.tuple #[y2, y3, y4], h)
noncomputable def t21l21_111111010 (C : CallF) (x : Nat → Value) (h : Heap) : Option (Ex × Env × Heap) :=
  thenV (some ((x 15), h)) fun y107 h =>
  thenV (some ((x 0), h)) fun y108 h =>
  thenV (C 55 [y108] h) fun y109 h =>
  thenV (pu (bin Try.prog .lss 3 y107 y109) h) fun y110 h =>
  (match y110 with
  | .bool true =>
  thenV (some ((x 6), h)) fun y112 h =>
  thenV (some ((x 15), h)) fun y113 h =>
  thenV (C 57 [y112, y113] h) fun y114 h =>
  thenV (some (y114, h)) fun y111 h =>
  thenV (pu (extractA y111 0) h) fun y115 h =>
  thenV (pu (extractA y111 1) h) fun y116 h =>
  thenV (some (y115, h)) fun y16 h =>
  thenV (some (y116, h)) fun y17 h =>
  thenV (some (y17, h)) fun y117 h =>
  thenV (pu (bin Try.prog .gtr 3 y117 (.int .i64 0)) h) fun y118 h =>
  (match y118 with
  | .bool true =>
  thenV (some ((x 14), h)) fun y119 h =>
  thenV (some ((x 15), h)) fun y120 h =>
  thenV (some (y16, h)) fun y121 h =>
  thenV (pu (bldR [(.int .i64 0), (.slice none 0 0)] [(0, 1, y120), (1, 1, y121)]) h) fun y122 h =>
  thenV (bslR 2 (.agg #[(.int .i64 0), (.slice none 0 0)]) 1 [(0, y122)] h) fun y123 h =>
  thenV (appendA 2 32 y119 y123 h) fun y124 h =>
  thenV (some (y124, h)) fun y14 h =>
  thenV (some ((x 15), h)) fun y125 h =>
  thenV (some (y17, h)) fun y126 h =>
  thenV (pu (minmax true y126 [(.int .i64 1)]) h) fun y127 h =>
  thenV (pu (bin Try.prog .add 3 y125 y127) h) fun y128 h =>
  thenV (some (y128, h)) fun y15 h =>
  some (.normal, (mkF 131 (up x [(14, y14), (15, y15), (16, y16), (17, y17), (107, y107), (108, y108), (109, y109), (110, y110), (111, y111), (112, y112), (113, y113), (114, y114), (115, y115), (116, y116), (117, y117), (118, y118), (119, y119), (120, y120), (121, y121), (122, y122), (123, y123), (124, y124), (125, y125), (126, y126), (127, y127), (128, y128)])), h)
  | .bool false =>
  thenV (some ((x 15), h)) fun y125 h =>
  thenV (some (y17, h)) fun y126 h =>
  thenV (pu (minmax true y126 [(.int .i64 1)]) h) fun y127 h =>
  thenV (pu (bin Try.prog .add 3 y125 y127) h) fun y128 h =>
  thenV (some (y128, h)) fun y15 h =>
  some (.normal, (mkF 131 (up x [(15, y15), (16, y16), (17, y17), (107, y107), (108, y108), (109, y109), (110, y110), (111, y111), (112, y112), (113, y113), (114, y114), (115, y115), (116, y116), (117, y117), (118, y118), (125, y125), (126, y126), (127, y127), (128, y128)])), h)
  | _ => none)
  | .bool false =>
  some (.exit 4, (mkF 131 (up x [(107, y107), (108, y108), (109, y109), (110, y110)])), h)
  | _ => none)
noncomputable def t21k21_16 (_C : CallF) (x : Nat → Value) (h : Heap) : Option (Ex × Env × Heap) :=
  thenV (pu (bin Try.prog .add 3 (x 37) (.int .i64 1)) h) fun y106 h =>
  thenV (some (y106, h)) fun y37 h =>
  some (.normal, (mkF 131 (up x [(37, y37), (106, y106)])), h)
noncomputable def t21l21_1111010011001110 (C : CallF) (x : Nat → Value) (h : Heap) : Option (Ex × Env × Heap) :=
  thenV (pu (bin Try.prog .lss 3 (x 84) (x 83)) h) fun y85 h =>
  (match y85 with
  | .bool true =>
  thenV (some ((x 84), h)) fun y86 h =>
  thenV (some (y86, h)) fun y11 h =>
  thenV (some ((x 0), h)) fun y88 h =>
  thenV (some ((x 7), h)) fun y89 h =>
  thenV (some (y11, h)) fun y90 h =>
  thenV (C 56 [y88, y89, y90] h) fun y91 h =>
  thenV (some (y91, h)) fun y87 h =>
  thenV (pu (extractA y87 0) h) fun y92 h =>
  thenV (pu (extractA y87 1) h) fun y93 h =>
  thenV (newC [(.int .u64 0), (.int .i64 0), (.int .i64 0), (.slice none 0 0)] h) fun y12 h =>
  thenV (stN 4 y12 y92 h) fun _ h =>
  thenV (some (y93, h)) fun y13 h =>
  thenV (some (y13, h)) fun y94 h =>
  (match y94 with
  | .bool true =>
  thenV (some ((x 6), h)) fun y95 h =>
  thenV (some ((x 6), h)) fun y96 h =>
  thenV (pu (nilCheckA y96) h) fun y97 h =>
  thenV (pu (addP y97 5) h) fun y98 h =>
  thenV (ld1 y98 h) fun y99 h =>
  thenV (pu (addP y12 0) h) fun y100 h =>
  thenV (ld1 y100 h) fun y101 h =>
  thenV (pu (minmax true y99 [y101]) h) fun y102 h =>
  thenV (pu (nilCheckA y95) h) fun y103 h =>
  thenV (pu (addP y103 5) h) fun y104 h =>
  thenV (stN 1 y104 y102 h) fun _ h =>
  thenV (pu (bin Try.prog .add 3 (x 84) (.int .i64 1)) h) fun y105 h =>
  thenV (some (y105, h)) fun y84 h =>
  some (.normal, (mkF 131 (up x [(11, y11), (12, y12), (13, y13), (84, y84), (85, y85), (86, y86), (87, y87), (88, y88), (89, y89), (90, y90), (91, y91), (92, y92), (93, y93), (94, y94), (95, y95), (96, y96), (97, y97), (98, y98), (99, y99), (100, y100), (101, y101), (102, y102), (103, y103), (104, y104), (105, y105)])), h)
  | .bool false =>
  thenV (pu (bin Try.prog .add 3 (x 84) (.int .i64 1)) h) fun y105 h =>
  thenV (some (y105, h)) fun y84 h =>
  some (.normal, (mkF 131 (up x [(11, y11), (12, y12), (13, y13), (84, y84), (85, y85), (86, y86), (87, y87), (88, y88), (89, y89), (90, y90), (91, y91), (92, y92), (93, y93), (94, y94), (105, y105)])), h)
  | _ => none)
  | .bool false =>
  some (.exit 2, (mkF 131 (up x [(85, y85)])), h)
  | _ => none)
theorem t21_eq (C : CallF) (x0 : Value) (h : Heap) : bodyK Try.prog C Try.f21 [x0] h = t21 C x0 h :=
  (bodyB_eq Try.prog C Try.f21 [x0] h (by kernel_rfl)).trans (by kernel_rfl)
theorem t21k21_7_eq (C : CallF) (x : Nat → Value) (h : Heap) : k21_7 C (mkF 131 x) h = t21k21_7 C x h :=
  link_partF (b := (partOf Try.f21 [1, 1, 1, 1, 1])) (kE := (resultsA Try.prog Try.f21.results.toList)) (rE := (resultsA Try.prog Try.f21.results.toList)) (xE := (fun _ _ _ => none)) (T := t21k21_7 C) (fun x h => by kernel_rfl) x h
theorem t21l21_1111010_eq (C : CallF) (x : Nat → Value) (h : Heap) : codeA Try.prog C (partOf Try.f21 [1, 1, 1, 1, 0, 1, 0, 0]) (mkF 131 x) h = t21l21_1111010 C x h :=
  link_roundF (T := t21l21_1111010 C) (fun x h => by kernel_rfl) x h
theorem t21k21_11_eq (C : CallF) (x : Nat → Value) (h : Heap) : k21_11 C (mkF 131 x) h = t21k21_11 C x h :=
  link_partF (b := (partOf Try.f21 [1, 1, 1, 1, 1, 1, 1])) (kE := (resultsA Try.prog Try.f21.results.toList)) (rE := (resultsA Try.prog Try.f21.results.toList)) (xE := (fun _ _ _ => none)) (T := t21k21_11 C) (fun x h => by kernel_rfl) x h
theorem t21l21_111111010_eq (C : CallF) (x : Nat → Value) (h : Heap) : codeA Try.prog C (partOf Try.f21 [1, 1, 1, 1, 1, 1, 0, 1, 0, 0]) (mkF 131 x) h = t21l21_111111010 C x h :=
  link_roundF (T := t21l21_111111010 C) (fun x h => by kernel_rfl) x h
theorem t21k21_16_eq (C : CallF) (x : Nat → Value) (h : Heap) : k21_16 C (mkF 131 x) h = t21k21_16 C x h :=
  link_partF (b := (partOf Try.f21 [1, 1, 1, 1, 0, 1, 0, 0, 1, 1, 1])) (kE := (fun e h => some (Ex.normal, e, h))) (rE := (fun e h => some (Ex.ret, e, h))) (xE := (fun i e h => some (Ex.exit i, e, h))) (T := t21k21_16 C) (fun x h => by kernel_rfl) x h
theorem t21l21_1111010011001110_eq (C : CallF) (x : Nat → Value) (h : Heap) : codeA Try.prog C (partOf Try.f21 [1, 1, 1, 1, 0, 1, 0, 0, 1, 1, 0, 0, 1, 1, 1, 0, 0]) (mkF 131 x) h = t21l21_1111010011001110 C x h :=
  link_roundF (T := t21l21_1111010011001110 C) (fun x h => by kernel_rfl) x h

/-- (*stolon/disk.Journal).ReadAt -/
noncomputable def t28 (C : CallF) (x0 x1 : Value) (h : Heap) : Out :=
  thenV (some ((.slice none 0 0), h)) fun _y4 h =>
  thenV (some ((.int .i64 0), h)) fun _y5 h =>
  thenV (some (x0, h)) fun y9 h =>
  thenV (C 58 [y9] h) fun y10 h =>
  thenV (some (y10, h)) fun y6 h =>
  thenV (some (y6, h)) fun y11 h =>
  thenV (pu (bin Try.prog .neq 28 y11 (.int .i64 0)) h) fun y12 h =>
  (match y12 with
  | .bool true =>
  thenV (some (y6, h)) fun y13 h =>
  thenV (some ((.slice none 0 0), h)) fun y4_1 h =>
  thenV (some (y13, h)) fun y5_1 h =>
  some (.tuple #[y4_1, y5_1], h)
  | .bool false =>
  thenV (some (x0, h)) fun y15 h =>
  thenV (some (x1, h)) fun y16 h =>
  thenV (C 57 [y15, y16] h) fun y17 h =>
  thenV (some (y17, h)) fun y14 h =>
  thenV (pu (extractA y14 0) h) fun y18 h =>
  thenV (pu (extractA y14 1) h) fun y19 h =>
  thenV (some (y18, h)) fun y7 h =>
  thenV (some (y19, h)) fun y8 h =>
  thenV (some (y8, h)) fun y20 h =>
  thenV (pu (bin Try.prog .eql 3 y20 (.int .i64 0)) h) fun y21 h =>
  (match y21 with
  | .bool true =>
  thenV (some ((.slice none 0 0), h)) fun y4_1 h =>
  thenV (some ((.int .i64 6), h)) fun y5_1 h =>
  some (.tuple #[y4_1, y5_1], h)
  | .bool false =>
  thenV (some (y7, h)) fun y22 h =>
  thenV (some (y22, h)) fun y4_1 h =>
  thenV (some ((.int .i64 0), h)) fun y5_1 h =>
  some (.tuple #[y4_1, y5_1], h)
  | _ => none)
  | _ => none)
theorem t28_eq (C : CallF) (x0 x1 : Value) (h : Heap) : bodyK Try.prog C Try.f28 [x0, x1] h = t28 C x0 x1 h :=
  (bodyB_eq Try.prog C Try.f28 [x0, x1] h (by kernel_rfl)).trans (by kernel_rfl)

/-- stolon/stolonlaw03.DiskCosts -/
noncomputable def t3 (C : CallF) (x0 : Value) (h : Heap) : Out :=
  thenV (some ((.bool false), h)) fun _y2 h =>
  thenV (some (x0, h)) fun y4 h =>
  thenV (pu (bin Try.prog .gtr 3 y4 (.int .i64 16777216)) h) fun y5 h =>
  (match y5 with
  | .bool true =>
  thenV (C 14 [] h) fun y6 h =>
  thenV (some (y6, h)) fun y2_1 h =>
  some (y2_1, h)
  | .bool false =>
  thenV (some (x0, h)) fun y7 h =>
  thenV (C 15 [y7] h) fun y8 h =>
  thenV (some (y8, h)) fun y3 h =>
  thenV (some (y3, h)) fun y9 h =>
  thenV (pu (bin Try.prog .geq 3 y9 (.int .i64 1)) h) fun y10 h =>
  thenV (some (y10, h)) fun y11 h =>
  thenV (guardK (bOf y11 == some true) (some (y3, h)) h) fun y12 h =>
  thenV (guardK (bOf y11 == some true) (some (x0, h)) h) fun y13 h =>
  thenV (guardK (bOf y11 == some true) (C 16 [y13] h) h) fun y14 h =>
  thenV (guardK (bOf y11 == some true) (pu (bin Try.prog .eql 3 y12 y14) h) h) fun y15 h =>
  thenV (match y11 with | .bool t => some (if t then y15 else (.bool false), h) | _ => none) fun y16 h =>
  thenV (some (y16, h)) fun y17 h =>
  thenV (guardK (bOf y17 == some true) (some (x0, h)) h) fun y18 h =>
  thenV (guardK (bOf y17 == some true) (pu (bin Try.prog .leq 3 y18 (.int .i64 106)) h) h) fun y19 h =>
  thenV (guardK (bOf y17 == some true) (some (y19, h)) h) fun y20 h =>
  thenV (guardK (bOf y20 == some false) (some (y3, h)) h) fun y21 h =>
  thenV (guardK (bOf y20 == some false) (pu (bin Try.prog .mul 3 (.int .i64 106) y21) h) h) fun y22 h =>
  thenV (guardK (bOf y20 == some false) (some (x0, h)) h) fun y23 h =>
  thenV (guardK (bOf y20 == some false) (pu (bin Try.prog .geq 3 y22 y23) h) h) fun y24 h =>
  thenV (guardK (bOf y20 == some false) (some (y24, h)) h) fun y25 h =>
  thenV (guardK (bOf y25 == some true) (some (y3, h)) h) fun y26 h =>
  thenV (guardK (bOf y25 == some true) (pu (bin Try.prog .sub 3 y26 (.int .i64 1)) h) h) fun y27 h =>
  thenV (guardK (bOf y25 == some true) (pu (bin Try.prog .mul 3 (.int .i64 106) y27) h) h) fun y28 h =>
  thenV (guardK (bOf y25 == some true) (some (x0, h)) h) fun y29 h =>
  thenV (guardK (bOf y25 == some true) (pu (bin Try.prog .lss 3 y28 y29) h) h) fun y30 h =>
  thenV (guardK (bOf y20 == some false) (match y25 with | .bool t => some (if t then y30 else (.bool false), h) | _ => none) h) fun y31 h =>
  thenV (guardK (bOf y17 == some true) (match y20 with | .bool t => some (if t then (.bool true) else y31, h) | _ => none) h) fun y32 h =>
  thenV (match y17 with | .bool t => some (if t then y32 else (.bool false), h) | _ => none) fun y33 h =>
  thenV (some (y33, h)) fun y34 h =>
  thenV (guardK (bOf y34 == some true) (C 14 [] h) h) fun y35 h =>
  thenV (match y34 with | .bool t => some (if t then y35 else (.bool false), h) | _ => none) fun y36 h =>
  thenV (some (y36, h)) fun y2_1 h =>
  some (y2_1, h)
  | _ => none)
theorem t3_eq (C : CallF) (x0 : Value) (h : Heap) : bodyK Try.prog C Try.f3 [x0] h = t3 C x0 h :=
  (bodyB_eq Try.prog C Try.f3 [x0] h (by kernel_rfl)).trans (by kernel_rfl)

noncomputable def k16_2 (C : CallF) (e : Env) (h : Heap) : Out := codeK Try.prog C (partOf Try.f16 [1, 1, 1]) e h (resultsA Try.prog Try.f16.results.toList) (resultsA Try.prog Try.f16.results.toList) (fun _ _ _ => none)
noncomputable def b16_4 (C : CallF) (i : Nat) (e : Env) (h : Heap) : Out := if i = 0 then (k16_2 C) e h else (fun _ _ _ => none) i e h
/-- stolon/stolonref03.Cost -/
noncomputable def t16 (C : CallF) (x0 : Value) (h : Heap) : Out :=
  thenV (some ((.int .i64 0), h)) fun y2 h =>
  thenV (some ((.int .i64 1), h)) fun y3 h =>
  thenV (some (x0, h)) fun y5 h =>
  thenV (some (y5, h)) fun y4 h =>
  endL (iter (codeA Try.prog C (partOf Try.f16 [1, 1, 0, 1, 0, 0])) rounds (mkF 13 (up (bs [x0]) [(2, y2), (3, y3), (4, y4), (5, y5)])) h) (resultsA Try.prog Try.f16.results.toList) (b16_4 C)
noncomputable def t16k16_2 (_C : CallF) (x : Nat → Value) (h : Heap) : Out :=
  thenV (some ((x 3), h)) fun y12 h =>
  thenV (some (y12, h)) fun y2 h =>
  some (y2, h)
noncomputable def t16l16_11010 (_C : CallF) (x : Nat → Value) (h : Heap) : Option (Ex × Env × Heap) :=
  thenV (some ((x 4), h)) fun y6 h =>
  thenV (pu (bin Try.prog .gtr 3 y6 (.int .i64 106)) h) fun y7 h =>
  (match y7 with
  | .bool true =>
  thenV (some ((x 3), h)) fun y10 h =>
  thenV (pu (bin Try.prog .add 3 y10 (.int .i64 1)) h) fun y11 h =>
  thenV (some (y11, h)) fun y3 h =>
  thenV (some ((x 4), h)) fun y8 h =>
  thenV (pu (bin Try.prog .sub 3 y8 (.int .i64 106)) h) fun y9 h =>
  thenV (some (y9, h)) fun y4 h =>
  some (.normal, (mkF 13 (up x [(3, y3), (4, y4), (6, y6), (7, y7), (8, y8), (9, y9), (10, y10), (11, y11)])), h)
  | .bool false =>
  some (.exit 0, (mkF 13 (up x [(6, y6), (7, y7)])), h)
  | _ => none)
theorem t16_eq (C : CallF) (x0 : Value) (h : Heap) : bodyK Try.prog C Try.f16 [x0] h = t16 C x0 h :=
  (bodyB_eq Try.prog C Try.f16 [x0] h (by kernel_rfl)).trans (by kernel_rfl)
theorem t16k16_2_eq (C : CallF) (x : Nat → Value) (h : Heap) : k16_2 C (mkF 13 x) h = t16k16_2 C x h :=
  link_partF (b := (partOf Try.f16 [1, 1, 1])) (kE := (resultsA Try.prog Try.f16.results.toList)) (rE := (resultsA Try.prog Try.f16.results.toList)) (xE := (fun _ _ _ => none)) (T := t16k16_2 C) (fun x h => by kernel_rfl) x h
theorem t16l16_11010_eq (C : CallF) (x : Nat → Value) (h : Heap) : codeA Try.prog C (partOf Try.f16 [1, 1, 0, 1, 0, 0]) (mkF 13 x) h = t16l16_11010 C x h :=
  link_roundF (T := t16l16_11010 C) (fun x h => by kernel_rfl) x h

end Go.Proofs.Ytcmfgmhadeeieaa

namespace Go.Proofs.Ytcmfgmhadeeieaa
open Go Go.Abs

/-- One bit of the table. -/
def crcBit (c : Nat) : Nat := (c / 2) ^^^ (0x82f63b78 * (c % 2))
def crcTab (i : Nat) : Nat := crcBit (crcBit (crcBit (crcBit i)))
def crcHalf (tab : Nat → Nat) (r : Nat) : Nat := tab (r % 16) ^^^ (r / 16)
def crcStep (r x : Nat) : Nat := crcHalf crcTab (crcHalf crcTab (r ^^^ x))
def crcN (l : List Nat) : Nat := 4294967295 ^^^ l.foldl crcStep 4294967295

theorem crcBit_lt {c : Nat} (h : c < 4294967296) : crcBit c < 4294967296 := by
  unfold crcBit
  have h1 : c / 2 < 2 ^ 32 := by omega
  have h2 : 0x82f63b78 * (c % 2) < 2 ^ 32 := by omega
  exact Nat.xor_lt_two_pow h1 h2
theorem crcTab_lt {c : Nat} (h : c < 4294967296) : crcTab c < 4294967296 := crcBit_lt (crcBit_lt (crcBit_lt (crcBit_lt h)))
theorem crcHalf_lt {tab : Nat → Nat} (ht : ∀ q, q < 16 → tab q < 4294967296) {r : Nat} (h : r < 4294967296) : crcHalf tab r < 4294967296 :=
  Nat.xor_lt_two_pow (n := 32) (ht _ (by omega)) (by omega)
theorem crcMix_lt {r : Nat} (h : r < 4294967296) : crcHalf crcTab r < 4294967296 := crcHalf_lt (fun q hq => crcTab_lt (by omega)) h
theorem crcStep_lt {r x : Nat} (h : r < 4294967296) (hx : x < 256) : crcStep r x < 4294967296 :=
  crcMix_lt (crcMix_lt (Nat.xor_lt_two_pow (n := 32) h (by omega)))
theorem crcFold_lt : ∀ (l : List Nat) (r : Nat), r < 4294967296 → (∀ x ∈ l, x < 256) → l.foldl crcStep r < 4294967296
  | [], r, h, _ => h
  | x :: l, r, h, hx => crcFold_lt l _ (crcStep_lt h (hx x List.mem_cons_self)) (fun y hy => hx y (List.mem_cons_of_mem _ hy))

abbrev u32 (n : Nat) : Value := .int .u32 (n : Int)
abbrev u8 (n : Nat) : Value := .int .u8 (n : Int)
abbrev i64n (n : Nat) : Value := .int .i64 (n : Int)

def crcIter (c : Nat) : Nat → Nat
  | 0 => c
  | i + 1 => crcBit (crcIter c i)
theorem crcIter_lt {c : Nat} (hc : c < 4294967296) : ∀ i, crcIter c i < 4294967296
  | 0 => hc
  | i + 1 => crcBit_lt (crcIter_lt hc i)

section
variable (C : CallF)

theorem crc_bit_ops {c : Nat} (hc : c < 4294967296) : bin Try.prog .shr 113 (u32 c) (.int .u64 1) = some (u32 (c / 2)) ∧ bin Try.prog .and 113 (u32 c) (.int .u32 1) = some (u32 (c % 2)) ∧
    bin Try.prog .mul 113 (.int .u32 2197175160) (u32 (c % 2)) = some (u32 (2197175160 * (c % 2))) ∧ bin Try.prog .xor 113 (u32 (c / 2)) (u32 (2197175160 * (c % 2))) = some (u32 (crcBit c)) := by
  refine ⟨?_, ?_, ?_, ?_⟩
  · exact bin_shr_nat Try.prog 113 (k := .u32) (k' := .u64) (a := c) (b := 1) (by decide)
  · have h1 := bin_and_nat Try.prog 113 (k := .u32) rfl (a := c) (b := 1) hc (by decide)
    rw [Nat.and_one_is_mod] at h1
    exact h1
  · rw [bin_mul, wrap_u32_mod]
    congr 2
    omega
  · exact bin_xor_nat Try.prog 113 (k := .u32) rfl (a := c / 2) (b := 2197175160 * (c % 2)) (by show _ < 2 ^ 32; omega) (by show _ < 2 ^ 32; omega)

theorem crc_inner (x : Nat → Value) (h : Heap) (c : Nat) (hc : c < 4294967296) (h5 : x 5 = u32 c) (h14 : x 14 = .int .i64 0) :
    ∃ x', iter (codeA Try.prog C (partOf Try.f95 [1, 1, 0, 1, 0, 0, 1, 1, 0, 0, 1, 1, 0, 1, 0, 0])) rounds (mkF 54 x) h = some (.exit 2, mkF 54 x', h) ∧ x' 5 = u32 (crcTab c) ∧
      x' 0 = x 0 ∧ x' 3 = x 3 ∧ x' 4 = x 4 ∧ x' 9 = x 9 := by
  obtain ⟨ex, x', h', h1, rfl, rfl, h2⟩ := loop_inv (t95l95_110100110011010_eq C)
    (Inv := fun k y h1 => k ≤ 4 ∧ h1 = h ∧ y 5 = u32 (crcIter c (4 - k)) ∧ y 14 = i64n (4 - k) ∧ y 0 = x 0 ∧ y 3 = x 3 ∧ y 4 = x 4 ∧ y 9 = x 9)
    (fin := fun ex y h1 => ex = .exit 2 ∧ h1 = h ∧ y 5 = u32 (crcTab c) ∧ y 0 = x 0 ∧ y 3 = x 3 ∧ y 4 = x 4 ∧ y 9 = x 9)
    (by
      rintro k y _ ⟨hk, rfl, i5, i14, i0, i3, i4, i9⟩
      obtain ⟨o1, o2, o3, o4⟩ := crc_bit_ops (crcIter_lt hc (4 - k))
      unfold t95l95_110100110011010
      simp -implicitDefEqProofs only [i5, i14, i64n, bin_lss, pu_some, thenV_some]
      by_cases hz : k = 0
      · subst hz
        refine ⟨_, _, _, rfl, .inr ⟨by simp, rfl, rfl, ?_⟩⟩
        simp -implicitDefEqProofs only [up_cons, up_nil, i5, i0, i3, i4, i9, Nat.reduceEqDiff, if_false, and_true]
        rfl
      · have hlt : ((4 - k : Nat) : Int) < 4 := by omega
        simp -implicitDefEqProofs only [decide_eq_true hlt, o1, o2, o3, o4, pu_some, thenV_some, bin_add]
        refine ⟨_, _, _, rfl, .inl ⟨rfl, k - 1, by omega, by omega, rfl, ?_⟩⟩
        simp -implicitDefEqProofs only [up_cons, up_nil, i0, i3, i4, i9, Nat.reduceEqDiff, if_false, if_true, and_true]
        refine ⟨?_, ?_⟩
        · have : 4 - (k - 1) = (4 - k) + 1 := by omega
          rw [this]; rfl
        · rw [wrap_i64 (by omega) (by omega)]
          congr 1
          omega)
    (k := 4) (by decide) ⟨by omega, rfl, h5, h14, rfl, rfl, rfl, rfl⟩
  exact ⟨x', h1, h2⟩

def tabBlk (i : Nat) : Blk := (List.range 16).map fun j => u32 (if j < i then crcTab j else 0)
theorem tabBlk_length (i : Nat) : (tabBlk i).length = 16 := by simp [tabBlk]
theorem tabBlk_at {i j : Nat} (hj : j < 16) : (tabBlk i)[j]? = some (u32 (if j < i then crcTab j else 0)) := by
  unfold tabBlk
  rw [List.getElem?_map, List.getElem?_range hj]; rfl
theorem tabBlk_set {i : Nat} (hi : i < 16) : (tabBlk i).set i (u32 (crcTab i)) = tabBlk (i + 1) := by
  apply List.ext_getElem?
  intro j
  rw [List.getElem?_set, tabBlk_length]
  by_cases hj : j < 16
  · rw [tabBlk_at hj, tabBlk_at hj]
    by_cases e : i = j
    · subst e; simp [hi]
    · rw [if_neg e]
      by_cases h2 : j < i
      · rw [if_pos h2, if_pos (by omega)]
      · rw [if_neg h2, if_neg (by omega)]
  · rw [List.getElem?_eq_none (by rw [tabBlk_length]; omega), List.getElem?_eq_none (by rw [tabBlk_length]; omega)]
    split
    · omega
    · rfl

theorem crc_table (x : Nat → Value) (h : Heap) (B : Nat) (hB : h.n0 ≤ B) (hg : h.get B = some (tabBlk 0)) (h3 : x 3 = ptr B 0) (h9 : x 9 = .int .i64 0) :
    ∃ x' h', iter (codeA Try.prog C (partOf Try.f95 [1, 1, 0, 1, 0, 0])) rounds (mkF 54 x) h = some (.exit 0, mkF 54 x', h') ∧ x' 0 = x 0 ∧ x' 3 = ptr B 0 ∧ Kept h h' (· = B) ∧ h'.get B = some (tabBlk 16) := by
  obtain ⟨ex, x', h', h1, rfl, h2⟩ := loop_inv (t95l95_11010_eq C)
    (Inv := fun k y h1 => k ≤ 16 ∧ y 9 = i64n (16 - k) ∧ y 0 = x 0 ∧ y 3 = ptr B 0 ∧ Kept h h1 (· = B) ∧ h1.get B = some (tabBlk (16 - k)))
    (fin := fun ex y h1 => ex = .exit 0 ∧ y 0 = x 0 ∧ y 3 = ptr B 0 ∧ Kept h h1 (· = B) ∧ h1.get B = some (tabBlk 16))
    (by
      rintro k y h1 ⟨hk, i9, i0, i3, ik, ig⟩
      unfold t95l95_11010
      simp -implicitDefEqProofs only [i9, i64n, bin_lss, pu_some, thenV_some]
      by_cases hz : k = 0
      · subst hz
        refine ⟨_, _, _, rfl, .inr ⟨by simp, rfl, ?_⟩⟩
        simp -implicitDefEqProofs only [up_cons, up_nil, i0, i3, Nat.reduceEqDiff, if_false, true_and]
        exact ⟨ik, ig⟩
      · have hlt : ((16 - k : Nat) : Int) < 16 := by omega
        have hw : IntKind.wrap .u32 ((16 - k : Nat) : Int) = ((16 - k : Nat) : Int) := wrap_u32 (by omega) (by omega)
        simp -implicitDefEqProofs only [decide_eq_true hlt, cvI_int, thenV_some, hw]
        obtain ⟨z, hz1, z5, z0, z3, z4, z9⟩ := crc_inner C (up y [(4, .int .i64 ((16 - k : Nat) : Int)), (5, u32 (16 - k)), (10, .bool true), (11, .int .i64 ((16 - k : Nat) : Int)), (12, .int .i64 ((16 - k : Nat) : Int)), (13, u32 (16 - k)), (14, .int .i64 0)]) h1 (16 - k) (by omega) rfl rfl
        rw [hz1]
        simp -implicitDefEqProofs only [up_cons, up_nil, Nat.reduceEqDiff, if_false, if_true] at z0 z3 z4 z9
        simp -implicitDefEqProofs only [endL_exit, b95_17, if_true, t95k95_15_eq]
        have hlt2 : (0 : Int) ≤ ((16 - k : Nat) : Int) ∧ ((16 - k : Nat) : Int) < ((16 : Nat) : Int) := by omega
        unfold t95k95_15
        simp -implicitDefEqProofs only [z3, i3, z4, z5, idxA, hlt2, and_self, if_true, addP_ptr, pu_some, thenV_some, Nat.zero_add, Int.toNat_natCast, Nat.mul_one]
        rw [stN1_at ig (by rw [tabBlk_length]; omega) (by rw [ik.n0]; exact hB) rfl rfl, tabBlk_set (by omega)]
        simp -implicitDefEqProofs only [thenV_some, t95k95_11_eq]
        unfold t95k95_11
        simp -implicitDefEqProofs only [up_cons, up_nil, Nat.reduceEqDiff, if_false, if_true, z9, i9, bin_add, pu_some, thenV_some]
        refine ⟨_, _, _, rfl, .inl ⟨rfl, k - 1, by omega, by omega, ?_⟩⟩
        have hb : h1.n0 ≤ B := by rw [ik.n0]; exact hB
        have e1 : 16 - (k - 1) = 16 - k + 1 := by omega
        simp -implicitDefEqProofs only [up_cons, up_nil, Nat.reduceEqDiff, if_false, if_true, z0, i0, z3, i3, true_and, e1]
        refine ⟨?_, ik.trans (Kept.set hb ig (.inr rfl)), Heap.get_set_same hb ig _⟩
        rw [wrap_i64 (by omega) (by omega)]
        congr 1)
    (k := 16) (by decide) ⟨by omega, h9, rfl, h3, Kept.refl _ _, hg⟩
  exact ⟨x', h', h1, h2⟩
end

theorem noHoles_u8 : ∀ l : List Nat, noHoles (l.map u8) = true
  | [] => rfl
  | x :: l => by
    have := noHoles_u8 l
    simp only [noHoles, List.map_cons, List.all_cons] at this ⊢
    rw [this]; rfl
theorem noHoles_part (l : List Nat) (o n : Nat) : noHoles (((l.map u8).drop o).take n) = true := by
  rw [← List.map_drop, ← List.map_take]; exact noHoles_u8 _
/-- The bytes of a slice. -/
def nat8 : Value → Option Nat
  | .int .u8 (.ofNat n) => if n < 256 then some n else none
  | _ => none
theorem nat8_eq {v : Value} {n : Nat} (h : nat8 v = some n) : v = u8 n ∧ n < 256 := by
  unfold nat8 at h
  split at h
  · split at h
    · cases h; exact ⟨rfl, by assumption⟩
    · cases h
  · cases h
def bytesOf : List Value → Option (List Nat)
  | [] => some []
  | v :: l => match nat8 v, bytesOf l with
    | some n, some r => some (n :: r)
    | _, _ => none
theorem bytesOf_eq : ∀ {l : List Value} {r : List Nat}, bytesOf l = some r → l = r.map u8 ∧ ∀ n ∈ r, n < 256
  | [], r, h => by cases h; exact ⟨rfl, by simp⟩
  | v :: l, r, h => by
    unfold bytesOf at h
    split at h
    · rename_i n r' h1 h2
      cases h
      obtain ⟨rfl, h3⟩ := nat8_eq h1
      obtain ⟨rfl, h4⟩ := bytesOf_eq h2
      refine ⟨rfl, fun m hm => ?_⟩
      rcases List.mem_cons.1 hm with rfl | hm
      · exact h3
      · exact h4 m hm
    · cases h
theorem bytesOf_map : ∀ {r : List Nat}, (∀ n ∈ r, n < 256) → bytesOf (r.map u8) = some r
  | [], _ => rfl
  | n :: r, h => by
    have h1 : nat8 (u8 n) = some n := by
      show (if n < 256 then some n else none) = some n
      rw [if_pos (h n List.mem_cons_self)]
    simp -implicitDefEqProofs only [List.map_cons, bytesOf, h1, bytesOf_map (r := r) (fun m hm => h m (List.mem_cons_of_mem _ hm))]
/-- What a slice of bytes holds. -/
def sliceBytes (a : Option Addr) (n : Nat) (h : Heap) : Option (List Nat) := (firstA 1 n (.slice a n n) h).bind bytesOf

theorem sliceBytes_spec {a : Option Addr} {n : Nat} {h : Heap} {l : List Nat} (e : sliceBytes a n h = some l) :
    l.length = n ∧ (∀ m ∈ l, m < 256) ∧ (0 < n → ∃ b off s k, a = some ⟨b, off, s⟩ ∧ h.get b = some k ∧ off + n ≤ k.length ∧ ∀ i, i < n → k[off + i]? = some (u8 (l.getD i 0))) := by
  unfold sliceBytes at e
  rw [Option.bind_eq_some_iff] at e
  obtain ⟨cs, h1, h2⟩ := e
  obtain ⟨rfl, h3⟩ := bytesOf_eq h2
  unfold firstA at h1
  split at h1
  · split at h1
    · rename_i hn
      simp -implicitDefEqProofs only [Option.some.injEq] at h1
      have : l = [] := by cases l with | nil => rfl | cons => simp at h1
      subst this; subst hn
      exact ⟨rfl, h3, fun h => absurd h (by omega)⟩
    · cases h1
  · rename_i b off s _ _ heq
    split at h1
    · rename_i hn
      simp -implicitDefEqProofs only [Option.some.injEq] at h1
      have : l = [] := by cases l with | nil => rfl | cons => simp at h1
      subst this
      have : n = 0 := by omega
      subst this
      exact ⟨rfl, h3, fun h => absurd h (by omega)⟩
    · split at h1
      · rename_i k hk
        split at h1
        · rename_i hl0
          have hl := hl0.1
          rw [Nat.mul_one] at h1 hl
          simp -implicitDefEqProofs only [Option.some.injEq] at h1
          have hlen : l.length = n := by
            have := congrArg List.length h1
            simp -implicitDefEqProofs only [List.length_map, List.length_take, List.length_drop] at this
            omega
          refine ⟨hlen, h3, fun _ => ⟨b, off, s, k, ?_, hk, hl, ?_⟩⟩
          · cases heq; rfl
          · intro i hi
            have h4 := congrArg (·[i]?) h1
            simp -implicitDefEqProofs only [List.getElem?_take, hi, if_true, List.getElem?_drop, List.getElem?_map] at h4
            rw [h4, List.getD_eq_getElem?_getD, List.getElem?_eq_getElem (by omega)]
            rfl
        · cases h1
      · cases h1
  · cases (show Value.slice a n n = .string _ by assumption)
  · cases h1

theorem sliceBytes_mono {a : Option Addr} {n : Nat} {h h' : Heap} {l : List Nat} (e : sliceBytes a n h = some l) (hm : ∀ b k, h.get b = some k → h'.get b = some k) : sliceBytes a n h' = some l := by
  unfold sliceBytes at e ⊢
  rw [Option.bind_eq_some_iff] at e ⊢
  obtain ⟨cs, h1, h2⟩ := e
  refine ⟨cs, ?_, h2⟩
  unfold firstA at h1 ⊢
  split at h1
  · exact h1
  · split at h1
    · rw [if_pos (by assumption)]; exact h1
    · rw [if_neg (by assumption)]
      split at h1
      · rename_i k hk
        rw [hm _ _ hk]; exact h1
      · cases h1
  · cases (show Value.slice a n n = .string _ by assumption)
  · cases h1

def s95 : List Value → Heap → Out
  | [.slice a n _c], h => match sliceBytes a n h with
    | some l => if n < 9223372036854775807 then some (u32 (crcN l), h) else none
    | none => none
  | _, _ => none

theorem crc_mix (tab : Nat → Nat) (ht : ∀ q, q < 16 → tab q < 4294967296) (r : Nat) (hr : r < 4294967296) : bin Try.prog .and 113 (u32 r) (.int .u32 15) = some (u32 (r % 16)) ∧ bin Try.prog .shr 113 (u32 r) (.int .u64 4) = some (u32 (r / 16)) ∧
    bin Try.prog .xor 113 (u32 (tab (r % 16))) (u32 (r / 16)) = some (u32 (crcHalf tab r)) := by
  refine ⟨?_, ?_, ?_⟩
  · have h1 := bin_and_nat Try.prog 113 (k := .u32) rfl (a := r) (b := 15) hr (by decide)
    rw [show r &&& 15 = r % 16 from Nat.and_two_pow_sub_one_eq_mod r 4] at h1
    exact h1
  · exact bin_shr_nat Try.prog 113 (k := .u32) (k' := .u64) (a := r) (b := 4) (by decide)
  · exact bin_xor_nat Try.prog 113 (k := .u32) rfl (ht _ (by omega)) (by show _ < 2 ^ 32; omega)

section
variable (C : CallF)
theorem crc_round (tab : Nat → Nat) (ht : ∀ q, q < 16 → tab q < 4294967296) (y : Nat → Value) (h : Heap) (B : Nat) (blk : Blk) (hg : h.get B = some blk) (hblk : ∀ q, q < 16 → blk[q]? = some (u32 (tab q)))
    (b off len c i V R : Nat) (s : Option Nat) (kb : Blk) (hkb : h.get b = some kb) (hcell : kb[off + i]? = some (u8 V)) (hV : V < 256) (hR : R < 4294967296) (hi : i < len) (hlen : len < 9223372036854775807)
    (i3 : y 3 = ptr B 0) (i6 : y 6 = u32 R) (i27 : y 27 = .slice (some ⟨b, off, s⟩) len c) (i28 : y 28 = i64n len) (i29 : y 29 = i64n i) :
    ∃ y', t95l95_1111010 C y h = some (.normal, mkF 54 y', h) ∧ y' 3 = y 3 ∧ y' 6 = u32 (crcHalf tab (crcHalf tab (R ^^^ V))) ∧ y' 27 = y 27 ∧ y' 28 = y 28 ∧ y' 29 = i64n (i + 1) := by
  have hlt : (i : Int) < (len : Int) := by omega
  have hidx : (0 : Int) ≤ (i : Int) ∧ (i : Int) < (len : Int) := by omega
  have hw : IntKind.wrap .u32 ((V : Nat) : Int) = (V : Int) := wrap_u32 (by omega) (by omega)
  have hx := bin_xor_nat Try.prog 113 (k := .u32) rfl (a := R) (b := V) hR (by show _ < 2 ^ 32; omega)
  have hr1 : R ^^^ V < 4294967296 := Nat.xor_lt_two_pow (n := 32) hR (by omega)
  generalize R ^^^ V = R1 at *
  obtain ⟨a1, a2, a3⟩ := crc_mix tab ht _ hr1
  have hr2 := crcHalf_lt ht hr1
  generalize crcHalf tab R1 = R2 at *
  obtain ⟨b1, b2, b3⟩ := crc_mix tab ht _ hr2
  generalize crcHalf tab R2 = R3 at *
  have hi1 : ∀ q : Nat, (0 : Int) ≤ ((q % 16 : Nat) : Int) ∧ ((q % 16 : Nat) : Int) < ((16 : Nat) : Int) := fun q => by omega
  have hld : ∀ q : Nat, ld1 (ptr B (q % 16)) h = some (u32 (tab (q % 16)), h) := fun q => ld1_at hg (hblk _ (by omega))
  unfold t95l95_1111010
  simp -implicitDefEqProofs only [i28, i29, i64n, bin_lss, pu_some, thenV_some, decide_eq_true hlt, i27, idxS, hidx, and_self, if_true, Int.toNat_natCast, Nat.mul_one, ld1_at hkb hcell, cvI_int, hw, i6, hx, a1, i3, idxA, hi1, addP_ptr, Nat.zero_add, hld, a2, a3, b1, b2, b3, bin_add]
  refine ⟨_, rfl, ?_⟩
  simp -implicitDefEqProofs only [up_cons, up_nil, Nat.reduceEqDiff, if_false, if_true, i3, i27, i28, true_and]
  rw [wrap_i64 (by omega) (by omega)]
  rfl

theorem crc_bytes (x : Nat → Value) (h : Heap) (B : Nat) (a : Option Addr) (n c : Nat) (l : List Nat) (hg : h.get B = some (tabBlk 16)) (hl : sliceBytes a n h = some l)
    (h3 : x 3 = ptr B 0) (h6 : x 6 = u32 4294967295) (h27 : x 27 = .slice a n c) (h28 : x 28 = i64n n) (h29 : x 29 = .int .i64 0) (hn : n < rounds) (hn2 : n < 9223372036854775807) :
    ∃ x', iter (codeA Try.prog C (partOf Try.f95 [1, 1, 1, 1, 0, 1, 0, 0])) rounds (mkF 54 x) h = some (.exit 4, mkF 54 x', h) ∧ x' 6 = u32 (l.foldl crcStep 4294967295) := by
  obtain ⟨hlen, hb, hat⟩ := sliceBytes_spec hl
  obtain ⟨ex, x', h', h1, rfl, rfl, h2⟩ := loop_inv (t95l95_1111010_eq C)
    (Inv := fun k y h1 => k ≤ n ∧ h = h1 ∧ y 3 = ptr B 0 ∧ y 6 = u32 ((l.take (n - k)).foldl crcStep 4294967295) ∧ y 27 = .slice a n c ∧ y 28 = i64n n ∧ y 29 = i64n (n - k))
    (fin := fun ex y h1 => ex = .exit 4 ∧ h1 = h ∧ y 6 = u32 (l.foldl crcStep 4294967295))
    (by
      rintro k y _ ⟨hk, rfl, i3, i6, i27, i28, i29⟩
      by_cases hz : k = 0
      · subst hz
        unfold t95l95_1111010
        simp -implicitDefEqProofs only [i28, i29, i64n, bin_lss, pu_some, thenV_some]
        simp -implicitDefEqProofs only [Nat.sub_zero, Int.lt_irrefl, decide_false]
        refine ⟨_, _, _, rfl, .inr ⟨by simp, rfl, rfl, ?_⟩⟩
        simp -implicitDefEqProofs only [up_cons, up_nil, Nat.reduceEqDiff, if_false, i6, Nat.sub_zero]
        rw [List.take_of_length_le (by omega)]
      · have e1 : n - (k - 1) = n - k + 1 := by omega
        have hnk : n - k < n := by omega
        have hlt2 : n - k < l.length := by omega
        obtain ⟨b, off, s, kb, rfl, hkb, hkl, hat2⟩ := hat (by omega)
        have hcell := hat2 (n - k) hnk
        clear hat hat2
        have hr : ((l.take (n - k)).foldl crcStep 4294967295) < 4294967296 := crcFold_lt _ _ (by omega) (fun m hm => hb m (List.mem_of_mem_take hm))
        have hbv : l.getD (n - k) 0 < 256 := by
          rw [List.getD_eq_getElem?_getD, List.getElem?_eq_getElem hlt2]
          exact hb _ (List.getElem_mem _)
        obtain ⟨y', q1, q3, q6, q27, q28, q29⟩ := crc_round C crcTab (fun q hq => crcTab_lt (by omega)) y h B (tabBlk 16) hg (fun q hq => by rw [tabBlk_at hq, if_pos hq]) b off n c (n - k) _ _ s kb hkb hcell hbv hr hnk hn2 i3 i6 i27 i28 i29
        refine ⟨_, _, _, q1, .inl ⟨rfl, k - 1, by omega, by omega, rfl, q3.trans i3, ?_, q27.trans i27, q28.trans i28, by rw [q29, e1]⟩⟩
        rw [q6, e1, List.take_add_one, List.foldl_append]
        have hV2 : l[n - k]? = some (l.getD (n - k) 0) := by
          rw [List.getD_eq_getElem?_getD, List.getElem?_eq_getElem hlt2]
          rfl
        rw [hV2, Option.toList_some, List.foldl_cons, List.foldl_nil, crcStep])
    (k := n) hn ⟨by omega, rfl, h3, by rw [h6, Nat.sub_self, List.take_zero, List.foldl_nil], h27, h28, by rw [h29, Nat.sub_self]; rfl⟩
  exact ⟨x', h1, h2⟩

theorem bits_xor_nat {k : IntKind} (hk : k.signed = false) {a b : Nat} (ha : a < 2 ^ k.bits) (hb : b < 2 ^ k.bits) : bitsA .xor k (a : Int) (b : Int) = some (.int k ((a ^^^ b : Nat) : Int)) := by
  simp -implicitDefEqProofs only [bitsA, ofInt_natCast, BitVec.toNat_xor, BitVec.toNat_ofNat, Nat.mod_eq_of_lt ha, Nat.mod_eq_of_lt hb]
  rw [bits_u hk _ (Nat.xor_lt_two_pow ha hb)]
theorem unA_xor_u32 {r : Nat} (hr : r < 4294967296) : unA .xor (u32 r) = some (u32 (4294967295 ^^^ r)) := by
  have h0 : 4294967295 < 2 ^ IntKind.bits .u32 := by show 4294967295 < 2 ^ 32; omega
  have h1 := bits_xor_nat (k := .u32) rfl (a := 4294967295) (b := r) h0 hr
  have h2 : IntKind.max .u32 = ((4294967295 : Nat) : Int) := by decide
  have h3 : unA .xor (u32 r) = bitsA .xor .u32 (IntKind.max .u32) r := rfl
  rw [h3, h2]
  exact h1

theorem t95_is (a : Option Addr) (n c : Nat) (l : List Nat) (h : Heap) (hl : sliceBytes a n h = some l) (hn : n < 9223372036854775807) :
    ∃ h1, t95 C (.slice a n c) h = some (u32 (crcN l), h1) ∧ ∀ b k, h.get b = some k → h1.get b = some k := by
  unfold t95
  simp -implicitDefEqProofs only [newC, Abs.newRow, thenV_some]
  have hg0 : (h.alloc (tabBlk 0)).get h.next = some (tabBlk 0) := by rw [Heap.get_alloc, if_pos rfl]
  have hz : List.replicate 16 (Value.int IntKind.u32 0) = tabBlk 0 := rfl
  rw [hz]
  obtain ⟨x', h', h1, x0, x3, hk, hg⟩ := crc_table C (up (bs [.slice a n c]) [(2, .int .u32 0), (3, ptr h.next 0), (9, .int .i64 0)]) (h.alloc (tabBlk 0)) h.next h.n0_le_next hg0 rfl rfl
  rw [h1]
  have x0' : x' 0 = .slice a n c := x0
  have hm : ∀ b k, h.get b = some k → h'.get b = some k := by
    intro b k hb
    have hlt := h.lt_of_get hb
    rw [hk.get b (by simp; omega) (by omega), Heap.get_alloc, if_neg (by omega)]; exact hb
  simp -implicitDefEqProofs only [endL_exit, b95_4, if_true, t95k95_2_eq]
  unfold t95k95_2
  simp -implicitDefEqProofs only [x0', lenL_slice, pu_some, thenV_some]
  obtain ⟨z, hz1, z6⟩ := crc_bytes C (up x' [(6, .int .u32 4294967295), (27, .slice a n c), (28, .int .i64 n), (29, .int .i64 0)]) h' h.next a n c l hg (sliceBytes_mono hl hm)
    (by simp -implicitDefEqProofs only [up_cons, up_nil, Nat.reduceEqDiff, if_false, x3]) rfl rfl rfl rfl (by have : rounds = 18446744073709551616 := rfl; omega) hn
  rw [hz1]
  simp -implicitDefEqProofs only [endL_exit, b95_8, if_true, t95k95_6_eq]
  unfold t95k95_6
  obtain ⟨_, hb, _⟩ := sliceBytes_spec hl
  refine ⟨h', ?_, hm⟩
  simp -implicitDefEqProofs only [z6, thenV_some, unA_xor_u32 (crcFold_lt l 4294967295 (by omega) hb), pu_some, crcN]

theorem mixed : Try.prog.follows .mixedOrders = true := by kernel_rfl
theorem is95 : IsFn Try.prog 95 Try.f95 := ⟨by kernel_rfl, by kernel_rfl, by kernel_rfl, by kernel_rfl⟩
theorem c95 : Contract Try.prog 95 s95 := by
  have key : ∀ args h v h', s95 args h = some (v, h') → ∃ a n c l, args = [.slice a n c] ∧ sliceBytes a n h = some l ∧ n < 9223372036854775807 ∧ v = u32 (crcN l) ∧ h' = h := by
    intro args h v h' e
    unfold s95 at e
    split at e
    · split at e
      · rename_i l hl
        split at e
        · rename_i hn
          cases e
          exact ⟨_, _, _, l, rfl, hl, hn, rfl, rfl⟩
        · cases e
      · cases e
    · cases e
  refine .quiet (callL_sound [] (by simp)) mixed is95 ?_ ?_
  · intro args h v h' e
    obtain ⟨a, n, c, l, rfl, hl, hn, rfl, rfl⟩ := key _ _ _ _ e
    exact ⟨rfl, fun _ => rfl⟩
  · intro args h v h' e _ _
    obtain ⟨a, n, c, l, rfl, hl, hn, rfl, rfl⟩ := key _ _ _ _ e
    obtain ⟨h1, h2, h3⟩ := t95_is (callL []) a n c l _ hl hn
    exact ⟨h1, (t95_eq _ _ _).trans h2, h3⟩
end
end Go.Proofs.Ytcmfgmhadeeieaa

namespace Go.Proofs.Ytcmfgmhadeeieaa
open Go Go.Abs
end Go.Proofs.Ytcmfgmhadeeieaa

namespace Go.Proofs.Ytcmfgmhadeeieaa
open Go Go.Abs
noncomputable def k17_4 (C : CallF) (e : Env) (h : Heap) : Out := codeK Try.prog C (partOf Try.f17 [1, 1, 1]) e h (resultsA Try.prog Try.f17.results.toList) (resultsA Try.prog Try.f17.results.toList) (fun _ _ _ => none)
noncomputable def b17_6 (C : CallF) (i : Nat) (e : Env) (h : Heap) : Out := if i = 0 then (k17_4 C) e h else (fun _ _ _ => none) i e h
noncomputable def k17_10 (C : CallF) (e : Env) (h : Heap) : Option (Ex × Env × Heap) := codeK Try.prog C (partOf Try.f17 [1, 1, 0, 1, 0, 0, 1, 1]) e h (fun e h => some (Ex.normal, e, h)) (fun e h => some (Ex.ret, e, h)) (fun i e h => some (Ex.exit i, e, h))
noncomputable def b17_11 (C : CallF) (i : Nat) (e : Env) (h : Heap) : Option (Ex × Env × Heap) := if i = 1 then (k17_10 C) e h else (fun i e h => some (Ex.exit i, e, h)) i e h
noncomputable def b17_16 (C : CallF) (i : Nat) (e : Env) (h : Heap) : Option (Ex × Env × Heap) := if i = 2 then (k17_10 C) e h else (b17_11 C) i e h
/-- stolon/stolonlaw03.heavy -/
noncomputable def t17 (C : CallF) (x0 x1 : Value) (h : Heap) : Out :=
  thenV (some ((.bool false), h)) fun y4 h =>
  thenV (some (x0, h)) fun y7 h =>
  thenV (pu (bin Try.prog .gtr 3 y7 (.int .i64 64)) h) fun y8 h =>
  thenV (some (y8, h)) fun y9 h =>
  thenV (guardK (bOf y9 == some true) (some (x0, h)) h) fun y10 h =>
  thenV (guardK (bOf y9 == some true) (pu (bin Try.prog .leq 3 y10 (.int .i64 4096)) h) h) fun y11 h =>
  thenV (match y9 with | .bool t => some (if t then y11 else (.bool false), h) | _ => none) fun y12 h =>
  thenV (some (y12, h)) fun y13 h =>
  thenV (guardK (bOf y13 == some false) (some (x1, h)) h) fun y14 h =>
  thenV (guardK (bOf y13 == some false) (pu (lenL y14) h) h) fun y15 h =>
  thenV (guardK (bOf y13 == some false) (pu (bin Try.prog .gtr 3 y15 (.int .i64 100)) h) h) fun y16 h =>
  thenV (match y13 with | .bool t => some (if t then (.bool true) else y16, h) | _ => none) fun y17 h =>
  (match y17 with
  | .bool true =>
  thenV (some ((.bool true), h)) fun y4_1 h =>
  some (y4_1, h)
  | .bool false =>
  thenV (some ((.int .i64 0), h)) fun y5 h =>
  endL (iter (codeA Try.prog C (partOf Try.f17 [1, 1, 0, 1, 0, 0])) rounds (mkF 60 (up (bs [x0, x1]) [(4, y4), (5, y5), (7, y7), (8, y8), (9, y9), (10, y10), (11, y11), (12, y12), (13, y13), (14, y14), (15, y15), (16, y16), (17, y17)])) h) (resultsA Try.prog Try.f17.results.toList) (b17_6 C)
  | _ => none)
noncomputable def t17k17_4 (_C : CallF) (_x : Nat → Value) (h : Heap) : Out :=
  thenV (some ((.bool false), h)) fun y4 h =>
  some (y4, h)
noncomputable def t17l17_11010 (C : CallF) (x : Nat → Value) (h : Heap) : Option (Ex × Env × Heap) :=
  thenV (some ((x 5), h)) fun y18 h =>
  thenV (some ((x 1), h)) fun y19 h =>
  thenV (pu (lenL y19) h) fun y20 h =>
  thenV (pu (bin Try.prog .lss 3 y18 y20) h) fun y21 h =>
  (match y21 with
  | .bool true =>
  thenV (some ((x 1), h)) fun y24 h =>
  thenV (some ((x 5), h)) fun y25 h =>
  thenV (pu (idxS 6 y24 y25) h) fun y26 h =>
  thenV (pu (addP y26 5) h) fun y27 h =>
  thenV (ld1 y27 h) fun y28 h =>
  thenV (pu (lenL y28) h) fun y29 h =>
  thenV (pu (bin Try.prog .gtr 3 y29 (.int .i64 40)) h) fun y30 h =>
  thenV (some (y30, h)) fun y31 h =>
  thenV (guardK (bOf y31 == some false) (some ((x 1), h)) h) fun y32 h =>
  thenV (guardK (bOf y31 == some false) (some ((x 5), h)) h) fun y33 h =>
  thenV (guardK (bOf y31 == some false) (pu (idxS 6 y32 y33) h) h) fun y34 h =>
  thenV (guardK (bOf y31 == some false) (pu (addP y34 4) h) h) fun y35 h =>
  thenV (guardK (bOf y31 == some false) (ld1 y35 h) h) fun y36 h =>
  thenV (guardK (bOf y31 == some false) (pu (lenL y36) h) h) fun y37 h =>
  thenV (guardK (bOf y31 == some false) (pu (bin Try.prog .gtr 3 y37 (.int .i64 21000)) h) h) fun y38 h =>
  thenV (match y31 with | .bool t => some (if t then (.bool true) else y38, h) | _ => none) fun y39 h =>
  (match y39 with
  | .bool true =>
  thenV (some ((.bool true), h)) fun y4 h =>
  some (.ret, (mkF 60 (up x [(4, y4), (18, y18), (19, y19), (20, y20), (21, y21), (24, y24), (25, y25), (26, y26), (27, y27), (28, y28), (29, y29), (30, y30), (31, y31), (32, y32), (33, y33), (34, y34), (35, y35), (36, y36), (37, y37), (38, y38), (39, y39)])), h)
  | .bool false =>
  thenV (some ((.int .i64 0), h)) fun y6 h =>
  endL (iter (codeA Try.prog C (partOf Try.f17 [1, 1, 0, 1, 0, 0, 1, 0, 0, 1, 1, 0, 0])) rounds (mkF 60 (up x [(6, y6), (18, y18), (19, y19), (20, y20), (21, y21), (24, y24), (25, y25), (26, y26), (27, y27), (28, y28), (29, y29), (30, y30), (31, y31), (32, y32), (33, y33), (34, y34), (35, y35), (36, y36), (37, y37), (38, y38), (39, y39)])) h) (fun e h => some (Ex.ret, e, h)) (b17_16 C)
  | _ => none)
  | .bool false =>
  some (.exit 0, (mkF 60 (up x [(18, y18), (19, y19), (20, y20), (21, y21)])), h)
  | _ => none)
noncomputable def t17k17_10 (_C : CallF) (x : Nat → Value) (h : Heap) : Option (Ex × Env × Heap) :=
  thenV (some ((x 5), h)) fun y22 h =>
  thenV (pu (bin Try.prog .add 3 y22 (.int .i64 1)) h) fun y23 h =>
  thenV (some (y23, h)) fun y5 h =>
  some (.normal, (mkF 60 (up x [(5, y5), (22, y22), (23, y23)])), h)
noncomputable def t17l17_110100100110 (_C : CallF) (x : Nat → Value) (h : Heap) : Option (Ex × Env × Heap) :=
  thenV (some ((x 6), h)) fun y40 h =>
  thenV (some ((x 1), h)) fun y41 h =>
  thenV (some ((x 5), h)) fun y42 h =>
  thenV (pu (idxS 6 y41 y42) h) fun y43 h =>
  thenV (pu (addP y43 5) h) fun y44 h =>
  thenV (ld1 y44 h) fun y45 h =>
  thenV (pu (lenL y45) h) fun y46 h =>
  thenV (pu (bin Try.prog .lss 3 y40 y46) h) fun y47 h =>
  (match y47 with
  | .bool true =>
  thenV (some ((x 1), h)) fun y50 h =>
  thenV (some ((x 5), h)) fun y51 h =>
  thenV (pu (idxS 6 y50 y51) h) fun y52 h =>
  thenV (pu (addP y52 5) h) fun y53 h =>
  thenV (ld1 y53 h) fun y54 h =>
  thenV (some ((x 6), h)) fun y55 h =>
  thenV (pu (idxS 1 y54 y55) h) fun y56 h =>
  thenV (ld1 y56 h) fun y57 h =>
  thenV (pu (lenL y57) h) fun y58 h =>
  thenV (pu (bin Try.prog .gtr 3 y58 (.int .i64 21000)) h) fun y59 h =>
  (match y59 with
  | .bool true =>
  thenV (some ((.bool true), h)) fun y4 h =>
  some (.ret, (mkF 60 (up x [(4, y4), (40, y40), (41, y41), (42, y42), (43, y43), (44, y44), (45, y45), (46, y46), (47, y47), (50, y50), (51, y51), (52, y52), (53, y53), (54, y54), (55, y55), (56, y56), (57, y57), (58, y58), (59, y59)])), h)
  | .bool false =>
  thenV (some ((x 6), h)) fun y48 h =>
  thenV (pu (bin Try.prog .add 3 y48 (.int .i64 1)) h) fun y49 h =>
  thenV (some (y49, h)) fun y6 h =>
  some (.normal, (mkF 60 (up x [(6, y6), (40, y40), (41, y41), (42, y42), (43, y43), (44, y44), (45, y45), (46, y46), (47, y47), (48, y48), (49, y49), (50, y50), (51, y51), (52, y52), (53, y53), (54, y54), (55, y55), (56, y56), (57, y57), (58, y58), (59, y59)])), h)
  | _ => none)
  | .bool false =>
  some (.exit 2, (mkF 60 (up x [(40, y40), (41, y41), (42, y42), (43, y43), (44, y44), (45, y45), (46, y46), (47, y47)])), h)
  | _ => none)
theorem t17_eq (C : CallF) (x0 x1 : Value) (h : Heap) : bodyK Try.prog C Try.f17 [x0, x1] h = t17 C x0 x1 h :=
  (bodyB_eq Try.prog C Try.f17 [x0, x1] h (by kernel_rfl)).trans (by kernel_rfl)
theorem t17k17_4_eq (C : CallF) (x : Nat → Value) (h : Heap) : k17_4 C (mkF 60 x) h = t17k17_4 C x h :=
  link_partF (b := (partOf Try.f17 [1, 1, 1])) (kE := (resultsA Try.prog Try.f17.results.toList)) (rE := (resultsA Try.prog Try.f17.results.toList)) (xE := (fun _ _ _ => none)) (T := t17k17_4 C) (fun x h => by kernel_rfl) x h
theorem t17l17_11010_eq (C : CallF) (x : Nat → Value) (h : Heap) : codeA Try.prog C (partOf Try.f17 [1, 1, 0, 1, 0, 0]) (mkF 60 x) h = t17l17_11010 C x h :=
  link_roundF (T := t17l17_11010 C) (fun x h => by kernel_rfl) x h
theorem t17k17_10_eq (C : CallF) (x : Nat → Value) (h : Heap) : k17_10 C (mkF 60 x) h = t17k17_10 C x h :=
  link_partF (b := (partOf Try.f17 [1, 1, 0, 1, 0, 0, 1, 1])) (kE := (fun e h => some (Ex.normal, e, h))) (rE := (fun e h => some (Ex.ret, e, h))) (xE := (fun i e h => some (Ex.exit i, e, h))) (T := t17k17_10 C) (fun x h => by kernel_rfl) x h
theorem t17l17_110100100110_eq (C : CallF) (x : Nat → Value) (h : Heap) : codeA Try.prog C (partOf Try.f17 [1, 1, 0, 1, 0, 0, 1, 0, 0, 1, 1, 0, 0]) (mkF 60 x) h = t17l17_110100100110 C x h :=
  link_roundF (T := t17l17_110100100110 C) (fun x h => by kernel_rfl) x h

end Go.Proofs.Ytcmfgmhadeeieaa

namespace Go.Proofs.Ytcmfgmhadeeieaa
open Go Go.Abs
noncomputable def k4_9 (C : CallF) (e : Env) (h : Heap) : Out := codeK Try.prog C (partOf Try.f4 [1, 1, 1, 1, 1, 1]) e h (resultsA Try.prog Try.f4.results.toList) (resultsA Try.prog Try.f4.results.toList) (fun _ _ _ => none)
noncomputable def b4_11 (C : CallF) (i : Nat) (e : Env) (h : Heap) : Out := if i = 0 then (k4_9 C) e h else (fun _ _ _ => none) i e h
noncomputable def k4_12 (C : CallF) (e : Env) (h : Heap) : Out := codeK Try.prog C (partOf Try.f4 [1, 1, 1, 1, 1, 1, 1]) e h (resultsA Try.prog Try.f4.results.toList) (resultsA Try.prog Try.f4.results.toList) (fun _ _ _ => none)
noncomputable def b4_14 (C : CallF) (i : Nat) (e : Env) (h : Heap) : Out := if i = 2 then (k4_12 C) e h else (fun _ _ _ => none) i e h
noncomputable def k4_22 (C : CallF) (e : Env) (h : Heap) : Option (Ex × Env × Heap) := codeK Try.prog C (partOf Try.f4 [1, 1, 1, 1, 1, 1, 0, 1, 0, 0, 1, 1]) e h (fun e h => some (Ex.normal, e, h)) (fun e h => some (Ex.ret, e, h)) (fun i e h => some (Ex.exit i, e, h))
noncomputable def b4_23 (C : CallF) (i : Nat) (e : Env) (h : Heap) : Option (Ex × Env × Heap) := if i = 3 then (k4_22 C) e h else (fun i e h => some (Ex.exit i, e, h)) i e h
noncomputable def k4_27 (C : CallF) (e : Env) (h : Heap) : Option (Ex × Env × Heap) := codeK Try.prog C (partOf Try.f4 [1, 1, 1, 1, 1, 1, 0, 1, 0, 0, 1, 0, 0, 1, 1, 1, 1]) e h (k4_22 C) (fun e h => some (Ex.ret, e, h)) (b4_23 C)
noncomputable def b4_29 (C : CallF) (i : Nat) (e : Env) (h : Heap) : Option (Ex × Env × Heap) := if i = 4 then (k4_27 C) e h else (b4_23 C) i e h
noncomputable def b4_38 (C : CallF) (i : Nat) (e : Env) (h : Heap) : Option (Ex × Env × Heap) := if i = 6 then (k4_22 C) e h else (b4_23 C) i e h
/-- stolon/stolonlaw03.DiskReadsBack -/
noncomputable def t4 (C : CallF) (x0 x1 : Value) (h : Heap) : Out :=
  thenV (some ((.bool false), h)) fun y4 h =>
  thenV (some (x0, h)) fun y18 h =>
  thenV (some (x1, h)) fun y19 h =>
  thenV (C 17 [y18, y19] h) fun y20 h =>
  thenV (some (y20, h)) fun y21 h =>
  thenV (guardK (bOf y21 == some false) (some (x0, h)) h) fun y22 h =>
  thenV (guardK (bOf y21 == some false) (pu (bin Try.prog .lss 3 y22 (.int .i64 4)) h) h) fun y23 h =>
  thenV (match y21 with | .bool t => some (if t then (.bool true) else y23, h) | _ => none) fun y24 h =>
  thenV (some (y24, h)) fun y25 h =>
  thenV (guardK (bOf y25 == some false) (some (x0, h)) h) fun y26 h =>
  thenV (guardK (bOf y25 == some false) (pu (bin Try.prog .gtr 3 y26 (.int .i64 4096)) h) h) fun y27 h =>
  thenV (match y25 with | .bool t => some (if t then (.bool true) else y27, h) | _ => none) fun y28 h =>
  (match y28 with
  | .bool true =>
  thenV (C 14 [] h) fun y29 h =>
  thenV (some (y29, h)) fun y4_1 h =>
  some (y4_1, h)
  | .bool false =>
  thenV (some (x0, h)) fun y31 h =>
  thenV (C 18 [y31] h) fun y32 h =>
  thenV (some (y32, h)) fun y30 h =>
  thenV (pu (extractA y30 0) h) fun y33 h =>
  thenV (pu (extractA y30 1) h) fun y34 h =>
  thenV (some (y33, h)) fun y5 h =>
  thenV (some (y34, h)) fun y6 h =>
  thenV (some (y6, h)) fun y35 h =>
  thenV (pu (bin Try.prog .neq 28 y35 (.int .i64 0)) h) fun y36 h =>
  (match y36 with
  | .bool true =>
  thenV (some ((.bool false), h)) fun y4_1 h =>
  some (y4_1, h)
  | .bool false =>
  thenV (bslR 1 (.slice none 0 0) 0 [] h) fun y37 h =>
  thenV (some (y37, h)) fun y7 h =>
  thenV (some ((.int .i64 0), h)) fun y8 h =>
  endL (iter (codeA Try.prog C (partOf Try.f4 [1, 1, 1, 1, 1, 0, 1, 0, 0])) rounds (mkF 135 (up (bs [x0, x1]) [(4, y4), (5, y5), (6, y6), (7, y7), (8, y8), (18, y18), (19, y19), (20, y20), (21, y21), (22, y22), (23, y23), (24, y24), (25, y25), (26, y26), (27, y27), (28, y28), (30, y30), (31, y31), (32, y32), (33, y33), (34, y34), (35, y35), (36, y36), (37, y37)])) h) (resultsA Try.prog Try.f4.results.toList) (b4_11 C)
  | _ => none)
  | _ => none)
noncomputable def t4k4_9 (C : CallF) (x : Nat → Value) (h : Heap) : Out :=
  thenV (some ((.int .i64 0), h)) fun y9 h =>
  endL (iter (codeA Try.prog C (partOf Try.f4 [1, 1, 1, 1, 1, 1, 0, 1, 0, 0])) rounds (mkF 135 (up x [(9, y9)])) h) (resultsA Try.prog Try.f4.results.toList) (b4_14 C)
noncomputable def t4l4_11111010 (_C : CallF) (x : Nat → Value) (h : Heap) : Option (Ex × Env × Heap) :=
  thenV (some ((x 8), h)) fun y38 h =>
  thenV (some ((x 0), h)) fun y39 h =>
  thenV (pu (bin Try.prog .lss 3 y38 y39) h) fun y40 h =>
  (match y40 with
  | .bool true =>
  thenV (some ((x 7), h)) fun y43 h =>
  thenV (mkR 1 1 (.int .u8 0) (.int .i64 128) (.int .i64 128) h) fun y44 h =>
  thenV (bslR 1 (.slice none 0 0) 1 [(0, y44)] h) fun y45 h =>
  thenV (appendA 1 24 y43 y45 h) fun y46 h =>
  thenV (some (y46, h)) fun y7 h =>
  thenV (some ((x 8), h)) fun y41 h =>
  thenV (pu (bin Try.prog .add 3 y41 (.int .i64 1)) h) fun y42 h =>
  thenV (some (y42, h)) fun y8 h =>
  some (.normal, (mkF 135 (up x [(7, y7), (8, y8), (38, y38), (39, y39), (40, y40), (41, y41), (42, y42), (43, y43), (44, y44), (45, y45), (46, y46)])), h)
  | .bool false =>
  some (.exit 0, (mkF 135 (up x [(38, y38), (39, y39), (40, y40)])), h)
  | _ => none)
noncomputable def t4k4_12 (C : CallF) (_x : Nat → Value) (h : Heap) : Out :=
  thenV (C 14 [] h) fun y134 h =>
  thenV (some (y134, h)) fun y4 h =>
  some (y4, h)
noncomputable def t4l4_111111010 (C : CallF) (x : Nat → Value) (h : Heap) : Option (Ex × Env × Heap) :=
  thenV (some ((x 9), h)) fun y47 h =>
  thenV (some ((x 1), h)) fun y48 h =>
  thenV (pu (lenL y48) h) fun y49 h =>
  thenV (pu (bin Try.prog .lss 3 y47 y49) h) fun y50 h =>
  (match y50 with
  | .bool true =>
  thenV (some ((x 1), h)) fun y53 h =>
  thenV (some ((x 9), h)) fun y54 h =>
  thenV (pu (idxS 6 y53 y54) h) fun y55 h =>
  thenV (ldN 6 y55 h) fun y56 h =>
  thenV (newC [(.int .i64 0), (.int .i64 0), (.int .i64 0), (.int .u8 0), (.slice none 0 0), (.slice none 0 0)] h) fun y10 h =>
  thenV (stN 6 y10 y56 h) fun _ h =>
  thenV (bslR 1 (.int .u8 0) 0 [] h) fun y57 h =>
  thenV (pu (addP y10 4) h) fun y58 h =>
  thenV (ld1 y58 h) fun y59 h =>
  thenV (appendA 1 1 y57 y59 h) fun y60 h =>
  thenV (some (y60, h)) fun y11 h =>
  thenV (some ((x 5), h)) fun y61 h =>
  thenV (pu (addP y10 1) h) fun y62 h =>
  thenV (ld1 y62 h) fun y63 h =>
  thenV (some (y11, h)) fun y64 h =>
  thenV (C 19 [y61, y63, y64] h) fun y65 h =>
  thenV (some (y65, h)) fun y12 h =>
  thenV (some ((.int .i64 0), h)) fun y13 h =>
  endL (iter (codeA Try.prog C (partOf Try.f4 [1, 1, 1, 1, 1, 1, 0, 1, 0, 0, 1, 0, 0, 1, 1, 1, 0, 1, 0, 0])) rounds (mkF 135 (up x [(10, y10), (11, y11), (12, y12), (13, y13), (47, y47), (48, y48), (49, y49), (50, y50), (53, y53), (54, y54), (55, y55), (56, y56), (57, y57), (58, y58), (59, y59), (60, y60), (61, y61), (62, y62), (63, y63), (64, y64), (65, y65)])) h) (fun e h => some (Ex.ret, e, h)) (b4_29 C)
  | .bool false =>
  some (.exit 2, (mkF 135 (up x [(47, y47), (48, y48), (49, y49), (50, y50)])), h)
  | _ => none)
noncomputable def t4k4_22 (_C : CallF) (x : Nat → Value) (h : Heap) : Option (Ex × Env × Heap) :=
  thenV (some ((x 9), h)) fun y51 h =>
  thenV (pu (bin Try.prog .add 3 y51 (.int .i64 1)) h) fun y52 h =>
  thenV (some (y52, h)) fun y9 h =>
  some (.normal, (mkF 135 (up x [(9, y9), (51, y51), (52, y52)])), h)
noncomputable def t4k4_27 (C : CallF) (x : Nat → Value) (h : Heap) : Option (Ex × Env × Heap) :=
  thenV (pu (addP (x 10) 1) h) fun y78 h =>
  thenV (ld1 y78 h) fun y79 h =>
  thenV (pu (bin Try.prog .geq 3 y79 (.int .i64 0)) h) fun y80 h =>
  thenV (some (y80, h)) fun y81 h =>
  thenV (guardK (bOf y81 == some true) (pu (addP (x 10) 1) h) h) fun y82 h =>
  thenV (guardK (bOf y81 == some true) (ld1 y82 h) h) fun y83 h =>
  thenV (guardK (bOf y81 == some true) (some ((x 0), h)) h) fun y84 h =>
  thenV (guardK (bOf y81 == some true) (pu (bin Try.prog .lss 3 y83 y84) h) h) fun y85 h =>
  thenV (match y81 with | .bool t => some (if t then y85 else (.bool false), h) | _ => none) fun y86 h =>
  thenV (some (y86, h)) fun y87 h =>
  thenV (guardK (bOf y87 == some true) (pu (addP (x 10) 4) h) h) fun y88 h =>
  thenV (guardK (bOf y87 == some true) (ld1 y88 h) h) fun y89 h =>
  thenV (guardK (bOf y87 == some true) (pu (lenL y89) h) h) fun y90 h =>
  thenV (guardK (bOf y87 == some true) (pu (bin Try.prog .eql 3 y90 (.int .i64 128)) h) h) fun y91 h =>
  thenV (match y87 with | .bool t => some (if t then y91 else (.bool false), h) | _ => none) fun y92 h =>
  thenV (some (y92, h)) fun y14 h =>
  thenV (some ((x 12), h)) fun y93 h =>
  thenV (pu (bin Try.prog .eql 28 y93 (.int .i64 0)) h) fun y94 h =>
  thenV (some (y14, h)) fun y95 h =>
  thenV (pu (bin Try.prog .neq 4 y94 y95) h) fun y96 h =>
  (match y96 with
  | .bool true =>
  thenV (some ((.bool false), h)) fun y4 h =>
  some (.ret, (mkF 135 (up x [(4, y4), (14, y14), (78, y78), (79, y79), (80, y80), (81, y81), (82, y82), (83, y83), (84, y84), (85, y85), (86, y86), (87, y87), (88, y88), (89, y89), (90, y90), (91, y91), (92, y92), (93, y93), (94, y94), (95, y95), (96, y96)])), h)
  | .bool false =>
  thenV (some (y14, h)) fun y97 h =>
  (match y97 with
  | .bool true =>
  let g36_0 := h
  thenV (some ((x 7), g36_0)) fun y98 g36_1 =>
  thenV (pu (addP (x 10) 1) g36_1) fun y99 g36_2 =>
  thenV (ld1 y99 g36_2) fun y100 g36_3 =>
  thenV (pu (addP (x 10) 4) g36_3) fun y102 g36_4 =>
  thenV (ld1 y102 g36_4) fun y103 g36_5 =>
  thenV (bslR 1 (.int .u8 0) 0 [] g36_5) fun y101 g36_6 =>
  thenV (appendA 1 1 y101 y103 g36_6) fun y104 g36_7 =>
  thenV (pu (idxS 1 y98 y100) g36_7) fun y105 g36_8 =>
  thenV (stN 1 y105 y104 g36_8) fun _ g36_9 =>
  (match (chkR true (ld1 y99 g36_7) y100 && true) with
  | true =>
  let h := g36_9
  thenV (some ((.int .i64 0), h)) fun y15 h =>
  endL (iter (codeA Try.prog C (partOf Try.f4 [1, 1, 1, 1, 1, 1, 0, 1, 0, 0, 1, 0, 0, 1, 1, 1, 1, 1, 1, 1, 1, 0, 0])) rounds (mkF 135 (up x [(14, y14), (15, y15), (78, y78), (79, y79), (80, y80), (81, y81), (82, y82), (83, y83), (84, y84), (85, y85), (86, y86), (87, y87), (88, y88), (89, y89), (90, y90), (91, y91), (92, y92), (93, y93), (94, y94), (95, y95), (96, y96), (97, y97), (98, y98), (99, y99), (100, y100), (101, y101), (102, y102), (103, y103), (104, y104), (105, y105)])) h) (fun e h => some (Ex.ret, e, h)) (b4_38 C)
  | false => none)
  | .bool false =>
  thenV (some ((.int .i64 0), h)) fun y15 h =>
  endL (iter (codeA Try.prog C (partOf Try.f4 [1, 1, 1, 1, 1, 1, 0, 1, 0, 0, 1, 0, 0, 1, 1, 1, 1, 1, 1, 1, 1, 0, 0])) rounds (mkF 135 (up x [(14, y14), (15, y15), (78, y78), (79, y79), (80, y80), (81, y81), (82, y82), (83, y83), (84, y84), (85, y85), (86, y86), (87, y87), (88, y88), (89, y89), (90, y90), (91, y91), (92, y92), (93, y93), (94, y94), (95, y95), (96, y96), (97, y97)])) h) (fun e h => some (Ex.ret, e, h)) (b4_38 C)
  | _ => none)
  | _ => none)
noncomputable def t4l4_1111110100100111010 (_C : CallF) (x : Nat → Value) (h : Heap) : Option (Ex × Env × Heap) :=
  thenV (some ((x 13), h)) fun y66 h =>
  thenV (some ((x 11), h)) fun y67 h =>
  thenV (pu (lenL y67) h) fun y68 h =>
  thenV (pu (bin Try.prog .lss 3 y66 y68) h) fun y69 h =>
  (match y69 with
  | .bool true =>
  thenV (some ((x 11), h)) fun y72 h =>
  thenV (some ((x 13), h)) fun y73 h =>
  thenV (pu (idxS 1 y72 y73) h) fun y74 h =>
  thenV (ld1 y74 h) fun y75 h =>
  thenV (pu (bin Try.prog .xor 5 y75 (.int .u8 255)) h) fun y76 h =>
  thenV (pu (idxS 1 y72 y73) h) fun y77 h =>
  thenV (stN 1 y77 y76 h) fun _ h =>
  thenV (some ((x 13), h)) fun y70 h =>
  thenV (pu (bin Try.prog .add 3 y70 (.int .i64 1)) h) fun y71 h =>
  thenV (some (y71, h)) fun y13 h =>
  some (.normal, (mkF 135 (up x [(13, y13), (66, y66), (67, y67), (68, y68), (69, y69), (70, y70), (71, y71), (72, y72), (73, y73), (74, y74), (75, y75), (76, y76), (77, y77)])), h)
  | .bool false =>
  some (.exit 4, (mkF 135 (up x [(66, y66), (67, y67), (68, y68), (69, y69)])), h)
  | _ => none)
noncomputable def t4l4_1111110100100111111110 (C : CallF) (x : Nat → Value) (h : Heap) : Option (Ex × Env × Heap) :=
  thenV (some ((x 15), h)) fun y106 h =>
  thenV (some ((x 0), h)) fun y107 h =>
  thenV (pu (bin Try.prog .lss 3 y106 y107) h) fun y108 h =>
  (match y108 with
  | .bool true =>
  thenV (some ((x 5), h)) fun y112 h =>
  thenV (some ((x 15), h)) fun y113 h =>
  thenV (C 20 [y112, y113] h) fun y114 h =>
  thenV (some (y114, h)) fun y111 h =>
  thenV (pu (extractA y111 0) h) fun y115 h =>
  thenV (pu (extractA y111 1) h) fun y116 h =>
  thenV (some (y115, h)) fun y16 h =>
  thenV (some (y116, h)) fun y17 h =>
  thenV (some (y17, h)) fun y117 h =>
  thenV (pu (bin Try.prog .neq 28 y117 (.int .i64 0)) h) fun y118 h =>
  thenV (some (y118, h)) fun y119 h =>
  thenV (guardK (bOf y119 == some false) (some (y16, h)) h) fun y120 h =>
  thenV (guardK (bOf y119 == some false) (cvBS y120 h) h) fun y121 h =>
  thenV (guardK (bOf y119 == some false) (some ((x 7), h)) h) fun y122 h =>
  thenV (guardK (bOf y119 == some false) (some ((x 15), h)) h) fun y123 h =>
  thenV (guardK (bOf y119 == some false) (pu (idxS 1 y122 y123) h) h) fun y124 h =>
  thenV (guardK (bOf y119 == some false) (ld1 y124 h) h) fun y125 h =>
  thenV (guardK (bOf y119 == some false) (cvBS y125 h) h) fun y126 h =>
  thenV (guardK (bOf y119 == some false) (pu (bin Try.prog .neq 9 y121 y126) h) h) fun y127 h =>
  thenV (match y119 with | .bool t => some (if t then (.bool true) else y127, h) | _ => none) fun y128 h =>
  (match y128 with
  | .bool true =>
  thenV (some ((.bool false), h)) fun y4 h =>
  some (.ret, (mkF 135 (up x [(4, y4), (16, y16), (17, y17), (106, y106), (107, y107), (108, y108), (111, y111), (112, y112), (113, y113), (114, y114), (115, y115), (116, y116), (117, y117), (118, y118), (119, y119), (120, y120), (121, y121), (122, y122), (123, y123), (124, y124), (125, y125), (126, y126), (127, y127), (128, y128)])), h)
  | .bool false =>
  thenV (some (y16, h)) fun y129 h =>
  thenV (pu (idxS 1 y129 (.int .i64 0)) h) fun y130 h =>
  thenV (ld1 y130 h) fun y131 h =>
  thenV (pu (bin Try.prog .xor 5 y131 (.int .u8 255)) h) fun y132 h =>
  thenV (pu (idxS 1 y129 (.int .i64 0)) h) fun y133 h =>
  thenV (stN 1 y133 y132 h) fun _ h =>
  thenV (some ((x 15), h)) fun y109 h =>
  thenV (pu (bin Try.prog .add 3 y109 (.int .i64 1)) h) fun y110 h =>
  thenV (some (y110, h)) fun y15 h =>
  some (.normal, (mkF 135 (up x [(15, y15), (16, y16), (17, y17), (106, y106), (107, y107), (108, y108), (109, y109), (110, y110), (111, y111), (112, y112), (113, y113), (114, y114), (115, y115), (116, y116), (117, y117), (118, y118), (119, y119), (120, y120), (121, y121), (122, y122), (123, y123), (124, y124), (125, y125), (126, y126), (127, y127), (128, y128), (129, y129), (130, y130), (131, y131), (132, y132), (133, y133)])), h)
  | _ => none)
  | .bool false =>
  some (.exit 6, (mkF 135 (up x [(106, y106), (107, y107), (108, y108)])), h)
  | _ => none)
theorem t4_eq (C : CallF) (x0 x1 : Value) (h : Heap) : bodyK Try.prog C Try.f4 [x0, x1] h = t4 C x0 x1 h :=
  (bodyB_eq Try.prog C Try.f4 [x0, x1] h (by kernel_rfl)).trans (by kernel_rfl)
theorem t4k4_9_eq (C : CallF) (x : Nat → Value) (h : Heap) : k4_9 C (mkF 135 x) h = t4k4_9 C x h :=
  link_partF (b := (partOf Try.f4 [1, 1, 1, 1, 1, 1])) (kE := (resultsA Try.prog Try.f4.results.toList)) (rE := (resultsA Try.prog Try.f4.results.toList)) (xE := (fun _ _ _ => none)) (T := t4k4_9 C) (fun x h => by kernel_rfl) x h
theorem t4l4_11111010_eq (C : CallF) (x : Nat → Value) (h : Heap) : codeA Try.prog C (partOf Try.f4 [1, 1, 1, 1, 1, 0, 1, 0, 0]) (mkF 135 x) h = t4l4_11111010 C x h :=
  link_roundF (T := t4l4_11111010 C) (fun x h => by kernel_rfl) x h
theorem t4k4_12_eq (C : CallF) (x : Nat → Value) (h : Heap) : k4_12 C (mkF 135 x) h = t4k4_12 C x h :=
  link_partF (b := (partOf Try.f4 [1, 1, 1, 1, 1, 1, 1])) (kE := (resultsA Try.prog Try.f4.results.toList)) (rE := (resultsA Try.prog Try.f4.results.toList)) (xE := (fun _ _ _ => none)) (T := t4k4_12 C) (fun x h => by kernel_rfl) x h
theorem t4l4_111111010_eq (C : CallF) (x : Nat → Value) (h : Heap) : codeA Try.prog C (partOf Try.f4 [1, 1, 1, 1, 1, 1, 0, 1, 0, 0]) (mkF 135 x) h = t4l4_111111010 C x h :=
  link_roundF (T := t4l4_111111010 C) (fun x h => by kernel_rfl) x h
theorem t4k4_22_eq (C : CallF) (x : Nat → Value) (h : Heap) : k4_22 C (mkF 135 x) h = t4k4_22 C x h :=
  link_partF (b := (partOf Try.f4 [1, 1, 1, 1, 1, 1, 0, 1, 0, 0, 1, 1])) (kE := (fun e h => some (Ex.normal, e, h))) (rE := (fun e h => some (Ex.ret, e, h))) (xE := (fun i e h => some (Ex.exit i, e, h))) (T := t4k4_22 C) (fun x h => by kernel_rfl) x h
theorem t4k4_27_eq (C : CallF) (x : Nat → Value) (h : Heap) : k4_27 C (mkF 135 x) h = t4k4_27 C x h :=
  link_partF (b := (partOf Try.f4 [1, 1, 1, 1, 1, 1, 0, 1, 0, 0, 1, 0, 0, 1, 1, 1, 1])) (kE := (k4_22 C)) (rE := (fun e h => some (Ex.ret, e, h))) (xE := (b4_23 C)) (T := t4k4_27 C) (fun x h => by kernel_rfl) x h
theorem t4l4_1111110100100111010_eq (C : CallF) (x : Nat → Value) (h : Heap) : codeA Try.prog C (partOf Try.f4 [1, 1, 1, 1, 1, 1, 0, 1, 0, 0, 1, 0, 0, 1, 1, 1, 0, 1, 0, 0]) (mkF 135 x) h = t4l4_1111110100100111010 C x h :=
  link_roundF (T := t4l4_1111110100100111010 C) (fun x h => by kernel_rfl) x h
theorem t4l4_1111110100100111111110_eq (C : CallF) (x : Nat → Value) (h : Heap) : codeA Try.prog C (partOf Try.f4 [1, 1, 1, 1, 1, 1, 0, 1, 0, 0, 1, 0, 0, 1, 1, 1, 1, 1, 1, 1, 1, 0, 0]) (mkF 135 x) h = t4l4_1111110100100111111110 C x h :=
  link_roundF (T := t4l4_1111110100100111111110 C) (fun x h => by kernel_rfl) x h

end Go.Proofs.Ytcmfgmhadeeieaa

namespace Go.Proofs.Ytcmfgmhadeeieaa
open Go Go.Abs
/-- (*stolon/disk.Journal).Generation -/
noncomputable def t34 (C : CallF) (x0 : Value) (h : Heap) : Out :=
  thenV (some ((.int .u64 0), h)) fun _y2 h =>
  thenV (some (x0, h)) fun y3 h =>
  thenV (C 58 [y3] h) fun y4 h =>
  thenV (pu (bin Try.prog .neq 28 y4 (.int .i64 0)) h) fun y5 h =>
  (match y5 with
  | .bool true =>
  thenV (some ((.int .u64 0), h)) fun y2_1 h =>
  some (y2_1, h)
  | .bool false =>
  thenV (some (x0, h)) fun y6 h =>
  thenV (pu (nilCheckA y6) h) fun y7 h =>
  thenV (pu (addP y7 4) h) fun y8 h =>
  thenV (ld1 y8 h) fun y9 h =>
  thenV (some (y9, h)) fun y2_1 h =>
  some (y2_1, h)
  | _ => none)
theorem t34_eq (C : CallF) (x0 : Value) (h : Heap) : bodyK Try.prog C Try.f34 [x0] h = t34 C x0 h :=
  (bodyB_eq Try.prog C Try.f34 [x0] h (by kernel_rfl)).trans (by kernel_rfl)

/-- (*stolon/disk.Journal).Base -/
noncomputable def t74 (C : CallF) (x0 : Value) (h : Heap) : Out :=
  thenV (some ((.int .i64 0), h)) fun _y2 h =>
  thenV (some (x0, h)) fun y3 h =>
  thenV (C 58 [y3] h) fun y4 h =>
  thenV (pu (bin Try.prog .neq 28 y4 (.int .i64 0)) h) fun y5 h =>
  thenV (some (y5, h)) fun y6 h =>
  thenV (guardK (bOf y6 == some false) (some (x0, h)) h) fun y7 h =>
  thenV (guardK (bOf y6 == some false) (pu (nilCheckA y7) h) h) fun y8 h =>
  thenV (guardK (bOf y6 == some false) (pu (addP y8 2) h) h) fun y9 h =>
  thenV (guardK (bOf y6 == some false) (ld1 y9 h) h) fun y10 h =>
  thenV (guardK (bOf y6 == some false) (pu (bin Try.prog .lss 3 y10 (.int .i64 0)) h) h) fun y11 h =>
  thenV (match y6 with | .bool t => some (if t then (.bool true) else y11, h) | _ => none) fun y12 h =>
  (match y12 with
  | .bool true =>
  thenV (some ((.int .i64 0), h)) fun y2_1 h =>
  some (y2_1, h)
  | .bool false =>
  let g5_0 := h
  thenV (some (x0, g5_0)) fun y13 g5_1 =>
  thenV (pu (nilCheckA y13) g5_1) fun y14 g5_2 =>
  thenV (pu (addP y14 3) g5_2) fun y15 g5_3 =>
  thenV (ld1 y15 g5_3) fun y16 g5_4 =>
  thenV (some (x0, g5_4)) fun y17 g5_5 =>
  thenV (pu (nilCheckA y17) g5_5) fun y18 g5_6 =>
  thenV (pu (addP y18 0) g5_6) fun y19 g5_7 =>
  thenV (ld1 y19 g5_7) fun y20 g5_8 =>
  thenV (C 55 [y20] g5_8) fun y21 g5_9 =>
  thenV (pu (bin Try.prog .mul 3 y16 y21) g5_9) fun y22 g5_10 =>
  thenV (pu (bin Try.prog .add 3 (.int .i64 2) y22) g5_10) fun y23 g5_11 =>
  thenV (some (y23, g5_11)) fun y2_1 g5_12 =>
  (match (chkR true (ld1 y15 g5_9) y16 && true) with
  | true =>
  let h := g5_12
  some (y2_1, h)
  | false => none)
  | _ => none)
theorem t74_eq (C : CallF) (x0 : Value) (h : Heap) : bodyK Try.prog C Try.f74 [x0] h = t74 C x0 h :=
  (bodyB_eq Try.prog C Try.f74 [x0] h (by kernel_rfl)).trans (by kernel_rfl)

/-- stolon/stolonlaw03.DiskRotHides -/
noncomputable def t6 (C : CallF) (x0 x1 x2 : Value) (h : Heap) : Out :=
  thenV (box x2 h) fun y5 h =>
  thenV (some ((.bool false), h)) fun _y6 h =>
  thenV (some (x0, h)) fun y18 h =>
  thenV (pu (bin Try.prog .lss 3 y18 (.int .i64 4)) h) fun y19 h =>
  thenV (some (y19, h)) fun y20 h =>
  thenV (guardK (bOf y20 == some false) (some (x0, h)) h) fun y21 h =>
  thenV (guardK (bOf y20 == some false) (pu (bin Try.prog .gtr 3 y21 (.int .i64 64)) h) h) fun y22 h =>
  thenV (match y20 with | .bool t => some (if t then (.bool true) else y22, h) | _ => none) fun y23 h =>
  thenV (some (y23, h)) fun y24 h =>
  thenV (guardK (bOf y24 == some false) (some (x0, h)) h) fun y25 h =>
  thenV (guardK (bOf y24 == some false) (some (x1, h)) h) fun y26 h =>
  thenV (guardK (bOf y24 == some false) (pu (bldR [(.int .i64 0), (.int .i64 0), (.int .i64 0), (.int .u8 0), (.slice none 0 0), (.slice none 0 0)] [(5, 1, y26)]) h) h) fun y27 h =>
  thenV (guardK (bOf y24 == some false) (bslR 6 (.agg #[(.int .i64 0), (.int .i64 0), (.int .i64 0), (.int .u8 0), (.slice none 0 0), (.slice none 0 0)]) 1 [(0, y27)] h) h) fun y28 h =>
  thenV (guardK (bOf y24 == some false) (C 17 [y25, y28] h) h) fun y29 h =>
  thenV (match y24 with | .bool t => some (if t then (.bool true) else y29, h) | _ => none) fun y30 h =>
  (match y30 with
  | .bool true =>
  thenV (C 14 [] h) fun y31 h =>
  thenV (some (y31, h)) fun y6_1 h =>
  some (y6_1, h)
  | .bool false =>
  thenV (some (x0, h)) fun y33 h =>
  thenV (C 18 [y33] h) fun y34 h =>
  thenV (some (y34, h)) fun y32 h =>
  thenV (pu (extractA y32 0) h) fun y35 h =>
  thenV (pu (extractA y32 1) h) fun y36 h =>
  thenV (some (y35, h)) fun y7 h =>
  thenV (some (y36, h)) fun _y8 h =>
  thenV (some (y7, h)) fun y38 h =>
  thenV (C 21 [y38] h) fun y39 h =>
  thenV (some (y39, h)) fun y37 h =>
  thenV (pu (extractA y37 0) h) fun y40 h =>
  thenV (pu (extractA y37 1) h) fun y41 h =>
  thenV (pu (extractA y37 2) h) fun y42 h =>
  thenV (some (y40, h)) fun y9 h =>
  thenV (some (y41, h)) fun _y10 h =>
  thenV (some (y42, h)) fun _y11 h =>
  thenV (some (y9, h)) fun y44 h =>
  thenV (some (x1, h)) fun y45 h =>
  thenV (C 24 [y45] h) fun y46 h =>
  thenV (C 23 [y44, y46] h) fun y47 h =>
  thenV (some (y47, h)) fun y43 h =>
  thenV (pu (extractA y43 0) h) fun y48 h =>
  thenV (pu (extractA y43 1) h) fun y49 h =>
  thenV (some (y48, h)) fun y12 h =>
  thenV (some (y49, h)) fun y13 h =>
  let g9_0 := h
  thenV (some (y13, g9_0)) fun y50 g9_1 =>
  thenV (pu (bin Try.prog .neq 28 y50 (.int .i64 0)) g9_1) fun y51 g9_2 =>
  thenV (some (y51, g9_2)) fun y52 g9_3 =>
  thenV (guardK (bOf y52 == some false) (pu (addP y5 1) g9_3) g9_3) fun y53 g9_4 =>
  thenV (guardK (bOf y52 == some false) (ld1 y53 g9_4) g9_4) fun y54 g9_5 =>
  thenV (guardK (bOf y52 == some false) (pu (bin Try.prog .lss 3 y54 (.int .i64 0)) g9_5) g9_5) fun y55 g9_6 =>
  thenV (match y52 with | .bool t => some (if t then (.bool true) else y55, g9_6) | _ => none) fun y56 g9_7 =>
  thenV (some (y56, g9_7)) fun y57 g9_8 =>
  thenV (guardK (bOf y57 == some false) (pu (addP y5 1) g9_8) g9_8) fun y58 g9_9 =>
  thenV (guardK (bOf y57 == some false) (ld1 y58 g9_9) g9_9) fun y59 g9_10 =>
  thenV (guardK (bOf y57 == some false) (some (x1, g9_10)) g9_10) fun y60 g9_11 =>
  thenV (guardK (bOf y57 == some false) (pu (lenL y60) g9_11) g9_11) fun y61 g9_12 =>
  thenV (guardK (bOf y57 == some false) (pu (bin Try.prog .geq 3 y59 y61) g9_12) g9_12) fun y62 g9_13 =>
  thenV (match y57 with | .bool t => some (if t then (.bool true) else y62, g9_13) | _ => none) fun y63 g9_14 =>
  thenV (some (y63, g9_14)) fun y64 g9_15 =>
  thenV (guardK (bOf y64 == some false) (pu (addP y5 2) g9_15) g9_15) fun y65 g9_16 =>
  thenV (guardK (bOf y64 == some false) (ld1 y65 g9_16) g9_16) fun y66 g9_17 =>
  thenV (guardK (bOf y64 == some false) (pu (bin Try.prog .lss 3 y66 (.int .i64 0)) g9_17) g9_17) fun y67 g9_18 =>
  thenV (match y64 with | .bool t => some (if t then (.bool true) else y67, g9_18) | _ => none) fun y68 g9_19 =>
  thenV (some (y68, g9_19)) fun y69 g9_20 =>
  thenV (guardK (bOf y69 == some false) (pu (addP y5 2) g9_20) g9_20) fun y70 g9_21 =>
  thenV (guardK (bOf y69 == some false) (ld1 y70 g9_21) g9_21) fun y71 g9_22 =>
  thenV (guardK (bOf y69 == some false) (some (x1, g9_22)) g9_22) fun y72 g9_23 =>
  thenV (guardK (bOf y69 == some false) (pu (addP y5 1) g9_23) g9_23) fun y73 g9_24 =>
  thenV (guardK (bOf y69 == some false) (ld1 y73 g9_24) g9_24) fun y74 g9_25 =>
  thenV (guardK (bOf y69 == some false) (pu (idxS 1 y72 y74) g9_25) g9_25) fun y75 g9_26 =>
  thenV (guardK (bOf y69 == some false) (ld1 y75 g9_26) g9_26) fun y76 g9_27 =>
  thenV (guardK (bOf y69 == some false) (pu (lenL y76) g9_27) g9_27) fun y77 g9_28 =>
  thenV (guardK (bOf y69 == some false) (C 15 [y77] g9_28) g9_28) fun y78 g9_29 =>
  thenV (guardK (bOf y69 == some false) (pu (bin Try.prog .mul 3 (.int .i64 128) y78) g9_29) g9_29) fun y79 g9_30 =>
  thenV (guardK (bOf y69 == some false) (pu (bin Try.prog .geq 3 y71 y79) g9_30) g9_30) fun y80 g9_31 =>
  thenV (match y69 with | .bool t => some (if t then (.bool true) else y80, g9_31) | _ => none) fun y81 g9_32 =>
  thenV (some (y81, g9_32)) fun y82 g9_33 =>
  thenV (guardK (bOf y82 == some false) (pu (addP y5 3) g9_33) g9_33) fun y83 g9_34 =>
  thenV (guardK (bOf y82 == some false) (ld1 y83 g9_34) g9_34) fun y84 g9_35 =>
  thenV (guardK (bOf y82 == some false) (pu (bin Try.prog .eql 5 y84 (.int .u8 0)) g9_35) g9_35) fun y85 g9_36 =>
  thenV (match y82 with | .bool t => some (if t then (.bool true) else y85, g9_36) | _ => none) fun y86 g9_37 =>
  (match (chkR (bOf y69 == some false) (ld1 y70 g9_29) y71 && true) with
  | true =>
  let h := g9_37
  (match y86 with
  | .bool true =>
  thenV (C 14 [] h) fun y87 h =>
  thenV (some (y87, h)) fun y6_1 h =>
  some (y6_1, h)
  | .bool false =>
  thenV (some (y12, h)) fun y88 h =>
  thenV (pu (lenL y88) h) fun y89 h =>
  thenV (some (x1, h)) fun y90 h =>
  thenV (pu (lenL y90) h) fun y91 h =>
  thenV (pu (bin Try.prog .neq 3 y89 y91) h) fun y92 h =>
  thenV (some (y92, h)) fun y93 h =>
  thenV (guardK (bOf y93 == some false) (some (y7, h)) h) fun y94 h =>
  thenV (guardK (bOf y93 == some false) (some (y12, h)) h) fun y95 h =>
  thenV (guardK (bOf y93 == some false) (pu (addP y5 1) h) h) fun y96 h =>
  thenV (guardK (bOf y93 == some false) (ld1 y96 h) h) fun y97 h =>
  thenV (guardK (bOf y93 == some false) (pu (idxS 1 y95 y97) h) h) fun y98 h =>
  thenV (guardK (bOf y93 == some false) (ld1 y98 h) h) fun y99 h =>
  thenV (guardK (bOf y93 == some false) (pu (bin Try.prog .add 3 (.int .i64 2) y99) h) h) fun y100 h =>
  thenV (guardK (bOf y93 == some false) (pu (addP y5 2) h) h) fun y101 h =>
  thenV (guardK (bOf y93 == some false) (ld1 y101 h) h) fun y102 h =>
  thenV (guardK (bOf y93 == some false) (pu (bin Try.prog .quo 3 y102 (.int .i64 128)) h) h) fun y103 h =>
  thenV (guardK (bOf y93 == some false) (pu (bin Try.prog .add 3 y100 y103) h) h) fun y104 h =>
  thenV (guardK (bOf y93 == some false) (pu (addP y5 2) h) h) fun y105 h =>
  thenV (guardK (bOf y93 == some false) (ld1 y105 h) h) fun y106 h =>
  thenV (guardK (bOf y93 == some false) (pu (bin Try.prog .rem 3 y106 (.int .i64 128)) h) h) fun y107 h =>
  thenV (guardK (bOf y93 == some false) (pu (addP y5 3) h) h) fun y108 h =>
  thenV (guardK (bOf y93 == some false) (ld1 y108 h) h) fun y109 h =>
  thenV (guardK (bOf y93 == some false) (C 31 [y94, y104, y107, y109] h) h) fun y110 h =>
  thenV (guardK (bOf y93 == some false) (pu (bin Try.prog .neq 28 y110 (.int .i64 0)) h) h) fun y111 h =>
  thenV (match y93 with | .bool t => some (if t then (.bool true) else y111, h) | _ => none) fun y112 h =>
  (match y112 with
  | .bool true =>
  thenV (some ((.bool false), h)) fun y6_1 h =>
  some (y6_1, h)
  | .bool false =>
  let g15_0 := h
  thenV (some (x1, g15_0)) fun y113 g15_1 =>
  thenV (pu (addP y5 1) g15_1) fun y114 g15_2 =>
  thenV (ld1 y114 g15_2) fun y115 g15_3 =>
  thenV (pu (slR 1 y113 none (some y115) none) g15_3) fun y116 g15_4 =>
  thenV (C 24 [y116] g15_4) fun y117 g15_5 =>
  thenV (some (x1, g15_5)) fun y118 g15_6 =>
  thenV (pu (addP y5 1) g15_6) fun y119 g15_7 =>
  thenV (ld1 y119 g15_7) fun y120 g15_8 =>
  thenV (pu (bin Try.prog .add 3 y120 (.int .i64 1)) g15_8) fun y121 g15_9 =>
  thenV (pu (slR 1 y118 (some y121) none none) g15_9) fun y122 g15_10 =>
  thenV (C 24 [y122] g15_10) fun y123 g15_11 =>
  thenV (appendA 1 24 y117 y123 g15_11) fun y124 g15_12 =>
  thenV (some (y124, g15_12)) fun y14 g15_13 =>
  (match (chkR true (ld1 y119 g15_4) y120 && true) with
  | true =>
  let h := g15_13
  thenV (some (y9, h)) fun y126 h =>
  thenV (some (y12, h)) fun y127 h =>
  thenV (pu (addP y5 1) h) fun y128 h =>
  thenV (ld1 y128 h) fun y129 h =>
  thenV (pu (idxS 1 y127 y129) h) fun y130 h =>
  thenV (ld1 y130 h) fun y131 h =>
  thenV (C 28 [y126, y131] h) fun y132 h =>
  thenV (some (y132, h)) fun y125 h =>
  thenV (pu (extractA y125 0) h) fun _y133 h =>
  thenV (pu (extractA y125 1) h) fun y134 h =>
  thenV (some (y134, h)) fun y13_1 h =>
  thenV (some (y7, h)) fun y136 h =>
  thenV (C 21 [y136] h) fun y137 h =>
  thenV (some (y137, h)) fun y135 h =>
  thenV (pu (extractA y135 0) h) fun y138 h =>
  thenV (pu (extractA y135 1) h) fun y139 h =>
  thenV (pu (extractA y135 2) h) fun y140 h =>
  thenV (some (y138, h)) fun _y15 h =>
  thenV (some (y139, h)) fun y16 h =>
  thenV (some (y140, h)) fun y17 h =>
  thenV (some (y13_1, h)) fun y141 h =>
  thenV (pu (bin Try.prog .eql 28 y141 (.int .i64 6)) h) fun y142 h =>
  thenV (some (y142, h)) fun y143 h =>
  thenV (guardK (bOf y143 == some true) (some (y17, h)) h) fun y144 h =>
  thenV (guardK (bOf y143 == some true) (pu (bin Try.prog .eql 28 y144 (.int .i64 0)) h) h) fun y145 h =>
  thenV (match y143 with | .bool t => some (if t then y145 else (.bool false), h) | _ => none) fun y146 h =>
  thenV (some (y146, h)) fun y147 h =>
  thenV (guardK (bOf y147 == some true) (some (y16, h)) h) fun y148 h =>
  thenV (guardK (bOf y147 == some true) (C 30 [y148] h) h) fun y149 h =>
  thenV (guardK (bOf y147 == some true) (some (y14, h)) h) fun y150 h =>
  thenV (guardK (bOf y147 == some true) (C 29 [y149, y150] h) h) fun y151 h =>
  thenV (match y147 with | .bool t => some (if t then y151 else (.bool false), h) | _ => none) fun y152 h =>
  thenV (some (y152, h)) fun y153 h =>
  thenV (guardK (bOf y153 == some true) (C 14 [] h) h) fun y154 h =>
  thenV (match y153 with | .bool t => some (if t then y154 else (.bool false), h) | _ => none) fun y155 h =>
  thenV (some (y155, h)) fun y6_1 h =>
  some (y6_1, h)
  | false => none)
  | _ => none)
  | _ => none)
  | false => none)
  | _ => none)
end Go.Proofs.Ytcmfgmhadeeieaa

