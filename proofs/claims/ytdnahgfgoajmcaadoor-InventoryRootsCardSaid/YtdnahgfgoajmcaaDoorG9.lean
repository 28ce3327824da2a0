/-
  Printed by a program: the texts of some of the seat's functions, each linked to the program.
  Conditions: none.
  Printed by a program: the texts of some of the seat's functions, each linked to the program.
  Conditions: none.
  Printed by a program: the texts of some of the seat's functions, each linked to the program.
  Conditions: none.
  Printed by a program: the texts of some of the seat's functions, each linked to the program.
  Conditions: none.
  Printed by a program: the texts of some of the seat's functions, each linked to the program.
  Conditions: none.
  Printed by a program: the texts of some of the seat's functions, each linked to the program.
  Conditions: none.
-/
import Derived.Test.YtdnahgfgoajmcaaDoorG8
import Derived.Test.YtdnahgfgoajmcaaDoorProg
import Derived.KernelRfl
namespace Go.Proofs.YtdnahgfgoajmcaaDoor
open Go Go.Abs
/-- stolon/inventory.Valid -/
noncomputable def t42 (C : CallF) (x0 : Value) (h : Heap) : Out :=
  thenV (box x0 h) fun y1 h =>
  thenV (some ((.bool false), h)) fun _y2 h =>
  thenV (pu (addP y1 0) h) fun y3 h =>
  thenV (ld1 y3 h) fun y4 h =>
  thenV (pu (bin Tryd.prog .eql 56 y4 (.int .u8 1)) h) fun y6 h =>
  thenV (some (y6, h)) fun y5 h =>
  (match y5 with
  | .bool true =>
  thenV (ldN 39 y1 h) fun y7 h =>
  thenV (pu (addP y1 0) h) fun y8 h =>
  thenV (ld1 y8 h) fun y9 h =>
  thenV (pu (addP y1 33) h) fun y10 h =>
  thenV (ld1 y10 h) fun y11 h =>
  thenV (pu (addP y1 34) h) fun y12 h =>
  thenV (ld1 y12 h) fun y13 h =>
  thenV (pu (bldR [(.int .u8 0), (.int .u8 0), (.int .u8 0), (.int .u8 0), (.int .u8 0), (.int .u8 0), (.int .u8 0), (.int .u8 0), (.int .u8 0), (.int .u8 0), (.int .u8 0), (.int .u8 0), (.int .u8 0), (.int .u8 0), (.int .u8 0), (.int .u8 0), (.int .u8 0), (.int .u8 0), (.int .u8 0), (.int .u8 0), (.int .u8 0), (.int .u8 0), (.int .u8 0), (.int .u8 0), (.int .u8 0), (.int .u8 0), (.int .u8 0), (.int .u8 0), (.int .u8 0), (.int .u8 0), (.int .u8 0), (.int .u8 0), (.int .u8 0), (.int .i64 0), (.int .u64 0), (.int .u64 0), (.bool false), (.int .i64 0), (.int .i64 0)] [(0, 1, y9), (33, 1, y11), (34, 1, y13)]) h) fun y14 h =>
  thenV (pu (bin Tryd.prog .eql 58 y7 y14) h) fun y15 h =>
  thenV (some (y15, h)) fun y16 h =>
  thenV (guardK (bOf y16 == some true) (ldN 39 y1 h) h) fun y17 h =>
  thenV (guardK (bOf y16 == some true) (C 86 [y17] h) h) fun y18 h =>
  thenV (match y16 with | .bool t => some (if t then y18 else (.bool false), h) | _ => none) fun y19 h =>
  thenV (some (y19, h)) fun y2_1 h =>
  some (y2_1, h)
  | .bool false =>
  thenV (pu (bin Tryd.prog .eql 56 y4 (.int .u8 2)) h) fun y21 h =>
  thenV (some (y21, h)) fun y20 h =>
  (match y20 with
  | .bool true =>
  thenV (ldN 39 y1 h) fun y22 h =>
  thenV (pu (addP y1 0) h) fun y23 h =>
  thenV (ld1 y23 h) fun y24 h =>
  thenV (pu (addP y1 1) h) fun y25 h =>
  thenV (ldN 32 y25 h) fun y26 h =>
  thenV (pu (bldR [(.int .u8 0), (.int .u8 0), (.int .u8 0), (.int .u8 0), (.int .u8 0), (.int .u8 0), (.int .u8 0), (.int .u8 0), (.int .u8 0), (.int .u8 0), (.int .u8 0), (.int .u8 0), (.int .u8 0), (.int .u8 0), (.int .u8 0), (.int .u8 0), (.int .u8 0), (.int .u8 0), (.int .u8 0), (.int .u8 0), (.int .u8 0), (.int .u8 0), (.int .u8 0), (.int .u8 0), (.int .u8 0), (.int .u8 0), (.int .u8 0), (.int .u8 0), (.int .u8 0), (.int .u8 0), (.int .u8 0), (.int .u8 0), (.int .u8 0), (.int .i64 0), (.int .u64 0), (.int .u64 0), (.bool false), (.int .i64 0), (.int .i64 0)] [(0, 1, y24), (1, 32, y26)]) h) fun y27 h =>
  thenV (pu (bin Tryd.prog .eql 58 y22 y27) h) fun y28 h =>
  thenV (some (y28, h)) fun y2_1 h =>
  some (y2_1, h)
  | .bool false =>
  thenV (pu (bin Tryd.prog .eql 56 y4 (.int .u8 3)) h) fun y30 h =>
  thenV (some (y30, h)) fun y29 h =>
  (match y29 with
  | .bool true =>
  thenV (ldN 39 y1 h) fun y31 h =>
  thenV (C 86 [y31] h) fun y32 h =>
  thenV (some (y32, h)) fun y33 h =>
  thenV (guardK (bOf y33 == some true) (pu (addP y1 35) h) h) fun y34 h =>
  thenV (guardK (bOf y33 == some true) (ld1 y34 h) h) fun y35 h =>
  thenV (guardK (bOf y33 == some true) (pu (bin Tryd.prog .geq 32 y35 (.int .u64 1)) h) h) fun y36 h =>
  thenV (match y33 with | .bool t => some (if t then y36 else (.bool false), h) | _ => none) fun y37 h =>
  thenV (some (y37, h)) fun y38 h =>
  thenV (guardK (bOf y38 == some true) (pu (addP y1 37) h) h) fun y39 h =>
  thenV (guardK (bOf y38 == some true) (ld1 y39 h) h) fun y40 h =>
  thenV (guardK (bOf y38 == some true) (pu (bin Tryd.prog .leq 3 (.int .i64 1) y40) h) h) fun y41 h =>
  thenV (match y38 with | .bool t => some (if t then y41 else (.bool false), h) | _ => none) fun y42 h =>
  thenV (some (y42, h)) fun y43 h =>
  thenV (guardK (bOf y43 == some true) (pu (addP y1 37) h) h) fun y44 h =>
  thenV (guardK (bOf y43 == some true) (ld1 y44 h) h) fun y45 h =>
  thenV (guardK (bOf y43 == some true) (pu (addP y1 38) h) h) fun y46 h =>
  thenV (guardK (bOf y43 == some true) (ld1 y46 h) h) fun y47 h =>
  thenV (guardK (bOf y43 == some true) (pu (bin Tryd.prog .leq 3 y45 y47) h) h) fun y48 h =>
  thenV (match y43 with | .bool t => some (if t then y48 else (.bool false), h) | _ => none) fun y49 h =>
  thenV (some (y49, h)) fun y50 h =>
  thenV (guardK (bOf y50 == some true) (pu (addP y1 38) h) h) fun y51 h =>
  thenV (guardK (bOf y50 == some true) (ld1 y51 h) h) fun y52 h =>
  thenV (guardK (bOf y50 == some true) (pu (bin Tryd.prog .leq 3 y52 (.int .i64 255)) h) h) fun y53 h =>
  thenV (match y50 with | .bool t => some (if t then y53 else (.bool false), h) | _ => none) fun y54 h =>
  thenV (some (y54, h)) fun y2_1 h =>
  some (y2_1, h)
  | .bool false =>
  thenV (some ((.bool false), h)) fun y2_1 h =>
  some (y2_1, h)
  | _ => none)
  | _ => none)
  | _ => none)
theorem t42_eq (C : CallF) (x0 : Value) (h : Heap) : bodyK Tryd.prog C Tryd.f42 [x0] h = t42 C x0 h :=
  (bodyB_eq Tryd.prog C Tryd.f42 [x0] h (by kernel_rfl)).trans (by kernel_rfl)

/-- stolon/inventory.EncodeRecord -/
noncomputable def t43 (C : CallF) (x0 : Value) (h : Heap) : Out :=
  thenV (box x0 h) fun y1 h =>
  thenV (some ((.slice none 0 0), h)) fun _y2 h =>
  thenV (some ((.int .i64 0), h)) fun _y3 h =>
  thenV (ldN 39 y1 h) fun y7 h =>
  thenV (C 42 [y7] h) fun y8 h =>
  thenV (pu (unA .not y8) h) fun y9 h =>
  (match y9 with
  | .bool true =>
  thenV (some ((.slice none 0 0), h)) fun y2_1 h =>
  thenV (some ((.int .i64 2), h)) fun y3_1 h =>
  some (.tuple #[y2_1, y3_1], h)
  | .bool false =>
  thenV (C 87 [(.int .i64 53)] h) fun y10 h =>
  thenV (some (y10, h)) fun y4 h =>
  thenV (some (y4, h)) fun y11 h =>
  thenV (pu (addP y1 0) h) fun y12 h =>
  thenV (ld1 y12 h) fun y13 h =>
  thenV (C 88 [y11, y13] h) fun _y14 h =>
  thenV (some (y4, h)) fun y15 h =>
  thenV (pu (addP y1 1) h) fun y16 h =>
  thenV (pu (sliceArr 32 1 y16 none none none) h) fun y17 h =>
  thenV (C 89 [y15, y17] h) fun _y18 h =>
  thenV (some (y4, h)) fun y19 h =>
  thenV (pu (addP y1 33) h) fun y20 h =>
  thenV (ld1 y20 h) fun y21 h =>
  thenV (cvI .u8 y21 h) fun y22 h =>
  thenV (C 88 [y19, y22] h) fun _y23 h =>
  thenV (some (y4, h)) fun y24 h =>
  thenV (pu (addP y1 34) h) fun y25 h =>
  thenV (ld1 y25 h) fun y26 h =>
  thenV (C 90 [y24, y26] h) fun _y27 h =>
  thenV (some (y4, h)) fun y28 h =>
  thenV (pu (addP y1 35) h) fun y29 h =>
  thenV (ld1 y29 h) fun y30 h =>
  thenV (C 90 [y28, y30] h) fun _y31 h =>
  thenV (some (y4, h)) fun y32 h =>
  thenV (C 88 [y32, (.int .u8 0)] h) fun _y33 h =>
  thenV (some (y4, h)) fun y34 h =>
  thenV (pu (addP y1 37) h) fun y35 h =>
  thenV (ld1 y35 h) fun y36 h =>
  thenV (cvI .u8 y36 h) fun y37 h =>
  thenV (C 88 [y34, y37] h) fun _y38 h =>
  thenV (some (y4, h)) fun y39 h =>
  thenV (pu (addP y1 38) h) fun y40 h =>
  thenV (ld1 y40 h) fun y41 h =>
  thenV (cvI .u8 y41 h) fun y42 h =>
  thenV (C 88 [y39, y42] h) fun _y43 h =>
  thenV (some (y4, h)) fun y45 h =>
  thenV (C 91 [y45] h) fun y46 h =>
  thenV (some (y46, h)) fun y44 h =>
  thenV (pu (extractA y44 0) h) fun y47 h =>
  thenV (pu (extractA y44 1) h) fun y48 h =>
  thenV (some (y47, h)) fun y5 h =>
  thenV (some (y48, h)) fun y6 h =>
  thenV (pu (addP y1 36) h) fun y49 h =>
  thenV (ld1 y49 h) fun y50 h =>
  (match y50 with
  | .bool true =>
  thenV (some (y5, h)) fun y51 h =>
  thenV (some (y5, h)) fun y52 h =>
  thenV (pu (lenL y52) h) fun y53 h =>
  thenV (pu (bin Tryd.prog .sub 3 y53 (.int .i64 3)) h) fun y54 h =>
  thenV (pu (idxS 1 y51 y54) h) fun y55 h =>
  thenV (stN 1 y55 (.int .u8 1) h) fun _ h =>
  thenV (some (y5, h)) fun y56 h =>
  thenV (some (y6, h)) fun y57 h =>
  thenV (some (y56, h)) fun y2_1 h =>
  thenV (some (y57, h)) fun y3_1 h =>
  some (.tuple #[y2_1, y3_1], h)
  | .bool false =>
  thenV (some (y5, h)) fun y56 h =>
  thenV (some (y6, h)) fun y57 h =>
  thenV (some (y56, h)) fun y2_1 h =>
  thenV (some (y57, h)) fun y3_1 h =>
  some (.tuple #[y2_1, y3_1], h)
  | _ => none)
  | _ => none)
theorem t43_eq (C : CallF) (x0 : Value) (h : Heap) : bodyK Tryd.prog C Tryd.f43 [x0] h = t43 C x0 h :=
  (bodyB_eq Tryd.prog C Tryd.f43 [x0] h (by kernel_rfl)).trans (by kernel_rfl)

/-- slices.Clone[[]byte,byte] -/
noncomputable def t53 (_C : CallF) (x0 : Value) (h : Heap) : Out :=
  thenV (some ((.slice none 0 0), h)) fun _y2 h =>
  thenV (some (x0, h)) fun y3 h =>
  thenV (pu (bin Tryd.prog .eql 23 y3 (.slice none 0 0)) h) fun y4 h =>
  (match y4 with
  | .bool true =>
  thenV (some ((.slice none 0 0), h)) fun y2_1 h =>
  some (y2_1, h)
  | .bool false =>
  thenV (bslR 1 (.int .u8 0) 0 [] h) fun y5 h =>
  thenV (some (x0, h)) fun y6 h =>
  thenV (appendA 1 1 y5 y6 h) fun y7 h =>
  thenV (some (y7, h)) fun y2_1 h =>
  some (y2_1, h)
  | _ => none)
theorem t53_eq (C : CallF) (x0 : Value) (h : Heap) : bodyK Tryd.prog C Tryd.f53 [x0] h = t53 C x0 h :=
  (bodyB_eq Tryd.prog C Tryd.f53 [x0] h (by kernel_rfl)).trans (by kernel_rfl)

/-- stolon/inventory.holder -/
noncomputable def t86 (_C : CallF) (x0 : Value) (h : Heap) : Out :=
  thenV (box x0 h) fun y1 h =>
  thenV (some ((.bool false), h)) fun _y2 h =>
  thenV (pu (addP y1 33) h) fun y3 h =>
  thenV (ld1 y3 h) fun y4 h =>
  thenV (pu (bin Tryd.prog .geq 3 y4 (.int .i64 0)) h) fun y5 h =>
  thenV (some (y5, h)) fun y6 h =>
  thenV (guardK (bOf y6 == some true) (pu (addP y1 33) h) h) fun y7 h =>
  thenV (guardK (bOf y6 == some true) (ld1 y7 h) h) fun y8 h =>
  thenV (guardK (bOf y6 == some true) (pu (bin Tryd.prog .lss 3 y8 (.int .i64 16)) h) h) fun y9 h =>
  thenV (match y6 with | .bool t => some (if t then y9 else (.bool false), h) | _ => none) fun y10 h =>
  thenV (some (y10, h)) fun y11 h =>
  thenV (guardK (bOf y11 == some true) (pu (addP y1 34) h) h) fun y12 h =>
  thenV (guardK (bOf y11 == some true) (ld1 y12 h) h) fun y13 h =>
  thenV (guardK (bOf y11 == some true) (pu (bin Tryd.prog .geq 32 y13 (.int .u64 1)) h) h) fun y14 h =>
  thenV (match y11 with | .bool t => some (if t then y14 else (.bool false), h) | _ => none) fun y15 h =>
  thenV (some (y15, h)) fun y2_1 h =>
  some (y2_1, h)
theorem t86_eq (C : CallF) (x0 : Value) (h : Heap) : bodyK Tryd.prog C Tryd.f86 [x0] h = t86 C x0 h :=
  (bodyB_eq Tryd.prog C Tryd.f86 [x0] h (by kernel_rfl)).trans (by kernel_rfl)

/-- stolon/digest.NewWriter -/
noncomputable def t87 (_C : CallF) (x0 : Value) (h : Heap) : Out :=
  thenV (some ((.pointer none), h)) fun _y2 h =>
  thenV (some (x0, h)) fun y3 h =>
  thenV (pu (minmax true (.int .i64 0) [y3]) h) fun y4 h =>
  thenV (pu (bldR [(.int .i64 0), (.bool false), (.slice none 0 0)] [(0, 1, y4)]) h) fun y5 h =>
  thenV (box y5 h) fun y6 h =>
  thenV (some (y6, h)) fun y2_1 h =>
  some (y2_1, h)
theorem t87_eq (C : CallF) (x0 : Value) (h : Heap) : bodyK Tryd.prog C Tryd.f87 [x0] h = t87 C x0 h :=
  (bodyB_eq Tryd.prog C Tryd.f87 [x0] h (by kernel_rfl)).trans (by kernel_rfl)

/-- (*stolon/digest.Writer).U8 -/
noncomputable def t88 (C : CallF) (x0 x1 : Value) (h : Heap) : Out :=
  thenV (some (x0, h)) fun y4 h =>
  thenV (some (x1, h)) fun y5 h =>
  thenV (cvI .u64 y5 h) fun y6 h =>
  thenV (C 125 [y4, y6, (.int .i64 1)] h) fun _y7 h =>
  some (.tuple #[], h)
theorem t88_eq (C : CallF) (x0 x1 : Value) (h : Heap) : bodyK Tryd.prog C Tryd.f88 [x0, x1] h = t88 C x0 x1 h :=
  (bodyB_eq Tryd.prog C Tryd.f88 [x0, x1] h (by kernel_rfl)).trans (by kernel_rfl)

/-- (*stolon/digest.Writer).Raw -/
noncomputable def t89 (C : CallF) (x0 x1 : Value) (h : Heap) : Out :=
  thenV (some (x0, h)) fun y4 h =>
  thenV (some (x1, h)) fun y5 h =>
  thenV (pu (lenL y5) h) fun y6 h =>
  thenV (C 126 [y4, y6] h) fun y7 h =>
  (match y7 with
  | .bool true =>
  thenV (some (x0, h)) fun y8 h =>
  thenV (some (x0, h)) fun y9 h =>
  thenV (pu (nilCheckA y9) h) fun y10 h =>
  thenV (pu (addP y10 2) h) fun y11 h =>
  thenV (ld1 y11 h) fun y12 h =>
  thenV (some (x1, h)) fun y13 h =>
  thenV (appendA 1 1 y12 y13 h) fun y14 h =>
  thenV (pu (nilCheckA y8) h) fun y15 h =>
  thenV (pu (addP y15 2) h) fun y16 h =>
  thenV (stN 1 y16 y14 h) fun _ h =>
  some (.tuple #[], h)
  | .bool false =>
  some (.tuple #[], h)
  | _ => none)
theorem t89_eq (C : CallF) (x0 x1 : Value) (h : Heap) : bodyK Tryd.prog C Tryd.f89 [x0, x1] h = t89 C x0 x1 h :=
  (bodyB_eq Tryd.prog C Tryd.f89 [x0, x1] h (by kernel_rfl)).trans (by kernel_rfl)

/-- (*stolon/digest.Writer).U64 -/
noncomputable def t90 (C : CallF) (x0 x1 : Value) (h : Heap) : Out :=
  thenV (some (x0, h)) fun y4 h =>
  thenV (some (x1, h)) fun y5 h =>
  thenV (C 125 [y4, y5, (.int .i64 8)] h) fun _y6 h =>
  some (.tuple #[], h)
theorem t90_eq (C : CallF) (x0 x1 : Value) (h : Heap) : bodyK Tryd.prog C Tryd.f90 [x0, x1] h = t90 C x0 x1 h :=
  (bodyB_eq Tryd.prog C Tryd.f90 [x0, x1] h (by kernel_rfl)).trans (by kernel_rfl)

/-- (*stolon/digest.Writer).Bytes -/
noncomputable def t91 (C : CallF) (x0 : Value) (h : Heap) : Out :=
  thenV (some ((.slice none 0 0), h)) fun _y2 h =>
  thenV (some ((.int .i64 0), h)) fun _y3 h =>
  thenV (some (x0, h)) fun y5 h =>
  thenV (pu (bin Tryd.prog .eql 126 y5 (.pointer none)) h) fun y6 h =>
  thenV (some (y6, h)) fun y4 h =>
  (match y4 with
  | .bool true =>
  thenV (some ((.slice none 0 0), h)) fun y2_1 h =>
  thenV (some ((.int .i64 1), h)) fun y3_1 h =>
  some (.tuple #[y2_1, y3_1], h)
  | .bool false =>
  thenV (some (x0, h)) fun y8 h =>
  thenV (pu (nilCheckA y8) h) fun y9 h =>
  thenV (pu (addP y9 1) h) fun y10 h =>
  thenV (ld1 y10 h) fun y11 h =>
  thenV (some (y11, h)) fun y7 h =>
  (match y7 with
  | .bool true =>
  thenV (some ((.slice none 0 0), h)) fun y2_1 h =>
  thenV (some ((.int .i64 3), h)) fun y3_1 h =>
  some (.tuple #[y2_1, y3_1], h)
  | .bool false =>
  thenV (some (x0, h)) fun y12 h =>
  thenV (pu (nilCheckA y12) h) fun y13 h =>
  thenV (pu (addP y13 2) h) fun y14 h =>
  thenV (ld1 y14 h) fun y15 h =>
  thenV (C 53 [y15] h) fun y16 h =>
  thenV (some (y16, h)) fun y2_1 h =>
  thenV (some ((.int .i64 0), h)) fun y3_1 h =>
  some (.tuple #[y2_1, y3_1], h)
  | _ => none)
  | _ => none)
theorem t91_eq (C : CallF) (x0 : Value) (h : Heap) : bodyK Tryd.prog C Tryd.f91 [x0] h = t91 C x0 h :=
  (bodyB_eq Tryd.prog C Tryd.f91 [x0] h (by kernel_rfl)).trans (by kernel_rfl)

noncomputable def b125_2 (_C : CallF) (i : Nat) (e : Env) (h : Heap) : Out := if i = 0 then (resultsA Tryd.prog Tryd.f125.results.toList) e h else (fun _ _ _ => none) i e h
/-- (*stolon/digest.Writer).number -/
noncomputable def t125 (C : CallF) (x0 x1 x2 : Value) (h : Heap) : Out :=
  thenV (some (x0, h)) fun y7 h =>
  thenV (some (x2, h)) fun y8 h =>
  thenV (C 126 [y7, y8] h) fun y9 h =>
  (match y9 with
  | .bool true =>
  thenV (some (x2, h)) fun y10 h =>
  thenV (pu (bin Tryd.prog .sub 3 y10 (.int .i64 1)) h) fun y11 h =>
  thenV (some (y11, h)) fun y6 h =>
  endL (iter (codeA Tryd.prog C (partOf Tryd.f125 [1, 0, 1, 0, 0])) rounds (mkF 30 (up (bs [x0, x1, x2]) [(6, y6), (7, y7), (8, y8), (9, y9), (10, y10), (11, y11)])) h) (resultsA Tryd.prog Tryd.f125.results.toList) (b125_2 C)
  | .bool false =>
  some (.tuple #[], h)
  | _ => none)
noncomputable def t125l125_1010 (_C : CallF) (x : Nat → Value) (h : Heap) : Option (Ex × Env × Heap) :=
  thenV (some ((x 6), h)) fun y12 h =>
  thenV (pu (bin Tryd.prog .geq 3 y12 (.int .i64 0)) h) fun y13 h =>
  (match y13 with
  | .bool true =>
  thenV (some ((x 0), h)) fun y16 h =>
  thenV (some ((x 0), h)) fun y17 h =>
  thenV (pu (nilCheckA y17) h) fun y18 h =>
  thenV (pu (addP y18 2) h) fun y19 h =>
  thenV (ld1 y19 h) fun y20 h =>
  thenV (some ((x 1), h)) fun y21 h =>
  thenV (some ((x 6), h)) fun y22 h =>
  thenV (pu (bin Tryd.prog .mul 3 (.int .i64 8) y22) h) fun y23 h =>
  thenV (pu (bin Tryd.prog .shr 32 y21 y23) h) fun y24 h =>
  thenV (cvI .u8 y24 h) fun y25 h =>
  thenV (bslR 1 (.int .u8 0) 1 [(0, y25)] h) fun y26 h =>
  thenV (appendA 1 1 y20 y26 h) fun y27 h =>
  thenV (pu (nilCheckA y16) h) fun y28 h =>
  thenV (pu (addP y28 2) h) fun y29 h =>
  thenV (stN 1 y29 y27 h) fun _ h =>
  thenV (some ((x 6), h)) fun y14 h =>
  thenV (pu (bin Tryd.prog .sub 3 y14 (.int .i64 1)) h) fun y15 h =>
  thenV (some (y15, h)) fun y6 h =>
  some (.normal, (mkF 30 (up x [(6, y6), (12, y12), (13, y13), (14, y14), (15, y15), (16, y16), (17, y17), (18, y18), (19, y19), (20, y20), (21, y21), (22, y22), (23, y23), (24, y24), (25, y25), (26, y26), (27, y27), (28, y28), (29, y29)])), h)
  | .bool false =>
  some (.exit 0, (mkF 30 (up x [(12, y12), (13, y13)])), h)
  | _ => none)
theorem t125_eq (C : CallF) (x0 x1 x2 : Value) (h : Heap) : bodyK Tryd.prog C Tryd.f125 [x0, x1, x2] h = t125 C x0 x1 x2 h :=
  (bodyB_eq Tryd.prog C Tryd.f125 [x0, x1, x2] h (by kernel_rfl)).trans (by kernel_rfl)
theorem t125l125_1010_eq (C : CallF) (x : Nat → Value) (h : Heap) : codeA Tryd.prog C (partOf Tryd.f125 [1, 0, 1, 0, 0]) (mkF 30 x) h = t125l125_1010 C x h :=
  link_roundF (T := t125l125_1010 C) (fun x h => by kernel_rfl) x h

/-- (*stolon/digest.Writer).room -/
noncomputable def t126 (_C : CallF) (x0 x1 : Value) (h : Heap) : Out :=
  thenV (some ((.bool false), h)) fun _y4 h =>
  thenV (some (x0, h)) fun y5 h =>
  thenV (pu (bin Tryd.prog .eql 126 y5 (.pointer none)) h) fun y6 h =>
  thenV (some (y6, h)) fun y7 h =>
  thenV (guardK (bOf y7 == some false) (some (x0, h)) h) fun y8 h =>
  thenV (guardK (bOf y7 == some false) (pu (nilCheckA y8) h) h) fun y9 h =>
  thenV (guardK (bOf y7 == some false) (pu (addP y9 1) h) h) fun y10 h =>
  thenV (guardK (bOf y7 == some false) (ld1 y10 h) h) fun y11 h =>
  thenV (match y7 with | .bool t => some (if t then (.bool true) else y11, h) | _ => none) fun y12 h =>
  (match y12 with
  | .bool true =>
  thenV (some ((.bool false), h)) fun y4_1 h =>
  some (y4_1, h)
  | .bool false =>
  thenV (some (x0, h)) fun y13 h =>
  thenV (some (x1, h)) fun y14 h =>
  thenV (some (x0, h)) fun y15 h =>
  thenV (pu (nilCheckA y15) h) fun y16 h =>
  thenV (pu (addP y16 0) h) fun y17 h =>
  thenV (ld1 y17 h) fun y18 h =>
  thenV (some (x0, h)) fun y19 h =>
  thenV (pu (nilCheckA y19) h) fun y20 h =>
  thenV (pu (addP y20 2) h) fun y21 h =>
  thenV (ld1 y21 h) fun y22 h =>
  thenV (pu (lenL y22) h) fun y23 h =>
  thenV (pu (bin Tryd.prog .sub 3 y18 y23) h) fun y24 h =>
  thenV (pu (bin Tryd.prog .gtr 3 y14 y24) h) fun y25 h =>
  thenV (pu (nilCheckA y13) h) fun y26 h =>
  thenV (pu (addP y26 1) h) fun y27 h =>
  thenV (stN 1 y27 y25 h) fun _ h =>
  thenV (some (x0, h)) fun y28 h =>
  thenV (pu (nilCheckA y28) h) fun y29 h =>
  thenV (pu (addP y29 1) h) fun y30 h =>
  thenV (ld1 y30 h) fun y31 h =>
  thenV (pu (unA .not y31) h) fun y32 h =>
  thenV (some (y32, h)) fun y4_1 h =>
  some (y4_1, h)
  | _ => none)
theorem t126_eq (C : CallF) (x0 x1 : Value) (h : Heap) : bodyK Tryd.prog C Tryd.f126 [x0, x1] h = t126 C x0 x1 h :=
  (bodyB_eq Tryd.prog C Tryd.f126 [x0, x1] h (by kernel_rfl)).trans (by kernel_rfl)

end Go.Proofs.YtdnahgfgoajmcaaDoor

namespace Go.Proofs.YtdnahgfgoajmcaaDoor
open Go Go.Abs
noncomputable def k96_2 (C : CallF) (e : Env) (h : Heap) : Out := codeK Tryd.prog C (partOf Tryd.f96 [1, 1, 1]) e h (resultsA Tryd.prog Tryd.f96.results.toList) (resultsA Tryd.prog Tryd.f96.results.toList) (fun _ _ _ => none)
noncomputable def b96_4 (C : CallF) (i : Nat) (e : Env) (h : Heap) : Out := if i = 0 then (k96_2 C) e h else (fun _ _ _ => none) i e h
/-- stolon/stolonref02.Number -/
noncomputable def t96 (C : CallF) (x0 x1 : Value) (h : Heap) : Out :=
  thenV (some ((.slice none 0 0), h)) fun y4 h =>
  thenV (bslR 1 (.int .u8 0) 0 [] h) fun y7 h =>
  thenV (some (y7, h)) fun y5 h =>
  thenV (some (x1, h)) fun y8 h =>
  thenV (pu (bin Tryd.prog .sub 3 y8 (.int .i64 1)) h) fun y9 h =>
  thenV (some (y9, h)) fun y6 h =>
  endL (iter (codeA Tryd.prog C (partOf Tryd.f96 [1, 1, 0, 1, 0, 0])) rounds (mkF 24 (up (bs [x0, x1]) [(4, y4), (5, y5), (6, y6), (7, y7), (8, y8), (9, y9)])) h) (resultsA Tryd.prog Tryd.f96.results.toList) (b96_4 C)
noncomputable def t96k96_2 (_C : CallF) (x : Nat → Value) (h : Heap) : Out :=
  thenV (some ((x 5), h)) fun y23 h =>
  thenV (some (y23, h)) fun y4 h =>
  some (y4, h)
noncomputable def t96l96_11010 (_C : CallF) (x : Nat → Value) (h : Heap) : Option (Ex × Env × Heap) :=
  thenV (some ((x 6), h)) fun y10 h =>
  thenV (pu (bin Tryd.prog .geq 3 y10 (.int .i64 0)) h) fun y11 h =>
  (match y11 with
  | .bool true =>
  thenV (some ((x 5), h)) fun y14 h =>
  thenV (some ((x 0), h)) fun y15 h =>
  thenV (some ((x 6), h)) fun y16 h =>
  thenV (cvI .u64 y16 h) fun y17 h =>
  thenV (pu (bin Tryd.prog .mul 111 (.int .u64 8) y17) h) fun y18 h =>
  thenV (pu (bin Tryd.prog .shr 32 y15 y18) h) fun y19 h =>
  thenV (cvI .u8 y19 h) fun y20 h =>
  thenV (bslR 1 (.int .u8 0) 1 [(0, y20)] h) fun y21 h =>
  thenV (appendA 1 1 y14 y21 h) fun y22 h =>
  thenV (some (y22, h)) fun y5 h =>
  thenV (some ((x 6), h)) fun y12 h =>
  thenV (pu (bin Tryd.prog .sub 3 y12 (.int .i64 1)) h) fun y13 h =>
  thenV (some (y13, h)) fun y6 h =>
  some (.normal, (mkF 24 (up x [(5, y5), (6, y6), (10, y10), (11, y11), (12, y12), (13, y13), (14, y14), (15, y15), (16, y16), (17, y17), (18, y18), (19, y19), (20, y20), (21, y21), (22, y22)])), h)
  | .bool false =>
  some (.exit 0, (mkF 24 (up x [(10, y10), (11, y11)])), h)
  | _ => none)
theorem t96_eq (C : CallF) (x0 x1 : Value) (h : Heap) : bodyK Tryd.prog C Tryd.f96 [x0, x1] h = t96 C x0 x1 h :=
  (bodyB_eq Tryd.prog C Tryd.f96 [x0, x1] h (by kernel_rfl)).trans (by kernel_rfl)
theorem t96k96_2_eq (C : CallF) (x : Nat → Value) (h : Heap) : k96_2 C (mkF 24 x) h = t96k96_2 C x h :=
  link_partF (b := (partOf Tryd.f96 [1, 1, 1])) (kE := (resultsA Tryd.prog Tryd.f96.results.toList)) (rE := (resultsA Tryd.prog Tryd.f96.results.toList)) (xE := (fun _ _ _ => none)) (T := t96k96_2 C) (fun x h => by kernel_rfl) x h
theorem t96l96_11010_eq (C : CallF) (x : Nat → Value) (h : Heap) : codeA Tryd.prog C (partOf Tryd.f96 [1, 1, 0, 1, 0, 0]) (mkF 24 x) h = t96l96_11010 C x h :=
  link_roundF (T := t96l96_11010 C) (fun x h => by kernel_rfl) x h

/-- stolon/stolonref06.bit -/
noncomputable def t97 (_C : CallF) (x0 : Value) (h : Heap) : Out :=
  thenV (some ((.int .u64 0), h)) fun _y2 h =>
  thenV (some (x0, h)) fun y3 h =>
  (match y3 with
  | .bool true =>
  thenV (some ((.int .u64 1), h)) fun y2_1 h =>
  some (y2_1, h)
  | .bool false =>
  thenV (some ((.int .u64 0), h)) fun y2_1 h =>
  some (y2_1, h)
  | _ => none)
theorem t97_eq (C : CallF) (x0 : Value) (h : Heap) : bodyK Tryd.prog C Tryd.f97 [x0] h = t97 C x0 h :=
  (bodyB_eq Tryd.prog C Tryd.f97 [x0] h (by kernel_rfl)).trans (by kernel_rfl)

/-- stolon/stolonref06.Bytes -/
noncomputable def t46 (C : CallF) (x0 : Value) (h : Heap) : Out :=
  thenV (box x0 h) fun y1 h =>
  thenV (some ((.slice none 0 0), h)) fun _y2 h =>
  thenV (some ((.int .i64 0), h)) fun _y3 h =>
  thenV (ldN 39 y1 h) fun y5 h =>
  thenV (C 48 [y5] h) fun y6 h =>
  thenV (pu (unA .not y6) h) fun y7 h =>
  (match y7 with
  | .bool true =>
  thenV (some ((.slice none 0 0), h)) fun y2_1 h =>
  thenV (some ((.int .i64 2), h)) fun y3_1 h =>
  some (.tuple #[y2_1, y3_1], h)
  | .bool false =>
  thenV (pu (addP y1 0) h) fun y8 h =>
  thenV (ld1 y8 h) fun y9 h =>
  thenV (pu (addP y1 1) h) fun y11 h =>
  thenV (pu (sliceArr 32 1 y11 none none none) h) fun y12 h =>
  thenV (bslR 1 (.int .u8 0) 1 [(0, y9)] h) fun y10 h =>
  thenV (appendA 1 1 y10 y12 h) fun y13 h =>
  thenV (some (y13, h)) fun y4 h =>
  thenV (some (y4, h)) fun y14 h =>
  thenV (pu (addP y1 33) h) fun y15 h =>
  thenV (ld1 y15 h) fun y16 h =>
  thenV (cvI .u8 y16 h) fun y17 h =>
  thenV (bslR 1 (.int .u8 0) 1 [(0, y17)] h) fun y18 h =>
  thenV (appendA 1 1 y14 y18 h) fun y19 h =>
  thenV (some (y19, h)) fun y4_1 h =>
  let g7_0 := h
  thenV (some (y4_1, g7_0)) fun y20 g7_1 =>
  thenV (pu (addP y1 34) g7_1) fun y21 g7_2 =>
  thenV (ld1 y21 g7_2) fun y22 g7_3 =>
  thenV (C 96 [y22, (.int .i64 8)] g7_3) fun y23 g7_4 =>
  thenV (appendA 1 1 y20 y23 g7_4) fun y24 g7_5 =>
  thenV (pu (addP y1 35) g7_5) fun y25 g7_6 =>
  thenV (ld1 y25 g7_6) fun y26 g7_7 =>
  thenV (C 96 [y26, (.int .i64 8)] g7_7) fun y27 g7_8 =>
  thenV (appendA 1 1 y24 y27 g7_8) fun y28 g7_9 =>
  thenV (some (y28, g7_9)) fun y4_2 g7_10 =>
  (match (chkR true (ld1 y25 g7_3) y26 && (chkR true (ld1 y25 g7_4) y26 && true)) with
  | true =>
  let h := g7_10
  let g9_0 := h
  thenV (some (y4_2, g9_0)) fun y29 g9_1 =>
  thenV (pu (addP y1 36) g9_1) fun y30 g9_2 =>
  thenV (ld1 y30 g9_2) fun y31 g9_3 =>
  thenV (C 97 [y31] g9_3) fun y32 g9_4 =>
  thenV (cvI .u8 y32 g9_4) fun y33 g9_5 =>
  thenV (pu (addP y1 37) g9_5) fun y34 g9_6 =>
  thenV (ld1 y34 g9_6) fun y35 g9_7 =>
  thenV (cvI .u8 y35 g9_7) fun y36 g9_8 =>
  thenV (pu (addP y1 38) g9_8) fun y37 g9_9 =>
  thenV (ld1 y37 g9_9) fun y38 g9_10 =>
  thenV (cvI .u8 y38 g9_10) fun y39 g9_11 =>
  thenV (bslR 1 (.int .u8 0) 3 [(0, y33), (1, y36), (2, y39)] g9_11) fun y40 g9_12 =>
  thenV (appendA 1 1 y29 y40 g9_12) fun y41 g9_13 =>
  thenV (some (y41, g9_13)) fun y2_1 g9_14 =>
  thenV (some ((.int .i64 0), g9_14)) fun y3_1 g9_15 =>
  (match (chkR true (ld1 y34 g9_3) y35 && (chkR true (cvI .u8 y35 g9_3) y36 && (chkR true (ld1 y37 g9_3) y38 && (chkR true (cvI .u8 y38 g9_3) y39 && true)))) with
  | true =>
  let h := g9_15
  some (.tuple #[y2_1, y3_1], h)
  | false => none)
  | false => none)
  | _ => none)
theorem t46_eq (C : CallF) (x0 : Value) (h : Heap) : bodyK Tryd.prog C Tryd.f46 [x0] h = t46 C x0 h :=
  (bodyB_eq Tryd.prog C Tryd.f46 [x0] h (by kernel_rfl)).trans (by kernel_rfl)

/-- stolon/stolonref06.Valid -/
noncomputable def t48 (_C : CallF) (x0 : Value) (h : Heap) : Out :=
  thenV (box x0 h) fun y1 h =>
  thenV (some ((.bool false), h)) fun _y2 h =>
  thenV (pu (addP y1 33) h) fun y5 h =>
  thenV (ld1 y5 h) fun y6 h =>
  thenV (pu (bin Tryd.prog .geq 3 y6 (.int .i64 0)) h) fun y7 h =>
  thenV (some (y7, h)) fun y8 h =>
  thenV (guardK (bOf y8 == some true) (pu (addP y1 33) h) h) fun y9 h =>
  thenV (guardK (bOf y8 == some true) (ld1 y9 h) h) fun y10 h =>
  thenV (guardK (bOf y8 == some true) (pu (bin Tryd.prog .leq 3 y10 (.int .i64 15)) h) h) fun y11 h =>
  thenV (match y8 with | .bool t => some (if t then y11 else (.bool false), h) | _ => none) fun y12 h =>
  thenV (some (y12, h)) fun y13 h =>
  thenV (guardK (bOf y13 == some true) (pu (addP y1 34) h) h) fun y14 h =>
  thenV (guardK (bOf y13 == some true) (ld1 y14 h) h) fun y15 h =>
  thenV (guardK (bOf y13 == some true) (pu (bin Tryd.prog .geq 32 y15 (.int .u64 1)) h) h) fun y16 h =>
  thenV (match y13 with | .bool t => some (if t then y16 else (.bool false), h) | _ => none) fun y17 h =>
  thenV (some (y17, h)) fun y3 h =>
  thenV (pu (addP y1 35) h) fun y18 h =>
  thenV (ld1 y18 h) fun y19 h =>
  thenV (pu (bin Tryd.prog .eql 32 y19 (.int .u64 0)) h) fun y20 h =>
  thenV (some (y20, h)) fun y21 h =>
  thenV (guardK (bOf y21 == some true) (pu (addP y1 36) h) h) fun y22 h =>
  thenV (guardK (bOf y21 == some true) (ld1 y22 h) h) fun y23 h =>
  thenV (guardK (bOf y21 == some true) (pu (unA .not y23) h) h) fun y24 h =>
  thenV (match y21 with | .bool t => some (if t then y24 else (.bool false), h) | _ => none) fun y25 h =>
  thenV (some (y25, h)) fun y26 h =>
  thenV (guardK (bOf y26 == some true) (pu (addP y1 37) h) h) fun y27 h =>
  thenV (guardK (bOf y26 == some true) (ld1 y27 h) h) fun y28 h =>
  thenV (guardK (bOf y26 == some true) (pu (bin Tryd.prog .eql 3 y28 (.int .i64 0)) h) h) fun y29 h =>
  thenV (match y26 with | .bool t => some (if t then y29 else (.bool false), h) | _ => none) fun y30 h =>
  thenV (some (y30, h)) fun y31 h =>
  thenV (guardK (bOf y31 == some true) (pu (addP y1 38) h) h) fun y32 h =>
  thenV (guardK (bOf y31 == some true) (ld1 y32 h) h) fun y33 h =>
  thenV (guardK (bOf y31 == some true) (pu (bin Tryd.prog .eql 3 y33 (.int .i64 0)) h) h) fun y34 h =>
  thenV (match y31 with | .bool t => some (if t then y34 else (.bool false), h) | _ => none) fun y35 h =>
  thenV (some (y35, h)) fun y4 h =>
  thenV (pu (addP y1 0) h) fun y36 h =>
  thenV (ld1 y36 h) fun y37 h =>
  thenV (pu (bin Tryd.prog .eql 56 y37 (.int .u8 1)) h) fun y39 h =>
  thenV (some (y39, h)) fun y38 h =>
  (match y38 with
  | .bool true =>
  thenV (some (y3, h)) fun y40 h =>
  thenV (some (y40, h)) fun y41 h =>
  thenV (guardK (bOf y41 == some true) (some (y4, h)) h) fun y42 h =>
  thenV (match y41 with | .bool t => some (if t then y42 else (.bool false), h) | _ => none) fun y43 h =>
  thenV (some (y43, h)) fun y44 h =>
  thenV (guardK (bOf y44 == some true) (pu (addP y1 1) h) h) fun y45 h =>
  thenV (guardK (bOf y44 == some true) (ldN 32 y45 h) h) fun y46 h =>
  thenV (guardK (bOf y44 == some true) (ldN 32 (ptr 0 0) h) h) fun y47 h =>
  thenV (guardK (bOf y44 == some true) (pu (bin Tryd.prog .eql 35 y46 y47) h) h) fun y48 h =>
  thenV (match y44 with | .bool t => some (if t then y48 else (.bool false), h) | _ => none) fun y49 h =>
  thenV (some (y49, h)) fun y2_1 h =>
  some (y2_1, h)
  | .bool false =>
  thenV (pu (bin Tryd.prog .eql 56 y37 (.int .u8 2)) h) fun y51 h =>
  thenV (some (y51, h)) fun y50 h =>
  (match y50 with
  | .bool true =>
  thenV (some (y4, h)) fun y52 h =>
  thenV (some (y52, h)) fun y53 h =>
  thenV (guardK (bOf y53 == some true) (pu (addP y1 33) h) h) fun y54 h =>
  thenV (guardK (bOf y53 == some true) (ld1 y54 h) h) fun y55 h =>
  thenV (guardK (bOf y53 == some true) (pu (bin Tryd.prog .eql 3 y55 (.int .i64 0)) h) h) fun y56 h =>
  thenV (match y53 with | .bool t => some (if t then y56 else (.bool false), h) | _ => none) fun y57 h =>
  thenV (some (y57, h)) fun y58 h =>
  thenV (guardK (bOf y58 == some true) (pu (addP y1 34) h) h) fun y59 h =>
  thenV (guardK (bOf y58 == some true) (ld1 y59 h) h) fun y60 h =>
  thenV (guardK (bOf y58 == some true) (pu (bin Tryd.prog .eql 32 y60 (.int .u64 0)) h) h) fun y61 h =>
  thenV (match y58 with | .bool t => some (if t then y61 else (.bool false), h) | _ => none) fun y62 h =>
  thenV (some (y62, h)) fun y2_1 h =>
  some (y2_1, h)
  | .bool false =>
  thenV (pu (bin Tryd.prog .eql 56 y37 (.int .u8 3)) h) fun y64 h =>
  thenV (some (y64, h)) fun y63 h =>
  (match y63 with
  | .bool true =>
  thenV (some (y3, h)) fun y65 h =>
  thenV (some (y65, h)) fun y66 h =>
  thenV (guardK (bOf y66 == some true) (pu (addP y1 35) h) h) fun y67 h =>
  thenV (guardK (bOf y66 == some true) (ld1 y67 h) h) fun y68 h =>
  thenV (guardK (bOf y66 == some true) (pu (bin Tryd.prog .geq 32 y68 (.int .u64 1)) h) h) fun y69 h =>
  thenV (match y66 with | .bool t => some (if t then y69 else (.bool false), h) | _ => none) fun y70 h =>
  thenV (some (y70, h)) fun y71 h =>
  thenV (guardK (bOf y71 == some true) (pu (addP y1 37) h) h) fun y72 h =>
  thenV (guardK (bOf y71 == some true) (ld1 y72 h) h) fun y73 h =>
  thenV (guardK (bOf y71 == some true) (pu (bin Tryd.prog .leq 3 (.int .i64 1) y73) h) h) fun y74 h =>
  thenV (match y71 with | .bool t => some (if t then y74 else (.bool false), h) | _ => none) fun y75 h =>
  thenV (some (y75, h)) fun y76 h =>
  thenV (guardK (bOf y76 == some true) (pu (addP y1 37) h) h) fun y77 h =>
  thenV (guardK (bOf y76 == some true) (ld1 y77 h) h) fun y78 h =>
  thenV (guardK (bOf y76 == some true) (pu (addP y1 38) h) h) fun y79 h =>
  thenV (guardK (bOf y76 == some true) (ld1 y79 h) h) fun y80 h =>
  thenV (guardK (bOf y76 == some true) (pu (bin Tryd.prog .leq 3 y78 y80) h) h) fun y81 h =>
  thenV (match y76 with | .bool t => some (if t then y81 else (.bool false), h) | _ => none) fun y82 h =>
  thenV (some (y82, h)) fun y83 h =>
  thenV (guardK (bOf y83 == some true) (pu (addP y1 38) h) h) fun y84 h =>
  thenV (guardK (bOf y83 == some true) (ld1 y84 h) h) fun y85 h =>
  thenV (guardK (bOf y83 == some true) (pu (bin Tryd.prog .leq 3 y85 (.int .i64 255)) h) h) fun y86 h =>
  thenV (match y83 with | .bool t => some (if t then y86 else (.bool false), h) | _ => none) fun y87 h =>
  thenV (some (y87, h)) fun y2_1 h =>
  some (y2_1, h)
  | .bool false =>
  thenV (some ((.bool false), h)) fun y2_1 h =>
  some (y2_1, h)
  | _ => none)
  | _ => none)
  | _ => none)
theorem t48_eq (C : CallF) (x0 : Value) (h : Heap) : bodyK Tryd.prog C Tryd.f48 [x0] h = t48 C x0 h :=
  (bodyB_eq Tryd.prog C Tryd.f48 [x0] h (by kernel_rfl)).trans (by kernel_rfl)

end Go.Proofs.YtdnahgfgoajmcaaDoor

namespace Go.Proofs.YtdnahgfgoajmcaaDoor
open Go Go.Abs
/-- stolon/digest.NewHash -/
noncomputable def t121 (_C : CallF) (h : Heap) : Out :=
  thenV (some ((.pointer none), h)) fun _y0 h =>
  thenV (pu (bldR (List.replicate 8 (.int .u32 0)) [(0, 1, (.int .u32 1779033703)), (1, 1, (.int .u32 3144134277)), (2, 1, (.int .u32 1013904242)), (3, 1, (.int .u32 2773480762)), (4, 1, (.int .u32 1359893119)), (5, 1, (.int .u32 2600822924)), (6, 1, (.int .u32 528734635)), (7, 1, (.int .u32 1541459225))]) h) fun y1 h =>
  thenV (pu (bldR [(.int .u32 0), (.int .u32 0), (.int .u32 0), (.int .u32 0), (.int .u32 0), (.int .u32 0), (.int .u32 0), (.int .u32 0), (.int .u8 0), (.int .u8 0), (.int .u8 0), (.int .u8 0), (.int .u8 0), (.int .u8 0), (.int .u8 0), (.int .u8 0), (.int .u8 0), (.int .u8 0), (.int .u8 0), (.int .u8 0), (.int .u8 0), (.int .u8 0), (.int .u8 0), (.int .u8 0), (.int .u8 0), (.int .u8 0), (.int .u8 0), (.int .u8 0), (.int .u8 0), (.int .u8 0), (.int .u8 0), (.int .u8 0), (.int .u8 0), (.int .u8 0), (.int .u8 0), (.int .u8 0), (.int .u8 0), (.int .u8 0), (.int .u8 0), (.int .u8 0), (.int .u8 0), (.int .u8 0), (.int .u8 0), (.int .u8 0), (.int .u8 0), (.int .u8 0), (.int .u8 0), (.int .u8 0), (.int .u8 0), (.int .u8 0), (.int .u8 0), (.int .u8 0), (.int .u8 0), (.int .u8 0), (.int .u8 0), (.int .u8 0), (.int .u8 0), (.int .u8 0), (.int .u8 0), (.int .u8 0), (.int .u8 0), (.int .u8 0), (.int .u8 0), (.int .u8 0), (.int .u8 0), (.int .u8 0), (.int .u8 0), (.int .u8 0), (.int .u8 0), (.int .u8 0), (.int .u8 0), (.int .u8 0), (.int .i64 0)] [(0, 8, y1)]) h) fun y2 h =>
  thenV (box y2 h) fun y3 h =>
  thenV (some (y3, h)) fun y0_1 h =>
  some (y0_1, h)
theorem t121_eq (C : CallF) (h : Heap) : bodyK Tryd.prog C Tryd.f121 [] h = t121 C  h :=
  (bodyB_eq Tryd.prog C Tryd.f121 [] h (by kernel_rfl)).trans (by kernel_rfl)

noncomputable def b122_2 (_C : CallF) (i : Nat) (e : Env) (h : Heap) : Out := if i = 0 then (resultsA Tryd.prog Tryd.f122.results.toList) e h else (fun _ _ _ => none) i e h
/-- (*stolon/digest.Hash).Write -/
noncomputable def t122 (C : CallF) (x0 x1 : Value) (h : Heap) : Out :=
  thenV (some (x0, h)) fun y6 h =>
  thenV (pu (bin Tryd.prog .eql 158 y6 (.pointer none)) h) fun y7 h =>
  (match y7 with
  | .bool true =>
  some (.tuple #[], h)
  | .bool false =>
  endL (iter (codeA Tryd.prog C (partOf Tryd.f122 [1, 0, 0])) rounds (mkF 40 (up (bs [x0, x1]) [(6, y6), (7, y7)])) h) (resultsA Tryd.prog Tryd.f122.results.toList) (b122_2 C)
  | _ => none)
noncomputable def t122l122_10 (C : CallF) (x : Nat → Value) (h : Heap) : Option (Ex × Env × Heap) :=
  thenV (some ((x 1), h)) fun y8 h =>
  thenV (pu (lenL y8) h) fun y9 h =>
  thenV (pu (bin Tryd.prog .gtr 3 y9 (.int .i64 0)) h) fun y10 h =>
  (match y10 with
  | .bool true =>
  thenV (some ((x 0), h)) fun y11 h =>
  thenV (pu (nilCheckA y11) h) fun y12 h =>
  thenV (pu (addP y12 72) h) fun y13 h =>
  thenV (ld1 y13 h) fun y14 h =>
  thenV (pu (bin Tryd.prog .rem 3 y14 (.int .i64 64)) h) fun y15 h =>
  thenV (some (y15, h)) fun y4 h =>
  thenV (some ((x 0), h)) fun y16 h =>
  thenV (pu (nilCheckA y16) h) fun y17 h =>
  thenV (pu (addP y17 8) h) fun y18 h =>
  thenV (some (y4, h)) fun y19 h =>
  thenV (pu (sliceArr 64 1 y18 (some y19) none none) h) fun y20 h =>
  thenV (some ((x 1), h)) fun y21 h =>
  thenV (copyA 1 y20 y21 h) fun y22 h =>
  thenV (some (y22, h)) fun y5 h =>
  thenV (some ((x 0), h)) fun y23 h =>
  thenV (pu (nilCheckA y23) h) fun y24 h =>
  thenV (pu (addP y24 72) h) fun y25 h =>
  thenV (ld1 y25 h) fun y26 h =>
  thenV (some (y5, h)) fun y27 h =>
  thenV (pu (bin Tryd.prog .add 3 y26 y27) h) fun y28 h =>
  thenV (pu (nilCheckA y23) h) fun y29 h =>
  thenV (pu (addP y29 72) h) fun y30 h =>
  thenV (stN 1 y30 y28 h) fun _ h =>
  thenV (some ((x 1), h)) fun y31 h =>
  thenV (some (y5, h)) fun y32 h =>
  thenV (pu (slR 1 y31 (some y32) none none) h) fun y33 h =>
  thenV (some (y33, h)) fun y1 h =>
  thenV (some (y4, h)) fun y34 h =>
  thenV (some (y5, h)) fun y35 h =>
  thenV (pu (bin Tryd.prog .add 3 y34 y35) h) fun y36 h =>
  thenV (pu (bin Tryd.prog .eql 3 y36 (.int .i64 64)) h) fun y37 h =>
  (match y37 with
  | .bool true =>
  thenV (some ((x 0), h)) fun y38 h =>
  thenV (C 149 [y38] h) fun y39 h =>
  some (.normal, (mkF 40 (up x [(1, y1), (4, y4), (5, y5), (8, y8), (9, y9), (10, y10), (11, y11), (12, y12), (13, y13), (14, y14), (15, y15), (16, y16), (17, y17), (18, y18), (19, y19), (20, y20), (21, y21), (22, y22), (23, y23), (24, y24), (25, y25), (26, y26), (27, y27), (28, y28), (29, y29), (30, y30), (31, y31), (32, y32), (33, y33), (34, y34), (35, y35), (36, y36), (37, y37), (38, y38), (39, y39)])), h)
  | .bool false =>
  some (.normal, (mkF 40 (up x [(1, y1), (4, y4), (5, y5), (8, y8), (9, y9), (10, y10), (11, y11), (12, y12), (13, y13), (14, y14), (15, y15), (16, y16), (17, y17), (18, y18), (19, y19), (20, y20), (21, y21), (22, y22), (23, y23), (24, y24), (25, y25), (26, y26), (27, y27), (28, y28), (29, y29), (30, y30), (31, y31), (32, y32), (33, y33), (34, y34), (35, y35), (36, y36), (37, y37)])), h)
  | _ => none)
  | .bool false =>
  some (.exit 0, (mkF 40 (up x [(8, y8), (9, y9), (10, y10)])), h)
  | _ => none)
theorem t122_eq (C : CallF) (x0 x1 : Value) (h : Heap) : bodyK Tryd.prog C Tryd.f122 [x0, x1] h = t122 C x0 x1 h :=
  (bodyB_eq Tryd.prog C Tryd.f122 [x0, x1] h (by kernel_rfl)).trans (by kernel_rfl)
theorem t122l122_10_eq (C : CallF) (x : Nat → Value) (h : Heap) : codeA Tryd.prog C (partOf Tryd.f122 [1, 0, 0]) (mkF 40 x) h = t122l122_10 C x h :=
  link_roundF (T := t122l122_10 C) (fun x h => by kernel_rfl) x h

noncomputable def k123_9 (C : CallF) (e : Env) (h : Heap) : Out := codeK Tryd.prog C (partOf Tryd.f123 [1, 1, 1, 1, 1, 1, 1, 1]) e h (resultsA Tryd.prog Tryd.f123.results.toList) (resultsA Tryd.prog Tryd.f123.results.toList) (fun _ _ _ => none)
noncomputable def b123_11 (C : CallF) (i : Nat) (e : Env) (h : Heap) : Out := if i = 0 then (k123_9 C) e h else (fun _ _ _ => none) i e h
noncomputable def k123_14 (C : CallF) (e : Env) (h : Heap) : Out := codeK Tryd.prog C (partOf Tryd.f123 [1, 1, 1, 1, 1, 1, 1, 1, 1, 1, 1]) e h (resultsA Tryd.prog Tryd.f123.results.toList) (resultsA Tryd.prog Tryd.f123.results.toList) (fun _ _ _ => none)
noncomputable def b123_16 (C : CallF) (i : Nat) (e : Env) (h : Heap) : Out := if i = 2 then (k123_14 C) e h else (fun _ _ _ => none) i e h
/-- (*stolon/digest.Hash).Sum -/
noncomputable def t123 (C : CallF) (x0 : Value) (h : Heap) : Out :=
  thenV (newC (List.replicate 32 (.int .u8 0)) h) fun y2 h =>
  thenV (some (x0, h)) fun y10 h =>
  thenV (pu (bin Tryd.prog .eql 158 y10 (.pointer none)) h) fun y11 h =>
  (match y11 with
  | .bool true =>
  thenV (pu (bldR (List.replicate 32 (.int .u8 0)) []) h) fun y12 h =>
  thenV (stN 32 y2 y12 h) fun _ h =>
  resultsA Tryd.prog Tryd.f123.results.toList (mkF 66 (up (bs [x0]) [(2, y2), (10, y10), (11, y11), (12, y12)])) h
  | .bool false =>
  thenV (some (x0, h)) fun y13 h =>
  thenV (pu (nilCheckA y13) h) fun y14 h =>
  thenV (ldN 73 y14 h) fun y15 h =>
  thenV (newC [(.int .u32 0), (.int .u32 0), (.int .u32 0), (.int .u32 0), (.int .u32 0), (.int .u32 0), (.int .u32 0), (.int .u32 0), (.int .u8 0), (.int .u8 0), (.int .u8 0), (.int .u8 0), (.int .u8 0), (.int .u8 0), (.int .u8 0), (.int .u8 0), (.int .u8 0), (.int .u8 0), (.int .u8 0), (.int .u8 0), (.int .u8 0), (.int .u8 0), (.int .u8 0), (.int .u8 0), (.int .u8 0), (.int .u8 0), (.int .u8 0), (.int .u8 0), (.int .u8 0), (.int .u8 0), (.int .u8 0), (.int .u8 0), (.int .u8 0), (.int .u8 0), (.int .u8 0), (.int .u8 0), (.int .u8 0), (.int .u8 0), (.int .u8 0), (.int .u8 0), (.int .u8 0), (.int .u8 0), (.int .u8 0), (.int .u8 0), (.int .u8 0), (.int .u8 0), (.int .u8 0), (.int .u8 0), (.int .u8 0), (.int .u8 0), (.int .u8 0), (.int .u8 0), (.int .u8 0), (.int .u8 0), (.int .u8 0), (.int .u8 0), (.int .u8 0), (.int .u8 0), (.int .u8 0), (.int .u8 0), (.int .u8 0), (.int .u8 0), (.int .u8 0), (.int .u8 0), (.int .u8 0), (.int .u8 0), (.int .u8 0), (.int .u8 0), (.int .u8 0), (.int .u8 0), (.int .u8 0), (.int .u8 0), (.int .i64 0)] h) fun y3 h =>
  thenV (stN 73 y3 y15 h) fun _ h =>
  thenV (newC (List.replicate 72 (.int .u8 0)) h) fun y4 h =>
  thenV (pu (idxA 72 1 y4 (.int .i64 0)) h) fun y16 h =>
  thenV (stN 1 y16 (.int .u8 128) h) fun _ h =>
  thenV (some (x0, h)) fun y17 h =>
  thenV (pu (nilCheckA y17) h) fun y18 h =>
  thenV (pu (addP y18 72) h) fun y19 h =>
  thenV (ld1 y19 h) fun y20 h =>
  thenV (pu (bin Tryd.prog .add 3 y20 (.int .i64 8)) h) fun y21 h =>
  thenV (pu (bin Tryd.prog .rem 3 y21 (.int .i64 64)) h) fun y22 h =>
  thenV (pu (bin Tryd.prog .sub 3 (.int .i64 64) y22) h) fun y23 h =>
  thenV (some (y23, h)) fun y5 h =>
  thenV (some (x0, h)) fun y24 h =>
  thenV (pu (nilCheckA y24) h) fun y25 h =>
  thenV (pu (addP y25 72) h) fun y26 h =>
  thenV (ld1 y26 h) fun y27 h =>
  thenV (cvI .u64 y27 h) fun y28 h =>
  thenV (pu (bin Tryd.prog .mul 32 y28 (.int .u64 8)) h) fun y29 h =>
  thenV (some (y29, h)) fun y6 h =>
  thenV (some ((.int .i64 0), h)) fun y30 h =>
  endL (iter (codeA Tryd.prog C (partOf Tryd.f123 [1, 1, 1, 1, 1, 1, 1, 0, 1, 0, 0])) rounds (mkF 66 (up (bs [x0]) [(2, y2), (3, y3), (4, y4), (5, y5), (6, y6), (10, y10), (11, y11), (13, y13), (14, y14), (15, y15), (16, y16), (17, y17), (18, y18), (19, y19), (20, y20), (21, y21), (22, y22), (23, y23), (24, y24), (25, y25), (26, y26), (27, y27), (28, y28), (29, y29), (30, y30)])) h) (resultsA Tryd.prog Tryd.f123.results.toList) (b123_11 C)
  | _ => none)
noncomputable def t123k123_9 (C : CallF) (x : Nat → Value) (h : Heap) : Out :=
  thenV (some ((x 5), h)) fun y44 h =>
  thenV (pu (bin Tryd.prog .add 3 y44 (.int .i64 8)) h) fun y45 h =>
  thenV (pu (sliceArr 72 1 (x 4) none (some y45) none) h) fun y46 h =>
  thenV (C 122 [(x 3), y46] h) fun y47 h =>
  thenV (newC (List.replicate 32 (.int .u8 0)) h) fun y8 h =>
  thenV (some ((.int .i64 0), h)) fun y48 h =>
  endL (iter (codeA Tryd.prog C (partOf Tryd.f123 [1, 1, 1, 1, 1, 1, 1, 1, 1, 1, 0, 1, 0, 0])) rounds (mkF 66 (up x [(8, y8), (44, y44), (45, y45), (46, y46), (47, y47), (48, y48)])) h) (resultsA Tryd.prog Tryd.f123.results.toList) (b123_16 C)
noncomputable def t123l123_1111111010 (_C : CallF) (x : Nat → Value) (h : Heap) : Option (Ex × Env × Heap) :=
  thenV (pu (bin Tryd.prog .lss 3 (x 30) (.int .i64 8)) h) fun y31 h =>
  (match y31 with
  | .bool true =>
  thenV (some ((x 30), h)) fun y32 h =>
  thenV (some (y32, h)) fun y7 h =>
  thenV (some ((x 5), h)) fun y33 h =>
  thenV (some (y7, h)) fun y34 h =>
  thenV (pu (bin Tryd.prog .add 3 y33 y34) h) fun y35 h =>
  thenV (some ((x 6), h)) fun y36 h =>
  thenV (some (y7, h)) fun y37 h =>
  thenV (pu (bin Tryd.prog .mul 3 (.int .i64 8) y37) h) fun y38 h =>
  thenV (pu (bin Tryd.prog .sub 3 (.int .i64 56) y38) h) fun y39 h =>
  thenV (pu (bin Tryd.prog .shr 32 y36 y39) h) fun y40 h =>
  thenV (cvI .u8 y40 h) fun y41 h =>
  thenV (pu (idxA 72 1 (x 4) y35) h) fun y42 h =>
  thenV (stN 1 y42 y41 h) fun _ h =>
  thenV (pu (bin Tryd.prog .add 3 (x 30) (.int .i64 1)) h) fun y43 h =>
  thenV (some (y43, h)) fun y30 h =>
  some (.normal, (mkF 66 (up x [(7, y7), (30, y30), (31, y31), (32, y32), (33, y33), (34, y34), (35, y35), (36, y36), (37, y37), (38, y38), (39, y39), (40, y40), (41, y41), (42, y42), (43, y43)])), h)
  | .bool false =>
  some (.exit 0, (mkF 66 (up x [(31, y31)])), h)
  | _ => none)
noncomputable def t123k123_14 (_C : CallF) (x : Nat → Value) (h : Heap) : Out :=
  thenV (ldN 32 (x 8) h) fun y65 h =>
  thenV (stN 32 (x 2) y65 h) fun _ h =>
  resultsA Tryd.prog Tryd.f123.results.toList (mkF 66 (up x [(65, y65)])) h
noncomputable def t123l123_1111111111010 (_C : CallF) (x : Nat → Value) (h : Heap) : Option (Ex × Env × Heap) :=
  thenV (pu (bin Tryd.prog .lss 3 (x 48) (.int .i64 32)) h) fun y49 h =>
  (match y49 with
  | .bool true =>
  thenV (some ((x 48), h)) fun y50 h =>
  thenV (some (y50, h)) fun y9 h =>
  thenV (some (y9, h)) fun y51 h =>
  thenV (some (y9, h)) fun y52 h =>
  thenV (pu (bin Tryd.prog .quo 3 y52 (.int .i64 4)) h) fun y53 h =>
  thenV (pu (addP (x 3) 0) h) fun y54 h =>
  thenV (pu (idxA 8 1 y54 y53) h) fun y55 h =>
  thenV (ld1 y55 h) fun y56 h =>
  thenV (some (y9, h)) fun y57 h =>
  thenV (pu (bin Tryd.prog .rem 3 y57 (.int .i64 4)) h) fun y58 h =>
  thenV (pu (bin Tryd.prog .mul 3 (.int .i64 8) y58) h) fun y59 h =>
  thenV (pu (bin Tryd.prog .sub 3 (.int .i64 24) y59) h) fun y60 h =>
  thenV (pu (bin Tryd.prog .shr 174 y56 y60) h) fun y61 h =>
  thenV (cvI .u8 y61 h) fun y62 h =>
  thenV (pu (idxA 32 1 (x 8) y51) h) fun y63 h =>
  thenV (stN 1 y63 y62 h) fun _ h =>
  thenV (pu (bin Tryd.prog .add 3 (x 48) (.int .i64 1)) h) fun y64 h =>
  thenV (some (y64, h)) fun y48 h =>
  some (.normal, (mkF 66 (up x [(9, y9), (48, y48), (49, y49), (50, y50), (51, y51), (52, y52), (53, y53), (54, y54), (55, y55), (56, y56), (57, y57), (58, y58), (59, y59), (60, y60), (61, y61), (62, y62), (63, y63), (64, y64)])), h)
  | .bool false =>
  some (.exit 2, (mkF 66 (up x [(49, y49)])), h)
  | _ => none)
theorem t123_eq (C : CallF) (x0 : Value) (h : Heap) : bodyK Tryd.prog C Tryd.f123 [x0] h = t123 C x0 h :=
  (bodyB_eq Tryd.prog C Tryd.f123 [x0] h (by kernel_rfl)).trans (by kernel_rfl)
theorem t123k123_9_eq (C : CallF) (x : Nat → Value) (h : Heap) : k123_9 C (mkF 66 x) h = t123k123_9 C x h :=
  link_partF (b := (partOf Tryd.f123 [1, 1, 1, 1, 1, 1, 1, 1])) (kE := (resultsA Tryd.prog Tryd.f123.results.toList)) (rE := (resultsA Tryd.prog Tryd.f123.results.toList)) (xE := (fun _ _ _ => none)) (T := t123k123_9 C) (fun x h => by kernel_rfl) x h
theorem t123l123_1111111010_eq (C : CallF) (x : Nat → Value) (h : Heap) : codeA Tryd.prog C (partOf Tryd.f123 [1, 1, 1, 1, 1, 1, 1, 0, 1, 0, 0]) (mkF 66 x) h = t123l123_1111111010 C x h :=
  link_roundF (T := t123l123_1111111010 C) (fun x h => by kernel_rfl) x h
theorem t123k123_14_eq (C : CallF) (x : Nat → Value) (h : Heap) : k123_14 C (mkF 66 x) h = t123k123_14 C x h :=
  link_partF (b := (partOf Tryd.f123 [1, 1, 1, 1, 1, 1, 1, 1, 1, 1, 1])) (kE := (resultsA Tryd.prog Tryd.f123.results.toList)) (rE := (resultsA Tryd.prog Tryd.f123.results.toList)) (xE := (fun _ _ _ => none)) (T := t123k123_14 C) (fun x h => by kernel_rfl) x h
theorem t123l123_1111111111010_eq (C : CallF) (x : Nat → Value) (h : Heap) : codeA Tryd.prog C (partOf Tryd.f123 [1, 1, 1, 1, 1, 1, 1, 1, 1, 1, 0, 1, 0, 0]) (mkF 66 x) h = t123l123_1111111111010 C x h :=
  link_roundF (T := t123l123_1111111111010 C) (fun x h => by kernel_rfl) x h

noncomputable def k149_1 (C : CallF) (e : Env) (h : Heap) : Out := codeK Tryd.prog C (partOf Tryd.f149 [1, 1]) e h (resultsA Tryd.prog Tryd.f149.results.toList) (resultsA Tryd.prog Tryd.f149.results.toList) (fun _ _ _ => none)
noncomputable def b149_3 (C : CallF) (i : Nat) (e : Env) (h : Heap) : Out := if i = 0 then (k149_1 C) e h else (fun _ _ _ => none) i e h
noncomputable def k149_4 (C : CallF) (e : Env) (h : Heap) : Out := codeK Tryd.prog C (partOf Tryd.f149 [1, 1, 1]) e h (resultsA Tryd.prog Tryd.f149.results.toList) (resultsA Tryd.prog Tryd.f149.results.toList) (fun _ _ _ => none)
noncomputable def b149_6 (C : CallF) (i : Nat) (e : Env) (h : Heap) : Out := if i = 2 then (k149_4 C) e h else (fun _ _ _ => none) i e h
noncomputable def k149_14 (C : CallF) (e : Env) (h : Heap) : Out := codeK Tryd.prog C (partOf Tryd.f149 [1, 1, 1, 1, 1, 1]) e h (resultsA Tryd.prog Tryd.f149.results.toList) (resultsA Tryd.prog Tryd.f149.results.toList) (fun _ _ _ => none)
noncomputable def b149_16 (C : CallF) (i : Nat) (e : Env) (h : Heap) : Out := if i = 4 then (k149_14 C) e h else (fun _ _ _ => none) i e h
noncomputable def b149_25 (_C : CallF) (i : Nat) (e : Env) (h : Heap) : Out := if i = 6 then (resultsA Tryd.prog Tryd.f149.results.toList) e h else (fun _ _ _ => none) i e h
/-- (*stolon/digest.Hash).compress -/
noncomputable def t149 (C : CallF) (x0 : Value) (h : Heap) : Out :=
  thenV (newC (List.replicate 64 (.int .u32 0)) h) fun y2 h =>
  thenV (some ((.int .i64 0), h)) fun y24 h =>
  endL (iter (codeA Tryd.prog C (partOf Tryd.f149 [1, 0, 1, 0, 0])) rounds (mkF 241 (up (bs [x0]) [(2, y2), (24, y24)])) h) (resultsA Tryd.prog Tryd.f149.results.toList) (b149_3 C)
noncomputable def t149k149_1 (C : CallF) (x : Nat → Value) (h : Heap) : Out :=
  thenV (some ((.int .i64 16), h)) fun y4 h =>
  endL (iter (codeA Tryd.prog C (partOf Tryd.f149 [1, 1, 0, 1, 0, 0])) rounds (mkF 241 (up x [(4, y4)])) h) (resultsA Tryd.prog Tryd.f149.results.toList) (b149_6 C)
noncomputable def t149l149_1010 (_C : CallF) (x : Nat → Value) (h : Heap) : Option (Ex × Env × Heap) :=
  thenV (pu (bin Tryd.prog .lss 3 (x 24) (.int .i64 16)) h) fun y25 h =>
  (match y25 with
  | .bool true =>
  thenV (some ((x 24), h)) fun y26 h =>
  thenV (some (y26, h)) fun y3 h =>
  thenV (some (y3, h)) fun y27 h =>
  thenV (some ((x 0), h)) fun y28 h =>
  thenV (some (y3, h)) fun y29 h =>
  thenV (pu (bin Tryd.prog .mul 3 (.int .i64 4) y29) h) fun y30 h =>
  thenV (pu (nilCheckA y28) h) fun y31 h =>
  thenV (pu (addP y31 8) h) fun y32 h =>
  thenV (pu (idxA 64 1 y32 y30) h) fun y33 h =>
  thenV (ld1 y33 h) fun y34 h =>
  thenV (cvI .u32 y34 h) fun y35 h =>
  thenV (pu (bin Tryd.prog .shl 174 y35 (.int .u64 24)) h) fun y36 h =>
  thenV (some ((x 0), h)) fun y37 h =>
  thenV (some (y3, h)) fun y38 h =>
  thenV (pu (bin Tryd.prog .mul 3 (.int .i64 4) y38) h) fun y39 h =>
  thenV (pu (bin Tryd.prog .add 3 y39 (.int .i64 1)) h) fun y40 h =>
  thenV (pu (nilCheckA y37) h) fun y41 h =>
  thenV (pu (addP y41 8) h) fun y42 h =>
  thenV (pu (idxA 64 1 y42 y40) h) fun y43 h =>
  thenV (ld1 y43 h) fun y44 h =>
  thenV (cvI .u32 y44 h) fun y45 h =>
  thenV (pu (bin Tryd.prog .shl 174 y45 (.int .u64 16)) h) fun y46 h =>
  thenV (pu (bin Tryd.prog .or 174 y36 y46) h) fun y47 h =>
  thenV (some ((x 0), h)) fun y48 h =>
  thenV (some (y3, h)) fun y49 h =>
  thenV (pu (bin Tryd.prog .mul 3 (.int .i64 4) y49) h) fun y50 h =>
  thenV (pu (bin Tryd.prog .add 3 y50 (.int .i64 2)) h) fun y51 h =>
  thenV (pu (nilCheckA y48) h) fun y52 h =>
  thenV (pu (addP y52 8) h) fun y53 h =>
  thenV (pu (idxA 64 1 y53 y51) h) fun y54 h =>
  thenV (ld1 y54 h) fun y55 h =>
  thenV (cvI .u32 y55 h) fun y56 h =>
  thenV (pu (bin Tryd.prog .shl 174 y56 (.int .u64 8)) h) fun y57 h =>
  thenV (pu (bin Tryd.prog .or 174 y47 y57) h) fun y58 h =>
  thenV (some ((x 0), h)) fun y59 h =>
  thenV (some (y3, h)) fun y60 h =>
  thenV (pu (bin Tryd.prog .mul 3 (.int .i64 4) y60) h) fun y61 h =>
  thenV (pu (bin Tryd.prog .add 3 y61 (.int .i64 3)) h) fun y62 h =>
  thenV (pu (nilCheckA y59) h) fun y63 h =>
  thenV (pu (addP y63 8) h) fun y64 h =>
  thenV (pu (idxA 64 1 y64 y62) h) fun y65 h =>
  thenV (ld1 y65 h) fun y66 h =>
  thenV (cvI .u32 y66 h) fun y67 h =>
  thenV (pu (bin Tryd.prog .or 174 y58 y67) h) fun y68 h =>
  thenV (pu (idxA 64 1 (x 2) y27) h) fun y69 h =>
  thenV (stN 1 y69 y68 h) fun _ h =>
  thenV (pu (bin Tryd.prog .add 3 (x 24) (.int .i64 1)) h) fun y70 h =>
  thenV (some (y70, h)) fun y24 h =>
  some (.normal, (mkF 241 (up x [(3, y3), (24, y24), (25, y25), (26, y26), (27, y27), (28, y28), (29, y29), (30, y30), (31, y31), (32, y32), (33, y33), (34, y34), (35, y35), (36, y36), (37, y37), (38, y38), (39, y39), (40, y40), (41, y41), (42, y42), (43, y43), (44, y44), (45, y45), (46, y46), (47, y47), (48, y48), (49, y49), (50, y50), (51, y51), (52, y52), (53, y53), (54, y54), (55, y55), (56, y56), (57, y57), (58, y58), (59, y59), (60, y60), (61, y61), (62, y62), (63, y63), (64, y64), (65, y65), (66, y66), (67, y67), (68, y68), (69, y69), (70, y70)])), h)
  | .bool false =>
  some (.exit 0, (mkF 241 (up x [(25, y25)])), h)
  | _ => none)
noncomputable def t149k149_4 (C : CallF) (x : Nat → Value) (h : Heap) : Out :=
  thenV (some ((x 0), h)) fun y114 h =>
  thenV (pu (nilCheckA y114) h) fun y115 h =>
  thenV (pu (addP y115 0) h) fun y116 h =>
  thenV (pu (idxA 8 1 y116 (.int .i64 0)) h) fun y117 h =>
  thenV (ld1 y117 h) fun y118 h =>
  thenV (some ((x 0), h)) fun y119 h =>
  thenV (pu (nilCheckA y119) h) fun y120 h =>
  thenV (pu (addP y120 0) h) fun y121 h =>
  thenV (pu (idxA 8 1 y121 (.int .i64 1)) h) fun y122 h =>
  thenV (ld1 y122 h) fun y123 h =>
  thenV (some ((x 0), h)) fun y124 h =>
  thenV (pu (nilCheckA y124) h) fun y125 h =>
  thenV (pu (addP y125 0) h) fun y126 h =>
  thenV (pu (idxA 8 1 y126 (.int .i64 2)) h) fun y127 h =>
  thenV (ld1 y127 h) fun y128 h =>
  thenV (some ((x 0), h)) fun y129 h =>
  thenV (pu (nilCheckA y129) h) fun y130 h =>
  thenV (pu (addP y130 0) h) fun y131 h =>
  thenV (pu (idxA 8 1 y131 (.int .i64 3)) h) fun y132 h =>
  thenV (ld1 y132 h) fun y133 h =>
  thenV (some (y118, h)) fun y9 h =>
  thenV (some (y123, h)) fun y10 h =>
  thenV (some (y128, h)) fun y11 h =>
  thenV (some (y133, h)) fun y12 h =>
  thenV (some ((x 0), h)) fun y134 h =>
  thenV (pu (nilCheckA y134) h) fun y135 h =>
  thenV (pu (addP y135 0) h) fun y136 h =>
  thenV (pu (idxA 8 1 y136 (.int .i64 4)) h) fun y137 h =>
  thenV (ld1 y137 h) fun y138 h =>
  thenV (some ((x 0), h)) fun y139 h =>
  thenV (pu (nilCheckA y139) h) fun y140 h =>
  thenV (pu (addP y140 0) h) fun y141 h =>
  thenV (pu (idxA 8 1 y141 (.int .i64 5)) h) fun y142 h =>
  thenV (ld1 y142 h) fun y143 h =>
  thenV (some ((x 0), h)) fun y144 h =>
  thenV (pu (nilCheckA y144) h) fun y145 h =>
  thenV (pu (addP y145 0) h) fun y146 h =>
  thenV (pu (idxA 8 1 y146 (.int .i64 6)) h) fun y147 h =>
  thenV (ld1 y147 h) fun y148 h =>
  thenV (some ((x 0), h)) fun y149 h =>
  thenV (pu (nilCheckA y149) h) fun y150 h =>
  thenV (pu (addP y150 0) h) fun y151 h =>
  thenV (pu (idxA 8 1 y151 (.int .i64 7)) h) fun y152 h =>
  thenV (ld1 y152 h) fun y153 h =>
  thenV (some (y138, h)) fun y13 h =>
  thenV (some (y143, h)) fun y14 h =>
  thenV (some (y148, h)) fun y15 h =>
  thenV (some (y153, h)) fun y16 h =>
  thenV (some ((.int .i64 0), h)) fun y154 h =>
  endL (iter (codeA Tryd.prog C (partOf Tryd.f149 [1, 1, 1, 1, 1, 0, 1, 0, 0])) rounds (mkF 241 (up x [(9, y9), (10, y10), (11, y11), (12, y12), (13, y13), (14, y14), (15, y15), (16, y16), (114, y114), (115, y115), (116, y116), (117, y117), (118, y118), (119, y119), (120, y120), (121, y121), (122, y122), (123, y123), (124, y124), (125, y125), (126, y126), (127, y127), (128, y128), (129, y129), (130, y130), (131, y131), (132, y132), (133, y133), (134, y134), (135, y135), (136, y136), (137, y137), (138, y138), (139, y139), (140, y140), (141, y141), (142, y142), (143, y143), (144, y144), (145, y145), (146, y146), (147, y147), (148, y148), (149, y149), (150, y150), (151, y151), (152, y152), (153, y153), (154, y154)])) h) (resultsA Tryd.prog Tryd.f149.results.toList) (b149_16 C)
noncomputable def t149l149_11010 (C : CallF) (x : Nat → Value) (h : Heap) : Option (Ex × Env × Heap) :=
  thenV (some ((x 4), h)) fun y71 h =>
  thenV (pu (bin Tryd.prog .lss 3 y71 (.int .i64 64)) h) fun y72 h =>
  (match y72 with
  | .bool true =>
  thenV (some ((x 4), h)) fun y75 h =>
  thenV (pu (bin Tryd.prog .sub 3 y75 (.int .i64 15)) h) fun y76 h =>
  thenV (pu (idxA 64 1 (x 2) y76) h) fun y77 h =>
  thenV (ld1 y77 h) fun y78 h =>
  thenV (some ((x 4), h)) fun y79 h =>
  thenV (pu (bin Tryd.prog .sub 3 y79 (.int .i64 2)) h) fun y80 h =>
  thenV (pu (idxA 64 1 (x 2) y80) h) fun y81 h =>
  thenV (ld1 y81 h) fun y82 h =>
  thenV (some (y78, h)) fun y5 h =>
  thenV (some (y82, h)) fun y6 h =>
  thenV (some (y5, h)) fun y83 h =>
  thenV (C 159 [y83, (.int .i64 (-7))] h) fun y84 h =>
  thenV (some (y5, h)) fun y85 h =>
  thenV (C 159 [y85, (.int .i64 (-18))] h) fun y86 h =>
  thenV (pu (bin Tryd.prog .xor 174 y84 y86) h) fun y87 h =>
  thenV (some (y5, h)) fun y88 h =>
  thenV (pu (bin Tryd.prog .shr 174 y88 (.int .u64 3)) h) fun y89 h =>
  thenV (pu (bin Tryd.prog .xor 174 y87 y89) h) fun y90 h =>
  thenV (some (y90, h)) fun y7 h =>
  thenV (some (y6, h)) fun y91 h =>
  thenV (C 159 [y91, (.int .i64 (-17))] h) fun y92 h =>
  thenV (some (y6, h)) fun y93 h =>
  thenV (C 159 [y93, (.int .i64 (-19))] h) fun y94 h =>
  thenV (pu (bin Tryd.prog .xor 174 y92 y94) h) fun y95 h =>
  thenV (some (y6, h)) fun y96 h =>
  thenV (pu (bin Tryd.prog .shr 174 y96 (.int .u64 10)) h) fun y97 h =>
  thenV (pu (bin Tryd.prog .xor 174 y95 y97) h) fun y98 h =>
  thenV (some (y98, h)) fun y8 h =>
  thenV (some ((x 4), h)) fun y99 h =>
  thenV (some ((x 4), h)) fun y100 h =>
  thenV (pu (bin Tryd.prog .sub 3 y100 (.int .i64 16)) h) fun y101 h =>
  thenV (pu (idxA 64 1 (x 2) y101) h) fun y102 h =>
  thenV (ld1 y102 h) fun y103 h =>
  thenV (some (y7, h)) fun y104 h =>
  thenV (pu (bin Tryd.prog .add 174 y103 y104) h) fun y105 h =>
  thenV (some ((x 4), h)) fun y106 h =>
  thenV (pu (bin Tryd.prog .sub 3 y106 (.int .i64 7)) h) fun y107 h =>
  thenV (pu (idxA 64 1 (x 2) y107) h) fun y108 h =>
  thenV (ld1 y108 h) fun y109 h =>
  thenV (pu (bin Tryd.prog .add 174 y105 y109) h) fun y110 h =>
  thenV (some (y8, h)) fun y111 h =>
  thenV (pu (bin Tryd.prog .add 174 y110 y111) h) fun y112 h =>
  thenV (pu (idxA 64 1 (x 2) y99) h) fun y113 h =>
  thenV (stN 1 y113 y112 h) fun _ h =>
  thenV (some ((x 4), h)) fun y73 h =>
  thenV (pu (bin Tryd.prog .add 3 y73 (.int .i64 1)) h) fun y74 h =>
  thenV (some (y74, h)) fun y4 h =>
  some (.normal, (mkF 241 (up x [(4, y4), (5, y5), (6, y6), (7, y7), (8, y8), (71, y71), (72, y72), (73, y73), (74, y74), (75, y75), (76, y76), (77, y77), (78, y78), (79, y79), (80, y80), (81, y81), (82, y82), (83, y83), (84, y84), (85, y85), (86, y86), (87, y87), (88, y88), (89, y89), (90, y90), (91, y91), (92, y92), (93, y93), (94, y94), (95, y95), (96, y96), (97, y97), (98, y98), (99, y99), (100, y100), (101, y101), (102, y102), (103, y103), (104, y104), (105, y105), (106, y106), (107, y107), (108, y108), (109, y109), (110, y110), (111, y111), (112, y112), (113, y113)])), h)
  | .bool false =>
  some (.exit 2, (mkF 241 (up x [(71, y71), (72, y72)])), h)
  | _ => none)
noncomputable def t149k149_14 (C : CallF) (x : Nat → Value) (h : Heap) : Out :=
  thenV (some ((x 9), h)) fun y216 h =>
  thenV (some ((x 10), h)) fun y217 h =>
  thenV (some ((x 11), h)) fun y218 h =>
  thenV (some ((x 12), h)) fun y219 h =>
  thenV (some ((x 13), h)) fun y220 h =>
  thenV (some ((x 14), h)) fun y221 h =>
  thenV (some ((x 15), h)) fun y222 h =>
  thenV (some ((x 16), h)) fun y223 h =>
  thenV (pu (bldR (List.replicate 8 (.int .u32 0)) [(0, 1, y216), (1, 1, y217), (2, 1, y218), (3, 1, y219), (4, 1, y220), (5, 1, y221), (6, 1, y222), (7, 1, y223)]) h) fun y224 h =>
  thenV (some ((.int .i64 0), h)) fun y225 h =>
  endL (iter (codeA Tryd.prog C (partOf Tryd.f149 [1, 1, 1, 1, 1, 1, 1, 0, 0])) rounds (mkF 241 (up x [(216, y216), (217, y217), (218, y218), (219, y219), (220, y220), (221, y221), (222, y222), (223, y223), (224, y224), (225, y225)])) h) (resultsA Tryd.prog Tryd.f149.results.toList) (b149_25 C)
noncomputable def t149l149_11111010 (C : CallF) (x : Nat → Value) (h : Heap) : Option (Ex × Env × Heap) :=
  thenV (pu (bin Tryd.prog .lss 3 (x 154) (.int .i64 64)) h) fun y155 h =>
  (match y155 with
  | .bool true =>
  thenV (some ((x 154), h)) fun y156 h =>
  thenV (some (y156, h)) fun y17 h =>
  thenV (some ((x 13), h)) fun y157 h =>
  thenV (C 159 [y157, (.int .i64 (-6))] h) fun y158 h =>
  thenV (some ((x 13), h)) fun y159 h =>
  thenV (C 159 [y159, (.int .i64 (-11))] h) fun y160 h =>
  thenV (pu (bin Tryd.prog .xor 174 y158 y160) h) fun y161 h =>
  thenV (some ((x 13), h)) fun y162 h =>
  thenV (C 159 [y162, (.int .i64 (-25))] h) fun y163 h =>
  thenV (pu (bin Tryd.prog .xor 174 y161 y163) h) fun y164 h =>
  thenV (some (y164, h)) fun y18 h =>
  thenV (some ((x 16), h)) fun y165 h =>
  thenV (some (y18, h)) fun y166 h =>
  thenV (pu (bin Tryd.prog .add 174 y165 y166) h) fun y167 h =>
  thenV (some ((x 15), h)) fun y168 h =>
  thenV (some ((x 13), h)) fun y169 h =>
  thenV (some ((x 14), h)) fun y170 h =>
  thenV (some ((x 15), h)) fun y171 h =>
  thenV (pu (bin Tryd.prog .xor 174 y170 y171) h) fun y172 h =>
  thenV (pu (bin Tryd.prog .and 174 y169 y172) h) fun y173 h =>
  thenV (pu (bin Tryd.prog .xor 174 y168 y173) h) fun y174 h =>
  thenV (pu (bin Tryd.prog .add 174 y167 y174) h) fun y175 h =>
  thenV (some (y17, h)) fun y176 h =>
  thenV (pu (idxA 64 1 (ptr 3 0) y176) h) fun y177 h =>
  thenV (ld1 y177 h) fun y178 h =>
  thenV (pu (bin Tryd.prog .add 174 y175 y178) h) fun y179 h =>
  thenV (some (y17, h)) fun y180 h =>
  thenV (pu (idxA 64 1 (x 2) y180) h) fun y181 h =>
  thenV (ld1 y181 h) fun y182 h =>
  thenV (pu (bin Tryd.prog .add 174 y179 y182) h) fun y183 h =>
  thenV (some (y183, h)) fun y19 h =>
  thenV (some ((x 9), h)) fun y184 h =>
  thenV (C 159 [y184, (.int .i64 (-2))] h) fun y185 h =>
  thenV (some ((x 9), h)) fun y186 h =>
  thenV (C 159 [y186, (.int .i64 (-13))] h) fun y187 h =>
  thenV (pu (bin Tryd.prog .xor 174 y185 y187) h) fun y188 h =>
  thenV (some ((x 9), h)) fun y189 h =>
  thenV (C 159 [y189, (.int .i64 (-22))] h) fun y190 h =>
  thenV (pu (bin Tryd.prog .xor 174 y188 y190) h) fun y191 h =>
  thenV (some (y191, h)) fun y20 h =>
  thenV (some (y20, h)) fun y192 h =>
  thenV (some ((x 9), h)) fun y193 h =>
  thenV (some ((x 10), h)) fun y194 h =>
  thenV (pu (bin Tryd.prog .and 174 y193 y194) h) fun y195 h =>
  thenV (some ((x 11), h)) fun y196 h =>
  thenV (some ((x 9), h)) fun y197 h =>
  thenV (some ((x 10), h)) fun y198 h =>
  thenV (pu (bin Tryd.prog .or 174 y197 y198) h) fun y199 h =>
  thenV (pu (bin Tryd.prog .and 174 y196 y199) h) fun y200 h =>
  thenV (pu (bin Tryd.prog .or 174 y195 y200) h) fun y201 h =>
  thenV (pu (bin Tryd.prog .add 174 y192 y201) h) fun y202 h =>
  thenV (some (y202, h)) fun y21 h =>
  thenV (some ((x 15), h)) fun y203 h =>
  thenV (some ((x 14), h)) fun y204 h =>
  thenV (some ((x 13), h)) fun y205 h =>
  thenV (some ((x 12), h)) fun y206 h =>
  thenV (some (y19, h)) fun y207 h =>
  thenV (pu (bin Tryd.prog .add 174 y206 y207) h) fun y208 h =>
  thenV (some (y203, h)) fun y16 h =>
  thenV (some (y204, h)) fun y15 h =>
  thenV (some (y205, h)) fun y14 h =>
  thenV (some (y208, h)) fun y13 h =>
  thenV (some ((x 11), h)) fun y209 h =>
  thenV (some ((x 10), h)) fun y210 h =>
  thenV (some ((x 9), h)) fun y211 h =>
  thenV (some (y19, h)) fun y212 h =>
  thenV (some (y21, h)) fun y213 h =>
  thenV (pu (bin Tryd.prog .add 174 y212 y213) h) fun y214 h =>
  thenV (some (y209, h)) fun y12 h =>
  thenV (some (y210, h)) fun y11 h =>
  thenV (some (y211, h)) fun y10 h =>
  thenV (some (y214, h)) fun y9 h =>
  thenV (pu (bin Tryd.prog .add 3 (x 154) (.int .i64 1)) h) fun y215 h =>
  thenV (some (y215, h)) fun y154 h =>
  some (.normal, (mkF 241 (up x [(9, y9), (10, y10), (11, y11), (12, y12), (13, y13), (14, y14), (15, y15), (16, y16), (17, y17), (18, y18), (19, y19), (20, y20), (21, y21), (154, y154), (155, y155), (156, y156), (157, y157), (158, y158), (159, y159), (160, y160), (161, y161), (162, y162), (163, y163), (164, y164), (165, y165), (166, y166), (167, y167), (168, y168), (169, y169), (170, y170), (171, y171), (172, y172), (173, y173), (174, y174), (175, y175), (176, y176), (177, y177), (178, y178), (179, y179), (180, y180), (181, y181), (182, y182), (183, y183), (184, y184), (185, y185), (186, y186), (187, y187), (188, y188), (189, y189), (190, y190), (191, y191), (192, y192), (193, y193), (194, y194), (195, y195), (196, y196), (197, y197), (198, y198), (199, y199), (200, y200), (201, y201), (202, y202), (203, y203), (204, y204), (205, y205), (206, y206), (207, y207), (208, y208), (209, y209), (210, y210), (211, y211), (212, y212), (213, y213), (214, y214), (215, y215)])), h)
  | .bool false =>
  some (.exit 4, (mkF 241 (up x [(155, y155)])), h)
  | _ => none)
noncomputable def t149l149_11111110 (_C : CallF) (x : Nat → Value) (h : Heap) : Option (Ex × Env × Heap) :=
  thenV (pu (bin Tryd.prog .lss 3 (x 225) (.int .i64 8)) h) fun y226 h =>
  (match y226 with
  | .bool true =>
  thenV (some ((x 225), h)) fun y227 h =>
  thenV (pu (ixA1 8 1 (x 224) (x 225)) h) fun y228 h =>
  thenV (some (y227, h)) fun y22 h =>
  thenV (some (y228, h)) fun y23 h =>
  thenV (some ((x 0), h)) fun y229 h =>
  thenV (some (y22, h)) fun y230 h =>
  thenV (pu (nilCheckA y229) h) fun y231 h =>
  thenV (pu (addP y231 0) h) fun y232 h =>
  thenV (pu (idxA 8 1 y232 y230) h) fun y233 h =>
  thenV (ld1 y233 h) fun y234 h =>
  thenV (some (y23, h)) fun y235 h =>
  thenV (pu (bin Tryd.prog .add 174 y234 y235) h) fun y236 h =>
  thenV (pu (nilCheckA y229) h) fun y237 h =>
  thenV (pu (addP y237 0) h) fun y238 h =>
  thenV (pu (idxA 8 1 y238 y230) h) fun y239 h =>
  thenV (stN 1 y239 y236 h) fun _ h =>
  thenV (pu (bin Tryd.prog .add 3 (x 225) (.int .i64 1)) h) fun y240 h =>
  thenV (some (y240, h)) fun y225 h =>
  some (.normal, (mkF 241 (up x [(22, y22), (23, y23), (225, y225), (226, y226), (227, y227), (228, y228), (229, y229), (230, y230), (231, y231), (232, y232), (233, y233), (234, y234), (235, y235), (236, y236), (237, y237), (238, y238), (239, y239), (240, y240)])), h)
  | .bool false =>
  some (.exit 6, (mkF 241 (up x [(226, y226)])), h)
  | _ => none)
theorem t149_eq (C : CallF) (x0 : Value) (h : Heap) : bodyK Tryd.prog C Tryd.f149 [x0] h = t149 C x0 h :=
  (bodyB_eq Tryd.prog C Tryd.f149 [x0] h (by kernel_rfl)).trans (by kernel_rfl)
theorem t149k149_1_eq (C : CallF) (x : Nat → Value) (h : Heap) : k149_1 C (mkF 241 x) h = t149k149_1 C x h :=
  link_partF (b := (partOf Tryd.f149 [1, 1])) (kE := (resultsA Tryd.prog Tryd.f149.results.toList)) (rE := (resultsA Tryd.prog Tryd.f149.results.toList)) (xE := (fun _ _ _ => none)) (T := t149k149_1 C) (fun x h => by kernel_rfl) x h
theorem t149l149_1010_eq (C : CallF) (x : Nat → Value) (h : Heap) : codeA Tryd.prog C (partOf Tryd.f149 [1, 0, 1, 0, 0]) (mkF 241 x) h = t149l149_1010 C x h :=
  link_roundF (T := t149l149_1010 C) (fun x h => by kernel_rfl) x h
theorem t149k149_4_eq (C : CallF) (x : Nat → Value) (h : Heap) : k149_4 C (mkF 241 x) h = t149k149_4 C x h :=
  link_partF (b := (partOf Tryd.f149 [1, 1, 1])) (kE := (resultsA Tryd.prog Tryd.f149.results.toList)) (rE := (resultsA Tryd.prog Tryd.f149.results.toList)) (xE := (fun _ _ _ => none)) (T := t149k149_4 C) (fun x h => by kernel_rfl) x h
theorem t149l149_11010_eq (C : CallF) (x : Nat → Value) (h : Heap) : codeA Tryd.prog C (partOf Tryd.f149 [1, 1, 0, 1, 0, 0]) (mkF 241 x) h = t149l149_11010 C x h :=
  link_roundF (T := t149l149_11010 C) (fun x h => by kernel_rfl) x h
theorem t149k149_14_eq (C : CallF) (x : Nat → Value) (h : Heap) : k149_14 C (mkF 241 x) h = t149k149_14 C x h :=
  link_partF (b := (partOf Tryd.f149 [1, 1, 1, 1, 1, 1])) (kE := (resultsA Tryd.prog Tryd.f149.results.toList)) (rE := (resultsA Tryd.prog Tryd.f149.results.toList)) (xE := (fun _ _ _ => none)) (T := t149k149_14 C) (fun x h => by kernel_rfl) x h
theorem t149l149_11111010_eq (C : CallF) (x : Nat → Value) (h : Heap) : codeA Tryd.prog C (partOf Tryd.f149 [1, 1, 1, 1, 1, 0, 1, 0, 0]) (mkF 241 x) h = t149l149_11111010 C x h :=
  link_roundF (T := t149l149_11111010 C) (fun x h => by kernel_rfl) x h
theorem t149l149_11111110_eq (C : CallF) (x : Nat → Value) (h : Heap) : codeA Tryd.prog C (partOf Tryd.f149 [1, 1, 1, 1, 1, 1, 1, 0, 0]) (mkF 241 x) h = t149l149_11111110 C x h :=
  link_roundF (T := t149l149_11111110 C) (fun x h => by kernel_rfl) x h

/-- math/bits.RotateLeft32 -/
noncomputable def t159 (_C : CallF) (x0 x1 : Value) (h : Heap) : Out :=
  thenV (some ((.int .u32 0), h)) fun _y4 h =>
  thenV (some (x1, h)) fun y6 h =>
  thenV (cvI .u64 y6 h) fun y7 h =>
  thenV (pu (bin Tryd.prog .and 111 y7 (.int .u64 31)) h) fun y8 h =>
  thenV (some (y8, h)) fun y5 h =>
  thenV (some (x0, h)) fun y9 h =>
  thenV (some (y5, h)) fun y10 h =>
  thenV (pu (bin Tryd.prog .shl 174 y9 y10) h) fun y11 h =>
  thenV (some (x0, h)) fun y12 h =>
  thenV (some (y5, h)) fun y13 h =>
  thenV (pu (bin Tryd.prog .sub 111 (.int .u64 32) y13) h) fun y14 h =>
  thenV (pu (bin Tryd.prog .shr 174 y12 y14) h) fun y15 h =>
  thenV (pu (bin Tryd.prog .or 174 y11 y15) h) fun y16 h =>
  thenV (some (y16, h)) fun y4_1 h =>
  some (y4_1, h)
theorem t159_eq (C : CallF) (x0 x1 : Value) (h : Heap) : bodyK Tryd.prog C Tryd.f159 [x0, x1] h = t159 C x0 x1 h :=
  (bodyB_eq Tryd.prog C Tryd.f159 [x0, x1] h (by kernel_rfl)).trans (by kernel_rfl)

/-- stolon/inventory.leaf -/
noncomputable def t69 (C : CallF) (x0 : Value) (h : Heap) : Out :=
  thenV (box x0 h) fun y1 h =>
  thenV (newC (List.replicate 32 (.int .u8 0)) h) fun y2 h =>
  thenV (ldN 39 y1 h) fun y7 h =>
  thenV (C 43 [y7] h) fun y8 h =>
  thenV (some (y8, h)) fun y6 h =>
  thenV (pu (extractA y6 0) h) fun y9 h =>
  thenV (pu (extractA y6 1) h) fun y10 h =>
  thenV (some (y9, h)) fun y3 h =>
  thenV (some (y10, h)) fun y4 h =>
  thenV (C 121 [] h) fun y11 h =>
  thenV (some (y11, h)) fun y5 h =>
  thenV (some (y5, h)) fun y12 h =>
  thenV (bslR 1 (.int .u8 0) 1 [(0, (.int .u8 0))] h) fun y13 h =>
  thenV (C 122 [y12, y13] h) fun y14 h =>
  thenV (some (y5, h)) fun y15 h =>
  thenV (some (y3, h)) fun y16 h =>
  thenV (C 122 [y15, y16] h) fun y17 h =>
  thenV (some (y5, h)) fun y18 h =>
  thenV (C 123 [y18] h) fun y19 h =>
  thenV (stN 32 y2 y19 h) fun _ h =>
  resultsA Tryd.prog Tryd.f69.results.toList (mkF 20 (up (bs [x0]) [(1, y1), (2, y2), (3, y3), (4, y4), (5, y5), (6, y6), (7, y7), (8, y8), (9, y9), (10, y10), (11, y11), (12, y12), (13, y13), (14, y14), (15, y15), (16, y16), (17, y17), (18, y18), (19, y19)])) h
theorem t69_eq (C : CallF) (x0 : Value) (h : Heap) : bodyK Tryd.prog C Tryd.f69 [x0] h = t69 C x0 h :=
  (bodyB_eq Tryd.prog C Tryd.f69 [x0] h (by kernel_rfl)).trans (by kernel_rfl)

/-- stolon/inventory.node -/
noncomputable def t70 (C : CallF) (x0 x1 : Value) (h : Heap) : Out :=
  thenV (box x0 h) fun y2 h =>
  thenV (box x1 h) fun y3 h =>
  thenV (newC (List.replicate 32 (.int .u8 0)) h) fun y4 h =>
  thenV (C 121 [] h) fun y6 h =>
  thenV (some (y6, h)) fun y5 h =>
  thenV (some (y5, h)) fun y7 h =>
  thenV (bslR 1 (.int .u8 0) 1 [(0, (.int .u8 1))] h) fun y8 h =>
  thenV (C 122 [y7, y8] h) fun y9 h =>
  thenV (some (y5, h)) fun y10 h =>
  thenV (pu (sliceArr 32 1 y2 none none none) h) fun y11 h =>
  thenV (C 122 [y10, y11] h) fun y12 h =>
  thenV (some (y5, h)) fun y13 h =>
  thenV (pu (sliceArr 32 1 y3 none none none) h) fun y14 h =>
  thenV (C 122 [y13, y14] h) fun y15 h =>
  thenV (some (y5, h)) fun y16 h =>
  thenV (C 123 [y16] h) fun y17 h =>
  thenV (stN 32 y4 y17 h) fun _ h =>
  resultsA Tryd.prog Tryd.f70.results.toList (mkF 18 (up (bs [x0, x1]) [(2, y2), (3, y3), (4, y4), (5, y5), (6, y6), (7, y7), (8, y8), (9, y9), (10, y10), (11, y11), (12, y12), (13, y13), (14, y14), (15, y15), (16, y16), (17, y17)])) h
theorem t70_eq (C : CallF) (x0 x1 : Value) (h : Heap) : bodyK Tryd.prog C Tryd.f70 [x0, x1] h = t70 C x0 x1 h :=
  (bodyB_eq Tryd.prog C Tryd.f70 [x0, x1] h (by kernel_rfl)).trans (by kernel_rfl)

end Go.Proofs.YtdnahgfgoajmcaaDoor

namespace Go.Proofs.YtdnahgfgoajmcaaDoor
open Go Go.Abs
end Go.Proofs.YtdnahgfgoajmcaaDoor

namespace Go.Proofs.YtdnahgfgoajmcaaDoor
open Go Go.Abs
/-- stolon/stolonref02.Sum -/
noncomputable def t108 (C : CallF) (x0 : Value) (h : Heap) : Out :=
  thenV (newC (List.replicate 32 (.int .u8 0)) h) fun y2 h =>
  thenV (some (x0, h)) fun y3 h =>
  thenV (ldN 64 (ptr 1 0) h) fun y4 h =>
  thenV (pu (bldR (List.replicate 8 (.int .u32 0)) [(0, 1, (.int .u32 1779033703)), (1, 1, (.int .u32 3144134277)), (2, 1, (.int .u32 1013904242)), (3, 1, (.int .u32 2773480762)), (4, 1, (.int .u32 1359893119)), (5, 1, (.int .u32 2600822924)), (6, 1, (.int .u32 528734635)), (7, 1, (.int .u32 1541459225))]) h) fun y5 h =>
  thenV (C 136 [y3, y4, y5] h) fun y6 h =>
  thenV (stN 32 y2 y6 h) fun _ h =>
  resultsA Tryd.prog Tryd.f108.results.toList (mkF 7 (up (bs [x0]) [(2, y2), (3, y3), (4, y4), (5, y5), (6, y6)])) h
theorem t108_eq (C : CallF) (x0 : Value) (h : Heap) : bodyK Tryd.prog C Tryd.f108 [x0] h = t108 C x0 h :=
  (bodyB_eq Tryd.prog C Tryd.f108 [x0] h (by kernel_rfl)).trans (by kernel_rfl)

noncomputable def k136_2 (C : CallF) (e : Env) (h : Heap) : Out := codeK Tryd.prog C (partOf Tryd.f136 [1, 1, 1]) e h (resultsA Tryd.prog Tryd.f136.results.toList) (resultsA Tryd.prog Tryd.f136.results.toList) (fun _ _ _ => none)
noncomputable def b136_3 (C : CallF) (i : Nat) (e : Env) (h : Heap) : Out := if i = 0 then (k136_2 C) e h else (fun _ _ _ => none) i e h
noncomputable def k136_5 (C : CallF) (e : Env) (h : Heap) : Out := codeK Tryd.prog C (partOf Tryd.f136 [1, 1, 1, 1, 1]) e h (resultsA Tryd.prog Tryd.f136.results.toList) (resultsA Tryd.prog Tryd.f136.results.toList) (fun _ _ _ => none)
noncomputable def b136_7 (C : CallF) (i : Nat) (e : Env) (h : Heap) : Out := if i = 2 then (k136_5 C) e h else (fun _ _ _ => none) i e h
noncomputable def k136_11 (C : CallF) (e : Env) (h : Heap) : Out := codeK Tryd.prog C (partOf Tryd.f136 [1, 1, 1, 1, 1, 1]) e h (resultsA Tryd.prog Tryd.f136.results.toList) (resultsA Tryd.prog Tryd.f136.results.toList) (fun _ _ _ => none)
noncomputable def b136_13 (C : CallF) (i : Nat) (e : Env) (h : Heap) : Out := if i = 4 then (k136_11 C) e h else (fun _ _ _ => none) i e h
noncomputable def k136_19 (C : CallF) (e : Env) (h : Heap) : Out := codeK Tryd.prog C (partOf Tryd.f136 [1, 1, 1, 1, 1, 1, 1, 1]) e h (resultsA Tryd.prog Tryd.f136.results.toList) (resultsA Tryd.prog Tryd.f136.results.toList) (fun _ _ _ => none)
noncomputable def b136_21 (C : CallF) (i : Nat) (e : Env) (h : Heap) : Out := if i = 6 then (k136_19 C) e h else (fun _ _ _ => none) i e h
/-- stolon/stolonref02.fold -/
noncomputable def t136 (C : CallF) (x0 x1 x2 : Value) (h : Heap) : Out :=
  thenV (box x1 h) fun y4 h =>
  thenV (box x2 h) fun y5 h =>
  thenV (newC (List.replicate 32 (.int .u8 0)) h) fun y6 h =>
  thenV (bslR 1 (.int .u8 0) 0 [] h) fun y13 h =>
  thenV (some (x0, h)) fun y14 h =>
  thenV (appendA 1 1 y13 y14 h) fun y15 h =>
  thenV (bslR 1 (.int .u8 0) 1 [(0, (.int .u8 128))] h) fun y16 h =>
  thenV (appendA 1 1 y15 y16 h) fun y17 h =>
  thenV (some (y17, h)) fun y7 h =>
  endL (iter (codeA Tryd.prog C (partOf Tryd.f136 [1, 1, 0, 0, 0])) rounds (mkF 74 (up (bs [x0, x1, x2]) [(4, y4), (5, y5), (6, y6), (7, y7), (13, y13), (14, y14), (15, y15), (16, y16), (17, y17)])) h) (resultsA Tryd.prog Tryd.f136.results.toList) (b136_3 C)
noncomputable def t136k136_2 (C : CallF) (x : Nat → Value) (h : Heap) : Out :=
  thenV (some ((x 0), h)) fun y25 h =>
  thenV (pu (lenL y25) h) fun y26 h =>
  thenV (cvI .u64 y26 h) fun y27 h =>
  thenV (pu (bin Tryd.prog .mul 32 y27 (.int .u64 8)) h) fun y28 h =>
  thenV (some (y28, h)) fun y8 h =>
  thenV (some ((.int .i64 7), h)) fun y9 h =>
  endL (iter (codeA Tryd.prog C (partOf Tryd.f136 [1, 1, 1, 1, 0, 1, 0, 0])) rounds (mkF 74 (up x [(8, y8), (9, y9), (25, y25), (26, y26), (27, y27), (28, y28)])) h) (resultsA Tryd.prog Tryd.f136.results.toList) (b136_7 C)
noncomputable def t136l136_1100 (_C : CallF) (x : Nat → Value) (h : Heap) : Option (Ex × Env × Heap) :=
  thenV (some ((x 7), h)) fun y18 h =>
  thenV (pu (lenL y18) h) fun y19 h =>
  thenV (pu (bin Tryd.prog .rem 3 y19 (.int .i64 64)) h) fun y20 h =>
  thenV (pu (bin Tryd.prog .neq 3 y20 (.int .i64 56)) h) fun y21 h =>
  (match y21 with
  | .bool true =>
  thenV (some ((x 7), h)) fun y22 h =>
  thenV (bslR 1 (.int .u8 0) 1 [(0, (.int .u8 0))] h) fun y23 h =>
  thenV (appendA 1 1 y22 y23 h) fun y24 h =>
  thenV (some (y24, h)) fun y7 h =>
  some (.normal, (mkF 74 (up x [(7, y7), (18, y18), (19, y19), (20, y20), (21, y21), (22, y22), (23, y23), (24, y24)])), h)
  | .bool false =>
  some (.exit 0, (mkF 74 (up x [(18, y18), (19, y19), (20, y20), (21, y21)])), h)
  | _ => none)
noncomputable def t136k136_5 (C : CallF) (x : Nat → Value) (h : Heap) : Out :=
  thenV (some ((.int .i64 0), h)) fun y10 h =>
  endL (iter (codeA Tryd.prog C (partOf Tryd.f136 [1, 1, 1, 1, 1, 0, 1, 0, 0])) rounds (mkF 74 (up x [(10, y10)])) h) (resultsA Tryd.prog Tryd.f136.results.toList) (b136_13 C)
noncomputable def t136l136_1111010 (_C : CallF) (x : Nat → Value) (h : Heap) : Option (Ex × Env × Heap) :=
  thenV (some ((x 9), h)) fun y29 h =>
  thenV (pu (bin Tryd.prog .geq 3 y29 (.int .i64 0)) h) fun y30 h =>
  (match y30 with
  | .bool true =>
  thenV (some ((x 7), h)) fun y33 h =>
  thenV (some ((x 8), h)) fun y34 h =>
  thenV (some ((x 9), h)) fun y35 h =>
  thenV (cvI .u64 y35 h) fun y36 h =>
  thenV (pu (bin Tryd.prog .mul 111 (.int .u64 8) y36) h) fun y37 h =>
  thenV (pu (bin Tryd.prog .shr 32 y34 y37) h) fun y38 h =>
  thenV (cvI .u8 y38 h) fun y39 h =>
  thenV (bslR 1 (.int .u8 0) 1 [(0, y39)] h) fun y40 h =>
  thenV (appendA 1 1 y33 y40 h) fun y41 h =>
  thenV (some (y41, h)) fun y7 h =>
  thenV (some ((x 9), h)) fun y31 h =>
  thenV (pu (bin Tryd.prog .sub 3 y31 (.int .i64 1)) h) fun y32 h =>
  thenV (some (y32, h)) fun y9 h =>
  some (.normal, (mkF 74 (up x [(7, y7), (9, y9), (29, y29), (30, y30), (31, y31), (32, y32), (33, y33), (34, y34), (35, y35), (36, y36), (37, y37), (38, y38), (39, y39), (40, y40), (41, y41)])), h)
  | .bool false =>
  some (.exit 2, (mkF 74 (up x [(29, y29), (30, y30)])), h)
  | _ => none)
noncomputable def t136k136_11 (C : CallF) (x : Nat → Value) (h : Heap) : Out :=
  thenV (newC (List.replicate 32 (.int .u8 0)) h) fun y11 h =>
  thenV (some ((.int .i64 0), h)) fun y12 h =>
  endL (iter (codeA Tryd.prog C (partOf Tryd.f136 [1, 1, 1, 1, 1, 1, 1, 0, 1, 0, 0])) rounds (mkF 74 (up x [(11, y11), (12, y12)])) h) (resultsA Tryd.prog Tryd.f136.results.toList) (b136_21 C)
noncomputable def t136l136_11111010 (C : CallF) (x : Nat → Value) (h : Heap) : Option (Ex × Env × Heap) :=
  thenV (some ((x 10), h)) fun y42 h =>
  thenV (some ((x 7), h)) fun y43 h =>
  thenV (pu (lenL y43) h) fun y44 h =>
  thenV (pu (bin Tryd.prog .lss 3 y42 y44) h) fun y45 h =>
  (match y45 with
  | .bool true =>
  thenV (ldN 8 (x 5) h) fun y48 h =>
  thenV (ldN 64 (x 4) h) fun y49 h =>
  thenV (some ((x 7), h)) fun y50 h =>
  thenV (some ((x 10), h)) fun y51 h =>
  thenV (some ((x 10), h)) fun y52 h =>
  thenV (pu (bin Tryd.prog .add 3 y52 (.int .i64 64)) h) fun y53 h =>
  thenV (pu (slR 1 y50 (some y51) (some y53) none) h) fun y54 h =>
  thenV (C 153 [y48, y49, y54] h) fun y55 h =>
  thenV (stN 8 (x 5) y55 h) fun _ h =>
  thenV (some ((x 10), h)) fun y46 h =>
  thenV (pu (bin Tryd.prog .add 3 y46 (.int .i64 64)) h) fun y47 h =>
  thenV (some (y47, h)) fun y10 h =>
  some (.normal, (mkF 74 (up x [(10, y10), (42, y42), (43, y43), (44, y44), (45, y45), (46, y46), (47, y47), (48, y48), (49, y49), (50, y50), (51, y51), (52, y52), (53, y53), (54, y54), (55, y55)])), h)
  | .bool false =>
  some (.exit 4, (mkF 74 (up x [(42, y42), (43, y43), (44, y44), (45, y45)])), h)
  | _ => none)
noncomputable def t136k136_19 (_C : CallF) (x : Nat → Value) (h : Heap) : Out :=
  thenV (ldN 32 (x 11) h) fun y73 h =>
  thenV (stN 32 (x 6) y73 h) fun _ h =>
  resultsA Tryd.prog Tryd.f136.results.toList (mkF 74 (up x [(73, y73)])) h
noncomputable def t136l136_1111111010 (_C : CallF) (x : Nat → Value) (h : Heap) : Option (Ex × Env × Heap) :=
  thenV (some ((x 12), h)) fun y56 h =>
  thenV (pu (bin Tryd.prog .lss 3 y56 (.int .i64 32)) h) fun y57 h =>
  (match y57 with
  | .bool true =>
  thenV (some ((x 12), h)) fun y60 h =>
  thenV (some ((x 12), h)) fun y61 h =>
  thenV (pu (bin Tryd.prog .quo 3 y61 (.int .i64 4)) h) fun y62 h =>
  thenV (pu (idxA 8 1 (x 5) y62) h) fun y63 h =>
  thenV (ld1 y63 h) fun y64 h =>
  thenV (some ((x 12), h)) fun y65 h =>
  thenV (pu (bin Tryd.prog .rem 3 y65 (.int .i64 4)) h) fun y66 h =>
  thenV (cvI .u64 y66 h) fun y67 h =>
  thenV (pu (bin Tryd.prog .mul 111 (.int .u64 8) y67) h) fun y68 h =>
  thenV (pu (bin Tryd.prog .sub 111 (.int .u64 24) y68) h) fun y69 h =>
  thenV (pu (bin Tryd.prog .shr 174 y64 y69) h) fun y70 h =>
  thenV (cvI .u8 y70 h) fun y71 h =>
  thenV (pu (idxA 32 1 (x 11) y60) h) fun y72 h =>
  thenV (stN 1 y72 y71 h) fun _ h =>
  thenV (some ((x 12), h)) fun y58 h =>
  thenV (pu (bin Tryd.prog .add 3 y58 (.int .i64 1)) h) fun y59 h =>
  thenV (some (y59, h)) fun y12 h =>
  some (.normal, (mkF 74 (up x [(12, y12), (56, y56), (57, y57), (58, y58), (59, y59), (60, y60), (61, y61), (62, y62), (63, y63), (64, y64), (65, y65), (66, y66), (67, y67), (68, y68), (69, y69), (70, y70), (71, y71), (72, y72)])), h)
  | .bool false =>
  some (.exit 6, (mkF 74 (up x [(56, y56), (57, y57)])), h)
  | _ => none)
theorem t136_eq (C : CallF) (x0 x1 x2 : Value) (h : Heap) : bodyK Tryd.prog C Tryd.f136 [x0, x1, x2] h = t136 C x0 x1 x2 h :=
  (bodyB_eq Tryd.prog C Tryd.f136 [x0, x1, x2] h (by kernel_rfl)).trans (by kernel_rfl)
theorem t136k136_2_eq (C : CallF) (x : Nat → Value) (h : Heap) : k136_2 C (mkF 74 x) h = t136k136_2 C x h :=
  link_partF (b := (partOf Tryd.f136 [1, 1, 1])) (kE := (resultsA Tryd.prog Tryd.f136.results.toList)) (rE := (resultsA Tryd.prog Tryd.f136.results.toList)) (xE := (fun _ _ _ => none)) (T := t136k136_2 C) (fun x h => by kernel_rfl) x h
theorem t136l136_1100_eq (C : CallF) (x : Nat → Value) (h : Heap) : codeA Tryd.prog C (partOf Tryd.f136 [1, 1, 0, 0, 0]) (mkF 74 x) h = t136l136_1100 C x h :=
  link_roundF (T := t136l136_1100 C) (fun x h => by kernel_rfl) x h
theorem t136k136_5_eq (C : CallF) (x : Nat → Value) (h : Heap) : k136_5 C (mkF 74 x) h = t136k136_5 C x h :=
  link_partF (b := (partOf Tryd.f136 [1, 1, 1, 1, 1])) (kE := (resultsA Tryd.prog Tryd.f136.results.toList)) (rE := (resultsA Tryd.prog Tryd.f136.results.toList)) (xE := (fun _ _ _ => none)) (T := t136k136_5 C) (fun x h => by kernel_rfl) x h
theorem t136l136_1111010_eq (C : CallF) (x : Nat → Value) (h : Heap) : codeA Tryd.prog C (partOf Tryd.f136 [1, 1, 1, 1, 0, 1, 0, 0]) (mkF 74 x) h = t136l136_1111010 C x h :=
  link_roundF (T := t136l136_1111010 C) (fun x h => by kernel_rfl) x h
theorem t136k136_11_eq (C : CallF) (x : Nat → Value) (h : Heap) : k136_11 C (mkF 74 x) h = t136k136_11 C x h :=
  link_partF (b := (partOf Tryd.f136 [1, 1, 1, 1, 1, 1])) (kE := (resultsA Tryd.prog Tryd.f136.results.toList)) (rE := (resultsA Tryd.prog Tryd.f136.results.toList)) (xE := (fun _ _ _ => none)) (T := t136k136_11 C) (fun x h => by kernel_rfl) x h
theorem t136l136_11111010_eq (C : CallF) (x : Nat → Value) (h : Heap) : codeA Tryd.prog C (partOf Tryd.f136 [1, 1, 1, 1, 1, 0, 1, 0, 0]) (mkF 74 x) h = t136l136_11111010 C x h :=
  link_roundF (T := t136l136_11111010 C) (fun x h => by kernel_rfl) x h
theorem t136k136_19_eq (C : CallF) (x : Nat → Value) (h : Heap) : k136_19 C (mkF 74 x) h = t136k136_19 C x h :=
  link_partF (b := (partOf Tryd.f136 [1, 1, 1, 1, 1, 1, 1, 1])) (kE := (resultsA Tryd.prog Tryd.f136.results.toList)) (rE := (resultsA Tryd.prog Tryd.f136.results.toList)) (xE := (fun _ _ _ => none)) (T := t136k136_19 C) (fun x h => by kernel_rfl) x h
theorem t136l136_1111111010_eq (C : CallF) (x : Nat → Value) (h : Heap) : codeA Tryd.prog C (partOf Tryd.f136 [1, 1, 1, 1, 1, 1, 1, 0, 1, 0, 0]) (mkF 74 x) h = t136l136_1111111010 C x h :=
  link_roundF (T := t136l136_1111111010 C) (fun x h => by kernel_rfl) x h

noncomputable def k153_2 (C : CallF) (e : Env) (h : Heap) : Out := codeK Tryd.prog C (partOf Tryd.f153 [1, 1, 1]) e h (resultsA Tryd.prog Tryd.f153.results.toList) (resultsA Tryd.prog Tryd.f153.results.toList) (fun _ _ _ => none)
noncomputable def b153_4 (C : CallF) (i : Nat) (e : Env) (h : Heap) : Out := if i = 0 then (k153_2 C) e h else (fun _ _ _ => none) i e h
noncomputable def k153_6 (C : CallF) (e : Env) (h : Heap) : Out := codeK Tryd.prog C (partOf Tryd.f153 [1, 1, 1, 1, 1]) e h (resultsA Tryd.prog Tryd.f153.results.toList) (resultsA Tryd.prog Tryd.f153.results.toList) (fun _ _ _ => none)
noncomputable def b153_8 (C : CallF) (i : Nat) (e : Env) (h : Heap) : Out := if i = 2 then (k153_6 C) e h else (fun _ _ _ => none) i e h
noncomputable def k153_20 (C : CallF) (e : Env) (h : Heap) : Out := codeK Tryd.prog C (partOf Tryd.f153 [1, 1, 1, 1, 1, 1]) e h (resultsA Tryd.prog Tryd.f153.results.toList) (resultsA Tryd.prog Tryd.f153.results.toList) (fun _ _ _ => none)
noncomputable def b153_22 (C : CallF) (i : Nat) (e : Env) (h : Heap) : Out := if i = 4 then (k153_20 C) e h else (fun _ _ _ => none) i e h
/-- stolon/stolonref02.round -/
noncomputable def t153 (C : CallF) (x0 x1 x2 : Value) (h : Heap) : Out :=
  thenV (box x0 h) fun y3 h =>
  thenV (box x1 h) fun y4 h =>
  thenV (newC (List.replicate 8 (.int .u32 0)) h) fun y6 h =>
  thenV (newC (List.replicate 64 (.int .u32 0)) h) fun y7 h =>
  thenV (some ((.int .i64 0), h)) fun y8 h =>
  endL (iter (codeA Tryd.prog C (partOf Tryd.f153 [1, 1, 0, 1, 0, 0])) rounds (mkF 206 (up (bs [x0, x1, x2]) [(3, y3), (4, y4), (6, y6), (7, y7), (8, y8)])) h) (resultsA Tryd.prog Tryd.f153.results.toList) (b153_4 C)
noncomputable def t153k153_2 (C : CallF) (x : Nat → Value) (h : Heap) : Out :=
  thenV (ldN 8 (x 3) h) fun y110 h =>
  thenV (newC (List.replicate 8 (.int .u32 0)) h) fun y11 h =>
  thenV (stN 8 y11 y110 h) fun _ h =>
  thenV (some ((.int .i64 0), h)) fun y12 h =>
  endL (iter (codeA Tryd.prog C (partOf Tryd.f153 [1, 1, 1, 1, 0, 1, 0, 0])) rounds (mkF 206 (up x [(11, y11), (12, y12), (110, y110)])) h) (resultsA Tryd.prog Tryd.f153.results.toList) (b153_8 C)
noncomputable def t153l153_11010 (C : CallF) (x : Nat → Value) (h : Heap) : Option (Ex × Env × Heap) :=
  thenV (some ((x 8), h)) fun y20 h =>
  thenV (pu (bin Tryd.prog .lss 3 y20 (.int .i64 64)) h) fun y21 h =>
  (match y21 with
  | .bool true =>
  thenV (some ((x 8), h)) fun y24 h =>
  thenV (pu (bin Tryd.prog .lss 3 y24 (.int .i64 16)) h) fun y25 h =>
  (match y25 with
  | .bool true =>
  thenV (some ((x 8), h)) fun y26 h =>
  thenV (some ((x 2), h)) fun y27 h =>
  thenV (some ((x 8), h)) fun y28 h =>
  thenV (pu (bin Tryd.prog .mul 3 (.int .i64 4) y28) h) fun y29 h =>
  thenV (pu (idxS 1 y27 y29) h) fun y30 h =>
  thenV (ld1 y30 h) fun y31 h =>
  thenV (cvI .u32 y31 h) fun y32 h =>
  thenV (pu (bin Tryd.prog .shl 174 y32 (.int .u64 24)) h) fun y33 h =>
  thenV (some ((x 2), h)) fun y34 h =>
  thenV (some ((x 8), h)) fun y35 h =>
  thenV (pu (bin Tryd.prog .mul 3 (.int .i64 4) y35) h) fun y36 h =>
  thenV (pu (bin Tryd.prog .add 3 y36 (.int .i64 1)) h) fun y37 h =>
  thenV (pu (idxS 1 y34 y37) h) fun y38 h =>
  thenV (ld1 y38 h) fun y39 h =>
  thenV (cvI .u32 y39 h) fun y40 h =>
  thenV (pu (bin Tryd.prog .shl 174 y40 (.int .u64 16)) h) fun y41 h =>
  thenV (pu (bin Tryd.prog .or 174 y33 y41) h) fun y42 h =>
  thenV (some ((x 2), h)) fun y43 h =>
  thenV (some ((x 8), h)) fun y44 h =>
  thenV (pu (bin Tryd.prog .mul 3 (.int .i64 4) y44) h) fun y45 h =>
  thenV (pu (bin Tryd.prog .add 3 y45 (.int .i64 2)) h) fun y46 h =>
  thenV (pu (idxS 1 y43 y46) h) fun y47 h =>
  thenV (ld1 y47 h) fun y48 h =>
  thenV (cvI .u32 y48 h) fun y49 h =>
  thenV (pu (bin Tryd.prog .shl 174 y49 (.int .u64 8)) h) fun y50 h =>
  thenV (pu (bin Tryd.prog .or 174 y42 y50) h) fun y51 h =>
  thenV (some ((x 2), h)) fun y52 h =>
  thenV (some ((x 8), h)) fun y53 h =>
  thenV (pu (bin Tryd.prog .mul 3 (.int .i64 4) y53) h) fun y54 h =>
  thenV (pu (bin Tryd.prog .add 3 y54 (.int .i64 3)) h) fun y55 h =>
  thenV (pu (idxS 1 y52 y55) h) fun y56 h =>
  thenV (ld1 y56 h) fun y57 h =>
  thenV (cvI .u32 y57 h) fun y58 h =>
  thenV (pu (bin Tryd.prog .or 174 y51 y58) h) fun y59 h =>
  thenV (pu (idxA 64 1 (x 7) y26) h) fun y60 h =>
  thenV (stN 1 y60 y59 h) fun _ h =>
  thenV (some ((x 8), h)) fun y22 h =>
  thenV (pu (bin Tryd.prog .add 3 y22 (.int .i64 1)) h) fun y23 h =>
  thenV (some (y23, h)) fun y8 h =>
  some (.normal, (mkF 206 (up x [(8, y8), (20, y20), (21, y21), (22, y22), (23, y23), (24, y24), (25, y25), (26, y26), (27, y27), (28, y28), (29, y29), (30, y30), (31, y31), (32, y32), (33, y33), (34, y34), (35, y35), (36, y36), (37, y37), (38, y38), (39, y39), (40, y40), (41, y41), (42, y42), (43, y43), (44, y44), (45, y45), (46, y46), (47, y47), (48, y48), (49, y49), (50, y50), (51, y51), (52, y52), (53, y53), (54, y54), (55, y55), (56, y56), (57, y57), (58, y58), (59, y59), (60, y60)])), h)
  | .bool false =>
  let g17_0 := h
  thenV (some ((x 8), g17_0)) fun y61 g17_1 =>
  thenV (pu (bin Tryd.prog .sub 3 y61 (.int .i64 15)) g17_1) fun y62 g17_2 =>
  thenV (pu (idxA 64 1 (x 7) y62) g17_2) fun y63 g17_3 =>
  thenV (ld1 y63 g17_3) fun y64 g17_4 =>
  thenV (C 161 [y64, (.int .u64 7)] g17_4) fun y65 g17_5 =>
  thenV (some ((x 8), g17_5)) fun y66 g17_6 =>
  thenV (pu (bin Tryd.prog .sub 3 y66 (.int .i64 15)) g17_6) fun y67 g17_7 =>
  thenV (pu (idxA 64 1 (x 7) y67) g17_7) fun y68 g17_8 =>
  thenV (ld1 y68 g17_8) fun y69 g17_9 =>
  thenV (C 161 [y69, (.int .u64 18)] g17_9) fun y70 g17_10 =>
  thenV (pu (bin Tryd.prog .xor 174 y65 y70) g17_10) fun y71 g17_11 =>
  thenV (some ((x 8), g17_11)) fun y72 g17_12 =>
  thenV (pu (bin Tryd.prog .sub 3 y72 (.int .i64 15)) g17_12) fun y73 g17_13 =>
  thenV (pu (idxA 64 1 (x 7) y73) g17_13) fun y74 g17_14 =>
  thenV (ld1 y74 g17_14) fun y75 g17_15 =>
  thenV (pu (bin Tryd.prog .shr 174 y75 (.int .u64 3)) g17_15) fun y76 g17_16 =>
  thenV (pu (bin Tryd.prog .xor 174 y71 y76) g17_16) fun y77 g17_17 =>
  thenV (some (y77, g17_17)) fun y9 g17_18 =>
  (match (chkR true (ld1 y68 g17_4) y69 && (chkR true (ld1 y74 g17_4) y75 && (chkR true (ld1 y74 g17_9) y75 && true))) with
  | true =>
  let h := g17_18
  let g19_0 := h
  thenV (some ((x 8), g19_0)) fun y78 g19_1 =>
  thenV (pu (bin Tryd.prog .sub 3 y78 (.int .i64 2)) g19_1) fun y79 g19_2 =>
  thenV (pu (idxA 64 1 (x 7) y79) g19_2) fun y80 g19_3 =>
  thenV (ld1 y80 g19_3) fun y81 g19_4 =>
  thenV (C 161 [y81, (.int .u64 17)] g19_4) fun y82 g19_5 =>
  thenV (some ((x 8), g19_5)) fun y83 g19_6 =>
  thenV (pu (bin Tryd.prog .sub 3 y83 (.int .i64 2)) g19_6) fun y84 g19_7 =>
  thenV (pu (idxA 64 1 (x 7) y84) g19_7) fun y85 g19_8 =>
  thenV (ld1 y85 g19_8) fun y86 g19_9 =>
  thenV (C 161 [y86, (.int .u64 19)] g19_9) fun y87 g19_10 =>
  thenV (pu (bin Tryd.prog .xor 174 y82 y87) g19_10) fun y88 g19_11 =>
  thenV (some ((x 8), g19_11)) fun y89 g19_12 =>
  thenV (pu (bin Tryd.prog .sub 3 y89 (.int .i64 2)) g19_12) fun y90 g19_13 =>
  thenV (pu (idxA 64 1 (x 7) y90) g19_13) fun y91 g19_14 =>
  thenV (ld1 y91 g19_14) fun y92 g19_15 =>
  thenV (pu (bin Tryd.prog .shr 174 y92 (.int .u64 10)) g19_15) fun y93 g19_16 =>
  thenV (pu (bin Tryd.prog .xor 174 y88 y93) g19_16) fun y94 g19_17 =>
  thenV (some (y94, g19_17)) fun y10 g19_18 =>
  (match (chkR true (ld1 y85 g19_4) y86 && (chkR true (ld1 y91 g19_4) y92 && (chkR true (ld1 y91 g19_9) y92 && true))) with
  | true =>
  let h := g19_18
  thenV (some ((x 8), h)) fun y95 h =>
  thenV (some (y10, h)) fun y96 h =>
  thenV (some ((x 8), h)) fun y97 h =>
  thenV (pu (bin Tryd.prog .sub 3 y97 (.int .i64 7)) h) fun y98 h =>
  thenV (pu (idxA 64 1 (x 7) y98) h) fun y99 h =>
  thenV (ld1 y99 h) fun y100 h =>
  thenV (pu (bin Tryd.prog .add 174 y96 y100) h) fun y101 h =>
  thenV (some (y9, h)) fun y102 h =>
  thenV (pu (bin Tryd.prog .add 174 y101 y102) h) fun y103 h =>
  thenV (some ((x 8), h)) fun y104 h =>
  thenV (pu (bin Tryd.prog .sub 3 y104 (.int .i64 16)) h) fun y105 h =>
  thenV (pu (idxA 64 1 (x 7) y105) h) fun y106 h =>
  thenV (ld1 y106 h) fun y107 h =>
  thenV (pu (bin Tryd.prog .add 174 y103 y107) h) fun y108 h =>
  thenV (pu (idxA 64 1 (x 7) y95) h) fun y109 h =>
  thenV (stN 1 y109 y108 h) fun _ h =>
  thenV (some ((x 8), h)) fun y22 h =>
  thenV (pu (bin Tryd.prog .add 3 y22 (.int .i64 1)) h) fun y23 h =>
  thenV (some (y23, h)) fun y8 h =>
  some (.normal, (mkF 206 (up x [(8, y8), (9, y9), (10, y10), (20, y20), (21, y21), (22, y22), (23, y23), (24, y24), (25, y25), (61, y61), (62, y62), (63, y63), (64, y64), (65, y65), (66, y66), (67, y67), (68, y68), (69, y69), (70, y70), (71, y71), (72, y72), (73, y73), (74, y74), (75, y75), (76, y76), (77, y77), (78, y78), (79, y79), (80, y80), (81, y81), (82, y82), (83, y83), (84, y84), (85, y85), (86, y86), (87, y87), (88, y88), (89, y89), (90, y90), (91, y91), (92, y92), (93, y93), (94, y94), (95, y95), (96, y96), (97, y97), (98, y98), (99, y99), (100, y100), (101, y101), (102, y102), (103, y103), (104, y104), (105, y105), (106, y106), (107, y107), (108, y108), (109, y109)])), h)
  | false => none)
  | false => none)
  | _ => none)
  | .bool false =>
  some (.exit 0, (mkF 206 (up x [(20, y20), (21, y21)])), h)
  | _ => none)
noncomputable def t153k153_6 (C : CallF) (x : Nat → Value) (h : Heap) : Out :=
  thenV (some ((.int .i64 0), h)) fun y19 h =>
  endL (iter (codeA Tryd.prog C (partOf Tryd.f153 [1, 1, 1, 1, 1, 0, 1, 0, 0])) rounds (mkF 206 (up x [(19, y19)])) h) (resultsA Tryd.prog Tryd.f153.results.toList) (b153_22 C)
noncomputable def t153l153_1111010 (C : CallF) (x : Nat → Value) (h : Heap) : Option (Ex × Env × Heap) :=
  thenV (some ((x 12), h)) fun y111 h =>
  thenV (pu (bin Tryd.prog .lss 3 y111 (.int .i64 64)) h) fun y112 h =>
  (match y112 with
  | .bool true =>
  thenV (pu (idxA 8 1 (x 11) (.int .i64 0)) h) fun y115 h =>
  thenV (ld1 y115 h) fun y116 h =>
  thenV (pu (idxA 8 1 (x 11) (.int .i64 4)) h) fun y117 h =>
  thenV (ld1 y117 h) fun y118 h =>
  thenV (some (y116, h)) fun y13 h =>
  thenV (some (y118, h)) fun y14 h =>
  thenV (some (y14, h)) fun y119 h =>
  thenV (pu (idxA 8 1 (x 11) (.int .i64 5)) h) fun y120 h =>
  thenV (ld1 y120 h) fun y121 h =>
  thenV (pu (bin Tryd.prog .and 174 y119 y121) h) fun y122 h =>
  thenV (some (y14, h)) fun y123 h =>
  thenV (pu (unA .xor y123) h) fun y124 h =>
  thenV (pu (idxA 8 1 (x 11) (.int .i64 6)) h) fun y125 h =>
  thenV (ld1 y125 h) fun y126 h =>
  thenV (pu (bin Tryd.prog .and 174 y124 y126) h) fun y127 h =>
  thenV (pu (bin Tryd.prog .xor 174 y122 y127) h) fun y128 h =>
  thenV (some (y128, h)) fun y15 h =>
  thenV (some (y13, h)) fun y129 h =>
  thenV (pu (idxA 8 1 (x 11) (.int .i64 1)) h) fun y130 h =>
  thenV (ld1 y130 h) fun y131 h =>
  thenV (pu (bin Tryd.prog .and 174 y129 y131) h) fun y132 h =>
  thenV (some (y13, h)) fun y133 h =>
  thenV (pu (idxA 8 1 (x 11) (.int .i64 2)) h) fun y134 h =>
  thenV (ld1 y134 h) fun y135 h =>
  thenV (pu (bin Tryd.prog .and 174 y133 y135) h) fun y136 h =>
  thenV (pu (bin Tryd.prog .xor 174 y132 y136) h) fun y137 h =>
  thenV (pu (idxA 8 1 (x 11) (.int .i64 1)) h) fun y138 h =>
  thenV (ld1 y138 h) fun y139 h =>
  thenV (pu (idxA 8 1 (x 11) (.int .i64 2)) h) fun y140 h =>
  thenV (ld1 y140 h) fun y141 h =>
  thenV (pu (bin Tryd.prog .and 174 y139 y141) h) fun y142 h =>
  thenV (pu (bin Tryd.prog .xor 174 y137 y142) h) fun y143 h =>
  thenV (some (y143, h)) fun y16 h =>
  let g31_0 := h
  thenV (pu (idxA 8 1 (x 11) (.int .i64 7)) g31_0) fun y144 g31_1 =>
  thenV (ld1 y144 g31_1) fun y145 g31_2 =>
  thenV (some (y14, g31_2)) fun y146 g31_3 =>
  thenV (C 161 [y146, (.int .u64 6)] g31_3) fun y147 g31_4 =>
  thenV (some (y14, g31_4)) fun y148 g31_5 =>
  thenV (C 161 [y148, (.int .u64 11)] g31_5) fun y149 g31_6 =>
  thenV (pu (bin Tryd.prog .xor 174 y147 y149) g31_6) fun y150 g31_7 =>
  thenV (some (y14, g31_7)) fun y151 g31_8 =>
  thenV (C 161 [y151, (.int .u64 25)] g31_8) fun y152 g31_9 =>
  thenV (pu (bin Tryd.prog .xor 174 y150 y152) g31_9) fun y153 g31_10 =>
  thenV (pu (bin Tryd.prog .add 174 y145 y153) g31_10) fun y154 g31_11 =>
  thenV (some (y15, g31_11)) fun y155 g31_12 =>
  thenV (pu (bin Tryd.prog .add 174 y154 y155) g31_12) fun y156 g31_13 =>
  thenV (some ((x 12), g31_13)) fun y157 g31_14 =>
  thenV (pu (idxA 64 1 (x 4) y157) g31_14) fun y158 g31_15 =>
  thenV (ld1 y158 g31_15) fun y159 g31_16 =>
  thenV (pu (bin Tryd.prog .add 174 y156 y159) g31_16) fun y160 g31_17 =>
  thenV (some ((x 12), g31_17)) fun y161 g31_18 =>
  thenV (pu (idxA 64 1 (x 7) y161) g31_18) fun y162 g31_19 =>
  thenV (ld1 y162 g31_19) fun y163 g31_20 =>
  thenV (pu (bin Tryd.prog .add 174 y160 y163) g31_20) fun y164 g31_21 =>
  thenV (some (y164, g31_21)) fun y17 g31_22 =>
  (match (chkR true (ld1 y144 g31_4) y145 && (chkR true (ld1 y144 g31_6) y145 && (chkR true (ld1 y144 g31_9) y145 && (chkR true (ld1 y158 g31_3) y159 && (chkR true (ld1 y158 g31_5) y159 && (chkR true (ld1 y158 g31_8) y159 && (chkR true (ld1 y162 g31_3) y163 && (chkR true (ld1 y162 g31_5) y163 && (chkR true (ld1 y162 g31_8) y163 && true))))))))) with
  | true =>
  let h := g31_22
  thenV (some (y13, h)) fun y165 h =>
  thenV (C 161 [y165, (.int .u64 2)] h) fun y166 h =>
  thenV (some (y13, h)) fun y167 h =>
  thenV (C 161 [y167, (.int .u64 13)] h) fun y168 h =>
  thenV (pu (bin Tryd.prog .xor 174 y166 y168) h) fun y169 h =>
  thenV (some (y13, h)) fun y170 h =>
  thenV (C 161 [y170, (.int .u64 22)] h) fun y171 h =>
  thenV (pu (bin Tryd.prog .xor 174 y169 y171) h) fun y172 h =>
  thenV (some (y16, h)) fun y173 h =>
  thenV (pu (bin Tryd.prog .add 174 y172 y173) h) fun y174 h =>
  thenV (some (y174, h)) fun y18 h =>
  thenV (some (y17, h)) fun y175 h =>
  thenV (some (y18, h)) fun y176 h =>
  thenV (pu (bin Tryd.prog .add 174 y175 y176) h) fun y177 h =>
  thenV (some (y13, h)) fun y178 h =>
  thenV (pu (idxA 8 1 (x 11) (.int .i64 1)) h) fun y179 h =>
  thenV (ld1 y179 h) fun y180 h =>
  thenV (pu (idxA 8 1 (x 11) (.int .i64 2)) h) fun y181 h =>
  thenV (ld1 y181 h) fun y182 h =>
  thenV (pu (idxA 8 1 (x 11) (.int .i64 3)) h) fun y183 h =>
  thenV (ld1 y183 h) fun y184 h =>
  thenV (some (y17, h)) fun y185 h =>
  thenV (pu (bin Tryd.prog .add 174 y184 y185) h) fun y186 h =>
  thenV (some (y14, h)) fun y187 h =>
  thenV (pu (idxA 8 1 (x 11) (.int .i64 5)) h) fun y188 h =>
  thenV (ld1 y188 h) fun y189 h =>
  thenV (pu (idxA 8 1 (x 11) (.int .i64 6)) h) fun y190 h =>
  thenV (ld1 y190 h) fun y191 h =>
  thenV (pu (bldR (List.replicate 8 (.int .u32 0)) [(0, 1, y177), (1, 1, y178), (2, 1, y180), (3, 1, y182), (4, 1, y186), (5, 1, y187), (6, 1, y189), (7, 1, y191)]) h) fun y192 h =>
  thenV (stN 8 (x 11) y192 h) fun _ h =>
  thenV (some ((x 12), h)) fun y113 h =>
  thenV (pu (bin Tryd.prog .add 3 y113 (.int .i64 1)) h) fun y114 h =>
  thenV (some (y114, h)) fun y12 h =>
  some (.normal, (mkF 206 (up x [(12, y12), (13, y13), (14, y14), (15, y15), (16, y16), (17, y17), (18, y18), (111, y111), (112, y112), (113, y113), (114, y114), (115, y115), (116, y116), (117, y117), (118, y118), (119, y119), (120, y120), (121, y121), (122, y122), (123, y123), (124, y124), (125, y125), (126, y126), (127, y127), (128, y128), (129, y129), (130, y130), (131, y131), (132, y132), (133, y133), (134, y134), (135, y135), (136, y136), (137, y137), (138, y138), (139, y139), (140, y140), (141, y141), (142, y142), (143, y143), (144, y144), (145, y145), (146, y146), (147, y147), (148, y148), (149, y149), (150, y150), (151, y151), (152, y152), (153, y153), (154, y154), (155, y155), (156, y156), (157, y157), (158, y158), (159, y159), (160, y160), (161, y161), (162, y162), (163, y163), (164, y164), (165, y165), (166, y166), (167, y167), (168, y168), (169, y169), (170, y170), (171, y171), (172, y172), (173, y173), (174, y174), (175, y175), (176, y176), (177, y177), (178, y178), (179, y179), (180, y180), (181, y181), (182, y182), (183, y183), (184, y184), (185, y185), (186, y186), (187, y187), (188, y188), (189, y189), (190, y190), (191, y191), (192, y192)])), h)
  | false => none)
  | .bool false =>
  some (.exit 2, (mkF 206 (up x [(111, y111), (112, y112)])), h)
  | _ => none)
noncomputable def t153k153_20 (_C : CallF) (x : Nat → Value) (h : Heap) : Out :=
  thenV (ldN 8 (x 3) h) fun y205 h =>
  thenV (stN 8 (x 6) y205 h) fun _ h =>
  resultsA Tryd.prog Tryd.f153.results.toList (mkF 206 (up x [(205, y205)])) h
noncomputable def t153l153_11111010 (_C : CallF) (x : Nat → Value) (h : Heap) : Option (Ex × Env × Heap) :=
  thenV (some ((x 19), h)) fun y193 h =>
  thenV (pu (bin Tryd.prog .lss 3 y193 (.int .i64 8)) h) fun y194 h =>
  (match y194 with
  | .bool true =>
  thenV (some ((x 19), h)) fun y197 h =>
  thenV (pu (idxA 8 1 (x 3) y197) h) fun y198 h =>
  thenV (ld1 y198 h) fun y199 h =>
  thenV (some ((x 19), h)) fun y200 h =>
  thenV (pu (idxA 8 1 (x 11) y200) h) fun y201 h =>
  thenV (ld1 y201 h) fun y202 h =>
  thenV (pu (bin Tryd.prog .add 174 y199 y202) h) fun y203 h =>
  thenV (pu (idxA 8 1 (x 3) y197) h) fun y204 h =>
  thenV (stN 1 y204 y203 h) fun _ h =>
  thenV (some ((x 19), h)) fun y195 h =>
  thenV (pu (bin Tryd.prog .add 3 y195 (.int .i64 1)) h) fun y196 h =>
  thenV (some (y196, h)) fun y19 h =>
  some (.normal, (mkF 206 (up x [(19, y19), (193, y193), (194, y194), (195, y195), (196, y196), (197, y197), (198, y198), (199, y199), (200, y200), (201, y201), (202, y202), (203, y203), (204, y204)])), h)
  | .bool false =>
  some (.exit 4, (mkF 206 (up x [(193, y193), (194, y194)])), h)
  | _ => none)
theorem t153_eq (C : CallF) (x0 x1 x2 : Value) (h : Heap) : bodyK Tryd.prog C Tryd.f153 [x0, x1, x2] h = t153 C x0 x1 x2 h :=
  (bodyB_eq Tryd.prog C Tryd.f153 [x0, x1, x2] h (by kernel_rfl)).trans (by kernel_rfl)
theorem t153k153_2_eq (C : CallF) (x : Nat → Value) (h : Heap) : k153_2 C (mkF 206 x) h = t153k153_2 C x h :=
  link_partF (b := (partOf Tryd.f153 [1, 1, 1])) (kE := (resultsA Tryd.prog Tryd.f153.results.toList)) (rE := (resultsA Tryd.prog Tryd.f153.results.toList)) (xE := (fun _ _ _ => none)) (T := t153k153_2 C) (fun x h => by kernel_rfl) x h
theorem t153l153_11010_eq (C : CallF) (x : Nat → Value) (h : Heap) : codeA Tryd.prog C (partOf Tryd.f153 [1, 1, 0, 1, 0, 0]) (mkF 206 x) h = t153l153_11010 C x h :=
  link_roundF (T := t153l153_11010 C) (fun x h => by kernel_rfl) x h
theorem t153k153_6_eq (C : CallF) (x : Nat → Value) (h : Heap) : k153_6 C (mkF 206 x) h = t153k153_6 C x h :=
  link_partF (b := (partOf Tryd.f153 [1, 1, 1, 1, 1])) (kE := (resultsA Tryd.prog Tryd.f153.results.toList)) (rE := (resultsA Tryd.prog Tryd.f153.results.toList)) (xE := (fun _ _ _ => none)) (T := t153k153_6 C) (fun x h => by kernel_rfl) x h
theorem t153l153_1111010_eq (C : CallF) (x : Nat → Value) (h : Heap) : codeA Tryd.prog C (partOf Tryd.f153 [1, 1, 1, 1, 0, 1, 0, 0]) (mkF 206 x) h = t153l153_1111010 C x h :=
  link_roundF (T := t153l153_1111010 C) (fun x h => by kernel_rfl) x h
theorem t153k153_20_eq (C : CallF) (x : Nat → Value) (h : Heap) : k153_20 C (mkF 206 x) h = t153k153_20 C x h :=
  link_partF (b := (partOf Tryd.f153 [1, 1, 1, 1, 1, 1])) (kE := (resultsA Tryd.prog Tryd.f153.results.toList)) (rE := (resultsA Tryd.prog Tryd.f153.results.toList)) (xE := (fun _ _ _ => none)) (T := t153k153_20 C) (fun x h => by kernel_rfl) x h
theorem t153l153_11111010_eq (C : CallF) (x : Nat → Value) (h : Heap) : codeA Tryd.prog C (partOf Tryd.f153 [1, 1, 1, 1, 1, 0, 1, 0, 0]) (mkF 206 x) h = t153l153_11111010 C x h :=
  link_roundF (T := t153l153_11111010 C) (fun x h => by kernel_rfl) x h

/-- stolon/stolonref02.turn -/
noncomputable def t161 (_C : CallF) (x0 x1 : Value) (h : Heap) : Out :=
  thenV (some ((.int .u32 0), h)) fun _y4 h =>
  thenV (some (x0, h)) fun y5 h =>
  thenV (some (x1, h)) fun y6 h =>
  thenV (pu (bin Tryd.prog .shr 174 y5 y6) h) fun y7 h =>
  thenV (some (x0, h)) fun y8 h =>
  thenV (some (x1, h)) fun y9 h =>
  thenV (pu (bin Tryd.prog .sub 111 (.int .u64 32) y9) h) fun y10 h =>
  thenV (pu (bin Tryd.prog .shl 174 y8 y10) h) fun y11 h =>
  thenV (pu (bin Tryd.prog .or 174 y7 y11) h) fun y12 h =>
  thenV (some (y12, h)) fun y4_1 h =>
  some (y4_1, h)
theorem t161_eq (C : CallF) (x0 x1 : Value) (h : Heap) : bodyK Tryd.prog C Tryd.f161 [x0, x1] h = t161 C x0 x1 h :=
  (bodyB_eq Tryd.prog C Tryd.f161 [x0, x1] h (by kernel_rfl)).trans (by kernel_rfl)

/-- stolon/stolonref06.leaf -/
noncomputable def t72 (C : CallF) (x0 : Value) (h : Heap) : Out :=
  thenV (box x0 h) fun y1 h =>
  thenV (newC (List.replicate 32 (.int .u8 0)) h) fun y2 h =>
  thenV (ldN 39 y1 h) fun y6 h =>
  thenV (C 46 [y6] h) fun y7 h =>
  thenV (some (y7, h)) fun y5 h =>
  thenV (pu (extractA y5 0) h) fun y8 h =>
  thenV (pu (extractA y5 1) h) fun y9 h =>
  thenV (some (y8, h)) fun y3 h =>
  thenV (some (y9, h)) fun y4 h =>
  thenV (bslR 1 (.int .u8 0) 1 [(0, (.int .u8 0))] h) fun y10 h =>
  thenV (some (y3, h)) fun y11 h =>
  thenV (appendA 1 1 y10 y11 h) fun y12 h =>
  thenV (C 108 [y12] h) fun y13 h =>
  thenV (stN 32 y2 y13 h) fun _ h =>
  resultsA Tryd.prog Tryd.f72.results.toList (mkF 14 (up (bs [x0]) [(1, y1), (2, y2), (3, y3), (4, y4), (5, y5), (6, y6), (7, y7), (8, y8), (9, y9), (10, y10), (11, y11), (12, y12), (13, y13)])) h
theorem t72_eq (C : CallF) (x0 : Value) (h : Heap) : bodyK Tryd.prog C Tryd.f72 [x0] h = t72 C x0 h :=
  (bodyB_eq Tryd.prog C Tryd.f72 [x0] h (by kernel_rfl)).trans (by kernel_rfl)

/-- stolon/stolonref06.node -/
noncomputable def t110 (C : CallF) (x0 x1 : Value) (h : Heap) : Out :=
  thenV (box x0 h) fun y2 h =>
  thenV (box x1 h) fun y3 h =>
  thenV (newC (List.replicate 32 (.int .u8 0)) h) fun y4 h =>
  thenV (pu (sliceArr 32 1 y2 none none none) h) fun y6 h =>
  thenV (bslR 1 (.int .u8 0) 1 [(0, (.int .u8 1))] h) fun y5 h =>
  thenV (appendA 1 1 y5 y6 h) fun y7 h =>
  thenV (pu (sliceArr 32 1 y3 none none none) h) fun y8 h =>
  thenV (appendA 1 1 y7 y8 h) fun y9 h =>
  thenV (C 108 [y9] h) fun y10 h =>
  thenV (stN 32 y4 y10 h) fun _ h =>
  resultsA Tryd.prog Tryd.f110.results.toList (mkF 11 (up (bs [x0, x1]) [(2, y2), (3, y3), (4, y4), (5, y5), (6, y6), (7, y7), (8, y8), (9, y9), (10, y10)])) h
theorem t110_eq (C : CallF) (x0 x1 : Value) (h : Heap) : bodyK Tryd.prog C Tryd.f110 [x0, x1] h = t110 C x0 x1 h :=
  (bodyB_eq Tryd.prog C Tryd.f110 [x0, x1] h (by kernel_rfl)).trans (by kernel_rfl)

end Go.Proofs.YtdnahgfgoajmcaaDoor

namespace Go.Proofs.YtdnahgfgoajmcaaDoor
open Go Go.Abs
noncomputable def k109_2 (C : CallF) (e : Env) (h : Heap) : Out := codeK Tryd.prog C (partOf Tryd.f109 [1, 1, 1]) e h (resultsA Tryd.prog Tryd.f109.results.toList) (resultsA Tryd.prog Tryd.f109.results.toList) (fun _ _ _ => none)
noncomputable def b109_3 (C : CallF) (i : Nat) (e : Env) (h : Heap) : Out := if i = 0 then (k109_2 C) e h else (fun _ _ _ => none) i e h
/-- stolon/stolonref06.half -/
noncomputable def t109 (C : CallF) (x0 : Value) (h : Heap) : Out :=
  thenV (some ((.int .i64 0), h)) fun y2 h =>
  thenV (some ((.int .i64 1), h)) fun y3 h =>
  endL (iter (codeA Tryd.prog C (partOf Tryd.f109 [1, 1, 0, 0, 0])) rounds (mkF 11 (up (bs [x0]) [(2, y2), (3, y3)])) h) (resultsA Tryd.prog Tryd.f109.results.toList) (b109_3 C)
noncomputable def t109k109_2 (_C : CallF) (x : Nat → Value) (h : Heap) : Out :=
  thenV (some ((x 3), h)) fun y10 h =>
  thenV (some (y10, h)) fun y2 h =>
  some (y2, h)
noncomputable def t109l109_1100 (_C : CallF) (x : Nat → Value) (h : Heap) : Option (Ex × Env × Heap) :=
  thenV (some ((x 3), h)) fun y4 h =>
  thenV (pu (bin Tryd.prog .mul 3 (.int .i64 2) y4) h) fun y5 h =>
  thenV (some ((x 0), h)) fun y6 h =>
  thenV (pu (bin Tryd.prog .lss 3 y5 y6) h) fun y7 h =>
  (match y7 with
  | .bool true =>
  thenV (some ((x 3), h)) fun y8 h =>
  thenV (pu (bin Tryd.prog .mul 3 y8 (.int .i64 2)) h) fun y9 h =>
  thenV (some (y9, h)) fun y3 h =>
  some (.normal, (mkF 11 (up x [(3, y3), (4, y4), (5, y5), (6, y6), (7, y7), (8, y8), (9, y9)])), h)
  | .bool false =>
  some (.exit 0, (mkF 11 (up x [(4, y4), (5, y5), (6, y6), (7, y7)])), h)
  | _ => none)
theorem t109_eq (C : CallF) (x0 : Value) (h : Heap) : bodyK Tryd.prog C Tryd.f109 [x0] h = t109 C x0 h :=
  (bodyB_eq Tryd.prog C Tryd.f109 [x0] h (by kernel_rfl)).trans (by kernel_rfl)
theorem t109k109_2_eq (C : CallF) (x : Nat → Value) (h : Heap) : k109_2 C (mkF 11 x) h = t109k109_2 C x h :=
  link_partF (b := (partOf Tryd.f109 [1, 1, 1])) (kE := (resultsA Tryd.prog Tryd.f109.results.toList)) (rE := (resultsA Tryd.prog Tryd.f109.results.toList)) (xE := (fun _ _ _ => none)) (T := t109k109_2 C) (fun x h => by kernel_rfl) x h
theorem t109l109_1100_eq (C : CallF) (x : Nat → Value) (h : Heap) : codeA Tryd.prog C (partOf Tryd.f109 [1, 1, 0, 0, 0]) (mkF 11 x) h = t109l109_1100 C x h :=
  link_roundF (T := t109l109_1100 C) (fun x h => by kernel_rfl) x h

end Go.Proofs.YtdnahgfgoajmcaaDoor

