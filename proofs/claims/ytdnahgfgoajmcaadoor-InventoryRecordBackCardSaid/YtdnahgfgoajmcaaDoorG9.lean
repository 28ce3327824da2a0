/-
  Printed by a program: the texts of some of the seat's functions, each linked to the program.
  Conditions: none.
  Printed by a program: the texts of some of the seat's functions, each linked to the program.
  Conditions: none.
-/
import Derived.Test.YtdnahgfgoajmcaaDoorG8
import Derived.Test.YtdnahgfgoajmcaaDoorProg
import Derived.KernelRfl
namespace Go.Proofs.YtdnahgfgoajmcaaDoor
open Go Go.Abs
/-- stolon/inventory.Valid -/
noncomputable def t42 (C : CallF) (x0 : Value) (h : Heap) : Out :=
  thenV (box x0 h) fun y1 h =>
  thenV (some ((.bool false), h)) fun _y2 h =>
  thenV (pu (addP y1 0) h) fun y3 h =>
  thenV (ld1 y3 h) fun y4 h =>
  thenV (pu (bin Tryd.prog .eql 56 y4 (.int .u8 1)) h) fun y6 h =>
  thenV (some (y6, h)) fun y5 h =>
  (match y5 with
  | .bool true =>
  thenV (ldN 39 y1 h) fun y7 h =>
  thenV (pu (addP y1 0) h) fun y8 h =>
  thenV (ld1 y8 h) fun y9 h =>
  thenV (pu (addP y1 33) h) fun y10 h =>
  thenV (ld1 y10 h) fun y11 h =>
  thenV (pu (addP y1 34) h) fun y12 h =>
  thenV (ld1 y12 h) fun y13 h =>
  thenV (pu (bldR [(.int .u8 0), (.int .u8 0), (.int .u8 0), (.int .u8 0), (.int .u8 0), (.int .u8 0), (.int .u8 0), (.int .u8 0), (.int .u8 0), (.int .u8 0), (.int .u8 0), (.int .u8 0), (.int .u8 0), (.int .u8 0), (.int .u8 0), (.int .u8 0), (.int .u8 0), (.int .u8 0), (.int .u8 0), (.int .u8 0), (.int .u8 0), (.int .u8 0), (.int .u8 0), (.int .u8 0), (.int .u8 0), (.int .u8 0), (.int .u8 0), (.int .u8 0), (.int .u8 0), (.int .u8 0), (.int .u8 0), (.int .u8 0), (.int .u8 0), (.int .i64 0), (.int .u64 0), (.int .u64 0), (.bool false), (.int .i64 0), (.int .i64 0)] [(0, 1, y9), (33, 1, y11), (34, 1, y13)]) h) fun y14 h =>
  thenV (pu (bin Tryd.prog .eql 58 y7 y14) h) fun y15 h =>
  thenV (some (y15, h)) fun y16 h =>
  thenV (guardK (bOf y16 == some true) (ldN 39 y1 h) h) fun y17 h =>
  thenV (guardK (bOf y16 == some true) (C 86 [y17] h) h) fun y18 h =>
  thenV (match y16 with | .bool t => some (if t then y18 else (.bool false), h) | _ => none) fun y19 h =>
  thenV (some (y19, h)) fun y2_1 h =>
  some (y2_1, h)
  | .bool false =>
  thenV (pu (bin Tryd.prog .eql 56 y4 (.int .u8 2)) h) fun y21 h =>
  thenV (some (y21, h)) fun y20 h =>
  (match y20 with
  | .bool true =>
  thenV (ldN 39 y1 h) fun y22 h =>
  thenV (pu (addP y1 0) h) fun y23 h =>
  thenV (ld1 y23 h) fun y24 h =>
  thenV (pu (addP y1 1) h) fun y25 h =>
  thenV (ldN 32 y25 h) fun y26 h =>
  thenV (pu (bldR [(.int .u8 0), (.int .u8 0), (.int .u8 0), (.int .u8 0), (.int .u8 0), (.int .u8 0), (.int .u8 0), (.int .u8 0), (.int .u8 0), (.int .u8 0), (.int .u8 0), (.int .u8 0), (.int .u8 0), (.int .u8 0), (.int .u8 0), (.int .u8 0), (.int .u8 0), (.int .u8 0), (.int .u8 0), (.int .u8 0), (.int .u8 0), (.int .u8 0), (.int .u8 0), (.int .u8 0), (.int .u8 0), (.int .u8 0), (.int .u8 0), (.int .u8 0), (.int .u8 0), (.int .u8 0), (.int .u8 0), (.int .u8 0), (.int .u8 0), (.int .i64 0), (.int .u64 0), (.int .u64 0), (.bool false), (.int .i64 0), (.int .i64 0)] [(0, 1, y24), (1, 32, y26)]) h) fun y27 h =>
  thenV (pu (bin Tryd.prog .eql 58 y22 y27) h) fun y28 h =>
  thenV (some (y28, h)) fun y2_1 h =>
  some (y2_1, h)
  | .bool false =>
  thenV (pu (bin Tryd.prog .eql 56 y4 (.int .u8 3)) h) fun y30 h =>
  thenV (some (y30, h)) fun y29 h =>
  (match y29 with
  | .bool true =>
  thenV (ldN 39 y1 h) fun y31 h =>
  thenV (C 86 [y31] h) fun y32 h =>
  thenV (some (y32, h)) fun y33 h =>
  thenV (guardK (bOf y33 == some true) (pu (addP y1 35) h) h) fun y34 h =>
  thenV (guardK (bOf y33 == some true) (ld1 y34 h) h) fun y35 h =>
  thenV (guardK (bOf y33 == some true) (pu (bin Tryd.prog .geq 32 y35 (.int .u64 1)) h) h) fun y36 h =>
  thenV (match y33 with | .bool t => some (if t then y36 else (.bool false), h) | _ => none) fun y37 h =>
  thenV (some (y37, h)) fun y38 h =>
  thenV (guardK (bOf y38 == some true) (pu (addP y1 37) h) h) fun y39 h =>
  thenV (guardK (bOf y38 == some true) (ld1 y39 h) h) fun y40 h =>
  thenV (guardK (bOf y38 == some true) (pu (bin Tryd.prog .leq 3 (.int .i64 1) y40) h) h) fun y41 h =>
  thenV (match y38 with | .bool t => some (if t then y41 else (.bool false), h) | _ => none) fun y42 h =>
  thenV (some (y42, h)) fun y43 h =>
  thenV (guardK (bOf y43 == some true) (pu (addP y1 37) h) h) fun y44 h =>
  thenV (guardK (bOf y43 == some true) (ld1 y44 h) h) fun y45 h =>
  thenV (guardK (bOf y43 == some true) (pu (addP y1 38) h) h) fun y46 h =>
  thenV (guardK (bOf y43 == some true) (ld1 y46 h) h) fun y47 h =>
  thenV (guardK (bOf y43 == some true) (pu (bin Tryd.prog .leq 3 y45 y47) h) h) fun y48 h =>
  thenV (match y43 with | .bool t => some (if t then y48 else (.bool false), h) | _ => none) fun y49 h =>
  thenV (some (y49, h)) fun y50 h =>
  thenV (guardK (bOf y50 == some true) (pu (addP y1 38) h) h) fun y51 h =>
  thenV (guardK (bOf y50 == some true) (ld1 y51 h) h) fun y52 h =>
  thenV (guardK (bOf y50 == some true) (pu (bin Tryd.prog .leq 3 y52 (.int .i64 255)) h) h) fun y53 h =>
  thenV (match y50 with | .bool t => some (if t then y53 else (.bool false), h) | _ => none) fun y54 h =>
  thenV (some (y54, h)) fun y2_1 h =>
  some (y2_1, h)
  | .bool false =>
  thenV (some ((.bool false), h)) fun y2_1 h =>
  some (y2_1, h)
  | _ => none)
  | _ => none)
  | _ => none)
theorem t42_eq (C : CallF) (x0 : Value) (h : Heap) : bodyK Tryd.prog C Tryd.f42 [x0] h = t42 C x0 h :=
  (bodyB_eq Tryd.prog C Tryd.f42 [x0] h (by kernel_rfl)).trans (by kernel_rfl)

/-- stolon/inventory.EncodeRecord -/
noncomputable def t43 (C : CallF) (x0 : Value) (h : Heap) : Out :=
  thenV (box x0 h) fun y1 h =>
  thenV (some ((.slice none 0 0), h)) fun _y2 h =>
  thenV (some ((.int .i64 0), h)) fun _y3 h =>
  thenV (ldN 39 y1 h) fun y7 h =>
  thenV (C 42 [y7] h) fun y8 h =>
  thenV (pu (unA .not y8) h) fun y9 h =>
  (match y9 with
  | .bool true =>
  thenV (some ((.slice none 0 0), h)) fun y2_1 h =>
  thenV (some ((.int .i64 2), h)) fun y3_1 h =>
  some (.tuple #[y2_1, y3_1], h)
  | .bool false =>
  thenV (C 87 [(.int .i64 53)] h) fun y10 h =>
  thenV (some (y10, h)) fun y4 h =>
  thenV (some (y4, h)) fun y11 h =>
  thenV (pu (addP y1 0) h) fun y12 h =>
  thenV (ld1 y12 h) fun y13 h =>
  thenV (C 88 [y11, y13] h) fun _y14 h =>
  thenV (some (y4, h)) fun y15 h =>
  thenV (pu (addP y1 1) h) fun y16 h =>
  thenV (pu (sliceArr 32 1 y16 none none none) h) fun y17 h =>
  thenV (C 89 [y15, y17] h) fun _y18 h =>
  thenV (some (y4, h)) fun y19 h =>
  thenV (pu (addP y1 33) h) fun y20 h =>
  thenV (ld1 y20 h) fun y21 h =>
  thenV (cvI .u8 y21 h) fun y22 h =>
  thenV (C 88 [y19, y22] h) fun _y23 h =>
  thenV (some (y4, h)) fun y24 h =>
  thenV (pu (addP y1 34) h) fun y25 h =>
  thenV (ld1 y25 h) fun y26 h =>
  thenV (C 90 [y24, y26] h) fun _y27 h =>
  thenV (some (y4, h)) fun y28 h =>
  thenV (pu (addP y1 35) h) fun y29 h =>
  thenV (ld1 y29 h) fun y30 h =>
  thenV (C 90 [y28, y30] h) fun _y31 h =>
  thenV (some (y4, h)) fun y32 h =>
  thenV (C 88 [y32, (.int .u8 0)] h) fun _y33 h =>
  thenV (some (y4, h)) fun y34 h =>
  thenV (pu (addP y1 37) h) fun y35 h =>
  thenV (ld1 y35 h) fun y36 h =>
  thenV (cvI .u8 y36 h) fun y37 h =>
  thenV (C 88 [y34, y37] h) fun _y38 h =>
  thenV (some (y4, h)) fun y39 h =>
  thenV (pu (addP y1 38) h) fun y40 h =>
  thenV (ld1 y40 h) fun y41 h =>
  thenV (cvI .u8 y41 h) fun y42 h =>
  thenV (C 88 [y39, y42] h) fun _y43 h =>
  thenV (some (y4, h)) fun y45 h =>
  thenV (C 91 [y45] h) fun y46 h =>
  thenV (some (y46, h)) fun y44 h =>
  thenV (pu (extractA y44 0) h) fun y47 h =>
  thenV (pu (extractA y44 1) h) fun y48 h =>
  thenV (some (y47, h)) fun y5 h =>
  thenV (some (y48, h)) fun y6 h =>
  thenV (pu (addP y1 36) h) fun y49 h =>
  thenV (ld1 y49 h) fun y50 h =>
  (match y50 with
  | .bool true =>
  thenV (some (y5, h)) fun y51 h =>
  thenV (some (y5, h)) fun y52 h =>
  thenV (pu (lenL y52) h) fun y53 h =>
  thenV (pu (bin Tryd.prog .sub 3 y53 (.int .i64 3)) h) fun y54 h =>
  thenV (pu (idxS 1 y51 y54) h) fun y55 h =>
  thenV (stN 1 y55 (.int .u8 1) h) fun _ h =>
  thenV (some (y5, h)) fun y56 h =>
  thenV (some (y6, h)) fun y57 h =>
  thenV (some (y56, h)) fun y2_1 h =>
  thenV (some (y57, h)) fun y3_1 h =>
  some (.tuple #[y2_1, y3_1], h)
  | .bool false =>
  thenV (some (y5, h)) fun y56 h =>
  thenV (some (y6, h)) fun y57 h =>
  thenV (some (y56, h)) fun y2_1 h =>
  thenV (some (y57, h)) fun y3_1 h =>
  some (.tuple #[y2_1, y3_1], h)
  | _ => none)
  | _ => none)
theorem t43_eq (C : CallF) (x0 : Value) (h : Heap) : bodyK Tryd.prog C Tryd.f43 [x0] h = t43 C x0 h :=
  (bodyB_eq Tryd.prog C Tryd.f43 [x0] h (by kernel_rfl)).trans (by kernel_rfl)

/-- stolon/inventory.DecodeRecord -/
noncomputable def t44 (C : CallF) (x0 : Value) (h : Heap) : Out :=
  thenV (newC [(.int .u8 0), (.int .u8 0), (.int .u8 0), (.int .u8 0), (.int .u8 0), (.int .u8 0), (.int .u8 0), (.int .u8 0), (.int .u8 0), (.int .u8 0), (.int .u8 0), (.int .u8 0), (.int .u8 0), (.int .u8 0), (.int .u8 0), (.int .u8 0), (.int .u8 0), (.int .u8 0), (.int .u8 0), (.int .u8 0), (.int .u8 0), (.int .u8 0), (.int .u8 0), (.int .u8 0), (.int .u8 0), (.int .u8 0), (.int .u8 0), (.int .u8 0), (.int .u8 0), (.int .u8 0), (.int .u8 0), (.int .u8 0), (.int .u8 0), (.int .i64 0), (.int .u64 0), (.int .u64 0), (.bool false), (.int .i64 0), (.int .i64 0)] h) fun y2 h =>
  thenV (some ((.int .i64 0), h)) fun _y3 h =>
  thenV (some (x0, h)) fun y8 h =>
  thenV (pu (lenL y8) h) fun y9 h =>
  thenV (pu (bin Tryd.prog .lss 3 y9 (.int .i64 53)) h) fun y10 h =>
  thenV (some (y10, h)) fun y7 h =>
  (match y7 with
  | .bool true =>
  thenV (pu (bldR [(.int .u8 0), (.int .u8 0), (.int .u8 0), (.int .u8 0), (.int .u8 0), (.int .u8 0), (.int .u8 0), (.int .u8 0), (.int .u8 0), (.int .u8 0), (.int .u8 0), (.int .u8 0), (.int .u8 0), (.int .u8 0), (.int .u8 0), (.int .u8 0), (.int .u8 0), (.int .u8 0), (.int .u8 0), (.int .u8 0), (.int .u8 0), (.int .u8 0), (.int .u8 0), (.int .u8 0), (.int .u8 0), (.int .u8 0), (.int .u8 0), (.int .u8 0), (.int .u8 0), (.int .u8 0), (.int .u8 0), (.int .u8 0), (.int .u8 0), (.int .i64 0), (.int .u64 0), (.int .u64 0), (.bool false), (.int .i64 0), (.int .i64 0)] []) h) fun y11 h =>
  thenV (stN 39 y2 y11 h) fun _ h =>
  thenV (some ((.int .i64 4), h)) fun y3_1 h =>
  resultsA Tryd.prog Tryd.f44.results.toList (mkF 58 (up (bs [x0]) [(2, y2), (3, y3_1), (7, y7), (8, y8), (9, y9), (10, y10), (11, y11)])) h
  | .bool false =>
  thenV (some (x0, h)) fun y13 h =>
  thenV (pu (lenL y13) h) fun y14 h =>
  thenV (pu (bin Tryd.prog .gtr 3 y14 (.int .i64 53)) h) fun y15 h =>
  thenV (some (y15, h)) fun y12 h =>
  (match y12 with
  | .bool true =>
  thenV (pu (bldR [(.int .u8 0), (.int .u8 0), (.int .u8 0), (.int .u8 0), (.int .u8 0), (.int .u8 0), (.int .u8 0), (.int .u8 0), (.int .u8 0), (.int .u8 0), (.int .u8 0), (.int .u8 0), (.int .u8 0), (.int .u8 0), (.int .u8 0), (.int .u8 0), (.int .u8 0), (.int .u8 0), (.int .u8 0), (.int .u8 0), (.int .u8 0), (.int .u8 0), (.int .u8 0), (.int .u8 0), (.int .u8 0), (.int .u8 0), (.int .u8 0), (.int .u8 0), (.int .u8 0), (.int .u8 0), (.int .u8 0), (.int .u8 0), (.int .u8 0), (.int .i64 0), (.int .u64 0), (.int .u64 0), (.bool false), (.int .i64 0), (.int .i64 0)] []) h) fun y16 h =>
  thenV (stN 39 y2 y16 h) fun _ h =>
  thenV (some ((.int .i64 3), h)) fun y3_1 h =>
  resultsA Tryd.prog Tryd.f44.results.toList (mkF 58 (up (bs [x0]) [(2, y2), (3, y3_1), (7, y7), (8, y8), (9, y9), (10, y10), (12, y12), (13, y13), (14, y14), (15, y15), (16, y16)])) h
  | .bool false =>
  thenV (some (x0, h)) fun y17 h =>
  thenV (C 92 [y17] h) fun y18 h =>
  thenV (some (y18, h)) fun y4 h =>
  thenV (some (y4, h)) fun y19 h =>
  thenV (C 93 [y19] h) fun y20 h =>
  thenV (pu (bldR [(.int .u8 0), (.int .u8 0), (.int .u8 0), (.int .u8 0), (.int .u8 0), (.int .u8 0), (.int .u8 0), (.int .u8 0), (.int .u8 0), (.int .u8 0), (.int .u8 0), (.int .u8 0), (.int .u8 0), (.int .u8 0), (.int .u8 0), (.int .u8 0), (.int .u8 0), (.int .u8 0), (.int .u8 0), (.int .u8 0), (.int .u8 0), (.int .u8 0), (.int .u8 0), (.int .u8 0), (.int .u8 0), (.int .u8 0), (.int .u8 0), (.int .u8 0), (.int .u8 0), (.int .u8 0), (.int .u8 0), (.int .u8 0), (.int .u8 0), (.int .i64 0), (.int .u64 0), (.int .u64 0), (.bool false), (.int .i64 0), (.int .i64 0)] [(0, 1, y20)]) h) fun y21 h =>
  thenV (newC [(.int .u8 0), (.int .u8 0), (.int .u8 0), (.int .u8 0), (.int .u8 0), (.int .u8 0), (.int .u8 0), (.int .u8 0), (.int .u8 0), (.int .u8 0), (.int .u8 0), (.int .u8 0), (.int .u8 0), (.int .u8 0), (.int .u8 0), (.int .u8 0), (.int .u8 0), (.int .u8 0), (.int .u8 0), (.int .u8 0), (.int .u8 0), (.int .u8 0), (.int .u8 0), (.int .u8 0), (.int .u8 0), (.int .u8 0), (.int .u8 0), (.int .u8 0), (.int .u8 0), (.int .u8 0), (.int .u8 0), (.int .u8 0), (.int .u8 0), (.int .i64 0), (.int .u64 0), (.int .u64 0), (.bool false), (.int .i64 0), (.int .i64 0)] h) fun y5 h =>
  thenV (stN 39 y5 y21 h) fun _ h =>
  thenV (pu (addP y5 1) h) fun y22 h =>
  thenV (pu (sliceArr 32 1 y22 none none none) h) fun y23 h =>
  thenV (some (y4, h)) fun y24 h =>
  thenV (C 94 [y24, (.int .i64 32)] h) fun y25 h =>
  thenV (copyA 1 y23 y25 h) fun y26 h =>
  thenV (some (y4, h)) fun y27 h =>
  thenV (C 93 [y27] h) fun y28 h =>
  thenV (cvI .i64 y28 h) fun y29 h =>
  thenV (some (y4, h)) fun y30 h =>
  thenV (C 95 [y30] h) fun y31 h =>
  thenV (some (y4, h)) fun y32 h =>
  thenV (C 95 [y32] h) fun y33 h =>
  thenV (pu (addP y5 33) h) fun y34 h =>
  thenV (stN 1 y34 y29 h) fun _ h =>
  thenV (pu (addP y5 34) h) fun y35 h =>
  thenV (stN 1 y35 y31 h) fun _ h =>
  thenV (pu (addP y5 35) h) fun y36 h =>
  thenV (stN 1 y36 y33 h) fun _ h =>
  thenV (some (y4, h)) fun y37 h =>
  thenV (C 93 [y37] h) fun y38 h =>
  thenV (some (y38, h)) fun y6 h =>
  thenV (some (y6, h)) fun y39 h =>
  thenV (pu (bin Tryd.prog .eql 5 y39 (.int .u8 1)) h) fun y40 h =>
  thenV (some (y4, h)) fun y41 h =>
  thenV (C 93 [y41] h) fun y42 h =>
  thenV (cvI .i64 y42 h) fun y43 h =>
  thenV (some (y4, h)) fun y44 h =>
  thenV (C 93 [y44] h) fun y45 h =>
  thenV (cvI .i64 y45 h) fun y46 h =>
  thenV (pu (addP y5 36) h) fun y47 h =>
  thenV (stN 1 y47 y40 h) fun _ h =>
  thenV (pu (addP y5 37) h) fun y48 h =>
  thenV (stN 1 y48 y43 h) fun _ h =>
  thenV (pu (addP y5 38) h) fun y49 h =>
  thenV (stN 1 y49 y46 h) fun _ h =>
  thenV (some (y6, h)) fun y50 h =>
  thenV (pu (bin Tryd.prog .gtr 5 y50 (.int .u8 1)) h) fun y51 h =>
  (match y51 with
  | .bool true =>
  thenV (pu (bldR [(.int .u8 0), (.int .u8 0), (.int .u8 0), (.int .u8 0), (.int .u8 0), (.int .u8 0), (.int .u8 0), (.int .u8 0), (.int .u8 0), (.int .u8 0), (.int .u8 0), (.int .u8 0), (.int .u8 0), (.int .u8 0), (.int .u8 0), (.int .u8 0), (.int .u8 0), (.int .u8 0), (.int .u8 0), (.int .u8 0), (.int .u8 0), (.int .u8 0), (.int .u8 0), (.int .u8 0), (.int .u8 0), (.int .u8 0), (.int .u8 0), (.int .u8 0), (.int .u8 0), (.int .u8 0), (.int .u8 0), (.int .u8 0), (.int .u8 0), (.int .i64 0), (.int .u64 0), (.int .u64 0), (.bool false), (.int .i64 0), (.int .i64 0)] []) h) fun y52 h =>
  thenV (stN 39 y2 y52 h) fun _ h =>
  thenV (some ((.int .i64 5), h)) fun y3_1 h =>
  resultsA Tryd.prog Tryd.f44.results.toList (mkF 58 (up (bs [x0]) [(2, y2), (3, y3_1), (4, y4), (5, y5), (6, y6), (7, y7), (8, y8), (9, y9), (10, y10), (12, y12), (13, y13), (14, y14), (15, y15), (17, y17), (18, y18), (19, y19), (20, y20), (21, y21), (22, y22), (23, y23), (24, y24), (25, y25), (26, y26), (27, y27), (28, y28), (29, y29), (30, y30), (31, y31), (32, y32), (33, y33), (34, y34), (35, y35), (36, y36), (37, y37), (38, y38), (39, y39), (40, y40), (41, y41), (42, y42), (43, y43), (44, y44), (45, y45), (46, y46), (47, y47), (48, y48), (49, y49), (50, y50), (51, y51), (52, y52)])) h
  | .bool false =>
  thenV (ldN 39 y5 h) fun y53 h =>
  thenV (C 42 [y53] h) fun y54 h =>
  thenV (pu (unA .not y54) h) fun y55 h =>
  (match y55 with
  | .bool true =>
  thenV (pu (bldR [(.int .u8 0), (.int .u8 0), (.int .u8 0), (.int .u8 0), (.int .u8 0), (.int .u8 0), (.int .u8 0), (.int .u8 0), (.int .u8 0), (.int .u8 0), (.int .u8 0), (.int .u8 0), (.int .u8 0), (.int .u8 0), (.int .u8 0), (.int .u8 0), (.int .u8 0), (.int .u8 0), (.int .u8 0), (.int .u8 0), (.int .u8 0), (.int .u8 0), (.int .u8 0), (.int .u8 0), (.int .u8 0), (.int .u8 0), (.int .u8 0), (.int .u8 0), (.int .u8 0), (.int .u8 0), (.int .u8 0), (.int .u8 0), (.int .u8 0), (.int .i64 0), (.int .u64 0), (.int .u64 0), (.bool false), (.int .i64 0), (.int .i64 0)] []) h) fun y56 h =>
  thenV (stN 39 y2 y56 h) fun _ h =>
  thenV (some ((.int .i64 2), h)) fun y3_1 h =>
  resultsA Tryd.prog Tryd.f44.results.toList (mkF 58 (up (bs [x0]) [(2, y2), (3, y3_1), (4, y4), (5, y5), (6, y6), (7, y7), (8, y8), (9, y9), (10, y10), (12, y12), (13, y13), (14, y14), (15, y15), (17, y17), (18, y18), (19, y19), (20, y20), (21, y21), (22, y22), (23, y23), (24, y24), (25, y25), (26, y26), (27, y27), (28, y28), (29, y29), (30, y30), (31, y31), (32, y32), (33, y33), (34, y34), (35, y35), (36, y36), (37, y37), (38, y38), (39, y39), (40, y40), (41, y41), (42, y42), (43, y43), (44, y44), (45, y45), (46, y46), (47, y47), (48, y48), (49, y49), (50, y50), (51, y51), (53, y53), (54, y54), (55, y55), (56, y56)])) h
  | .bool false =>
  thenV (ldN 39 y5 h) fun y57 h =>
  thenV (stN 39 y2 y57 h) fun _ h =>
  thenV (some ((.int .i64 0), h)) fun y3_1 h =>
  resultsA Tryd.prog Tryd.f44.results.toList (mkF 58 (up (bs [x0]) [(2, y2), (3, y3_1), (4, y4), (5, y5), (6, y6), (7, y7), (8, y8), (9, y9), (10, y10), (12, y12), (13, y13), (14, y14), (15, y15), (17, y17), (18, y18), (19, y19), (20, y20), (21, y21), (22, y22), (23, y23), (24, y24), (25, y25), (26, y26), (27, y27), (28, y28), (29, y29), (30, y30), (31, y31), (32, y32), (33, y33), (34, y34), (35, y35), (36, y36), (37, y37), (38, y38), (39, y39), (40, y40), (41, y41), (42, y42), (43, y43), (44, y44), (45, y45), (46, y46), (47, y47), (48, y48), (49, y49), (50, y50), (51, y51), (53, y53), (54, y54), (55, y55), (57, y57)])) h
  | _ => none)
  | _ => none)
  | _ => none)
  | _ => none)
theorem t44_eq (C : CallF) (x0 : Value) (h : Heap) : bodyK Tryd.prog C Tryd.f44 [x0] h = t44 C x0 h :=
  (bodyB_eq Tryd.prog C Tryd.f44 [x0] h (by kernel_rfl)).trans (by kernel_rfl)

/-- slices.Clone[[]byte,byte] -/
noncomputable def t53 (_C : CallF) (x0 : Value) (h : Heap) : Out :=
  thenV (some ((.slice none 0 0), h)) fun _y2 h =>
  thenV (some (x0, h)) fun y3 h =>
  thenV (pu (bin Tryd.prog .eql 23 y3 (.slice none 0 0)) h) fun y4 h =>
  (match y4 with
  | .bool true =>
  thenV (some ((.slice none 0 0), h)) fun y2_1 h =>
  some (y2_1, h)
  | .bool false =>
  thenV (bslR 1 (.int .u8 0) 0 [] h) fun y5 h =>
  thenV (some (x0, h)) fun y6 h =>
  thenV (appendA 1 1 y5 y6 h) fun y7 h =>
  thenV (some (y7, h)) fun y2_1 h =>
  some (y2_1, h)
  | _ => none)
theorem t53_eq (C : CallF) (x0 : Value) (h : Heap) : bodyK Tryd.prog C Tryd.f53 [x0] h = t53 C x0 h :=
  (bodyB_eq Tryd.prog C Tryd.f53 [x0] h (by kernel_rfl)).trans (by kernel_rfl)

/-- stolon/inventory.holder -/
noncomputable def t86 (_C : CallF) (x0 : Value) (h : Heap) : Out :=
  thenV (box x0 h) fun y1 h =>
  thenV (some ((.bool false), h)) fun _y2 h =>
  thenV (pu (addP y1 33) h) fun y3 h =>
  thenV (ld1 y3 h) fun y4 h =>
  thenV (pu (bin Tryd.prog .geq 3 y4 (.int .i64 0)) h) fun y5 h =>
  thenV (some (y5, h)) fun y6 h =>
  thenV (guardK (bOf y6 == some true) (pu (addP y1 33) h) h) fun y7 h =>
  thenV (guardK (bOf y6 == some true) (ld1 y7 h) h) fun y8 h =>
  thenV (guardK (bOf y6 == some true) (pu (bin Tryd.prog .lss 3 y8 (.int .i64 16)) h) h) fun y9 h =>
  thenV (match y6 with | .bool t => some (if t then y9 else (.bool false), h) | _ => none) fun y10 h =>
  thenV (some (y10, h)) fun y11 h =>
  thenV (guardK (bOf y11 == some true) (pu (addP y1 34) h) h) fun y12 h =>
  thenV (guardK (bOf y11 == some true) (ld1 y12 h) h) fun y13 h =>
  thenV (guardK (bOf y11 == some true) (pu (bin Tryd.prog .geq 32 y13 (.int .u64 1)) h) h) fun y14 h =>
  thenV (match y11 with | .bool t => some (if t then y14 else (.bool false), h) | _ => none) fun y15 h =>
  thenV (some (y15, h)) fun y2_1 h =>
  some (y2_1, h)
theorem t86_eq (C : CallF) (x0 : Value) (h : Heap) : bodyK Tryd.prog C Tryd.f86 [x0] h = t86 C x0 h :=
  (bodyB_eq Tryd.prog C Tryd.f86 [x0] h (by kernel_rfl)).trans (by kernel_rfl)

/-- stolon/digest.NewWriter -/
noncomputable def t87 (_C : CallF) (x0 : Value) (h : Heap) : Out :=
  thenV (some ((.pointer none), h)) fun _y2 h =>
  thenV (some (x0, h)) fun y3 h =>
  thenV (pu (minmax true (.int .i64 0) [y3]) h) fun y4 h =>
  thenV (pu (bldR [(.int .i64 0), (.bool false), (.slice none 0 0)] [(0, 1, y4)]) h) fun y5 h =>
  thenV (box y5 h) fun y6 h =>
  thenV (some (y6, h)) fun y2_1 h =>
  some (y2_1, h)
theorem t87_eq (C : CallF) (x0 : Value) (h : Heap) : bodyK Tryd.prog C Tryd.f87 [x0] h = t87 C x0 h :=
  (bodyB_eq Tryd.prog C Tryd.f87 [x0] h (by kernel_rfl)).trans (by kernel_rfl)

/-- (*stolon/digest.Writer).U8 -/
noncomputable def t88 (C : CallF) (x0 x1 : Value) (h : Heap) : Out :=
  thenV (some (x0, h)) fun y4 h =>
  thenV (some (x1, h)) fun y5 h =>
  thenV (cvI .u64 y5 h) fun y6 h =>
  thenV (C 125 [y4, y6, (.int .i64 1)] h) fun _y7 h =>
  some (.tuple #[], h)
theorem t88_eq (C : CallF) (x0 x1 : Value) (h : Heap) : bodyK Tryd.prog C Tryd.f88 [x0, x1] h = t88 C x0 x1 h :=
  (bodyB_eq Tryd.prog C Tryd.f88 [x0, x1] h (by kernel_rfl)).trans (by kernel_rfl)

/-- (*stolon/digest.Writer).Raw -/
noncomputable def t89 (C : CallF) (x0 x1 : Value) (h : Heap) : Out :=
  thenV (some (x0, h)) fun y4 h =>
  thenV (some (x1, h)) fun y5 h =>
  thenV (pu (lenL y5) h) fun y6 h =>
  thenV (C 126 [y4, y6] h) fun y7 h =>
  (match y7 with
  | .bool true =>
  thenV (some (x0, h)) fun y8 h =>
  thenV (some (x0, h)) fun y9 h =>
  thenV (pu (nilCheckA y9) h) fun y10 h =>
  thenV (pu (addP y10 2) h) fun y11 h =>
  thenV (ld1 y11 h) fun y12 h =>
  thenV (some (x1, h)) fun y13 h =>
  thenV (appendA 1 1 y12 y13 h) fun y14 h =>
  thenV (pu (nilCheckA y8) h) fun y15 h =>
  thenV (pu (addP y15 2) h) fun y16 h =>
  thenV (stN 1 y16 y14 h) fun _ h =>
  some (.tuple #[], h)
  | .bool false =>
  some (.tuple #[], h)
  | _ => none)
theorem t89_eq (C : CallF) (x0 x1 : Value) (h : Heap) : bodyK Tryd.prog C Tryd.f89 [x0, x1] h = t89 C x0 x1 h :=
  (bodyB_eq Tryd.prog C Tryd.f89 [x0, x1] h (by kernel_rfl)).trans (by kernel_rfl)

/-- (*stolon/digest.Writer).U64 -/
noncomputable def t90 (C : CallF) (x0 x1 : Value) (h : Heap) : Out :=
  thenV (some (x0, h)) fun y4 h =>
  thenV (some (x1, h)) fun y5 h =>
  thenV (C 125 [y4, y5, (.int .i64 8)] h) fun _y6 h =>
  some (.tuple #[], h)
theorem t90_eq (C : CallF) (x0 x1 : Value) (h : Heap) : bodyK Tryd.prog C Tryd.f90 [x0, x1] h = t90 C x0 x1 h :=
  (bodyB_eq Tryd.prog C Tryd.f90 [x0, x1] h (by kernel_rfl)).trans (by kernel_rfl)

/-- (*stolon/digest.Writer).Bytes -/
noncomputable def t91 (C : CallF) (x0 : Value) (h : Heap) : Out :=
  thenV (some ((.slice none 0 0), h)) fun _y2 h =>
  thenV (some ((.int .i64 0), h)) fun _y3 h =>
  thenV (some (x0, h)) fun y5 h =>
  thenV (pu (bin Tryd.prog .eql 126 y5 (.pointer none)) h) fun y6 h =>
  thenV (some (y6, h)) fun y4 h =>
  (match y4 with
  | .bool true =>
  thenV (some ((.slice none 0 0), h)) fun y2_1 h =>
  thenV (some ((.int .i64 1), h)) fun y3_1 h =>
  some (.tuple #[y2_1, y3_1], h)
  | .bool false =>
  thenV (some (x0, h)) fun y8 h =>
  thenV (pu (nilCheckA y8) h) fun y9 h =>
  thenV (pu (addP y9 1) h) fun y10 h =>
  thenV (ld1 y10 h) fun y11 h =>
  thenV (some (y11, h)) fun y7 h =>
  (match y7 with
  | .bool true =>
  thenV (some ((.slice none 0 0), h)) fun y2_1 h =>
  thenV (some ((.int .i64 3), h)) fun y3_1 h =>
  some (.tuple #[y2_1, y3_1], h)
  | .bool false =>
  thenV (some (x0, h)) fun y12 h =>
  thenV (pu (nilCheckA y12) h) fun y13 h =>
  thenV (pu (addP y13 2) h) fun y14 h =>
  thenV (ld1 y14 h) fun y15 h =>
  thenV (C 53 [y15] h) fun y16 h =>
  thenV (some (y16, h)) fun y2_1 h =>
  thenV (some ((.int .i64 0), h)) fun y3_1 h =>
  some (.tuple #[y2_1, y3_1], h)
  | _ => none)
  | _ => none)
theorem t91_eq (C : CallF) (x0 : Value) (h : Heap) : bodyK Tryd.prog C Tryd.f91 [x0] h = t91 C x0 h :=
  (bodyB_eq Tryd.prog C Tryd.f91 [x0] h (by kernel_rfl)).trans (by kernel_rfl)

/-- stolon/digest.NewReader -/
noncomputable def t92 (C : CallF) (x0 : Value) (h : Heap) : Out :=
  thenV (some ((.pointer none), h)) fun _y2 h =>
  thenV (some (x0, h)) fun y3 h =>
  thenV (C 53 [y3] h) fun y4 h =>
  thenV (pu (bldR [(.slice none 0 0), (.int .i64 0)] [(0, 1, y4)]) h) fun y5 h =>
  thenV (box y5 h) fun y6 h =>
  thenV (some (y6, h)) fun y2_1 h =>
  some (y2_1, h)
theorem t92_eq (C : CallF) (x0 : Value) (h : Heap) : bodyK Tryd.prog C Tryd.f92 [x0] h = t92 C x0 h :=
  (bodyB_eq Tryd.prog C Tryd.f92 [x0] h (by kernel_rfl)).trans (by kernel_rfl)

/-- (*stolon/digest.Reader).U8 -/
noncomputable def t93 (C : CallF) (x0 : Value) (h : Heap) : Out :=
  thenV (some ((.int .u8 0), h)) fun _y2 h =>
  thenV (some (x0, h)) fun y3 h =>
  thenV (C 127 [y3, (.int .i64 1)] h) fun y4 h =>
  thenV (cvI .u8 y4 h) fun y5 h =>
  thenV (some (y5, h)) fun y2_1 h =>
  some (y2_1, h)
theorem t93_eq (C : CallF) (x0 : Value) (h : Heap) : bodyK Tryd.prog C Tryd.f93 [x0] h = t93 C x0 h :=
  (bodyB_eq Tryd.prog C Tryd.f93 [x0] h (by kernel_rfl)).trans (by kernel_rfl)

/-- (*stolon/digest.Reader).Raw -/
noncomputable def t94 (C : CallF) (x0 x1 : Value) (h : Heap) : Out :=
  thenV (some ((.slice none 0 0), h)) fun _y4 h =>
  thenV (some (x0, h)) fun y5 h =>
  thenV (some (x1, h)) fun y6 h =>
  thenV (C 128 [y5, y6] h) fun y7 h =>
  thenV (C 53 [y7] h) fun y8 h =>
  thenV (some (y8, h)) fun y4_1 h =>
  some (y4_1, h)
theorem t94_eq (C : CallF) (x0 x1 : Value) (h : Heap) : bodyK Tryd.prog C Tryd.f94 [x0, x1] h = t94 C x0 x1 h :=
  (bodyB_eq Tryd.prog C Tryd.f94 [x0, x1] h (by kernel_rfl)).trans (by kernel_rfl)

/-- (*stolon/digest.Reader).U64 -/
noncomputable def t95 (C : CallF) (x0 : Value) (h : Heap) : Out :=
  thenV (some ((.int .u64 0), h)) fun _y2 h =>
  thenV (some (x0, h)) fun y3 h =>
  thenV (C 127 [y3, (.int .i64 8)] h) fun y4 h =>
  thenV (some (y4, h)) fun y2_1 h =>
  some (y2_1, h)
theorem t95_eq (C : CallF) (x0 : Value) (h : Heap) : bodyK Tryd.prog C Tryd.f95 [x0] h = t95 C x0 h :=
  (bodyB_eq Tryd.prog C Tryd.f95 [x0] h (by kernel_rfl)).trans (by kernel_rfl)

noncomputable def b125_2 (_C : CallF) (i : Nat) (e : Env) (h : Heap) : Out := if i = 0 then (resultsA Tryd.prog Tryd.f125.results.toList) e h else (fun _ _ _ => none) i e h
/-- (*stolon/digest.Writer).number -/
noncomputable def t125 (C : CallF) (x0 x1 x2 : Value) (h : Heap) : Out :=
  thenV (some (x0, h)) fun y7 h =>
  thenV (some (x2, h)) fun y8 h =>
  thenV (C 126 [y7, y8] h) fun y9 h =>
  (match y9 with
  | .bool true =>
  thenV (some (x2, h)) fun y10 h =>
  thenV (pu (bin Tryd.prog .sub 3 y10 (.int .i64 1)) h) fun y11 h =>
  thenV (some (y11, h)) fun y6 h =>
  endL (iter (codeA Tryd.prog C (partOf Tryd.f125 [1, 0, 1, 0, 0])) rounds (mkF 30 (up (bs [x0, x1, x2]) [(6, y6), (7, y7), (8, y8), (9, y9), (10, y10), (11, y11)])) h) (resultsA Tryd.prog Tryd.f125.results.toList) (b125_2 C)
  | .bool false =>
  some (.tuple #[], h)
  | _ => none)
noncomputable def t125l125_1010 (_C : CallF) (x : Nat → Value) (h : Heap) : Option (Ex × Env × Heap) :=
  thenV (some ((x 6), h)) fun y12 h =>
  thenV (pu (bin Tryd.prog .geq 3 y12 (.int .i64 0)) h) fun y13 h =>
  (match y13 with
  | .bool true =>
  thenV (some ((x 0), h)) fun y16 h =>
  thenV (some ((x 0), h)) fun y17 h =>
  thenV (pu (nilCheckA y17) h) fun y18 h =>
  thenV (pu (addP y18 2) h) fun y19 h =>
  thenV (ld1 y19 h) fun y20 h =>
  thenV (some ((x 1), h)) fun y21 h =>
  thenV (some ((x 6), h)) fun y22 h =>
  thenV (pu (bin Tryd.prog .mul 3 (.int .i64 8) y22) h) fun y23 h =>
  thenV (pu (bin Tryd.prog .shr 32 y21 y23) h) fun y24 h =>
  thenV (cvI .u8 y24 h) fun y25 h =>
  thenV (bslR 1 (.int .u8 0) 1 [(0, y25)] h) fun y26 h =>
  thenV (appendA 1 1 y20 y26 h) fun y27 h =>
  thenV (pu (nilCheckA y16) h) fun y28 h =>
  thenV (pu (addP y28 2) h) fun y29 h =>
  thenV (stN 1 y29 y27 h) fun _ h =>
  thenV (some ((x 6), h)) fun y14 h =>
  thenV (pu (bin Tryd.prog .sub 3 y14 (.int .i64 1)) h) fun y15 h =>
  thenV (some (y15, h)) fun y6 h =>
  some (.normal, (mkF 30 (up x [(6, y6), (12, y12), (13, y13), (14, y14), (15, y15), (16, y16), (17, y17), (18, y18), (19, y19), (20, y20), (21, y21), (22, y22), (23, y23), (24, y24), (25, y25), (26, y26), (27, y27), (28, y28), (29, y29)])), h)
  | .bool false =>
  some (.exit 0, (mkF 30 (up x [(12, y12), (13, y13)])), h)
  | _ => none)
theorem t125_eq (C : CallF) (x0 x1 x2 : Value) (h : Heap) : bodyK Tryd.prog C Tryd.f125 [x0, x1, x2] h = t125 C x0 x1 x2 h :=
  (bodyB_eq Tryd.prog C Tryd.f125 [x0, x1, x2] h (by kernel_rfl)).trans (by kernel_rfl)
theorem t125l125_1010_eq (C : CallF) (x : Nat → Value) (h : Heap) : codeA Tryd.prog C (partOf Tryd.f125 [1, 0, 1, 0, 0]) (mkF 30 x) h = t125l125_1010 C x h :=
  link_roundF (T := t125l125_1010 C) (fun x h => by kernel_rfl) x h

/-- (*stolon/digest.Writer).room -/
noncomputable def t126 (_C : CallF) (x0 x1 : Value) (h : Heap) : Out :=
  thenV (some ((.bool false), h)) fun _y4 h =>
  thenV (some (x0, h)) fun y5 h =>
  thenV (pu (bin Tryd.prog .eql 126 y5 (.pointer none)) h) fun y6 h =>
  thenV (some (y6, h)) fun y7 h =>
  thenV (guardK (bOf y7 == some false) (some (x0, h)) h) fun y8 h =>
  thenV (guardK (bOf y7 == some false) (pu (nilCheckA y8) h) h) fun y9 h =>
  thenV (guardK (bOf y7 == some false) (pu (addP y9 1) h) h) fun y10 h =>
  thenV (guardK (bOf y7 == some false) (ld1 y10 h) h) fun y11 h =>
  thenV (match y7 with | .bool t => some (if t then (.bool true) else y11, h) | _ => none) fun y12 h =>
  (match y12 with
  | .bool true =>
  thenV (some ((.bool false), h)) fun y4_1 h =>
  some (y4_1, h)
  | .bool false =>
  thenV (some (x0, h)) fun y13 h =>
  thenV (some (x1, h)) fun y14 h =>
  thenV (some (x0, h)) fun y15 h =>
  thenV (pu (nilCheckA y15) h) fun y16 h =>
  thenV (pu (addP y16 0) h) fun y17 h =>
  thenV (ld1 y17 h) fun y18 h =>
  thenV (some (x0, h)) fun y19 h =>
  thenV (pu (nilCheckA y19) h) fun y20 h =>
  thenV (pu (addP y20 2) h) fun y21 h =>
  thenV (ld1 y21 h) fun y22 h =>
  thenV (pu (lenL y22) h) fun y23 h =>
  thenV (pu (bin Tryd.prog .sub 3 y18 y23) h) fun y24 h =>
  thenV (pu (bin Tryd.prog .gtr 3 y14 y24) h) fun y25 h =>
  thenV (pu (nilCheckA y13) h) fun y26 h =>
  thenV (pu (addP y26 1) h) fun y27 h =>
  thenV (stN 1 y27 y25 h) fun _ h =>
  thenV (some (x0, h)) fun y28 h =>
  thenV (pu (nilCheckA y28) h) fun y29 h =>
  thenV (pu (addP y29 1) h) fun y30 h =>
  thenV (ld1 y30 h) fun y31 h =>
  thenV (pu (unA .not y31) h) fun y32 h =>
  thenV (some (y32, h)) fun y4_1 h =>
  some (y4_1, h)
  | _ => none)
theorem t126_eq (C : CallF) (x0 x1 : Value) (h : Heap) : bodyK Tryd.prog C Tryd.f126 [x0, x1] h = t126 C x0 x1 h :=
  (bodyB_eq Tryd.prog C Tryd.f126 [x0, x1] h (by kernel_rfl)).trans (by kernel_rfl)

noncomputable def k127_2 (C : CallF) (e : Env) (h : Heap) : Out := codeK Tryd.prog C (partOf Tryd.f127 [1, 1, 1]) e h (resultsA Tryd.prog Tryd.f127.results.toList) (resultsA Tryd.prog Tryd.f127.results.toList) (fun _ _ _ => none)
noncomputable def b127_4 (C : CallF) (i : Nat) (e : Env) (h : Heap) : Out := if i = 0 then (k127_2 C) e h else (fun _ _ _ => none) i e h
/-- (*stolon/digest.Reader).number -/
noncomputable def t127 (C : CallF) (x0 x1 : Value) (h : Heap) : Out :=
  thenV (some ((.int .u64 0), h)) fun y4 h =>
  thenV (some ((.int .u64 0), h)) fun y5 h =>
  thenV (some (x0, h)) fun y8 h =>
  thenV (some (x1, h)) fun y9 h =>
  thenV (C 128 [y8, y9] h) fun y10 h =>
  thenV (pu (lenL y10) h) fun y11 h =>
  thenV (some ((.int .i64 0), h)) fun y12 h =>
  endL (iter (codeA Tryd.prog C (partOf Tryd.f127 [1, 1, 0, 1, 0, 0])) rounds (mkF 23 (up (bs [x0, x1]) [(4, y4), (5, y5), (8, y8), (9, y9), (10, y10), (11, y11), (12, y12)])) h) (resultsA Tryd.prog Tryd.f127.results.toList) (b127_4 C)
noncomputable def t127k127_2 (_C : CallF) (x : Nat → Value) (h : Heap) : Out :=
  thenV (some ((x 5), h)) fun y22 h =>
  thenV (some (y22, h)) fun y4 h =>
  some (y4, h)
noncomputable def t127l127_11010 (_C : CallF) (x : Nat → Value) (h : Heap) : Option (Ex × Env × Heap) :=
  thenV (pu (bin Tryd.prog .lss 3 (x 12) (x 11)) h) fun y13 h =>
  (match y13 with
  | .bool true =>
  thenV (pu (idxS 1 (x 10) (x 12)) h) fun y14 h =>
  thenV (ld1 y14 h) fun y15 h =>
  thenV (some (y15, h)) fun y7 h =>
  thenV (some ((x 5), h)) fun y16 h =>
  thenV (pu (bin Tryd.prog .shl 32 y16 (.int .u64 8)) h) fun y17 h =>
  thenV (some (y7, h)) fun y18 h =>
  thenV (cvI .u64 y18 h) fun y19 h =>
  thenV (pu (bin Tryd.prog .or 32 y17 y19) h) fun y20 h =>
  thenV (some (y20, h)) fun y5 h =>
  thenV (pu (bin Tryd.prog .add 3 (x 12) (.int .i64 1)) h) fun y21 h =>
  thenV (some (y21, h)) fun y12 h =>
  some (.normal, (mkF 23 (up x [(5, y5), (7, y7), (12, y12), (13, y13), (14, y14), (15, y15), (16, y16), (17, y17), (18, y18), (19, y19), (20, y20), (21, y21)])), h)
  | .bool false =>
  some (.exit 0, (mkF 23 (up x [(13, y13)])), h)
  | _ => none)
theorem t127_eq (C : CallF) (x0 x1 : Value) (h : Heap) : bodyK Tryd.prog C Tryd.f127 [x0, x1] h = t127 C x0 x1 h :=
  (bodyB_eq Tryd.prog C Tryd.f127 [x0, x1] h (by kernel_rfl)).trans (by kernel_rfl)
theorem t127k127_2_eq (C : CallF) (x : Nat → Value) (h : Heap) : k127_2 C (mkF 23 x) h = t127k127_2 C x h :=
  link_partF (b := (partOf Tryd.f127 [1, 1, 1])) (kE := (resultsA Tryd.prog Tryd.f127.results.toList)) (rE := (resultsA Tryd.prog Tryd.f127.results.toList)) (xE := (fun _ _ _ => none)) (T := t127k127_2 C) (fun x h => by kernel_rfl) x h
theorem t127l127_11010_eq (C : CallF) (x : Nat → Value) (h : Heap) : codeA Tryd.prog C (partOf Tryd.f127 [1, 1, 0, 1, 0, 0]) (mkF 23 x) h = t127l127_11010 C x h :=
  link_roundF (T := t127l127_11010 C) (fun x h => by kernel_rfl) x h

/-- (*stolon/digest.Reader).take -/
noncomputable def t128 (_C : CallF) (x0 x1 : Value) (h : Heap) : Out :=
  thenV (some ((.slice none 0 0), h)) fun _y4 h =>
  thenV (some (x0, h)) fun y6 h =>
  thenV (pu (bin Tryd.prog .eql 132 y6 (.pointer none)) h) fun y7 h =>
  thenV (some (y7, h)) fun y8 h =>
  thenV (guardK (bOf y8 == some false) (some (x0, h)) h) fun y9 h =>
  thenV (guardK (bOf y8 == some false) (pu (nilCheckA y9) h) h) fun y10 h =>
  thenV (guardK (bOf y8 == some false) (pu (addP y10 1) h) h) fun y11 h =>
  thenV (guardK (bOf y8 == some false) (ld1 y11 h) h) fun y12 h =>
  thenV (guardK (bOf y8 == some false) (pu (bin Tryd.prog .neq 26 y12 (.int .i64 0)) h) h) fun y13 h =>
  thenV (match y8 with | .bool t => some (if t then (.bool true) else y13, h) | _ => none) fun y14 h =>
  (match y14 with
  | .bool true =>
  thenV (some ((.slice none 0 0), h)) fun y4_1 h =>
  some (y4_1, h)
  | .bool false =>
  thenV (some (x1, h)) fun y16 h =>
  thenV (pu (bin Tryd.prog .lss 3 y16 (.int .i64 0)) h) fun y17 h =>
  thenV (some (y17, h)) fun y15 h =>
  (match y15 with
  | .bool true =>
  thenV (some (x0, h)) fun y18 h =>
  thenV (pu (nilCheckA y18) h) fun y19 h =>
  thenV (pu (addP y19 1) h) fun y20 h =>
  thenV (stN 1 y20 (.int .i64 2) h) fun _ h =>
  thenV (some ((.slice none 0 0), h)) fun y4_1 h =>
  some (y4_1, h)
  | .bool false =>
  thenV (some (x1, h)) fun y22 h =>
  thenV (some (x0, h)) fun y23 h =>
  thenV (pu (nilCheckA y23) h) fun y24 h =>
  thenV (pu (addP y24 0) h) fun y25 h =>
  thenV (ld1 y25 h) fun y26 h =>
  thenV (pu (lenL y26) h) fun y27 h =>
  thenV (pu (bin Tryd.prog .gtr 3 y22 y27) h) fun y28 h =>
  thenV (some (y28, h)) fun y21 h =>
  (match y21 with
  | .bool true =>
  thenV (some (x0, h)) fun y29 h =>
  thenV (pu (nilCheckA y29) h) fun y30 h =>
  thenV (pu (addP y30 1) h) fun y31 h =>
  thenV (stN 1 y31 (.int .i64 4) h) fun _ h =>
  thenV (some ((.slice none 0 0), h)) fun y4_1 h =>
  some (y4_1, h)
  | .bool false =>
  thenV (some (x0, h)) fun y32 h =>
  thenV (pu (nilCheckA y32) h) fun y33 h =>
  thenV (pu (addP y33 0) h) fun y34 h =>
  thenV (ld1 y34 h) fun y35 h =>
  thenV (some (x1, h)) fun y36 h =>
  thenV (pu (slR 1 y35 none (some y36) none) h) fun y37 h =>
  thenV (some (y37, h)) fun y5 h =>
  thenV (some (x0, h)) fun y38 h =>
  thenV (some (x0, h)) fun y39 h =>
  thenV (pu (nilCheckA y39) h) fun y40 h =>
  thenV (pu (addP y40 0) h) fun y41 h =>
  thenV (ld1 y41 h) fun y42 h =>
  thenV (some (x1, h)) fun y43 h =>
  thenV (pu (slR 1 y42 (some y43) none none) h) fun y44 h =>
  thenV (pu (nilCheckA y38) h) fun y45 h =>
  thenV (pu (addP y45 0) h) fun y46 h =>
  thenV (stN 1 y46 y44 h) fun _ h =>
  thenV (some (y5, h)) fun y47 h =>
  thenV (some (y47, h)) fun y4_1 h =>
  some (y4_1, h)
  | _ => none)
  | _ => none)
  | _ => none)
theorem t128_eq (C : CallF) (x0 x1 : Value) (h : Heap) : bodyK Tryd.prog C Tryd.f128 [x0, x1] h = t128 C x0 x1 h :=
  (bodyB_eq Tryd.prog C Tryd.f128 [x0, x1] h (by kernel_rfl)).trans (by kernel_rfl)

end Go.Proofs.YtdnahgfgoajmcaaDoor

namespace Go.Proofs.YtdnahgfgoajmcaaDoor
open Go Go.Abs
/-- stolon/stolonlaw06.InventoryRecordBack -/
noncomputable def t9 (C : CallF) (x0 x1 : Value) (h : Heap) : Out :=
  thenV (box x0 h) fun y2 h =>
  thenV (some ((.bool false), h)) fun _y4 h =>
  thenV (some (x1, h)) fun y13 h =>
  thenV (pu (lenL y13) h) fun y14 h =>
  thenV (pu (bin Tryd.prog .gtr 3 y14 (.int .i64 200)) h) fun y15 h =>
  (match y15 with
  | .bool true =>
  thenV (C 14 [] h) fun y16 h =>
  thenV (some (y16, h)) fun y4_1 h =>
  some (y4_1, h)
  | .bool false =>
  thenV (ldN 39 y2 h) fun y17 h =>
  thenV (C 42 [y17] h) fun y18 h =>
  (match y18 with
  | .bool true =>
  thenV (ldN 39 y2 h) fun y20 h =>
  thenV (C 43 [y20] h) fun y21 h =>
  thenV (some (y21, h)) fun y19 h =>
  thenV (pu (extractA y19 0) h) fun y22 h =>
  thenV (pu (extractA y19 1) h) fun y23 h =>
  thenV (some (y22, h)) fun y5 h =>
  thenV (some (y23, h)) fun y6 h =>
  thenV (some (y5, h)) fun y25 h =>
  thenV (C 44 [y25] h) fun y26 h =>
  thenV (some (y26, h)) fun y24 h =>
  thenV (pu (extractA y24 0) h) fun y27 h =>
  thenV (pu (extractA y24 1) h) fun y28 h =>
  thenV (newC [(.int .u8 0), (.int .u8 0), (.int .u8 0), (.int .u8 0), (.int .u8 0), (.int .u8 0), (.int .u8 0), (.int .u8 0), (.int .u8 0), (.int .u8 0), (.int .u8 0), (.int .u8 0), (.int .u8 0), (.int .u8 0), (.int .u8 0), (.int .u8 0), (.int .u8 0), (.int .u8 0), (.int .u8 0), (.int .u8 0), (.int .u8 0), (.int .u8 0), (.int .u8 0), (.int .u8 0), (.int .u8 0), (.int .u8 0), (.int .u8 0), (.int .u8 0), (.int .u8 0), (.int .u8 0), (.int .u8 0), (.int .u8 0), (.int .u8 0), (.int .i64 0), (.int .u64 0), (.int .u64 0), (.bool false), (.int .i64 0), (.int .i64 0)] h) fun y7 h =>
  thenV (stN 39 y7 y27 h) fun _ h =>
  thenV (some (y28, h)) fun y8 h =>
  thenV (some (y6, h)) fun y29 h =>
  thenV (pu (bin Tryd.prog .neq 26 y29 (.int .i64 0)) h) fun y30 h =>
  thenV (some (y30, h)) fun y31 h =>
  thenV (guardK (bOf y31 == some false) (some (y8, h)) h) fun y32 h =>
  thenV (guardK (bOf y31 == some false) (pu (bin Tryd.prog .neq 26 y32 (.int .i64 0)) h) h) fun y33 h =>
  thenV (match y31 with | .bool t => some (if t then (.bool true) else y33, h) | _ => none) fun y34 h =>
  thenV (some (y34, h)) fun y35 h =>
  thenV (guardK (bOf y35 == some false) (ldN 39 y7 h) h) fun y36 h =>
  thenV (guardK (bOf y35 == some false) (ldN 39 y2 h) h) fun y37 h =>
  thenV (guardK (bOf y35 == some false) (pu (bin Tryd.prog .neq 58 y36 y37) h) h) fun y38 h =>
  thenV (match y35 with | .bool t => some (if t then (.bool true) else y38, h) | _ => none) fun y39 h =>
  thenV (some (y39, h)) fun y40 h =>
  thenV (guardK (bOf y40 == some false) (some (y5, h)) h) fun y41 h =>
  thenV (guardK (bOf y40 == some false) (pu (lenL y41) h) h) fun y42 h =>
  thenV (guardK (bOf y40 == some false) (pu (bin Tryd.prog .neq 3 y42 (.int .i64 53)) h) h) fun y43 h =>
  thenV (match y40 with | .bool t => some (if t then (.bool true) else y43, h) | _ => none) fun y44 h =>
  (match y44 with
  | .bool true =>
  thenV (some ((.bool false), h)) fun y4_1 h =>
  some (y4_1, h)
  | .bool false =>
  thenV (bslR 1 (.int .u8 0) 0 [] h) fun y46 h =>
  thenV (some (x1, h)) fun y47 h =>
  thenV (appendA 1 1 y46 y47 h) fun y48 h =>
  thenV (C 44 [y48] h) fun y49 h =>
  thenV (some (y49, h)) fun y45 h =>
  thenV (pu (extractA y45 0) h) fun y50 h =>
  thenV (pu (extractA y45 1) h) fun y51 h =>
  thenV (newC [(.int .u8 0), (.int .u8 0), (.int .u8 0), (.int .u8 0), (.int .u8 0), (.int .u8 0), (.int .u8 0), (.int .u8 0), (.int .u8 0), (.int .u8 0), (.int .u8 0), (.int .u8 0), (.int .u8 0), (.int .u8 0), (.int .u8 0), (.int .u8 0), (.int .u8 0), (.int .u8 0), (.int .u8 0), (.int .u8 0), (.int .u8 0), (.int .u8 0), (.int .u8 0), (.int .u8 0), (.int .u8 0), (.int .u8 0), (.int .u8 0), (.int .u8 0), (.int .u8 0), (.int .u8 0), (.int .u8 0), (.int .u8 0), (.int .u8 0), (.int .i64 0), (.int .u64 0), (.int .u64 0), (.bool false), (.int .i64 0), (.int .i64 0)] h) fun y9 h =>
  thenV (stN 39 y9 y50 h) fun _ h =>
  thenV (some (y51, h)) fun y10 h =>
  thenV (some (y10, h)) fun y52 h =>
  thenV (pu (bin Tryd.prog .neq 26 y52 (.int .i64 0)) h) fun y53 h =>
  (match y53 with
  | .bool true =>
  thenV (C 14 [] h) fun y54 h =>
  thenV (some (y54, h)) fun y4_1 h =>
  some (y4_1, h)
  | .bool false =>
  thenV (ldN 39 y9 h) fun y56 h =>
  thenV (C 43 [y56] h) fun y57 h =>
  thenV (some (y57, h)) fun y55 h =>
  thenV (pu (extractA y55 0) h) fun y58 h =>
  thenV (pu (extractA y55 1) h) fun y59 h =>
  thenV (some (y58, h)) fun y11 h =>
  thenV (some (y59, h)) fun y12 h =>
  thenV (ldN 39 y9 h) fun y60 h =>
  thenV (C 42 [y60] h) fun y61 h =>
  thenV (some (y61, h)) fun y62 h =>
  thenV (guardK (bOf y62 == some true) (some (y12, h)) h) fun y63 h =>
  thenV (guardK (bOf y62 == some true) (pu (bin Tryd.prog .eql 26 y63 (.int .i64 0)) h) h) fun y64 h =>
  thenV (match y62 with | .bool t => some (if t then y64 else (.bool false), h) | _ => none) fun y65 h =>
  thenV (some (y65, h)) fun y66 h =>
  thenV (guardK (bOf y66 == some true) (some (y11, h)) h) fun y67 h =>
  thenV (guardK (bOf y66 == some true) (cvBS y67 h) h) fun y68 h =>
  thenV (guardK (bOf y66 == some true) (some (x1, h)) h) fun y69 h =>
  thenV (guardK (bOf y66 == some true) (cvBS y69 h) h) fun y70 h =>
  thenV (guardK (bOf y66 == some true) (pu (bin Tryd.prog .eql 9 y68 y70) h) h) fun y71 h =>
  thenV (match y66 with | .bool t => some (if t then y71 else (.bool false), h) | _ => none) fun y72 h =>
  thenV (some (y72, h)) fun y73 h =>
  thenV (guardK (bOf y73 == some true) (C 14 [] h) h) fun y74 h =>
  thenV (match y73 with | .bool t => some (if t then y74 else (.bool false), h) | _ => none) fun y75 h =>
  thenV (some (y75, h)) fun y4_1 h =>
  some (y4_1, h)
  | _ => none)
  | _ => none)
  | .bool false =>
  thenV (bslR 1 (.int .u8 0) 0 [] h) fun y46 h =>
  thenV (some (x1, h)) fun y47 h =>
  thenV (appendA 1 1 y46 y47 h) fun y48 h =>
  thenV (C 44 [y48] h) fun y49 h =>
  thenV (some (y49, h)) fun y45 h =>
  thenV (pu (extractA y45 0) h) fun y50 h =>
  thenV (pu (extractA y45 1) h) fun y51 h =>
  thenV (newC [(.int .u8 0), (.int .u8 0), (.int .u8 0), (.int .u8 0), (.int .u8 0), (.int .u8 0), (.int .u8 0), (.int .u8 0), (.int .u8 0), (.int .u8 0), (.int .u8 0), (.int .u8 0), (.int .u8 0), (.int .u8 0), (.int .u8 0), (.int .u8 0), (.int .u8 0), (.int .u8 0), (.int .u8 0), (.int .u8 0), (.int .u8 0), (.int .u8 0), (.int .u8 0), (.int .u8 0), (.int .u8 0), (.int .u8 0), (.int .u8 0), (.int .u8 0), (.int .u8 0), (.int .u8 0), (.int .u8 0), (.int .u8 0), (.int .u8 0), (.int .i64 0), (.int .u64 0), (.int .u64 0), (.bool false), (.int .i64 0), (.int .i64 0)] h) fun y9 h =>
  thenV (stN 39 y9 y50 h) fun _ h =>
  thenV (some (y51, h)) fun y10 h =>
  thenV (some (y10, h)) fun y52 h =>
  thenV (pu (bin Tryd.prog .neq 26 y52 (.int .i64 0)) h) fun y53 h =>
  (match y53 with
  | .bool true =>
  thenV (C 14 [] h) fun y54 h =>
  thenV (some (y54, h)) fun y4_1 h =>
  some (y4_1, h)
  | .bool false =>
  thenV (ldN 39 y9 h) fun y56 h =>
  thenV (C 43 [y56] h) fun y57 h =>
  thenV (some (y57, h)) fun y55 h =>
  thenV (pu (extractA y55 0) h) fun y58 h =>
  thenV (pu (extractA y55 1) h) fun y59 h =>
  thenV (some (y58, h)) fun y11 h =>
  thenV (some (y59, h)) fun y12 h =>
  thenV (ldN 39 y9 h) fun y60 h =>
  thenV (C 42 [y60] h) fun y61 h =>
  thenV (some (y61, h)) fun y62 h =>
  thenV (guardK (bOf y62 == some true) (some (y12, h)) h) fun y63 h =>
  thenV (guardK (bOf y62 == some true) (pu (bin Tryd.prog .eql 26 y63 (.int .i64 0)) h) h) fun y64 h =>
  thenV (match y62 with | .bool t => some (if t then y64 else (.bool false), h) | _ => none) fun y65 h =>
  thenV (some (y65, h)) fun y66 h =>
  thenV (guardK (bOf y66 == some true) (some (y11, h)) h) fun y67 h =>
  thenV (guardK (bOf y66 == some true) (cvBS y67 h) h) fun y68 h =>
  thenV (guardK (bOf y66 == some true) (some (x1, h)) h) fun y69 h =>
  thenV (guardK (bOf y66 == some true) (cvBS y69 h) h) fun y70 h =>
  thenV (guardK (bOf y66 == some true) (pu (bin Tryd.prog .eql 9 y68 y70) h) h) fun y71 h =>
  thenV (match y66 with | .bool t => some (if t then y71 else (.bool false), h) | _ => none) fun y72 h =>
  thenV (some (y72, h)) fun y73 h =>
  thenV (guardK (bOf y73 == some true) (C 14 [] h) h) fun y74 h =>
  thenV (match y73 with | .bool t => some (if t then y74 else (.bool false), h) | _ => none) fun y75 h =>
  thenV (some (y75, h)) fun y4_1 h =>
  some (y4_1, h)
  | _ => none)
  | _ => none)
  | _ => none)
theorem t9_eq (C : CallF) (x0 x1 : Value) (h : Heap) : bodyK Tryd.prog C Tryd.f9 [x0, x1] h = t9 C x0 x1 h :=
  (bodyB_eq Tryd.prog C Tryd.f9 [x0, x1] h (by kernel_rfl)).trans (by kernel_rfl)

end Go.Proofs.YtdnahgfgoajmcaaDoor

