/-
  Printed by a program: texts of functions without loops, linked to the program.
  Conditions: as each theorem states.
  Printed by a program: the text of a disk's Image, linked to the program.
  Conditions: none.
-/
import Derived.Test.YtdmnphocgfnlpaaGreatDoorG10
namespace Go.Proofs.YtdmnphocgfnlpaaGreatDoor
open Go Go.Abs
/-- stolon/swarm.Valid -/
noncomputable def t12 (_C : CallF) (x0 : Value) (h : Heap) : Out :=
  thenV (box x0 h) fun y1 h =>
  thenV (some ((.bool false), h)) fun _y2 h =>
  thenV (pu (addP y1 0) h) fun y3 h =>
  thenV (ld1 y3 h) fun y4 h =>
  thenV (pu (bin Tryz.prog .geq 3 y4 (.int .i64 2)) h) fun y5 h =>
  thenV (some (y5, h)) fun y6 h =>
  thenV (guardK (bOf y6 == some true) (pu (addP y1 0) h) h) fun y7 h =>
  thenV (guardK (bOf y6 == some true) (ld1 y7 h) h) fun y8 h =>
  thenV (guardK (bOf y6 == some true) (pu (bin Tryz.prog .leq 3 y8 (.int .i64 16)) h) h) fun y9 h =>
  thenV (match y6 with | .bool t => some (if t then y9 else (.bool false), h) | _ => none) fun y10 h =>
  thenV (some (y10, h)) fun y11 h =>
  thenV (guardK (bOf y11 == some true) (pu (addP y1 1) h) h) fun y12 h =>
  thenV (guardK (bOf y11 == some true) (ld1 y12 h) h) fun y13 h =>
  thenV (guardK (bOf y11 == some true) (pu (bin Tryz.prog .geq 3 y13 (.int .i64 4)) h) h) fun y14 h =>
  thenV (match y11 with | .bool t => some (if t then y14 else (.bool false), h) | _ => none) fun y15 h =>
  thenV (some (y15, h)) fun y16 h =>
  thenV (guardK (bOf y16 == some true) (pu (addP y1 1) h) h) fun y17 h =>
  thenV (guardK (bOf y16 == some true) (ld1 y17 h) h) fun y18 h =>
  thenV (guardK (bOf y16 == some true) (pu (bin Tryz.prog .leq 3 y18 (.int .i64 4096)) h) h) fun y19 h =>
  thenV (match y16 with | .bool t => some (if t then y19 else (.bool false), h) | _ => none) fun y20 h =>
  thenV (some (y20, h)) fun y21 h =>
  thenV (guardK (bOf y21 == some true) (pu (addP y1 2) h) h) fun y22 h =>
  thenV (guardK (bOf y21 == some true) (ld1 y22 h) h) fun y23 h =>
  thenV (guardK (bOf y21 == some true) (pu (bin Tryz.prog .geq 3 y23 (.int .i64 0)) h) h) fun y24 h =>
  thenV (match y21 with | .bool t => some (if t then y24 else (.bool false), h) | _ => none) fun y25 h =>
  thenV (some (y25, h)) fun y26 h =>
  thenV (guardK (bOf y26 == some true) (pu (addP y1 2) h) h) fun y27 h =>
  thenV (guardK (bOf y26 == some true) (ld1 y27 h) h) fun y28 h =>
  thenV (guardK (bOf y26 == some true) (pu (bin Tryz.prog .leq 3 y28 (.int .i64 4294967295)) h) h) fun y29 h =>
  thenV (match y26 with | .bool t => some (if t then y29 else (.bool false), h) | _ => none) fun y30 h =>
  thenV (some (y30, h)) fun y2_1 h =>
  some (y2_1, h)
theorem t12_eq (C : CallF) (x0 : Value) (h : Heap) : bodyK Tryz.prog C Tryz.f12 [x0] h = t12 C x0 h :=
  (bodyB_eq Tryz.prog C Tryz.f12 [x0] h (by kernel_rfl)).trans (by kernel_rfl)


/-- stolon/digest.NewWriter -/
noncomputable def t36 (_C : CallF) (x0 : Value) (h : Heap) : Out :=
  thenV (some ((.pointer none), h)) fun _y2 h =>
  thenV (some (x0, h)) fun y3 h =>
  thenV (pu (minmax true (.int .i64 0) [y3]) h) fun y4 h =>
  thenV (pu (bldR [(.int .i64 0), (.bool false), (.slice none 0 0)] [(0, 1, y4)]) h) fun y5 h =>
  thenV (box y5 h) fun y6 h =>
  thenV (some (y6, h)) fun y2_1 h =>
  some (y2_1, h)
theorem t36_eq (C : CallF) (x0 : Value) (h : Heap) : bodyK Tryz.prog C Tryz.f36 [x0] h = t36 C x0 h :=
  (bodyB_eq Tryz.prog C Tryz.f36 [x0] h (by kernel_rfl)).trans (by kernel_rfl)


/-- stolon/swarm.writable -/
noncomputable def t40 (_C : CallF) (x0 : Value) (h : Heap) : Out :=
  thenV (box x0 h) fun y1 h =>
  thenV (some ((.bool false), h)) fun _y2 h =>
  thenV (pu (addP y1 1) h) fun y3 h =>
  thenV (ld1 y3 h) fun y4 h =>
  thenV (pu (bin Tryz.prog .geq 3 y4 (.int .i64 0)) h) fun y5 h =>
  thenV (some (y5, h)) fun y6 h =>
  thenV (guardK (bOf y6 == some true) (pu (addP y1 1) h) h) fun y7 h =>
  thenV (guardK (bOf y6 == some true) (ld1 y7 h) h) fun y8 h =>
  thenV (guardK (bOf y6 == some true) (pu (bin Tryz.prog .leq 3 y8 (.int .i64 255)) h) h) fun y9 h =>
  thenV (match y6 with | .bool t => some (if t then y9 else (.bool false), h) | _ => none) fun y10 h =>
  thenV (some (y10, h)) fun y11 h =>
  thenV (guardK (bOf y11 == some true) (pu (addP y1 2) h) h) fun y12 h =>
  thenV (guardK (bOf y11 == some true) (ld1 y12 h) h) fun y13 h =>
  thenV (guardK (bOf y11 == some true) (pu (bin Tryz.prog .geq 3 y13 (.int .i64 0)) h) h) fun y14 h =>
  thenV (match y11 with | .bool t => some (if t then y14 else (.bool false), h) | _ => none) fun y15 h =>
  thenV (some (y15, h)) fun y16 h =>
  thenV (guardK (bOf y16 == some true) (pu (addP y1 2) h) h) fun y17 h =>
  thenV (guardK (bOf y16 == some true) (ld1 y17 h) h) fun y18 h =>
  thenV (guardK (bOf y16 == some true) (pu (bin Tryz.prog .leq 3 y18 (.int .i64 65535)) h) h) fun y19 h =>
  thenV (match y16 with | .bool t => some (if t then y19 else (.bool false), h) | _ => none) fun y20 h =>
  thenV (some (y20, h)) fun y21 h =>
  thenV (guardK (bOf y21 == some true) (pu (addP y1 3) h) h) fun y22 h =>
  thenV (guardK (bOf y21 == some true) (ld1 y22 h) h) fun y23 h =>
  thenV (guardK (bOf y21 == some true) (pu (bin Tryz.prog .geq 3 y23 (.int .i64 0)) h) h) fun y24 h =>
  thenV (match y21 with | .bool t => some (if t then y24 else (.bool false), h) | _ => none) fun y25 h =>
  thenV (some (y25, h)) fun y26 h =>
  thenV (guardK (bOf y26 == some true) (pu (addP y1 3) h) h) fun y27 h =>
  thenV (guardK (bOf y26 == some true) (ld1 y27 h) h) fun y28 h =>
  thenV (guardK (bOf y26 == some true) (pu (bin Tryz.prog .leq 3 y28 (.int .i64 65535)) h) h) fun y29 h =>
  thenV (match y26 with | .bool t => some (if t then y29 else (.bool false), h) | _ => none) fun y30 h =>
  thenV (some (y30, h)) fun y31 h =>
  thenV (guardK (bOf y31 == some true) (pu (addP y1 5) h) h) fun y32 h =>
  thenV (guardK (bOf y31 == some true) (ld1 y32 h) h) fun y33 h =>
  thenV (guardK (bOf y31 == some true) (pu (lenL y33) h) h) fun y34 h =>
  thenV (guardK (bOf y31 == some true) (pu (bin Tryz.prog .leq 3 y34 (.int .i64 65535)) h) h) fun y35 h =>
  thenV (match y31 with | .bool t => some (if t then y35 else (.bool false), h) | _ => none) fun y36 h =>
  thenV (some (y36, h)) fun y2_1 h =>
  some (y2_1, h)
theorem t40_eq (C : CallF) (x0 : Value) (h : Heap) : bodyK Tryz.prog C Tryz.f40 [x0] h = t40 C x0 h :=
  (bodyB_eq Tryz.prog C Tryz.f40 [x0] h (by kernel_rfl)).trans (by kernel_rfl)


/-- (*stolon/digest.Writer).Bytes -/
noncomputable def t43 (C : CallF) (x0 : Value) (h : Heap) : Out :=
  thenV (some ((.slice none 0 0), h)) fun _y2 h =>
  thenV (some ((.int .i64 0), h)) fun _y3 h =>
  thenV (some (x0, h)) fun y5 h =>
  thenV (pu (bin Tryz.prog .eql 71 y5 (.pointer none)) h) fun y6 h =>
  thenV (some (y6, h)) fun y4 h =>
  (match y4 with
  | .bool true =>
  thenV (some ((.slice none 0 0), h)) fun y2_1 h =>
  thenV (some ((.int .i64 1), h)) fun y3_1 h =>
  some (.tuple #[y2_1, y3_1], h)
  | .bool false =>
  thenV (some (x0, h)) fun y8 h =>
  thenV (pu (nilCheckA y8) h) fun y9 h =>
  thenV (pu (addP y9 1) h) fun y10 h =>
  thenV (ld1 y10 h) fun y11 h =>
  thenV (some (y11, h)) fun y7 h =>
  (match y7 with
  | .bool true =>
  thenV (some ((.slice none 0 0), h)) fun y2_1 h =>
  thenV (some ((.int .i64 3), h)) fun y3_1 h =>
  some (.tuple #[y2_1, y3_1], h)
  | .bool false =>
  thenV (some (x0, h)) fun y12 h =>
  thenV (pu (nilCheckA y12) h) fun y13 h =>
  thenV (pu (addP y13 2) h) fun y14 h =>
  thenV (ld1 y14 h) fun y15 h =>
  thenV (C 81 [y15] h) fun y16 h =>
  thenV (some (y16, h)) fun y2_1 h =>
  thenV (some ((.int .i64 0), h)) fun y3_1 h =>
  some (.tuple #[y2_1, y3_1], h)
  | _ => none)
  | _ => none)
theorem t43_eq (C : CallF) (x0 : Value) (h : Heap) : bodyK Tryz.prog C Tryz.f43 [x0] h = t43 C x0 h :=
  (bodyB_eq Tryz.prog C Tryz.f43 [x0] h (by kernel_rfl)).trans (by kernel_rfl)


/-- (*stolon/digest.Reader).Text -/
noncomputable def t51 (C : CallF) (x0 : Value) (h : Heap) : Out :=
  thenV (some ((.slice none 0 0), h)) fun _y2 h =>
  thenV (some (x0, h)) fun y5 h =>
  thenV (pu (bin Tryz.prog .eql 82 y5 (.pointer none)) h) fun y6 h =>
  thenV (some (y6, h)) fun y7 h =>
  thenV (guardK (bOf y7 == some false) (some (x0, h)) h) fun y8 h =>
  thenV (guardK (bOf y7 == some false) (pu (nilCheckA y8) h) h) fun y9 h =>
  thenV (guardK (bOf y7 == some false) (pu (addP y9 1) h) h) fun y10 h =>
  thenV (guardK (bOf y7 == some false) (ld1 y10 h) h) fun y11 h =>
  thenV (guardK (bOf y7 == some false) (pu (bin Tryz.prog .neq 31 y11 (.int .i64 0)) h) h) fun y12 h =>
  thenV (match y7 with | .bool t => some (if t then (.bool true) else y12, h) | _ => none) fun y13 h =>
  (match y13 with
  | .bool true =>
  thenV (some ((.slice none 0 0), h)) fun y2_1 h =>
  some (y2_1, h)
  | .bool false =>
  thenV (some (x0, h)) fun y14 h =>
  thenV (pu (nilCheckA y14) h) fun y15 h =>
  thenV (pu (addP y15 0) h) fun y16 h =>
  thenV (ld1 y16 h) fun y17 h =>
  thenV (some (y17, h)) fun y3 h =>
  thenV (some (x0, h)) fun y18 h =>
  thenV (some (x0, h)) fun y19 h =>
  thenV (C 92 [y19, (.int .i64 2)] h) fun y20 h =>
  thenV (cvI .i64 y20 h) fun y21 h =>
  thenV (C 93 [y18, y21] h) fun y22 h =>
  thenV (some (y22, h)) fun y4 h =>
  thenV (some (x0, h)) fun y23 h =>
  thenV (pu (nilCheckA y23) h) fun y24 h =>
  thenV (pu (addP y24 1) h) fun y25 h =>
  thenV (ld1 y25 h) fun y26 h =>
  thenV (pu (bin Tryz.prog .neq 31 y26 (.int .i64 0)) h) fun y27 h =>
  (match y27 with
  | .bool true =>
  thenV (some (x0, h)) fun y28 h =>
  thenV (some (y3, h)) fun y29 h =>
  thenV (pu (nilCheckA y28) h) fun y30 h =>
  thenV (pu (addP y30 0) h) fun y31 h =>
  thenV (stN 1 y31 y29 h) fun _ h =>
  thenV (some ((.slice none 0 0), h)) fun y2_1 h =>
  some (y2_1, h)
  | .bool false =>
  thenV (some (y4, h)) fun y32 h =>
  thenV (C 81 [y32] h) fun y33 h =>
  thenV (some (y33, h)) fun y2_1 h =>
  some (y2_1, h)
  | _ => none)
  | _ => none)
theorem t51_eq (C : CallF) (x0 : Value) (h : Heap) : bodyK Tryz.prog C Tryz.f51 [x0] h = t51 C x0 h :=
  (bodyB_eq Tryz.prog C Tryz.f51 [x0] h (by kernel_rfl)).trans (by kernel_rfl)


/-- stolon/swarm.Bound$1 -/
noncomputable def t53 (_C : CallF) (x0 : Value) (h : Heap) : Out :=
  thenV (some ((.int .i64 0), h)) fun _y2 h =>
  thenV (some (x0, h)) fun y3 h =>
  thenV (pu (minmax true y3 [(.int .i64 0)]) h) fun y4 h =>
  thenV (pu (minmax false y4 [(.int .i64 65535)]) h) fun y5 h =>
  thenV (some (y5, h)) fun y2_1 h =>
  some (y2_1, h)
theorem t53_eq (C : CallF) (x0 : Value) (h : Heap) : bodyK Tryz.prog C Tryz.f53 [x0] h = t53 C x0 h :=
  (bodyB_eq Tryz.prog C Tryz.f53 [x0] h (by kernel_rfl)).trans (by kernel_rfl)


/-- stolon/inventory.New -/
noncomputable def t57 (_C : CallF) (h : Heap) : Out :=
  thenV (some ((.pointer none), h)) fun _y0 h =>
  thenV (pu (bldR [(.slice none 0 0)] []) h) fun y1 h =>
  thenV (box y1 h) fun y2 h =>
  thenV (some (y2, h)) fun y0_1 h =>
  some (y0_1, h)
theorem t57_eq (C : CallF) (h : Heap) : bodyK Tryz.prog C Tryz.f57 [] h = t57 C  h :=
  (bodyB_eq Tryz.prog C Tryz.f57 [] h (by kernel_rfl)).trans (by kernel_rfl)


/-- (*stolon/swarm.World).at -/
noncomputable def t60 (_C : CallF) (x0 x1 : Value) (h : Heap) : Out :=
  thenV (some ((.pointer none), h)) fun _y4 h =>
  thenV (some (x0, h)) fun y5 h =>
  thenV (pu (bin Tryz.prog .eql 44 y5 (.pointer none)) h) fun y6 h =>
  thenV (some (y6, h)) fun y7 h =>
  thenV (guardK (bOf y7 == some false) (some (x1, h)) h) fun y8 h =>
  thenV (guardK (bOf y7 == some false) (pu (bin Tryz.prog .lss 3 y8 (.int .i64 0)) h) h) fun y9 h =>
  thenV (match y7 with | .bool t => some (if t then (.bool true) else y9, h) | _ => none) fun y10 h =>
  thenV (some (y10, h)) fun y11 h =>
  thenV (guardK (bOf y11 == some false) (some (x1, h)) h) fun y12 h =>
  thenV (guardK (bOf y11 == some false) (some (x0, h)) h) fun y13 h =>
  thenV (guardK (bOf y11 == some false) (pu (nilCheckA y13) h) h) fun y14 h =>
  thenV (guardK (bOf y11 == some false) (pu (addP y14 3) h) h) fun y15 h =>
  thenV (guardK (bOf y11 == some false) (ld1 y15 h) h) fun y16 h =>
  thenV (guardK (bOf y11 == some false) (pu (lenL y16) h) h) fun y17 h =>
  thenV (guardK (bOf y11 == some false) (pu (bin Tryz.prog .geq 3 y12 y17) h) h) fun y18 h =>
  thenV (match y11 with | .bool t => some (if t then (.bool true) else y18, h) | _ => none) fun y19 h =>
  (match y19 with
  | .bool true =>
  thenV (some ((.pointer none), h)) fun y4_1 h =>
  some (y4_1, h)
  | .bool false =>
  thenV (some (x0, h)) fun y20 h =>
  thenV (pu (nilCheckA y20) h) fun y21 h =>
  thenV (pu (addP y21 3) h) fun y22 h =>
  thenV (ld1 y22 h) fun y23 h =>
  thenV (some (x1, h)) fun y24 h =>
  thenV (pu (idxS 3 y23 y24) h) fun y25 h =>
  thenV (pu (addP y25 1) h) fun y26 h =>
  thenV (ld1 y26 h) fun y27 h =>
  thenV (some (y27, h)) fun y4_1 h =>
  some (y4_1, h)
  | _ => none)
theorem t60_eq (C : CallF) (x0 x1 : Value) (h : Heap) : bodyK Tryz.prog C Tryz.f60 [x0, x1] h = t60 C x0 x1 h :=
  (bodyB_eq Tryz.prog C Tryz.f60 [x0, x1] h (by kernel_rfl)).trans (by kernel_rfl)


/-- stolon/disk.NewDisk -/
noncomputable def t87 (_C : CallF) (x0 : Value) (h : Heap) : Out :=
  thenV (some ((.pointer none), h)) fun _y2 h =>
  thenV (some ((.int .i64 0), h)) fun _y3 h =>
  thenV (some (x0, h)) fun y4 h =>
  thenV (pu (bin Tryz.prog .lss 3 y4 (.int .i64 4)) h) fun y5 h =>
  thenV (some (y5, h)) fun y6 h =>
  thenV (guardK (bOf y6 == some false) (some (x0, h)) h) fun y7 h =>
  thenV (guardK (bOf y6 == some false) (pu (bin Tryz.prog .gtr 3 y7 (.int .i64 4096)) h) h) fun y8 h =>
  thenV (match y6 with | .bool t => some (if t then (.bool true) else y8, h) | _ => none) fun y9 h =>
  (match y9 with
  | .bool true =>
  thenV (some ((.pointer none), h)) fun y2_1 h =>
  thenV (some ((.int .i64 2), h)) fun y3_1 h =>
  some (.tuple #[y2_1, y3_1], h)
  | .bool false =>
  thenV (some (x0, h)) fun y10 h =>
  thenV (mkR 128 128 (.agg (List.replicate 128 (.int .u8 0)).toArray) y10 y10 h) fun y11 h =>
  thenV (pu (bldR [(.slice none 0 0), (.bool false), (.bool false), (.int .i64 0), (.int .i64 0), (.int .i64 0)] [(0, 1, y11)]) h) fun y12 h =>
  thenV (box y12 h) fun y13 h =>
  thenV (some (y13, h)) fun y2_1 h =>
  thenV (some ((.int .i64 0), h)) fun y3_1 h =>
  some (.tuple #[y2_1, y3_1], h)
  | _ => none)
theorem t87_eq (C : CallF) (x0 : Value) (h : Heap) : bodyK Tryz.prog C Tryz.f87 [x0] h = t87 C x0 h :=
  (bodyB_eq Tryz.prog C Tryz.f87 [x0] h (by kernel_rfl)).trans (by kernel_rfl)


/-- (*stolon/digest.Writer).room -/
noncomputable def t91 (_C : CallF) (x0 x1 : Value) (h : Heap) : Out :=
  thenV (some ((.bool false), h)) fun _y4 h =>
  thenV (some (x0, h)) fun y5 h =>
  thenV (pu (bin Tryz.prog .eql 71 y5 (.pointer none)) h) fun y6 h =>
  thenV (some (y6, h)) fun y7 h =>
  thenV (guardK (bOf y7 == some false) (some (x0, h)) h) fun y8 h =>
  thenV (guardK (bOf y7 == some false) (pu (nilCheckA y8) h) h) fun y9 h =>
  thenV (guardK (bOf y7 == some false) (pu (addP y9 1) h) h) fun y10 h =>
  thenV (guardK (bOf y7 == some false) (ld1 y10 h) h) fun y11 h =>
  thenV (match y7 with | .bool t => some (if t then (.bool true) else y11, h) | _ => none) fun y12 h =>
  (match y12 with
  | .bool true =>
  thenV (some ((.bool false), h)) fun y4_1 h =>
  some (y4_1, h)
  | .bool false =>
  thenV (some (x0, h)) fun y13 h =>
  thenV (some (x1, h)) fun y14 h =>
  thenV (some (x0, h)) fun y15 h =>
  thenV (pu (nilCheckA y15) h) fun y16 h =>
  thenV (pu (addP y16 0) h) fun y17 h =>
  thenV (ld1 y17 h) fun y18 h =>
  thenV (some (x0, h)) fun y19 h =>
  thenV (pu (nilCheckA y19) h) fun y20 h =>
  thenV (pu (addP y20 2) h) fun y21 h =>
  thenV (ld1 y21 h) fun y22 h =>
  thenV (pu (lenL y22) h) fun y23 h =>
  thenV (pu (bin Tryz.prog .sub 3 y18 y23) h) fun y24 h =>
  thenV (pu (bin Tryz.prog .gtr 3 y14 y24) h) fun y25 h =>
  thenV (pu (nilCheckA y13) h) fun y26 h =>
  thenV (pu (addP y26 1) h) fun y27 h =>
  thenV (stN 1 y27 y25 h) fun _ h =>
  thenV (some (x0, h)) fun y28 h =>
  thenV (pu (nilCheckA y28) h) fun y29 h =>
  thenV (pu (addP y29 1) h) fun y30 h =>
  thenV (ld1 y30 h) fun y31 h =>
  thenV (pu (unA .not y31) h) fun y32 h =>
  thenV (some (y32, h)) fun y4_1 h =>
  some (y4_1, h)
  | _ => none)
theorem t91_eq (C : CallF) (x0 x1 : Value) (h : Heap) : bodyK Tryz.prog C Tryz.f91 [x0, x1] h = t91 C x0 x1 h :=
  (bodyB_eq Tryz.prog C Tryz.f91 [x0, x1] h (by kernel_rfl)).trans (by kernel_rfl)


/-- stolon/inventory.at -/
noncomputable def t104 (_C : CallF) (x0 : Value) (h : Heap) : Out :=
  thenV (box x0 h) fun y1 h =>
  thenV (newC [(.int .u8 0), (.int .u8 0), (.int .u8 0), (.int .u8 0), (.int .u8 0), (.int .u8 0), (.int .u8 0), (.int .u8 0), (.int .u8 0), (.int .u8 0), (.int .u8 0), (.int .u8 0), (.int .u8 0), (.int .u8 0), (.int .u8 0), (.int .u8 0), (.int .u8 0), (.int .u8 0), (.int .u8 0), (.int .u8 0), (.int .u8 0), (.int .u8 0), (.int .u8 0), (.int .u8 0), (.int .u8 0), (.int .u8 0), (.int .u8 0), (.int .u8 0), (.int .u8 0), (.int .u8 0), (.int .u8 0), (.int .u8 0), (.int .u8 0), (.int .i64 0)] h) fun y2 h =>
  thenV (pu (addP y1 0) h) fun y3 h =>
  thenV (ld1 y3 h) fun y4 h =>
  thenV (pu (addP y1 1) h) fun y5 h =>
  thenV (ldN 32 y5 h) fun y6 h =>
  thenV (pu (addP y1 33) h) fun y7 h =>
  thenV (ld1 y7 h) fun y8 h =>
  thenV (pu (bldR [(.int .u8 0), (.int .u8 0), (.int .u8 0), (.int .u8 0), (.int .u8 0), (.int .u8 0), (.int .u8 0), (.int .u8 0), (.int .u8 0), (.int .u8 0), (.int .u8 0), (.int .u8 0), (.int .u8 0), (.int .u8 0), (.int .u8 0), (.int .u8 0), (.int .u8 0), (.int .u8 0), (.int .u8 0), (.int .u8 0), (.int .u8 0), (.int .u8 0), (.int .u8 0), (.int .u8 0), (.int .u8 0), (.int .u8 0), (.int .u8 0), (.int .u8 0), (.int .u8 0), (.int .u8 0), (.int .u8 0), (.int .u8 0), (.int .u8 0), (.int .i64 0)] [(0, 1, y4), (1, 32, y6), (33, 1, y8)]) h) fun y9 h =>
  thenV (stN 34 y2 y9 h) fun _ h =>
  resultsA Tryz.prog Tryz.f104.results.toList (mkF 10 (up (bs [x0]) [(1, y1), (2, y2), (3, y3), (4, y4), (5, y5), (6, y6), (7, y7), (8, y8), (9, y9)])) h
theorem t104_eq (C : CallF) (x0 : Value) (h : Heap) : bodyK Tryz.prog C Tryz.f104 [x0] h = t104 C x0 h :=
  (bodyB_eq Tryz.prog C Tryz.f104 [x0] h (by kernel_rfl)).trans (by kernel_rfl)


/-- (*stolon/inventory.Inventory).each -/
noncomputable def t110 (_C : CallF) (x0 x1 : Value) (h : Heap) : Out :=
  thenV (box x0 h) fun y2 h =>
  thenV (box x1 h) fun y3 h =>
  thenV (some (.nilFunc, h)) fun _y4 h =>
  thenV (some (.func (.func 165) #[] #[y2, y3], h)) fun y5 h =>
  thenV (some (y5, h)) fun y4_1 h =>
  some (y4_1, h)
theorem t110_eq (C : CallF) (x0 x1 : Value) (h : Heap) : bodyK Tryz.prog C Tryz.f110 [x0, x1] h = t110 C x0 x1 h :=
  (bodyB_eq Tryz.prog C Tryz.f110 [x0, x1] h (by kernel_rfl)).trans (by kernel_rfl)


/-- stolon/member.live -/
noncomputable def t111 (_C : CallF) (x0 : Value) (h : Heap) : Out :=
  thenV (box x0 h) fun y1 h =>
  thenV (some ((.bool false), h)) fun _y2 h =>
  thenV (pu (addP y1 1) h) fun y3 h =>
  thenV (ld1 y3 h) fun y4 h =>
  thenV (pu (bin Tryz.prog .eql 179 y4 (.int .u8 1)) h) fun y5 h =>
  thenV (some (y5, h)) fun y6 h =>
  thenV (guardK (bOf y6 == some false) (pu (addP y1 1) h) h) fun y7 h =>
  thenV (guardK (bOf y6 == some false) (ld1 y7 h) h) fun y8 h =>
  thenV (guardK (bOf y6 == some false) (pu (bin Tryz.prog .eql 179 y8 (.int .u8 2)) h) h) fun y9 h =>
  thenV (match y6 with | .bool t => some (if t then (.bool true) else y9, h) | _ => none) fun y10 h =>
  thenV (some (y10, h)) fun y2_1 h =>
  some (y2_1, h)
theorem t111_eq (C : CallF) (x0 : Value) (h : Heap) : bodyK Tryz.prog C Tryz.f111 [x0] h = t111 C x0 h :=
  (bodyB_eq Tryz.prog C Tryz.f111 [x0] h (by kernel_rfl)).trans (by kernel_rfl)


/-- slices.Clone[[]stolon/api.Record,stolon/api.Record] -/
noncomputable def t114 (_C : CallF) (x0 : Value) (h : Heap) : Out :=
  thenV (some ((.slice none 0 0), h)) fun _y2 h =>
  thenV (some (x0, h)) fun y3 h =>
  thenV (pu (bin Tryz.prog .eql 56 y3 (.slice none 0 0)) h) fun y4 h =>
  (match y4 with
  | .bool true =>
  thenV (some ((.slice none 0 0), h)) fun y2_1 h =>
  some (y2_1, h)
  | .bool false =>
  thenV (bslR 39 (.agg #[(.int .u8 0), (.int .u8 0), (.int .u8 0), (.int .u8 0), (.int .u8 0), (.int .u8 0), (.int .u8 0), (.int .u8 0), (.int .u8 0), (.int .u8 0), (.int .u8 0), (.int .u8 0), (.int .u8 0), (.int .u8 0), (.int .u8 0), (.int .u8 0), (.int .u8 0), (.int .u8 0), (.int .u8 0), (.int .u8 0), (.int .u8 0), (.int .u8 0), (.int .u8 0), (.int .u8 0), (.int .u8 0), (.int .u8 0), (.int .u8 0), (.int .u8 0), (.int .u8 0), (.int .u8 0), (.int .u8 0), (.int .u8 0), (.int .u8 0), (.int .i64 0), (.int .u64 0), (.int .u64 0), (.bool false), (.int .i64 0), (.int .i64 0)]) 0 [] h) fun y5 h =>
  thenV (some (x0, h)) fun y6 h =>
  thenV (appendA 39 88 y5 y6 h) fun y7 h =>
  thenV (some (y7, h)) fun y2_1 h =>
  some (y2_1, h)
  | _ => none)
theorem t114_eq (C : CallF) (x0 : Value) (h : Heap) : bodyK Tryz.prog C Tryz.f114 [x0] h = t114 C x0 h :=
  (bodyB_eq Tryz.prog C Tryz.f114 [x0] h (by kernel_rfl)).trans (by kernel_rfl)


/-- stolon/wire.length -/
noncomputable def t125 (C : CallF) (x0 : Value) (h : Heap) : Out :=
  thenV (some ((.int .i64 0), h)) fun _y2 h =>
  thenV (some ((.int .i64 0), h)) fun _y3 h =>
  thenV (some (x0, h)) fun y8 h =>
  thenV (some (x0, h)) fun y9 h =>
  thenV (pu (lenL y9) h) fun y10 h =>
  thenV (pu (minmax false y10 [(.int .i64 10)]) h) fun y11 h =>
  thenV (pu (slR 1 y8 none (some y11) none) h) fun y12 h =>
  thenV (C 45 [y12] h) fun y13 h =>
  thenV (some (y13, h)) fun y4 h =>
  thenV (some (y4, h)) fun y14 h =>
  thenV (C 47 [y14] h) fun y15 h =>
  thenV (some (y4, h)) fun y16 h =>
  thenV (C 46 [y16] h) fun y17 h =>
  thenV (some (y15, h)) fun y5 h =>
  thenV (some (y17, h)) fun y6 h =>
  thenV (some (y4, h)) fun y18 h =>
  thenV (C 180 [y18, (.int .i64 3)] h) fun _y19 h =>
  thenV (some (y4, h)) fun y20 h =>
  thenV (C 48 [y20] h) fun y21 h =>
  thenV (cvI .i64 y21 h) fun y22 h =>
  thenV (some (y22, h)) fun y7 h =>
  thenV (some (y4, h)) fun y24 h =>
  thenV (C 49 [y24] h) fun y25 h =>
  thenV (pu (bin Tryz.prog .neq 31 y25 (.int .i64 0)) h) fun y26 h =>
  thenV (some (y26, h)) fun y23 h =>
  (match y23 with
  | .bool true =>
  thenV (some ((.int .i64 0), h)) fun y2_1 h =>
  thenV (some ((.int .i64 4), h)) fun y3_1 h =>
  some (.tuple #[y2_1, y3_1], h)
  | .bool false =>
  thenV (some (y5, h)) fun y28 h =>
  thenV (pu (bin Tryz.prog .neq 75 y28 (.int .u16 21335)) h) fun y29 h =>
  thenV (some (y29, h)) fun y27 h =>
  (match y27 with
  | .bool true =>
  thenV (some ((.int .i64 0), h)) fun y2_1 h =>
  thenV (some ((.int .i64 5), h)) fun y3_1 h =>
  some (.tuple #[y2_1, y3_1], h)
  | .bool false =>
  thenV (some (y6, h)) fun y31 h =>
  thenV (pu (bin Tryz.prog .neq 5 y31 (.int .u8 1)) h) fun y32 h =>
  thenV (some (y32, h)) fun y30 h =>
  (match y30 with
  | .bool true =>
  thenV (some ((.int .i64 0), h)) fun y2_1 h =>
  thenV (some ((.int .i64 80), h)) fun y3_1 h =>
  some (.tuple #[y2_1, y3_1], h)
  | .bool false =>
  thenV (some (y7, h)) fun y34 h =>
  thenV (pu (bin Tryz.prog .gtr 3 y34 (.int .i64 20000)) h) fun y35 h =>
  thenV (some (y35, h)) fun y33 h =>
  (match y33 with
  | .bool true =>
  thenV (some ((.int .i64 0), h)) fun y2_1 h =>
  thenV (some ((.int .i64 3), h)) fun y3_1 h =>
  some (.tuple #[y2_1, y3_1], h)
  | .bool false =>
  thenV (some (y7, h)) fun y36 h =>
  thenV (pu (bin Tryz.prog .add 3 y36 (.int .i64 14)) h) fun y37 h =>
  thenV (some (y37, h)) fun y2_1 h =>
  thenV (some ((.int .i64 0), h)) fun y3_1 h =>
  some (.tuple #[y2_1, y3_1], h)
  | _ => none)
  | _ => none)
  | _ => none)
  | _ => none)
theorem t125_eq (C : CallF) (x0 : Value) (h : Heap) : bodyK Tryz.prog C Tryz.f125 [x0] h = t125 C x0 h :=
  (bodyB_eq Tryz.prog C Tryz.f125 [x0] h (by kernel_rfl)).trans (by kernel_rfl)


/-- (*stolon/digest.Reader).End -/
noncomputable def t128 (C : CallF) (x0 : Value) (h : Heap) : Out :=
  thenV (some ((.int .i64 0), h)) fun _y2 h =>
  thenV (some (x0, h)) fun y4 h =>
  thenV (C 49 [y4] h) fun y5 h =>
  thenV (some (y5, h)) fun y3 h =>
  thenV (some (y3, h)) fun y6 h =>
  thenV (pu (bin Tryz.prog .neq 31 y6 (.int .i64 0)) h) fun y7 h =>
  (match y7 with
  | .bool true =>
  thenV (some (y3, h)) fun y8 h =>
  thenV (some (y8, h)) fun y2_1 h =>
  some (y2_1, h)
  | .bool false =>
  thenV (some (x0, h)) fun y9 h =>
  thenV (pu (nilCheckA y9) h) fun y10 h =>
  thenV (pu (addP y10 0) h) fun y11 h =>
  thenV (ld1 y11 h) fun y12 h =>
  thenV (pu (lenL y12) h) fun y13 h =>
  thenV (pu (bin Tryz.prog .gtr 3 y13 (.int .i64 0)) h) fun y14 h =>
  (match y14 with
  | .bool true =>
  thenV (some ((.int .i64 5), h)) fun y2_1 h =>
  some (y2_1, h)
  | .bool false =>
  thenV (some ((.int .i64 0), h)) fun y2_1 h =>
  some (y2_1, h)
  | _ => none)
  | _ => none)
theorem t128_eq (C : CallF) (x0 : Value) (h : Heap) : bodyK Tryz.prog C Tryz.f128 [x0] h = t128 C x0 h :=
  (bodyB_eq Tryz.prog C Tryz.f128 [x0] h (by kernel_rfl)).trans (by kernel_rfl)


/-- (*stolon/disk.Disk).PowerOn -/
noncomputable def t140 (_C : CallF) (x0 : Value) (h : Heap) : Out :=
  thenV (some (x0, h)) fun y2 h =>
  thenV (pu (bin Tryz.prog .neq 139 y2 (.pointer none)) h) fun y3 h =>
  (match y3 with
  | .bool true =>
  thenV (some (x0, h)) fun y4 h =>
  thenV (some (x0, h)) fun y5 h =>
  thenV (pu (nilCheckA y4) h) fun y6 h =>
  thenV (pu (addP y6 1) h) fun y7 h =>
  thenV (stN 1 y7 (.bool false) h) fun _ h =>
  thenV (pu (nilCheckA y5) h) fun y8 h =>
  thenV (pu (addP y8 2) h) fun y9 h =>
  thenV (stN 1 y9 (.bool false) h) fun _ h =>
  some (.tuple #[], h)
  | .bool false =>
  some (.tuple #[], h)
  | _ => none)
theorem t140_eq (C : CallF) (x0 : Value) (h : Heap) : bodyK Tryz.prog C Tryz.f140 [x0] h = t140 C x0 h :=
  (bodyB_eq Tryz.prog C Tryz.f140 [x0] h (by kernel_rfl)).trans (by kernel_rfl)


/-- stolon/inventory.holder -/
noncomputable def t158 (_C : CallF) (x0 : Value) (h : Heap) : Out :=
  thenV (box x0 h) fun y1 h =>
  thenV (some ((.bool false), h)) fun _y2 h =>
  thenV (pu (addP y1 33) h) fun y3 h =>
  thenV (ld1 y3 h) fun y4 h =>
  thenV (pu (bin Tryz.prog .geq 3 y4 (.int .i64 0)) h) fun y5 h =>
  thenV (some (y5, h)) fun y6 h =>
  thenV (guardK (bOf y6 == some true) (pu (addP y1 33) h) h) fun y7 h =>
  thenV (guardK (bOf y6 == some true) (ld1 y7 h) h) fun y8 h =>
  thenV (guardK (bOf y6 == some true) (pu (bin Tryz.prog .lss 3 y8 (.int .i64 16)) h) h) fun y9 h =>
  thenV (match y6 with | .bool t => some (if t then y9 else (.bool false), h) | _ => none) fun y10 h =>
  thenV (some (y10, h)) fun y11 h =>
  thenV (guardK (bOf y11 == some true) (pu (addP y1 34) h) h) fun y12 h =>
  thenV (guardK (bOf y11 == some true) (ld1 y12 h) h) fun y13 h =>
  thenV (guardK (bOf y11 == some true) (pu (bin Tryz.prog .geq 27 y13 (.int .u64 1)) h) h) fun y14 h =>
  thenV (match y11 with | .bool t => some (if t then y14 else (.bool false), h) | _ => none) fun y15 h =>
  thenV (some (y15, h)) fun y2_1 h =>
  some (y2_1, h)
theorem t158_eq (C : CallF) (x0 : Value) (h : Heap) : bodyK Tryz.prog C Tryz.f158 [x0] h = t158 C x0 h :=
  (bodyB_eq Tryz.prog C Tryz.f158 [x0] h (by kernel_rfl)).trans (by kernel_rfl)


/-- slices.Clone[[]stolon/api.Member,stolon/api.Member] -/
noncomputable def t166 (_C : CallF) (x0 : Value) (h : Heap) : Out :=
  thenV (some ((.slice none 0 0), h)) fun _y2 h =>
  thenV (some (x0, h)) fun y3 h =>
  thenV (pu (bin Tryz.prog .eql 61 y3 (.slice none 0 0)) h) fun y4 h =>
  (match y4 with
  | .bool true =>
  thenV (some ((.slice none 0 0), h)) fun y2_1 h =>
  some (y2_1, h)
  | .bool false =>
  thenV (bslR 2 (.agg #[(.int .u64 0), (.int .u8 0)]) 0 [] h) fun y5 h =>
  thenV (some (x0, h)) fun y6 h =>
  thenV (appendA 2 16 y5 y6 h) fun y7 h =>
  thenV (some (y7, h)) fun y2_1 h =>
  some (y2_1, h)
  | _ => none)
theorem t166_eq (C : CallF) (x0 : Value) (h : Heap) : bodyK Tryz.prog C Tryz.f166 [x0] h = t166 C x0 h :=
  (bodyB_eq Tryz.prog C Tryz.f166 [x0] h (by kernel_rfl)).trans (by kernel_rfl)


/-- maps.Keys[map[stolon/api.Digest]*stolon/peer.build,stolon/api.Digest,*stolon/peer.build] -/
noncomputable def t168 (_C : CallF) (x0 : Value) (h : Heap) : Out :=
  thenV (box x0 h) fun y1 h =>
  thenV (some (.nilFunc, h)) fun _y2 h =>
  thenV (some (.func (.func 231) #[] #[y1], h)) fun y3 h =>
  thenV (some (y3, h)) fun y2_1 h =>
  some (y2_1, h)
theorem t168_eq (C : CallF) (x0 : Value) (h : Heap) : bodyK Tryz.prog C Tryz.f168 [x0] h = t168 C x0 h :=
  (bodyB_eq Tryz.prog C Tryz.f168 [x0] h (by kernel_rfl)).trans (by kernel_rfl)


/-- maps.Keys[map[stolon/api.Digest]*stolon/peer.shed,stolon/api.Digest,*stolon/peer.shed] -/
noncomputable def t170 (_C : CallF) (x0 : Value) (h : Heap) : Out :=
  thenV (box x0 h) fun y1 h =>
  thenV (some (.nilFunc, h)) fun _y2 h =>
  thenV (some (.func (.func 232) #[] #[y1], h)) fun y3 h =>
  thenV (some (y3, h)) fun y2_1 h =>
  some (y2_1, h)
theorem t170_eq (C : CallF) (x0 : Value) (h : Heap) : bodyK Tryz.prog C Tryz.f170 [x0] h = t170 C x0 h :=
  (bodyB_eq Tryz.prog C Tryz.f170 [x0] h (by kernel_rfl)).trans (by kernel_rfl)


/-- stolon/wire.peer -/
noncomputable def t182 (_C : CallF) (x0 : Value) (h : Heap) : Out :=
  thenV (some ((.bool false), h)) fun _y2 h =>
  thenV (some (x0, h)) fun y3 h =>
  thenV (pu (bin Tryz.prog .geq 3 y3 (.int .i64 0)) h) fun y4 h =>
  thenV (some (y4, h)) fun y5 h =>
  thenV (guardK (bOf y5 == some true) (some (x0, h)) h) fun y6 h =>
  thenV (guardK (bOf y5 == some true) (pu (bin Tryz.prog .lss 3 y6 (.int .i64 16)) h) h) fun y7 h =>
  thenV (match y5 with | .bool t => some (if t then y7 else (.bool false), h) | _ => none) fun y8 h =>
  thenV (some (y8, h)) fun y2_1 h =>
  some (y2_1, h)
theorem t182_eq (C : CallF) (x0 : Value) (h : Heap) : bodyK Tryz.prog C Tryz.f182 [x0] h = t182 C x0 h :=
  (bodyB_eq Tryz.prog C Tryz.f182 [x0] h (by kernel_rfl)).trans (by kernel_rfl)


/-- stolon/member.New -/
noncomputable def t190 (_C : CallF) (x0 x1 x2 : Value) (h : Heap) : Out :=
  thenV (some ((.pointer none), h)) fun _y6 h =>
  thenV (some ((.int .i64 0), h)) fun _y7 h =>
  thenV (some (x1, h)) fun y9 h =>
  thenV (pu (bin Tryz.prog .lss 3 y9 (.int .i64 2)) h) fun y10 h =>
  thenV (some (y10, h)) fun y11 h =>
  thenV (guardK (bOf y11 == some false) (some (x1, h)) h) fun y12 h =>
  thenV (guardK (bOf y11 == some false) (pu (bin Tryz.prog .gtr 3 y12 (.int .i64 16)) h) h) fun y13 h =>
  thenV (match y11 with | .bool t => some (if t then (.bool true) else y13, h) | _ => none) fun y14 h =>
  thenV (some (y14, h)) fun y15 h =>
  thenV (guardK (bOf y15 == some false) (some (x0, h)) h) fun y16 h =>
  thenV (guardK (bOf y15 == some false) (pu (bin Tryz.prog .lss 3 y16 (.int .i64 0)) h) h) fun y17 h =>
  thenV (match y15 with | .bool t => some (if t then (.bool true) else y17, h) | _ => none) fun y18 h =>
  thenV (some (y18, h)) fun y19 h =>
  thenV (guardK (bOf y19 == some false) (some (x0, h)) h) fun y20 h =>
  thenV (guardK (bOf y19 == some false) (some (x1, h)) h) fun y21 h =>
  thenV (guardK (bOf y19 == some false) (pu (bin Tryz.prog .geq 3 y20 y21) h) h) fun y22 h =>
  thenV (match y19 with | .bool t => some (if t then (.bool true) else y22, h) | _ => none) fun y23 h =>
  thenV (some (y23, h)) fun y24 h =>
  thenV (guardK (bOf y24 == some false) (some (x2, h)) h) fun y25 h =>
  thenV (guardK (bOf y24 == some false) (pu (bin Tryz.prog .eql 27 y25 (.int .u64 0)) h) h) fun y26 h =>
  thenV (match y24 with | .bool t => some (if t then (.bool true) else y26, h) | _ => none) fun y27 h =>
  (match y27 with
  | .bool true =>
  thenV (some ((.pointer none), h)) fun y6_1 h =>
  thenV (some ((.int .i64 2), h)) fun y7_1 h =>
  some (.tuple #[y6_1, y7_1], h)
  | .bool false =>
  thenV (some (x0, h)) fun y28 h =>
  thenV (some (x0, h)) fun y29 h =>
  thenV (some (x1, h)) fun y30 h =>
  thenV (some (x1, h)) fun y32 h =>
  thenV (mkR 2 16 (.agg #[(.int .u64 0), (.int .u8 0)]) y30 y30 h) fun y31 h =>
  thenV (mkR 1 8 (.int .u64 0) y32 y32 h) fun y33 h =>
  thenV (pu (bldR [(.int .i64 0), (.slice none 0 0), (.slice none 0 0), (.int .u64 0), (.int .u64 0), (.int .i64 0), (.slice none 0 0), (.int .u64 0), (.bool false)] [(0, 1, y28), (5, 1, y29), (1, 1, y31), (2, 1, y33)]) h) fun y34 h =>
  thenV (box y34 h) fun y35 h =>
  thenV (some (y35, h)) fun y8 h =>
  thenV (some (y8, h)) fun y36 h =>
  thenV (pu (nilCheckA y36) h) fun y37 h =>
  thenV (pu (addP y37 1) h) fun y38 h =>
  thenV (ld1 y38 h) fun y39 h =>
  thenV (some (x0, h)) fun y40 h =>
  thenV (some (x2, h)) fun y41 h =>
  thenV (pu (bldR [(.int .u64 0), (.int .u8 0)] [(0, 1, y41), (1, 1, (.int .u8 1))]) h) fun y42 h =>
  thenV (pu (idxS 2 y39 y40) h) fun y43 h =>
  thenV (stN 2 y43 y42 h) fun _ h =>
  thenV (some (y8, h)) fun y44 h =>
  thenV (some (y44, h)) fun y6_1 h =>
  thenV (some ((.int .i64 0), h)) fun y7_1 h =>
  some (.tuple #[y6_1, y7_1], h)
  | _ => none)
theorem t190_eq (C : CallF) (x0 x1 x2 : Value) (h : Heap) : bodyK Tryz.prog C Tryz.f190 [x0, x1, x2] h = t190 C x0 x1 x2 h :=
  (bodyB_eq Tryz.prog C Tryz.f190 [x0, x1, x2] h (by kernel_rfl)).trans (by kernel_rfl)


/-- stolon/rs.NewField -/
noncomputable def t191 (_C : CallF) (h : Heap) : Out :=
  thenV (some ((.pointer none), h)) fun _y0 h =>
  thenV (pu (bldR [(.int .u32 0), (.int .i32 0), (.int .u32 0), (.int .u8 0), (.int .u8 0), (.int .u8 0), (.int .u8 0), (.int .u8 0), (.int .u8 0), (.int .u8 0), (.int .u8 0), (.int .u8 0), (.int .u8 0), (.int .u8 0), (.int .u8 0), (.int .u8 0), (.int .u8 0), (.int .u8 0), (.int .u8 0), (.int .u8 0), (.int .u8 0), (.int .u8 0), (.int .u8 0), (.int .u8 0), (.int .u8 0), (.int .u8 0), (.int .u8 0), (.int .u8 0), (.int .u8 0), (.int .u8 0), (.int .u8 0), (.int .u8 0), (.int .u8 0), (.int .u8 0), (.int .u8 0), (.int .u8 0), (.int .u8 0), (.int .u8 0), (.int .u8 0), (.int .u8 0), (.int .u8 0), (.int .u8 0), (.int .u8 0), (.int .u8 0), (.int .u8 0), (.int .u8 0), (.int .u8 0), (.int .u8 0), (.int .u8 0), (.int .u8 0), (.int .u8 0), (.int .u8 0), (.int .u8 0), (.int .u8 0), (.int .u8 0), (.int .u8 0), (.int .u8 0), (.int .u8 0), (.int .u8 0), (.int .u8 0), (.int .u8 0), (.int .u8 0), (.int .u8 0), (.int .u8 0), (.int .u8 0), (.int .u8 0), (.int .u8 0), (.int .u8 0), (.int .u8 0), (.int .u8 0), (.int .u8 0), (.int .u8 0), (.int .u8 0), (.int .u8 0), (.int .u8 0), (.int .u8 0), (.int .u8 0), (.int .u8 0), (.int .u8 0), (.int .u8 0), (.int .u8 0), (.int .u8 0), (.int .u8 0), (.int .u8 0), (.int .u8 0), (.int .u8 0), (.int .u8 0), (.int .u8 0), (.int .u8 0), (.int .u8 0), (.int .u8 0), (.int .u8 0), (.int .u8 0), (.int .u8 0), (.int .u8 0), (.int .u8 0), (.int .u8 0), (.int .u8 0), (.int .u8 0), (.int .u8 0), (.int .u8 0), (.int .u8 0), (.int .u8 0), (.int .u8 0), (.int .u8 0), (.int .u8 0), (.int .u8 0), (.int .u8 0), (.int .u8 0), (.int .u8 0), (.int .u8 0), (.int .u8 0), (.int .u8 0), (.int .u8 0), (.int .u8 0), (.int .u8 0), (.int .u8 0), (.int .u8 0), (.int .u8 0), (.int .u8 0), (.int .u8 0), (.int .u8 0), (.int .u8 0), (.int .u8 0), (.int .u8 0), (.int .u8 0), (.int .u8 0), (.int .u8 0), (.int .u8 0), (.int .u8 0), (.int .u8 0), (.int .u8 0), (.int .u8 0), (.int .u8 0), (.int .u8 0), (.int .u8 0), (.int .u8 0), (.int .u8 0), (.int .u8 0), (.int .u8 0), (.int .u8 0), (.int .u8 0), (.int .u8 0), (.int .u8 0), (.int .u8 0), (.int .u8 0), (.int .u8 0), (.int .u8 0), (.int .u8 0), (.int .u8 0), (.int .u8 0), (.int .u8 0), (.int .u8 0), (.int .u8 0), (.int .u8 0), (.int .u8 0), (.int .u8 0), (.int .u8 0), (.int .u8 0), (.int .u8 0), (.int .u8 0), (.int .u8 0), (.int .u8 0), (.int .u8 0), (.int .u8 0), (.int .u8 0), (.int .u8 0), (.int .u8 0), (.int .u8 0), (.int .u8 0), (.int .u8 0), (.int .u8 0), (.int .u8 0), (.int .u8 0), (.int .u8 0), (.int .u8 0), (.int .u8 0), (.int .u8 0), (.int .u8 0), (.int .u8 0), (.int .u8 0), (.int .u8 0), (.int .u8 0), (.int .u8 0), (.int .u8 0), (.int .u8 0), (.int .u8 0), (.int .u8 0), (.int .u8 0), (.int .u8 0), (.int .u8 0), (.int .u8 0), (.int .u8 0), (.int .u8 0), (.int .u8 0), (.int .u8 0), (.int .u8 0), (.int .u8 0), (.int .u8 0), (.int .u8 0), (.int .u8 0), (.int .u8 0), (.int .u8 0), (.int .u8 0), (.int .u8 0), (.int .u8 0), (.int .u8 0), (.int .u8 0), (.int .u8 0), (.int .u8 0), (.int .u8 0), (.int .u8 0), (.int .u8 0), (.int .u8 0), (.int .u8 0), (.int .u8 0), (.int .u8 0), (.int .u8 0), (.int .u8 0), (.int .u8 0), (.int .u8 0), (.int .u8 0), (.int .u8 0), (.int .u8 0), (.int .u8 0), (.int .u8 0), (.int .u8 0), (.int .u8 0), (.int .u8 0), (.int .u8 0), (.int .u8 0), (.int .u8 0), (.int .u8 0), (.int .u8 0), (.int .u8 0), (.int .u8 0), (.int .u8 0), (.int .u8 0), (.int .u8 0), (.int .u8 0), (.int .u8 0), (.int .u8 0), (.int .u8 0), (.int .u8 0), (.int .u8 0), (.int .u8 0), (.int .u8 0), (.int .u8 0), (.int .u8 0), (.int .u8 0), (.int .u8 0), (.int .u8 0), (.int .u8 0), (.int .u8 0), (.int .u8 0), (.int .u8 0), (.int .u8 0), (.int .u8 0), (.int .u8 0), (.int .u8 0), (.int .u8 0), (.int .u8 0), (.int .u8 0), (.int .u8 0), (.int .u8 0), (.int .u8 0), (.int .u8 0), (.int .u8 0), (.int .u8 0), (.int .u8 0), (.int .u8 0), (.int .u8 0), (.int .u8 0), (.int .u8 0), (.int .u8 0), (.int .u8 0), (.int .u8 0), (.int .u8 0), (.int .u8 0), (.int .u8 0), (.int .u8 0), (.int .u8 0), (.int .u8 0), (.int .u8 0), (.int .u8 0), (.int .u8 0), (.int .u8 0), (.int .u8 0), (.int .u8 0), (.int .u8 0), (.int .u8 0), (.int .u8 0), (.int .u8 0), (.int .u8 0), (.int .u8 0), (.int .u8 0), (.int .u8 0), (.int .u8 0), (.int .u8 0), (.int .u8 0), (.int .u8 0), (.int .u8 0), (.int .u8 0), (.int .u8 0), (.int .u8 0), (.int .u8 0), (.int .u8 0), (.int .u8 0), (.int .u8 0), (.int .u8 0), (.int .u8 0), (.int .u8 0), (.int .u8 0), (.int .u8 0), (.int .u8 0), (.int .u8 0), (.int .u8 0), (.int .u8 0), (.int .u8 0), (.int .u8 0), (.int .u8 0), (.int .u8 0), (.int .u8 0), (.int .u8 0), (.int .u8 0), (.int .u8 0), (.int .u8 0), (.int .u8 0), (.int .u8 0), (.int .u8 0), (.int .u8 0), (.int .u8 0), (.int .u8 0), (.int .u8 0), (.int .u8 0), (.int .u8 0), (.int .u8 0), (.int .u8 0), (.int .u8 0), (.int .u8 0), (.int .u8 0), (.int .u8 0), (.int .u8 0), (.int .u8 0), (.int .u8 0), (.int .u8 0), (.int .u8 0), (.int .u8 0), (.int .u8 0), (.int .u8 0), (.int .u8 0), (.int .u8 0), (.int .u8 0), (.int .u8 0), (.int .u8 0), (.int .u8 0), (.int .u8 0), (.int .u8 0), (.int .u8 0), (.int .u8 0), (.int .u8 0), (.int .u8 0), (.int .u8 0), (.int .u8 0), (.int .u8 0), (.int .u8 0), (.int .u8 0), (.int .u8 0), (.int .u8 0), (.int .u8 0), (.int .u8 0), (.int .u8 0), (.int .u8 0), (.int .u8 0), (.int .u8 0), (.int .u8 0), (.int .u8 0), (.int .u8 0), (.int .u8 0), (.int .u8 0), (.int .u8 0), (.int .u8 0), (.int .u8 0), (.int .u8 0), (.int .u8 0), (.int .u8 0), (.int .u8 0), (.int .u8 0), (.int .u8 0), (.int .u8 0), (.int .u8 0), (.int .u8 0), (.int .u8 0), (.int .u8 0), (.int .u8 0), (.int .u8 0), (.int .u8 0), (.int .u8 0), (.int .u8 0), (.int .u8 0), (.int .u8 0), (.int .u8 0), (.int .u8 0), (.int .u8 0), (.int .u8 0), (.int .u8 0), (.int .u8 0), (.int .u8 0), (.int .u8 0), (.int .u8 0), (.int .u8 0), (.int .u8 0), (.int .u8 0), (.int .u8 0), (.int .u8 0), (.int .u8 0), (.int .u8 0), (.int .u8 0), (.int .u8 0), (.int .u8 0), (.int .u8 0), (.int .u8 0), (.int .u8 0), (.int .u8 0), (.int .u8 0), (.int .u8 0), (.int .u8 0), (.int .u8 0), (.int .u8 0), (.int .u8 0), (.int .u8 0), (.int .u8 0), (.int .u8 0), (.int .u8 0), (.int .u8 0), (.int .u8 0), (.int .u8 0), (.int .u8 0), (.int .u8 0), (.int .u8 0), (.int .u8 0), (.int .u8 0), (.int .u8 0), (.int .u8 0), (.int .u8 0), (.int .u8 0), (.int .u8 0), (.int .u8 0), (.int .u8 0), (.int .u8 0), (.int .u8 0), (.int .u8 0), (.int .u8 0), (.int .u8 0), (.int .u8 0), (.int .u8 0), (.int .u8 0), (.int .u8 0), (.int .u8 0), (.int .u8 0), (.int .u8 0), (.int .u8 0), (.int .u8 0), (.int .u8 0), (.int .u8 0), (.int .u8 0), (.int .u8 0), (.int .u8 0), (.int .u8 0), (.int .u8 0), (.int .u8 0), (.int .u8 0), (.int .u8 0), (.int .u8 0), (.int .u8 0), (.int .u8 0), (.int .u8 0), (.int .u8 0), (.int .u8 0), (.int .u8 0), (.int .u8 0), (.int .u8 0), (.int .u8 0), (.int .u8 0), (.int .u8 0), (.int .u8 0), (.int .u8 0), (.int .u8 0), (.int .u8 0), (.int .u8 0), (.int .u8 0), (.int .u8 0), (.int .u8 0), (.int .u8 0), (.int .u8 0), (.int .u8 0), (.int .u8 0), (.int .u8 0), (.int .u8 0), (.int .u8 0), (.int .u8 0), (.int .u8 0), (.int .u8 0), (.int .u8 0), (.int .u8 0), (.int .u8 0), (.int .u8 0), (.int .u8 0), (.int .u8 0), (.int .u8 0), (.int .u8 0), (.int .u8 0), (.int .u8 0), (.int .i64 0), (.int .i64 0), (.int .i64 0), (.int .i64 0), (.int .i64 0), (.int .i64 0), (.int .i64 0), (.int .i64 0), (.int .i64 0), (.int .i64 0), (.int .i64 0), (.int .i64 0), (.int .i64 0), (.int .i64 0), (.int .i64 0), (.int .i64 0), (.int .i64 0), (.int .i64 0), (.int .i64 0), (.int .i64 0), (.int .i64 0), (.int .i64 0), (.int .i64 0), (.int .i64 0), (.int .i64 0), (.int .i64 0), (.int .i64 0), (.int .i64 0), (.int .i64 0), (.int .i64 0), (.int .i64 0), (.int .i64 0), (.int .i64 0), (.int .i64 0), (.int .i64 0), (.int .i64 0), (.int .i64 0), (.int .i64 0), (.int .i64 0), (.int .i64 0), (.int .i64 0), (.int .i64 0), (.int .i64 0), (.int .i64 0), (.int .i64 0), (.int .i64 0), (.int .i64 0), (.int .i64 0), (.int .i64 0), (.int .i64 0), (.int .i64 0), (.int .i64 0), (.int .i64 0), (.int .i64 0), (.int .i64 0), (.int .i64 0), (.int .i64 0), (.int .i64 0), (.int .i64 0), (.int .i64 0), (.int .i64 0), (.int .i64 0), (.int .i64 0), (.int .i64 0), (.int .i64 0), (.int .i64 0), (.int .i64 0), (.int .i64 0), (.int .i64 0), (.int .i64 0), (.int .i64 0), (.int .i64 0), (.int .i64 0), (.int .i64 0), (.int .i64 0), (.int .i64 0), (.int .i64 0), (.int .i64 0), (.int .i64 0), (.int .i64 0), (.int .i64 0), (.int .i64 0), (.int .i64 0), (.int .i64 0), (.int .i64 0), (.int .i64 0), (.int .i64 0), (.int .i64 0), (.int .i64 0), (.int .i64 0), (.int .i64 0), (.int .i64 0), (.int .i64 0), (.int .i64 0), (.int .i64 0), (.int .i64 0), (.int .i64 0), (.int .i64 0), (.int .i64 0), (.int .i64 0), (.int .i64 0), (.int .i64 0), (.int .i64 0), (.int .i64 0), (.int .i64 0), (.int .i64 0), (.int .i64 0), (.int .i64 0), (.int .i64 0), (.int .i64 0), (.int .i64 0), (.int .i64 0), (.int .i64 0), (.int .i64 0), (.int .i64 0), (.int .i64 0), (.int .i64 0), (.int .i64 0), (.int .i64 0), (.int .i64 0), (.int .i64 0), (.int .i64 0), (.int .i64 0), (.int .i64 0), (.int .i64 0), (.int .i64 0), (.int .i64 0), (.int .i64 0), (.int .i64 0), (.int .i64 0), (.int .i64 0), (.int .i64 0), (.int .i64 0), (.int .i64 0), (.int .i64 0), (.int .i64 0), (.int .i64 0), (.int .i64 0), (.int .i64 0), (.int .i64 0), (.int .i64 0), (.int .i64 0), (.int .i64 0), (.int .i64 0), (.int .i64 0), (.int .i64 0), (.int .i64 0), (.int .i64 0), (.int .i64 0), (.int .i64 0), (.int .i64 0), (.int .i64 0), (.int .i64 0), (.int .i64 0), (.int .i64 0), (.int .i64 0), (.int .i64 0), (.int .i64 0), (.int .i64 0), (.int .i64 0), (.int .i64 0), (.int .i64 0), (.int .i64 0), (.int .i64 0), (.int .i64 0), (.int .i64 0), (.int .i64 0), (.int .i64 0), (.int .i64 0), (.int .i64 0), (.int .i64 0), (.int .i64 0), (.int .i64 0), (.int .i64 0), (.int .i64 0), (.int .i64 0), (.int .i64 0), (.int .i64 0), (.int .i64 0), (.int .i64 0), (.int .i64 0), (.int .i64 0), (.int .i64 0), (.int .i64 0), (.int .i64 0), (.int .i64 0), (.int .i64 0), (.int .i64 0), (.int .i64 0), (.int .i64 0), (.int .i64 0), (.int .i64 0), (.int .i64 0), (.int .i64 0), (.int .i64 0), (.int .i64 0), (.int .i64 0), (.int .i64 0), (.int .i64 0), (.int .i64 0), (.int .i64 0), (.int .i64 0), (.int .i64 0), (.int .i64 0), (.int .i64 0), (.int .i64 0), (.int .i64 0), (.int .i64 0), (.int .i64 0), (.int .i64 0), (.int .i64 0), (.int .i64 0), (.int .i64 0), (.int .i64 0), (.int .i64 0), (.int .i64 0), (.int .i64 0), (.int .i64 0), (.int .i64 0), (.int .i64 0), (.int .i64 0), (.int .i64 0), (.int .i64 0), (.int .i64 0), (.int .i64 0), (.int .i64 0), (.int .i64 0), (.int .i64 0), (.int .i64 0), (.int .i64 0), (.int .i64 0), (.int .i64 0), (.int .i64 0), (.int .i64 0), (.int .i64 0), (.int .i64 0), (.int .i64 0), (.int .i64 0), (.int .i64 0), (.int .i64 0), (.int .i64 0), (.int .i64 0), (.int .i64 0), (.int .i64 0), (.int .i64 0), (.int .i64 0), (.int .i64 0), (.int .i64 0), (.int .i64 0), (.int .i64 0), (.int .i64 0), (.int .i64 0), (.int .i64 0), (.int .i64 0), (.int .i64 0), (.int .i64 0)] []) h) fun y1 h =>
  thenV (box y1 h) fun y2 h =>
  thenV (some (y2, h)) fun y0_1 h =>
  some (y0_1, h)
theorem t191_eq (C : CallF) (h : Heap) : bodyK Tryz.prog C Tryz.f191 [] h = t191 C  h :=
  (bodyB_eq Tryz.prog C Tryz.f191 [] h (by kernel_rfl)).trans (by kernel_rfl)


/-- slices.Clone[[]*stolon/peer.operation,*stolon/peer.operation] -/
noncomputable def t215 (_C : CallF) (x0 : Value) (h : Heap) : Out :=
  thenV (some ((.slice none 0 0), h)) fun _y2 h =>
  thenV (some (x0, h)) fun y3 h =>
  thenV (pu (bin Tryz.prog .eql 193 y3 (.slice none 0 0)) h) fun y4 h =>
  (match y4 with
  | .bool true =>
  thenV (some ((.slice none 0 0), h)) fun y2_1 h =>
  some (y2_1, h)
  | .bool false =>
  thenV (bslR 1 (.pointer none) 0 [] h) fun y5 h =>
  thenV (some (x0, h)) fun y6 h =>
  thenV (appendA 1 8 y5 y6 h) fun y7 h =>
  thenV (some (y7, h)) fun y2_1 h =>
  some (y2_1, h)
  | _ => none)
theorem t215_eq (C : CallF) (x0 : Value) (h : Heap) : bodyK Tryz.prog C Tryz.f215 [x0] h = t215 C x0 h :=
  (bodyB_eq Tryz.prog C Tryz.f215 [x0] h (by kernel_rfl)).trans (by kernel_rfl)


/-- math/bits.Len64 -/
noncomputable def t228 (_C : CallF) (x0 : Value) (h : Heap) : Out :=
  thenV (some ((.int .i64 0), h)) fun y2 h =>
  thenV (some (x0, h)) fun y3 h =>
  thenV (pu (bin Tryz.prog .geq 27 y3 (.int .u64 4294967296)) h) fun y4 h =>
  (match y4 with
  | .bool true =>
  thenV (some (x0, h)) fun y5 h =>
  thenV (pu (bin Tryz.prog .shr 27 y5 (.int .u64 32)) h) fun y6 h =>
  thenV (some (y6, h)) fun y0 h =>
  thenV (some ((.int .i64 32), h)) fun y2_1 h =>
  thenV (some (y0, h)) fun y7 h =>
  thenV (pu (bin Tryz.prog .geq 27 y7 (.int .u64 65536)) h) fun y8 h =>
  (match y8 with
  | .bool true =>
  thenV (some (y0, h)) fun y9 h =>
  thenV (pu (bin Tryz.prog .shr 27 y9 (.int .u64 16)) h) fun y10 h =>
  thenV (some (y10, h)) fun y0_1 h =>
  thenV (some (y2_1, h)) fun y11 h =>
  thenV (pu (bin Tryz.prog .add 3 y11 (.int .i64 16)) h) fun y12 h =>
  thenV (some (y12, h)) fun y2_2 h =>
  thenV (some (y0_1, h)) fun y13 h =>
  thenV (pu (bin Tryz.prog .geq 27 y13 (.int .u64 256)) h) fun y14 h =>
  (match y14 with
  | .bool true =>
  thenV (some (y0_1, h)) fun y15 h =>
  thenV (pu (bin Tryz.prog .shr 27 y15 (.int .u64 8)) h) fun y16 h =>
  thenV (some (y16, h)) fun y0_2 h =>
  thenV (some (y2_2, h)) fun y17 h =>
  thenV (pu (bin Tryz.prog .add 3 y17 (.int .i64 8)) h) fun y18 h =>
  thenV (some (y18, h)) fun y2_3 h =>
  thenV (some (y2_3, h)) fun y19 h =>
  thenV (some (y0_2, h)) fun y20 h =>
  thenV (cvI .u8 y20 h) fun y21 h =>
  thenV (pu (ixS (.string ⟨#[0, 1, 2, 2, 3, 3, 3, 3, 4, 4, 4, 4, 4, 4, 4, 4, 5, 5, 5, 5, 5, 5, 5, 5, 5, 5, 5, 5, 5, 5, 5, 5, 6, 6, 6, 6, 6, 6, 6, 6, 6, 6, 6, 6, 6, 6, 6, 6, 6, 6, 6, 6, 6, 6, 6, 6, 6, 6, 6, 6, 6, 6, 6, 6, 7, 7, 7, 7, 7, 7, 7, 7, 7, 7, 7, 7, 7, 7, 7, 7, 7, 7, 7, 7, 7, 7, 7, 7, 7, 7, 7, 7, 7, 7, 7, 7, 7, 7, 7, 7, 7, 7, 7, 7, 7, 7, 7, 7, 7, 7, 7, 7, 7, 7, 7, 7, 7, 7, 7, 7, 7, 7, 7, 7, 7, 7, 7, 7, 8, 8, 8, 8, 8, 8, 8, 8, 8, 8, 8, 8, 8, 8, 8, 8, 8, 8, 8, 8, 8, 8, 8, 8, 8, 8, 8, 8, 8, 8, 8, 8, 8, 8, 8, 8, 8, 8, 8, 8, 8, 8, 8, 8, 8, 8, 8, 8, 8, 8, 8, 8, 8, 8, 8, 8, 8, 8, 8, 8, 8, 8, 8, 8, 8, 8, 8, 8, 8, 8, 8, 8, 8, 8, 8, 8, 8, 8, 8, 8, 8, 8, 8, 8, 8, 8, 8, 8, 8, 8, 8, 8, 8, 8, 8, 8, 8, 8, 8, 8, 8, 8, 8, 8, 8, 8, 8, 8, 8, 8, 8, 8, 8, 8, 8, 8, 8, 8, 8, 8, 8, 8, 8, 8, 8, 8, 8, 8]⟩) y21) h) fun y22 h =>
  thenV (cvI .i64 y22 h) fun y23 h =>
  thenV (pu (bin Tryz.prog .add 3 y19 y23) h) fun y24 h =>
  thenV (some (y24, h)) fun y2_4 h =>
  some (y2_4, h)
  | .bool false =>
  thenV (some (y2_2, h)) fun y19 h =>
  thenV (some (y0_1, h)) fun y20 h =>
  thenV (cvI .u8 y20 h) fun y21 h =>
  thenV (pu (ixS (.string ⟨#[0, 1, 2, 2, 3, 3, 3, 3, 4, 4, 4, 4, 4, 4, 4, 4, 5, 5, 5, 5, 5, 5, 5, 5, 5, 5, 5, 5, 5, 5, 5, 5, 6, 6, 6, 6, 6, 6, 6, 6, 6, 6, 6, 6, 6, 6, 6, 6, 6, 6, 6, 6, 6, 6, 6, 6, 6, 6, 6, 6, 6, 6, 6, 6, 7, 7, 7, 7, 7, 7, 7, 7, 7, 7, 7, 7, 7, 7, 7, 7, 7, 7, 7, 7, 7, 7, 7, 7, 7, 7, 7, 7, 7, 7, 7, 7, 7, 7, 7, 7, 7, 7, 7, 7, 7, 7, 7, 7, 7, 7, 7, 7, 7, 7, 7, 7, 7, 7, 7, 7, 7, 7, 7, 7, 7, 7, 7, 7, 8, 8, 8, 8, 8, 8, 8, 8, 8, 8, 8, 8, 8, 8, 8, 8, 8, 8, 8, 8, 8, 8, 8, 8, 8, 8, 8, 8, 8, 8, 8, 8, 8, 8, 8, 8, 8, 8, 8, 8, 8, 8, 8, 8, 8, 8, 8, 8, 8, 8, 8, 8, 8, 8, 8, 8, 8, 8, 8, 8, 8, 8, 8, 8, 8, 8, 8, 8, 8, 8, 8, 8, 8, 8, 8, 8, 8, 8, 8, 8, 8, 8, 8, 8, 8, 8, 8, 8, 8, 8, 8, 8, 8, 8, 8, 8, 8, 8, 8, 8, 8, 8, 8, 8, 8, 8, 8, 8, 8, 8, 8, 8, 8, 8, 8, 8, 8, 8, 8, 8, 8, 8, 8, 8, 8, 8, 8, 8]⟩) y21) h) fun y22 h =>
  thenV (cvI .i64 y22 h) fun y23 h =>
  thenV (pu (bin Tryz.prog .add 3 y19 y23) h) fun y24 h =>
  thenV (some (y24, h)) fun y2_3 h =>
  some (y2_3, h)
  | _ => none)
  | .bool false =>
  thenV (some (y0, h)) fun y13 h =>
  thenV (pu (bin Tryz.prog .geq 27 y13 (.int .u64 256)) h) fun y14 h =>
  (match y14 with
  | .bool true =>
  thenV (some (y0, h)) fun y15 h =>
  thenV (pu (bin Tryz.prog .shr 27 y15 (.int .u64 8)) h) fun y16 h =>
  thenV (some (y16, h)) fun y0_1 h =>
  thenV (some (y2_1, h)) fun y17 h =>
  thenV (pu (bin Tryz.prog .add 3 y17 (.int .i64 8)) h) fun y18 h =>
  thenV (some (y18, h)) fun y2_2 h =>
  thenV (some (y2_2, h)) fun y19 h =>
  thenV (some (y0_1, h)) fun y20 h =>
  thenV (cvI .u8 y20 h) fun y21 h =>
  thenV (pu (ixS (.string ⟨#[0, 1, 2, 2, 3, 3, 3, 3, 4, 4, 4, 4, 4, 4, 4, 4, 5, 5, 5, 5, 5, 5, 5, 5, 5, 5, 5, 5, 5, 5, 5, 5, 6, 6, 6, 6, 6, 6, 6, 6, 6, 6, 6, 6, 6, 6, 6, 6, 6, 6, 6, 6, 6, 6, 6, 6, 6, 6, 6, 6, 6, 6, 6, 6, 7, 7, 7, 7, 7, 7, 7, 7, 7, 7, 7, 7, 7, 7, 7, 7, 7, 7, 7, 7, 7, 7, 7, 7, 7, 7, 7, 7, 7, 7, 7, 7, 7, 7, 7, 7, 7, 7, 7, 7, 7, 7, 7, 7, 7, 7, 7, 7, 7, 7, 7, 7, 7, 7, 7, 7, 7, 7, 7, 7, 7, 7, 7, 7, 8, 8, 8, 8, 8, 8, 8, 8, 8, 8, 8, 8, 8, 8, 8, 8, 8, 8, 8, 8, 8, 8, 8, 8, 8, 8, 8, 8, 8, 8, 8, 8, 8, 8, 8, 8, 8, 8, 8, 8, 8, 8, 8, 8, 8, 8, 8, 8, 8, 8, 8, 8, 8, 8, 8, 8, 8, 8, 8, 8, 8, 8, 8, 8, 8, 8, 8, 8, 8, 8, 8, 8, 8, 8, 8, 8, 8, 8, 8, 8, 8, 8, 8, 8, 8, 8, 8, 8, 8, 8, 8, 8, 8, 8, 8, 8, 8, 8, 8, 8, 8, 8, 8, 8, 8, 8, 8, 8, 8, 8, 8, 8, 8, 8, 8, 8, 8, 8, 8, 8, 8, 8, 8, 8, 8, 8, 8, 8]⟩) y21) h) fun y22 h =>
  thenV (cvI .i64 y22 h) fun y23 h =>
  thenV (pu (bin Tryz.prog .add 3 y19 y23) h) fun y24 h =>
  thenV (some (y24, h)) fun y2_3 h =>
  some (y2_3, h)
  | .bool false =>
  thenV (some (y2_1, h)) fun y19 h =>
  thenV (some (y0, h)) fun y20 h =>
  thenV (cvI .u8 y20 h) fun y21 h =>
  thenV (pu (ixS (.string ⟨#[0, 1, 2, 2, 3, 3, 3, 3, 4, 4, 4, 4, 4, 4, 4, 4, 5, 5, 5, 5, 5, 5, 5, 5, 5, 5, 5, 5, 5, 5, 5, 5, 6, 6, 6, 6, 6, 6, 6, 6, 6, 6, 6, 6, 6, 6, 6, 6, 6, 6, 6, 6, 6, 6, 6, 6, 6, 6, 6, 6, 6, 6, 6, 6, 7, 7, 7, 7, 7, 7, 7, 7, 7, 7, 7, 7, 7, 7, 7, 7, 7, 7, 7, 7, 7, 7, 7, 7, 7, 7, 7, 7, 7, 7, 7, 7, 7, 7, 7, 7, 7, 7, 7, 7, 7, 7, 7, 7, 7, 7, 7, 7, 7, 7, 7, 7, 7, 7, 7, 7, 7, 7, 7, 7, 7, 7, 7, 7, 8, 8, 8, 8, 8, 8, 8, 8, 8, 8, 8, 8, 8, 8, 8, 8, 8, 8, 8, 8, 8, 8, 8, 8, 8, 8, 8, 8, 8, 8, 8, 8, 8, 8, 8, 8, 8, 8, 8, 8, 8, 8, 8, 8, 8, 8, 8, 8, 8, 8, 8, 8, 8, 8, 8, 8, 8, 8, 8, 8, 8, 8, 8, 8, 8, 8, 8, 8, 8, 8, 8, 8, 8, 8, 8, 8, 8, 8, 8, 8, 8, 8, 8, 8, 8, 8, 8, 8, 8, 8, 8, 8, 8, 8, 8, 8, 8, 8, 8, 8, 8, 8, 8, 8, 8, 8, 8, 8, 8, 8, 8, 8, 8, 8, 8, 8, 8, 8, 8, 8, 8, 8, 8, 8, 8, 8, 8, 8]⟩) y21) h) fun y22 h =>
  thenV (cvI .i64 y22 h) fun y23 h =>
  thenV (pu (bin Tryz.prog .add 3 y19 y23) h) fun y24 h =>
  thenV (some (y24, h)) fun y2_2 h =>
  some (y2_2, h)
  | _ => none)
  | _ => none)
  | .bool false =>
  thenV (some (x0, h)) fun y7 h =>
  thenV (pu (bin Tryz.prog .geq 27 y7 (.int .u64 65536)) h) fun y8 h =>
  (match y8 with
  | .bool true =>
  thenV (some (x0, h)) fun y9 h =>
  thenV (pu (bin Tryz.prog .shr 27 y9 (.int .u64 16)) h) fun y10 h =>
  thenV (some (y10, h)) fun y0 h =>
  thenV (some (y2, h)) fun y11 h =>
  thenV (pu (bin Tryz.prog .add 3 y11 (.int .i64 16)) h) fun y12 h =>
  thenV (some (y12, h)) fun y2_1 h =>
  thenV (some (y0, h)) fun y13 h =>
  thenV (pu (bin Tryz.prog .geq 27 y13 (.int .u64 256)) h) fun y14 h =>
  (match y14 with
  | .bool true =>
  thenV (some (y0, h)) fun y15 h =>
  thenV (pu (bin Tryz.prog .shr 27 y15 (.int .u64 8)) h) fun y16 h =>
  thenV (some (y16, h)) fun y0_1 h =>
  thenV (some (y2_1, h)) fun y17 h =>
  thenV (pu (bin Tryz.prog .add 3 y17 (.int .i64 8)) h) fun y18 h =>
  thenV (some (y18, h)) fun y2_2 h =>
  thenV (some (y2_2, h)) fun y19 h =>
  thenV (some (y0_1, h)) fun y20 h =>
  thenV (cvI .u8 y20 h) fun y21 h =>
  thenV (pu (ixS (.string ⟨#[0, 1, 2, 2, 3, 3, 3, 3, 4, 4, 4, 4, 4, 4, 4, 4, 5, 5, 5, 5, 5, 5, 5, 5, 5, 5, 5, 5, 5, 5, 5, 5, 6, 6, 6, 6, 6, 6, 6, 6, 6, 6, 6, 6, 6, 6, 6, 6, 6, 6, 6, 6, 6, 6, 6, 6, 6, 6, 6, 6, 6, 6, 6, 6, 7, 7, 7, 7, 7, 7, 7, 7, 7, 7, 7, 7, 7, 7, 7, 7, 7, 7, 7, 7, 7, 7, 7, 7, 7, 7, 7, 7, 7, 7, 7, 7, 7, 7, 7, 7, 7, 7, 7, 7, 7, 7, 7, 7, 7, 7, 7, 7, 7, 7, 7, 7, 7, 7, 7, 7, 7, 7, 7, 7, 7, 7, 7, 7, 8, 8, 8, 8, 8, 8, 8, 8, 8, 8, 8, 8, 8, 8, 8, 8, 8, 8, 8, 8, 8, 8, 8, 8, 8, 8, 8, 8, 8, 8, 8, 8, 8, 8, 8, 8, 8, 8, 8, 8, 8, 8, 8, 8, 8, 8, 8, 8, 8, 8, 8, 8, 8, 8, 8, 8, 8, 8, 8, 8, 8, 8, 8, 8, 8, 8, 8, 8, 8, 8, 8, 8, 8, 8, 8, 8, 8, 8, 8, 8, 8, 8, 8, 8, 8, 8, 8, 8, 8, 8, 8, 8, 8, 8, 8, 8, 8, 8, 8, 8, 8, 8, 8, 8, 8, 8, 8, 8, 8, 8, 8, 8, 8, 8, 8, 8, 8, 8, 8, 8, 8, 8, 8, 8, 8, 8, 8, 8]⟩) y21) h) fun y22 h =>
  thenV (cvI .i64 y22 h) fun y23 h =>
  thenV (pu (bin Tryz.prog .add 3 y19 y23) h) fun y24 h =>
  thenV (some (y24, h)) fun y2_3 h =>
  some (y2_3, h)
  | .bool false =>
  thenV (some (y2_1, h)) fun y19 h =>
  thenV (some (y0, h)) fun y20 h =>
  thenV (cvI .u8 y20 h) fun y21 h =>
  thenV (pu (ixS (.string ⟨#[0, 1, 2, 2, 3, 3, 3, 3, 4, 4, 4, 4, 4, 4, 4, 4, 5, 5, 5, 5, 5, 5, 5, 5, 5, 5, 5, 5, 5, 5, 5, 5, 6, 6, 6, 6, 6, 6, 6, 6, 6, 6, 6, 6, 6, 6, 6, 6, 6, 6, 6, 6, 6, 6, 6, 6, 6, 6, 6, 6, 6, 6, 6, 6, 7, 7, 7, 7, 7, 7, 7, 7, 7, 7, 7, 7, 7, 7, 7, 7, 7, 7, 7, 7, 7, 7, 7, 7, 7, 7, 7, 7, 7, 7, 7, 7, 7, 7, 7, 7, 7, 7, 7, 7, 7, 7, 7, 7, 7, 7, 7, 7, 7, 7, 7, 7, 7, 7, 7, 7, 7, 7, 7, 7, 7, 7, 7, 7, 8, 8, 8, 8, 8, 8, 8, 8, 8, 8, 8, 8, 8, 8, 8, 8, 8, 8, 8, 8, 8, 8, 8, 8, 8, 8, 8, 8, 8, 8, 8, 8, 8, 8, 8, 8, 8, 8, 8, 8, 8, 8, 8, 8, 8, 8, 8, 8, 8, 8, 8, 8, 8, 8, 8, 8, 8, 8, 8, 8, 8, 8, 8, 8, 8, 8, 8, 8, 8, 8, 8, 8, 8, 8, 8, 8, 8, 8, 8, 8, 8, 8, 8, 8, 8, 8, 8, 8, 8, 8, 8, 8, 8, 8, 8, 8, 8, 8, 8, 8, 8, 8, 8, 8, 8, 8, 8, 8, 8, 8, 8, 8, 8, 8, 8, 8, 8, 8, 8, 8, 8, 8, 8, 8, 8, 8, 8, 8]⟩) y21) h) fun y22 h =>
  thenV (cvI .i64 y22 h) fun y23 h =>
  thenV (pu (bin Tryz.prog .add 3 y19 y23) h) fun y24 h =>
  thenV (some (y24, h)) fun y2_2 h =>
  some (y2_2, h)
  | _ => none)
  | .bool false =>
  thenV (some (x0, h)) fun y13 h =>
  thenV (pu (bin Tryz.prog .geq 27 y13 (.int .u64 256)) h) fun y14 h =>
  (match y14 with
  | .bool true =>
  thenV (some (x0, h)) fun y15 h =>
  thenV (pu (bin Tryz.prog .shr 27 y15 (.int .u64 8)) h) fun y16 h =>
  thenV (some (y16, h)) fun y0 h =>
  thenV (some (y2, h)) fun y17 h =>
  thenV (pu (bin Tryz.prog .add 3 y17 (.int .i64 8)) h) fun y18 h =>
  thenV (some (y18, h)) fun y2_1 h =>
  thenV (some (y2_1, h)) fun y19 h =>
  thenV (some (y0, h)) fun y20 h =>
  thenV (cvI .u8 y20 h) fun y21 h =>
  thenV (pu (ixS (.string ⟨#[0, 1, 2, 2, 3, 3, 3, 3, 4, 4, 4, 4, 4, 4, 4, 4, 5, 5, 5, 5, 5, 5, 5, 5, 5, 5, 5, 5, 5, 5, 5, 5, 6, 6, 6, 6, 6, 6, 6, 6, 6, 6, 6, 6, 6, 6, 6, 6, 6, 6, 6, 6, 6, 6, 6, 6, 6, 6, 6, 6, 6, 6, 6, 6, 7, 7, 7, 7, 7, 7, 7, 7, 7, 7, 7, 7, 7, 7, 7, 7, 7, 7, 7, 7, 7, 7, 7, 7, 7, 7, 7, 7, 7, 7, 7, 7, 7, 7, 7, 7, 7, 7, 7, 7, 7, 7, 7, 7, 7, 7, 7, 7, 7, 7, 7, 7, 7, 7, 7, 7, 7, 7, 7, 7, 7, 7, 7, 7, 8, 8, 8, 8, 8, 8, 8, 8, 8, 8, 8, 8, 8, 8, 8, 8, 8, 8, 8, 8, 8, 8, 8, 8, 8, 8, 8, 8, 8, 8, 8, 8, 8, 8, 8, 8, 8, 8, 8, 8, 8, 8, 8, 8, 8, 8, 8, 8, 8, 8, 8, 8, 8, 8, 8, 8, 8, 8, 8, 8, 8, 8, 8, 8, 8, 8, 8, 8, 8, 8, 8, 8, 8, 8, 8, 8, 8, 8, 8, 8, 8, 8, 8, 8, 8, 8, 8, 8, 8, 8, 8, 8, 8, 8, 8, 8, 8, 8, 8, 8, 8, 8, 8, 8, 8, 8, 8, 8, 8, 8, 8, 8, 8, 8, 8, 8, 8, 8, 8, 8, 8, 8, 8, 8, 8, 8, 8, 8]⟩) y21) h) fun y22 h =>
  thenV (cvI .i64 y22 h) fun y23 h =>
  thenV (pu (bin Tryz.prog .add 3 y19 y23) h) fun y24 h =>
  thenV (some (y24, h)) fun y2_2 h =>
  some (y2_2, h)
  | .bool false =>
  thenV (some (y2, h)) fun y19 h =>
  thenV (some (x0, h)) fun y20 h =>
  thenV (cvI .u8 y20 h) fun y21 h =>
  thenV (pu (ixS (.string ⟨#[0, 1, 2, 2, 3, 3, 3, 3, 4, 4, 4, 4, 4, 4, 4, 4, 5, 5, 5, 5, 5, 5, 5, 5, 5, 5, 5, 5, 5, 5, 5, 5, 6, 6, 6, 6, 6, 6, 6, 6, 6, 6, 6, 6, 6, 6, 6, 6, 6, 6, 6, 6, 6, 6, 6, 6, 6, 6, 6, 6, 6, 6, 6, 6, 7, 7, 7, 7, 7, 7, 7, 7, 7, 7, 7, 7, 7, 7, 7, 7, 7, 7, 7, 7, 7, 7, 7, 7, 7, 7, 7, 7, 7, 7, 7, 7, 7, 7, 7, 7, 7, 7, 7, 7, 7, 7, 7, 7, 7, 7, 7, 7, 7, 7, 7, 7, 7, 7, 7, 7, 7, 7, 7, 7, 7, 7, 7, 7, 8, 8, 8, 8, 8, 8, 8, 8, 8, 8, 8, 8, 8, 8, 8, 8, 8, 8, 8, 8, 8, 8, 8, 8, 8, 8, 8, 8, 8, 8, 8, 8, 8, 8, 8, 8, 8, 8, 8, 8, 8, 8, 8, 8, 8, 8, 8, 8, 8, 8, 8, 8, 8, 8, 8, 8, 8, 8, 8, 8, 8, 8, 8, 8, 8, 8, 8, 8, 8, 8, 8, 8, 8, 8, 8, 8, 8, 8, 8, 8, 8, 8, 8, 8, 8, 8, 8, 8, 8, 8, 8, 8, 8, 8, 8, 8, 8, 8, 8, 8, 8, 8, 8, 8, 8, 8, 8, 8, 8, 8, 8, 8, 8, 8, 8, 8, 8, 8, 8, 8, 8, 8, 8, 8, 8, 8, 8, 8]⟩) y21) h) fun y22 h =>
  thenV (cvI .i64 y22 h) fun y23 h =>
  thenV (pu (bin Tryz.prog .add 3 y19 y23) h) fun y24 h =>
  thenV (some (y24, h)) fun y2_1 h =>
  some (y2_1, h)
  | _ => none)
  | _ => none)
  | _ => none)
theorem t228_eq (C : CallF) (x0 : Value) (h : Heap) : bodyK Tryz.prog C Tryz.f228 [x0] h = t228 C x0 h :=
  (bodyB_eq Tryz.prog C Tryz.f228 [x0] h (by kernel_rfl)).trans (by kernel_rfl)


/-- maps.Keys[map[stolon/api.Digest]stolon/store.item,stolon/api.Digest,stolon/store.item] -/
noncomputable def t234 (_C : CallF) (x0 : Value) (h : Heap) : Out :=
  thenV (box x0 h) fun y1 h =>
  thenV (some (.nilFunc, h)) fun _y2 h =>
  thenV (some (.func (.func 320) #[] #[y1], h)) fun y3 h =>
  thenV (some (y3, h)) fun y2_1 h =>
  some (y2_1, h)
theorem t234_eq (C : CallF) (x0 : Value) (h : Heap) : bodyK Tryz.prog C Tryz.f234 [x0] h = t234 C x0 h :=
  (bodyB_eq Tryz.prog C Tryz.f234 [x0] h (by kernel_rfl)).trans (by kernel_rfl)


/-- stolon/wire.stripPing -/
noncomputable def t240 (_C : CallF) (x0 : Value) (h : Heap) : Out :=
  thenV (box x0 h) fun y1 h =>
  thenV (newC [(.int .u8 0), (.int .i64 0), (.int .i64 0), (.int .u64 0), (.int .i64 0), (.int .i64 0), (.slice none 0 0), (.slice none 0 0), (.slice none 0 0), (.int .i64 0), (.int .u8 0), (.int .u8 0), (.int .u8 0), (.int .u8 0), (.int .u8 0), (.int .u8 0), (.int .u8 0), (.int .u8 0), (.int .u8 0), (.int .u8 0), (.int .u8 0), (.int .u8 0), (.int .u8 0), (.int .u8 0), (.int .u8 0), (.int .u8 0), (.int .u8 0), (.int .u8 0), (.int .u8 0), (.int .u8 0), (.int .u8 0), (.int .u8 0), (.int .u8 0), (.int .u8 0), (.int .u8 0), (.int .u8 0), (.int .u8 0), (.int .u8 0), (.int .u8 0), (.int .u8 0), (.int .u8 0), (.int .u8 0), (.slice none 0 0), (.bool false), (.int .u8 0), (.int .u8 0), (.int .u8 0), (.int .u8 0), (.int .u8 0), (.int .u8 0), (.int .u8 0), (.int .u8 0), (.int .u8 0), (.int .u8 0), (.int .u8 0), (.int .u8 0), (.int .u8 0), (.int .u8 0), (.int .u8 0), (.int .u8 0), (.int .u8 0), (.int .u8 0), (.int .u8 0), (.int .u8 0), (.int .u8 0), (.int .u8 0), (.int .u8 0), (.int .u8 0), (.int .u8 0), (.int .u8 0), (.int .u8 0), (.int .u8 0), (.int .u8 0), (.int .u8 0), (.int .u8 0), (.int .u8 0), (.int .i64 0), (.int .i64 0), (.int .i64 0), (.int .i64 0), (.int .u8 0), (.int .u8 0), (.int .u8 0), (.int .u8 0), (.int .u8 0), (.int .u8 0), (.int .u8 0), (.int .u8 0), (.int .u8 0), (.int .u8 0), (.int .u8 0), (.int .u8 0), (.int .u8 0), (.int .u8 0), (.int .u8 0), (.int .u8 0), (.int .u8 0), (.int .u8 0), (.int .u8 0), (.int .u8 0), (.int .u8 0), (.int .u8 0), (.int .u8 0), (.int .u8 0), (.int .u8 0), (.int .u8 0), (.int .u8 0), (.int .u8 0), (.int .u8 0), (.int .u8 0), (.int .u8 0), (.int .u8 0), (.slice none 0 0), (.int .i64 0), (.slice none 0 0), (.int .i64 0)] h) fun y2 h =>
  thenV (pu (addP y1 3) h) fun y3 h =>
  thenV (ld1 y3 h) fun y4 h =>
  thenV (pu (addP y1 4) h) fun y5 h =>
  thenV (ld1 y5 h) fun y6 h =>
  thenV (pu (addP y1 6) h) fun y7 h =>
  thenV (ld1 y7 h) fun y8 h =>
  thenV (pu (bldR [(.int .u8 0), (.int .i64 0), (.int .i64 0), (.int .u64 0), (.int .i64 0), (.int .i64 0), (.slice none 0 0), (.slice none 0 0), (.slice none 0 0), (.int .i64 0), (.int .u8 0), (.int .u8 0), (.int .u8 0), (.int .u8 0), (.int .u8 0), (.int .u8 0), (.int .u8 0), (.int .u8 0), (.int .u8 0), (.int .u8 0), (.int .u8 0), (.int .u8 0), (.int .u8 0), (.int .u8 0), (.int .u8 0), (.int .u8 0), (.int .u8 0), (.int .u8 0), (.int .u8 0), (.int .u8 0), (.int .u8 0), (.int .u8 0), (.int .u8 0), (.int .u8 0), (.int .u8 0), (.int .u8 0), (.int .u8 0), (.int .u8 0), (.int .u8 0), (.int .u8 0), (.int .u8 0), (.int .u8 0), (.slice none 0 0), (.bool false), (.int .u8 0), (.int .u8 0), (.int .u8 0), (.int .u8 0), (.int .u8 0), (.int .u8 0), (.int .u8 0), (.int .u8 0), (.int .u8 0), (.int .u8 0), (.int .u8 0), (.int .u8 0), (.int .u8 0), (.int .u8 0), (.int .u8 0), (.int .u8 0), (.int .u8 0), (.int .u8 0), (.int .u8 0), (.int .u8 0), (.int .u8 0), (.int .u8 0), (.int .u8 0), (.int .u8 0), (.int .u8 0), (.int .u8 0), (.int .u8 0), (.int .u8 0), (.int .u8 0), (.int .u8 0), (.int .u8 0), (.int .u8 0), (.int .i64 0), (.int .i64 0), (.int .i64 0), (.int .i64 0), (.int .u8 0), (.int .u8 0), (.int .u8 0), (.int .u8 0), (.int .u8 0), (.int .u8 0), (.int .u8 0), (.int .u8 0), (.int .u8 0), (.int .u8 0), (.int .u8 0), (.int .u8 0), (.int .u8 0), (.int .u8 0), (.int .u8 0), (.int .u8 0), (.int .u8 0), (.int .u8 0), (.int .u8 0), (.int .u8 0), (.int .u8 0), (.int .u8 0), (.int .u8 0), (.int .u8 0), (.int .u8 0), (.int .u8 0), (.int .u8 0), (.int .u8 0), (.int .u8 0), (.int .u8 0), (.int .u8 0), (.int .u8 0), (.slice none 0 0), (.int .i64 0), (.slice none 0 0), (.int .i64 0)] [(3, 1, y4), (4, 1, y6), (6, 1, y8)]) h) fun y9 h =>
  thenV (stN 116 y2 y9 h) fun _ h =>
  resultsA Tryz.prog Tryz.f240.results.toList (mkF 10 (up (bs [x0]) [(1, y1), (2, y2), (3, y3), (4, y4), (5, y5), (6, y6), (7, y7), (8, y8), (9, y9)])) h
theorem t240_eq (C : CallF) (x0 : Value) (h : Heap) : bodyK Tryz.prog C Tryz.f240 [x0] h = t240 C x0 h :=
  (bodyB_eq Tryz.prog C Tryz.f240 [x0] h (by kernel_rfl)).trans (by kernel_rfl)


/-- stolon/wire.forms$2 -/
noncomputable def t254 (_C : CallF) (x0 x1 : Value) (h : Heap) : Out :=
  thenV (box x0 h) fun y2 h =>
  thenV (newC [(.string ⟨#[]⟩), .nilFunc, .nilFunc, .nilFunc, .nilFunc] h) fun y4 h =>
  thenV (some (x1, h)) fun y5 h =>
  thenV (pu (addP y2 0) h) fun y6 h =>
  thenV (stN 1 y6 y5 h) fun _ h =>
  thenV (ldN 5 y2 h) fun y7 h =>
  thenV (stN 5 y4 y7 h) fun _ h =>
  resultsA Tryz.prog Tryz.f254.results.toList (mkF 8 (up (bs [x0, x1]) [(2, y2), (4, y4), (5, y5), (6, y6), (7, y7)])) h
theorem t254_eq (C : CallF) (x0 x1 : Value) (h : Heap) : bodyK Tryz.prog C Tryz.f254 [x0, x1] h = t254 C x0 x1 h :=
  (bodyB_eq Tryz.prog C Tryz.f254 [x0, x1] h (by kernel_rfl)).trans (by kernel_rfl)


/-- (*stolon/digest.Writer).Raw -/
noncomputable def t302 (C : CallF) (x0 x1 : Value) (h : Heap) : Out :=
  thenV (some (x0, h)) fun y4 h =>
  thenV (some (x1, h)) fun y5 h =>
  thenV (pu (lenL y5) h) fun y6 h =>
  thenV (C 91 [y4, y6] h) fun y7 h =>
  (match y7 with
  | .bool true =>
  thenV (some (x0, h)) fun y8 h =>
  thenV (some (x0, h)) fun y9 h =>
  thenV (pu (nilCheckA y9) h) fun y10 h =>
  thenV (pu (addP y10 2) h) fun y11 h =>
  thenV (ld1 y11 h) fun y12 h =>
  thenV (some (x1, h)) fun y13 h =>
  thenV (appendA 1 1 y12 y13 h) fun y14 h =>
  thenV (pu (nilCheckA y8) h) fun y15 h =>
  thenV (pu (addP y15 2) h) fun y16 h =>
  thenV (stN 1 y16 y14 h) fun _ h =>
  some (.tuple #[], h)
  | .bool false =>
  some (.tuple #[], h)
  | _ => none)
theorem t302_eq (C : CallF) (x0 x1 : Value) (h : Heap) : bodyK Tryz.prog C Tryz.f302 [x0, x1] h = t302 C x0 x1 h :=
  (bodyB_eq Tryz.prog C Tryz.f302 [x0, x1] h (by kernel_rfl)).trans (by kernel_rfl)


/-- (*stolon/member.Machine).fault -/
noncomputable def t307 (_C : CallF) (x0 : Value) (h : Heap) : Out :=
  thenV (some ((.int .i64 0), h)) fun _y2 h =>
  thenV (some (x0, h)) fun y4 h =>
  thenV (pu (bin Tryz.prog .eql 187 y4 (.pointer none)) h) fun y5 h =>
  thenV (some (y5, h)) fun y3 h =>
  (match y3 with
  | .bool true =>
  thenV (some ((.int .i64 1), h)) fun y2_1 h =>
  some (y2_1, h)
  | .bool false =>
  thenV (some (x0, h)) fun y7 h =>
  thenV (pu (nilCheckA y7) h) fun y8 h =>
  thenV (pu (addP y8 8) h) fun y9 h =>
  thenV (ld1 y9 h) fun y10 h =>
  thenV (some (y10, h)) fun y6 h =>
  (match y6 with
  | .bool true =>
  thenV (some ((.int .i64 30), h)) fun y2_1 h =>
  some (y2_1, h)
  | .bool false =>
  thenV (some ((.int .i64 0), h)) fun y2_1 h =>
  some (y2_1, h)
  | _ => none)
  | _ => none)
theorem t307_eq (C : CallF) (x0 : Value) (h : Heap) : bodyK Tryz.prog C Tryz.f307 [x0] h = t307 C x0 h :=
  (bodyB_eq Tryz.prog C Tryz.f307 [x0] h (by kernel_rfl)).trans (by kernel_rfl)


/-- (*stolon/disk.Journal).fault -/
noncomputable def t318 (_C : CallF) (x0 : Value) (h : Heap) : Out :=
  thenV (some ((.int .i64 0), h)) fun _y2 h =>
  thenV (some (x0, h)) fun y4 h =>
  thenV (pu (bin Tryz.prog .eql 266 y4 (.pointer none)) h) fun y5 h =>
  thenV (some (y5, h)) fun y3 h =>
  (match y3 with
  | .bool true =>
  thenV (some ((.int .i64 1), h)) fun y2_1 h =>
  some (y2_1, h)
  | .bool false =>
  thenV (some (x0, h)) fun y7 h =>
  thenV (pu (nilCheckA y7) h) fun y8 h =>
  thenV (pu (addP y8 0) h) fun y9 h =>
  thenV (ld1 y9 h) fun y10 h =>
  thenV (pu (nilCheckA y10) h) fun y11 h =>
  thenV (pu (addP y11 1) h) fun y12 h =>
  thenV (ld1 y12 h) fun y13 h =>
  thenV (some (y13, h)) fun y14 h =>
  thenV (guardK (bOf y14 == some false) (some (x0, h)) h) fun y15 h =>
  thenV (guardK (bOf y14 == some false) (pu (nilCheckA y15) h) h) fun y16 h =>
  thenV (guardK (bOf y14 == some false) (pu (addP y16 0) h) h) fun y17 h =>
  thenV (guardK (bOf y14 == some false) (ld1 y17 h) h) fun y18 h =>
  thenV (guardK (bOf y14 == some false) (pu (nilCheckA y18) h) h) fun y19 h =>
  thenV (guardK (bOf y14 == some false) (pu (addP y19 5) h) h) fun y20 h =>
  thenV (guardK (bOf y14 == some false) (ld1 y20 h) h) fun y21 h =>
  thenV (guardK (bOf y14 == some false) (some (x0, h)) h) fun y22 h =>
  thenV (guardK (bOf y14 == some false) (pu (nilCheckA y22) h) h) fun y23 h =>
  thenV (guardK (bOf y14 == some false) (pu (addP y23 1) h) h) fun y24 h =>
  thenV (guardK (bOf y14 == some false) (ld1 y24 h) h) fun y25 h =>
  thenV (guardK (bOf y14 == some false) (pu (bin Tryz.prog .neq 3 y21 y25) h) h) fun y26 h =>
  thenV (match y14 with | .bool t => some (if t then (.bool true) else y26, h) | _ => none) fun y27 h =>
  thenV (some (y27, h)) fun y6 h =>
  (match y6 with
  | .bool true =>
  thenV (some ((.int .i64 9), h)) fun y2_1 h =>
  some (y2_1, h)
  | .bool false =>
  thenV (some ((.int .i64 0), h)) fun y2_1 h =>
  some (y2_1, h)
  | _ => none)
  | _ => none)
theorem t318_eq (C : CallF) (x0 : Value) (h : Heap) : bodyK Tryz.prog C Tryz.f318 [x0] h = t318 C x0 h :=
  (bodyB_eq Tryz.prog C Tryz.f318 [x0] h (by kernel_rfl)).trans (by kernel_rfl)


/-- stolon/member.SuspectWait -/
noncomputable def t343 (_C : CallF) (x0 : Value) (h : Heap) : Out :=
  thenV (some ((.int .i64 0), h)) fun _y2 h =>
  thenV (some (x0, h)) fun y3 h =>
  thenV (pu (minmax true y3 [(.int .i64 0)]) h) fun y4 h =>
  thenV (pu (minmax false y4 [(.int .i64 16)]) h) fun y5 h =>
  thenV (pu (bin Tryz.prog .mul 3 (.int .i64 3) y5) h) fun y6 h =>
  thenV (pu (bin Tryz.prog .add 3 (.int .i64 10) y6) h) fun y7 h =>
  thenV (some (y7, h)) fun y2_1 h =>
  some (y2_1, h)
theorem t343_eq (C : CallF) (x0 : Value) (h : Heap) : bodyK Tryz.prog C Tryz.f343 [x0] h = t343 C x0 h :=
  (bodyB_eq Tryz.prog C Tryz.f343 [x0] h (by kernel_rfl)).trans (by kernel_rfl)


/-- (*stolon/member.Machine).next -/
noncomputable def t344 (_C : CallF) (x0 : Value) (h : Heap) : Out :=
  thenV (some ((.int .i64 0), h)) fun _y2 h =>
  thenV (some (x0, h)) fun y4 h =>
  thenV (pu (nilCheckA y4) h) fun y5 h =>
  thenV (pu (addP y5 5) h) fun y6 h =>
  thenV (ld1 y6 h) fun y7 h =>
  thenV (pu (bin Tryz.prog .add 3 y7 (.int .i64 1)) h) fun y8 h =>
  thenV (some (x0, h)) fun y9 h =>
  thenV (pu (nilCheckA y9) h) fun y10 h =>
  thenV (pu (addP y10 1) h) fun y11 h =>
  thenV (ld1 y11 h) fun y12 h =>
  thenV (pu (lenL y12) h) fun y13 h =>
  thenV (pu (bin Tryz.prog .rem 3 y8 y13) h) fun y14 h =>
  thenV (some (y14, h)) fun y3 h =>
  thenV (some (y3, h)) fun y15 h =>
  thenV (some (x0, h)) fun y16 h =>
  thenV (pu (nilCheckA y16) h) fun y17 h =>
  thenV (pu (addP y17 0) h) fun y18 h =>
  thenV (ld1 y18 h) fun y19 h =>
  thenV (pu (bin Tryz.prog .eql 3 y15 y19) h) fun y20 h =>
  (match y20 with
  | .bool true =>
  thenV (some (y3, h)) fun y21 h =>
  thenV (pu (bin Tryz.prog .add 3 y21 (.int .i64 1)) h) fun y22 h =>
  thenV (some (x0, h)) fun y23 h =>
  thenV (pu (nilCheckA y23) h) fun y24 h =>
  thenV (pu (addP y24 1) h) fun y25 h =>
  thenV (ld1 y25 h) fun y26 h =>
  thenV (pu (lenL y26) h) fun y27 h =>
  thenV (pu (bin Tryz.prog .rem 3 y22 y27) h) fun y28 h =>
  thenV (some (y28, h)) fun y3_1 h =>
  thenV (some (y3_1, h)) fun y29 h =>
  thenV (some (y29, h)) fun y2_1 h =>
  some (y2_1, h)
  | .bool false =>
  thenV (some (y3, h)) fun y29 h =>
  thenV (some (y29, h)) fun y2_1 h =>
  some (y2_1, h)
  | _ => none)
theorem t344_eq (C : CallF) (x0 : Value) (h : Heap) : bodyK Tryz.prog C Tryz.f344 [x0] h = t344 C x0 h :=
  (bodyB_eq Tryz.prog C Tryz.f344 [x0] h (by kernel_rfl)).trans (by kernel_rfl)


/-- (*stolon/member.Machine).Clock -/
noncomputable def t347 (_C : CallF) (x0 : Value) (h : Heap) : Out :=
  thenV (some ((.int .u64 0), h)) fun _y2 h =>
  thenV (some (x0, h)) fun y3 h =>
  thenV (pu (bin Tryz.prog .eql 187 y3 (.pointer none)) h) fun y4 h =>
  (match y4 with
  | .bool true =>
  thenV (some ((.int .u64 0), h)) fun y2_1 h =>
  some (y2_1, h)
  | .bool false =>
  thenV (some (x0, h)) fun y5 h =>
  thenV (pu (nilCheckA y5) h) fun y6 h =>
  thenV (pu (addP y6 3) h) fun y7 h =>
  thenV (ld1 y7 h) fun y8 h =>
  thenV (some (y8, h)) fun y2_1 h =>
  some (y2_1, h)
  | _ => none)
theorem t347_eq (C : CallF) (x0 : Value) (h : Heap) : bodyK Tryz.prog C Tryz.f347 [x0] h = t347 C x0 h :=
  (bodyB_eq Tryz.prog C Tryz.f347 [x0] h (by kernel_rfl)).trans (by kernel_rfl)


/-- (*stolon/disk.Disk).fault -/
noncomputable def t366 (_C : CallF) (x0 x1 : Value) (h : Heap) : Out :=
  thenV (some ((.int .i64 0), h)) fun _y4 h =>
  thenV (some (x0, h)) fun y6 h =>
  thenV (pu (bin Tryz.prog .eql 139 y6 (.pointer none)) h) fun y7 h =>
  thenV (some (y7, h)) fun y5 h =>
  (match y5 with
  | .bool true =>
  thenV (some ((.int .i64 1), h)) fun y4_1 h =>
  some (y4_1, h)
  | .bool false =>
  thenV (some (x0, h)) fun y9 h =>
  thenV (pu (nilCheckA y9) h) fun y10 h =>
  thenV (pu (addP y10 1) h) fun y11 h =>
  thenV (ld1 y11 h) fun y12 h =>
  thenV (some (y12, h)) fun y8 h =>
  (match y8 with
  | .bool true =>
  thenV (some ((.int .i64 9), h)) fun y4_1 h =>
  some (y4_1, h)
  | .bool false =>
  thenV (some (x1, h)) fun y14 h =>
  thenV (pu (bin Tryz.prog .lss 3 y14 (.int .i64 0)) h) fun y15 h =>
  thenV (some (y15, h)) fun y16 h =>
  thenV (guardK (bOf y16 == some false) (some (x1, h)) h) fun y17 h =>
  thenV (guardK (bOf y16 == some false) (some (x0, h)) h) fun y18 h =>
  thenV (guardK (bOf y16 == some false) (pu (nilCheckA y18) h) h) fun y19 h =>
  thenV (guardK (bOf y16 == some false) (pu (addP y19 0) h) h) fun y20 h =>
  thenV (guardK (bOf y16 == some false) (ld1 y20 h) h) fun y21 h =>
  thenV (guardK (bOf y16 == some false) (pu (lenL y21) h) h) fun y22 h =>
  thenV (guardK (bOf y16 == some false) (pu (bin Tryz.prog .geq 3 y17 y22) h) h) fun y23 h =>
  thenV (match y16 with | .bool t => some (if t then (.bool true) else y23, h) | _ => none) fun y24 h =>
  thenV (some (y24, h)) fun y13 h =>
  (match y13 with
  | .bool true =>
  thenV (some ((.int .i64 2), h)) fun y4_1 h =>
  some (y4_1, h)
  | .bool false =>
  thenV (some ((.int .i64 0), h)) fun y4_1 h =>
  some (y4_1, h)
  | _ => none)
  | _ => none)
  | _ => none)
theorem t366_eq (C : CallF) (x0 x1 : Value) (h : Heap) : bodyK Tryz.prog C Tryz.f366 [x0, x1] h = t366 C x0 x1 h :=
  (bodyB_eq Tryz.prog C Tryz.f366 [x0, x1] h (by kernel_rfl)).trans (by kernel_rfl)


/-- (*stolon/disk.Disk).super -/
noncomputable def t367 (C : CallF) (x0 x1 : Value) (h : Heap) : Out :=
  thenV (some ((.int .u64 0), h)) fun _y4 h =>
  thenV (some ((.int .i64 0), h)) fun _y5 h =>
  thenV (some ((.bool false), h)) fun _y6 h =>
  thenV (some (x0, h)) fun y11 h =>
  thenV (some (x1, h)) fun y12 h =>
  thenV (C 435 [y11, y12] h) fun y13 h =>
  thenV (some (y13, h)) fun y10 h =>
  thenV (pu (extractA y10 0) h) fun y14 h =>
  thenV (pu (extractA y10 1) h) fun y15 h =>
  thenV (some (y14, h)) fun y7 h =>
  thenV (some (y15, h)) fun y8 h =>
  thenV (some (y7, h)) fun y16 h =>
  thenV (C 48 [y16] h) fun y17 h =>
  thenV (some (y17, h)) fun y9 h =>
  thenV (some (y7, h)) fun y18 h =>
  thenV (C 50 [y18] h) fun y19 h =>
  thenV (some (y7, h)) fun y20 h =>
  thenV (C 46 [y20] h) fun y21 h =>
  thenV (cvI .i64 y21 h) fun y22 h =>
  thenV (some (y19, h)) fun y4_1 h =>
  thenV (some (y22, h)) fun y5_1 h =>
  thenV (some (y4_1, h)) fun y23 h =>
  thenV (some (y5_1, h)) fun y24 h =>
  thenV (some (y8, h)) fun y25 h =>
  thenV (some (y25, h)) fun y26 h =>
  thenV (guardK (bOf y26 == some true) (some (y9, h)) h) fun y27 h =>
  thenV (guardK (bOf y26 == some true) (pu (bin Tryz.prog .eql 77 y27 (.int .u32 1398034252)) h) h) fun y28 h =>
  thenV (match y26 with | .bool t => some (if t then y28 else (.bool false), h) | _ => none) fun y29 h =>
  thenV (some (y29, h)) fun y30 h =>
  thenV (guardK (bOf y30 == some true) (some (y5_1, h)) h) fun y31 h =>
  thenV (guardK (bOf y30 == some true) (pu (bin Tryz.prog .leq 3 y31 (.int .i64 1)) h) h) fun y32 h =>
  thenV (match y30 with | .bool t => some (if t then y32 else (.bool false), h) | _ => none) fun y33 h =>
  thenV (some (y23, h)) fun y4_2 h =>
  thenV (some (y24, h)) fun y5_2 h =>
  thenV (some (y33, h)) fun y6_1 h =>
  some (.tuple #[y4_2, y5_2, y6_1], h)
theorem t367_eq (C : CallF) (x0 x1 : Value) (h : Heap) : bodyK Tryz.prog C Tryz.f367 [x0, x1] h = t367 C x0 x1 h :=
  (bodyB_eq Tryz.prog C Tryz.f367 [x0, x1] h (by kernel_rfl)).trans (by kernel_rfl)


/-- maps.Keys[map[stolon/api.Digest]bool,stolon/api.Digest,bool] -/
noncomputable def t373 (_C : CallF) (x0 : Value) (h : Heap) : Out :=
  thenV (box x0 h) fun y1 h =>
  thenV (some (.nilFunc, h)) fun _y2 h =>
  thenV (some (.func (.func 440) #[] #[y1], h)) fun y3 h =>
  thenV (some (y3, h)) fun y2_1 h =>
  some (y2_1, h)
theorem t373_eq (C : CallF) (x0 : Value) (h : Heap) : bodyK Tryz.prog C Tryz.f373 [x0] h = t373 C x0 h :=
  (bodyB_eq Tryz.prog C Tryz.f373 [x0] h (by kernel_rfl)).trans (by kernel_rfl)


/-- maps.Keys[map[stolon/api.Digest]stolon/api.Record,stolon/api.Digest,stolon/api.Record] -/
noncomputable def t376 (_C : CallF) (x0 : Value) (h : Heap) : Out :=
  thenV (box x0 h) fun y1 h =>
  thenV (some (.nilFunc, h)) fun _y2 h =>
  thenV (some (.func (.func 441) #[] #[y1], h)) fun y3 h =>
  thenV (some (y3, h)) fun y2_1 h =>
  some (y2_1, h)
theorem t376_eq (C : CallF) (x0 : Value) (h : Heap) : bodyK Tryz.prog C Tryz.f376 [x0] h = t376 C x0 h :=
  (bodyB_eq Tryz.prog C Tryz.f376 [x0] h (by kernel_rfl)).trans (by kernel_rfl)


/-- (*stolon/member.Machine).Challenge -/
noncomputable def t385 (_C : CallF) (x0 : Value) (h : Heap) : Out :=
  thenV (some ((.int .u64 0), h)) fun _y2 h =>
  thenV (some (x0, h)) fun y3 h =>
  thenV (pu (bin Tryz.prog .eql 187 y3 (.pointer none)) h) fun y4 h =>
  (match y4 with
  | .bool true =>
  thenV (some ((.int .u64 0), h)) fun y2_1 h =>
  some (y2_1, h)
  | .bool false =>
  thenV (some (x0, h)) fun y5 h =>
  thenV (pu (nilCheckA y5) h) fun y6 h =>
  thenV (pu (addP y6 7) h) fun y7 h =>
  thenV (ld1 y7 h) fun y8 h =>
  thenV (some (y8, h)) fun y2_1 h =>
  some (y2_1, h)
  | _ => none)
theorem t385_eq (C : CallF) (x0 : Value) (h : Heap) : bodyK Tryz.prog C Tryz.f385 [x0] h = t385 C x0 h :=
  (bodyB_eq Tryz.prog C Tryz.f385 [x0] h (by kernel_rfl)).trans (by kernel_rfl)


/-- stolon/disk.Cost -/
noncomputable def t392 (_C : CallF) (x0 : Value) (h : Heap) : Out :=
  thenV (some ((.int .i64 0), h)) fun _y2 h =>
  thenV (some (x0, h)) fun y3 h =>
  thenV (pu (bin Tryz.prog .leq 3 y3 (.int .i64 106)) h) fun y4 h =>
  (match y4 with
  | .bool true =>
  thenV (some ((.int .i64 1), h)) fun y2_1 h =>
  some (y2_1, h)
  | .bool false =>
  thenV (some (x0, h)) fun y5 h =>
  thenV (pu (bin Tryz.prog .sub 3 y5 (.int .i64 1)) h) fun y6 h =>
  thenV (pu (bin Tryz.prog .quo 3 y6 (.int .i64 106)) h) fun y7 h =>
  thenV (pu (bin Tryz.prog .add 3 y7 (.int .i64 1)) h) fun y8 h =>
  thenV (some (y8, h)) fun y2_1 h =>
  some (y2_1, h)
  | _ => none)
theorem t392_eq (C : CallF) (x0 : Value) (h : Heap) : bodyK Tryz.prog C Tryz.f392 [x0] h = t392 C x0 h :=
  (bodyB_eq Tryz.prog C Tryz.f392 [x0] h (by kernel_rfl)).trans (by kernel_rfl)


/-- stolon/member.valid -/
noncomputable def t411 (_C : CallF) (x0 : Value) (h : Heap) : Out :=
  thenV (box x0 h) fun y1 h =>
  thenV (some ((.bool false), h)) fun _y2 h =>
  thenV (pu (addP y1 1) h) fun y3 h =>
  thenV (ld1 y3 h) fun y4 h =>
  thenV (pu (bin Tryz.prog .leq 179 y4 (.int .u8 4)) h) fun y5 h =>
  thenV (some (y5, h)) fun y6 h =>
  thenV (guardK (bOf y6 == some true) (pu (addP y1 0) h) h) fun y7 h =>
  thenV (guardK (bOf y6 == some true) (ld1 y7 h) h) fun y8 h =>
  thenV (guardK (bOf y6 == some true) (pu (bin Tryz.prog .eql 27 y8 (.int .u64 0)) h) h) fun y9 h =>
  thenV (guardK (bOf y6 == some true) (pu (addP y1 1) h) h) fun y10 h =>
  thenV (guardK (bOf y6 == some true) (ld1 y10 h) h) fun y11 h =>
  thenV (guardK (bOf y6 == some true) (pu (bin Tryz.prog .eql 179 y11 (.int .u8 0)) h) h) fun y12 h =>
  thenV (guardK (bOf y6 == some true) (pu (bin Tryz.prog .eql 4 y9 y12) h) h) fun y13 h =>
  thenV (match y6 with | .bool t => some (if t then y13 else (.bool false), h) | _ => none) fun y14 h =>
  thenV (some (y14, h)) fun y2_1 h =>
  some (y2_1, h)
theorem t411_eq (C : CallF) (x0 : Value) (h : Heap) : bodyK Tryz.prog C Tryz.f411 [x0] h = t411 C x0 h :=
  (bodyB_eq Tryz.prog C Tryz.f411 [x0] h (by kernel_rfl)).trans (by kernel_rfl)


/-- stolon/disk.seal -/
noncomputable def t439 (C : CallF) (x0 : Value) (h : Heap) : Out :=
  thenV (some ((.slice none 0 0), h)) fun _y2 h =>
  thenV (some (x0, h)) fun y8 h =>
  thenV (C 43 [y8] h) fun y9 h =>
  thenV (some (y9, h)) fun y7 h =>
  thenV (pu (extractA y7 0) h) fun y10 h =>
  thenV (pu (extractA y7 1) h) fun y11 h =>
  thenV (some (y10, h)) fun y3 h =>
  thenV (some (y11, h)) fun _y4 h =>
  thenV (mkR 1 1 (.int .u8 0) (.int .i64 128) (.int .i64 128) h) fun y12 h =>
  thenV (some (y12, h)) fun y5 h =>
  thenV (some (y5, h)) fun y13 h =>
  thenV (pu (slR 1 y13 (some (.int .i64 4)) none none) h) fun y14 h =>
  thenV (some (y3, h)) fun y15 h =>
  thenV (copyA 1 y14 y15 h) fun _y16 h =>
  thenV (some (y5, h)) fun y17 h =>
  thenV (pu (slR 1 y17 (some (.int .i64 4)) none none) h) fun y18 h =>
  thenV (C 126 [y18] h) fun y19 h =>
  thenV (some (y19, h)) fun y6 h =>
  thenV (some (y5, h)) fun y20 h =>
  thenV (some (y5, h)) fun y21 h =>
  thenV (some (y5, h)) fun y22 h =>
  thenV (some (y5, h)) fun y23 h =>
  thenV (some (y6, h)) fun y24 h =>
  thenV (pu (bin Tryz.prog .shr 77 y24 (.int .u64 24)) h) fun y25 h =>
  thenV (cvI .u8 y25 h) fun y26 h =>
  thenV (some (y6, h)) fun y27 h =>
  thenV (pu (bin Tryz.prog .shr 77 y27 (.int .u64 16)) h) fun y28 h =>
  thenV (cvI .u8 y28 h) fun y29 h =>
  thenV (some (y6, h)) fun y30 h =>
  thenV (pu (bin Tryz.prog .shr 77 y30 (.int .u64 8)) h) fun y31 h =>
  thenV (cvI .u8 y31 h) fun y32 h =>
  thenV (some (y6, h)) fun y33 h =>
  thenV (cvI .u8 y33 h) fun y34 h =>
  thenV (pu (idxS 1 y20 (.int .i64 0)) h) fun y35 h =>
  thenV (stN 1 y35 y26 h) fun _ h =>
  thenV (pu (idxS 1 y21 (.int .i64 1)) h) fun y36 h =>
  thenV (stN 1 y36 y29 h) fun _ h =>
  thenV (pu (idxS 1 y22 (.int .i64 2)) h) fun y37 h =>
  thenV (stN 1 y37 y32 h) fun _ h =>
  thenV (pu (idxS 1 y23 (.int .i64 3)) h) fun y38 h =>
  thenV (stN 1 y38 y34 h) fun _ h =>
  thenV (some (y5, h)) fun y39 h =>
  thenV (some (y39, h)) fun y2_1 h =>
  some (y2_1, h)
theorem t439_eq (C : CallF) (x0 : Value) (h : Heap) : bodyK Tryz.prog C Tryz.f439 [x0] h = t439 C x0 h :=
  (bodyB_eq Tryz.prog C Tryz.f439 [x0] h (by kernel_rfl)).trans (by kernel_rfl)


/-- (*stolon/digest.Writer).Text -/
noncomputable def t42 (C : CallF) (x0 x1 : Value) (h : Heap) : Out :=
  thenV (some (x0, h)) fun y4 h =>
  thenV (pu (bin Tryz.prog .eql 71 y4 (.pointer none)) h) fun y5 h =>
  (match y5 with
  | .bool true =>
  some (.tuple #[], h)
  | .bool false =>
  thenV (some (x1, h)) fun y6 h =>
  thenV (pu (lenL y6) h) fun y7 h =>
  thenV (pu (bin Tryz.prog .gtr 3 y7 (.int .i64 65535)) h) fun y8 h =>
  (match y8 with
  | .bool true =>
  thenV (some (x0, h)) fun y9 h =>
  thenV (pu (nilCheckA y9) h) fun y10 h =>
  thenV (pu (addP y10 1) h) fun y11 h =>
  thenV (stN 1 y11 (.bool true) h) fun _ h =>
  some (.tuple #[], h)
  | .bool false =>
  thenV (some (x0, h)) fun y12 h =>
  thenV (some (x1, h)) fun y13 h =>
  thenV (pu (lenL y13) h) fun y14 h =>
  thenV (pu (bin Tryz.prog .add 3 y14 (.int .i64 2)) h) fun y15 h =>
  thenV (C 91 [y12, y15] h) fun y16 h =>
  (match y16 with
  | .bool true =>
  thenV (some (x0, h)) fun y17 h =>
  thenV (some (x0, h)) fun y18 h =>
  thenV (pu (nilCheckA y18) h) fun y19 h =>
  thenV (pu (addP y19 2) h) fun y20 h =>
  thenV (ld1 y20 h) fun y21 h =>
  thenV (some (x1, h)) fun y22 h =>
  thenV (pu (lenL y22) h) fun y23 h =>
  thenV (pu (bin Tryz.prog .shr 3 y23 (.int .u64 8)) h) fun y24 h =>
  thenV (cvI .u8 y24 h) fun y25 h =>
  thenV (some (x1, h)) fun y26 h =>
  thenV (pu (lenL y26) h) fun y27 h =>
  thenV (cvI .u8 y27 h) fun y28 h =>
  thenV (bslR 1 (.int .u8 0) 2 [(0, y25), (1, y28)] h) fun y29 h =>
  thenV (appendA 1 1 y21 y29 h) fun y30 h =>
  thenV (pu (nilCheckA y17) h) fun y31 h =>
  thenV (pu (addP y31 2) h) fun y32 h =>
  thenV (stN 1 y32 y30 h) fun _ h =>
  thenV (some (x0, h)) fun y33 h =>
  thenV (some (x0, h)) fun y34 h =>
  thenV (pu (nilCheckA y34) h) fun y35 h =>
  thenV (pu (addP y35 2) h) fun y36 h =>
  thenV (ld1 y36 h) fun y37 h =>
  thenV (some (x1, h)) fun y38 h =>
  thenV (appendA 1 1 y37 y38 h) fun y39 h =>
  thenV (pu (nilCheckA y33) h) fun y40 h =>
  thenV (pu (addP y40 2) h) fun y41 h =>
  thenV (stN 1 y41 y39 h) fun _ h =>
  some (.tuple #[], h)
  | .bool false =>
  some (.tuple #[], h)
  | _ => none)
  | _ => none)
  | _ => none)
theorem t42_eq (C : CallF) (x0 x1 : Value) (h : Heap) : bodyK Tryz.prog C Tryz.f42 [x0, x1] h = t42 C x0 x1 h :=
  (bodyB_eq Tryz.prog C Tryz.f42 [x0, x1] h (by kernel_rfl)).trans (by kernel_rfl)


/-- (*stolon/inventory.Inventory).Records -/
noncomputable def t66 (C : CallF) (x0 : Value) (h : Heap) : Out :=
  thenV (some ((.slice none 0 0), h)) fun _y2 h =>
  thenV (some (x0, h)) fun y3 h =>
  thenV (pu (bin Tryz.prog .eql 101 y3 (.pointer none)) h) fun y4 h =>
  (match y4 with
  | .bool true =>
  thenV (some ((.slice none 0 0), h)) fun y2_1 h =>
  some (y2_1, h)
  | .bool false =>
  thenV (some (x0, h)) fun y5 h =>
  thenV (pu (nilCheckA y5) h) fun y6 h =>
  thenV (pu (addP y6 0) h) fun y7 h =>
  thenV (ld1 y7 h) fun y8 h =>
  thenV (C 114 [y8] h) fun y9 h =>
  thenV (some (y9, h)) fun y2_1 h =>
  some (y2_1, h)
  | _ => none)
theorem t66_eq (C : CallF) (x0 : Value) (h : Heap) : bodyK Tryz.prog C Tryz.f66 [x0] h = t66 C x0 h :=
  (bodyB_eq Tryz.prog C Tryz.f66 [x0] h (by kernel_rfl)).trans (by kernel_rfl)


/-- stolon/inventory.Valid -/
noncomputable def t103 (C : CallF) (x0 : Value) (h : Heap) : Out :=
  thenV (box x0 h) fun y1 h =>
  thenV (some ((.bool false), h)) fun _y2 h =>
  thenV (pu (addP y1 0) h) fun y3 h =>
  thenV (ld1 y3 h) fun y4 h =>
  thenV (pu (bin Tryz.prog .eql 110 y4 (.int .u8 1)) h) fun y6 h =>
  thenV (some (y6, h)) fun y5 h =>
  (match y5 with
  | .bool true =>
  thenV (ldN 39 y1 h) fun y7 h =>
  thenV (pu (addP y1 0) h) fun y8 h =>
  thenV (ld1 y8 h) fun y9 h =>
  thenV (pu (addP y1 33) h) fun y10 h =>
  thenV (ld1 y10 h) fun y11 h =>
  thenV (pu (addP y1 34) h) fun y12 h =>
  thenV (ld1 y12 h) fun y13 h =>
  thenV (pu (bldR [(.int .u8 0), (.int .u8 0), (.int .u8 0), (.int .u8 0), (.int .u8 0), (.int .u8 0), (.int .u8 0), (.int .u8 0), (.int .u8 0), (.int .u8 0), (.int .u8 0), (.int .u8 0), (.int .u8 0), (.int .u8 0), (.int .u8 0), (.int .u8 0), (.int .u8 0), (.int .u8 0), (.int .u8 0), (.int .u8 0), (.int .u8 0), (.int .u8 0), (.int .u8 0), (.int .u8 0), (.int .u8 0), (.int .u8 0), (.int .u8 0), (.int .u8 0), (.int .u8 0), (.int .u8 0), (.int .u8 0), (.int .u8 0), (.int .u8 0), (.int .i64 0), (.int .u64 0), (.int .u64 0), (.bool false), (.int .i64 0), (.int .i64 0)] [(0, 1, y9), (33, 1, y11), (34, 1, y13)]) h) fun y14 h =>
  thenV (pu (bin Tryz.prog .eql 112 y7 y14) h) fun y15 h =>
  thenV (some (y15, h)) fun y16 h =>
  thenV (guardK (bOf y16 == some true) (ldN 39 y1 h) h) fun y17 h =>
  thenV (guardK (bOf y16 == some true) (C 158 [y17] h) h) fun y18 h =>
  thenV (match y16 with | .bool t => some (if t then y18 else (.bool false), h) | _ => none) fun y19 h =>
  thenV (some (y19, h)) fun y2_1 h =>
  some (y2_1, h)
  | .bool false =>
  thenV (pu (bin Tryz.prog .eql 110 y4 (.int .u8 2)) h) fun y21 h =>
  thenV (some (y21, h)) fun y20 h =>
  (match y20 with
  | .bool true =>
  thenV (ldN 39 y1 h) fun y22 h =>
  thenV (pu (addP y1 0) h) fun y23 h =>
  thenV (ld1 y23 h) fun y24 h =>
  thenV (pu (addP y1 1) h) fun y25 h =>
  thenV (ldN 32 y25 h) fun y26 h =>
  thenV (pu (bldR [(.int .u8 0), (.int .u8 0), (.int .u8 0), (.int .u8 0), (.int .u8 0), (.int .u8 0), (.int .u8 0), (.int .u8 0), (.int .u8 0), (.int .u8 0), (.int .u8 0), (.int .u8 0), (.int .u8 0), (.int .u8 0), (.int .u8 0), (.int .u8 0), (.int .u8 0), (.int .u8 0), (.int .u8 0), (.int .u8 0), (.int .u8 0), (.int .u8 0), (.int .u8 0), (.int .u8 0), (.int .u8 0), (.int .u8 0), (.int .u8 0), (.int .u8 0), (.int .u8 0), (.int .u8 0), (.int .u8 0), (.int .u8 0), (.int .u8 0), (.int .i64 0), (.int .u64 0), (.int .u64 0), (.bool false), (.int .i64 0), (.int .i64 0)] [(0, 1, y24), (1, 32, y26)]) h) fun y27 h =>
  thenV (pu (bin Tryz.prog .eql 112 y22 y27) h) fun y28 h =>
  thenV (some (y28, h)) fun y2_1 h =>
  some (y2_1, h)
  | .bool false =>
  thenV (pu (bin Tryz.prog .eql 110 y4 (.int .u8 3)) h) fun y30 h =>
  thenV (some (y30, h)) fun y29 h =>
  (match y29 with
  | .bool true =>
  thenV (ldN 39 y1 h) fun y31 h =>
  thenV (C 158 [y31] h) fun y32 h =>
  thenV (some (y32, h)) fun y33 h =>
  thenV (guardK (bOf y33 == some true) (pu (addP y1 35) h) h) fun y34 h =>
  thenV (guardK (bOf y33 == some true) (ld1 y34 h) h) fun y35 h =>
  thenV (guardK (bOf y33 == some true) (pu (bin Tryz.prog .geq 27 y35 (.int .u64 1)) h) h) fun y36 h =>
  thenV (match y33 with | .bool t => some (if t then y36 else (.bool false), h) | _ => none) fun y37 h =>
  thenV (some (y37, h)) fun y38 h =>
  thenV (guardK (bOf y38 == some true) (pu (addP y1 37) h) h) fun y39 h =>
  thenV (guardK (bOf y38 == some true) (ld1 y39 h) h) fun y40 h =>
  thenV (guardK (bOf y38 == some true) (pu (bin Tryz.prog .leq 3 (.int .i64 1) y40) h) h) fun y41 h =>
  thenV (match y38 with | .bool t => some (if t then y41 else (.bool false), h) | _ => none) fun y42 h =>
  thenV (some (y42, h)) fun y43 h =>
  thenV (guardK (bOf y43 == some true) (pu (addP y1 37) h) h) fun y44 h =>
  thenV (guardK (bOf y43 == some true) (ld1 y44 h) h) fun y45 h =>
  thenV (guardK (bOf y43 == some true) (pu (addP y1 38) h) h) fun y46 h =>
  thenV (guardK (bOf y43 == some true) (ld1 y46 h) h) fun y47 h =>
  thenV (guardK (bOf y43 == some true) (pu (bin Tryz.prog .leq 3 y45 y47) h) h) fun y48 h =>
  thenV (match y43 with | .bool t => some (if t then y48 else (.bool false), h) | _ => none) fun y49 h =>
  thenV (some (y49, h)) fun y50 h =>
  thenV (guardK (bOf y50 == some true) (pu (addP y1 38) h) h) fun y51 h =>
  thenV (guardK (bOf y50 == some true) (ld1 y51 h) h) fun y52 h =>
  thenV (guardK (bOf y50 == some true) (pu (bin Tryz.prog .leq 3 y52 (.int .i64 255)) h) h) fun y53 h =>
  thenV (match y50 with | .bool t => some (if t then y53 else (.bool false), h) | _ => none) fun y54 h =>
  thenV (some (y54, h)) fun y2_1 h =>
  some (y2_1, h)
  | .bool false =>
  thenV (some ((.bool false), h)) fun y2_1 h =>
  some (y2_1, h)
  | _ => none)
  | _ => none)
  | _ => none)
theorem t103_eq (C : CallF) (x0 : Value) (h : Heap) : bodyK Tryz.prog C Tryz.f103 [x0] h = t103 C x0 h :=
  (bodyB_eq Tryz.prog C Tryz.f103 [x0] h (by kernel_rfl)).trans (by kernel_rfl)


/-- (*stolon/member.Machine).Table -/
noncomputable def t113 (C : CallF) (x0 : Value) (h : Heap) : Out :=
  thenV (some ((.slice none 0 0), h)) fun _y2 h =>
  thenV (some (x0, h)) fun y3 h =>
  thenV (pu (bin Tryz.prog .eql 187 y3 (.pointer none)) h) fun y4 h =>
  (match y4 with
  | .bool true =>
  thenV (some ((.slice none 0 0), h)) fun y2_1 h =>
  some (y2_1, h)
  | .bool false =>
  thenV (some (x0, h)) fun y5 h =>
  thenV (pu (nilCheckA y5) h) fun y6 h =>
  thenV (pu (addP y6 1) h) fun y7 h =>
  thenV (ld1 y7 h) fun y8 h =>
  thenV (C 166 [y8] h) fun y9 h =>
  thenV (some (y9, h)) fun y2_1 h =>
  some (y2_1, h)
  | _ => none)
theorem t113_eq (C : CallF) (x0 : Value) (h : Heap) : bodyK Tryz.prog C Tryz.f113 [x0] h = t113 C x0 h :=
  (bodyB_eq Tryz.prog C Tryz.f113 [x0] h (by kernel_rfl)).trans (by kernel_rfl)


/-- (*stolon/disk.Journal).Area -/
noncomputable def t233 (C : CallF) (x0 : Value) (h : Heap) : Out :=
  thenV (some ((.int .i64 0), h)) fun _y2 h =>
  thenV (some (x0, h)) fun y3 h =>
  thenV (C 318 [y3] h) fun y4 h =>
  thenV (pu (bin Tryz.prog .neq 31 y4 (.int .i64 0)) h) fun y5 h =>
  (match y5 with
  | .bool true =>
  thenV (some ((.int .i64 0), h)) fun y2_1 h =>
  some (y2_1, h)
  | .bool false =>
  thenV (some (x0, h)) fun y6 h =>
  thenV (pu (nilCheckA y6) h) fun y7 h =>
  thenV (pu (addP y7 0) h) fun y8 h =>
  thenV (ld1 y8 h) fun y9 h =>
  thenV (C 319 [y9] h) fun y10 h =>
  thenV (some (y10, h)) fun y2_1 h =>
  some (y2_1, h)
  | _ => none)
theorem t233_eq (C : CallF) (x0 : Value) (h : Heap) : bodyK Tryz.prog C Tryz.f233 [x0] h = t233 C x0 h :=
  (bodyB_eq Tryz.prog C Tryz.f233 [x0] h (by kernel_rfl)).trans (by kernel_rfl)


/-- (*stolon/peer.Peer).clock -/
noncomputable def t272 (C : CallF) (x0 : Value) (h : Heap) : Out :=
  thenV (some ((.int .u64 0), h)) fun _y2 h =>
  thenV (some (x0, h)) fun y3 h =>
  thenV (pu (nilCheckA y3) h) fun y4 h =>
  thenV (pu (addP y4 5) h) fun y5 h =>
  thenV (ld1 y5 h) fun y6 h =>
  thenV (C 347 [y6] h) fun y7 h =>
  thenV (some (y7, h)) fun y2_1 h =>
  some (y2_1, h)
theorem t272_eq (C : CallF) (x0 : Value) (h : Heap) : bodyK Tryz.prog C Tryz.f272 [x0] h = t272 C x0 h :=
  (bodyB_eq Tryz.prog C Tryz.f272 [x0] h (by kernel_rfl)).trans (by kernel_rfl)


/-- stolon/member.Valid$1 -/
noncomputable def t410 (C : CallF) (x0 : Value) (h : Heap) : Out :=
  thenV (box x0 h) fun y1 h =>
  thenV (some ((.bool false), h)) fun _y2 h =>
  thenV (ldN 2 y1 h) fun y3 h =>
  thenV (C 411 [y3] h) fun y4 h =>
  thenV (pu (unA .not y4) h) fun y5 h =>
  thenV (some (y5, h)) fun y2_1 h =>
  some (y2_1, h)
theorem t410_eq (C : CallF) (x0 : Value) (h : Heap) : bodyK Tryz.prog C Tryz.f410 [x0] h = t410 C x0 h :=
  (bodyB_eq Tryz.prog C Tryz.f410 [x0] h (by kernel_rfl)).trans (by kernel_rfl)


/-- (*stolon/inventory.Inventory).Merge$1 -/
noncomputable def t102 (C : CallF) (x0 : Value) (h : Heap) : Out :=
  thenV (box x0 h) fun y1 h =>
  thenV (some ((.bool false), h)) fun _y2 h =>
  thenV (ldN 39 y1 h) fun y3 h =>
  thenV (C 103 [y3] h) fun y4 h =>
  thenV (pu (unA .not y4) h) fun y5 h =>
  thenV (some (y5, h)) fun y2_1 h =>
  some (y2_1, h)
theorem t102_eq (C : CallF) (x0 : Value) (h : Heap) : bodyK Tryz.prog C Tryz.f102 [x0] h = t102 C x0 h :=
  (bodyB_eq Tryz.prog C Tryz.f102 [x0] h (by kernel_rfl)).trans (by kernel_rfl)


/-- (*stolon/store.Store).fault -/
noncomputable def t172 (C : CallF) (x0 : Value) (h : Heap) : Out :=
  thenV (some ((.int .i64 0), h)) fun _y2 h =>
  thenV (some (x0, h)) fun y3 h =>
  thenV (pu (bin Tryz.prog .eql 186 y3 (.pointer none)) h) fun y4 h =>
  (match y4 with
  | .bool true =>
  thenV (some ((.int .i64 1), h)) fun y2_1 h =>
  some (y2_1, h)
  | .bool false =>
  thenV (some (x0, h)) fun y5 h =>
  thenV (pu (nilCheckA y5) h) fun y6 h =>
  thenV (pu (addP y6 0) h) fun y7 h =>
  thenV (ld1 y7 h) fun y8 h =>
  thenV (C 233 [y8] h) fun y9 h =>
  thenV (pu (bin Tryz.prog .eql 3 y9 (.int .i64 0)) h) fun y10 h =>
  (match y10 with
  | .bool true =>
  thenV (some ((.int .i64 9), h)) fun y2_1 h =>
  some (y2_1, h)
  | .bool false =>
  thenV (some ((.int .i64 0), h)) fun y2_1 h =>
  some (y2_1, h)
  | _ => none)
  | _ => none)
theorem t172_eq (C : CallF) (x0 : Value) (h : Heap) : bodyK Tryz.prog C Tryz.f172 [x0] h = t172 C x0 h :=
  (bodyB_eq Tryz.prog C Tryz.f172 [x0] h (by kernel_rfl)).trans (by kernel_rfl)


/-- (*stolon/store.Store).Incarnation -/
noncomputable def t132 (C : CallF) (x0 : Value) (h : Heap) : Out :=
  thenV (some ((.int .u64 0), h)) fun _y2 h =>
  thenV (some (x0, h)) fun y3 h =>
  thenV (C 172 [y3] h) fun y4 h =>
  thenV (pu (bin Tryz.prog .neq 31 y4 (.int .i64 0)) h) fun y5 h =>
  (match y5 with
  | .bool true =>
  thenV (some ((.int .u64 0), h)) fun y2_1 h =>
  some (y2_1, h)
  | .bool false =>
  thenV (some (x0, h)) fun y6 h =>
  thenV (pu (nilCheckA y6) h) fun y7 h =>
  thenV (pu (addP y7 2) h) fun y8 h =>
  thenV (pu (addP y8 0) h) fun y9 h =>
  thenV (ld1 y9 h) fun y10 h =>
  thenV (some (y10, h)) fun y2_1 h =>
  some (y2_1, h)
  | _ => none)
theorem t132_eq (C : CallF) (x0 : Value) (h : Heap) : bodyK Tryz.prog C Tryz.f132 [x0] h = t132 C x0 h :=
  (bodyB_eq Tryz.prog C Tryz.f132 [x0] h (by kernel_rfl)).trans (by kernel_rfl)


/-- (*stolon/peer.Peer).base -/
noncomputable def t194 (C : CallF) (x0 : Value) (h : Heap) : Out :=
  thenV (newC [(.int .u8 0), (.int .u8 0), (.int .u8 0), (.int .u8 0), (.int .u8 0), (.int .u8 0), (.int .u8 0), (.int .u8 0), (.int .u8 0), (.int .u8 0), (.int .u8 0), (.int .u8 0), (.int .u8 0), (.int .u8 0), (.int .u8 0), (.int .u8 0), (.int .u8 0), (.int .u8 0), (.int .u8 0), (.int .u8 0), (.int .u8 0), (.int .u8 0), (.int .u8 0), (.int .u8 0), (.int .u8 0), (.int .u8 0), (.int .u8 0), (.int .u8 0), (.int .u8 0), (.int .u8 0), (.int .u8 0), (.int .u8 0), (.int .u8 0), (.int .i64 0), (.int .u64 0), (.int .u64 0), (.bool false), (.int .i64 0), (.int .i64 0)] h) fun y2 h =>
  let g2_0 := h
  thenV (some (x0, g2_0)) fun y3 g2_1 =>
  thenV (pu (nilCheckA y3) g2_1) fun y4 g2_2 =>
  thenV (pu (addP y4 0) g2_2) fun y5 g2_3 =>
  thenV (pu (addP y5 0) g2_3) fun y6 g2_4 =>
  thenV (ld1 y6 g2_4) fun y7 g2_5 =>
  thenV (some (x0, g2_5)) fun y8 g2_6 =>
  thenV (pu (nilCheckA y8) g2_6) fun y9 g2_7 =>
  thenV (pu (addP y9 4) g2_7) fun y10 g2_8 =>
  thenV (ld1 y10 g2_8) fun y11 g2_9 =>
  thenV (C 132 [y11] g2_9) fun y12 g2_10 =>
  thenV (pu (bldR [(.int .u8 0), (.int .u8 0), (.int .u8 0), (.int .u8 0), (.int .u8 0), (.int .u8 0), (.int .u8 0), (.int .u8 0), (.int .u8 0), (.int .u8 0), (.int .u8 0), (.int .u8 0), (.int .u8 0), (.int .u8 0), (.int .u8 0), (.int .u8 0), (.int .u8 0), (.int .u8 0), (.int .u8 0), (.int .u8 0), (.int .u8 0), (.int .u8 0), (.int .u8 0), (.int .u8 0), (.int .u8 0), (.int .u8 0), (.int .u8 0), (.int .u8 0), (.int .u8 0), (.int .u8 0), (.int .u8 0), (.int .u8 0), (.int .u8 0), (.int .i64 0), (.int .u64 0), (.int .u64 0), (.bool false), (.int .i64 0), (.int .i64 0)] [(0, 1, (.int .u8 1)), (33, 1, y7), (34, 1, y12)]) g2_10) fun y13 g2_11 =>
  thenV (stN 39 y2 y13 g2_11) fun _ g2_12 =>
  (match (chkR true (ld1 y6 g2_10) y7 && true) with
  | true =>
  let h := g2_12
  resultsA Tryz.prog Tryz.f194.results.toList (mkF 14 (up (bs [x0]) [(2, y2), (3, y3), (4, y4), (5, y5), (6, y6), (7, y7), (8, y8), (9, y9), (10, y10), (11, y11), (12, y12), (13, y13)])) h
  | false => none)
theorem t194_eq (C : CallF) (x0 : Value) (h : Heap) : bodyK Tryz.prog C Tryz.f194 [x0] h = t194 C x0 h :=
  (bodyB_eq Tryz.prog C Tryz.f194 [x0] h (by kernel_rfl)).trans (by kernel_rfl)


/-- (*stolon/peer.Peer).down -/
noncomputable def t112 (C : CallF) (x0 : Value) (h : Heap) : Out :=
  thenV (some ((.int .i64 0), h)) fun _y2 h =>
  thenV (some (x0, h)) fun y4 h =>
  thenV (pu (bin Tryz.prog .eql 104 y4 (.pointer none)) h) fun y5 h =>
  thenV (some (y5, h)) fun y3 h =>
  (match y3 with
  | .bool true =>
  thenV (some ((.int .i64 1), h)) fun y2_1 h =>
  some (y2_1, h)
  | .bool false =>
  thenV (some (x0, h)) fun y7 h =>
  thenV (pu (nilCheckA y7) h) fun y8 h =>
  thenV (pu (addP y8 4) h) fun y9 h =>
  thenV (ld1 y9 h) fun y10 h =>
  thenV (C 132 [y10] h) fun y11 h =>
  thenV (pu (bin Tryz.prog .eql 27 y11 (.int .u64 0)) h) fun y12 h =>
  thenV (some (y12, h)) fun y6 h =>
  (match y6 with
  | .bool true =>
  thenV (some ((.int .i64 9), h)) fun y2_1 h =>
  some (y2_1, h)
  | .bool false =>
  thenV (some ((.int .i64 0), h)) fun y2_1 h =>
  some (y2_1, h)
  | _ => none)
  | _ => none)
theorem t112_eq (C : CallF) (x0 : Value) (h : Heap) : bodyK Tryz.prog C Tryz.f112 [x0] h = t112 C x0 h :=
  (bodyB_eq Tryz.prog C Tryz.f112 [x0] h (by kernel_rfl)).trans (by kernel_rfl)


/-- (*stolon/peer.Peer).closed -/
noncomputable def t184 (C : CallF) (x0 : Value) (h : Heap) : Out :=
  thenV (some ((.int .i64 0), h)) fun _y2 h =>
  thenV (some (x0, h)) fun y4 h =>
  thenV (C 112 [y4] h) fun y5 h =>
  thenV (some (y5, h)) fun y3 h =>
  thenV (some (y3, h)) fun y6 h =>
  thenV (pu (bin Tryz.prog .neq 31 y6 (.int .i64 0)) h) fun y7 h =>
  (match y7 with
  | .bool true =>
  thenV (some (y3, h)) fun y8 h =>
  thenV (some (y8, h)) fun y2_1 h =>
  some (y2_1, h)
  | .bool false =>
  thenV (some (x0, h)) fun y9 h =>
  thenV (pu (nilCheckA y9) h) fun y10 h =>
  thenV (pu (addP y10 17) h) fun y11 h =>
  thenV (ld1 y11 h) fun y12 h =>
  (match y12 with
  | .bool true =>
  thenV (some ((.int .i64 30), h)) fun y2_1 h =>
  some (y2_1, h)
  | .bool false =>
  thenV (some ((.int .i64 0), h)) fun y2_1 h =>
  some (y2_1, h)
  | _ => none)
  | _ => none)
theorem t184_eq (C : CallF) (x0 : Value) (h : Heap) : bodyK Tryz.prog C Tryz.f184 [x0] h = t184 C x0 h :=
  (bodyB_eq Tryz.prog C Tryz.f184 [x0] h (by kernel_rfl)).trans (by kernel_rfl)


/-- (*stolon/peer.Peer).Results -/
noncomputable def t209 (C : CallF) (x0 : Value) (h : Heap) : Out :=
  thenV (some ((.slice none 0 0), h)) fun _y2 h =>
  thenV (some (x0, h)) fun y4 h =>
  thenV (C 112 [y4] h) fun y5 h =>
  thenV (pu (bin Tryz.prog .neq 31 y5 (.int .i64 0)) h) fun y6 h =>
  (match y6 with
  | .bool true =>
  thenV (some ((.slice none 0 0), h)) fun y2_1 h =>
  some (y2_1, h)
  | .bool false =>
  thenV (some (x0, h)) fun y7 h =>
  thenV (pu (nilCheckA y7) h) fun y8 h =>
  thenV (pu (addP y8 14) h) fun y9 h =>
  thenV (ld1 y9 h) fun y10 h =>
  thenV (some (y10, h)) fun y3 h =>
  thenV (some (x0, h)) fun y11 h =>
  thenV (pu (nilCheckA y11) h) fun y12 h =>
  thenV (pu (addP y12 14) h) fun y13 h =>
  thenV (stN 1 y13 (.slice none 0 0) h) fun _ h =>
  thenV (some (y3, h)) fun y14 h =>
  thenV (some (y14, h)) fun y2_1 h =>
  some (y2_1, h)
  | _ => none)
theorem t209_eq (C : CallF) (x0 : Value) (h : Heap) : bodyK Tryz.prog C Tryz.f209 [x0] h = t209 C x0 h :=
  (bodyB_eq Tryz.prog C Tryz.f209 [x0] h (by kernel_rfl)).trans (by kernel_rfl)


/-- (*stolon/peer.Peer).Table -/
noncomputable def t63 (C : CallF) (x0 : Value) (h : Heap) : Out :=
  thenV (some ((.slice none 0 0), h)) fun _y2 h =>
  thenV (some (x0, h)) fun y3 h =>
  thenV (C 112 [y3] h) fun y4 h =>
  thenV (pu (bin Tryz.prog .neq 31 y4 (.int .i64 0)) h) fun y5 h =>
  (match y5 with
  | .bool true =>
  thenV (some ((.slice none 0 0), h)) fun y2_1 h =>
  some (y2_1, h)
  | .bool false =>
  thenV (some (x0, h)) fun y6 h =>
  thenV (pu (nilCheckA y6) h) fun y7 h =>
  thenV (pu (addP y7 5) h) fun y8 h =>
  thenV (ld1 y8 h) fun y9 h =>
  thenV (C 113 [y9] h) fun y10 h =>
  thenV (some (y10, h)) fun y2_1 h =>
  some (y2_1, h)
  | _ => none)
theorem t63_eq (C : CallF) (x0 : Value) (h : Heap) : bodyK Tryz.prog C Tryz.f63 [x0] h = t63 C x0 h :=
  (bodyB_eq Tryz.prog C Tryz.f63 [x0] h (by kernel_rfl)).trans (by kernel_rfl)


/-- (*stolon/peer.Peer).Records -/
noncomputable def t65 (C : CallF) (x0 : Value) (h : Heap) : Out :=
  thenV (some ((.slice none 0 0), h)) fun _y2 h =>
  thenV (some (x0, h)) fun y3 h =>
  thenV (C 112 [y3] h) fun y4 h =>
  thenV (pu (bin Tryz.prog .neq 31 y4 (.int .i64 0)) h) fun y5 h =>
  (match y5 with
  | .bool true =>
  thenV (some ((.slice none 0 0), h)) fun y2_1 h =>
  some (y2_1, h)
  | .bool false =>
  thenV (some (x0, h)) fun y6 h =>
  thenV (pu (nilCheckA y6) h) fun y7 h =>
  thenV (pu (addP y7 6) h) fun y8 h =>
  thenV (ld1 y8 h) fun y9 h =>
  thenV (C 66 [y9] h) fun y10 h =>
  thenV (some (y10, h)) fun y2_1 h =>
  some (y2_1, h)
  | _ => none)
theorem t65_eq (C : CallF) (x0 : Value) (h : Heap) : bodyK Tryz.prog C Tryz.f65 [x0] h = t65 C x0 h :=
  (bodyB_eq Tryz.prog C Tryz.f65 [x0] h (by kernel_rfl)).trans (by kernel_rfl)


/-- (*stolon/peer.Peer).Incarnation -/
noncomputable def t88 (C : CallF) (x0 : Value) (h : Heap) : Out :=
  thenV (some ((.int .u64 0), h)) fun _y2 h =>
  thenV (some (x0, h)) fun y3 h =>
  thenV (C 112 [y3] h) fun y4 h =>
  thenV (pu (bin Tryz.prog .neq 31 y4 (.int .i64 0)) h) fun y5 h =>
  (match y5 with
  | .bool true =>
  thenV (some ((.int .u64 0), h)) fun y2_1 h =>
  some (y2_1, h)
  | .bool false =>
  thenV (some (x0, h)) fun y6 h =>
  thenV (pu (nilCheckA y6) h) fun y7 h =>
  thenV (pu (addP y7 4) h) fun y8 h =>
  thenV (ld1 y8 h) fun y9 h =>
  thenV (C 132 [y9] h) fun y10 h =>
  thenV (some (y10, h)) fun y2_1 h =>
  some (y2_1, h)
  | _ => none)
theorem t88_eq (C : CallF) (x0 : Value) (h : Heap) : bodyK Tryz.prog C Tryz.f88 [x0] h = t88 C x0 h :=
  (bodyB_eq Tryz.prog C Tryz.f88 [x0] h (by kernel_rfl)).trans (by kernel_rfl)


/-- (*stolon/peer.Peer).Running -/
noncomputable def t130 (C : CallF) (x0 : Value) (h : Heap) : Out :=
  thenV (some ((.bool false), h)) fun _y2 h =>
  thenV (some (x0, h)) fun y3 h =>
  thenV (C 184 [y3] h) fun y4 h =>
  thenV (pu (bin Tryz.prog .eql 31 y4 (.int .i64 0)) h) fun y5 h =>
  thenV (some (y5, h)) fun y2_1 h =>
  some (y2_1, h)
theorem t130_eq (C : CallF) (x0 : Value) (h : Heap) : bodyK Tryz.prog C Tryz.f130 [x0] h = t130 C x0 h :=
  (bodyB_eq Tryz.prog C Tryz.f130 [x0] h (by kernel_rfl)).trans (by kernel_rfl)


/-- (*stolon/swarm.World).Records -/
noncomputable def t29 (C : CallF) (x0 x1 : Value) (h : Heap) : Out :=
  thenV (some ((.slice none 0 0), h)) fun _y4 h =>
  thenV (some (x0, h)) fun y5 h =>
  thenV (some (x1, h)) fun y6 h =>
  thenV (C 60 [y5, y6] h) fun y7 h =>
  thenV (C 65 [y7] h) fun y8 h =>
  thenV (some (y8, h)) fun y4_1 h =>
  some (y4_1, h)
theorem t29_eq (C : CallF) (x0 x1 : Value) (h : Heap) : bodyK Tryz.prog C Tryz.f29 [x0, x1] h = t29 C x0 x1 h :=
  (bodyB_eq Tryz.prog C Tryz.f29 [x0, x1] h (by kernel_rfl)).trans (by kernel_rfl)


/-- (*stolon/swarm.World).Incarnation -/
noncomputable def t31 (C : CallF) (x0 x1 : Value) (h : Heap) : Out :=
  thenV (some ((.int .u64 0), h)) fun _y4 h =>
  thenV (some (x0, h)) fun y5 h =>
  thenV (some (x1, h)) fun y6 h =>
  thenV (C 60 [y5, y6] h) fun y7 h =>
  thenV (C 88 [y7] h) fun y8 h =>
  thenV (some (y8, h)) fun y4_1 h =>
  some (y4_1, h)
theorem t31_eq (C : CallF) (x0 x1 : Value) (h : Heap) : bodyK Tryz.prog C Tryz.f31 [x0, x1] h = t31 C x0 x1 h :=
  (bodyB_eq Tryz.prog C Tryz.f31 [x0, x1] h (by kernel_rfl)).trans (by kernel_rfl)


/-- (*stolon/swarm.World).runs -/
noncomputable def t78 (C : CallF) (x0 x1 : Value) (h : Heap) : Out :=
  thenV (some ((.bool false), h)) fun _y4 h =>
  thenV (some (x0, h)) fun y5 h =>
  thenV (pu (nilCheckA y5) h) fun y6 h =>
  thenV (pu (addP y6 3) h) fun y7 h =>
  thenV (ld1 y7 h) fun y8 h =>
  thenV (some (x1, h)) fun y9 h =>
  thenV (pu (idxS 3 y8 y9) h) fun y10 h =>
  thenV (pu (addP y10 1) h) fun y11 h =>
  thenV (ld1 y11 h) fun y12 h =>
  thenV (C 130 [y12] h) fun y13 h =>
  thenV (some (y13, h)) fun y4_1 h =>
  some (y4_1, h)
theorem t78_eq (C : CallF) (x0 x1 : Value) (h : Heap) : bodyK Tryz.prog C Tryz.f78 [x0, x1] h = t78 C x0 x1 h :=
  (bodyB_eq Tryz.prog C Tryz.f78 [x0, x1] h (by kernel_rfl)).trans (by kernel_rfl)


end Go.Proofs.YtdmnphocgfnlpaaGreatDoor

namespace Go.Proofs.YtdmnphocgfnlpaaGreatDoor
open Go Go.Abs
noncomputable def k86_5 (C : CallF) (e : Env) (h : Heap) : Out := codeK Tryz.prog C (partOf Tryz.f86 [1, 1, 1, 1]) e h (resultsA Tryz.prog Tryz.f86.results.toList) (resultsA Tryz.prog Tryz.f86.results.toList) (fun _ _ _ => none)
noncomputable def b86_7 (C : CallF) (i : Nat) (e : Env) (h : Heap) : Out := if i = 0 then (k86_5 C) e h else (fun _ _ _ => none) i e h
/-- (*stolon/disk.Disk).Image -/
noncomputable def t86 (C : CallF) (x0 : Value) (h : Heap) : Out :=
  thenV (some ((.slice none 0 0), h)) fun y2 h =>
  thenV (some (x0, h)) fun y5 h =>
  thenV (pu (bin Tryz.prog .eql 139 y5 (.pointer none)) h) fun y6 h =>
  (match y6 with
  | .bool true =>
  thenV (some ((.slice none 0 0), h)) fun y2_1 h =>
  some (y2_1, h)
  | .bool false =>
  thenV (some (x0, h)) fun y7 h =>
  thenV (pu (nilCheckA y7) h) fun y8 h =>
  thenV (pu (addP y8 0) h) fun y9 h =>
  thenV (ld1 y9 h) fun y10 h =>
  thenV (pu (lenL y10) h) fun y11 h =>
  thenV (pu (bin Tryz.prog .mul 3 y11 (.int .i64 128)) h) fun y12 h =>
  thenV (mkR 1 1 (.int .u8 0) (.int .i64 0) y12 h) fun y13 h =>
  thenV (some (y13, h)) fun y3 h =>
  thenV (some (x0, h)) fun y14 h =>
  thenV (pu (nilCheckA y14) h) fun y15 h =>
  thenV (pu (addP y15 0) h) fun y16 h =>
  thenV (ld1 y16 h) fun y17 h =>
  thenV (pu (lenL y17) h) fun y18 h =>
  thenV (some ((.int .i64 0), h)) fun y19 h =>
  endL (iter (codeA Tryz.prog C (partOf Tryz.f86 [1, 1, 1, 0, 1, 0, 0])) rounds (mkF 33 (up (bs [x0]) [(2, y2), (3, y3), (5, y5), (6, y6), (7, y7), (8, y8), (9, y9), (10, y10), (11, y11), (12, y12), (13, y13), (14, y14), (15, y15), (16, y16), (17, y17), (18, y18), (19, y19)])) h) (resultsA Tryz.prog Tryz.f86.results.toList) (b86_7 C)
  | _ => none)
noncomputable def t86k86_5 (_C : CallF) (x : Nat → Value) (h : Heap) : Out :=
  thenV (some ((x 3), h)) fun y32 h =>
  thenV (some (y32, h)) fun y2 h =>
  some (y2, h)
noncomputable def t86l86_111010 (_C : CallF) (x : Nat → Value) (h : Heap) : Option (Ex × Env × Heap) :=
  thenV (pu (bin Tryz.prog .lss 3 (x 19) (x 18)) h) fun y20 h =>
  (match y20 with
  | .bool true =>
  thenV (some ((x 19), h)) fun y21 h =>
  thenV (some (y21, h)) fun y4 h =>
  thenV (some ((x 3), h)) fun y22 h =>
  thenV (some ((x 0), h)) fun y23 h =>
  thenV (pu (nilCheckA y23) h) fun y24 h =>
  thenV (pu (addP y24 0) h) fun y25 h =>
  thenV (ld1 y25 h) fun y26 h =>
  thenV (some (y4, h)) fun y27 h =>
  thenV (pu (idxS 128 y26 y27) h) fun y28 h =>
  thenV (pu (sliceArr 128 1 y28 none none none) h) fun y29 h =>
  thenV (appendA 1 1 y22 y29 h) fun y30 h =>
  thenV (some (y30, h)) fun y3 h =>
  thenV (pu (bin Tryz.prog .add 3 (x 19) (.int .i64 1)) h) fun y31 h =>
  thenV (some (y31, h)) fun y19 h =>
  some (.normal, (mkF 33 (up x [(3, y3), (4, y4), (19, y19), (20, y20), (21, y21), (22, y22), (23, y23), (24, y24), (25, y25), (26, y26), (27, y27), (28, y28), (29, y29), (30, y30), (31, y31)])), h)
  | .bool false =>
  some (.exit 0, (mkF 33 (up x [(20, y20)])), h)
  | _ => none)
theorem t86_eq (C : CallF) (x0 : Value) (h : Heap) : bodyK Tryz.prog C Tryz.f86 [x0] h = t86 C x0 h :=
  (bodyB_eq Tryz.prog C Tryz.f86 [x0] h (by kernel_rfl)).trans (by kernel_rfl)
theorem t86k86_5_eq (C : CallF) (x : Nat → Value) (h : Heap) : k86_5 C (mkF 33 x) h = t86k86_5 C x h :=
  link_partF (b := (partOf Tryz.f86 [1, 1, 1, 1])) (kE := (resultsA Tryz.prog Tryz.f86.results.toList)) (rE := (resultsA Tryz.prog Tryz.f86.results.toList)) (xE := (fun _ _ _ => none)) (T := t86k86_5 C) (fun x h => by kernel_rfl) x h
theorem t86l86_111010_eq (C : CallF) (x : Nat → Value) (h : Heap) : codeA Tryz.prog C (partOf Tryz.f86 [1, 1, 1, 0, 1, 0, 0]) (mkF 33 x) h = t86l86_111010 C x h :=
  link_roundF (T := t86l86_111010 C) (fun x h => by kernel_rfl) x h


end Go.Proofs.YtdmnphocgfnlpaaGreatDoor

