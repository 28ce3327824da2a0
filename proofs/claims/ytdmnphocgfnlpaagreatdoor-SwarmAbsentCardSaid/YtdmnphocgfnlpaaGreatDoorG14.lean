/-
  The swarm: printed texts of functions, each linked to the program.
  Conditions: none.
  The swarm: printed texts of functions, each linked to the program.
  Conditions: none.
-/
import Derived.Test.YtdmnphocgfnlpaaGreatDoorG13
import Derived.Test.YtdmnphocgfnlpaaGreatDoorProg
import Derived.KernelRfl
namespace Go.Proofs.YtdmnphocgfnlpaaGreatDoor
open Go Go.Abs
/-- stolon/stolonlaw10.SwarmAbsent -/
noncomputable def t7 (C : CallF) (x0 x1 : Value) (h : Heap) : Out :=
  thenV (box x1 h) fun y3 h =>
  thenV (some ((.bool false), h)) fun y4 h =>
  thenV (pu (addP y3 5) h) fun y8 h =>
  thenV (ld1 y8 h) fun y9 h =>
  thenV (pu (lenL y9) h) fun y10 h =>
  thenV (pu (bin Tryz.prog .gtr 3 y10 (.int .i64 9000)) h) fun y11 h =>
  (match y11 with
  | .bool true =>
  thenV (C 8 [] h) fun y12 h =>
  thenV (some (y12, h)) fun y4_1 h =>
  some (y4_1, h)
  | .bool false =>
  thenV (some ((.pointer none), h)) fun y5 h =>
  thenV (some (y5, h)) fun y13 h =>
  thenV (ldN 6 y3 h) fun y14 h =>
  thenV (C 19 [y13, y14] h) fun y15 h =>
  thenV (some (y15, h)) fun y16 h =>
  thenV (guardK (bOf y16 == some false) (some (y5, h)) h) fun y17 h =>
  thenV (guardK (bOf y16 == some false) (C 20 [y17] h) h) fun y18 h =>
  thenV (match y16 with | .bool t => some (if t then (.bool true) else y18, h) | _ => none) fun y19 h =>
  thenV (some (y19, h)) fun y20 h =>
  thenV (guardK (bOf y20 == some false) (some (y5, h)) h) fun y21 h =>
  thenV (guardK (bOf y20 == some false) (C 21 [y21] h) h) fun y22 h =>
  thenV (guardK (bOf y20 == some false) (pu (bin Tryz.prog .neq 27 y22 (.int .u64 0)) h) h) fun y23 h =>
  thenV (match y20 with | .bool t => some (if t then (.bool true) else y23, h) | _ => none) fun y24 h =>
  thenV (some (y24, h)) fun y25 h =>
  thenV (guardK (bOf y25 == some false) (some (y5, h)) h) fun y26 h =>
  thenV (guardK (bOf y25 == some false) (C 22 [y26] h) h) fun y27 h =>
  thenV (guardK (bOf y25 == some false) (pu (lenL y27) h) h) fun y28 h =>
  thenV (guardK (bOf y25 == some false) (pu (bin Tryz.prog .neq 3 y28 (.int .i64 0)) h) h) fun y29 h =>
  thenV (match y25 with | .bool t => some (if t then (.bool true) else y29, h) | _ => none) fun y30 h =>
  thenV (some (y30, h)) fun y31 h =>
  thenV (guardK (bOf y31 == some false) (some (y5, h)) h) fun y32 h =>
  thenV (guardK (bOf y31 == some false) (C 23 [y32] h) h) fun y33 h =>
  thenV (guardK (bOf y31 == some false) (pu (lenL y33) h) h) fun y34 h =>
  thenV (guardK (bOf y31 == some false) (pu (bin Tryz.prog .neq 3 y34 (.int .i64 0)) h) h) fun y35 h =>
  thenV (match y31 with | .bool t => some (if t then (.bool true) else y35, h) | _ => none) fun y36 h =>
  thenV (some (y36, h)) fun y37 h =>
  thenV (guardK (bOf y37 == some false) (some (y5, h)) h) fun y38 h =>
  thenV (guardK (bOf y37 == some false) (C 24 [y38] h) h) fun y39 h =>
  thenV (guardK (bOf y37 == some false) (pu (lenL y39) h) h) fun y40 h =>
  thenV (guardK (bOf y37 == some false) (pu (bin Tryz.prog .neq 3 y40 (.int .i64 0)) h) h) fun y41 h =>
  thenV (match y37 with | .bool t => some (if t then (.bool true) else y41, h) | _ => none) fun y42 h =>
  thenV (some (y42, h)) fun y43 h =>
  thenV (guardK (bOf y43 == some false) (some (y5, h)) h) fun y44 h =>
  thenV (guardK (bOf y43 == some false) (C 25 [y44] h) h) fun y45 h =>
  thenV (guardK (bOf y43 == some false) (pu (lenL y45) h) h) fun y46 h =>
  thenV (guardK (bOf y43 == some false) (pu (bin Tryz.prog .neq 3 y46 (.int .i64 0)) h) h) fun y47 h =>
  thenV (match y43 with | .bool t => some (if t then (.bool true) else y47, h) | _ => none) fun y48 h =>
  thenV (some (y48, h)) fun y49 h =>
  thenV (guardK (bOf y49 == some false) (some (y5, h)) h) fun y50 h =>
  thenV (guardK (bOf y49 == some false) (C 26 [y50] h) h) fun y51 h =>
  thenV (guardK (bOf y49 == some false) (pu (lenL y51) h) h) fun y52 h =>
  thenV (guardK (bOf y49 == some false) (pu (bin Tryz.prog .neq 3 y52 (.int .i64 0)) h) h) fun y53 h =>
  thenV (match y49 with | .bool t => some (if t then (.bool true) else y53, h) | _ => none) fun y54 h =>
  thenV (some (y54, h)) fun y55 h =>
  thenV (guardK (bOf y55 == some false) (some (y5, h)) h) fun y56 h =>
  thenV (guardK (bOf y55 == some false) (C 27 [y56] h) h) fun y57 h =>
  thenV (guardK (bOf y55 == some false) (pu (lenL y57) h) h) fun y58 h =>
  thenV (guardK (bOf y55 == some false) (pu (bin Tryz.prog .neq 3 y58 (.int .i64 0)) h) h) fun y59 h =>
  thenV (match y55 with | .bool t => some (if t then (.bool true) else y59, h) | _ => none) fun y60 h =>
  thenV (some (y60, h)) fun y61 h =>
  thenV (guardK (bOf y61 == some false) (some (y5, h)) h) fun y62 h =>
  thenV (guardK (bOf y61 == some false) (C 28 [y62, (.int .i64 0)] h) h) fun y63 h =>
  thenV (guardK (bOf y61 == some false) (pu (lenL y63) h) h) fun y64 h =>
  thenV (guardK (bOf y61 == some false) (pu (bin Tryz.prog .neq 3 y64 (.int .i64 0)) h) h) fun y65 h =>
  thenV (match y61 with | .bool t => some (if t then (.bool true) else y65, h) | _ => none) fun y66 h =>
  thenV (some (y66, h)) fun y67 h =>
  thenV (guardK (bOf y67 == some false) (some (y5, h)) h) fun y68 h =>
  thenV (guardK (bOf y67 == some false) (C 29 [y68, (.int .i64 0)] h) h) fun y69 h =>
  thenV (guardK (bOf y67 == some false) (pu (lenL y69) h) h) fun y70 h =>
  thenV (guardK (bOf y67 == some false) (pu (bin Tryz.prog .neq 3 y70 (.int .i64 0)) h) h) fun y71 h =>
  thenV (match y67 with | .bool t => some (if t then (.bool true) else y71, h) | _ => none) fun y72 h =>
  (match y72 with
  | .bool true =>
  thenV (some ((.bool false), h)) fun y4_1 h =>
  some (y4_1, h)
  | .bool false =>
  thenV (pu (bldR [(.int .i64 0), (.int .i64 0), (.int .i64 0)] [(0, 1, (.int .i64 3)), (1, 1, (.int .i64 8)), (2, 1, (.int .i64 10))]) h) fun y74 h =>
  thenV (C 30 [y74] h) fun y75 h =>
  thenV (some (y75, h)) fun y73 h =>
  thenV (pu (extractA y73 0) h) fun y76 h =>
  thenV (pu (extractA y73 1) h) fun y77 h =>
  thenV (some (y76, h)) fun y6 h =>
  thenV (some (y77, h)) fun y7 h =>
  thenV (some (y7, h)) fun y78 h =>
  thenV (pu (bin Tryz.prog .neq 31 y78 (.int .i64 0)) h) fun y79 h =>
  thenV (some (y79, h)) fun y80 h =>
  thenV (guardK (bOf y80 == some false) (some (y6, h)) h) fun y81 h =>
  thenV (guardK (bOf y80 == some false) (some (x0, h)) h) fun y82 h =>
  thenV (guardK (bOf y80 == some false) (C 28 [y81, y82] h) h) fun y83 h =>
  thenV (guardK (bOf y80 == some false) (pu (lenL y83) h) h) fun y84 h =>
  thenV (guardK (bOf y80 == some false) (pu (bin Tryz.prog .neq 3 y84 (.int .i64 0)) h) h) fun y85 h =>
  thenV (guardK (bOf y80 == some false) (some (x0, h)) h) fun y86 h =>
  thenV (guardK (bOf y80 == some false) (pu (bin Tryz.prog .geq 3 y86 (.int .i64 0)) h) h) fun y87 h =>
  thenV (guardK (bOf y80 == some false) (some (y87, h)) h) fun y88 h =>
  thenV (guardK (bOf y88 == some true) (some (x0, h)) h) fun y89 h =>
  thenV (guardK (bOf y88 == some true) (pu (bin Tryz.prog .lss 3 y89 (.int .i64 3)) h) h) fun y90 h =>
  thenV (guardK (bOf y80 == some false) (match y88 with | .bool t => some (if t then y90 else (.bool false), h) | _ => none) h) fun y91 h =>
  thenV (guardK (bOf y80 == some false) (pu (bin Tryz.prog .neq 4 y85 y91) h) h) fun y92 h =>
  thenV (match y80 with | .bool t => some (if t then (.bool true) else y92, h) | _ => none) fun y93 h =>
  thenV (some (y93, h)) fun y94 h =>
  thenV (guardK (bOf y94 == some false) (some (y6, h)) h) fun y95 h =>
  thenV (guardK (bOf y94 == some false) (some (x0, h)) h) fun y96 h =>
  thenV (guardK (bOf y94 == some false) (C 31 [y95, y96] h) h) fun y97 h =>
  thenV (guardK (bOf y94 == some false) (pu (bin Tryz.prog .neq 27 y97 (.int .u64 0)) h) h) fun y98 h =>
  thenV (match y94 with | .bool t => some (if t then (.bool true) else y98, h) | _ => none) fun y99 h =>
  thenV (some (y99, h)) fun y100 h =>
  thenV (guardK (bOf y100 == some false) (some (y6, h)) h) fun y101 h =>
  thenV (guardK (bOf y100 == some false) (some (x0, h)) h) fun y102 h =>
  thenV (guardK (bOf y100 == some false) (C 32 [y101, y102] h) h) fun y103 h =>
  thenV (guardK (bOf y100 == some false) (pu (lenL y103) h) h) fun y104 h =>
  thenV (guardK (bOf y100 == some false) (pu (bin Tryz.prog .neq 3 y104 (.int .i64 0)) h) h) fun y105 h =>
  thenV (match y100 with | .bool t => some (if t then (.bool true) else y105, h) | _ => none) fun y106 h =>
  thenV (some (y106, h)) fun y107 h =>
  thenV (guardK (bOf y107 == some false) (some (y6, h)) h) fun y108 h =>
  thenV (guardK (bOf y107 == some false) (some (x0, h)) h) fun y109 h =>
  thenV (guardK (bOf y107 == some false) (C 33 [y108, y109] h) h) fun y110 h =>
  thenV (guardK (bOf y107 == some false) (pu (lenL y110) h) h) fun y111 h =>
  thenV (guardK (bOf y107 == some false) (pu (bin Tryz.prog .neq 3 y111 (.int .i64 0)) h) h) fun y112 h =>
  thenV (match y107 with | .bool t => some (if t then (.bool true) else y112, h) | _ => none) fun y113 h =>
  thenV (some (y113, h)) fun y114 h =>
  thenV (guardK (bOf y114 == some false) (some (y6, h)) h) fun y115 h =>
  thenV (guardK (bOf y114 == some false) (some (x0, h)) h) fun y116 h =>
  thenV (guardK (bOf y114 == some false) (C 29 [y115, y116] h) h) fun y117 h =>
  thenV (guardK (bOf y114 == some false) (pu (lenL y117) h) h) fun y118 h =>
  thenV (guardK (bOf y114 == some false) (pu (bin Tryz.prog .neq 3 y118 (.int .i64 0)) h) h) fun y119 h =>
  thenV (match y114 with | .bool t => some (if t then (.bool true) else y119, h) | _ => none) fun y120 h =>
  thenV (some (y120, h)) fun y121 h =>
  thenV (guardK (bOf y121 == some false) (some (y6, h)) h) fun y122 h =>
  thenV (guardK (bOf y121 == some false) (some (x0, h)) h) fun y123 h =>
  thenV (guardK (bOf y121 == some false) (pu (bldR (List.replicate 32 (.int .u8 0)) []) h) h) fun y124 h =>
  thenV (guardK (bOf y121 == some false) (C 34 [y122, y123, y124] h) h) fun y125 h =>
  thenV (guardK (bOf y121 == some false) (pu (fld1 0 y125) h) h) fun y126 h =>
  thenV (match y121 with | .bool t => some (if t then (.bool true) else y126, h) | _ => none) fun y127 h =>
  (match y127 with
  | .bool true =>
  thenV (some ((.bool false), h)) fun y4_1 h =>
  some (y4_1, h)
  | .bool false =>
  thenV (some (x0, h)) fun y129 h =>
  thenV (pu (bldR [(.int .i64 0), (.int .i64 0), (.int .i64 0)] [(0, 1, y129), (1, 1, (.int .i64 8))]) h) fun y130 h =>
  thenV (C 30 [y130] h) fun y131 h =>
  thenV (some (y131, h)) fun y128 h =>
  thenV (pu (extractA y128 0) h) fun y132 h =>
  thenV (pu (extractA y128 1) h) fun y133 h =>
  thenV (some (y132, h)) fun y6_1 h =>
  thenV (some (y133, h)) fun y7_1 h =>
  thenV (some (y7_1, h)) fun y134 h =>
  thenV (pu (bin Tryz.prog .eql 31 y134 (.int .i64 0)) h) fun y135 h =>
  thenV (some (x0, h)) fun y136 h =>
  thenV (pu (bin Tryz.prog .geq 3 y136 (.int .i64 2)) h) fun y137 h =>
  thenV (some (y137, h)) fun y138 h =>
  thenV (guardK (bOf y138 == some true) (some (x0, h)) h) fun y139 h =>
  thenV (guardK (bOf y138 == some true) (pu (bin Tryz.prog .leq 3 y139 (.int .i64 16)) h) h) fun y140 h =>
  thenV (match y138 with | .bool t => some (if t then y140 else (.bool false), h) | _ => none) fun y141 h =>
  thenV (pu (bin Tryz.prog .eql 4 y135 y141) h) fun y142 h =>
  thenV (some (y142, h)) fun y143 h =>
  thenV (guardK (bOf y143 == some true) (some (y6_1, h)) h) fun y144 h =>
  thenV (guardK (bOf y143 == some true) (pu (bin Tryz.prog .neq 44 y144 (.pointer none)) h) h) fun y145 h =>
  thenV (guardK (bOf y143 == some true) (some (y7_1, h)) h) fun y146 h =>
  thenV (guardK (bOf y143 == some true) (pu (bin Tryz.prog .eql 31 y146 (.int .i64 0)) h) h) fun y147 h =>
  thenV (guardK (bOf y143 == some true) (pu (bin Tryz.prog .eql 4 y145 y147) h) h) fun y148 h =>
  thenV (match y143 with | .bool t => some (if t then y148 else (.bool false), h) | _ => none) fun y149 h =>
  thenV (some (y149, h)) fun y150 h =>
  thenV (guardK (bOf y150 == some true) (some (y7_1, h)) h) fun y151 h =>
  thenV (guardK (bOf y150 == some true) (pu (bin Tryz.prog .eql 31 y151 (.int .i64 0)) h) h) fun y152 h =>
  thenV (guardK (bOf y150 == some true) (some (y152, h)) h) fun y153 h =>
  thenV (guardK (bOf y153 == some false) (some (y7_1, h)) h) fun y154 h =>
  thenV (guardK (bOf y153 == some false) (pu (bin Tryz.prog .eql 31 y154 (.int .i64 2)) h) h) fun y155 h =>
  thenV (guardK (bOf y150 == some true) (match y153 with | .bool t => some (if t then (.bool true) else y155, h) | _ => none) h) fun y156 h =>
  thenV (match y150 with | .bool t => some (if t then y156 else (.bool false), h) | _ => none) fun y157 h =>
  thenV (some (y157, h)) fun y158 h =>
  thenV (guardK (bOf y158 == some true) (C 8 [] h) h) fun y159 h =>
  thenV (match y158 with | .bool t => some (if t then y159 else (.bool false), h) | _ => none) fun y160 h =>
  thenV (some (y160, h)) fun y4_1 h =>
  some (y4_1, h)
  | _ => none)
  | _ => none)
  | _ => none)
theorem t7_eq (C : CallF) (x0 x1 : Value) (h : Heap) : bodyK Tryz.prog C Tryz.f7 [x0, x1] h = t7 C x0 x1 h :=
  (bodyB_eq Tryz.prog C Tryz.f7 [x0, x1] h (by kernel_rfl)).trans (by kernel_rfl)


/-- (*stolon/swarm.World).Do -/
noncomputable def t19 (C : CallF) (x0 x1 : Value) (h : Heap) : Out :=
  thenV (box x1 h) fun y3 h =>
  thenV (some ((.bool false), h)) fun y4 h =>
  thenV (some (x0, h)) fun y5 h =>
  thenV (pu (bin Tryz.prog .eql 44 y5 (.pointer none)) h) fun y6 h =>
  thenV (some (y6, h)) fun y7 h =>
  thenV (guardK (bOf y7 == some false) (some (x0, h)) h) fun y8 h =>
  thenV (guardK (bOf y7 == some false) (ldN 6 y3 h) h) fun y9 h =>
  thenV (guardK (bOf y7 == some false) (C 55 [y8, y9] h) h) fun y10 h =>
  thenV (guardK (bOf y7 == some false) (pu (unA .not y10) h) h) fun y11 h =>
  thenV (match y7 with | .bool t => some (if t then (.bool true) else y11, h) | _ => none) fun y12 h =>
  (match y12 with
  | .bool true =>
  thenV (some ((.bool false), h)) fun y4_1 h =>
  some (y4_1, h)
  | .bool false =>
  thenV (some (x0, h)) fun y13 h =>
  thenV (pu (nilCheckA y13) h) fun y14 h =>
  thenV (pu (addP y14 7) h) fun y15 h =>
  thenV (C 56 [y15, (.int .u64 1)] h) fun y16 h =>
  thenV (some ((.bool true), h)) fun y4_1 h =>
  some (y4_1, h)
  | _ => none)
theorem t19_eq (C : CallF) (x0 x1 : Value) (h : Heap) : bodyK Tryz.prog C Tryz.f19 [x0, x1] h = t19 C x0 x1 h :=
  (bodyB_eq Tryz.prog C Tryz.f19 [x0, x1] h (by kernel_rfl)).trans (by kernel_rfl)


/-- (*stolon/swarm.World).Applied -/
noncomputable def t21 (C : CallF) (x0 : Value) (h : Heap) : Out :=
  thenV (some ((.int .u64 0), h)) fun y2 h =>
  thenV (some (x0, h)) fun y3 h =>
  thenV (pu (bin Tryz.prog .eql 44 y3 (.pointer none)) h) fun y4 h =>
  (match y4 with
  | .bool true =>
  thenV (some ((.int .u64 0), h)) fun y2_1 h =>
  some (y2_1, h)
  | .bool false =>
  thenV (some (x0, h)) fun y5 h =>
  thenV (pu (nilCheckA y5) h) fun y6 h =>
  thenV (pu (addP y6 7) h) fun y7 h =>
  thenV (C 76 [y7] h) fun y8 h =>
  thenV (some (y8, h)) fun y2_1 h =>
  some (y2_1, h)
  | _ => none)
theorem t21_eq (C : CallF) (x0 : Value) (h : Heap) : bodyK Tryz.prog C Tryz.f21 [x0] h = t21 C x0 h :=
  (bodyB_eq Tryz.prog C Tryz.f21 [x0] h (by kernel_rfl)).trans (by kernel_rfl)


/-- (*stolon/swarm.World).Objects -/
noncomputable def t24 (C : CallF) (x0 : Value) (h : Heap) : Out :=
  thenV (some ((.slice none 0 0), h)) fun y2 h =>
  thenV (some (x0, h)) fun y3 h =>
  thenV (pu (bin Tryz.prog .eql 44 y3 (.pointer none)) h) fun y4 h =>
  (match y4 with
  | .bool true =>
  thenV (some ((.slice none 0 0), h)) fun y2_1 h =>
  some (y2_1, h)
  | .bool false =>
  thenV (some (x0, h)) fun y5 h =>
  thenV (pu (nilCheckA y5) h) fun y6 h =>
  thenV (pu (addP y6 5) h) fun y7 h =>
  thenV (ld1 y7 h) fun y8 h =>
  thenV (C 79 [y8] h) fun y9 h =>
  thenV (some (y9, h)) fun y2_1 h =>
  some (y2_1, h)
  | _ => none)
theorem t24_eq (C : CallF) (x0 : Value) (h : Heap) : bodyK Tryz.prog C Tryz.f24 [x0] h = t24 C x0 h :=
  (bodyB_eq Tryz.prog C Tryz.f24 [x0] h (by kernel_rfl)).trans (by kernel_rfl)


/-- (*stolon/swarm.World).Acknowledged -/
noncomputable def t27 (C : CallF) (x0 : Value) (h : Heap) : Out :=
  thenV (box x0 h) fun y1 h =>
  thenV (some ((.slice none 0 0), h)) fun y2 h =>
  thenV (ld1 y1 h) fun y3 h =>
  thenV (pu (bin Tryz.prog .eql 44 y3 (.pointer none)) h) fun y4 h =>
  (match y4 with
  | .bool true =>
  thenV (some ((.slice none 0 0), h)) fun y2_1 h =>
  some (y2_1, h)
  | .bool false =>
  thenV (ld1 y1 h) fun y5 h =>
  thenV (pu (nilCheckA y5) h) fun y6 h =>
  thenV (pu (addP y6 5) h) fun y7 h =>
  thenV (ld1 y7 h) fun y8 h =>
  thenV (C 79 [y8] h) fun y9 h =>
  thenV (some (.func (.func 83) #[] #[y1], h)) fun y10 h =>
  thenV (C 82 [y9, y10] h) fun y11 h =>
  thenV (some (y11, h)) fun y2_1 h =>
  some (y2_1, h)
  | _ => none)
theorem t27_eq (C : CallF) (x0 : Value) (h : Heap) : bodyK Tryz.prog C Tryz.f27 [x0] h = t27 C x0 h :=
  (bodyB_eq Tryz.prog C Tryz.f27 [x0] h (by kernel_rfl)).trans (by kernel_rfl)


/-- (*stolon/swarm.World).Image -/
noncomputable def t28 (C : CallF) (x0 x1 : Value) (h : Heap) : Out :=
  thenV (some ((.slice none 0 0), h)) fun y4 h =>
  thenV (some (x0, h)) fun y5 h =>
  thenV (pu (bin Tryz.prog .eql 44 y5 (.pointer none)) h) fun y6 h =>
  thenV (some (y6, h)) fun y7 h =>
  thenV (guardK (bOf y7 == some false) (some (x1, h)) h) fun y8 h =>
  thenV (guardK (bOf y7 == some false) (pu (bin Tryz.prog .lss 3 y8 (.int .i64 0)) h) h) fun y9 h =>
  thenV (match y7 with | .bool t => some (if t then (.bool true) else y9, h) | _ => none) fun y10 h =>
  thenV (some (y10, h)) fun y11 h =>
  thenV (guardK (bOf y11 == some false) (some (x1, h)) h) fun y12 h =>
  thenV (guardK (bOf y11 == some false) (some (x0, h)) h) fun y13 h =>
  thenV (guardK (bOf y11 == some false) (pu (nilCheckA y13) h) h) fun y14 h =>
  thenV (guardK (bOf y11 == some false) (pu (addP y14 3) h) h) fun y15 h =>
  thenV (guardK (bOf y11 == some false) (ld1 y15 h) h) fun y16 h =>
  thenV (guardK (bOf y11 == some false) (pu (lenL y16) h) h) fun y17 h =>
  thenV (guardK (bOf y11 == some false) (pu (bin Tryz.prog .geq 3 y12 y17) h) h) fun y18 h =>
  thenV (match y11 with | .bool t => some (if t then (.bool true) else y18, h) | _ => none) fun y19 h =>
  (match y19 with
  | .bool true =>
  thenV (some ((.slice none 0 0), h)) fun y4_1 h =>
  some (y4_1, h)
  | .bool false =>
  thenV (some (x0, h)) fun y20 h =>
  thenV (pu (nilCheckA y20) h) fun y21 h =>
  thenV (pu (addP y21 3) h) fun y22 h =>
  thenV (ld1 y22 h) fun y23 h =>
  thenV (some (x1, h)) fun y24 h =>
  thenV (pu (idxS 3 y23 y24) h) fun y25 h =>
  thenV (pu (addP y25 0) h) fun y26 h =>
  thenV (ld1 y26 h) fun y27 h =>
  thenV (C 86 [y27] h) fun y28 h =>
  thenV (some (y28, h)) fun y4_1 h =>
  some (y4_1, h)
  | _ => none)
theorem t28_eq (C : CallF) (x0 x1 : Value) (h : Heap) : bodyK Tryz.prog C Tryz.f28 [x0, x1] h = t28 C x0 x1 h :=
  (bodyB_eq Tryz.prog C Tryz.f28 [x0, x1] h (by kernel_rfl)).trans (by kernel_rfl)


/-- (*stolon/swarm.World).Table -/
noncomputable def t32 (C : CallF) (x0 x1 : Value) (h : Heap) : Out :=
  thenV (some ((.slice none 0 0), h)) fun y4 h =>
  thenV (some (x0, h)) fun y5 h =>
  thenV (some (x1, h)) fun y6 h =>
  thenV (C 60 [y5, y6] h) fun y7 h =>
  thenV (C 63 [y7] h) fun y8 h =>
  thenV (some (y8, h)) fun y4_1 h =>
  some (y4_1, h)
theorem t32_eq (C : CallF) (x0 x1 : Value) (h : Heap) : bodyK Tryz.prog C Tryz.f32 [x0, x1] h = t32 C x0 x1 h :=
  (bodyB_eq Tryz.prog C Tryz.f32 [x0, x1] h (by kernel_rfl)).trans (by kernel_rfl)


/-- (*stolon/swarm.World).Held -/
noncomputable def t33 (C : CallF) (x0 x1 : Value) (h : Heap) : Out :=
  thenV (some ((.slice none 0 0), h)) fun y4 h =>
  thenV (some (x0, h)) fun y5 h =>
  thenV (some (x1, h)) fun y6 h =>
  thenV (C 60 [y5, y6] h) fun y7 h =>
  thenV (C 71 [y7] h) fun y8 h =>
  thenV (some (y8, h)) fun y4_1 h =>
  some (y4_1, h)
theorem t33_eq (C : CallF) (x0 x1 : Value) (h : Heap) : bodyK Tryz.prog C Tryz.f33 [x0, x1] h = t33 C x0 x1 h :=
  (bodyB_eq Tryz.prog C Tryz.f33 [x0, x1] h (by kernel_rfl)).trans (by kernel_rfl)


/-- (*stolon/swarm.World).Status -/
noncomputable def t34 (C : CallF) (x0 x1 x2 : Value) (h : Heap) : Out :=
  thenV (box x2 h) fun y5 h =>
  thenV (newC [(.bool false), (.bool false), (.int .i64 0), (.int .i64 0), (.slice none 0 0), (.int .i64 0)] h) fun y6 h =>
  let g2_0 := h
  thenV (some (x0, g2_0)) fun y7 g2_1 =>
  thenV (some (x1, g2_1)) fun y8 g2_2 =>
  thenV (C 60 [y7, y8] g2_2) fun y9 g2_3 =>
  thenV (ldN 32 y5 g2_3) fun y10 g2_4 =>
  thenV (C 89 [y9, y10] g2_4) fun y11 g2_5 =>
  thenV (stN 6 y6 y11 g2_5) fun _ g2_6 =>
  (match (chkR true (ldN 32 y5 g2_2) y10 && true) with
  | true =>
  let h := g2_6
  resultsA Tryz.prog Tryz.f34.results.toList (mkF 12 (up (bs [x0, x1, x2]) [(5, y5), (6, y6), (7, y7), (8, y8), (9, y9), (10, y10), (11, y11)])) h
  | false => none)
theorem t34_eq (C : CallF) (x0 x1 x2 : Value) (h : Heap) : bodyK Tryz.prog C Tryz.f34 [x0, x1, x2] h = t34 C x0 x1 x2 h :=
  (bodyB_eq Tryz.prog C Tryz.f34 [x0, x1, x2] h (by kernel_rfl)).trans (by kernel_rfl)


/-- (*stolon/peer.Peer).Held -/
noncomputable def t71 (C : CallF) (x0 : Value) (h : Heap) : Out :=
  thenV (some ((.slice none 0 0), h)) fun y2 h =>
  thenV (some (x0, h)) fun y3 h =>
  thenV (C 112 [y3] h) fun y4 h =>
  thenV (pu (bin Tryz.prog .neq 31 y4 (.int .i64 0)) h) fun y5 h =>
  (match y5 with
  | .bool true =>
  thenV (some ((.slice none 0 0), h)) fun y2_1 h =>
  some (y2_1, h)
  | .bool false =>
  thenV (some (x0, h)) fun y6 h =>
  thenV (pu (nilCheckA y6) h) fun y7 h =>
  thenV (pu (addP y7 4) h) fun y8 h =>
  thenV (ld1 y8 h) fun y9 h =>
  thenV (C 118 [y9] h) fun y10 h =>
  thenV (some (y10, h)) fun y2_1 h =>
  some (y2_1, h)
  | _ => none)
theorem t71_eq (C : CallF) (x0 : Value) (h : Heap) : bodyK Tryz.prog C Tryz.f71 [x0] h = t71 C x0 h :=
  (bodyB_eq Tryz.prog C Tryz.f71 [x0] h (by kernel_rfl)).trans (by kernel_rfl)


noncomputable def k89_8 (C : CallF) (e : Env) (h : Heap) : Out := codeK Tryz.prog C (partOf Tryz.f89 [1, 1, 1, 1, 1, 1]) e h (resultsA Tryz.prog Tryz.f89.results.toList) (resultsA Tryz.prog Tryz.f89.results.toList) (fun _ _ _ => none)
noncomputable def b89_10 (C : CallF) (i : Nat) (e : Env) (h : Heap) : Out := if i = 0 then (k89_8 C) e h else (fun _ _ _ => none) i e h
/-- (*stolon/peer.Peer).Status -/
noncomputable def t89 (C : CallF) (x0 x1 : Value) (h : Heap) : Out :=
  thenV (box x1 h) fun y3 h =>
  thenV (newC [(.bool false), (.bool false), (.int .i64 0), (.int .i64 0), (.slice none 0 0), (.int .i64 0)] h) fun y4 h =>
  thenV (some (x0, h)) fun y9 h =>
  thenV (C 112 [y9] h) fun y10 h =>
  thenV (pu (bin Tryz.prog .neq 31 y10 (.int .i64 0)) h) fun y11 h =>
  (match y11 with
  | .bool true =>
  thenV (pu (bldR [(.bool false), (.bool false), (.int .i64 0), (.int .i64 0), (.slice none 0 0), (.int .i64 0)] []) h) fun y12 h =>
  thenV (stN 6 y4 y12 h) fun _ h =>
  resultsA Tryz.prog Tryz.f89.results.toList (mkF 61 (up (bs [x0, x1]) [(3, y3), (4, y4), (9, y9), (10, y10), (11, y11), (12, y12)])) h
  | .bool false =>
  let g5_0 := h
  thenV (some (x0, g5_0)) fun y13 g5_1 =>
  thenV (pu (nilCheckA y13) g5_1) fun y14 g5_2 =>
  thenV (pu (addP y14 4) g5_2) fun y15 g5_3 =>
  thenV (ld1 y15 g5_3) fun y16 g5_4 =>
  thenV (ldN 32 y3 g5_4) fun y17 g5_5 =>
  thenV (C 133 [y16, y17] g5_5) fun y18 g5_6 =>
  thenV (some (x0, g5_6)) fun y19 g5_7 =>
  thenV (ldN 32 y3 g5_7) fun y20 g5_8 =>
  thenV (C 134 [y19, y20] g5_8) fun y21 g5_9 =>
  thenV (some (x0, g5_9)) fun y22 g5_10 =>
  thenV (pu (nilCheckA y22) g5_10) fun y23 g5_11 =>
  thenV (pu (addP y23 6) g5_11) fun y24 g5_12 =>
  thenV (ld1 y24 g5_12) fun y25 g5_13 =>
  thenV (ldN 32 y3 g5_13) fun y26 g5_14 =>
  thenV (C 122 [y25, y26] g5_14) fun y27 g5_15 =>
  thenV (pu (bldR [(.bool false), (.bool false), (.int .i64 0), (.int .i64 0), (.slice none 0 0), (.int .i64 0)] [(0, 1, y18), (1, 1, y21), (4, 1, y27)]) g5_15) fun y28 g5_16 =>
  thenV (newC [(.bool false), (.bool false), (.int .i64 0), (.int .i64 0), (.slice none 0 0), (.int .i64 0)] g5_16) fun y5 g5_17 =>
  thenV (stN 6 y5 y28 g5_17) fun _ g5_18 =>
  (match (chkR true (ldN 32 y3 g5_5) y20 && (chkR true (ld1 y24 g5_5) y25 && (chkR true (ld1 y24 g5_8) y25 && (chkR true (ldN 32 y3 g5_5) y26 && (chkR true (ldN 32 y3 g5_8) y26 && true))))) with
  | true =>
  let h := g5_18
  thenV (some (x0, h)) fun y30 h =>
  thenV (pu (nilCheckA y30) h) fun y31 h =>
  thenV (pu (addP y31 6) h) fun y32 h =>
  thenV (ld1 y32 h) fun y33 h =>
  thenV (ldN 32 y3 h) fun y34 h =>
  thenV (C 120 [y33, y34] h) fun y35 h =>
  thenV (some (y35, h)) fun y29 h =>
  thenV (pu (extractA y29 0) h) fun y36 h =>
  thenV (pu (extractA y29 1) h) fun y37 h =>
  thenV (pu (addP y5 2) h) fun y38 h =>
  thenV (stN 1 y38 y36 h) fun _ h =>
  thenV (pu (addP y5 3) h) fun y39 h =>
  thenV (stN 1 y39 y37 h) fun _ h =>
  thenV (some (x0, h)) fun y40 h =>
  thenV (pu (nilCheckA y40) h) fun y41 h =>
  thenV (pu (addP y41 5) h) fun y42 h =>
  thenV (ld1 y42 h) fun y43 h =>
  thenV (C 135 [y43] h) fun y44 h =>
  thenV (some (y44, h)) fun y6 h =>
  thenV (pu (addP y5 4) h) fun y45 h =>
  thenV (ld1 y45 h) fun y46 h =>
  thenV (pu (lenL y46) h) fun y47 h =>
  thenV (some ((.int .i64 0), h)) fun y48 h =>
  endL (iter (codeA Tryz.prog C (partOf Tryz.f89 [1, 1, 1, 1, 1, 0, 1, 0, 0])) rounds (mkF 61 (up (bs [x0, x1]) [(3, y3), (4, y4), (5, y5), (6, y6), (9, y9), (10, y10), (11, y11), (13, y13), (14, y14), (15, y15), (16, y16), (17, y17), (18, y18), (19, y19), (20, y20), (21, y21), (22, y22), (23, y23), (24, y24), (25, y25), (26, y26), (27, y27), (28, y28), (29, y29), (30, y30), (31, y31), (32, y32), (33, y33), (34, y34), (35, y35), (36, y36), (37, y37), (38, y38), (39, y39), (40, y40), (41, y41), (42, y42), (43, y43), (44, y44), (45, y45), (46, y46), (47, y47), (48, y48)])) h) (resultsA Tryz.prog Tryz.f89.results.toList) (b89_10 C)
  | false => none)
  | _ => none)
theorem t89_eq (C : CallF) (x0 x1 : Value) (h : Heap) : bodyK Tryz.prog C Tryz.f89 [x0, x1] h = t89 C x0 x1 h :=
  (bodyB_eq Tryz.prog C Tryz.f89 [x0, x1] h (by kernel_rfl)).trans (by kernel_rfl)
end Go.Proofs.YtdmnphocgfnlpaaGreatDoor

namespace Go.Proofs.YtdmnphocgfnlpaaGreatDoor
open Go Go.Abs
noncomputable def k20_8 (C : CallF) (e : Env) (h : Heap) : Out := codeK Tryz.prog C (partOf Tryz.f20 [1, 1, 1, 1, 1, 1, 1]) e h (resultsA Tryz.prog Tryz.f20.results.toList) (resultsA Tryz.prog Tryz.f20.results.toList) (fun _ _ _ => none)
noncomputable def b20_10 (C : CallF) (i : Nat) (e : Env) (h : Heap) : Out := if i = 0 then (k20_8 C) e h else (fun _ _ _ => none) i e h
/-- (*stolon/swarm.World).Settled -/
noncomputable def t20 (C : CallF) (x0 : Value) (h : Heap) : Out :=
  thenV (some ((.bool false), h)) fun y2 h =>
  thenV (some (x0, h)) fun y11 h =>
  thenV (C 23 [y11] h) fun y12 h =>
  thenV (some (y12, h)) fun y3 h =>
  thenV (some (y3, h)) fun y13 h =>
  thenV (pu (lenL y13) h) fun y14 h =>
  thenV (pu (bin Tryz.prog .eql 3 y14 (.int .i64 0)) h) fun y15 h =>
  (match y15 with
  | .bool true =>
  thenV (some ((.bool false), h)) fun y2_1 h =>
  some (y2_1, h)
  | .bool false =>
  thenV (C 57 [] h) fun y16 h =>
  thenV (some (y16, h)) fun y4 h =>
  thenV (some (y4, h)) fun y17 h =>
  thenV (some (x0, h)) fun y18 h =>
  thenV (some (y3, h)) fun y19 h =>
  thenV (pu (idxS 1 y19 (.int .i64 0)) h) fun y20 h =>
  thenV (ld1 y20 h) fun y21 h =>
  thenV (C 29 [y18, y21] h) fun y22 h =>
  thenV (C 58 [y17, y22] h) fun y23 h =>
  thenV (some (y4, h)) fun y24 h =>
  thenV (C 59 [y24] h) fun y25 h =>
  thenV (newC [(.slice none 0 0)] h) fun y5 h =>
  thenV (stN 1 y5 y25 h) fun _ h =>
  thenV (some (y3, h)) fun y26 h =>
  thenV (pu (lenL y26) h) fun y27 h =>
  thenV (some ((.int .i64 0), h)) fun y28 h =>
  endL (iter (codeA Tryz.prog C (partOf Tryz.f20 [1, 1, 1, 1, 1, 1, 0, 1, 0, 0])) rounds (mkF 84 (up (bs [x0]) [(2, y2), (3, y3), (4, y4), (5, y5), (11, y11), (12, y12), (13, y13), (14, y14), (15, y15), (16, y16), (17, y17), (18, y18), (19, y19), (20, y20), (21, y21), (22, y22), (23, y23), (24, y24), (25, y25), (26, y26), (27, y27), (28, y28)])) h) (resultsA Tryz.prog Tryz.f20.results.toList) (b20_10 C)
  | _ => none)
theorem t20_eq (C : CallF) (x0 : Value) (h : Heap) : bodyK Tryz.prog C Tryz.f20 [x0] h = t20 C x0 h :=
  (bodyB_eq Tryz.prog C Tryz.f20 [x0] h (by kernel_rfl)).trans (by kernel_rfl)
noncomputable def k22_5 (C : CallF) (e : Env) (h : Heap) : Out := codeK Tryz.prog C (partOf Tryz.f22 [1, 1, 1, 1]) e h (resultsA Tryz.prog Tryz.f22.results.toList) (resultsA Tryz.prog Tryz.f22.results.toList) (fun _ _ _ => none)
noncomputable def b22_7 (C : CallF) (i : Nat) (e : Env) (h : Heap) : Out := if i = 0 then (k22_5 C) e h else (fun _ _ _ => none) i e h
/-- (*stolon/swarm.World).Network -/
noncomputable def t22 (C : CallF) (x0 : Value) (h : Heap) : Out :=
  thenV (some ((.slice none 0 0), h)) fun y2 h =>
  thenV (some (x0, h)) fun y8 h =>
  thenV (pu (bin Tryz.prog .eql 44 y8 (.pointer none)) h) fun y9 h =>
  (match y9 with
  | .bool true =>
  thenV (some ((.slice none 0 0), h)) fun y2_1 h =>
  some (y2_1, h)
  | .bool false =>
  thenV (some ((.slice none 0 0), h)) fun y3 h =>
  thenV (some (x0, h)) fun y10 h =>
  thenV (pu (nilCheckA y10) h) fun y11 h =>
  thenV (pu (addP y11 4) h) fun y12 h =>
  thenV (ld1 y12 h) fun y13 h =>
  thenV (pu (lenL y13) h) fun y14 h =>
  thenV (some ((.int .i64 0), h)) fun y15 h =>
  endL (iter (codeA Tryz.prog C (partOf Tryz.f22 [1, 1, 1, 0, 1, 0, 0])) rounds (mkF 30 (up (bs [x0]) [(2, y2), (3, y3), (8, y8), (9, y9), (10, y10), (11, y11), (12, y12), (13, y13), (14, y14), (15, y15)])) h) (resultsA Tryz.prog Tryz.f22.results.toList) (b22_7 C)
  | _ => none)
theorem t22_eq (C : CallF) (x0 : Value) (h : Heap) : bodyK Tryz.prog C Tryz.f22 [x0] h = t22 C x0 h :=
  (bodyB_eq Tryz.prog C Tryz.f22 [x0] h (by kernel_rfl)).trans (by kernel_rfl)
noncomputable def k23_5 (C : CallF) (e : Env) (h : Heap) : Out := codeK Tryz.prog C (partOf Tryz.f23 [1, 1, 1, 1]) e h (resultsA Tryz.prog Tryz.f23.results.toList) (resultsA Tryz.prog Tryz.f23.results.toList) (fun _ _ _ => none)
noncomputable def b23_7 (C : CallF) (i : Nat) (e : Env) (h : Heap) : Out := if i = 0 then (k23_5 C) e h else (fun _ _ _ => none) i e h
/-- (*stolon/swarm.World).Running -/
noncomputable def t23 (C : CallF) (x0 : Value) (h : Heap) : Out :=
  thenV (some ((.slice none 0 0), h)) fun y2 h =>
  thenV (some (x0, h)) fun y5 h =>
  thenV (pu (bin Tryz.prog .eql 44 y5 (.pointer none)) h) fun y6 h =>
  (match y6 with
  | .bool true =>
  thenV (some ((.slice none 0 0), h)) fun y2_1 h =>
  some (y2_1, h)
  | .bool false =>
  thenV (some ((.slice none 0 0), h)) fun y3 h =>
  thenV (some (x0, h)) fun y7 h =>
  thenV (pu (nilCheckA y7) h) fun y8 h =>
  thenV (pu (addP y8 3) h) fun y9 h =>
  thenV (ld1 y9 h) fun y10 h =>
  thenV (pu (lenL y10) h) fun y11 h =>
  thenV (some ((.int .i64 0), h)) fun y12 h =>
  endL (iter (codeA Tryz.prog C (partOf Tryz.f23 [1, 1, 1, 0, 1, 0, 0])) rounds (mkF 24 (up (bs [x0]) [(2, y2), (3, y3), (5, y5), (6, y6), (7, y7), (8, y8), (9, y9), (10, y10), (11, y11), (12, y12)])) h) (resultsA Tryz.prog Tryz.f23.results.toList) (b23_7 C)
  | _ => none)
theorem t23_eq (C : CallF) (x0 : Value) (h : Heap) : bodyK Tryz.prog C Tryz.f23 [x0] h = t23 C x0 h :=
  (bodyB_eq Tryz.prog C Tryz.f23 [x0] h (by kernel_rfl)).trans (by kernel_rfl)
noncomputable def k25_5 (C : CallF) (e : Env) (h : Heap) : Out := codeK Tryz.prog C (partOf Tryz.f25 [1, 1, 1, 1]) e h (resultsA Tryz.prog Tryz.f25.results.toList) (resultsA Tryz.prog Tryz.f25.results.toList) (fun _ _ _ => none)
noncomputable def b25_7 (C : CallF) (i : Nat) (e : Env) (h : Heap) : Out := if i = 0 then (k25_5 C) e h else (fun _ _ _ => none) i e h
/-- (*stolon/swarm.World).Log -/
noncomputable def t25 (C : CallF) (x0 : Value) (h : Heap) : Out :=
  thenV (some ((.slice none 0 0), h)) fun y2 h =>
  thenV (some (x0, h)) fun y5 h =>
  thenV (pu (bin Tryz.prog .eql 44 y5 (.pointer none)) h) fun y6 h =>
  (match y6 with
  | .bool true =>
  thenV (some ((.slice none 0 0), h)) fun y2_1 h =>
  some (y2_1, h)
  | .bool false =>
  thenV (some (x0, h)) fun y7 h =>
  thenV (pu (nilCheckA y7) h) fun y8 h =>
  thenV (pu (addP y8 6) h) fun y9 h =>
  thenV (ld1 y9 h) fun y10 h =>
  thenV (C 80 [y10] h) fun y11 h =>
  thenV (some (y11, h)) fun y3 h =>
  thenV (some (y3, h)) fun y12 h =>
  thenV (pu (lenL y12) h) fun y13 h =>
  thenV (some ((.int .i64 0), h)) fun y14 h =>
  endL (iter (codeA Tryz.prog C (partOf Tryz.f25 [1, 1, 1, 0, 1, 0, 0])) rounds (mkF 31 (up (bs [x0]) [(2, y2), (3, y3), (5, y5), (6, y6), (7, y7), (8, y8), (9, y9), (10, y10), (11, y11), (12, y12), (13, y13), (14, y14)])) h) (resultsA Tryz.prog Tryz.f25.results.toList) (b25_7 C)
  | _ => none)
theorem t25_eq (C : CallF) (x0 : Value) (h : Heap) : bodyK Tryz.prog C Tryz.f25 [x0] h = t25 C x0 h :=
  (bodyB_eq Tryz.prog C Tryz.f25 [x0] h (by kernel_rfl)).trans (by kernel_rfl)
noncomputable def k26_5 (C : CallF) (e : Env) (h : Heap) : Out := codeK Tryz.prog C (partOf Tryz.f26 [1, 1, 1, 1]) e h (resultsA Tryz.prog Tryz.f26.results.toList) (resultsA Tryz.prog Tryz.f26.results.toList) (fun _ _ _ => none)
noncomputable def b26_7 (C : CallF) (i : Nat) (e : Env) (h : Heap) : Out := if i = 0 then (k26_5 C) e h else (fun _ _ _ => none) i e h
/-- (*stolon/swarm.World).Faulty -/
noncomputable def t26 (C : CallF) (x0 : Value) (h : Heap) : Out :=
  thenV (some ((.slice none 0 0), h)) fun y2 h =>
  thenV (some (x0, h)) fun y5 h =>
  thenV (pu (bin Tryz.prog .eql 44 y5 (.pointer none)) h) fun y6 h =>
  (match y6 with
  | .bool true =>
  thenV (some ((.slice none 0 0), h)) fun y2_1 h =>
  some (y2_1, h)
  | .bool false =>
  thenV (some ((.slice none 0 0), h)) fun y3 h =>
  thenV (some (x0, h)) fun y7 h =>
  thenV (pu (nilCheckA y7) h) fun y8 h =>
  thenV (pu (addP y8 3) h) fun y9 h =>
  thenV (ld1 y9 h) fun y10 h =>
  thenV (pu (lenL y10) h) fun y11 h =>
  thenV (some ((.int .i64 0), h)) fun y12 h =>
  endL (iter (codeA Tryz.prog C (partOf Tryz.f26 [1, 1, 1, 0, 1, 0, 0])) rounds (mkF 29 (up (bs [x0]) [(2, y2), (3, y3), (5, y5), (6, y6), (7, y7), (8, y8), (9, y9), (10, y10), (11, y11), (12, y12)])) h) (resultsA Tryz.prog Tryz.f26.results.toList) (b26_7 C)
  | _ => none)
theorem t26_eq (C : CallF) (x0 : Value) (h : Heap) : bodyK Tryz.prog C Tryz.f26 [x0] h = t26 C x0 h :=
  (bodyB_eq Tryz.prog C Tryz.f26 [x0] h (by kernel_rfl)).trans (by kernel_rfl)
noncomputable def k30_5 (C : CallF) (e : Env) (h : Heap) : Out := codeK Tryz.prog C (partOf Tryz.f30 [1, 1, 1, 1]) e h (resultsA Tryz.prog Tryz.f30.results.toList) (resultsA Tryz.prog Tryz.f30.results.toList) (fun _ _ _ => none)
noncomputable def b30_7 (C : CallF) (i : Nat) (e : Env) (h : Heap) : Out := if i = 0 then (k30_5 C) e h else (fun _ _ _ => none) i e h
/-- stolon/swarm.New -/
noncomputable def t30 (C : CallF) (x0 : Value) (h : Heap) : Out :=
  thenV (box x0 h) fun y1 h =>
  thenV (some ((.pointer none), h)) fun y2 h =>
  thenV (some ((.int .i64 0), h)) fun y3 h =>
  thenV (ldN 3 y1 h) fun y7 h =>
  thenV (C 12 [y7] h) fun y8 h =>
  thenV (pu (unA .not y8) h) fun y9 h =>
  (match y9 with
  | .bool true =>
  thenV (some ((.pointer none), h)) fun y2_1 h =>
  thenV (some ((.int .i64 2), h)) fun y3_1 h =>
  some (.tuple #[y2_1, y3_1], h)
  | .bool false =>
  thenV (ldN 3 y1 h) fun y10 h =>
  thenV (pu (bldR [(.int .i64 0), (.int .i64 0), (.int .i64 0), (.slice none 0 0), (.slice none 0 0), (.slice none 0 0), (.slice none 0 0), (.int .u64 0)] [(0, 3, y10)]) h) fun y11 h =>
  thenV (box y11 h) fun y12 h =>
  thenV (some (y12, h)) fun y4 h =>
  thenV (pu (addP y1 0) h) fun y13 h =>
  thenV (ld1 y13 h) fun y14 h =>
  thenV (some ((.int .i64 0), h)) fun y15 h =>
  endL (iter (codeA Tryz.prog C (partOf Tryz.f30 [1, 1, 1, 0, 1, 0, 0])) rounds (mkF 39 (up (bs [x0]) [(1, y1), (2, y2), (3, y3), (4, y4), (7, y7), (8, y8), (9, y9), (10, y10), (11, y11), (12, y12), (13, y13), (14, y14), (15, y15)])) h) (resultsA Tryz.prog Tryz.f30.results.toList) (b30_7 C)
  | _ => none)
noncomputable def t30k30_5 (C : CallF) (x : Nat → Value) (h : Heap) : Out :=
  thenV (some ((x 4), h)) fun y38 h =>
  thenV (some (y38, h)) fun y2 h =>
  thenV (some ((.int .i64 0), h)) fun y3 h =>
  some (.tuple #[y2, y3], h)
noncomputable def t30l30_111010 (C : CallF) (x : Nat → Value) (h : Heap) : Option (Ex × Env × Heap) :=
  thenV (pu (bin Tryz.prog .lss 3 (x 15) (x 14)) h) fun y16 h =>
  (match y16 with
  | .bool true =>
  thenV (pu (addP (x 1) 1) h) fun y18 h =>
  thenV (ld1 y18 h) fun y19 h =>
  thenV (C 87 [y19] h) fun y20 h =>
  thenV (some (y20, h)) fun y17 h =>
  thenV (pu (extractA y17 0) h) fun y21 h =>
  thenV (pu (extractA y17 1) h) fun y22 h =>
  thenV (some (y21, h)) fun y5 h =>
  thenV (some (y22, h)) fun y6 h =>
  thenV (some (y6, h)) fun y23 h =>
  thenV (pu (bin Tryz.prog .neq 31 y23 (.int .i64 0)) h) fun y24 h =>
  (match y24 with
  | .bool true =>
  thenV (some (y6, h)) fun y25 h =>
  thenV (some ((.pointer none), h)) fun y2 h =>
  thenV (some (y25, h)) fun y3 h =>
  some (.ret, (mkF 39 (up x [(2, y2), (3, y3), (5, y5), (6, y6), (16, y16), (17, y17), (18, y18), (19, y19), (20, y20), (21, y21), (22, y22), (23, y23), (24, y24), (25, y25)])), h)
  | .bool false =>
  thenV (some ((x 4), h)) fun y26 h =>
  thenV (some ((x 4), h)) fun y27 h =>
  thenV (pu (nilCheckA y27) h) fun y28 h =>
  thenV (pu (addP y28 3) h) fun y29 h =>
  thenV (ld1 y29 h) fun y30 h =>
  thenV (some (y5, h)) fun y31 h =>
  thenV (pu (bldR [(.pointer none), (.pointer none), (.bool false)] [(0, 1, y31)]) h) fun y32 h =>
  thenV (bslR 3 (.agg #[(.pointer none), (.pointer none), (.bool false)]) 1 [(0, y32)] h) fun y33 h =>
  thenV (appendA 3 24 y30 y33 h) fun y34 h =>
  thenV (pu (nilCheckA y26) h) fun y35 h =>
  thenV (pu (addP y35 3) h) fun y36 h =>
  thenV (stN 1 y36 y34 h) fun _ h =>
  thenV (pu (bin Tryz.prog .add 3 (x 15) (.int .i64 1)) h) fun y37 h =>
  thenV (some (y37, h)) fun y15 h =>
  some (.normal, (mkF 39 (up x [(5, y5), (6, y6), (15, y15), (16, y16), (17, y17), (18, y18), (19, y19), (20, y20), (21, y21), (22, y22), (23, y23), (24, y24), (26, y26), (27, y27), (28, y28), (29, y29), (30, y30), (31, y31), (32, y32), (33, y33), (34, y34), (35, y35), (36, y36), (37, y37)])), h)
  | _ => none)
  | .bool false =>
  some (.exit 0, (mkF 39 (up x [(16, y16)])), h)
  | _ => none)
theorem t30_eq (C : CallF) (x0 : Value) (h : Heap) : bodyK Tryz.prog C Tryz.f30 [x0] h = t30 C x0 h :=
  (bodyB_eq Tryz.prog C Tryz.f30 [x0] h (by kernel_rfl)).trans (by kernel_rfl)
theorem t30k30_5_eq (C : CallF) (x : Nat → Value) (h : Heap) : k30_5 C (mkF 39 x) h = t30k30_5 C x h :=
  link_partF (b := (partOf Tryz.f30 [1, 1, 1, 1])) (kE := (resultsA Tryz.prog Tryz.f30.results.toList)) (rE := (resultsA Tryz.prog Tryz.f30.results.toList)) (xE := (fun _ _ _ => none)) (T := t30k30_5 C) (fun x h => by kernel_rfl) x h
theorem t30l30_111010_eq (C : CallF) (x : Nat → Value) (h : Heap) : codeA Tryz.prog C (partOf Tryz.f30 [1, 1, 1, 0, 1, 0, 0]) (mkF 39 x) h = t30l30_111010 C x h :=
  link_roundF (T := t30l30_111010 C) (fun x h => by kernel_rfl) x h


end Go.Proofs.YtdmnphocgfnlpaaGreatDoor

