/-
  Printed by a program: the texts of some of the seat's functions, each linked to the program.
  Conditions: none.
-/
import Derived.Test.YtcmfgmhadeeieaaT3
import Derived.Test.YtcmfgmhadeeieaaProg
import Derived.KernelRfl
namespace Go.Proofs.Ytcmfgmhadeeieaa
open Go Go.Abs
noncomputable def k11_9 (C : CallF) (e : Env) (h : Heap) : Out := codeK Try.prog C (partOf Try.f11 [1, 1, 1, 1, 1, 1]) e h (resultsA Try.prog Try.f11.results.toList) (resultsA Try.prog Try.f11.results.toList) (fun _ _ _ => none)
noncomputable def b11_11 (C : CallF) (i : Nat) (e : Env) (h : Heap) : Out := if i = 0 then (k11_9 C) e h else (fun _ _ _ => none) i e h
noncomputable def k11_22 (C : CallF) (e : Env) (h : Heap) : Option (Ex × Env × Heap) := codeK Try.prog C (partOf Try.f11 [1, 1, 1, 1, 1, 0, 1, 0, 0, 1, 1]) e h (fun e h => some (Ex.normal, e, h)) (fun e h => some (Ex.ret, e, h)) (fun i e h => some (Ex.exit i, e, h))
noncomputable def b11_23 (C : CallF) (i : Nat) (e : Env) (h : Heap) : Option (Ex × Env × Heap) := if i = 1 then (k11_22 C) e h else (fun i e h => some (Ex.exit i, e, h)) i e h
noncomputable def k11_25 (C : CallF) (e : Env) (h : Heap) : Option (Ex × Env × Heap) := codeK Try.prog C (partOf Try.f11 [1, 1, 1, 1, 1, 0, 1, 0, 0, 1, 0, 0, 1, 1]) e h (k11_22 C) (fun e h => some (Ex.ret, e, h)) (b11_23 C)
noncomputable def b11_27 (C : CallF) (i : Nat) (e : Env) (h : Heap) : Option (Ex × Env × Heap) := if i = 2 then (k11_25 C) e h else (b11_23 C) i e h
noncomputable def b11_36 (C : CallF) (i : Nat) (e : Env) (h : Heap) : Option (Ex × Env × Heap) := if i = 4 then (k11_22 C) e h else (b11_23 C) i e h
/-- stolon/stolonlaw03.DiskTorn -/
noncomputable def t11 (C : CallF) (x0 x1 x2 : Value) (h : Heap) : Out :=
  thenV (some ((.bool false), h)) fun y6 h =>
  thenV (some (x0, h)) fun y18 h =>
  thenV (pu (bin Try.prog .lss 3 y18 (.int .i64 4)) h) fun y19 h =>
  thenV (some (y19, h)) fun y20 h =>
  thenV (guardK (bOf y20 == some false) (some (x0, h)) h) fun y21 h =>
  thenV (guardK (bOf y20 == some false) (pu (bin Try.prog .gtr 3 y21 (.int .i64 64)) h) h) fun y22 h =>
  thenV (match y20 with | .bool t => some (if t then (.bool true) else y22, h) | _ => none) fun y23 h =>
  thenV (some (y23, h)) fun y24 h =>
  thenV (guardK (bOf y24 == some false) (some (x1, h)) h) fun y25 h =>
  thenV (guardK (bOf y24 == some false) (pu (bin Try.prog .lss 3 y25 (.int .i64 0)) h) h) fun y26 h =>
  thenV (match y24 with | .bool t => some (if t then (.bool true) else y26, h) | _ => none) fun y27 h =>
  thenV (some (y27, h)) fun y28 h =>
  thenV (guardK (bOf y28 == some false) (some (x1, h)) h) fun y29 h =>
  thenV (guardK (bOf y28 == some false) (pu (bin Try.prog .gtr 3 y29 (.int .i64 20)) h) h) fun y30 h =>
  thenV (match y28 with | .bool t => some (if t then (.bool true) else y30, h) | _ => none) fun y31 h =>
  thenV (some (y31, h)) fun y32 h =>
  thenV (guardK (bOf y32 == some false) (some (x2, h)) h) fun y33 h =>
  thenV (guardK (bOf y32 == some false) (pu (bin Try.prog .lss 3 y33 (.int .i64 0)) h) h) fun y34 h =>
  thenV (match y32 with | .bool t => some (if t then (.bool true) else y34, h) | _ => none) fun y35 h =>
  thenV (some (y35, h)) fun y36 h =>
  thenV (guardK (bOf y36 == some false) (some (x2, h)) h) fun y37 h =>
  thenV (guardK (bOf y36 == some false) (pu (bin Try.prog .gtr 3 y37 (.int .i64 128)) h) h) fun y38 h =>
  thenV (match y36 with | .bool t => some (if t then (.bool true) else y38, h) | _ => none) fun y39 h =>
  (match y39 with
  | .bool true =>
  thenV (C 14 [] h) fun y40 h =>
  thenV (some (y40, h)) fun y6_1 h =>
  some (y6_1, h)
  | .bool false =>
  thenV (some (x0, h)) fun y42 h =>
  thenV (C 18 [y42] h) fun y43 h =>
  thenV (some (y43, h)) fun y41 h =>
  thenV (pu (extractA y41 0) h) fun y44 h =>
  thenV (pu (extractA y41 1) h) fun y45 h =>
  thenV (some (y44, h)) fun y7 h =>
  thenV (some (y45, h)) fun y8 h =>
  thenV (some (y8, h)) fun y46 h =>
  thenV (pu (bin Try.prog .neq 28 y46 (.int .i64 0)) h) fun y47 h =>
  thenV (some (y47, h)) fun y48 h =>
  thenV (guardK (bOf y48 == some false) (some (y7, h)) h) fun y49 h =>
  thenV (guardK (bOf y48 == some false) (some (x1, h)) h) fun y50 h =>
  thenV (guardK (bOf y48 == some false) (some (x2, h)) h) fun y51 h =>
  thenV (guardK (bOf y48 == some false) (C 48 [y49, y50, y51] h) h) fun y52 h =>
  thenV (guardK (bOf y48 == some false) (pu (bin Try.prog .neq 28 y52 (.int .i64 0)) h) h) fun y53 h =>
  thenV (match y48 with | .bool t => some (if t then (.bool true) else y53, h) | _ => none) fun y54 h =>
  (match y54 with
  | .bool true =>
  thenV (some ((.bool false), h)) fun y6_1 h =>
  some (y6_1, h)
  | .bool false =>
  thenV (some (x0, h)) fun y55 h =>
  thenV (pu (bin Try.prog .mul 3 (.int .i64 128) y55) h) fun y56 h =>
  thenV (mkR 1 1 (.int .u8 0) y56 y56 h) fun y57 h =>
  thenV (some (y57, h)) fun y9 h =>
  thenV (some ((.int .i64 0), h)) fun y10 h =>
  endL (iter (codeA Try.prog C (partOf Try.f11 [1, 1, 1, 1, 1, 0, 1, 0, 0])) rounds (mkF 186 (up (bs [x0, x1, x2]) [(6, y6), (7, y7), (8, y8), (9, y9), (10, y10), (18, y18), (19, y19), (20, y20), (21, y21), (22, y22), (23, y23), (24, y24), (25, y25), (26, y26), (27, y27), (28, y28), (29, y29), (30, y30), (31, y31), (32, y32), (33, y33), (34, y34), (35, y35), (36, y36), (37, y37), (38, y38), (39, y39), (41, y41), (42, y42), (43, y43), (44, y44), (45, y45), (46, y46), (47, y47), (48, y48), (49, y49), (50, y50), (51, y51), (52, y52), (53, y53), (54, y54), (55, y55), (56, y56), (57, y57)])) h) (resultsA Try.prog Try.f11.results.toList) (b11_11 C)
  | _ => none)
  | _ => none)
noncomputable def t11k11_9 (C : CallF) (x : Nat → Value) (h : Heap) : Out :=
  thenV (some ((x 7), h)) fun y118 h =>
  thenV (C 20 [y118, (.int .i64 0)] h) fun y119 h =>
  thenV (some (y119, h)) fun y117 h =>
  thenV (pu (extractA y117 0) h) fun y120 h =>
  thenV (pu (extractA y117 1) h) fun y121 h =>
  thenV (some (y121, h)) fun y8 h =>
  let g15_0 := h
  thenV (some ((x 7), g15_0)) fun y122 g15_1 =>
  thenV (C 36 [y122] g15_1) fun y123 g15_2 =>
  thenV (pu (unA .not y123) g15_2) fun y124 g15_3 =>
  thenV (some (y124, g15_3)) fun y125 g15_4 =>
  thenV (guardK (bOf y125 == some false) (some (y8, g15_4)) g15_4) fun y126 g15_5 =>
  thenV (guardK (bOf y125 == some false) (pu (bin Try.prog .neq 28 y126 (.int .i64 9)) g15_5) g15_5) fun y127 g15_6 =>
  thenV (match y125 with | .bool t => some (if t then (.bool true) else y127, g15_6) | _ => none) fun y128 g15_7 =>
  thenV (some (y128, g15_7)) fun y129 g15_8 =>
  thenV (guardK (bOf y129 == some false) (some ((x 7), g15_8)) g15_8) fun y130 g15_9 =>
  thenV (guardK (bOf y129 == some false) (mkR 1 1 (.int .u8 0) (.int .i64 128) (.int .i64 128) g15_9) g15_9) fun y131 g15_10 =>
  thenV (guardK (bOf y129 == some false) (C 19 [y130, (.int .i64 0), y131] g15_10) g15_10) fun y132 g15_11 =>
  thenV (guardK (bOf y129 == some false) (pu (bin Try.prog .neq 28 y132 (.int .i64 9)) g15_11) g15_11) fun y133 g15_12 =>
  thenV (match y129 with | .bool t => some (if t then (.bool true) else y133, g15_12) | _ => none) fun y134 g15_13 =>
  thenV (some (y134, g15_13)) fun y135 g15_14 =>
  thenV (guardK (bOf y135 == some false) (some ((x 7), g15_14)) g15_14) fun y136 g15_15 =>
  thenV (guardK (bOf y135 == some false) (C 25 [y136] g15_15) g15_15) fun y137 g15_16 =>
  thenV (guardK (bOf y135 == some false) (cvBS y137 g15_16) g15_16) fun y138 g15_17 =>
  thenV (guardK (bOf y135 == some false) (some ((x 9), g15_17)) g15_17) fun y139 g15_18 =>
  thenV (guardK (bOf y135 == some false) (cvBS y139 g15_18) g15_18) fun y140 g15_19 =>
  thenV (guardK (bOf y135 == some false) (pu (bin Try.prog .neq 9 y138 y140) g15_19) g15_19) fun y141 g15_20 =>
  thenV (match y135 with | .bool t => some (if t then (.bool true) else y141, g15_20) | _ => none) fun y142 g15_21 =>
  (match (chkR (bOf y135 == some false) (cvBS y139 g15_15) y140 && true) with
  | true =>
  let h := g15_21
  (match y142 with
  | .bool true =>
  thenV (some ((.bool false), h)) fun y6 h =>
  some (y6, h)
  | .bool false =>
  thenV (some ((x 7), h)) fun y143 h =>
  thenV (C 33 [y143] h) fun y144 h =>
  thenV (some ((x 7), h)) fun y146 h =>
  thenV (some ((x 1), h)) fun y147 h =>
  thenV (some ((x 0), h)) fun y148 h =>
  thenV (pu (bin Try.prog .rem 3 y147 y148) h) fun y149 h =>
  thenV (C 20 [y146, y149] h) fun y150 h =>
  thenV (some (y150, h)) fun y145 h =>
  thenV (pu (extractA y145 0) h) fun y151 h =>
  thenV (pu (extractA y145 1) h) fun y152 h =>
  thenV (some (y151, h)) fun y17 h =>
  thenV (some (y152, h)) fun y8_1 h =>
  thenV (some ((x 7), h)) fun y153 h =>
  thenV (C 36 [y153] h) fun y154 h =>
  thenV (pu (unA .not y154) h) fun y155 h =>
  thenV (some (y155, h)) fun y156 h =>
  thenV (guardK (bOf y156 == some true) (some (y8_1, h)) h) fun y157 h =>
  thenV (guardK (bOf y156 == some true) (pu (bin Try.prog .eql 28 y157 (.int .i64 0)) h) h) fun y158 h =>
  thenV (match y156 with | .bool t => some (if t then y158 else (.bool false), h) | _ => none) fun y159 h =>
  thenV (some (y159, h)) fun y160 h =>
  thenV (guardK (bOf y160 == some true) (some (y17, h)) h) fun y161 h =>
  thenV (guardK (bOf y160 == some true) (cvBS y161 h) h) fun y162 h =>
  thenV (guardK (bOf y160 == some true) (some ((x 9), h)) h) fun y163 h =>
  thenV (guardK (bOf y160 == some true) (some ((x 1), h)) h) fun y164 h =>
  thenV (guardK (bOf y160 == some true) (some ((x 0), h)) h) fun y165 h =>
  thenV (guardK (bOf y160 == some true) (pu (bin Try.prog .rem 3 y164 y165) h) h) fun y166 h =>
  thenV (guardK (bOf y160 == some true) (pu (bin Try.prog .mul 3 (.int .i64 128) y166) h) h) fun y167 h =>
  thenV (guardK (bOf y160 == some true) (some ((x 1), h)) h) fun y168 h =>
  thenV (guardK (bOf y160 == some true) (some ((x 0), h)) h) fun y169 h =>
  thenV (guardK (bOf y160 == some true) (pu (bin Try.prog .rem 3 y168 y169) h) h) fun y170 h =>
  thenV (guardK (bOf y160 == some true) (pu (bin Try.prog .mul 3 (.int .i64 128) y170) h) h) fun y171 h =>
  thenV (guardK (bOf y160 == some true) (pu (bin Try.prog .add 3 y171 (.int .i64 128)) h) h) fun y172 h =>
  thenV (guardK (bOf y160 == some true) (pu (slR 1 y163 (some y167) (some y172) none) h) h) fun y173 h =>
  thenV (guardK (bOf y160 == some true) (cvBS y173 h) h) fun y174 h =>
  thenV (guardK (bOf y160 == some true) (pu (bin Try.prog .eql 9 y162 y174) h) h) fun y175 h =>
  thenV (match y160 with | .bool t => some (if t then y175 else (.bool false), h) | _ => none) fun y176 h =>
  thenV (some (y176, h)) fun y177 h =>
  thenV (guardK (bOf y177 == some true) (some ((x 7), h)) h) fun y178 h =>
  thenV (guardK (bOf y177 == some true) (some (y17, h)) h) fun y179 h =>
  thenV (guardK (bOf y177 == some true) (C 19 [y178, (.int .i64 1), y179] h) h) fun y180 h =>
  thenV (guardK (bOf y177 == some true) (pu (bin Try.prog .eql 28 y180 (.int .i64 0)) h) h) fun y181 h =>
  thenV (match y177 with | .bool t => some (if t then y181 else (.bool false), h) | _ => none) fun y182 h =>
  thenV (some (y182, h)) fun y183 h =>
  thenV (guardK (bOf y183 == some true) (C 14 [] h) h) fun y184 h =>
  thenV (match y183 with | .bool t => some (if t then y184 else (.bool false), h) | _ => none) fun y185 h =>
  thenV (some (y185, h)) fun y6 h =>
  some (y6, h)
  | _ => none)
  | false => none)
noncomputable def t11l11_11111010 (C : CallF) (x : Nat → Value) (h : Heap) : Option (Ex × Env × Heap) :=
  thenV (some ((x 10), h)) fun y58 h =>
  thenV (some ((x 1), h)) fun y59 h =>
  thenV (pu (bin Try.prog .leq 3 y58 y59) h) fun y60 h =>
  (match y60 with
  | .bool true =>
  thenV (mkR 1 1 (.int .u8 0) (.int .i64 128) (.int .i64 128) h) fun y63 h =>
  thenV (some (y63, h)) fun y11 h =>
  thenV (some ((.int .i64 0), h)) fun y12 h =>
  endL (iter (codeA Try.prog C (partOf Try.f11 [1, 1, 1, 1, 1, 0, 1, 0, 0, 1, 0, 0, 1, 0, 1, 0, 0])) rounds (mkF 186 (up x [(11, y11), (12, y12), (58, y58), (59, y59), (60, y60), (63, y63)])) h) (fun e h => some (Ex.ret, e, h)) (b11_27 C)
  | .bool false =>
  some (.exit 0, (mkF 186 (up x [(58, y58), (59, y59), (60, y60)])), h)
  | _ => none)
noncomputable def t11k11_22 (C : CallF) (x : Nat → Value) (h : Heap) : Option (Ex × Env × Heap) :=
  thenV (some ((x 10), h)) fun y61 h =>
  thenV (pu (bin Try.prog .add 3 y61 (.int .i64 1)) h) fun y62 h =>
  thenV (some (y62, h)) fun y10 h =>
  some (.normal, (mkF 186 (up x [(10, y10), (61, y61), (62, y62)])), h)
noncomputable def t11k11_25 (C : CallF) (x : Nat → Value) (h : Heap) : Option (Ex × Env × Heap) :=
  thenV (some ((x 10), h)) fun y76 h =>
  thenV (some ((x 0), h)) fun y77 h =>
  thenV (pu (bin Try.prog .rem 3 y76 y77) h) fun y78 h =>
  thenV (some (y78, h)) fun y13 h =>
  thenV (some ((.int .i64 128), h)) fun y14 h =>
  thenV (some ((x 10), h)) fun y79 h =>
  thenV (some ((x 1), h)) fun y80 h =>
  thenV (pu (bin Try.prog .eql 3 y79 y80) h) fun y81 h =>
  (match y81 with
  | .bool true =>
  thenV (some ((x 2), h)) fun y82 h =>
  thenV (some (y82, h)) fun y14_1 h =>
  thenV (some ((x 7), h)) fun y83 h =>
  thenV (some (y13, h)) fun y84 h =>
  thenV (some ((x 11), h)) fun y85 h =>
  thenV (C 19 [y83, y84, y85] h) fun y86 h =>
  thenV (some (y86, h)) fun y15 h =>
  thenV (some (y15, h)) fun y87 h =>
  thenV (pu (bin Try.prog .eql 28 y87 (.int .i64 0)) h) fun y88 h =>
  thenV (some ((x 10), h)) fun y89 h =>
  thenV (some ((x 1), h)) fun y90 h =>
  thenV (pu (bin Try.prog .lss 3 y89 y90) h) fun y91 h =>
  thenV (pu (bin Try.prog .neq 4 y88 y91) h) fun y92 h =>
  thenV (some (y92, h)) fun y93 h =>
  thenV (guardK (bOf y93 == some false) (some ((x 10), h)) h) fun y94 h =>
  thenV (guardK (bOf y93 == some false) (some ((x 1), h)) h) fun y95 h =>
  thenV (guardK (bOf y93 == some false) (pu (bin Try.prog .eql 3 y94 y95) h) h) fun y96 h =>
  thenV (guardK (bOf y93 == some false) (some (y96, h)) h) fun y97 h =>
  thenV (guardK (bOf y97 == some true) (some (y15, h)) h) fun y98 h =>
  thenV (guardK (bOf y97 == some true) (pu (bin Try.prog .neq 28 y98 (.int .i64 9)) h) h) fun y99 h =>
  thenV (guardK (bOf y93 == some false) (match y97 with | .bool t => some (if t then y99 else (.bool false), h) | _ => none) h) fun y100 h =>
  thenV (match y93 with | .bool t => some (if t then (.bool true) else y100, h) | _ => none) fun y101 h =>
  (match y101 with
  | .bool true =>
  thenV (some ((.bool false), h)) fun y6 h =>
  some (.ret, (mkF 186 (up x [(6, y6), (13, y13), (14, y14_1), (15, y15), (76, y76), (77, y77), (78, y78), (79, y79), (80, y80), (81, y81), (82, y82), (83, y83), (84, y84), (85, y85), (86, y86), (87, y87), (88, y88), (89, y89), (90, y90), (91, y91), (92, y92), (93, y93), (94, y94), (95, y95), (96, y96), (97, y97), (98, y98), (99, y99), (100, y100), (101, y101)])), h)
  | .bool false =>
  thenV (some ((.int .i64 0), h)) fun y16 h =>
  endL (iter (codeA Try.prog C (partOf Try.f11 [1, 1, 1, 1, 1, 0, 1, 0, 0, 1, 0, 0, 1, 1, 1, 1, 1, 1, 0, 0])) rounds (mkF 186 (up x [(13, y13), (14, y14_1), (15, y15), (16, y16), (76, y76), (77, y77), (78, y78), (79, y79), (80, y80), (81, y81), (82, y82), (83, y83), (84, y84), (85, y85), (86, y86), (87, y87), (88, y88), (89, y89), (90, y90), (91, y91), (92, y92), (93, y93), (94, y94), (95, y95), (96, y96), (97, y97), (98, y98), (99, y99), (100, y100), (101, y101)])) h) (fun e h => some (Ex.ret, e, h)) (b11_36 C)
  | _ => none)
  | .bool false =>
  thenV (some ((x 7), h)) fun y83 h =>
  thenV (some (y13, h)) fun y84 h =>
  thenV (some ((x 11), h)) fun y85 h =>
  thenV (C 19 [y83, y84, y85] h) fun y86 h =>
  thenV (some (y86, h)) fun y15 h =>
  thenV (some (y15, h)) fun y87 h =>
  thenV (pu (bin Try.prog .eql 28 y87 (.int .i64 0)) h) fun y88 h =>
  thenV (some ((x 10), h)) fun y89 h =>
  thenV (some ((x 1), h)) fun y90 h =>
  thenV (pu (bin Try.prog .lss 3 y89 y90) h) fun y91 h =>
  thenV (pu (bin Try.prog .neq 4 y88 y91) h) fun y92 h =>
  thenV (some (y92, h)) fun y93 h =>
  thenV (guardK (bOf y93 == some false) (some ((x 10), h)) h) fun y94 h =>
  thenV (guardK (bOf y93 == some false) (some ((x 1), h)) h) fun y95 h =>
  thenV (guardK (bOf y93 == some false) (pu (bin Try.prog .eql 3 y94 y95) h) h) fun y96 h =>
  thenV (guardK (bOf y93 == some false) (some (y96, h)) h) fun y97 h =>
  thenV (guardK (bOf y97 == some true) (some (y15, h)) h) fun y98 h =>
  thenV (guardK (bOf y97 == some true) (pu (bin Try.prog .neq 28 y98 (.int .i64 9)) h) h) fun y99 h =>
  thenV (guardK (bOf y93 == some false) (match y97 with | .bool t => some (if t then y99 else (.bool false), h) | _ => none) h) fun y100 h =>
  thenV (match y93 with | .bool t => some (if t then (.bool true) else y100, h) | _ => none) fun y101 h =>
  (match y101 with
  | .bool true =>
  thenV (some ((.bool false), h)) fun y6 h =>
  some (.ret, (mkF 186 (up x [(6, y6), (13, y13), (14, y14), (15, y15), (76, y76), (77, y77), (78, y78), (79, y79), (80, y80), (81, y81), (83, y83), (84, y84), (85, y85), (86, y86), (87, y87), (88, y88), (89, y89), (90, y90), (91, y91), (92, y92), (93, y93), (94, y94), (95, y95), (96, y96), (97, y97), (98, y98), (99, y99), (100, y100), (101, y101)])), h)
  | .bool false =>
  thenV (some ((.int .i64 0), h)) fun y16 h =>
  endL (iter (codeA Try.prog C (partOf Try.f11 [1, 1, 1, 1, 1, 0, 1, 0, 0, 1, 0, 0, 1, 1, 1, 1, 1, 1, 0, 0])) rounds (mkF 186 (up x [(13, y13), (14, y14), (15, y15), (16, y16), (76, y76), (77, y77), (78, y78), (79, y79), (80, y80), (81, y81), (83, y83), (84, y84), (85, y85), (86, y86), (87, y87), (88, y88), (89, y89), (90, y90), (91, y91), (92, y92), (93, y93), (94, y94), (95, y95), (96, y96), (97, y97), (98, y98), (99, y99), (100, y100), (101, y101)])) h) (fun e h => some (Ex.ret, e, h)) (b11_36 C)
  | _ => none)
  | _ => none)
noncomputable def t11l11_1111101001001010 (C : CallF) (x : Nat → Value) (h : Heap) : Option (Ex × Env × Heap) :=
  thenV (some ((x 12), h)) fun y64 h =>
  thenV (pu (bin Try.prog .lss 3 y64 (.int .i64 128)) h) fun y65 h =>
  (match y65 with
  | .bool true =>
  thenV (some ((x 11), h)) fun y68 h =>
  thenV (some ((x 12), h)) fun y69 h =>
  thenV (some ((x 10), h)) fun y70 h =>
  thenV (some ((x 12), h)) fun y71 h =>
  thenV (pu (bin Try.prog .add 3 y70 y71) h) fun y72 h =>
  thenV (pu (bin Try.prog .add 3 y72 (.int .i64 1)) h) fun y73 h =>
  thenV (cvI .u8 y73 h) fun y74 h =>
  thenV (pu (idxS 1 y68 y69) h) fun y75 h =>
  thenV (stN 1 y75 y74 h) fun _ h =>
  thenV (some ((x 12), h)) fun y66 h =>
  thenV (pu (bin Try.prog .add 3 y66 (.int .i64 1)) h) fun y67 h =>
  thenV (some (y67, h)) fun y12 h =>
  some (.normal, (mkF 186 (up x [(12, y12), (64, y64), (65, y65), (66, y66), (67, y67), (68, y68), (69, y69), (70, y70), (71, y71), (72, y72), (73, y73), (74, y74), (75, y75)])), h)
  | .bool false =>
  some (.exit 2, (mkF 186 (up x [(64, y64), (65, y65)])), h)
  | _ => none)
noncomputable def t11l11_1111101001001111110 (C : CallF) (x : Nat → Value) (h : Heap) : Option (Ex × Env × Heap) :=
  thenV (some ((x 16), h)) fun y102 h =>
  thenV (some ((x 14), h)) fun y103 h =>
  thenV (pu (bin Try.prog .lss 3 y102 y103) h) fun y104 h =>
  (match y104 with
  | .bool true =>
  thenV (some ((x 9), h)) fun y107 h =>
  thenV (some ((x 13), h)) fun y108 h =>
  thenV (pu (bin Try.prog .mul 3 (.int .i64 128) y108) h) fun y109 h =>
  thenV (some ((x 16), h)) fun y110 h =>
  thenV (pu (bin Try.prog .add 3 y109 y110) h) fun y111 h =>
  thenV (some ((x 11), h)) fun y112 h =>
  thenV (some ((x 16), h)) fun y113 h =>
  thenV (pu (idxS 1 y112 y113) h) fun y114 h =>
  thenV (ld1 y114 h) fun y115 h =>
  thenV (pu (idxS 1 y107 y111) h) fun y116 h =>
  thenV (stN 1 y116 y115 h) fun _ h =>
  thenV (some ((x 16), h)) fun y105 h =>
  thenV (pu (bin Try.prog .add 3 y105 (.int .i64 1)) h) fun y106 h =>
  thenV (some (y106, h)) fun y16 h =>
  some (.normal, (mkF 186 (up x [(16, y16), (102, y102), (103, y103), (104, y104), (105, y105), (106, y106), (107, y107), (108, y108), (109, y109), (110, y110), (111, y111), (112, y112), (113, y113), (114, y114), (115, y115), (116, y116)])), h)
  | .bool false =>
  some (.exit 4, (mkF 186 (up x [(102, y102), (103, y103), (104, y104)])), h)
  | _ => none)
theorem t11_eq (C : CallF) (x0 x1 x2 : Value) (h : Heap) : bodyK Try.prog C Try.f11 [x0, x1, x2] h = t11 C x0 x1 x2 h :=
  (bodyB_eq Try.prog C Try.f11 [x0, x1, x2] h (by kernel_rfl)).trans (by kernel_rfl)
theorem t11k11_9_eq (C : CallF) (x : Nat → Value) (h : Heap) : k11_9 C (mkF 186 x) h = t11k11_9 C x h :=
  link_partF (b := (partOf Try.f11 [1, 1, 1, 1, 1, 1])) (kE := (resultsA Try.prog Try.f11.results.toList)) (rE := (resultsA Try.prog Try.f11.results.toList)) (xE := (fun _ _ _ => none)) (T := t11k11_9 C) (fun x h => by kernel_rfl) x h
theorem t11l11_11111010_eq (C : CallF) (x : Nat → Value) (h : Heap) : codeA Try.prog C (partOf Try.f11 [1, 1, 1, 1, 1, 0, 1, 0, 0]) (mkF 186 x) h = t11l11_11111010 C x h :=
  link_roundF (T := t11l11_11111010 C) (fun x h => by kernel_rfl) x h
theorem t11k11_22_eq (C : CallF) (x : Nat → Value) (h : Heap) : k11_22 C (mkF 186 x) h = t11k11_22 C x h :=
  link_partF (b := (partOf Try.f11 [1, 1, 1, 1, 1, 0, 1, 0, 0, 1, 1])) (kE := (fun e h => some (Ex.normal, e, h))) (rE := (fun e h => some (Ex.ret, e, h))) (xE := (fun i e h => some (Ex.exit i, e, h))) (T := t11k11_22 C) (fun x h => by kernel_rfl) x h
theorem t11k11_25_eq (C : CallF) (x : Nat → Value) (h : Heap) : k11_25 C (mkF 186 x) h = t11k11_25 C x h :=
  link_partF (b := (partOf Try.f11 [1, 1, 1, 1, 1, 0, 1, 0, 0, 1, 0, 0, 1, 1])) (kE := (k11_22 C)) (rE := (fun e h => some (Ex.ret, e, h))) (xE := (b11_23 C)) (T := t11k11_25 C) (fun x h => by kernel_rfl) x h
theorem t11l11_1111101001001010_eq (C : CallF) (x : Nat → Value) (h : Heap) : codeA Try.prog C (partOf Try.f11 [1, 1, 1, 1, 1, 0, 1, 0, 0, 1, 0, 0, 1, 0, 1, 0, 0]) (mkF 186 x) h = t11l11_1111101001001010 C x h :=
  link_roundF (T := t11l11_1111101001001010 C) (fun x h => by kernel_rfl) x h
theorem t11l11_1111101001001111110_eq (C : CallF) (x : Nat → Value) (h : Heap) : codeA Try.prog C (partOf Try.f11 [1, 1, 1, 1, 1, 0, 1, 0, 0, 1, 0, 0, 1, 1, 1, 1, 1, 1, 0, 0]) (mkF 186 x) h = t11l11_1111101001001111110 C x h :=
  link_roundF (T := t11l11_1111101001001111110 C) (fun x h => by kernel_rfl) x h

end Go.Proofs.Ytcmfgmhadeeieaa
