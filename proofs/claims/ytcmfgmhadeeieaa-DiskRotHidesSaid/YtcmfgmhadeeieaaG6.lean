/-
  Printed by a program: the texts of some of the seat's functions, each linked to the program.
  Conditions: none.
-/
import Derived.Test.YtcmfgmhadeeieaaG5
import Derived.Test.YtcmfgmhadeeieaaProg
import Derived.KernelRfl
namespace Go.Proofs.Ytcmfgmhadeeieaa
open Go Go.Abs
noncomputable def k12_12 (C : CallF) (e : Env) (h : Heap) : Out := codeK Try.prog C (partOf Try.f12 [1, 1, 1, 1, 1, 1, 1]) e h (resultsA Try.prog Try.f12.results.toList) (resultsA Try.prog Try.f12.results.toList) (fun _ _ _ => none)
noncomputable def b12_14 (C : CallF) (i : Nat) (e : Env) (h : Heap) : Out := if i = 0 then (k12_12 C) e h else (fun _ _ _ => none) i e h
/-- stolon/stolonlaw03.DiskDevice -/
noncomputable def t12 (C : CallF) (x0 x1 : Value) (h : Heap) : Out :=
  thenV (some ((.bool false), h)) fun y4 h =>
  thenV (some (x0, h)) fun y11 h =>
  thenV (some (x1, h)) fun y12 h =>
  thenV (C 17 [y11, y12] h) fun y13 h =>
  (match y13 with
  | .bool true =>
  thenV (C 14 [] h) fun y14 h =>
  thenV (some (y14, h)) fun y4_1 h =>
  some (y4_1, h)
  | .bool false =>
  thenV (some (x0, h)) fun y16 h =>
  thenV (C 18 [y16] h) fun y17 h =>
  thenV (some (y17, h)) fun y15 h =>
  thenV (pu (extractA y15 0) h) fun y18 h =>
  thenV (pu (extractA y15 1) h) fun y19 h =>
  thenV (some (y18, h)) fun y5 h =>
  thenV (some (y19, h)) fun y6 h =>
  thenV (some (x0, h)) fun y21 h =>
  thenV (C 35 [y21] h) fun y22 h =>
  thenV (some (y22, h)) fun y20 h =>
  thenV (pu (extractA y20 0) h) fun y23 h =>
  thenV (pu (extractA y20 1) h) fun y24 h =>
  thenV (newC [(.slice none 0 0), (.bool false), (.bool false), (.int .i64 0), (.int .i64 0), (.int .i64 0)] h) fun y7 h =>
  thenV (stN 6 y7 y23 h) fun _ h =>
  thenV (some (y24, h)) fun y8 h =>
  thenV (some (y6, h)) fun y25 h =>
  thenV (some (y8, h)) fun y26 h =>
  thenV (pu (bin Try.prog .neq 28 y25 y26) h) fun y27 h =>
  thenV (some (y27, h)) fun y28 h =>
  thenV (guardK (bOf y28 == some false) (some (y5, h)) h) fun y29 h =>
  thenV (guardK (bOf y28 == some false) (pu (bin Try.prog .eql 27 y29 (.pointer none)) h) h) fun y30 h =>
  thenV (guardK (bOf y28 == some false) (some (y8, h)) h) fun y31 h =>
  thenV (guardK (bOf y28 == some false) (pu (bin Try.prog .neq 28 y31 (.int .i64 0)) h) h) fun y32 h =>
  thenV (guardK (bOf y28 == some false) (pu (bin Try.prog .neq 4 y30 y32) h) h) fun y33 h =>
  thenV (match y28 with | .bool t => some (if t then (.bool true) else y33, h) | _ => none) fun y34 h =>
  (match y34 with
  | .bool true =>
  thenV (some ((.bool false), h)) fun y4_1 h =>
  some (y4_1, h)
  | .bool false =>
  thenV (some (y8, h)) fun y35 h =>
  thenV (pu (bin Try.prog .neq 28 y35 (.int .i64 0)) h) fun y36 h =>
  (match y36 with
  | .bool true =>
  thenV (C 14 [] h) fun y37 h =>
  thenV (some (y37, h)) fun y4_1 h =>
  some (y4_1, h)
  | .bool false =>
  thenV (some ((.int .i64 0), h)) fun y9 h =>
  endL (iter (codeA Try.prog C (partOf Try.f12 [1, 1, 1, 1, 1, 1, 0, 1, 0, 0])) rounds (mkF 80 (up (bs [x0, x1]) [(4, y4), (5, y5), (6, y6), (7, y7), (8, y8), (9, y9), (11, y11), (12, y12), (13, y13), (15, y15), (16, y16), (17, y17), (18, y18), (19, y19), (20, y20), (21, y21), (22, y22), (23, y23), (24, y24), (25, y25), (26, y26), (27, y27), (28, y28), (29, y29), (30, y30), (31, y31), (32, y32), (33, y33), (34, y34), (35, y35), (36, y36)])) h) (resultsA Try.prog Try.f12.results.toList) (b12_14 C)
  | _ => none)
  | _ => none)
  | _ => none)
noncomputable def k10_18 (C : CallF) (e : Env) (h : Heap) : Out := codeK Try.prog C (partOf Try.f10 [1, 1, 1, 1, 1, 1, 1, 1, 1, 1]) e h (resultsA Try.prog Try.f10.results.toList) (resultsA Try.prog Try.f10.results.toList) (fun _ _ _ => none)
noncomputable def b10_20 (C : CallF) (i : Nat) (e : Env) (h : Heap) : Out := if i = 0 then (k10_18 C) e h else (fun _ _ _ => none) i e h
/-- stolon/stolonlaw03.DiskLoads -/
noncomputable def t10 (C : CallF) (x0 : Value) (h : Heap) : Out :=
  thenV (some ((.bool false), h)) fun y2 h =>
  thenV (some (x0, h)) fun y16 h =>
  thenV (pu (lenL y16) h) fun y17 h =>
  thenV (pu (bin Try.prog .gtr 3 y17 (.int .i64 8319)) h) fun y18 h =>
  (match y18 with
  | .bool true =>
  thenV (C 14 [] h) fun y19 h =>
  thenV (some (y19, h)) fun y2_1 h =>
  some (y2_1, h)
  | .bool false =>
  thenV (bslR 1 (.int .u8 0) 0 [] h) fun y21 h =>
  thenV (some (x0, h)) fun y22 h =>
  thenV (appendA 1 1 y21 y22 h) fun y23 h =>
  thenV (C 43 [y23] h) fun y24 h =>
  thenV (some (y24, h)) fun y20 h =>
  thenV (pu (extractA y20 0) h) fun y25 h =>
  thenV (pu (extractA y20 1) h) fun y26 h =>
  thenV (some (y25, h)) fun y3 h =>
  thenV (some (y26, h)) fun y4 h =>
  thenV (some (x0, h)) fun y28 h =>
  thenV (C 37 [y28] h) fun y29 h =>
  thenV (some (y29, h)) fun y27 h =>
  thenV (pu (extractA y27 0) h) fun y30 h =>
  thenV (pu (extractA y27 1) h) fun y31 h =>
  thenV (newC [(.slice none 0 0), (.bool false), (.bool false), (.int .i64 0), (.int .i64 0), (.int .i64 0)] h) fun y5 h =>
  thenV (stN 6 y5 y30 h) fun _ h =>
  thenV (some (y31, h)) fun y6 h =>
  thenV (some (y4, h)) fun y32 h =>
  thenV (some (y6, h)) fun y33 h =>
  thenV (pu (bin Try.prog .neq 28 y32 y33) h) fun y34 h =>
  thenV (some (y34, h)) fun y35 h =>
  thenV (guardK (bOf y35 == some false) (some (y3, h)) h) fun y36 h =>
  thenV (guardK (bOf y35 == some false) (pu (bin Try.prog .eql 27 y36 (.pointer none)) h) h) fun y37 h =>
  thenV (guardK (bOf y35 == some false) (some (y6, h)) h) fun y38 h =>
  thenV (guardK (bOf y35 == some false) (pu (bin Try.prog .neq 28 y38 (.int .i64 0)) h) h) fun y39 h =>
  thenV (guardK (bOf y35 == some false) (pu (bin Try.prog .neq 4 y37 y39) h) h) fun y40 h =>
  thenV (match y35 with | .bool t => some (if t then (.bool true) else y40, h) | _ => none) fun y41 h =>
  (match y41 with
  | .bool true =>
  thenV (some ((.bool false), h)) fun y2_1 h =>
  some (y2_1, h)
  | .bool false =>
  thenV (some (y6, h)) fun y42 h =>
  thenV (pu (bin Try.prog .neq 28 y42 (.int .i64 0)) h) fun y43 h =>
  (match y43 with
  | .bool true =>
  thenV (C 14 [] h) fun y44 h =>
  thenV (some (y44, h)) fun y2_1 h =>
  some (y2_1, h)
  | .bool false =>
  thenV (some (y3, h)) fun y46 h =>
  thenV (C 21 [y46] h) fun y47 h =>
  thenV (some (y47, h)) fun y45 h =>
  thenV (pu (extractA y45 0) h) fun y48 h =>
  thenV (pu (extractA y45 1) h) fun y49 h =>
  thenV (pu (extractA y45 2) h) fun y50 h =>
  thenV (some (y48, h)) fun y7 h =>
  thenV (some (y49, h)) fun y8 h =>
  thenV (some (y50, h)) fun y4_1 h =>
  thenV (ldN 6 y5 h) fun y52 h =>
  thenV (C 38 [y52] h) fun y53 h =>
  thenV (some (y53, h)) fun y51 h =>
  thenV (pu (extractA y51 0) h) fun y54 h =>
  thenV (pu (extractA y51 1) h) fun y55 h =>
  thenV (pu (extractA y51 2) h) fun y56 h =>
  thenV (pu (extractA y51 3) h) fun y57 h =>
  thenV (newC [(.int .i64 0), (.int .i64 0), (.int .u64 0), (.int .i64 0), (.int .u64 0), (.bool false), (.int .i64 0), (.bool false)] h) fun y9 h =>
  thenV (stN 6 y5 y54 h) fun _ h =>
  thenV (stN 8 y9 y55 h) fun _ h =>
  thenV (some (y56, h)) fun y10 h =>
  thenV (some (y57, h)) fun y6_1 h =>
  let g16_0 := h
  thenV (some (y4_1, g16_0)) fun y58 g16_1 =>
  thenV (some (y6_1, g16_1)) fun y59 g16_2 =>
  thenV (pu (bin Try.prog .neq 28 y58 y59) g16_2) fun y60 g16_3 =>
  thenV (some (y60, g16_3)) fun y61 g16_4 =>
  thenV (guardK (bOf y61 == some false) (some (y4_1, g16_4)) g16_4) fun y62 g16_5 =>
  thenV (guardK (bOf y61 == some false) (pu (bin Try.prog .neq 28 y62 (.int .i64 0)) g16_5) g16_5) fun y63 g16_6 =>
  thenV (match y61 with | .bool t => some (if t then (.bool true) else y63, g16_6) | _ => none) fun y64 g16_7 =>
  thenV (some (y64, g16_7)) fun y65 g16_8 =>
  thenV (guardK (bOf y65 == some false) (some (y8, g16_8)) g16_8) fun y66 g16_9 =>
  thenV (guardK (bOf y65 == some false) (some (y10, g16_9)) g16_9) fun y67 g16_10 =>
  thenV (guardK (bOf y65 == some false) (C 44 [y66, y67] g16_10) g16_10) fun y68 g16_11 =>
  thenV (guardK (bOf y65 == some false) (pu (unA .not y68) g16_11) g16_11) fun y69 g16_12 =>
  thenV (match y65 with | .bool t => some (if t then (.bool true) else y69, g16_12) | _ => none) fun y70 g16_13 =>
  thenV (some (y70, g16_13)) fun y71 g16_14 =>
  thenV (guardK (bOf y71 == some false) (some (y7, g16_14)) g16_14) fun y72 g16_15 =>
  thenV (guardK (bOf y71 == some false) (ldN 8 y9 g16_15) g16_15) fun y73 g16_16 =>
  thenV (guardK (bOf y71 == some false) (pu (bldR [(.pointer none), (.int .i64 0), (.int .i64 0), (.int .u64 0), (.int .i64 0), (.int .u64 0), (.bool false), (.int .i64 0), (.bool false)] [(0, 1, y72), (1, 8, y73)]) g16_16) g16_16) fun y74 g16_17 =>
  thenV (guardK (bOf y71 == some false) (ldN 6 y5 g16_17) g16_17) fun y75 g16_18 =>
  thenV (guardK (bOf y71 == some false) (C 45 [y74, y75] g16_18) g16_18) fun y76 g16_19 =>
  thenV (guardK (bOf y71 == some false) (pu (unA .not y76) g16_19) g16_19) fun y77 g16_20 =>
  thenV (match y71 with | .bool t => some (if t then (.bool true) else y77, g16_20) | _ => none) fun y78 g16_21 =>
  thenV (some (y78, g16_21)) fun y79 g16_22 =>
  thenV (guardK (bOf y79 == some false) (some (y3, g16_22)) g16_22) fun y80 g16_23 =>
  thenV (guardK (bOf y79 == some false) (C 25 [y80] g16_23) g16_23) fun y81 g16_24 =>
  thenV (guardK (bOf y79 == some false) (cvBS y81 g16_24) g16_24) fun y82 g16_25 =>
  thenV (guardK (bOf y79 == some false) (some (x0, g16_25)) g16_25) fun y83 g16_26 =>
  thenV (guardK (bOf y79 == some false) (cvBS y83 g16_26) g16_26) fun y84 g16_27 =>
  thenV (guardK (bOf y79 == some false) (pu (bin Try.prog .neq 9 y82 y84) g16_27) g16_27) fun y85 g16_28 =>
  thenV (match y79 with | .bool t => some (if t then (.bool true) else y85, g16_28) | _ => none) fun y86 g16_29 =>
  (match (chkR (bOf y79 == some false) (cvBS y83 g16_23) y84 && true) with
  | true =>
  let h := g16_29
  (match y86 with
  | .bool true =>
  thenV (some ((.bool false), h)) fun y2_1 h =>
  some (y2_1, h)
  | .bool false =>
  thenV (some ((.int .i64 (-1)), h)) fun y11 h =>
  endL (iter (codeA Try.prog C (partOf Try.f10 [1, 1, 1, 1, 1, 1, 1, 1, 1, 0, 1, 0, 0])) rounds (mkF 117 (up (bs [x0]) [(2, y2), (3, y3), (4, y4_1), (5, y5), (6, y6_1), (7, y7), (8, y8), (9, y9), (10, y10), (11, y11), (16, y16), (17, y17), (18, y18), (20, y20), (21, y21), (22, y22), (23, y23), (24, y24), (25, y25), (26, y26), (27, y27), (28, y28), (29, y29), (30, y30), (31, y31), (32, y32), (33, y33), (34, y34), (35, y35), (36, y36), (37, y37), (38, y38), (39, y39), (40, y40), (41, y41), (42, y42), (43, y43), (45, y45), (46, y46), (47, y47), (48, y48), (49, y49), (50, y50), (51, y51), (52, y52), (53, y53), (54, y54), (55, y55), (56, y56), (57, y57), (58, y58), (59, y59), (60, y60), (61, y61), (62, y62), (63, y63), (64, y64), (65, y65), (66, y66), (67, y67), (68, y68), (69, y69), (70, y70), (71, y71), (72, y72), (73, y73), (74, y74), (75, y75), (76, y76), (77, y77), (78, y78), (79, y79), (80, y80), (81, y81), (82, y82), (83, y83), (84, y84), (85, y85), (86, y86)])) h) (resultsA Try.prog Try.f10.results.toList) (b10_20 C)
  | _ => none)
  | false => none)
  | _ => none)
  | _ => none)
  | _ => none)
noncomputable def k13_10 (C : CallF) (e : Env) (h : Heap) : Out := codeK Try.prog C (partOf Try.f13 [1, 1, 1, 1, 1, 1, 1]) e h (resultsA Try.prog Try.f13.results.toList) (resultsA Try.prog Try.f13.results.toList) (fun _ _ _ => none)
noncomputable def b13_12 (C : CallF) (i : Nat) (e : Env) (h : Heap) : Out := if i = 0 then (k13_10 C) e h else (fun _ _ _ => none) i e h
/-- stolon/stolonlaw03.DiskScripts -/
noncomputable def t13 (C : CallF) (x0 x1 : Value) (h : Heap) : Out :=
  thenV (some ((.bool false), h)) fun y4 h =>
  thenV (some (x0, h)) fun y32 h =>
  thenV (some (x1, h)) fun y33 h =>
  thenV (C 17 [y32, y33] h) fun y34 h =>
  (match y34 with
  | .bool true =>
  thenV (C 14 [] h) fun y35 h =>
  thenV (some (y35, h)) fun y4_1 h =>
  some (y4_1, h)
  | .bool false =>
  thenV (some (x0, h)) fun y37 h =>
  thenV (C 18 [y37] h) fun y38 h =>
  thenV (some (y38, h)) fun y36 h =>
  thenV (pu (extractA y36 0) h) fun y39 h =>
  thenV (pu (extractA y36 1) h) fun y40 h =>
  thenV (some (y39, h)) fun y5 h =>
  thenV (some (y40, h)) fun y6 h =>
  thenV (some (x0, h)) fun y42 h =>
  thenV (C 35 [y42] h) fun y43 h =>
  thenV (some (y43, h)) fun y41 h =>
  thenV (pu (extractA y41 0) h) fun y44 h =>
  thenV (pu (extractA y41 1) h) fun y45 h =>
  thenV (newC [(.slice none 0 0), (.bool false), (.bool false), (.int .i64 0), (.int .i64 0), (.int .i64 0)] h) fun y7 h =>
  thenV (stN 6 y7 y44 h) fun _ h =>
  thenV (some (y45, h)) fun y8 h =>
  thenV (some (y6, h)) fun y46 h =>
  thenV (some (y8, h)) fun y47 h =>
  thenV (pu (bin Try.prog .neq 28 y46 y47) h) fun y48 h =>
  thenV (some (y48, h)) fun y49 h =>
  thenV (guardK (bOf y49 == some false) (some (y8, h)) h) fun y50 h =>
  thenV (guardK (bOf y49 == some false) (pu (bin Try.prog .neq 28 y50 (.int .i64 0)) h) h) fun y51 h =>
  thenV (match y49 with | .bool t => some (if t then (.bool true) else y51, h) | _ => none) fun y52 h =>
  (match y52 with
  | .bool true =>
  thenV (some (y6, h)) fun y53 h =>
  thenV (some (y8, h)) fun y54 h =>
  thenV (pu (bin Try.prog .eql 28 y53 y54) h) fun y55 h =>
  thenV (some (y55, h)) fun y56 h =>
  thenV (guardK (bOf y56 == some true) (C 14 [] h) h) fun y57 h =>
  thenV (match y56 with | .bool t => some (if t then y57 else (.bool false), h) | _ => none) fun y58 h =>
  thenV (some (y58, h)) fun y4_1 h =>
  some (y4_1, h)
  | .bool false =>
  thenV (pu (bldR [(.int .i64 0), (.int .i64 0), (.int .u64 0), (.int .i64 0), (.int .u64 0), (.bool false), (.int .i64 0), (.bool false)] [(7, 1, (.bool true))]) h) fun y59 h =>
  thenV (pu (bldR [(.pointer none), (.int .i64 0), (.int .i64 0), (.int .u64 0), (.int .i64 0), (.int .u64 0), (.bool false), (.int .i64 0), (.bool false)] [(0, 1, (.pointer none)), (1, 8, y59)]) h) fun y60 h =>
  thenV (pu (bldR [(.int .i64 0), (.int .i64 0), (.int .u64 0), (.int .i64 0), (.int .u64 0), (.bool false), (.int .i64 0), (.bool false)] [(7, 1, (.bool true))]) h) fun y61 h =>
  thenV (pu (bldR [(.pointer none), (.int .i64 0), (.int .i64 0), (.int .u64 0), (.int .i64 0), (.int .u64 0), (.bool false), (.int .i64 0), (.bool false)] [(0, 1, (.pointer none)), (1, 8, y61)]) h) fun y62 h =>
  thenV (newC [(.pointer none), (.int .i64 0), (.int .i64 0), (.int .u64 0), (.int .i64 0), (.int .u64 0), (.bool false), (.int .i64 0), (.bool false)] h) fun y9 h =>
  thenV (newC [(.pointer none), (.int .i64 0), (.int .i64 0), (.int .u64 0), (.int .i64 0), (.int .u64 0), (.bool false), (.int .i64 0), (.bool false)] h) fun y10 h =>
  thenV (stN 9 y9 y60 h) fun _ h =>
  thenV (stN 9 y10 y62 h) fun _ h =>
  thenV (some ((.int .i64 0), h)) fun y11 h =>
  endL (iter (codeA Try.prog C (partOf Try.f13 [1, 1, 1, 1, 1, 1, 0, 1, 0, 0])) rounds (mkF 243 (up (bs [x0, x1]) [(4, y4), (5, y5), (6, y6), (7, y7), (8, y8), (9, y9), (10, y10), (11, y11), (32, y32), (33, y33), (34, y34), (36, y36), (37, y37), (38, y38), (39, y39), (40, y40), (41, y41), (42, y42), (43, y43), (44, y44), (45, y45), (46, y46), (47, y47), (48, y48), (49, y49), (50, y50), (51, y51), (52, y52), (59, y59), (60, y60), (61, y61), (62, y62)])) h) (resultsA Try.prog Try.f13.results.toList) (b13_12 C)
  | _ => none)
  | _ => none)
end Go.Proofs.Ytcmfgmhadeeieaa

