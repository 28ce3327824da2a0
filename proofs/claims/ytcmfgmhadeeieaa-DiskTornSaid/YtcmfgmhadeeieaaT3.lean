/-
  Printed by a program: the texts of some of the seat's functions, each linked to the program.
  Conditions: none.
-/
import Derived.Test.YtcmfgmhadeeieaaT2
import Derived.Test.YtcmfgmhadeeieaaProg
import Derived.KernelRfl
namespace Go.Proofs.Ytcmfgmhadeeieaa
open Go Go.Abs
noncomputable def k21_7 (C : CallF) (e : Env) (h : Heap) : Out := codeK Try.prog C (partOf Try.f21 [1, 1, 1, 1, 1]) e h (resultsA Try.prog Try.f21.results.toList) (resultsA Try.prog Try.f21.results.toList) (fun _ _ _ => none)
noncomputable def b21_9 (C : CallF) (i : Nat) (e : Env) (h : Heap) : Out := if i = 0 then (k21_7 C) e h else (fun _ _ _ => none) i e h
noncomputable def k21_11 (C : CallF) (e : Env) (h : Heap) : Out := codeK Try.prog C (partOf Try.f21 [1, 1, 1, 1, 1, 1, 1]) e h (resultsA Try.prog Try.f21.results.toList) (resultsA Try.prog Try.f21.results.toList) (fun _ _ _ => none)
noncomputable def b21_13 (C : CallF) (i : Nat) (e : Env) (h : Heap) : Out := if i = 4 then (k21_11 C) e h else (fun _ _ _ => none) i e h
noncomputable def k21_16 (C : CallF) (e : Env) (h : Heap) : Option (Ex × Env × Heap) := codeK Try.prog C (partOf Try.f21 [1, 1, 1, 1, 0, 1, 0, 0, 1, 1, 1]) e h (fun e h => some (Ex.normal, e, h)) (fun e h => some (Ex.ret, e, h)) (fun i e h => some (Ex.exit i, e, h))
noncomputable def b21_17 (C : CallF) (i : Nat) (e : Env) (h : Heap) : Option (Ex × Env × Heap) := if i = 1 then (k21_16 C) e h else (fun i e h => some (Ex.exit i, e, h)) i e h
noncomputable def b21_25 (C : CallF) (i : Nat) (e : Env) (h : Heap) : Option (Ex × Env × Heap) := if i = 2 then (k21_16 C) e h else (b21_17 C) i e h
/-- stolon/disk.Open -/
noncomputable def t21 (C : CallF) (x0 : Value) (h : Heap) : Out :=
  thenV (some ((.pointer none), h)) fun y2 h =>
  thenV (some ((.slice none 0 0), h)) fun y3 h =>
  thenV (some ((.int .i64 0), h)) fun y4 h =>
  thenV (some (x0, h)) fun y18 h =>
  thenV (C 53 [y18, (.int .i64 0)] h) fun y19 h =>
  thenV (some (y19, h)) fun y5 h =>
  thenV (some (y5, h)) fun y20 h =>
  thenV (pu (bin Try.prog .neq 28 y20 (.int .i64 0)) h) fun y21 h =>
  (match y21 with
  | .bool true =>
  thenV (some (y5, h)) fun y22 h =>
  thenV (some ((.pointer none), h)) fun y2_1 h =>
  thenV (some ((.slice none 0 0), h)) fun y3_1 h =>
  thenV (some (y22, h)) fun y4_1 h =>
  some (.tuple #[y2_1, y3_1, y4_1], h)
  | .bool false =>
  thenV (some (x0, h)) fun y23 h =>
  thenV (pu (nilCheckA y23) h) fun y24 h =>
  thenV (pu (addP y24 5) h) fun y25 h =>
  thenV (ld1 y25 h) fun y26 h =>
  thenV (pu (bin Try.prog .add 3 y26 (.int .i64 1)) h) fun y27 h =>
  thenV (pu (nilCheckA y23) h) fun y28 h =>
  thenV (pu (addP y28 5) h) fun y29 h =>
  thenV (stN 1 y29 y27 h) fun _ h =>
  thenV (some (x0, h)) fun y30 h =>
  thenV (some (x0, h)) fun y31 h =>
  thenV (pu (nilCheckA y31) h) fun y32 h =>
  thenV (pu (addP y32 5) h) fun y33 h =>
  thenV (ld1 y33 h) fun y34 h =>
  thenV (pu (bldR [(.pointer none), (.int .i64 0), (.int .i64 0), (.int .i64 0), (.int .u64 0), (.int .u64 0), (.bool false), (.int .i64 0)] [(0, 1, y30), (1, 1, y34), (2, 1, (.int .i64 (-1)))]) h) fun y35 h =>
  thenV (box y35 h) fun y36 h =>
  thenV (some (y36, h)) fun y6 h =>
  thenV (some ((.int .i64 0), h)) fun y37 h =>
  endL (iter (codeA Try.prog C (partOf Try.f21 [1, 1, 1, 1, 0, 1, 0, 0])) rounds (mkF 131 (up (bs [x0]) [(2, y2), (3, y3), (4, y4), (5, y5), (6, y6), (18, y18), (19, y19), (20, y20), (21, y21), (23, y23), (24, y24), (25, y25), (26, y26), (27, y27), (28, y28), (29, y29), (30, y30), (31, y31), (32, y32), (33, y33), (34, y34), (35, y35), (36, y36), (37, y37)])) h) (resultsA Try.prog Try.f21.results.toList) (b21_9 C)
  | _ => none)
noncomputable def t21k21_7 (C : CallF) (x : Nat → Value) (h : Heap) : Out :=
  thenV (some ((.slice none 0 0), h)) fun y14 h =>
  thenV (some ((.int .i64 0), h)) fun y15 h =>
  endL (iter (codeA Try.prog C (partOf Try.f21 [1, 1, 1, 1, 1, 1, 0, 1, 0, 0])) rounds (mkF 131 (up x [(14, y14), (15, y15)])) h) (resultsA Try.prog Try.f21.results.toList) (b21_13 C)
noncomputable def t21l21_1111010 (C : CallF) (x : Nat → Value) (h : Heap) : Option (Ex × Env × Heap) :=
  thenV (pu (bin Try.prog .lss 3 (x 37) (.int .i64 2)) h) fun y38 h =>
  (match y38 with
  | .bool true =>
  thenV (some ((x 37), h)) fun y39 h =>
  thenV (some (y39, h)) fun y7 h =>
  thenV (some ((x 0), h)) fun y41 h =>
  thenV (some (y7, h)) fun y42 h =>
  thenV (C 54 [y41, y42] h) fun y43 h =>
  thenV (some (y43, h)) fun y40 h =>
  thenV (pu (extractA y40 0) h) fun y44 h =>
  thenV (pu (extractA y40 1) h) fun y45 h =>
  thenV (pu (extractA y40 2) h) fun y46 h =>
  thenV (some (y44, h)) fun y8 h =>
  thenV (some (y45, h)) fun y9 h =>
  thenV (some (y46, h)) fun y10 h =>
  thenV (some (y10, h)) fun y47 h =>
  (match y47 with
  | .bool true =>
  thenV (some ((x 6), h)) fun y48 h =>
  thenV (pu (nilCheckA y48) h) fun y49 h =>
  thenV (pu (addP y49 2) h) fun y50 h =>
  thenV (ld1 y50 h) fun y51 h =>
  thenV (pu (bin Try.prog .lss 3 y51 (.int .i64 0)) h) fun y52 h =>
  thenV (some (y52, h)) fun y53 h =>
  thenV (guardK (bOf y53 == some false) (some (y8, h)) h) fun y54 h =>
  thenV (guardK (bOf y53 == some false) (some ((x 6), h)) h) fun y55 h =>
  thenV (guardK (bOf y53 == some false) (pu (nilCheckA y55) h) h) fun y56 h =>
  thenV (guardK (bOf y53 == some false) (pu (addP y56 4) h) h) fun y57 h =>
  thenV (guardK (bOf y53 == some false) (ld1 y57 h) h) fun y58 h =>
  thenV (guardK (bOf y53 == some false) (pu (bin Try.prog .gtr 58 y54 y58) h) h) fun y59 h =>
  thenV (match y53 with | .bool t => some (if t then (.bool true) else y59, h) | _ => none) fun y60 h =>
  (match y60 with
  | .bool true =>
  thenV (some ((x 6), h)) fun y61 h =>
  thenV (some ((x 6), h)) fun y62 h =>
  thenV (some ((x 6), h)) fun y63 h =>
  thenV (some (y7, h)) fun y64 h =>
  thenV (some (y8, h)) fun y65 h =>
  thenV (some (y9, h)) fun y66 h =>
  thenV (pu (nilCheckA y61) h) fun y67 h =>
  thenV (pu (addP y67 2) h) fun y68 h =>
  thenV (stN 1 y68 y64 h) fun _ h =>
  thenV (pu (nilCheckA y62) h) fun y69 h =>
  thenV (pu (addP y69 4) h) fun y70 h =>
  thenV (stN 1 y70 y65 h) fun _ h =>
  thenV (pu (nilCheckA y63) h) fun y71 h =>
  thenV (pu (addP y71 3) h) fun y72 h =>
  thenV (stN 1 y72 y66 h) fun _ h =>
  thenV (some ((x 6), h)) fun y73 h =>
  thenV (some ((x 6), h)) fun y74 h =>
  thenV (pu (nilCheckA y74) h) fun y75 h =>
  thenV (pu (addP y75 5) h) fun y76 h =>
  thenV (ld1 y76 h) fun y77 h =>
  thenV (some (y8, h)) fun y78 h =>
  thenV (pu (minmax true y77 [y78]) h) fun y79 h =>
  thenV (pu (nilCheckA y73) h) fun y80 h =>
  thenV (pu (addP y80 5) h) fun y81 h =>
  thenV (stN 1 y81 y79 h) fun _ h =>
  thenV (some ((x 0), h)) fun y82 h =>
  thenV (C 55 [y82] h) fun y83 h =>
  thenV (some ((.int .i64 0), h)) fun y84 h =>
  endL (iter (codeA Try.prog C (partOf Try.f21 [1, 1, 1, 1, 0, 1, 0, 0, 1, 1, 0, 0, 1, 1, 1, 0, 0])) rounds (mkF 131 (up x [(7, y7), (8, y8), (9, y9), (10, y10), (38, y38), (39, y39), (40, y40), (41, y41), (42, y42), (43, y43), (44, y44), (45, y45), (46, y46), (47, y47), (48, y48), (49, y49), (50, y50), (51, y51), (52, y52), (53, y53), (54, y54), (55, y55), (56, y56), (57, y57), (58, y58), (59, y59), (60, y60), (61, y61), (62, y62), (63, y63), (64, y64), (65, y65), (66, y66), (67, y67), (68, y68), (69, y69), (70, y70), (71, y71), (72, y72), (73, y73), (74, y74), (75, y75), (76, y76), (77, y77), (78, y78), (79, y79), (80, y80), (81, y81), (82, y82), (83, y83), (84, y84)])) h) (fun e h => some (Ex.ret, e, h)) (b21_25 C)
  | .bool false =>
  thenV (some ((x 6), h)) fun y73 h =>
  thenV (some ((x 6), h)) fun y74 h =>
  thenV (pu (nilCheckA y74) h) fun y75 h =>
  thenV (pu (addP y75 5) h) fun y76 h =>
  thenV (ld1 y76 h) fun y77 h =>
  thenV (some (y8, h)) fun y78 h =>
  thenV (pu (minmax true y77 [y78]) h) fun y79 h =>
  thenV (pu (nilCheckA y73) h) fun y80 h =>
  thenV (pu (addP y80 5) h) fun y81 h =>
  thenV (stN 1 y81 y79 h) fun _ h =>
  thenV (some ((x 0), h)) fun y82 h =>
  thenV (C 55 [y82] h) fun y83 h =>
  thenV (some ((.int .i64 0), h)) fun y84 h =>
  endL (iter (codeA Try.prog C (partOf Try.f21 [1, 1, 1, 1, 0, 1, 0, 0, 1, 1, 0, 0, 1, 1, 1, 0, 0])) rounds (mkF 131 (up x [(7, y7), (8, y8), (9, y9), (10, y10), (38, y38), (39, y39), (40, y40), (41, y41), (42, y42), (43, y43), (44, y44), (45, y45), (46, y46), (47, y47), (48, y48), (49, y49), (50, y50), (51, y51), (52, y52), (53, y53), (54, y54), (55, y55), (56, y56), (57, y57), (58, y58), (59, y59), (60, y60), (73, y73), (74, y74), (75, y75), (76, y76), (77, y77), (78, y78), (79, y79), (80, y80), (81, y81), (82, y82), (83, y83), (84, y84)])) h) (fun e h => some (Ex.ret, e, h)) (b21_25 C)
  | _ => none)
  | .bool false =>
  thenV (some ((x 0), h)) fun y82 h =>
  thenV (C 55 [y82] h) fun y83 h =>
  thenV (some ((.int .i64 0), h)) fun y84 h =>
  endL (iter (codeA Try.prog C (partOf Try.f21 [1, 1, 1, 1, 0, 1, 0, 0, 1, 1, 0, 0, 1, 1, 1, 0, 0])) rounds (mkF 131 (up x [(7, y7), (8, y8), (9, y9), (10, y10), (38, y38), (39, y39), (40, y40), (41, y41), (42, y42), (43, y43), (44, y44), (45, y45), (46, y46), (47, y47), (82, y82), (83, y83), (84, y84)])) h) (fun e h => some (Ex.ret, e, h)) (b21_25 C)
  | _ => none)
  | .bool false =>
  some (.exit 0, (mkF 131 (up x [(38, y38)])), h)
  | _ => none)
noncomputable def t21k21_11 (C : CallF) (x : Nat → Value) (h : Heap) : Out :=
  thenV (some ((x 6), h)) fun y129 h =>
  thenV (some ((x 14), h)) fun y130 h =>
  thenV (some (y129, h)) fun y2 h =>
  thenV (some (y130, h)) fun y3 h =>
  thenV (some ((.int .i64 0), h)) fun y4 h =>
  some (.tuple #[y2, y3, y4], h)
noncomputable def t21l21_111111010 (C : CallF) (x : Nat → Value) (h : Heap) : Option (Ex × Env × Heap) :=
  thenV (some ((x 15), h)) fun y107 h =>
  thenV (some ((x 0), h)) fun y108 h =>
  thenV (C 55 [y108] h) fun y109 h =>
  thenV (pu (bin Try.prog .lss 3 y107 y109) h) fun y110 h =>
  (match y110 with
  | .bool true =>
  thenV (some ((x 6), h)) fun y112 h =>
  thenV (some ((x 15), h)) fun y113 h =>
  thenV (C 57 [y112, y113] h) fun y114 h =>
  thenV (some (y114, h)) fun y111 h =>
  thenV (pu (extractA y111 0) h) fun y115 h =>
  thenV (pu (extractA y111 1) h) fun y116 h =>
  thenV (some (y115, h)) fun y16 h =>
  thenV (some (y116, h)) fun y17 h =>
  thenV (some (y17, h)) fun y117 h =>
  thenV (pu (bin Try.prog .gtr 3 y117 (.int .i64 0)) h) fun y118 h =>
  (match y118 with
  | .bool true =>
  thenV (some ((x 14), h)) fun y119 h =>
  thenV (some ((x 15), h)) fun y120 h =>
  thenV (some (y16, h)) fun y121 h =>
  thenV (pu (bldR [(.int .i64 0), (.slice none 0 0)] [(0, 1, y120), (1, 1, y121)]) h) fun y122 h =>
  thenV (bslR 2 (.agg #[(.int .i64 0), (.slice none 0 0)]) 1 [(0, y122)] h) fun y123 h =>
  thenV (appendA 2 32 y119 y123 h) fun y124 h =>
  thenV (some (y124, h)) fun y14 h =>
  thenV (some ((x 15), h)) fun y125 h =>
  thenV (some (y17, h)) fun y126 h =>
  thenV (pu (minmax true y126 [(.int .i64 1)]) h) fun y127 h =>
  thenV (pu (bin Try.prog .add 3 y125 y127) h) fun y128 h =>
  thenV (some (y128, h)) fun y15 h =>
  some (.normal, (mkF 131 (up x [(14, y14), (15, y15), (16, y16), (17, y17), (107, y107), (108, y108), (109, y109), (110, y110), (111, y111), (112, y112), (113, y113), (114, y114), (115, y115), (116, y116), (117, y117), (118, y118), (119, y119), (120, y120), (121, y121), (122, y122), (123, y123), (124, y124), (125, y125), (126, y126), (127, y127), (128, y128)])), h)
  | .bool false =>
  thenV (some ((x 15), h)) fun y125 h =>
  thenV (some (y17, h)) fun y126 h =>
  thenV (pu (minmax true y126 [(.int .i64 1)]) h) fun y127 h =>
  thenV (pu (bin Try.prog .add 3 y125 y127) h) fun y128 h =>
  thenV (some (y128, h)) fun y15 h =>
  some (.normal, (mkF 131 (up x [(15, y15), (16, y16), (17, y17), (107, y107), (108, y108), (109, y109), (110, y110), (111, y111), (112, y112), (113, y113), (114, y114), (115, y115), (116, y116), (117, y117), (118, y118), (125, y125), (126, y126), (127, y127), (128, y128)])), h)
  | _ => none)
  | .bool false =>
  some (.exit 4, (mkF 131 (up x [(107, y107), (108, y108), (109, y109), (110, y110)])), h)
  | _ => none)
noncomputable def t21k21_16 (C : CallF) (x : Nat → Value) (h : Heap) : Option (Ex × Env × Heap) :=
  thenV (pu (bin Try.prog .add 3 (x 37) (.int .i64 1)) h) fun y106 h =>
  thenV (some (y106, h)) fun y37 h =>
  some (.normal, (mkF 131 (up x [(37, y37), (106, y106)])), h)
noncomputable def t21l21_1111010011001110 (C : CallF) (x : Nat → Value) (h : Heap) : Option (Ex × Env × Heap) :=
  thenV (pu (bin Try.prog .lss 3 (x 84) (x 83)) h) fun y85 h =>
  (match y85 with
  | .bool true =>
  thenV (some ((x 84), h)) fun y86 h =>
  thenV (some (y86, h)) fun y11 h =>
  thenV (some ((x 0), h)) fun y88 h =>
  thenV (some ((x 7), h)) fun y89 h =>
  thenV (some (y11, h)) fun y90 h =>
  thenV (C 56 [y88, y89, y90] h) fun y91 h =>
  thenV (some (y91, h)) fun y87 h =>
  thenV (pu (extractA y87 0) h) fun y92 h =>
  thenV (pu (extractA y87 1) h) fun y93 h =>
  thenV (newC [(.int .u64 0), (.int .i64 0), (.int .i64 0), (.slice none 0 0)] h) fun y12 h =>
  thenV (stN 4 y12 y92 h) fun _ h =>
  thenV (some (y93, h)) fun y13 h =>
  thenV (some (y13, h)) fun y94 h =>
  (match y94 with
  | .bool true =>
  thenV (some ((x 6), h)) fun y95 h =>
  thenV (some ((x 6), h)) fun y96 h =>
  thenV (pu (nilCheckA y96) h) fun y97 h =>
  thenV (pu (addP y97 5) h) fun y98 h =>
  thenV (ld1 y98 h) fun y99 h =>
  thenV (pu (addP y12 0) h) fun y100 h =>
  thenV (ld1 y100 h) fun y101 h =>
  thenV (pu (minmax true y99 [y101]) h) fun y102 h =>
  thenV (pu (nilCheckA y95) h) fun y103 h =>
  thenV (pu (addP y103 5) h) fun y104 h =>
  thenV (stN 1 y104 y102 h) fun _ h =>
  thenV (pu (bin Try.prog .add 3 (x 84) (.int .i64 1)) h) fun y105 h =>
  thenV (some (y105, h)) fun y84 h =>
  some (.normal, (mkF 131 (up x [(11, y11), (12, y12), (13, y13), (84, y84), (85, y85), (86, y86), (87, y87), (88, y88), (89, y89), (90, y90), (91, y91), (92, y92), (93, y93), (94, y94), (95, y95), (96, y96), (97, y97), (98, y98), (99, y99), (100, y100), (101, y101), (102, y102), (103, y103), (104, y104), (105, y105)])), h)
  | .bool false =>
  thenV (pu (bin Try.prog .add 3 (x 84) (.int .i64 1)) h) fun y105 h =>
  thenV (some (y105, h)) fun y84 h =>
  some (.normal, (mkF 131 (up x [(11, y11), (12, y12), (13, y13), (84, y84), (85, y85), (86, y86), (87, y87), (88, y88), (89, y89), (90, y90), (91, y91), (92, y92), (93, y93), (94, y94), (105, y105)])), h)
  | _ => none)
  | .bool false =>
  some (.exit 2, (mkF 131 (up x [(85, y85)])), h)
  | _ => none)
theorem t21_eq (C : CallF) (x0 : Value) (h : Heap) : bodyK Try.prog C Try.f21 [x0] h = t21 C x0 h :=
  (bodyB_eq Try.prog C Try.f21 [x0] h (by kernel_rfl)).trans (by kernel_rfl)
theorem t21k21_7_eq (C : CallF) (x : Nat → Value) (h : Heap) : k21_7 C (mkF 131 x) h = t21k21_7 C x h :=
  link_partF (b := (partOf Try.f21 [1, 1, 1, 1, 1])) (kE := (resultsA Try.prog Try.f21.results.toList)) (rE := (resultsA Try.prog Try.f21.results.toList)) (xE := (fun _ _ _ => none)) (T := t21k21_7 C) (fun x h => by kernel_rfl) x h
theorem t21l21_1111010_eq (C : CallF) (x : Nat → Value) (h : Heap) : codeA Try.prog C (partOf Try.f21 [1, 1, 1, 1, 0, 1, 0, 0]) (mkF 131 x) h = t21l21_1111010 C x h :=
  link_roundF (T := t21l21_1111010 C) (fun x h => by kernel_rfl) x h
theorem t21k21_11_eq (C : CallF) (x : Nat → Value) (h : Heap) : k21_11 C (mkF 131 x) h = t21k21_11 C x h :=
  link_partF (b := (partOf Try.f21 [1, 1, 1, 1, 1, 1, 1])) (kE := (resultsA Try.prog Try.f21.results.toList)) (rE := (resultsA Try.prog Try.f21.results.toList)) (xE := (fun _ _ _ => none)) (T := t21k21_11 C) (fun x h => by kernel_rfl) x h
theorem t21l21_111111010_eq (C : CallF) (x : Nat → Value) (h : Heap) : codeA Try.prog C (partOf Try.f21 [1, 1, 1, 1, 1, 1, 0, 1, 0, 0]) (mkF 131 x) h = t21l21_111111010 C x h :=
  link_roundF (T := t21l21_111111010 C) (fun x h => by kernel_rfl) x h
theorem t21k21_16_eq (C : CallF) (x : Nat → Value) (h : Heap) : k21_16 C (mkF 131 x) h = t21k21_16 C x h :=
  link_partF (b := (partOf Try.f21 [1, 1, 1, 1, 0, 1, 0, 0, 1, 1, 1])) (kE := (fun e h => some (Ex.normal, e, h))) (rE := (fun e h => some (Ex.ret, e, h))) (xE := (fun i e h => some (Ex.exit i, e, h))) (T := t21k21_16 C) (fun x h => by kernel_rfl) x h
theorem t21l21_1111010011001110_eq (C : CallF) (x : Nat → Value) (h : Heap) : codeA Try.prog C (partOf Try.f21 [1, 1, 1, 1, 0, 1, 0, 0, 1, 1, 0, 0, 1, 1, 1, 0, 0]) (mkF 131 x) h = t21l21_1111010011001110 C x h :=
  link_roundF (T := t21l21_1111010011001110 C) (fun x h => by kernel_rfl) x h

noncomputable def k23_6 (C : CallF) (e : Env) (h : Heap) : Out := codeK Try.prog C (partOf Try.f23 [1, 1, 1, 1]) e h (resultsA Try.prog Try.f23.results.toList) (resultsA Try.prog Try.f23.results.toList) (fun _ _ _ => none)
noncomputable def b23_8 (C : CallF) (i : Nat) (e : Env) (h : Heap) : Out := if i = 0 then (k23_6 C) e h else (fun _ _ _ => none) i e h
noncomputable def k23_16 (C : CallF) (e : Env) (h : Heap) : Out := codeK Try.prog C (partOf Try.f23 [1, 1, 1, 1, 1, 1, 1, 1, 1]) e h (resultsA Try.prog Try.f23.results.toList) (resultsA Try.prog Try.f23.results.toList) (fun _ _ _ => none)
noncomputable def b23_18 (C : CallF) (i : Nat) (e : Env) (h : Heap) : Out := if i = 2 then (k23_16 C) e h else (fun _ _ _ => none) i e h
/-- (*stolon/disk.Journal).Rewrite -/
noncomputable def t23 (C : CallF) (x0 x1 : Value) (h : Heap) : Out :=
  thenV (some ((.slice none 0 0), h)) fun y4 h =>
  thenV (some ((.int .i64 0), h)) fun y5 h =>
  thenV (some (x0, h)) fun y21 h =>
  thenV (C 58 [y21] h) fun y22 h =>
  thenV (some (y22, h)) fun y6 h =>
  thenV (some (y6, h)) fun y23 h =>
  thenV (pu (bin Try.prog .neq 28 y23 (.int .i64 0)) h) fun y24 h =>
  (match y24 with
  | .bool true =>
  thenV (some (y6, h)) fun y25 h =>
  thenV (some ((.slice none 0 0), h)) fun y4_1 h =>
  thenV (some (y25, h)) fun y5_1 h =>
  some (.tuple #[y4_1, y5_1], h)
  | .bool false =>
  thenV (some ((.int .i64 0), h)) fun y7 h =>
  thenV (some ((.bool false), h)) fun y8 h =>
  thenV (some (x1, h)) fun y26 h =>
  thenV (pu (lenL y26) h) fun y27 h =>
  thenV (some ((.int .i64 0), h)) fun y28 h =>
  endL (iter (codeA Try.prog C (partOf Try.f23 [1, 1, 1, 0, 1, 0, 0])) rounds (mkF 151 (up (bs [x0, x1]) [(4, y4), (5, y5), (6, y6), (7, y7), (8, y8), (21, y21), (22, y22), (23, y23), (24, y24), (26, y26), (27, y27), (28, y28)])) h) (resultsA Try.prog Try.f23.results.toList) (b23_8 C)
  | _ => none)
noncomputable def t23k23_6 (C : CallF) (x : Nat → Value) (h : Heap) : Out :=
  thenV (some ((x 8), h)) fun y52 h =>
  thenV (some (y52, h)) fun y53 h =>
  thenV (guardK (bOf y53 == some false) (some ((x 0), h)) h) fun y54 h =>
  thenV (guardK (bOf y53 == some false) (pu (nilCheckA y54) h) h) fun y55 h =>
  thenV (guardK (bOf y53 == some false) (pu (addP y55 5) h) h) fun y56 h =>
  thenV (guardK (bOf y53 == some false) (ld1 y56 h) h) fun y57 h =>
  thenV (guardK (bOf y53 == some false) (pu (bin Try.prog .eql 58 y57 (.int .u64 18446744073709551615)) h) h) fun y58 h =>
  thenV (match y53 with | .bool t => some (if t then (.bool true) else y58, h) | _ => none) fun y59 h =>
  (match y59 with
  | .bool true =>
  thenV (some ((.slice none 0 0), h)) fun y4 h =>
  thenV (some ((.int .i64 8), h)) fun y5 h =>
  some (.tuple #[y4, y5], h)
  | .bool false =>
  thenV (some ((x 0), h)) fun y60 h =>
  thenV (pu (nilCheckA y60) h) fun y61 h =>
  thenV (pu (addP y61 5) h) fun y62 h =>
  thenV (ld1 y62 h) fun y63 h =>
  thenV (pu (bin Try.prog .add 58 y63 (.int .u64 1)) h) fun y64 h =>
  thenV (some ((.int .i64 0), h)) fun y11 h =>
  thenV (some ((.int .i64 0), h)) fun y12 h =>
  thenV (some (y64, h)) fun y13 h =>
  thenV (some ((x 0), h)) fun y65 h =>
  thenV (pu (nilCheckA y65) h) fun y66 h =>
  thenV (pu (addP y66 2) h) fun y67 h =>
  thenV (ld1 y67 h) fun y68 h =>
  thenV (pu (bin Try.prog .geq 3 y68 (.int .i64 0)) h) fun y69 h =>
  (match y69 with
  | .bool true =>
  thenV (some ((x 0), h)) fun y70 h =>
  thenV (pu (nilCheckA y70) h) fun y71 h =>
  thenV (pu (addP y71 3) h) fun y72 h =>
  thenV (ld1 y72 h) fun y73 h =>
  thenV (pu (bin Try.prog .sub 3 (.int .i64 1) y73) h) fun y74 h =>
  thenV (some ((x 0), h)) fun y75 h =>
  thenV (pu (nilCheckA y75) h) fun y76 h =>
  thenV (pu (addP y76 2) h) fun y77 h =>
  thenV (ld1 y77 h) fun y78 h =>
  thenV (pu (bin Try.prog .sub 3 (.int .i64 1) y78) h) fun y79 h =>
  thenV (some (y74, h)) fun y11_1 h =>
  thenV (some (y79, h)) fun y12_1 h =>
  thenV (bslR 1 (.int .i64 0) 0 [] h) fun y80 h =>
  thenV (some ((.int .i64 0), h)) fun y14 h =>
  thenV (some (y80, h)) fun y15 h =>
  thenV (some ((x 1), h)) fun y81 h =>
  thenV (pu (lenL y81) h) fun y82 h =>
  thenV (some ((.int .i64 0), h)) fun y83 h =>
  endL (iter (codeA Try.prog C (partOf Try.f23 [1, 1, 1, 1, 1, 1, 1, 1, 0, 1, 0, 0])) rounds (mkF 151 (up x [(11, y11_1), (12, y12_1), (13, y13), (14, y14), (15, y15), (52, y52), (53, y53), (54, y54), (55, y55), (56, y56), (57, y57), (58, y58), (59, y59), (60, y60), (61, y61), (62, y62), (63, y63), (64, y64), (65, y65), (66, y66), (67, y67), (68, y68), (69, y69), (70, y70), (71, y71), (72, y72), (73, y73), (74, y74), (75, y75), (76, y76), (77, y77), (78, y78), (79, y79), (80, y80), (81, y81), (82, y82), (83, y83)])) h) (resultsA Try.prog Try.f23.results.toList) (b23_18 C)
  | .bool false =>
  thenV (bslR 1 (.int .i64 0) 0 [] h) fun y80 h =>
  thenV (some ((.int .i64 0), h)) fun y14 h =>
  thenV (some (y80, h)) fun y15 h =>
  thenV (some ((x 1), h)) fun y81 h =>
  thenV (pu (lenL y81) h) fun y82 h =>
  thenV (some ((.int .i64 0), h)) fun y83 h =>
  endL (iter (codeA Try.prog C (partOf Try.f23 [1, 1, 1, 1, 1, 1, 1, 1, 0, 1, 0, 0])) rounds (mkF 151 (up x [(11, y11), (12, y12), (13, y13), (14, y14), (15, y15), (52, y52), (53, y53), (54, y54), (55, y55), (56, y56), (57, y57), (58, y58), (59, y59), (60, y60), (61, y61), (62, y62), (63, y63), (64, y64), (65, y65), (66, y66), (67, y67), (68, y68), (69, y69), (80, y80), (81, y81), (82, y82), (83, y83)])) h) (resultsA Try.prog Try.f23.results.toList) (b23_18 C)
  | _ => none)
  | _ => none)
noncomputable def t23l23_111010 (C : CallF) (x : Nat → Value) (h : Heap) : Option (Ex × Env × Heap) :=
  thenV (pu (bin Try.prog .lss 3 (x 28) (x 27)) h) fun y29 h =>
  (match y29 with
  | .bool true =>
  thenV (pu (idxS 1 (x 26) (x 28)) h) fun y30 h =>
  thenV (ld1 y30 h) fun y31 h =>
  thenV (some (y31, h)) fun y10 h =>
  thenV (some (y10, h)) fun y32 h =>
  thenV (pu (lenL y32) h) fun y33 h =>
  thenV (pu (bin Try.prog .gtr 3 y33 (.int .i64 20000)) h) fun y34 h =>
  (match y34 with
  | .bool true =>
  thenV (some ((.slice none 0 0), h)) fun y4 h =>
  thenV (some ((.int .i64 3), h)) fun y5 h =>
  some (.ret, (mkF 151 (up x [(4, y4), (5, y5), (10, y10), (29, y29), (30, y30), (31, y31), (32, y32), (33, y33), (34, y34)])), h)
  | .bool false =>
  thenV (some ((x 7), h)) fun y35 h =>
  thenV (some (y10, h)) fun y36 h =>
  thenV (pu (lenL y36) h) fun y37 h =>
  thenV (C 15 [y37] h) fun y38 h =>
  thenV (pu (bin Try.prog .add 3 y35 y38) h) fun y39 h =>
  thenV (pu (minmax false y39 [(.int .i64 4096)]) h) fun y40 h =>
  thenV (some (y40, h)) fun y7 h =>
  thenV (some ((x 8), h)) fun y41 h =>
  thenV (some (y41, h)) fun y42 h =>
  thenV (guardK (bOf y42 == some false) (some (y7, h)) h) fun y43 h =>
  thenV (guardK (bOf y42 == some false) (some ((x 0), h)) h) fun y44 h =>
  thenV (guardK (bOf y42 == some false) (pu (nilCheckA y44) h) h) fun y45 h =>
  thenV (guardK (bOf y42 == some false) (pu (addP y45 0) h) h) fun y46 h =>
  thenV (guardK (bOf y42 == some false) (ld1 y46 h) h) fun y47 h =>
  thenV (guardK (bOf y42 == some false) (C 55 [y47] h) h) fun y48 h =>
  thenV (guardK (bOf y42 == some false) (pu (bin Try.prog .gtr 3 y43 y48) h) h) fun y49 h =>
  thenV (match y42 with | .bool t => some (if t then (.bool true) else y49, h) | _ => none) fun y50 h =>
  thenV (some (y50, h)) fun y8 h =>
  thenV (pu (bin Try.prog .add 3 (x 28) (.int .i64 1)) h) fun y51 h =>
  thenV (some (y51, h)) fun y28 h =>
  some (.normal, (mkF 151 (up x [(7, y7), (8, y8), (10, y10), (28, y28), (29, y29), (30, y30), (31, y31), (32, y32), (33, y33), (34, y34), (35, y35), (36, y36), (37, y37), (38, y38), (39, y39), (40, y40), (41, y41), (42, y42), (43, y43), (44, y44), (45, y45), (46, y46), (47, y47), (48, y48), (49, y49), (50, y50), (51, y51)])), h)
  | _ => none)
  | .bool false =>
  some (.exit 0, (mkF 151 (up x [(29, y29)])), h)
  | _ => none)
noncomputable def t23k23_16 (C : CallF) (x : Nat → Value) (h : Heap) : Out :=
  thenV (C 60 [(.int .i64 124)] h) fun y106 h =>
  thenV (some (y106, h)) fun y19 h =>
  thenV (some (y19, h)) fun y107 h =>
  thenV (C 61 [y107, (.int .u32 1398034252)] h) fun y108 h =>
  thenV (some (y19, h)) fun y109 h =>
  thenV (some ((x 13), h)) fun y110 h =>
  thenV (C 62 [y109, y110] h) fun y111 h =>
  thenV (some (y19, h)) fun y112 h =>
  thenV (some ((x 11), h)) fun y113 h =>
  thenV (cvI .u8 y113 h) fun y114 h =>
  thenV (C 63 [y112, y114] h) fun y115 h =>
  let g34_0 := h
  thenV (some ((x 0), g34_0)) fun y116 g34_1 =>
  thenV (pu (nilCheckA y116) g34_1) fun y117 g34_2 =>
  thenV (pu (addP y117 0) g34_2) fun y118 g34_3 =>
  thenV (ld1 y118 g34_3) fun y119 g34_4 =>
  thenV (some ((x 12), g34_4)) fun y120 g34_5 =>
  thenV (some (y19, g34_5)) fun y121 g34_6 =>
  thenV (C 64 [y121] g34_6) fun y122 g34_7 =>
  thenV (C 19 [y119, y120, y122] g34_7) fun y123 g34_8 =>
  thenV (some (y123, g34_8)) fun y20 g34_9 =>
  (match (chkR true (ld1 y118 g34_7) y119 && true) with
  | true =>
  let h := g34_9
  thenV (some (y20, h)) fun y124 h =>
  thenV (pu (bin Try.prog .neq 28 y124 (.int .i64 0)) h) fun y125 h =>
  (match y125 with
  | .bool true =>
  thenV (some (y20, h)) fun y126 h =>
  thenV (some ((.slice none 0 0), h)) fun y4 h =>
  thenV (some (y126, h)) fun y5 h =>
  some (.tuple #[y4, y5], h)
  | .bool false =>
  thenV (some ((x 0), h)) fun y127 h =>
  thenV (some ((x 0), h)) fun y128 h =>
  thenV (some ((x 0), h)) fun y129 h =>
  thenV (some ((x 0), h)) fun y130 h =>
  thenV (some ((x 0), h)) fun y131 h =>
  thenV (some ((x 0), h)) fun y132 h =>
  thenV (some ((x 12), h)) fun y133 h =>
  thenV (some ((x 11), h)) fun y134 h =>
  thenV (some ((x 13), h)) fun y135 h =>
  thenV (some ((x 13), h)) fun y136 h =>
  thenV (some ((x 14), h)) fun y137 h =>
  thenV (pu (nilCheckA y127) h) fun y138 h =>
  thenV (pu (addP y138 2) h) fun y139 h =>
  thenV (stN 1 y139 y133 h) fun _ h =>
  thenV (pu (nilCheckA y128) h) fun y140 h =>
  thenV (pu (addP y140 3) h) fun y141 h =>
  thenV (stN 1 y141 y134 h) fun _ h =>
  thenV (pu (nilCheckA y129) h) fun y142 h =>
  thenV (pu (addP y142 4) h) fun y143 h =>
  thenV (stN 1 y143 y135 h) fun _ h =>
  thenV (pu (nilCheckA y130) h) fun y144 h =>
  thenV (pu (addP y144 5) h) fun y145 h =>
  thenV (stN 1 y145 y136 h) fun _ h =>
  thenV (pu (nilCheckA y131) h) fun y146 h =>
  thenV (pu (addP y146 6) h) fun y147 h =>
  thenV (stN 1 y147 (.bool true) h) fun _ h =>
  thenV (pu (nilCheckA y132) h) fun y148 h =>
  thenV (pu (addP y148 7) h) fun y149 h =>
  thenV (stN 1 y149 y137 h) fun _ h =>
  thenV (some ((x 15), h)) fun y150 h =>
  thenV (some (y150, h)) fun y4 h =>
  thenV (some ((.int .i64 0), h)) fun y5 h =>
  some (.tuple #[y4, y5], h)
  | _ => none)
  | false => none)
noncomputable def t23l23_11111111010 (C : CallF) (x : Nat → Value) (h : Heap) : Option (Ex × Env × Heap) :=
  thenV (pu (bin Try.prog .lss 3 (x 83) (x 82)) h) fun y84 h =>
  (match y84 with
  | .bool true =>
  thenV (pu (idxS 1 (x 81) (x 83)) h) fun y85 h =>
  thenV (ld1 y85 h) fun y86 h =>
  thenV (some (y86, h)) fun y17 h =>
  thenV (some ((x 0), h)) fun y87 h =>
  thenV (some ((x 11), h)) fun y88 h =>
  thenV (some ((x 13), h)) fun y89 h =>
  thenV (some ((x 14), h)) fun y90 h =>
  thenV (some (y17, h)) fun y91 h =>
  thenV (C 59 [y87, y88, y89, y90, y91] h) fun y92 h =>
  thenV (some (y92, h)) fun y18 h =>
  thenV (some (y18, h)) fun y93 h =>
  thenV (pu (bin Try.prog .neq 28 y93 (.int .i64 0)) h) fun y94 h =>
  (match y94 with
  | .bool true =>
  thenV (some (y18, h)) fun y95 h =>
  thenV (some ((.slice none 0 0), h)) fun y4 h =>
  thenV (some (y95, h)) fun y5 h =>
  some (.ret, (mkF 151 (up x [(4, y4), (5, y5), (17, y17), (18, y18), (84, y84), (85, y85), (86, y86), (87, y87), (88, y88), (89, y89), (90, y90), (91, y91), (92, y92), (93, y93), (94, y94), (95, y95)])), h)
  | .bool false =>
  thenV (some ((x 15), h)) fun y96 h =>
  thenV (some ((x 14), h)) fun y97 h =>
  thenV (bslR 1 (.int .i64 0) 1 [(0, y97)] h) fun y98 h =>
  thenV (appendA 1 8 y96 y98 h) fun y99 h =>
  thenV (some (y99, h)) fun y15 h =>
  thenV (some ((x 14), h)) fun y100 h =>
  thenV (some (y17, h)) fun y101 h =>
  thenV (pu (lenL y101) h) fun y102 h =>
  thenV (C 15 [y102] h) fun y103 h =>
  thenV (pu (bin Try.prog .add 3 y100 y103) h) fun y104 h =>
  thenV (some (y104, h)) fun y14 h =>
  thenV (pu (bin Try.prog .add 3 (x 83) (.int .i64 1)) h) fun y105 h =>
  thenV (some (y105, h)) fun y83 h =>
  some (.normal, (mkF 151 (up x [(14, y14), (15, y15), (17, y17), (18, y18), (83, y83), (84, y84), (85, y85), (86, y86), (87, y87), (88, y88), (89, y89), (90, y90), (91, y91), (92, y92), (93, y93), (94, y94), (96, y96), (97, y97), (98, y98), (99, y99), (100, y100), (101, y101), (102, y102), (103, y103), (104, y104), (105, y105)])), h)
  | _ => none)
  | .bool false =>
  some (.exit 2, (mkF 151 (up x [(84, y84)])), h)
  | _ => none)
theorem t23_eq (C : CallF) (x0 x1 : Value) (h : Heap) : bodyK Try.prog C Try.f23 [x0, x1] h = t23 C x0 x1 h :=
  (bodyB_eq Try.prog C Try.f23 [x0, x1] h (by kernel_rfl)).trans (by kernel_rfl)
theorem t23k23_6_eq (C : CallF) (x : Nat → Value) (h : Heap) : k23_6 C (mkF 151 x) h = t23k23_6 C x h :=
  link_partF (b := (partOf Try.f23 [1, 1, 1, 1])) (kE := (resultsA Try.prog Try.f23.results.toList)) (rE := (resultsA Try.prog Try.f23.results.toList)) (xE := (fun _ _ _ => none)) (T := t23k23_6 C) (fun x h => by kernel_rfl) x h
theorem t23l23_111010_eq (C : CallF) (x : Nat → Value) (h : Heap) : codeA Try.prog C (partOf Try.f23 [1, 1, 1, 0, 1, 0, 0]) (mkF 151 x) h = t23l23_111010 C x h :=
  link_roundF (T := t23l23_111010 C) (fun x h => by kernel_rfl) x h
theorem t23k23_16_eq (C : CallF) (x : Nat → Value) (h : Heap) : k23_16 C (mkF 151 x) h = t23k23_16 C x h :=
  link_partF (b := (partOf Try.f23 [1, 1, 1, 1, 1, 1, 1, 1, 1])) (kE := (resultsA Try.prog Try.f23.results.toList)) (rE := (resultsA Try.prog Try.f23.results.toList)) (xE := (fun _ _ _ => none)) (T := t23k23_16 C) (fun x h => by kernel_rfl) x h
theorem t23l23_11111111010_eq (C : CallF) (x : Nat → Value) (h : Heap) : codeA Try.prog C (partOf Try.f23 [1, 1, 1, 1, 1, 1, 1, 1, 0, 1, 0, 0]) (mkF 151 x) h = t23l23_11111111010 C x h :=
  link_roundF (T := t23l23_11111111010 C) (fun x h => by kernel_rfl) x h

/-- (*stolon/disk.Journal).Append -/
noncomputable def t27 (C : CallF) (x0 x1 : Value) (h : Heap) : Out :=
  thenV (some ((.int .i64 0), h)) fun y4 h =>
  thenV (some ((.int .i64 0), h)) fun y5 h =>
  thenV (some (x0, h)) fun y9 h =>
  thenV (C 58 [y9] h) fun y10 h =>
  thenV (some (y10, h)) fun y6 h =>
  thenV (some (y6, h)) fun y11 h =>
  thenV (pu (bin Try.prog .neq 28 y11 (.int .i64 0)) h) fun y12 h =>
  (match y12 with
  | .bool true =>
  thenV (some (y6, h)) fun y13 h =>
  thenV (some ((.int .i64 0), h)) fun y4_1 h =>
  thenV (some (y13, h)) fun y5_1 h =>
  some (.tuple #[y4_1, y5_1], h)
  | .bool false =>
  thenV (some (x0, h)) fun y15 h =>
  thenV (pu (nilCheckA y15) h) fun y16 h =>
  thenV (pu (addP y16 6) h) fun y17 h =>
  thenV (ld1 y17 h) fun y18 h =>
  thenV (pu (unA .not y18) h) fun y19 h =>
  thenV (some (y19, h)) fun y14 h =>
  (match y14 with
  | .bool true =>
  thenV (some ((.int .i64 0), h)) fun y4_1 h =>
  thenV (some ((.int .i64 30), h)) fun y5_1 h =>
  some (.tuple #[y4_1, y5_1], h)
  | .bool false =>
  thenV (some (x1, h)) fun y21 h =>
  thenV (pu (lenL y21) h) fun y22 h =>
  thenV (pu (bin Try.prog .gtr 3 y22 (.int .i64 20000)) h) fun y23 h =>
  thenV (some (y23, h)) fun y20 h =>
  (match y20 with
  | .bool true =>
  thenV (some ((.int .i64 0), h)) fun y4_1 h =>
  thenV (some ((.int .i64 3), h)) fun y5_1 h =>
  some (.tuple #[y4_1, y5_1], h)
  | .bool false =>
  thenV (some (x1, h)) fun y25 h =>
  thenV (pu (lenL y25) h) fun y26 h =>
  thenV (C 15 [y26] h) fun y27 h =>
  thenV (some (x0, h)) fun y28 h =>
  thenV (C 26 [y28] h) fun y29 h =>
  thenV (pu (bin Try.prog .gtr 3 y27 y29) h) fun y30 h =>
  thenV (some (y30, h)) fun y24 h =>
  (match y24 with
  | .bool true =>
  thenV (some ((.int .i64 0), h)) fun y4_1 h =>
  thenV (some ((.int .i64 8), h)) fun y5_1 h =>
  some (.tuple #[y4_1, y5_1], h)
  | .bool false =>
  thenV (some (x0, h)) fun y31 h =>
  thenV (pu (nilCheckA y31) h) fun y32 h =>
  thenV (pu (addP y32 7) h) fun y33 h =>
  thenV (ld1 y33 h) fun y34 h =>
  thenV (some (y34, h)) fun y7 h =>
  thenV (some (x0, h)) fun y35 h =>
  thenV (some (x0, h)) fun y36 h =>
  thenV (pu (nilCheckA y36) h) fun y37 h =>
  thenV (pu (addP y37 3) h) fun y38 h =>
  thenV (ld1 y38 h) fun y39 h =>
  thenV (some (x0, h)) fun y40 h =>
  thenV (pu (nilCheckA y40) h) fun y41 h =>
  thenV (pu (addP y41 4) h) fun y42 h =>
  thenV (ld1 y42 h) fun y43 h =>
  thenV (some (y7, h)) fun y44 h =>
  thenV (some (x1, h)) fun y45 h =>
  thenV (C 59 [y35, y39, y43, y44, y45] h) fun y46 h =>
  thenV (some (y46, h)) fun y8 h =>
  thenV (some (y8, h)) fun y47 h =>
  thenV (pu (bin Try.prog .neq 28 y47 (.int .i64 0)) h) fun y48 h =>
  (match y48 with
  | .bool true =>
  thenV (some (y8, h)) fun y49 h =>
  thenV (some ((.int .i64 0), h)) fun y4_1 h =>
  thenV (some (y49, h)) fun y5_1 h =>
  some (.tuple #[y4_1, y5_1], h)
  | .bool false =>
  let g19_0 := h
  thenV (some (x0, g19_0)) fun y50 g19_1 =>
  thenV (pu (nilCheckA y50) g19_1) fun y51 g19_2 =>
  thenV (pu (addP y51 7) g19_2) fun y52 g19_3 =>
  thenV (ld1 y52 g19_3) fun y53 g19_4 =>
  thenV (some (x1, g19_4)) fun y54 g19_5 =>
  thenV (pu (lenL y54) g19_5) fun y55 g19_6 =>
  thenV (C 15 [y55] g19_6) fun y56 g19_7 =>
  thenV (pu (bin Try.prog .add 3 y53 y56) g19_7) fun y57 g19_8 =>
  thenV (pu (nilCheckA y50) g19_8) fun y58 g19_9 =>
  thenV (pu (addP y58 7) g19_9) fun y59 g19_10 =>
  thenV (stN 1 y59 y57 g19_10) fun _ g19_11 =>
  (match (chkR true (ld1 y52 g19_7) y53 && true) with
  | true =>
  let h := g19_11
  thenV (some (y7, h)) fun y60 h =>
  thenV (some (y60, h)) fun y4_1 h =>
  thenV (some ((.int .i64 0), h)) fun y5_1 h =>
  some (.tuple #[y4_1, y5_1], h)
  | false => none)
  | _ => none)
  | _ => none)
  | _ => none)
  | _ => none)
  | _ => none)
theorem t27_eq (C : CallF) (x0 x1 : Value) (h : Heap) : bodyK Try.prog C Try.f27 [x0, x1] h = t27 C x0 x1 h :=
  (bodyB_eq Try.prog C Try.f27 [x0, x1] h (by kernel_rfl)).trans (by kernel_rfl)

/-- (*stolon/disk.Journal).ReadAt -/
noncomputable def t28 (C : CallF) (x0 x1 : Value) (h : Heap) : Out :=
  thenV (some ((.slice none 0 0), h)) fun y4 h =>
  thenV (some ((.int .i64 0), h)) fun y5 h =>
  thenV (some (x0, h)) fun y9 h =>
  thenV (C 58 [y9] h) fun y10 h =>
  thenV (some (y10, h)) fun y6 h =>
  thenV (some (y6, h)) fun y11 h =>
  thenV (pu (bin Try.prog .neq 28 y11 (.int .i64 0)) h) fun y12 h =>
  (match y12 with
  | .bool true =>
  thenV (some (y6, h)) fun y13 h =>
  thenV (some ((.slice none 0 0), h)) fun y4_1 h =>
  thenV (some (y13, h)) fun y5_1 h =>
  some (.tuple #[y4_1, y5_1], h)
  | .bool false =>
  thenV (some (x0, h)) fun y15 h =>
  thenV (some (x1, h)) fun y16 h =>
  thenV (C 57 [y15, y16] h) fun y17 h =>
  thenV (some (y17, h)) fun y14 h =>
  thenV (pu (extractA y14 0) h) fun y18 h =>
  thenV (pu (extractA y14 1) h) fun y19 h =>
  thenV (some (y18, h)) fun y7 h =>
  thenV (some (y19, h)) fun y8 h =>
  thenV (some (y8, h)) fun y20 h =>
  thenV (pu (bin Try.prog .eql 3 y20 (.int .i64 0)) h) fun y21 h =>
  (match y21 with
  | .bool true =>
  thenV (some ((.slice none 0 0), h)) fun y4_1 h =>
  thenV (some ((.int .i64 6), h)) fun y5_1 h =>
  some (.tuple #[y4_1, y5_1], h)
  | .bool false =>
  thenV (some (y7, h)) fun y22 h =>
  thenV (some (y22, h)) fun y4_1 h =>
  thenV (some ((.int .i64 0), h)) fun y5_1 h =>
  some (.tuple #[y4_1, y5_1], h)
  | _ => none)
  | _ => none)
theorem t28_eq (C : CallF) (x0 x1 : Value) (h : Heap) : bodyK Try.prog C Try.f28 [x0, x1] h = t28 C x0 x1 h :=
  (bodyB_eq Try.prog C Try.f28 [x0, x1] h (by kernel_rfl)).trans (by kernel_rfl)

noncomputable def k59_2 (C : CallF) (e : Env) (h : Heap) : Out := codeK Try.prog C (partOf Try.f59 [1, 1, 1]) e h (resultsA Try.prog Try.f59.results.toList) (resultsA Try.prog Try.f59.results.toList) (fun _ _ _ => none)
noncomputable def b59_4 (C : CallF) (i : Nat) (e : Env) (h : Heap) : Out := if i = 0 then (k59_2 C) e h else (fun _ _ _ => none) i e h
/-- (*stolon/disk.Journal).write -/
noncomputable def t59 (C : CallF) (x0 x1 x2 x3 x4 : Value) (h : Heap) : Out :=
  thenV (some ((.int .i64 0), h)) fun y10 h =>
  thenV (some (x4, h)) fun y16 h =>
  thenV (pu (lenL y16) h) fun y17 h =>
  thenV (C 15 [y17] h) fun y18 h =>
  thenV (some (y18, h)) fun y11 h =>
  thenV (some (y11, h)) fun y19 h =>
  thenV (some ((.int .i64 0), h)) fun y20 h =>
  endL (iter (codeA Try.prog C (partOf Try.f59 [1, 1, 0, 1, 0, 0])) rounds (mkF 77 (up (bs [x0, x1, x2, x3, x4]) [(10, y10), (11, y11), (16, y16), (17, y17), (18, y18), (19, y19), (20, y20)])) h) (resultsA Try.prog Try.f59.results.toList) (b59_4 C)
noncomputable def t59k59_2 (C : CallF) (x : Nat → Value) (h : Heap) : Out :=
  thenV (some ((.int .i64 0), h)) fun y10 h =>
  some (y10, h)
noncomputable def t59l59_11010 (C : CallF) (x : Nat → Value) (h : Heap) : Option (Ex × Env × Heap) :=
  thenV (pu (bin Try.prog .lss 3 (x 20) (x 19)) h) fun y21 h =>
  (match y21 with
  | .bool true =>
  thenV (some ((x 20), h)) fun y22 h =>
  thenV (some (y22, h)) fun y12 h =>
  thenV (some ((x 4), h)) fun y23 h =>
  thenV (some (y12, h)) fun y24 h =>
  thenV (pu (bin Try.prog .mul 3 y24 (.int .i64 106)) h) fun y25 h =>
  thenV (some ((x 4), h)) fun y26 h =>
  thenV (pu (lenL y26) h) fun y27 h =>
  thenV (some (y12, h)) fun y28 h =>
  thenV (pu (bin Try.prog .add 3 y28 (.int .i64 1)) h) fun y29 h =>
  thenV (pu (bin Try.prog .mul 3 y29 (.int .i64 106)) h) fun y30 h =>
  thenV (pu (minmax false y27 [y30]) h) fun y31 h =>
  thenV (pu (slR 1 y23 (some y25) (some y31) none) h) fun y32 h =>
  thenV (some (y32, h)) fun y13 h =>
  thenV (C 60 [(.int .i64 124)] h) fun y33 h =>
  thenV (some (y33, h)) fun y14 h =>
  thenV (some (y14, h)) fun y34 h =>
  thenV (some ((x 2), h)) fun y35 h =>
  thenV (C 62 [y34, y35] h) fun y36 h =>
  thenV (some (y14, h)) fun y37 h =>
  thenV (some ((x 3), h)) fun y38 h =>
  thenV (some (y12, h)) fun y39 h =>
  thenV (pu (bin Try.prog .add 3 y38 y39) h) fun y40 h =>
  thenV (cvI .u32 y40 h) fun y41 h =>
  thenV (C 61 [y37, y41] h) fun y42 h =>
  thenV (some (y14, h)) fun y43 h =>
  thenV (some (y12, h)) fun y44 h =>
  thenV (cvI .u16 y44 h) fun y45 h =>
  thenV (C 91 [y43, y45] h) fun y46 h =>
  thenV (some (y14, h)) fun y47 h =>
  thenV (some ((x 11), h)) fun y48 h =>
  thenV (cvI .u16 y48 h) fun y49 h =>
  thenV (C 91 [y47, y49] h) fun y50 h =>
  thenV (some (y14, h)) fun y51 h =>
  thenV (some (y13, h)) fun y52 h =>
  thenV (C 92 [y51, y52] h) fun y53 h =>
  let g19_0 := h
  thenV (some ((x 0), g19_0)) fun y54 g19_1 =>
  thenV (pu (nilCheckA y54) g19_1) fun y55 g19_2 =>
  thenV (pu (addP y55 0) g19_2) fun y56 g19_3 =>
  thenV (ld1 y56 g19_3) fun y57 g19_4 =>
  thenV (some ((x 1), g19_4)) fun y58 g19_5 =>
  thenV (some ((x 0), g19_5)) fun y59 g19_6 =>
  thenV (pu (nilCheckA y59) g19_6) fun y60 g19_7 =>
  thenV (pu (addP y60 0) g19_7) fun y61 g19_8 =>
  thenV (ld1 y61 g19_8) fun y62 g19_9 =>
  thenV (C 55 [y62] g19_9) fun y63 g19_10 =>
  thenV (pu (bin Try.prog .mul 3 y58 y63) g19_10) fun y64 g19_11 =>
  thenV (pu (bin Try.prog .add 3 (.int .i64 2) y64) g19_11) fun y65 g19_12 =>
  thenV (some ((x 3), g19_12)) fun y66 g19_13 =>
  thenV (pu (bin Try.prog .add 3 y65 y66) g19_13) fun y67 g19_14 =>
  thenV (some (y12, g19_14)) fun y68 g19_15 =>
  thenV (pu (bin Try.prog .add 3 y67 y68) g19_15) fun y69 g19_16 =>
  thenV (some (y14, g19_16)) fun y70 g19_17 =>
  thenV (C 64 [y70] g19_17) fun y71 g19_18 =>
  thenV (C 19 [y57, y69, y71] g19_18) fun y72 g19_19 =>
  thenV (some (y72, g19_19)) fun y15 g19_20 =>
  (match (chkR true (ld1 y56 g19_10) y57 && (chkR true (ld1 y56 g19_18) y57 && true)) with
  | true =>
  let h := g19_20
  thenV (some (y15, h)) fun y73 h =>
  thenV (pu (bin Try.prog .neq 28 y73 (.int .i64 0)) h) fun y74 h =>
  (match y74 with
  | .bool true =>
  thenV (some (y15, h)) fun y75 h =>
  thenV (some (y75, h)) fun y10 h =>
  some (.ret, (mkF 77 (up x [(10, y10), (12, y12), (13, y13), (14, y14), (15, y15), (21, y21), (22, y22), (23, y23), (24, y24), (25, y25), (26, y26), (27, y27), (28, y28), (29, y29), (30, y30), (31, y31), (32, y32), (33, y33), (34, y34), (35, y35), (36, y36), (37, y37), (38, y38), (39, y39), (40, y40), (41, y41), (42, y42), (43, y43), (44, y44), (45, y45), (46, y46), (47, y47), (48, y48), (49, y49), (50, y50), (51, y51), (52, y52), (53, y53), (54, y54), (55, y55), (56, y56), (57, y57), (58, y58), (59, y59), (60, y60), (61, y61), (62, y62), (63, y63), (64, y64), (65, y65), (66, y66), (67, y67), (68, y68), (69, y69), (70, y70), (71, y71), (72, y72), (73, y73), (74, y74), (75, y75)])), h)
  | .bool false =>
  thenV (pu (bin Try.prog .add 3 (x 20) (.int .i64 1)) h) fun y76 h =>
  thenV (some (y76, h)) fun y20 h =>
  some (.normal, (mkF 77 (up x [(12, y12), (13, y13), (14, y14), (15, y15), (20, y20), (21, y21), (22, y22), (23, y23), (24, y24), (25, y25), (26, y26), (27, y27), (28, y28), (29, y29), (30, y30), (31, y31), (32, y32), (33, y33), (34, y34), (35, y35), (36, y36), (37, y37), (38, y38), (39, y39), (40, y40), (41, y41), (42, y42), (43, y43), (44, y44), (45, y45), (46, y46), (47, y47), (48, y48), (49, y49), (50, y50), (51, y51), (52, y52), (53, y53), (54, y54), (55, y55), (56, y56), (57, y57), (58, y58), (59, y59), (60, y60), (61, y61), (62, y62), (63, y63), (64, y64), (65, y65), (66, y66), (67, y67), (68, y68), (69, y69), (70, y70), (71, y71), (72, y72), (73, y73), (74, y74), (76, y76)])), h)
  | _ => none)
  | false => none)
  | .bool false =>
  some (.exit 0, (mkF 77 (up x [(21, y21)])), h)
  | _ => none)
theorem t59_eq (C : CallF) (x0 x1 x2 x3 x4 : Value) (h : Heap) : bodyK Try.prog C Try.f59 [x0, x1, x2, x3, x4] h = t59 C x0 x1 x2 x3 x4 h :=
  (bodyB_eq Try.prog C Try.f59 [x0, x1, x2, x3, x4] h (by kernel_rfl)).trans (by kernel_rfl)
theorem t59k59_2_eq (C : CallF) (x : Nat → Value) (h : Heap) : k59_2 C (mkF 77 x) h = t59k59_2 C x h :=
  link_partF (b := (partOf Try.f59 [1, 1, 1])) (kE := (resultsA Try.prog Try.f59.results.toList)) (rE := (resultsA Try.prog Try.f59.results.toList)) (xE := (fun _ _ _ => none)) (T := t59k59_2 C) (fun x h => by kernel_rfl) x h
theorem t59l59_11010_eq (C : CallF) (x : Nat → Value) (h : Heap) : codeA Try.prog C (partOf Try.f59 [1, 1, 0, 1, 0, 0]) (mkF 77 x) h = t59l59_11010 C x h :=
  link_roundF (T := t59l59_11010 C) (fun x h => by kernel_rfl) x h

/-- stolon/stolonlaw03.DiskCosts -/
noncomputable def t3 (C : CallF) (x0 : Value) (h : Heap) : Out :=
  thenV (some ((.bool false), h)) fun y2 h =>
  thenV (some (x0, h)) fun y4 h =>
  thenV (pu (bin Try.prog .gtr 3 y4 (.int .i64 16777216)) h) fun y5 h =>
  (match y5 with
  | .bool true =>
  thenV (C 14 [] h) fun y6 h =>
  thenV (some (y6, h)) fun y2_1 h =>
  some (y2_1, h)
  | .bool false =>
  thenV (some (x0, h)) fun y7 h =>
  thenV (C 15 [y7] h) fun y8 h =>
  thenV (some (y8, h)) fun y3 h =>
  thenV (some (y3, h)) fun y9 h =>
  thenV (pu (bin Try.prog .geq 3 y9 (.int .i64 1)) h) fun y10 h =>
  thenV (some (y10, h)) fun y11 h =>
  thenV (guardK (bOf y11 == some true) (some (y3, h)) h) fun y12 h =>
  thenV (guardK (bOf y11 == some true) (some (x0, h)) h) fun y13 h =>
  thenV (guardK (bOf y11 == some true) (C 16 [y13] h) h) fun y14 h =>
  thenV (guardK (bOf y11 == some true) (pu (bin Try.prog .eql 3 y12 y14) h) h) fun y15 h =>
  thenV (match y11 with | .bool t => some (if t then y15 else (.bool false), h) | _ => none) fun y16 h =>
  thenV (some (y16, h)) fun y17 h =>
  thenV (guardK (bOf y17 == some true) (some (x0, h)) h) fun y18 h =>
  thenV (guardK (bOf y17 == some true) (pu (bin Try.prog .leq 3 y18 (.int .i64 106)) h) h) fun y19 h =>
  thenV (guardK (bOf y17 == some true) (some (y19, h)) h) fun y20 h =>
  thenV (guardK (bOf y20 == some false) (some (y3, h)) h) fun y21 h =>
  thenV (guardK (bOf y20 == some false) (pu (bin Try.prog .mul 3 (.int .i64 106) y21) h) h) fun y22 h =>
  thenV (guardK (bOf y20 == some false) (some (x0, h)) h) fun y23 h =>
  thenV (guardK (bOf y20 == some false) (pu (bin Try.prog .geq 3 y22 y23) h) h) fun y24 h =>
  thenV (guardK (bOf y20 == some false) (some (y24, h)) h) fun y25 h =>
  thenV (guardK (bOf y25 == some true) (some (y3, h)) h) fun y26 h =>
  thenV (guardK (bOf y25 == some true) (pu (bin Try.prog .sub 3 y26 (.int .i64 1)) h) h) fun y27 h =>
  thenV (guardK (bOf y25 == some true) (pu (bin Try.prog .mul 3 (.int .i64 106) y27) h) h) fun y28 h =>
  thenV (guardK (bOf y25 == some true) (some (x0, h)) h) fun y29 h =>
  thenV (guardK (bOf y25 == some true) (pu (bin Try.prog .lss 3 y28 y29) h) h) fun y30 h =>
  thenV (guardK (bOf y20 == some false) (match y25 with | .bool t => some (if t then y30 else (.bool false), h) | _ => none) h) fun y31 h =>
  thenV (guardK (bOf y17 == some true) (match y20 with | .bool t => some (if t then (.bool true) else y31, h) | _ => none) h) fun y32 h =>
  thenV (match y17 with | .bool t => some (if t then y32 else (.bool false), h) | _ => none) fun y33 h =>
  thenV (some (y33, h)) fun y34 h =>
  thenV (guardK (bOf y34 == some true) (C 14 [] h) h) fun y35 h =>
  thenV (match y34 with | .bool t => some (if t then y35 else (.bool false), h) | _ => none) fun y36 h =>
  thenV (some (y36, h)) fun y2_1 h =>
  some (y2_1, h)
  | _ => none)
theorem t3_eq (C : CallF) (x0 : Value) (h : Heap) : bodyK Try.prog C Try.f3 [x0] h = t3 C x0 h :=
  (bodyB_eq Try.prog C Try.f3 [x0] h (by kernel_rfl)).trans (by kernel_rfl)

/-- stolon/stolonlaw03.known -/
noncomputable def t14 (C : CallF) (h : Heap) : Out :=
  thenV (some ((.bool false), h)) fun y0 h =>
  thenV (C 18 [(.int .i64 8)] h) fun y10 h =>
  thenV (some (y10, h)) fun y9 h =>
  thenV (pu (extractA y9 0) h) fun y11 h =>
  thenV (pu (extractA y9 1) h) fun y12 h =>
  thenV (some (y11, h)) fun y1 h =>
  thenV (some (y12, h)) fun y2 h =>
  thenV (some (y2, h)) fun y13 h =>
  thenV (pu (bin Try.prog .neq 28 y13 (.int .i64 0)) h) fun y14 h =>
  thenV (some (y14, h)) fun y15 h =>
  thenV (guardK (bOf y15 == some false) (some (y1, h)) h) fun y16 h =>
  thenV (guardK (bOf y15 == some false) (pu (bin Try.prog .eql 27 y16 (.pointer none)) h) h) fun y17 h =>
  thenV (match y15 with | .bool t => some (if t then (.bool true) else y17, h) | _ => none) fun y18 h =>
  thenV (some (y18, h)) fun y19 h =>
  thenV (guardK (bOf y19 == some false) (some (y1, h)) h) fun y20 h =>
  thenV (guardK (bOf y19 == some false) (C 50 [y20] h) h) fun y21 h =>
  thenV (guardK (bOf y19 == some false) (pu (bin Try.prog .neq 3 y21 (.int .i64 8)) h) h) fun y22 h =>
  thenV (match y19 with | .bool t => some (if t then (.bool true) else y22, h) | _ => none) fun y23 h =>
  thenV (some (y23, h)) fun y24 h =>
  thenV (guardK (bOf y24 == some false) (some (y1, h)) h) fun y25 h =>
  thenV (guardK (bOf y24 == some false) (mkR 1 1 (.int .u8 0) (.int .i64 128) (.int .i64 128) h) h) fun y26 h =>
  thenV (guardK (bOf y24 == some false) (C 19 [y25, (.int .i64 7), y26] h) h) fun y27 h =>
  thenV (guardK (bOf y24 == some false) (pu (bin Try.prog .neq 28 y27 (.int .i64 0)) h) h) fun y28 h =>
  thenV (match y24 with | .bool t => some (if t then (.bool true) else y28, h) | _ => none) fun y29 h =>
  thenV (some (y29, h)) fun y30 h =>
  thenV (guardK (bOf y30 == some false) (some (y1, h)) h) fun y31 h =>
  thenV (guardK (bOf y30 == some false) (mkR 1 1 (.int .u8 0) (.int .i64 128) (.int .i64 128) h) h) fun y32 h =>
  thenV (guardK (bOf y30 == some false) (C 19 [y31, (.int .i64 8), y32] h) h) fun y33 h =>
  thenV (guardK (bOf y30 == some false) (pu (bin Try.prog .neq 28 y33 (.int .i64 2)) h) h) fun y34 h =>
  thenV (match y30 with | .bool t => some (if t then (.bool true) else y34, h) | _ => none) fun y35 h =>
  (match y35 with
  | .bool true =>
  thenV (some ((.bool false), h)) fun y0_1 h =>
  some (y0_1, h)
  | .bool false =>
  thenV (some (y1, h)) fun y37 h =>
  thenV (C 21 [y37] h) fun y38 h =>
  thenV (some (y38, h)) fun y36 h =>
  thenV (pu (extractA y36 0) h) fun y39 h =>
  thenV (pu (extractA y36 1) h) fun y40 h =>
  thenV (pu (extractA y36 2) h) fun y41 h =>
  thenV (some (y39, h)) fun y3 h =>
  thenV (some (y40, h)) fun y4 h =>
  thenV (some (y41, h)) fun y2_1 h =>
  thenV (some (y2_1, h)) fun y42 h =>
  thenV (pu (bin Try.prog .neq 28 y42 (.int .i64 0)) h) fun y43 h =>
  thenV (some (y43, h)) fun y44 h =>
  thenV (guardK (bOf y44 == some false) (some (y4, h)) h) fun y45 h =>
  thenV (guardK (bOf y44 == some false) (pu (lenL y45) h) h) fun y46 h =>
  thenV (guardK (bOf y44 == some false) (pu (bin Try.prog .neq 3 y46 (.int .i64 0)) h) h) fun y47 h =>
  thenV (match y44 with | .bool t => some (if t then (.bool true) else y47, h) | _ => none) fun y48 h =>
  thenV (some (y48, h)) fun y49 h =>
  thenV (guardK (bOf y49 == some false) (some (y3, h)) h) fun y50 h =>
  thenV (guardK (bOf y49 == some false) (pu (bin Try.prog .eql 38 y50 (.pointer none)) h) h) fun y51 h =>
  thenV (match y49 with | .bool t => some (if t then (.bool true) else y51, h) | _ => none) fun y52 h =>
  thenV (some (y52, h)) fun y53 h =>
  thenV (guardK (bOf y53 == some false) (some (y3, h)) h) fun y54 h =>
  thenV (guardK (bOf y53 == some false) (C 22 [y54] h) h) fun y55 h =>
  thenV (guardK (bOf y53 == some false) (pu (bin Try.prog .neq 3 y55 (.int .i64 3)) h) h) fun y56 h =>
  thenV (match y53 with | .bool t => some (if t then (.bool true) else y56, h) | _ => none) fun y57 h =>
  (match y57 with
  | .bool true =>
  thenV (some ((.bool false), h)) fun y0_1 h =>
  some (y0_1, h)
  | .bool false =>
  thenV (some (y3, h)) fun y59 h =>
  thenV (bslR 1 (.int .u8 0) 1 [(0, (.int .u8 97))] h) fun y60 h =>
  thenV (convA Try.prog 32 32 y60 h) fun y61 h =>
  thenV (bslR 1 (.slice none 0 0) 1 [(0, y61)] h) fun y62 h =>
  thenV (C 23 [y59, y62] h) fun y63 h =>
  thenV (some (y63, h)) fun y58 h =>
  thenV (pu (extractA y58 0) h) fun y64 h =>
  thenV (pu (extractA y58 1) h) fun y65 h =>
  thenV (some (y65, h)) fun y2_2 h =>
  thenV (some (y3, h)) fun y67 h =>
  thenV (bslR 1 (.int .u8 0) 1 [(0, (.int .u8 98))] h) fun y68 h =>
  thenV (convA Try.prog 32 32 y68 h) fun y69 h =>
  thenV (C 27 [y67, y69] h) fun y70 h =>
  thenV (some (y70, h)) fun y66 h =>
  thenV (pu (extractA y66 0) h) fun y71 h =>
  thenV (pu (extractA y66 1) h) fun y72 h =>
  thenV (some (y71, h)) fun y5 h =>
  thenV (some (y72, h)) fun y6 h =>
  thenV (some (y3, h)) fun y74 h =>
  thenV (C 28 [y74, (.int .i64 1)] h) fun y75 h =>
  thenV (some (y75, h)) fun y73 h =>
  thenV (pu (extractA y73 0) h) fun y76 h =>
  thenV (pu (extractA y73 1) h) fun y77 h =>
  thenV (some (y76, h)) fun y7 h =>
  thenV (some (y77, h)) fun y8 h =>
  thenV (some (y2_2, h)) fun y78 h =>
  thenV (pu (bin Try.prog .eql 28 y78 (.int .i64 0)) h) fun y79 h =>
  thenV (some (y79, h)) fun y80 h =>
  thenV (guardK (bOf y80 == some true) (some (y6, h)) h) fun y81 h =>
  thenV (guardK (bOf y80 == some true) (pu (bin Try.prog .eql 28 y81 (.int .i64 0)) h) h) fun y82 h =>
  thenV (match y80 with | .bool t => some (if t then y82 else (.bool false), h) | _ => none) fun y83 h =>
  thenV (some (y83, h)) fun y84 h =>
  thenV (guardK (bOf y84 == some true) (some (y8, h)) h) fun y85 h =>
  thenV (guardK (bOf y84 == some true) (pu (bin Try.prog .eql 28 y85 (.int .i64 0)) h) h) fun y86 h =>
  thenV (match y84 with | .bool t => some (if t then y86 else (.bool false), h) | _ => none) fun y87 h =>
  thenV (some (y87, h)) fun y88 h =>
  thenV (guardK (bOf y88 == some true) (some (y7, h)) h) fun y89 h =>
  thenV (guardK (bOf y88 == some true) (cvBS y89 h) h) fun y90 h =>
  thenV (guardK (bOf y88 == some true) (pu (bin Try.prog .eql 9 y90 (.string ⟨#[98]⟩)) h) h) fun y91 h =>
  thenV (match y88 with | .bool t => some (if t then y91 else (.bool false), h) | _ => none) fun y92 h =>
  thenV (some (y92, h)) fun y93 h =>
  thenV (guardK (bOf y93 == some true) (some (y3, h)) h) fun y94 h =>
  thenV (guardK (bOf y93 == some true) (C 26 [y94] h) h) fun y95 h =>
  thenV (guardK (bOf y93 == some true) (pu (bin Try.prog .eql 3 y95 (.int .i64 1)) h) h) fun y96 h =>
  thenV (match y93 with | .bool t => some (if t then y96 else (.bool false), h) | _ => none) fun y97 h =>
  thenV (some (y97, h)) fun y98 h =>
  thenV (guardK (bOf y98 == some true) (C 15 [(.int .i64 107)] h) h) fun y99 h =>
  thenV (guardK (bOf y98 == some true) (pu (bin Try.prog .eql 3 y99 (.int .i64 2)) h) h) fun y100 h =>
  thenV (match y98 with | .bool t => some (if t then y100 else (.bool false), h) | _ => none) fun y101 h =>
  thenV (some (y101, h)) fun y0_1 h =>
  some (y0_1, h)
  | _ => none)
  | _ => none)
theorem t14_eq (C : CallF) (h : Heap) : bodyK Try.prog C Try.f14 [] h = t14 C  h :=
  (bodyB_eq Try.prog C Try.f14 [] h (by kernel_rfl)).trans (by kernel_rfl)

noncomputable def k16_2 (C : CallF) (e : Env) (h : Heap) : Out := codeK Try.prog C (partOf Try.f16 [1, 1, 1]) e h (resultsA Try.prog Try.f16.results.toList) (resultsA Try.prog Try.f16.results.toList) (fun _ _ _ => none)
noncomputable def b16_4 (C : CallF) (i : Nat) (e : Env) (h : Heap) : Out := if i = 0 then (k16_2 C) e h else (fun _ _ _ => none) i e h
/-- stolon/stolonref03.Cost -/
noncomputable def t16 (C : CallF) (x0 : Value) (h : Heap) : Out :=
  thenV (some ((.int .i64 0), h)) fun y2 h =>
  thenV (some ((.int .i64 1), h)) fun y3 h =>
  thenV (some (x0, h)) fun y5 h =>
  thenV (some (y5, h)) fun y4 h =>
  endL (iter (codeA Try.prog C (partOf Try.f16 [1, 1, 0, 1, 0, 0])) rounds (mkF 13 (up (bs [x0]) [(2, y2), (3, y3), (4, y4), (5, y5)])) h) (resultsA Try.prog Try.f16.results.toList) (b16_4 C)
noncomputable def t16k16_2 (C : CallF) (x : Nat → Value) (h : Heap) : Out :=
  thenV (some ((x 3), h)) fun y12 h =>
  thenV (some (y12, h)) fun y2 h =>
  some (y2, h)
noncomputable def t16l16_11010 (C : CallF) (x : Nat → Value) (h : Heap) : Option (Ex × Env × Heap) :=
  thenV (some ((x 4), h)) fun y6 h =>
  thenV (pu (bin Try.prog .gtr 3 y6 (.int .i64 106)) h) fun y7 h =>
  (match y7 with
  | .bool true =>
  thenV (some ((x 3), h)) fun y10 h =>
  thenV (pu (bin Try.prog .add 3 y10 (.int .i64 1)) h) fun y11 h =>
  thenV (some (y11, h)) fun y3 h =>
  thenV (some ((x 4), h)) fun y8 h =>
  thenV (pu (bin Try.prog .sub 3 y8 (.int .i64 106)) h) fun y9 h =>
  thenV (some (y9, h)) fun y4 h =>
  some (.normal, (mkF 13 (up x [(3, y3), (4, y4), (6, y6), (7, y7), (8, y8), (9, y9), (10, y10), (11, y11)])), h)
  | .bool false =>
  some (.exit 0, (mkF 13 (up x [(6, y6), (7, y7)])), h)
  | _ => none)
theorem t16_eq (C : CallF) (x0 : Value) (h : Heap) : bodyK Try.prog C Try.f16 [x0] h = t16 C x0 h :=
  (bodyB_eq Try.prog C Try.f16 [x0] h (by kernel_rfl)).trans (by kernel_rfl)
theorem t16k16_2_eq (C : CallF) (x : Nat → Value) (h : Heap) : k16_2 C (mkF 13 x) h = t16k16_2 C x h :=
  link_partF (b := (partOf Try.f16 [1, 1, 1])) (kE := (resultsA Try.prog Try.f16.results.toList)) (rE := (resultsA Try.prog Try.f16.results.toList)) (xE := (fun _ _ _ => none)) (T := t16k16_2 C) (fun x h => by kernel_rfl) x h
theorem t16l16_11010_eq (C : CallF) (x : Nat → Value) (h : Heap) : codeA Try.prog C (partOf Try.f16 [1, 1, 0, 1, 0, 0]) (mkF 13 x) h = t16l16_11010 C x h :=
  link_roundF (T := t16l16_11010 C) (fun x h => by kernel_rfl) x h

end Go.Proofs.Ytcmfgmhadeeieaa
