/-
  Printed by a program: the texts of some of the seat's functions, each linked to the program.
  Conditions: none.
  Printed by a program: the texts of some of the seat's functions, each linked to the program.
  Conditions: none.
-/
import Derived.Test.YtcmfgmhadeeieaaG5
import Derived.Test.YtcmfgmhadeeieaaProg
import Derived.KernelRfl
namespace Go.Proofs.Ytcmfgmhadeeieaa
open Go Go.Abs
/-- stolon/stolonref03.Load -/
noncomputable def t37 (_C : CallF) (x0 : Value) (h : Heap) : Out :=
  thenV (newC [(.slice none 0 0), (.bool false), (.bool false), (.int .i64 0), (.int .i64 0), (.int .i64 0)] h) fun y2 h =>
  thenV (some ((.int .i64 0), h)) fun _y3 h =>
  thenV (some (x0, h)) fun y4 h =>
  thenV (pu (lenL y4) h) fun y5 h =>
  thenV (pu (bin Try.prog .rem 3 y5 (.int .i64 128)) h) fun y6 h =>
  thenV (pu (bin Try.prog .neq 3 y6 (.int .i64 0)) h) fun y7 h =>
  thenV (some (y7, h)) fun y8 h =>
  thenV (guardK (bOf y8 == some false) (some (x0, h)) h) fun y9 h =>
  thenV (guardK (bOf y8 == some false) (pu (lenL y9) h) h) fun y10 h =>
  thenV (guardK (bOf y8 == some false) (pu (bin Try.prog .lss 3 y10 (.int .i64 512)) h) h) fun y11 h =>
  thenV (match y8 with | .bool t => some (if t then (.bool true) else y11, h) | _ => none) fun y12 h =>
  thenV (some (y12, h)) fun y13 h =>
  thenV (guardK (bOf y13 == some false) (some (x0, h)) h) fun y14 h =>
  thenV (guardK (bOf y13 == some false) (pu (lenL y14) h) h) fun y15 h =>
  thenV (guardK (bOf y13 == some false) (pu (bin Try.prog .gtr 3 y15 (.int .i64 524288)) h) h) fun y16 h =>
  thenV (match y13 with | .bool t => some (if t then (.bool true) else y16, h) | _ => none) fun y17 h =>
  (match y17 with
  | .bool true =>
  thenV (pu (bldR [(.slice none 0 0), (.bool false), (.bool false), (.int .i64 0), (.int .i64 0), (.int .i64 0)] []) h) fun y18 h =>
  thenV (stN 6 y2 y18 h) fun _ h =>
  thenV (some ((.int .i64 2), h)) fun y3_1 h =>
  resultsA Try.prog Try.f37.results.toList (mkF 23 (up (bs [x0]) [(2, y2), (3, y3_1), (4, y4), (5, y5), (6, y6), (7, y7), (8, y8), (9, y9), (10, y10), (11, y11), (12, y12), (13, y13), (14, y14), (15, y15), (16, y16), (17, y17), (18, y18)])) h
  | .bool false =>
  thenV (bslR 1 (.int .u8 0) 0 [] h) fun y19 h =>
  thenV (some (x0, h)) fun y20 h =>
  thenV (appendA 1 1 y19 y20 h) fun y21 h =>
  thenV (pu (bldR [(.slice none 0 0), (.bool false), (.bool false), (.int .i64 0), (.int .i64 0), (.int .i64 0)] [(0, 1, y21)]) h) fun y22 h =>
  thenV (stN 6 y2 y22 h) fun _ h =>
  thenV (some ((.int .i64 0), h)) fun y3_1 h =>
  resultsA Try.prog Try.f37.results.toList (mkF 23 (up (bs [x0]) [(2, y2), (3, y3_1), (4, y4), (5, y5), (6, y6), (7, y7), (8, y8), (9, y9), (10, y10), (11, y11), (12, y12), (13, y13), (14, y14), (15, y15), (16, y16), (17, y17), (19, y19), (20, y20), (21, y21), (22, y22)])) h
  | _ => none)
theorem t37_eq (C : CallF) (x0 : Value) (h : Heap) : bodyK Try.prog C Try.f37 [x0] h = t37 C x0 h :=
  (bodyB_eq Try.prog C Try.f37 [x0] h (by kernel_rfl)).trans (by kernel_rfl)

/-- stolon/stolonref03.Open -/
noncomputable def t38 (C : CallF) (x0 : Value) (h : Heap) : Out :=
  thenV (box x0 h) fun y1 h =>
  thenV (newC [(.slice none 0 0), (.bool false), (.bool false), (.int .i64 0), (.int .i64 0), (.int .i64 0)] h) fun y2 h =>
  thenV (newC [(.int .i64 0), (.int .i64 0), (.int .u64 0), (.int .i64 0), (.int .u64 0), (.bool false), (.int .i64 0), (.bool false)] h) fun y3 h =>
  thenV (some ((.slice none 0 0), h)) fun _y4 h =>
  thenV (some ((.int .i64 0), h)) fun _y5 h =>
  thenV (pu (addP y1 1) h) fun y8 h =>
  thenV (ld1 y8 h) fun y9 h =>
  (match y9 with
  | .bool true =>
  thenV (ldN 6 y1 h) fun y10 h =>
  thenV (pu (bldR [(.int .i64 0), (.int .i64 0), (.int .u64 0), (.int .i64 0), (.int .u64 0), (.bool false), (.int .i64 0), (.bool false)] [(7, 1, (.bool true))]) h) fun y11 h =>
  thenV (stN 6 y2 y10 h) fun _ h =>
  thenV (stN 8 y3 y11 h) fun _ h =>
  thenV (some ((.slice none 0 0), h)) fun y4_1 h =>
  thenV (some ((.int .i64 9), h)) fun y5_1 h =>
  resultsA Try.prog Try.f38.results.toList (mkF 34 (up (bs [x0]) [(1, y1), (2, y2), (3, y3), (4, y4_1), (5, y5_1), (8, y8), (9, y9), (10, y10), (11, y11)])) h
  | .bool false =>
  thenV (pu (addP y1 5) h) fun y12 h =>
  thenV (ld1 y12 h) fun y13 h =>
  thenV (pu (bin Try.prog .add 3 y13 (.int .i64 1)) h) fun y14 h =>
  thenV (pu (addP y1 5) h) fun y15 h =>
  thenV (stN 1 y15 y14 h) fun _ h =>
  thenV (ldN 6 y1 h) fun y17 h =>
  thenV (C 65 [y17] h) fun y18 h =>
  thenV (some (y18, h)) fun y16 h =>
  thenV (pu (extractA y16 0) h) fun y19 h =>
  thenV (pu (extractA y16 1) h) fun y20 h =>
  thenV (newC [(.bool false), (.int .u64 0), (.int .i64 0)] h) fun y7 h =>
  thenV (some (y19, h)) fun y6 h =>
  thenV (stN 3 y7 y20 h) fun _ h =>
  let g7_0 := h
  thenV (ldN 6 y1 g7_0) fun y21 g7_1 =>
  thenV (pu (addP y1 5) g7_1) fun y22 g7_2 =>
  thenV (ld1 y22 g7_2) fun y23 g7_3 =>
  thenV (some (y6, g7_3)) fun y24 g7_4 =>
  thenV (pu (addP y7 1) g7_4) fun y25 g7_5 =>
  thenV (ld1 y25 g7_5) fun y26 g7_6 =>
  thenV (pu (addP y7 2) g7_6) fun y27 g7_7 =>
  thenV (ld1 y27 g7_7) fun y28 g7_8 =>
  thenV (ldN 6 y1 g7_8) fun y29 g7_9 =>
  thenV (C 66 [y29] g7_9) fun y30 g7_10 =>
  thenV (pu (bldR [(.int .i64 0), (.int .i64 0), (.int .u64 0), (.int .i64 0), (.int .u64 0), (.bool false), (.int .i64 0), (.bool false)] [(0, 1, y23), (1, 1, y24), (2, 1, y26), (3, 1, y28), (4, 1, y30)]) g7_10) fun y31 g7_11 =>
  thenV (ldN 6 y1 g7_11) fun y32 g7_12 =>
  thenV (C 67 [y32] g7_12) fun y33 g7_13 =>
  thenV (stN 6 y2 y21 g7_13) fun _ g7_14 =>
  thenV (stN 8 y3 y31 g7_14) fun _ g7_15 =>
  thenV (some (y33, g7_15)) fun y4_1 g7_16 =>
  thenV (some ((.int .i64 0), g7_16)) fun y5_1 g7_17 =>
  (match (chkR true (ldN 6 y1 g7_10) y21 && (chkR true (ldN 6 y1 g7_13) y21 && (chkR true (ld1 y22 g7_10) y23 && (chkR true (ld1 y22 g7_13) y23 && (chkR true (ld1 y22 g7_14) y23 && (chkR true (ld1 y25 g7_10) y26 && (chkR true (ld1 y25 g7_13) y26 && (chkR true (ld1 y25 g7_14) y26 && (chkR true (ld1 y27 g7_10) y28 && (chkR true (ld1 y27 g7_13) y28 && (chkR true (ld1 y27 g7_14) y28 && (chkR true (ldN 6 y1 g7_9) y32 && true)))))))))))) with
  | true =>
  let h := g7_17
  resultsA Try.prog Try.f38.results.toList (mkF 34 (up (bs [x0]) [(1, y1), (2, y2), (3, y3), (4, y4_1), (5, y5_1), (6, y6), (7, y7), (8, y8), (9, y9), (12, y12), (13, y13), (14, y14), (15, y15), (16, y16), (17, y17), (18, y18), (19, y19), (20, y20), (21, y21), (22, y22), (23, y23), (24, y24), (25, y25), (26, y26), (27, y27), (28, y28), (29, y29), (30, y30), (31, y31), (32, y32), (33, y33)])) h
  | false => none)
  | _ => none)
theorem t38_eq (C : CallF) (x0 : Value) (h : Heap) : bodyK Try.prog C Try.f38 [x0] h = t38 C x0 h :=
  (bodyB_eq Try.prog C Try.f38 [x0] h (by kernel_rfl)).trans (by kernel_rfl)

noncomputable def k44_4 (C : CallF) (e : Env) (h : Heap) : Out := codeK Try.prog C (partOf Try.f44 [1, 1, 1]) e h (resultsA Try.prog Try.f44.results.toList) (resultsA Try.prog Try.f44.results.toList) (fun _ _ _ => none)
noncomputable def b44_6 (C : CallF) (i : Nat) (e : Env) (h : Heap) : Out := if i = 0 then (k44_4 C) e h else (fun _ _ _ => none) i e h
/-- stolon/stolonref03.SameEntries -/
noncomputable def t44 (C : CallF) (x0 x1 : Value) (h : Heap) : Out :=
  thenV (some ((.bool false), h)) fun y4 h =>
  thenV (some (x0, h)) fun y6 h =>
  thenV (pu (lenL y6) h) fun y7 h =>
  thenV (some (x1, h)) fun y8 h =>
  thenV (pu (lenL y8) h) fun y9 h =>
  thenV (pu (bin Try.prog .neq 3 y7 y9) h) fun y10 h =>
  (match y10 with
  | .bool true =>
  thenV (some ((.bool false), h)) fun y4_1 h =>
  some (y4_1, h)
  | .bool false =>
  thenV (some ((.int .i64 0), h)) fun y5 h =>
  endL (iter (codeA Try.prog C (partOf Try.f44 [1, 1, 0, 1, 0, 0])) rounds (mkF 43 (up (bs [x0, x1]) [(4, y4), (5, y5), (6, y6), (7, y7), (8, y8), (9, y9), (10, y10)])) h) (resultsA Try.prog Try.f44.results.toList) (b44_6 C)
  | _ => none)
noncomputable def t44k44_4 (_C : CallF) (_x : Nat → Value) (h : Heap) : Out :=
  thenV (some ((.bool true), h)) fun y4 h =>
  some (y4, h)
noncomputable def t44l44_11010 (_C : CallF) (x : Nat → Value) (h : Heap) : Option (Ex × Env × Heap) :=
  thenV (some ((x 5), h)) fun y11 h =>
  thenV (some ((x 0), h)) fun y12 h =>
  thenV (pu (lenL y12) h) fun y13 h =>
  thenV (pu (bin Try.prog .lss 3 y11 y13) h) fun y14 h =>
  (match y14 with
  | .bool true =>
  thenV (some ((x 0), h)) fun y17 h =>
  thenV (some ((x 5), h)) fun y18 h =>
  thenV (pu (idxS 2 y17 y18) h) fun y19 h =>
  thenV (pu (addP y19 0) h) fun y20 h =>
  thenV (ld1 y20 h) fun y21 h =>
  thenV (some ((x 1), h)) fun y22 h =>
  thenV (some ((x 5), h)) fun y23 h =>
  thenV (pu (idxS 2 y22 y23) h) fun y24 h =>
  thenV (pu (addP y24 0) h) fun y25 h =>
  thenV (ld1 y25 h) fun y26 h =>
  thenV (pu (bin Try.prog .neq 3 y21 y26) h) fun y27 h =>
  thenV (some (y27, h)) fun y28 h =>
  thenV (guardK (bOf y28 == some false) (some ((x 0), h)) h) fun y29 h =>
  thenV (guardK (bOf y28 == some false) (some ((x 5), h)) h) fun y30 h =>
  thenV (guardK (bOf y28 == some false) (pu (idxS 2 y29 y30) h) h) fun y31 h =>
  thenV (guardK (bOf y28 == some false) (pu (addP y31 1) h) h) fun y32 h =>
  thenV (guardK (bOf y28 == some false) (ld1 y32 h) h) fun y33 h =>
  thenV (guardK (bOf y28 == some false) (cvBS y33 h) h) fun y34 h =>
  thenV (guardK (bOf y28 == some false) (some ((x 1), h)) h) fun y35 h =>
  thenV (guardK (bOf y28 == some false) (some ((x 5), h)) h) fun y36 h =>
  thenV (guardK (bOf y28 == some false) (pu (idxS 2 y35 y36) h) h) fun y37 h =>
  thenV (guardK (bOf y28 == some false) (pu (addP y37 1) h) h) fun y38 h =>
  thenV (guardK (bOf y28 == some false) (ld1 y38 h) h) fun y39 h =>
  thenV (guardK (bOf y28 == some false) (cvBS y39 h) h) fun y40 h =>
  thenV (guardK (bOf y28 == some false) (pu (bin Try.prog .neq 9 y34 y40) h) h) fun y41 h =>
  thenV (match y28 with | .bool t => some (if t then (.bool true) else y41, h) | _ => none) fun y42 h =>
  (match y42 with
  | .bool true =>
  thenV (some ((.bool false), h)) fun y4 h =>
  some (.ret, (mkF 43 (up x [(4, y4), (11, y11), (12, y12), (13, y13), (14, y14), (17, y17), (18, y18), (19, y19), (20, y20), (21, y21), (22, y22), (23, y23), (24, y24), (25, y25), (26, y26), (27, y27), (28, y28), (29, y29), (30, y30), (31, y31), (32, y32), (33, y33), (34, y34), (35, y35), (36, y36), (37, y37), (38, y38), (39, y39), (40, y40), (41, y41), (42, y42)])), h)
  | .bool false =>
  thenV (some ((x 5), h)) fun y15 h =>
  thenV (pu (bin Try.prog .add 3 y15 (.int .i64 1)) h) fun y16 h =>
  thenV (some (y16, h)) fun y5 h =>
  some (.normal, (mkF 43 (up x [(5, y5), (11, y11), (12, y12), (13, y13), (14, y14), (15, y15), (16, y16), (17, y17), (18, y18), (19, y19), (20, y20), (21, y21), (22, y22), (23, y23), (24, y24), (25, y25), (26, y26), (27, y27), (28, y28), (29, y29), (30, y30), (31, y31), (32, y32), (33, y33), (34, y34), (35, y35), (36, y36), (37, y37), (38, y38), (39, y39), (40, y40), (41, y41), (42, y42)])), h)
  | _ => none)
  | .bool false =>
  some (.exit 0, (mkF 43 (up x [(11, y11), (12, y12), (13, y13), (14, y14)])), h)
  | _ => none)
theorem t44_eq (C : CallF) (x0 x1 : Value) (h : Heap) : bodyK Try.prog C Try.f44 [x0, x1] h = t44 C x0 x1 h :=
  (bodyB_eq Try.prog C Try.f44 [x0, x1] h (by kernel_rfl)).trans (by kernel_rfl)
theorem t44k44_4_eq (C : CallF) (x : Nat → Value) (h : Heap) : k44_4 C (mkF 43 x) h = t44k44_4 C x h :=
  link_partF (b := (partOf Try.f44 [1, 1, 1])) (kE := (resultsA Try.prog Try.f44.results.toList)) (rE := (resultsA Try.prog Try.f44.results.toList)) (xE := (fun _ _ _ => none)) (T := t44k44_4 C) (fun x h => by kernel_rfl) x h
theorem t44l44_11010_eq (C : CallF) (x : Nat → Value) (h : Heap) : codeA Try.prog C (partOf Try.f44 [1, 1, 0, 1, 0, 0]) (mkF 43 x) h = t44l44_11010 C x h :=
  link_roundF (T := t44l44_11010 C) (fun x h => by kernel_rfl) x h

/-- stolon/stolonlaw03.agree -/
noncomputable def t45 (C : CallF) (x0 x1 : Value) (h : Heap) : Out :=
  thenV (box x0 h) fun y2 h =>
  thenV (box x1 h) fun y3 h =>
  thenV (some ((.bool false), h)) fun _y4 h =>
  thenV (ldN 6 y3 h) fun y5 h =>
  thenV (pu (addP y2 1) h) fun y6 h =>
  thenV (ldN 8 y6 h) fun y7 h =>
  thenV (C 68 [y5, y7] h) fun y8 h =>
  thenV (pu (unA .not y8) h) fun y9 h =>
  (match y9 with
  | .bool true =>
  thenV (pu (addP y2 0) h) fun y10 h =>
  thenV (ld1 y10 h) fun y11 h =>
  thenV (C 34 [y11] h) fun y12 h =>
  thenV (pu (bin Try.prog .eql 58 y12 (.int .u64 0)) h) fun y13 h =>
  thenV (some (y13, h)) fun y14 h =>
  thenV (guardK (bOf y14 == some true) (pu (addP y2 0) h) h) fun y15 h =>
  thenV (guardK (bOf y14 == some true) (ld1 y15 h) h) fun y16 h =>
  thenV (guardK (bOf y14 == some true) (C 22 [y16] h) h) fun y17 h =>
  thenV (guardK (bOf y14 == some true) (pu (bin Try.prog .eql 3 y17 (.int .i64 0)) h) h) fun y18 h =>
  thenV (match y14 with | .bool t => some (if t then y18 else (.bool false), h) | _ => none) fun y19 h =>
  thenV (some (y19, h)) fun y20 h =>
  thenV (guardK (bOf y20 == some true) (pu (addP y2 0) h) h) fun y21 h =>
  thenV (guardK (bOf y20 == some true) (ld1 y21 h) h) fun y22 h =>
  thenV (guardK (bOf y20 == some true) (C 26 [y22] h) h) fun y23 h =>
  thenV (guardK (bOf y20 == some true) (pu (bin Try.prog .eql 3 y23 (.int .i64 0)) h) h) fun y24 h =>
  thenV (match y20 with | .bool t => some (if t then y24 else (.bool false), h) | _ => none) fun y25 h =>
  thenV (some (y25, h)) fun y26 h =>
  thenV (guardK (bOf y26 == some true) (pu (addP y2 0) h) h) fun y27 h =>
  thenV (guardK (bOf y26 == some true) (ld1 y27 h) h) fun y28 h =>
  thenV (guardK (bOf y26 == some true) (C 74 [y28] h) h) fun y29 h =>
  thenV (guardK (bOf y26 == some true) (pu (bin Try.prog .eql 3 y29 (.int .i64 0)) h) h) fun y30 h =>
  thenV (match y26 with | .bool t => some (if t then y30 else (.bool false), h) | _ => none) fun y31 h =>
  thenV (some (y31, h)) fun y4_1 h =>
  some (y4_1, h)
  | .bool false =>
  let g5_0 := h
  thenV (pu (addP y2 0) g5_0) fun y32 g5_1 =>
  thenV (ld1 y32 g5_1) fun y33 g5_2 =>
  thenV (C 34 [y33] g5_2) fun y34 g5_3 =>
  thenV (pu (addP y2 1) g5_3) fun y35 g5_4 =>
  thenV (pu (addP y35 2) g5_4) fun y36 g5_5 =>
  thenV (ld1 y36 g5_5) fun y37 g5_6 =>
  thenV (pu (bin Try.prog .eql 58 y34 y37) g5_6) fun y38 g5_7 =>
  thenV (some (y38, g5_7)) fun y39 g5_8 =>
  thenV (guardK (bOf y39 == some true) (pu (addP y2 0) g5_8) g5_8) fun y40 g5_9 =>
  thenV (guardK (bOf y39 == some true) (ld1 y40 g5_9) g5_9) fun y41 g5_10 =>
  thenV (guardK (bOf y39 == some true) (C 22 [y41] g5_10) g5_10) fun y42 g5_11 =>
  thenV (guardK (bOf y39 == some true) (ldN 6 y3 g5_11) g5_11) fun y43 g5_12 =>
  thenV (guardK (bOf y39 == some true) (C 46 [y43] g5_12) g5_12) fun y44 g5_13 =>
  thenV (guardK (bOf y39 == some true) (pu (bin Try.prog .eql 3 y42 y44) g5_13) g5_13) fun y45 g5_14 =>
  thenV (match y39 with | .bool t => some (if t then y45 else (.bool false), g5_14) | _ => none) fun y46 g5_15 =>
  thenV (some (y46, g5_15)) fun y47 g5_16 =>
  thenV (guardK (bOf y47 == some true) (pu (addP y2 0) g5_16) g5_16) fun y48 g5_17 =>
  thenV (guardK (bOf y47 == some true) (ld1 y48 g5_17) g5_17) fun y49 g5_18 =>
  thenV (guardK (bOf y47 == some true) (C 26 [y49] g5_18) g5_18) fun y50 g5_19 =>
  thenV (guardK (bOf y47 == some true) (ldN 6 y3 g5_19) g5_19) fun y51 g5_20 =>
  thenV (guardK (bOf y47 == some true) (pu (addP y2 1) g5_20) g5_20) fun y52 g5_21 =>
  thenV (guardK (bOf y47 == some true) (ldN 8 y52 g5_21) g5_21) fun y53 g5_22 =>
  thenV (guardK (bOf y47 == some true) (C 73 [y51, y53] g5_22) g5_22) fun y54 g5_23 =>
  thenV (guardK (bOf y47 == some true) (pu (bin Try.prog .eql 3 y50 y54) g5_23) g5_23) fun y55 g5_24 =>
  thenV (match y47 with | .bool t => some (if t then y55 else (.bool false), g5_24) | _ => none) fun y56 g5_25 =>
  thenV (some (y56, g5_25)) fun y57 g5_26 =>
  thenV (guardK (bOf y57 == some true) (pu (addP y2 0) g5_26) g5_26) fun y58 g5_27 =>
  thenV (guardK (bOf y57 == some true) (ld1 y58 g5_27) g5_27) fun y59 g5_28 =>
  thenV (guardK (bOf y57 == some true) (C 74 [y59] g5_28) g5_28) fun y60 g5_29 =>
  thenV (guardK (bOf y57 == some true) (ldN 6 y3 g5_29) g5_29) fun y61 g5_30 =>
  thenV (guardK (bOf y57 == some true) (pu (addP y2 1) g5_30) g5_30) fun y62 g5_31 =>
  thenV (guardK (bOf y57 == some true) (ldN 8 y62 g5_31) g5_31) fun y63 g5_32 =>
  thenV (guardK (bOf y57 == some true) (C 75 [y61, y63] g5_32) g5_32) fun y64 g5_33 =>
  thenV (guardK (bOf y57 == some true) (pu (bin Try.prog .eql 3 y60 y64) g5_33) g5_33) fun y65 g5_34 =>
  thenV (match y57 with | .bool t => some (if t then y65 else (.bool false), g5_34) | _ => none) fun y66 g5_35 =>
  thenV (some (y66, g5_35)) fun y4_1 g5_36 =>
  (match (chkR true (ld1 y36 g5_2) y37 && (chkR (bOf y39 == some true) (ldN 6 y3 g5_10) y43 && (chkR (bOf y47 == some true) (ldN 6 y3 g5_18) y51 && (chkR (bOf y47 == some true) (ldN 8 y52 g5_18) y53 && (chkR (bOf y57 == some true) (ldN 6 y3 g5_28) y61 && (chkR (bOf y57 == some true) (ldN 8 y62 g5_28) y63 && true)))))) with
  | true =>
  let h := g5_36
  some (y4_1, h)
  | false => none)
  | _ => none)
theorem t45_eq (C : CallF) (x0 x1 : Value) (h : Heap) : bodyK Try.prog C Try.f45 [x0, x1] h = t45 C x0 x1 h :=
  (bodyB_eq Try.prog C Try.f45 [x0, x1] h (by kernel_rfl)).trans (by kernel_rfl)

/-- stolon/stolonref03.Area -/
noncomputable def t46 (C : CallF) (x0 : Value) (h : Heap) : Out :=
  thenV (box x0 h) fun y1 h =>
  thenV (some ((.int .i64 0), h)) fun _y2 h =>
  thenV (ldN 6 y1 h) fun y3 h =>
  thenV (C 51 [y3] h) fun y4 h =>
  thenV (pu (bin Try.prog .sub 3 y4 (.int .i64 2)) h) fun y5 h =>
  thenV (pu (bin Try.prog .quo 3 y5 (.int .i64 2)) h) fun y6 h =>
  thenV (some (y6, h)) fun y2_1 h =>
  some (y2_1, h)
theorem t46_eq (C : CallF) (x0 : Value) (h : Heap) : bodyK Try.prog C Try.f46 [x0] h = t46 C x0 h :=
  (bodyB_eq Try.prog C Try.f46 [x0] h (by kernel_rfl)).trans (by kernel_rfl)

/-- stolon/stolonref03.ReadAt -/
noncomputable def t47 (C : CallF) (x0 x1 x2 : Value) (h : Heap) : Out :=
  thenV (box x0 h) fun y3 h =>
  thenV (box x1 h) fun y4 h =>
  thenV (some ((.slice none 0 0), h)) fun _y6 h =>
  thenV (some ((.int .i64 0), h)) fun _y7 h =>
  thenV (pu (addP y4 7) h) fun y11 h =>
  thenV (ld1 y11 h) fun y12 h =>
  (match y12 with
  | .bool true =>
  thenV (some ((.slice none 0 0), h)) fun y6_1 h =>
  thenV (some ((.int .i64 1), h)) fun y7_1 h =>
  some (.tuple #[y6_1, y7_1], h)
  | .bool false =>
  thenV (ldN 6 y3 h) fun y13 h =>
  thenV (ldN 8 y4 h) fun y14 h =>
  thenV (C 68 [y13, y14] h) fun y15 h =>
  thenV (pu (unA .not y15) h) fun y16 h =>
  (match y16 with
  | .bool true =>
  thenV (some ((.slice none 0 0), h)) fun y6_1 h =>
  thenV (some ((.int .i64 9), h)) fun y7_1 h =>
  some (.tuple #[y6_1, y7_1], h)
  | .bool false =>
  thenV (pu (addP y4 1) h) fun y17 h =>
  thenV (ld1 y17 h) fun y18 h =>
  thenV (pu (bin Try.prog .lss 3 y18 (.int .i64 0)) h) fun y19 h =>
  (match y19 with
  | .bool true =>
  thenV (some ((.slice none 0 0), h)) fun y6_1 h =>
  thenV (some ((.int .i64 6), h)) fun y7_1 h =>
  some (.tuple #[y6_1, y7_1], h)
  | .bool false =>
  thenV (ldN 6 y3 h) fun y21 h =>
  thenV (pu (addP y4 3) h) fun y22 h =>
  thenV (ld1 y22 h) fun y23 h =>
  thenV (pu (addP y4 2) h) fun y24 h =>
  thenV (ld1 y24 h) fun y25 h =>
  thenV (some (x2, h)) fun y26 h =>
  thenV (C 76 [y21, y23, y25, y26] h) fun y27 h =>
  thenV (some (y27, h)) fun y20 h =>
  thenV (pu (extractA y20 0) h) fun y28 h =>
  thenV (pu (extractA y20 1) h) fun y29 h =>
  thenV (pu (extractA y20 2) h) fun y30 h =>
  thenV (some (y28, h)) fun y8 h =>
  thenV (some (y29, h)) fun _y9 h =>
  thenV (some (y30, h)) fun y10 h =>
  thenV (some (y10, h)) fun y31 h =>
  thenV (pu (unA .not y31) h) fun y32 h =>
  (match y32 with
  | .bool true =>
  thenV (some ((.slice none 0 0), h)) fun y6_1 h =>
  thenV (some ((.int .i64 6), h)) fun y7_1 h =>
  some (.tuple #[y6_1, y7_1], h)
  | .bool false =>
  thenV (some (y8, h)) fun y33 h =>
  thenV (some (y33, h)) fun y6_1 h =>
  thenV (some ((.int .i64 0), h)) fun y7_1 h =>
  some (.tuple #[y6_1, y7_1], h)
  | _ => none)
  | _ => none)
  | _ => none)
  | _ => none)
theorem t47_eq (C : CallF) (x0 x1 x2 : Value) (h : Heap) : bodyK Try.prog C Try.f47 [x0, x1, x2] h = t47 C x0 x1 x2 h :=
  (bodyB_eq Try.prog C Try.f47 [x0, x1, x2] h (by kernel_rfl)).trans (by kernel_rfl)

/-- stolon/stolonref03.Blocks -/
noncomputable def t51 (_C : CallF) (x0 : Value) (h : Heap) : Out :=
  thenV (box x0 h) fun y1 h =>
  thenV (some ((.int .i64 0), h)) fun _y2 h =>
  thenV (pu (addP y1 0) h) fun y3 h =>
  thenV (ld1 y3 h) fun y4 h =>
  thenV (pu (lenL y4) h) fun y5 h =>
  thenV (pu (bin Try.prog .quo 3 y5 (.int .i64 128)) h) fun y6 h =>
  thenV (some (y6, h)) fun y2_1 h =>
  some (y2_1, h)
theorem t51_eq (C : CallF) (x0 : Value) (h : Heap) : bodyK Try.prog C Try.f51 [x0] h = t51 C x0 h :=
  (bodyB_eq Try.prog C Try.f51 [x0] h (by kernel_rfl)).trans (by kernel_rfl)

/-- stolon/stolonref03.Active -/
noncomputable def t65 (C : CallF) (x0 : Value) (h : Heap) : Out :=
  thenV (box x0 h) fun y1 h =>
  thenV (some ((.int .i64 0), h)) fun _y2 h =>
  thenV (newC [(.bool false), (.int .u64 0), (.int .i64 0)] h) fun y3 h =>
  let g2_0 := h
  thenV (ldN 6 y1 g2_0) fun y6 g2_1 =>
  thenV (C 96 [y6, (.int .i64 0)] g2_1) fun y7 g2_2 =>
  thenV (ldN 6 y1 g2_2) fun y8 g2_3 =>
  thenV (C 96 [y8, (.int .i64 1)] g2_3) fun y9 g2_4 =>
  thenV (newC [(.bool false), (.int .u64 0), (.int .i64 0)] g2_4) fun y4 g2_5 =>
  thenV (newC [(.bool false), (.int .u64 0), (.int .i64 0)] g2_5) fun y5 g2_6 =>
  thenV (stN 3 y4 y7 g2_6) fun _ g2_7 =>
  thenV (stN 3 y5 y9 g2_7) fun _ g2_8 =>
  (match (chkR true (ldN 6 y1 g2_1) y8 && true) with
  | true =>
  let h := g2_8
  thenV (pu (addP y5 0) h) fun y10 h =>
  thenV (ld1 y10 h) fun y11 h =>
  thenV (some (y11, h)) fun y12 h =>
  thenV (guardK (bOf y12 == some true) (pu (addP y4 0) h) h) fun y13 h =>
  thenV (guardK (bOf y12 == some true) (ld1 y13 h) h) fun y14 h =>
  thenV (guardK (bOf y12 == some true) (pu (unA .not y14) h) h) fun y15 h =>
  thenV (guardK (bOf y12 == some true) (some (y15, h)) h) fun y16 h =>
  thenV (guardK (bOf y16 == some false) (pu (addP y5 1) h) h) fun y17 h =>
  thenV (guardK (bOf y16 == some false) (ld1 y17 h) h) fun y18 h =>
  thenV (guardK (bOf y16 == some false) (pu (addP y4 1) h) h) fun y19 h =>
  thenV (guardK (bOf y16 == some false) (ld1 y19 h) h) fun y20 h =>
  thenV (guardK (bOf y16 == some false) (pu (bin Try.prog .gtr 58 y18 y20) h) h) fun y21 h =>
  thenV (guardK (bOf y12 == some true) (match y16 with | .bool t => some (if t then (.bool true) else y21, h) | _ => none) h) fun y22 h =>
  thenV (match y12 with | .bool t => some (if t then y22 else (.bool false), h) | _ => none) fun y23 h =>
  (match y23 with
  | .bool true =>
  thenV (ldN 3 y5 h) fun y24 h =>
  thenV (some ((.int .i64 1), h)) fun y2_1 h =>
  thenV (stN 3 y3 y24 h) fun _ h =>
  resultsA Try.prog Try.f65.results.toList (mkF 29 (up (bs [x0]) [(1, y1), (2, y2_1), (3, y3), (4, y4), (5, y5), (6, y6), (7, y7), (8, y8), (9, y9), (10, y10), (11, y11), (12, y12), (13, y13), (14, y14), (15, y15), (16, y16), (17, y17), (18, y18), (19, y19), (20, y20), (21, y21), (22, y22), (23, y23), (24, y24)])) h
  | .bool false =>
  thenV (pu (addP y4 0) h) fun y25 h =>
  thenV (ld1 y25 h) fun y26 h =>
  (match y26 with
  | .bool true =>
  thenV (ldN 3 y4 h) fun y27 h =>
  thenV (some ((.int .i64 0), h)) fun y2_1 h =>
  thenV (stN 3 y3 y27 h) fun _ h =>
  resultsA Try.prog Try.f65.results.toList (mkF 29 (up (bs [x0]) [(1, y1), (2, y2_1), (3, y3), (4, y4), (5, y5), (6, y6), (7, y7), (8, y8), (9, y9), (10, y10), (11, y11), (12, y12), (13, y13), (14, y14), (15, y15), (16, y16), (17, y17), (18, y18), (19, y19), (20, y20), (21, y21), (22, y22), (23, y23), (25, y25), (26, y26), (27, y27)])) h
  | .bool false =>
  thenV (pu (bldR [(.bool false), (.int .u64 0), (.int .i64 0)] []) h) fun y28 h =>
  thenV (some ((.int .i64 (-1)), h)) fun y2_1 h =>
  thenV (stN 3 y3 y28 h) fun _ h =>
  resultsA Try.prog Try.f65.results.toList (mkF 29 (up (bs [x0]) [(1, y1), (2, y2_1), (3, y3), (4, y4), (5, y5), (6, y6), (7, y7), (8, y8), (9, y9), (10, y10), (11, y11), (12, y12), (13, y13), (14, y14), (15, y15), (16, y16), (17, y17), (18, y18), (19, y19), (20, y20), (21, y21), (22, y22), (23, y23), (25, y25), (26, y26), (28, y28)])) h
  | _ => none)
  | _ => none)
  | false => none)
theorem t65_eq (C : CallF) (x0 : Value) (h : Heap) : bodyK Try.prog C Try.f65 [x0] h = t65 C x0 h :=
  (bodyB_eq Try.prog C Try.f65 [x0] h (by kernel_rfl)).trans (by kernel_rfl)

noncomputable def k66_2 (C : CallF) (e : Env) (h : Heap) : Out := codeK Try.prog C (partOf Try.f66 [1, 1, 1]) e h (resultsA Try.prog Try.f66.results.toList) (resultsA Try.prog Try.f66.results.toList) (fun _ _ _ => none)
noncomputable def b66_4 (C : CallF) (i : Nat) (e : Env) (h : Heap) : Out := if i = 0 then (k66_2 C) e h else (fun _ _ _ => none) i e h
noncomputable def k66_8 (C : CallF) (e : Env) (h : Heap) : Option (Ex × Env × Heap) := codeK Try.prog C (partOf Try.f66 [1, 1, 0, 1, 0, 0, 1, 1]) e h (fun e h => some (Ex.normal, e, h)) (fun e h => some (Ex.ret, e, h)) (fun i e h => some (Ex.exit i, e, h))
noncomputable def b66_9 (C : CallF) (i : Nat) (e : Env) (h : Heap) : Option (Ex × Env × Heap) := if i = 1 then (k66_8 C) e h else (fun i e h => some (Ex.exit i, e, h)) i e h
noncomputable def b66_14 (C : CallF) (i : Nat) (e : Env) (h : Heap) : Option (Ex × Env × Heap) := if i = 2 then (k66_8 C) e h else (b66_9 C) i e h
/-- stolon/stolonref03.Greatest -/
noncomputable def t66 (C : CallF) (x0 : Value) (h : Heap) : Out :=
  thenV (box x0 h) fun y1 h =>
  thenV (some ((.int .u64 0), h)) fun y2 h =>
  thenV (some ((.int .u64 0), h)) fun y3 h =>
  thenV (some ((.int .i64 0), h)) fun y4 h =>
  endL (iter (codeA Try.prog C (partOf Try.f66 [1, 1, 0, 1, 0, 0])) rounds (mkF 46 (up (bs [x0]) [(1, y1), (2, y2), (3, y3), (4, y4)])) h) (resultsA Try.prog Try.f66.results.toList) (b66_4 C)
noncomputable def t66k66_2 (_C : CallF) (x : Nat → Value) (h : Heap) : Out :=
  thenV (some ((x 3), h)) fun y45 h =>
  thenV (some (y45, h)) fun y2 h =>
  some (y2, h)
noncomputable def t66l66_11010 (C : CallF) (x : Nat → Value) (h : Heap) : Option (Ex × Env × Heap) :=
  thenV (some ((x 4), h)) fun y8 h =>
  thenV (pu (bin Try.prog .lss 3 y8 (.int .i64 2)) h) fun y9 h =>
  (match y9 with
  | .bool true =>
  thenV (ldN 6 (x 1) h) fun y12 h =>
  thenV (some ((x 4), h)) fun y13 h =>
  thenV (C 96 [y12, y13] h) fun y14 h =>
  thenV (newC [(.bool false), (.int .u64 0), (.int .i64 0)] h) fun y5 h =>
  thenV (stN 3 y5 y14 h) fun _ h =>
  thenV (pu (addP y5 0) h) fun y15 h =>
  thenV (ld1 y15 h) fun y16 h =>
  thenV (some (y16, h)) fun y17 h =>
  thenV (guardK (bOf y17 == some true) (pu (addP y5 1) h) h) fun y18 h =>
  thenV (guardK (bOf y17 == some true) (ld1 y18 h) h) fun y19 h =>
  thenV (guardK (bOf y17 == some true) (some ((x 3), h)) h) fun y20 h =>
  thenV (guardK (bOf y17 == some true) (pu (bin Try.prog .gtr 58 y19 y20) h) h) fun y21 h =>
  thenV (match y17 with | .bool t => some (if t then y21 else (.bool false), h) | _ => none) fun y22 h =>
  (match y22 with
  | .bool true =>
  thenV (pu (addP y5 1) h) fun y23 h =>
  thenV (ld1 y23 h) fun y24 h =>
  thenV (some (y24, h)) fun y3 h =>
  thenV (some ((.int .i64 0), h)) fun y6 h =>
  endL (iter (codeA Try.prog C (partOf Try.f66 [1, 1, 0, 1, 0, 0, 1, 0, 0, 1, 1, 0, 0])) rounds (mkF 46 (up x [(3, y3), (5, y5), (6, y6), (8, y8), (9, y9), (12, y12), (13, y13), (14, y14), (15, y15), (16, y16), (17, y17), (18, y18), (19, y19), (20, y20), (21, y21), (22, y22), (23, y23), (24, y24)])) h) (fun e h => some (Ex.ret, e, h)) (b66_14 C)
  | .bool false =>
  thenV (some ((.int .i64 0), h)) fun y6 h =>
  endL (iter (codeA Try.prog C (partOf Try.f66 [1, 1, 0, 1, 0, 0, 1, 0, 0, 1, 1, 0, 0])) rounds (mkF 46 (up x [(5, y5), (6, y6), (8, y8), (9, y9), (12, y12), (13, y13), (14, y14), (15, y15), (16, y16), (17, y17), (18, y18), (19, y19), (20, y20), (21, y21), (22, y22)])) h) (fun e h => some (Ex.ret, e, h)) (b66_14 C)
  | _ => none)
  | .bool false =>
  some (.exit 0, (mkF 46 (up x [(8, y8), (9, y9)])), h)
  | _ => none)
noncomputable def t66k66_8 (_C : CallF) (x : Nat → Value) (h : Heap) : Option (Ex × Env × Heap) :=
  thenV (some ((x 4), h)) fun y10 h =>
  thenV (pu (bin Try.prog .add 3 y10 (.int .i64 1)) h) fun y11 h =>
  thenV (some (y11, h)) fun y4 h =>
  some (.normal, (mkF 46 (up x [(4, y4), (10, y10), (11, y11)])), h)
noncomputable def t66l66_110100100110 (C : CallF) (x : Nat → Value) (h : Heap) : Option (Ex × Env × Heap) :=
  thenV (some ((x 6), h)) fun y25 h =>
  thenV (ldN 6 (x 1) h) fun y26 h =>
  thenV (C 46 [y26] h) fun y27 h =>
  thenV (pu (bin Try.prog .lss 3 y25 y27) h) fun y28 h =>
  (match y28 with
  | .bool true =>
  thenV (ldN 6 (x 1) h) fun y31 h =>
  thenV (some ((x 4), h)) fun y32 h =>
  thenV (some ((x 6), h)) fun y33 h =>
  thenV (C 97 [y31, y32, y33] h) fun y34 h =>
  thenV (newC [(.bool false), (.int .u64 0), (.int .i64 0), (.int .i64 0), (.slice none 0 0)] h) fun y7 h =>
  thenV (stN 5 y7 y34 h) fun _ h =>
  thenV (pu (addP y7 0) h) fun y35 h =>
  thenV (ld1 y35 h) fun y36 h =>
  thenV (some (y36, h)) fun y37 h =>
  thenV (guardK (bOf y37 == some true) (pu (addP y7 1) h) h) fun y38 h =>
  thenV (guardK (bOf y37 == some true) (ld1 y38 h) h) fun y39 h =>
  thenV (guardK (bOf y37 == some true) (some ((x 3), h)) h) fun y40 h =>
  thenV (guardK (bOf y37 == some true) (pu (bin Try.prog .gtr 58 y39 y40) h) h) fun y41 h =>
  thenV (match y37 with | .bool t => some (if t then y41 else (.bool false), h) | _ => none) fun y42 h =>
  (match y42 with
  | .bool true =>
  thenV (pu (addP y7 1) h) fun y43 h =>
  thenV (ld1 y43 h) fun y44 h =>
  thenV (some (y44, h)) fun y3 h =>
  thenV (some ((x 6), h)) fun y29 h =>
  thenV (pu (bin Try.prog .add 3 y29 (.int .i64 1)) h) fun y30 h =>
  thenV (some (y30, h)) fun y6 h =>
  some (.normal, (mkF 46 (up x [(3, y3), (6, y6), (7, y7), (25, y25), (26, y26), (27, y27), (28, y28), (29, y29), (30, y30), (31, y31), (32, y32), (33, y33), (34, y34), (35, y35), (36, y36), (37, y37), (38, y38), (39, y39), (40, y40), (41, y41), (42, y42), (43, y43), (44, y44)])), h)
  | .bool false =>
  thenV (some ((x 6), h)) fun y29 h =>
  thenV (pu (bin Try.prog .add 3 y29 (.int .i64 1)) h) fun y30 h =>
  thenV (some (y30, h)) fun y6 h =>
  some (.normal, (mkF 46 (up x [(6, y6), (7, y7), (25, y25), (26, y26), (27, y27), (28, y28), (29, y29), (30, y30), (31, y31), (32, y32), (33, y33), (34, y34), (35, y35), (36, y36), (37, y37), (38, y38), (39, y39), (40, y40), (41, y41), (42, y42)])), h)
  | _ => none)
  | .bool false =>
  some (.exit 2, (mkF 46 (up x [(25, y25), (26, y26), (27, y27), (28, y28)])), h)
  | _ => none)
theorem t66_eq (C : CallF) (x0 : Value) (h : Heap) : bodyK Try.prog C Try.f66 [x0] h = t66 C x0 h :=
  (bodyB_eq Try.prog C Try.f66 [x0] h (by kernel_rfl)).trans (by kernel_rfl)
theorem t66k66_2_eq (C : CallF) (x : Nat → Value) (h : Heap) : k66_2 C (mkF 46 x) h = t66k66_2 C x h :=
  link_partF (b := (partOf Try.f66 [1, 1, 1])) (kE := (resultsA Try.prog Try.f66.results.toList)) (rE := (resultsA Try.prog Try.f66.results.toList)) (xE := (fun _ _ _ => none)) (T := t66k66_2 C) (fun x h => by kernel_rfl) x h
theorem t66l66_11010_eq (C : CallF) (x : Nat → Value) (h : Heap) : codeA Try.prog C (partOf Try.f66 [1, 1, 0, 1, 0, 0]) (mkF 46 x) h = t66l66_11010 C x h :=
  link_roundF (T := t66l66_11010 C) (fun x h => by kernel_rfl) x h
theorem t66k66_8_eq (C : CallF) (x : Nat → Value) (h : Heap) : k66_8 C (mkF 46 x) h = t66k66_8 C x h :=
  link_partF (b := (partOf Try.f66 [1, 1, 0, 1, 0, 0, 1, 1])) (kE := (fun e h => some (Ex.normal, e, h))) (rE := (fun e h => some (Ex.ret, e, h))) (xE := (fun i e h => some (Ex.exit i, e, h))) (T := t66k66_8 C) (fun x h => by kernel_rfl) x h
theorem t66l66_110100100110_eq (C : CallF) (x : Nat → Value) (h : Heap) : codeA Try.prog C (partOf Try.f66 [1, 1, 0, 1, 0, 0, 1, 0, 0, 1, 1, 0, 0]) (mkF 46 x) h = t66l66_110100100110 C x h :=
  link_roundF (T := t66l66_110100100110 C) (fun x h => by kernel_rfl) x h

noncomputable def k67_6 (C : CallF) (e : Env) (h : Heap) : Out := codeK Try.prog C (partOf Try.f67 [1, 1, 1, 1, 1]) e h (resultsA Try.prog Try.f67.results.toList) (resultsA Try.prog Try.f67.results.toList) (fun _ _ _ => none)
noncomputable def b67_8 (C : CallF) (i : Nat) (e : Env) (h : Heap) : Out := if i = 0 then (k67_6 C) e h else (fun _ _ _ => none) i e h
/-- stolon/stolonref03.Entries -/
noncomputable def t67 (C : CallF) (x0 : Value) (h : Heap) : Out :=
  thenV (box x0 h) fun y1 h =>
  thenV (some ((.slice none 0 0), h)) fun y2 h =>
  thenV (ldN 6 y1 h) fun y11 h =>
  thenV (C 65 [y11] h) fun y12 h =>
  thenV (some (y12, h)) fun y10 h =>
  thenV (pu (extractA y10 0) h) fun y13 h =>
  thenV (pu (extractA y10 1) h) fun y14 h =>
  thenV (newC [(.bool false), (.int .u64 0), (.int .i64 0)] h) fun y4 h =>
  thenV (some (y13, h)) fun y3 h =>
  thenV (stN 3 y4 y14 h) fun _ h =>
  thenV (bslR 2 (.agg #[(.int .i64 0), (.slice none 0 0)]) 0 [] h) fun y15 h =>
  thenV (some (y15, h)) fun y5 h =>
  thenV (some (y3, h)) fun y16 h =>
  thenV (pu (bin Try.prog .lss 3 y16 (.int .i64 0)) h) fun y17 h =>
  (match y17 with
  | .bool true =>
  thenV (some (y5, h)) fun y18 h =>
  thenV (some (y18, h)) fun y2_1 h =>
  some (y2_1, h)
  | .bool false =>
  thenV (some ((.int .i64 0), h)) fun y6 h =>
  endL (iter (codeA Try.prog C (partOf Try.f67 [1, 1, 1, 1, 0, 1, 0, 0])) rounds (mkF 48 (up (bs [x0]) [(1, y1), (2, y2), (3, y3), (4, y4), (5, y5), (6, y6), (10, y10), (11, y11), (12, y12), (13, y13), (14, y14), (15, y15), (16, y16), (17, y17)])) h) (resultsA Try.prog Try.f67.results.toList) (b67_8 C)
  | _ => none)
noncomputable def t67k67_6 (_C : CallF) (x : Nat → Value) (h : Heap) : Out :=
  thenV (some ((x 5), h)) fun y47 h =>
  thenV (some (y47, h)) fun y2 h =>
  some (y2, h)
noncomputable def t67l67_1111010 (C : CallF) (x : Nat → Value) (h : Heap) : Option (Ex × Env × Heap) :=
  thenV (some ((x 6), h)) fun y19 h =>
  thenV (ldN 6 (x 1) h) fun y20 h =>
  thenV (C 46 [y20] h) fun y21 h =>
  thenV (pu (bin Try.prog .lss 3 y19 y21) h) fun y22 h =>
  (match y22 with
  | .bool true =>
  thenV (ldN 6 (x 1) h) fun y24 h =>
  thenV (pu (addP (x 4) 2) h) fun y25 h =>
  thenV (ld1 y25 h) fun y26 h =>
  thenV (pu (addP (x 4) 1) h) fun y27 h =>
  thenV (ld1 y27 h) fun y28 h =>
  thenV (some ((x 6), h)) fun y29 h =>
  thenV (C 76 [y24, y26, y28, y29] h) fun y30 h =>
  thenV (some (y30, h)) fun y23 h =>
  thenV (pu (extractA y23 0) h) fun y31 h =>
  thenV (pu (extractA y23 1) h) fun y32 h =>
  thenV (pu (extractA y23 2) h) fun y33 h =>
  thenV (some (y31, h)) fun y7 h =>
  thenV (some (y32, h)) fun y8 h =>
  thenV (some (y33, h)) fun y9 h =>
  thenV (some (y9, h)) fun y34 h =>
  thenV (pu (unA .not y34) h) fun y35 h =>
  (match y35 with
  | .bool true =>
  thenV (some ((x 6), h)) fun y36 h =>
  thenV (pu (bin Try.prog .add 3 y36 (.int .i64 1)) h) fun y37 h =>
  thenV (some (y37, h)) fun y6 h =>
  some (.normal, (mkF 48 (up x [(6, y6), (7, y7), (8, y8), (9, y9), (19, y19), (20, y20), (21, y21), (22, y22), (23, y23), (24, y24), (25, y25), (26, y26), (27, y27), (28, y28), (29, y29), (30, y30), (31, y31), (32, y32), (33, y33), (34, y34), (35, y35), (36, y36), (37, y37)])), h)
  | .bool false =>
  thenV (some ((x 5), h)) fun y38 h =>
  thenV (some ((x 6), h)) fun y39 h =>
  thenV (some (y7, h)) fun y40 h =>
  thenV (pu (bldR [(.int .i64 0), (.slice none 0 0)] [(0, 1, y39), (1, 1, y40)]) h) fun y41 h =>
  thenV (bslR 2 (.agg #[(.int .i64 0), (.slice none 0 0)]) 1 [(0, y41)] h) fun y42 h =>
  thenV (appendA 2 32 y38 y42 h) fun y43 h =>
  thenV (some (y43, h)) fun y5 h =>
  thenV (some ((x 6), h)) fun y44 h =>
  thenV (some (y8, h)) fun y45 h =>
  thenV (pu (bin Try.prog .add 3 y44 y45) h) fun y46 h =>
  thenV (some (y46, h)) fun y6 h =>
  some (.normal, (mkF 48 (up x [(5, y5), (6, y6), (7, y7), (8, y8), (9, y9), (19, y19), (20, y20), (21, y21), (22, y22), (23, y23), (24, y24), (25, y25), (26, y26), (27, y27), (28, y28), (29, y29), (30, y30), (31, y31), (32, y32), (33, y33), (34, y34), (35, y35), (38, y38), (39, y39), (40, y40), (41, y41), (42, y42), (43, y43), (44, y44), (45, y45), (46, y46)])), h)
  | _ => none)
  | .bool false =>
  some (.exit 0, (mkF 48 (up x [(19, y19), (20, y20), (21, y21), (22, y22)])), h)
  | _ => none)
theorem t67_eq (C : CallF) (x0 : Value) (h : Heap) : bodyK Try.prog C Try.f67 [x0] h = t67 C x0 h :=
  (bodyB_eq Try.prog C Try.f67 [x0] h (by kernel_rfl)).trans (by kernel_rfl)
theorem t67k67_6_eq (C : CallF) (x : Nat → Value) (h : Heap) : k67_6 C (mkF 48 x) h = t67k67_6 C x h :=
  link_partF (b := (partOf Try.f67 [1, 1, 1, 1, 1])) (kE := (resultsA Try.prog Try.f67.results.toList)) (rE := (resultsA Try.prog Try.f67.results.toList)) (xE := (fun _ _ _ => none)) (T := t67k67_6 C) (fun x h => by kernel_rfl) x h
theorem t67l67_1111010_eq (C : CallF) (x : Nat → Value) (h : Heap) : codeA Try.prog C (partOf Try.f67 [1, 1, 1, 1, 0, 1, 0, 0]) (mkF 48 x) h = t67l67_1111010 C x h :=
  link_roundF (T := t67l67_1111010 C) (fun x h => by kernel_rfl) x h

/-- stolon/stolonref03.Live -/
noncomputable def t68 (_C : CallF) (x0 x1 : Value) (h : Heap) : Out :=
  thenV (box x0 h) fun y2 h =>
  thenV (box x1 h) fun y3 h =>
  thenV (some ((.bool false), h)) fun _y4 h =>
  thenV (pu (addP y2 1) h) fun y5 h =>
  thenV (ld1 y5 h) fun y6 h =>
  thenV (pu (unA .not y6) h) fun y7 h =>
  thenV (some (y7, h)) fun y8 h =>
  thenV (guardK (bOf y8 == some true) (pu (addP y3 7) h) h) fun y9 h =>
  thenV (guardK (bOf y8 == some true) (ld1 y9 h) h) fun y10 h =>
  thenV (guardK (bOf y8 == some true) (pu (unA .not y10) h) h) fun y11 h =>
  thenV (match y8 with | .bool t => some (if t then y11 else (.bool false), h) | _ => none) fun y12 h =>
  thenV (some (y12, h)) fun y13 h =>
  thenV (guardK (bOf y13 == some true) (pu (addP y2 5) h) h) fun y14 h =>
  thenV (guardK (bOf y13 == some true) (ld1 y14 h) h) fun y15 h =>
  thenV (guardK (bOf y13 == some true) (pu (addP y3 0) h) h) fun y16 h =>
  thenV (guardK (bOf y13 == some true) (ld1 y16 h) h) fun y17 h =>
  thenV (guardK (bOf y13 == some true) (pu (bin Try.prog .eql 3 y15 y17) h) h) fun y18 h =>
  thenV (match y13 with | .bool t => some (if t then y18 else (.bool false), h) | _ => none) fun y19 h =>
  thenV (some (y19, h)) fun y4_1 h =>
  some (y4_1, h)
theorem t68_eq (C : CallF) (x0 x1 : Value) (h : Heap) : bodyK Try.prog C Try.f68 [x0, x1] h = t68 C x0 x1 h :=
  (bodyB_eq Try.prog C Try.f68 [x0, x1] h (by kernel_rfl)).trans (by kernel_rfl)

/-- stolon/stolonref03.Right -/
noncomputable def t72 (C : CallF) (x0 : Value) (h : Heap) : Out :=
  thenV (some ((.bool false), h)) fun _y2 h =>
  thenV (some (x0, h)) fun y3 h =>
  thenV (pu (slR 1 y3 none (some (.int .i64 4)) none) h) fun y4 h =>
  thenV (C 102 [y4] h) fun y5 h =>
  thenV (some (x0, h)) fun y6 h =>
  thenV (pu (slR 1 y6 (some (.int .i64 4)) none none) h) fun y7 h =>
  thenV (C 103 [y7] h) fun y8 h =>
  thenV (cvI .u64 y8 h) fun y9 h =>
  thenV (pu (bin Try.prog .eql 58 y5 y9) h) fun y10 h =>
  thenV (some (y10, h)) fun y2_1 h =>
  some (y2_1, h)
theorem t72_eq (C : CallF) (x0 : Value) (h : Heap) : bodyK Try.prog C Try.f72 [x0] h = t72 C x0 h :=
  (bodyB_eq Try.prog C Try.f72 [x0] h (by kernel_rfl)).trans (by kernel_rfl)

/-- stolon/stolonref03.Free -/
noncomputable def t73 (C : CallF) (x0 x1 : Value) (h : Heap) : Out :=
  thenV (box x0 h) fun y2 h =>
  thenV (box x1 h) fun y3 h =>
  thenV (some ((.int .i64 0), h)) fun _y4 h =>
  thenV (ldN 6 y2 h) fun y5 h =>
  thenV (ldN 8 y3 h) fun y6 h =>
  thenV (C 68 [y5, y6] h) fun y7 h =>
  thenV (pu (unA .not y7) h) fun y8 h =>
  thenV (some (y8, h)) fun y9 h =>
  thenV (guardK (bOf y9 == some false) (pu (addP y3 5) h) h) fun y10 h =>
  thenV (guardK (bOf y9 == some false) (ld1 y10 h) h) fun y11 h =>
  thenV (guardK (bOf y9 == some false) (pu (unA .not y11) h) h) fun y12 h =>
  thenV (match y9 with | .bool t => some (if t then (.bool true) else y12, h) | _ => none) fun y13 h =>
  (match y13 with
  | .bool true =>
  thenV (some ((.int .i64 0), h)) fun y4_1 h =>
  some (y4_1, h)
  | .bool false =>
  let g5_0 := h
  thenV (ldN 6 y2 g5_0) fun y14 g5_1 =>
  thenV (C 46 [y14] g5_1) fun y15 g5_2 =>
  thenV (pu (addP y3 6) g5_2) fun y16 g5_3 =>
  thenV (ld1 y16 g5_3) fun y17 g5_4 =>
  thenV (pu (bin Try.prog .sub 3 y15 y17) g5_4) fun y18 g5_5 =>
  thenV (some (y18, g5_5)) fun y4_1 g5_6 =>
  (match (chkR true (ld1 y16 g5_1) y17 && true) with
  | true =>
  let h := g5_6
  some (y4_1, h)
  | false => none)
  | _ => none)
theorem t73_eq (C : CallF) (x0 x1 : Value) (h : Heap) : bodyK Try.prog C Try.f73 [x0, x1] h = t73 C x0 x1 h :=
  (bodyB_eq Try.prog C Try.f73 [x0, x1] h (by kernel_rfl)).trans (by kernel_rfl)

/-- stolon/stolonref03.Base -/
noncomputable def t75 (C : CallF) (x0 x1 : Value) (h : Heap) : Out :=
  thenV (box x0 h) fun y2 h =>
  thenV (box x1 h) fun y3 h =>
  thenV (some ((.int .i64 0), h)) fun _y4 h =>
  thenV (ldN 6 y2 h) fun y5 h =>
  thenV (ldN 8 y3 h) fun y6 h =>
  thenV (C 68 [y5, y6] h) fun y7 h =>
  thenV (pu (unA .not y7) h) fun y8 h =>
  thenV (some (y8, h)) fun y9 h =>
  thenV (guardK (bOf y9 == some false) (pu (addP y3 1) h) h) fun y10 h =>
  thenV (guardK (bOf y9 == some false) (ld1 y10 h) h) fun y11 h =>
  thenV (guardK (bOf y9 == some false) (pu (bin Try.prog .lss 3 y11 (.int .i64 0)) h) h) fun y12 h =>
  thenV (match y9 with | .bool t => some (if t then (.bool true) else y12, h) | _ => none) fun y13 h =>
  (match y13 with
  | .bool true =>
  thenV (some ((.int .i64 0), h)) fun y4_1 h =>
  some (y4_1, h)
  | .bool false =>
  let g5_0 := h
  thenV (pu (addP y3 3) g5_0) fun y14 g5_1 =>
  thenV (ld1 y14 g5_1) fun y15 g5_2 =>
  thenV (ldN 6 y2 g5_2) fun y16 g5_3 =>
  thenV (C 46 [y16] g5_3) fun y17 g5_4 =>
  thenV (pu (bin Try.prog .mul 3 y15 y17) g5_4) fun y18 g5_5 =>
  thenV (pu (bin Try.prog .add 3 (.int .i64 2) y18) g5_5) fun y19 g5_6 =>
  thenV (some (y19, g5_6)) fun y4_1 g5_7 =>
  (match (chkR true (ld1 y14 g5_4) y15 && true) with
  | true =>
  let h := g5_7
  some (y4_1, h)
  | false => none)
  | _ => none)
theorem t75_eq (C : CallF) (x0 x1 : Value) (h : Heap) : bodyK Try.prog C Try.f75 [x0, x1] h = t75 C x0 x1 h :=
  (bodyB_eq Try.prog C Try.f75 [x0, x1] h (by kernel_rfl)).trans (by kernel_rfl)

noncomputable def k76_10 (C : CallF) (e : Env) (h : Heap) : Out := codeK Try.prog C (partOf Try.f76 [1, 1, 1, 1, 1, 1]) e h (resultsA Try.prog Try.f76.results.toList) (resultsA Try.prog Try.f76.results.toList) (fun _ _ _ => none)
noncomputable def b76_12 (C : CallF) (i : Nat) (e : Env) (h : Heap) : Out := if i = 0 then (k76_10 C) e h else (fun _ _ _ => none) i e h
/-- stolon/stolonref03.Stands -/
noncomputable def t76 (C : CallF) (x0 x1 x2 x3 : Value) (h : Heap) : Out :=
  thenV (box x0 h) fun y4 h =>
  thenV (some ((.slice none 0 0), h)) fun y8 h =>
  thenV (some ((.int .i64 0), h)) fun y9 h =>
  thenV (some ((.bool false), h)) fun y10 h =>
  thenV (some (x3, h)) fun y15 h =>
  thenV (pu (bin Try.prog .lss 3 y15 (.int .i64 0)) h) fun y16 h =>
  thenV (some (y16, h)) fun y17 h =>
  thenV (guardK (bOf y17 == some false) (some (x3, h)) h) fun y18 h =>
  thenV (guardK (bOf y17 == some false) (ldN 6 y4 h) h) fun y19 h =>
  thenV (guardK (bOf y17 == some false) (C 46 [y19] h) h) fun y20 h =>
  thenV (guardK (bOf y17 == some false) (pu (bin Try.prog .geq 3 y18 y20) h) h) fun y21 h =>
  thenV (match y17 with | .bool t => some (if t then (.bool true) else y21, h) | _ => none) fun y22 h =>
  (match y22 with
  | .bool true =>
  thenV (some ((.slice none 0 0), h)) fun y8_1 h =>
  thenV (some ((.int .i64 0), h)) fun y9_1 h =>
  thenV (some ((.bool false), h)) fun y10_1 h =>
  some (.tuple #[y8_1, y9_1, y10_1], h)
  | .bool false =>
  thenV (ldN 6 y4 h) fun y23 h =>
  thenV (some (x1, h)) fun y24 h =>
  thenV (some (x3, h)) fun y25 h =>
  thenV (C 97 [y23, y24, y25] h) fun y26 h =>
  thenV (newC [(.bool false), (.int .u64 0), (.int .i64 0), (.int .i64 0), (.slice none 0 0)] h) fun y11 h =>
  thenV (stN 5 y11 y26 h) fun _ h =>
  let g7_0 := h
  thenV (pu (addP y11 0) g7_0) fun y27 g7_1 =>
  thenV (ld1 y27 g7_1) fun y28 g7_2 =>
  thenV (pu (unA .not y28) g7_2) fun y29 g7_3 =>
  thenV (some (y29, g7_3)) fun y30 g7_4 =>
  thenV (guardK (bOf y30 == some false) (pu (addP y11 1) g7_4) g7_4) fun y31 g7_5 =>
  thenV (guardK (bOf y30 == some false) (ld1 y31 g7_5) g7_5) fun y32 g7_6 =>
  thenV (guardK (bOf y30 == some false) (some (x2, g7_6)) g7_6) fun y33 g7_7 =>
  thenV (guardK (bOf y30 == some false) (pu (bin Try.prog .neq 58 y32 y33) g7_7) g7_7) fun y34 g7_8 =>
  thenV (match y30 with | .bool t => some (if t then (.bool true) else y34, g7_8) | _ => none) fun y35 g7_9 =>
  thenV (some (y35, g7_9)) fun y36 g7_10 =>
  thenV (guardK (bOf y36 == some false) (pu (addP y11 2) g7_10) g7_10) fun y37 g7_11 =>
  thenV (guardK (bOf y36 == some false) (ld1 y37 g7_11) g7_11) fun y38 g7_12 =>
  thenV (guardK (bOf y36 == some false) (pu (bin Try.prog .neq 3 y38 (.int .i64 0)) g7_12) g7_12) fun y39 g7_13 =>
  thenV (match y36 with | .bool t => some (if t then (.bool true) else y39, g7_13) | _ => none) fun y40 g7_14 =>
  thenV (some (y40, g7_14)) fun y41 g7_15 =>
  thenV (guardK (bOf y41 == some false) (pu (addP y11 3) g7_15) g7_15) fun y42 g7_16 =>
  thenV (guardK (bOf y41 == some false) (ld1 y42 g7_16) g7_16) fun y43 g7_17 =>
  thenV (guardK (bOf y41 == some false) (ldN 6 y4 g7_17) g7_17) fun y44 g7_18 =>
  thenV (guardK (bOf y41 == some false) (C 46 [y44] g7_18) g7_18) fun y45 g7_19 =>
  thenV (guardK (bOf y41 == some false) (some (x3, g7_19)) g7_19) fun y46 g7_20 =>
  thenV (guardK (bOf y41 == some false) (pu (bin Try.prog .sub 3 y45 y46) g7_20) g7_20) fun y47 g7_21 =>
  thenV (guardK (bOf y41 == some false) (pu (bin Try.prog .gtr 3 y43 y47) g7_21) g7_21) fun y48 g7_22 =>
  thenV (match y41 with | .bool t => some (if t then (.bool true) else y48, g7_22) | _ => none) fun y49 g7_23 =>
  (match (chkR (bOf y41 == some false) (ld1 y42 g7_19) y43 && true) with
  | true =>
  let h := g7_23
  (match y49 with
  | .bool true =>
  thenV (some ((.slice none 0 0), h)) fun y8_1 h =>
  thenV (some ((.int .i64 0), h)) fun y9_1 h =>
  thenV (some ((.bool false), h)) fun y10_1 h =>
  some (.tuple #[y8_1, y9_1, y10_1], h)
  | .bool false =>
  thenV (bslR 1 (.int .u8 0) 0 [] h) fun y50 h =>
  thenV (some (y50, h)) fun y12 h =>
  thenV (some ((.int .i64 0), h)) fun y13 h =>
  endL (iter (codeA Try.prog C (partOf Try.f76 [1, 1, 1, 1, 1, 0, 1, 0, 0])) rounds (mkF 92 (up (bs [x0, x1, x2, x3]) [(4, y4), (8, y8), (9, y9), (10, y10), (11, y11), (12, y12), (13, y13), (15, y15), (16, y16), (17, y17), (18, y18), (19, y19), (20, y20), (21, y21), (22, y22), (23, y23), (24, y24), (25, y25), (26, y26), (27, y27), (28, y28), (29, y29), (30, y30), (31, y31), (32, y32), (33, y33), (34, y34), (35, y35), (36, y36), (37, y37), (38, y38), (39, y39), (40, y40), (41, y41), (42, y42), (43, y43), (44, y44), (45, y45), (46, y46), (47, y47), (48, y48), (49, y49), (50, y50)])) h) (resultsA Try.prog Try.f76.results.toList) (b76_12 C)
  | _ => none)
  | false => none)
  | _ => none)
noncomputable def t76k76_10 (_C : CallF) (x : Nat → Value) (h : Heap) : Out :=
  thenV (some ((x 12), h)) fun y89 h =>
  thenV (pu (addP (x 11) 3) h) fun y90 h =>
  thenV (ld1 y90 h) fun y91 h =>
  thenV (some (y89, h)) fun y8 h =>
  thenV (some (y91, h)) fun y9 h =>
  thenV (some ((.bool true), h)) fun y10 h =>
  some (.tuple #[y8, y9, y10], h)
noncomputable def t76l76_11111010 (C : CallF) (x : Nat → Value) (h : Heap) : Option (Ex × Env × Heap) :=
  thenV (some ((x 13), h)) fun y51 h =>
  thenV (pu (addP (x 11) 3) h) fun y52 h =>
  thenV (ld1 y52 h) fun y53 h =>
  thenV (pu (bin Try.prog .lss 3 y51 y53) h) fun y54 h =>
  (match y54 with
  | .bool true =>
  thenV (ldN 6 (x 4) h) fun y57 h =>
  thenV (some ((x 1), h)) fun y58 h =>
  thenV (some ((x 3), h)) fun y59 h =>
  thenV (some ((x 13), h)) fun y60 h =>
  thenV (pu (bin Try.prog .add 3 y59 y60) h) fun y61 h =>
  thenV (C 97 [y57, y58, y61] h) fun y62 h =>
  thenV (newC [(.bool false), (.int .u64 0), (.int .i64 0), (.int .i64 0), (.slice none 0 0)] h) fun y14 h =>
  thenV (stN 5 y14 y62 h) fun _ h =>
  thenV (pu (addP y14 0) h) fun y63 h =>
  thenV (ld1 y63 h) fun y64 h =>
  thenV (pu (unA .not y64) h) fun y65 h =>
  thenV (some (y65, h)) fun y66 h =>
  thenV (guardK (bOf y66 == some false) (pu (addP y14 1) h) h) fun y67 h =>
  thenV (guardK (bOf y66 == some false) (ld1 y67 h) h) fun y68 h =>
  thenV (guardK (bOf y66 == some false) (some ((x 2), h)) h) fun y69 h =>
  thenV (guardK (bOf y66 == some false) (pu (bin Try.prog .neq 58 y68 y69) h) h) fun y70 h =>
  thenV (match y66 with | .bool t => some (if t then (.bool true) else y70, h) | _ => none) fun y71 h =>
  thenV (some (y71, h)) fun y72 h =>
  thenV (guardK (bOf y72 == some false) (pu (addP y14 2) h) h) fun y73 h =>
  thenV (guardK (bOf y72 == some false) (ld1 y73 h) h) fun y74 h =>
  thenV (guardK (bOf y72 == some false) (some ((x 13), h)) h) fun y75 h =>
  thenV (guardK (bOf y72 == some false) (pu (bin Try.prog .neq 3 y74 y75) h) h) fun y76 h =>
  thenV (match y72 with | .bool t => some (if t then (.bool true) else y76, h) | _ => none) fun y77 h =>
  thenV (some (y77, h)) fun y78 h =>
  thenV (guardK (bOf y78 == some false) (pu (addP y14 3) h) h) fun y79 h =>
  thenV (guardK (bOf y78 == some false) (ld1 y79 h) h) fun y80 h =>
  thenV (guardK (bOf y78 == some false) (pu (addP (x 11) 3) h) h) fun y81 h =>
  thenV (guardK (bOf y78 == some false) (ld1 y81 h) h) fun y82 h =>
  thenV (guardK (bOf y78 == some false) (pu (bin Try.prog .neq 3 y80 y82) h) h) fun y83 h =>
  thenV (match y78 with | .bool t => some (if t then (.bool true) else y83, h) | _ => none) fun y84 h =>
  (match y84 with
  | .bool true =>
  thenV (some ((.slice none 0 0), h)) fun y8 h =>
  thenV (some ((.int .i64 0), h)) fun y9 h =>
  thenV (some ((.bool false), h)) fun y10 h =>
  some (.ret, (mkF 92 (up x [(8, y8), (9, y9), (10, y10), (14, y14), (51, y51), (52, y52), (53, y53), (54, y54), (57, y57), (58, y58), (59, y59), (60, y60), (61, y61), (62, y62), (63, y63), (64, y64), (65, y65), (66, y66), (67, y67), (68, y68), (69, y69), (70, y70), (71, y71), (72, y72), (73, y73), (74, y74), (75, y75), (76, y76), (77, y77), (78, y78), (79, y79), (80, y80), (81, y81), (82, y82), (83, y83), (84, y84)])), h)
  | .bool false =>
  thenV (some ((x 12), h)) fun y85 h =>
  thenV (pu (addP y14 4) h) fun y86 h =>
  thenV (ld1 y86 h) fun y87 h =>
  thenV (appendA 1 1 y85 y87 h) fun y88 h =>
  thenV (some (y88, h)) fun y12 h =>
  thenV (some ((x 13), h)) fun y55 h =>
  thenV (pu (bin Try.prog .add 3 y55 (.int .i64 1)) h) fun y56 h =>
  thenV (some (y56, h)) fun y13 h =>
  some (.normal, (mkF 92 (up x [(12, y12), (13, y13), (14, y14), (51, y51), (52, y52), (53, y53), (54, y54), (55, y55), (56, y56), (57, y57), (58, y58), (59, y59), (60, y60), (61, y61), (62, y62), (63, y63), (64, y64), (65, y65), (66, y66), (67, y67), (68, y68), (69, y69), (70, y70), (71, y71), (72, y72), (73, y73), (74, y74), (75, y75), (76, y76), (77, y77), (78, y78), (79, y79), (80, y80), (81, y81), (82, y82), (83, y83), (84, y84), (85, y85), (86, y86), (87, y87), (88, y88)])), h)
  | _ => none)
  | .bool false =>
  some (.exit 0, (mkF 92 (up x [(51, y51), (52, y52), (53, y53), (54, y54)])), h)
  | _ => none)
theorem t76_eq (C : CallF) (x0 x1 x2 x3 : Value) (h : Heap) : bodyK Try.prog C Try.f76 [x0, x1, x2, x3] h = t76 C x0 x1 x2 x3 h :=
  (bodyB_eq Try.prog C Try.f76 [x0, x1, x2, x3] h (by kernel_rfl)).trans (by kernel_rfl)
theorem t76k76_10_eq (C : CallF) (x : Nat → Value) (h : Heap) : k76_10 C (mkF 92 x) h = t76k76_10 C x h :=
  link_partF (b := (partOf Try.f76 [1, 1, 1, 1, 1, 1])) (kE := (resultsA Try.prog Try.f76.results.toList)) (rE := (resultsA Try.prog Try.f76.results.toList)) (xE := (fun _ _ _ => none)) (T := t76k76_10 C) (fun x h => by kernel_rfl) x h
theorem t76l76_11111010_eq (C : CallF) (x : Nat → Value) (h : Heap) : codeA Try.prog C (partOf Try.f76 [1, 1, 1, 1, 1, 0, 1, 0, 0]) (mkF 92 x) h = t76l76_11111010 C x h :=
  link_roundF (T := t76l76_11111010 C) (fun x h => by kernel_rfl) x h

/-- stolon/stolonref03.ReadSuper -/
noncomputable def t96 (C : CallF) (x0 x1 : Value) (h : Heap) : Out :=
  thenV (box x0 h) fun y2 h =>
  thenV (newC [(.bool false), (.int .u64 0), (.int .i64 0)] h) fun y4 h =>
  thenV (ldN 6 y2 h) fun y6 h =>
  thenV (some (x1, h)) fun y7 h =>
  thenV (C 104 [y6, y7] h) fun y8 h =>
  thenV (some (y8, h)) fun y5 h =>
  thenV (some (y5, h)) fun y9 h =>
  thenV (C 72 [y9] h) fun y10 h =>
  thenV (pu (unA .not y10) h) fun y11 h =>
  thenV (some (y11, h)) fun y12 h =>
  thenV (guardK (bOf y12 == some false) (some (y5, h)) h) fun y13 h =>
  thenV (guardK (bOf y12 == some false) (pu (slR 1 y13 (some (.int .i64 4)) (some (.int .i64 8)) none) h) h) fun y14 h =>
  thenV (guardK (bOf y12 == some false) (cvBS y14 h) h) fun y15 h =>
  thenV (guardK (bOf y12 == some false) (pu (bin Try.prog .neq 9 y15 (.string ⟨#[83, 84, 79, 76]⟩)) h) h) fun y16 h =>
  thenV (match y12 with | .bool t => some (if t then (.bool true) else y16, h) | _ => none) fun y17 h =>
  thenV (some (y17, h)) fun y18 h =>
  thenV (guardK (bOf y18 == some false) (some (y5, h)) h) fun y19 h =>
  thenV (guardK (bOf y18 == some false) (pu (idxS 1 y19 (.int .i64 16)) h) h) fun y20 h =>
  thenV (guardK (bOf y18 == some false) (ld1 y20 h) h) fun y21 h =>
  thenV (guardK (bOf y18 == some false) (pu (bin Try.prog .gtr 5 y21 (.int .u8 1)) h) h) fun y22 h =>
  thenV (match y18 with | .bool t => some (if t then (.bool true) else y22, h) | _ => none) fun y23 h =>
  (match y23 with
  | .bool true =>
  thenV (pu (bldR [(.bool false), (.int .u64 0), (.int .i64 0)] []) h) fun y24 h =>
  thenV (stN 3 y4 y24 h) fun _ h =>
  resultsA Try.prog Try.f96.results.toList (mkF 33 (up (bs [x0, x1]) [(2, y2), (4, y4), (5, y5), (6, y6), (7, y7), (8, y8), (9, y9), (10, y10), (11, y11), (12, y12), (13, y13), (14, y14), (15, y15), (16, y16), (17, y17), (18, y18), (19, y19), (20, y20), (21, y21), (22, y22), (23, y23), (24, y24)])) h
  | .bool false =>
  let g6_0 := h
  thenV (some (y5, g6_0)) fun y25 g6_1 =>
  thenV (pu (slR 1 y25 (some (.int .i64 8)) (some (.int .i64 16)) none) g6_1) fun y26 g6_2 =>
  thenV (C 102 [y26] g6_2) fun y27 g6_3 =>
  thenV (some (y5, g6_3)) fun y28 g6_4 =>
  thenV (pu (idxS 1 y28 (.int .i64 16)) g6_4) fun y29 g6_5 =>
  thenV (ld1 y29 g6_5) fun y30 g6_6 =>
  thenV (cvI .i64 y30 g6_6) fun y31 g6_7 =>
  thenV (pu (bldR [(.bool false), (.int .u64 0), (.int .i64 0)] [(0, 1, (.bool true)), (1, 1, y27), (2, 1, y31)]) g6_7) fun y32 g6_8 =>
  thenV (stN 3 y4 y32 g6_8) fun _ g6_9 =>
  (match (chkR true (ld1 y29 g6_2) y30 && (chkR true (cvI .i64 y30 g6_2) y31 && true)) with
  | true =>
  let h := g6_9
  resultsA Try.prog Try.f96.results.toList (mkF 33 (up (bs [x0, x1]) [(2, y2), (4, y4), (5, y5), (6, y6), (7, y7), (8, y8), (9, y9), (10, y10), (11, y11), (12, y12), (13, y13), (14, y14), (15, y15), (16, y16), (17, y17), (18, y18), (19, y19), (20, y20), (21, y21), (22, y22), (23, y23), (25, y25), (26, y26), (27, y27), (28, y28), (29, y29), (30, y30), (31, y31), (32, y32)])) h
  | false => none)
  | _ => none)
theorem t96_eq (C : CallF) (x0 x1 : Value) (h : Heap) : bodyK Try.prog C Try.f96 [x0, x1] h = t96 C x0 x1 h :=
  (bodyB_eq Try.prog C Try.f96 [x0, x1] h (by kernel_rfl)).trans (by kernel_rfl)

/-- stolon/stolonref03.ReadLog -/
noncomputable def t97 (C : CallF) (x0 x1 x2 : Value) (h : Heap) : Out :=
  thenV (box x0 h) fun y3 h =>
  thenV (newC [(.bool false), (.int .u64 0), (.int .i64 0), (.int .i64 0), (.slice none 0 0)] h) fun y6 h =>
  let g2_0 := h
  thenV (ldN 6 y3 g2_0) fun y10 g2_1 =>
  thenV (some (x1, g2_1)) fun y11 g2_2 =>
  thenV (ldN 6 y3 g2_2) fun y12 g2_3 =>
  thenV (C 46 [y12] g2_3) fun y13 g2_4 =>
  thenV (pu (bin Try.prog .mul 3 y11 y13) g2_4) fun y14 g2_5 =>
  thenV (pu (bin Try.prog .add 3 (.int .i64 2) y14) g2_5) fun y15 g2_6 =>
  thenV (some (x2, g2_6)) fun y16 g2_7 =>
  thenV (pu (bin Try.prog .add 3 y15 y16) g2_7) fun y17 g2_8 =>
  thenV (C 104 [y10, y17] g2_8) fun y18 g2_9 =>
  thenV (some (y18, g2_9)) fun y7 g2_10 =>
  (match (chkR true (ldN 6 y3 g2_4) y10 && true) with
  | true =>
  let h := g2_10
  let g4_0 := h
  thenV (some (y7, g4_0)) fun y19 g4_1 =>
  thenV (pu (slR 1 y19 (some (.int .i64 4)) (some (.int .i64 12)) none) g4_1) fun y20 g4_2 =>
  thenV (C 102 [y20] g4_2) fun y21 g4_3 =>
  thenV (some (y7, g4_3)) fun y22 g4_4 =>
  thenV (pu (slR 1 y22 (some (.int .i64 16)) (some (.int .i64 18)) none) g4_4) fun y23 g4_5 =>
  thenV (C 102 [y23] g4_5) fun y24 g4_6 =>
  thenV (cvI .i64 y24 g4_6) fun y25 g4_7 =>
  thenV (some (y7, g4_7)) fun y26 g4_8 =>
  thenV (pu (slR 1 y26 (some (.int .i64 18)) (some (.int .i64 20)) none) g4_8) fun y27 g4_9 =>
  thenV (C 102 [y27] g4_9) fun y28 g4_10 =>
  thenV (cvI .i64 y28 g4_10) fun y29 g4_11 =>
  thenV (pu (bldR [(.bool false), (.int .u64 0), (.int .i64 0), (.int .i64 0), (.slice none 0 0)] [(0, 1, (.bool true)), (1, 1, y21), (2, 1, y25), (3, 1, y29), (4, 1, (.slice none 0 0))]) g4_11) fun y30 g4_12 =>
  thenV (newC [(.bool false), (.int .u64 0), (.int .i64 0), (.int .i64 0), (.slice none 0 0)] g4_12) fun y8 g4_13 =>
  thenV (stN 5 y8 y30 g4_13) fun _ g4_14 =>
  (match (chkR true (cvI .i64 y24 g4_10) y25 && true) with
  | true =>
  let h := g4_14
  thenV (some (y7, h)) fun y31 h =>
  thenV (pu (slR 1 y31 (some (.int .i64 20)) (some (.int .i64 22)) none) h) fun y32 h =>
  thenV (C 102 [y32] h) fun y33 h =>
  thenV (cvI .i64 y33 h) fun y34 h =>
  thenV (some (y34, h)) fun y9 h =>
  thenV (some (y7, h)) fun y35 h =>
  thenV (C 72 [y35] h) fun y36 h =>
  thenV (pu (unA .not y36) h) fun y37 h =>
  thenV (some (y37, h)) fun y38 h =>
  thenV (guardK (bOf y38 == some false) (some (y7, h)) h) fun y39 h =>
  thenV (guardK (bOf y38 == some false) (pu (slR 1 y39 (some (.int .i64 12)) (some (.int .i64 16)) none) h) h) fun y40 h =>
  thenV (guardK (bOf y38 == some false) (C 102 [y40] h) h) fun y41 h =>
  thenV (guardK (bOf y38 == some false) (some (x2, h)) h) fun y42 h =>
  thenV (guardK (bOf y38 == some false) (cvI .u64 y42 h) h) fun y43 h =>
  thenV (guardK (bOf y38 == some false) (pu (bin Try.prog .neq 58 y41 y43) h) h) fun y44 h =>
  thenV (match y38 with | .bool t => some (if t then (.bool true) else y44, h) | _ => none) fun y45 h =>
  thenV (some (y45, h)) fun y46 h =>
  thenV (guardK (bOf y46 == some false) (pu (addP y8 3) h) h) fun y47 h =>
  thenV (guardK (bOf y46 == some false) (ld1 y47 h) h) fun y48 h =>
  thenV (guardK (bOf y46 == some false) (pu (bin Try.prog .lss 3 y48 (.int .i64 1)) h) h) fun y49 h =>
  thenV (match y46 with | .bool t => some (if t then (.bool true) else y49, h) | _ => none) fun y50 h =>
  thenV (some (y50, h)) fun y51 h =>
  thenV (guardK (bOf y51 == some false) (pu (addP y8 2) h) h) fun y52 h =>
  thenV (guardK (bOf y51 == some false) (ld1 y52 h) h) fun y53 h =>
  thenV (guardK (bOf y51 == some false) (pu (addP y8 3) h) h) fun y54 h =>
  thenV (guardK (bOf y51 == some false) (ld1 y54 h) h) fun y55 h =>
  thenV (guardK (bOf y51 == some false) (pu (bin Try.prog .geq 3 y53 y55) h) h) fun y56 h =>
  thenV (match y51 with | .bool t => some (if t then (.bool true) else y56, h) | _ => none) fun y57 h =>
  thenV (some (y57, h)) fun y58 h =>
  thenV (guardK (bOf y58 == some false) (some (y9, h)) h) fun y59 h =>
  thenV (guardK (bOf y58 == some false) (pu (bin Try.prog .gtr 3 y59 (.int .i64 106)) h) h) fun y60 h =>
  thenV (match y58 with | .bool t => some (if t then (.bool true) else y60, h) | _ => none) fun y61 h =>
  (match y61 with
  | .bool true =>
  thenV (pu (bldR [(.bool false), (.int .u64 0), (.int .i64 0), (.int .i64 0), (.slice none 0 0)] []) h) fun y62 h =>
  thenV (stN 5 y6 y62 h) fun _ h =>
  resultsA Try.prog Try.f97.results.toList (mkF 69 (up (bs [x0, x1, x2]) [(3, y3), (6, y6), (7, y7), (8, y8), (9, y9), (10, y10), (11, y11), (12, y12), (13, y13), (14, y14), (15, y15), (16, y16), (17, y17), (18, y18), (19, y19), (20, y20), (21, y21), (22, y22), (23, y23), (24, y24), (25, y25), (26, y26), (27, y27), (28, y28), (29, y29), (30, y30), (31, y31), (32, y32), (33, y33), (34, y34), (35, y35), (36, y36), (37, y37), (38, y38), (39, y39), (40, y40), (41, y41), (42, y42), (43, y43), (44, y44), (45, y45), (46, y46), (47, y47), (48, y48), (49, y49), (50, y50), (51, y51), (52, y52), (53, y53), (54, y54), (55, y55), (56, y56), (57, y57), (58, y58), (59, y59), (60, y60), (61, y61), (62, y62)])) h
  | .bool false =>
  thenV (some (y7, h)) fun y63 h =>
  thenV (some (y9, h)) fun y64 h =>
  thenV (pu (bin Try.prog .add 3 (.int .i64 22) y64) h) fun y65 h =>
  thenV (pu (slR 1 y63 (some (.int .i64 22)) (some y65) none) h) fun y66 h =>
  thenV (pu (addP y8 4) h) fun y67 h =>
  thenV (stN 1 y67 y66 h) fun _ h =>
  thenV (ldN 5 y8 h) fun y68 h =>
  thenV (stN 5 y6 y68 h) fun _ h =>
  resultsA Try.prog Try.f97.results.toList (mkF 69 (up (bs [x0, x1, x2]) [(3, y3), (6, y6), (7, y7), (8, y8), (9, y9), (10, y10), (11, y11), (12, y12), (13, y13), (14, y14), (15, y15), (16, y16), (17, y17), (18, y18), (19, y19), (20, y20), (21, y21), (22, y22), (23, y23), (24, y24), (25, y25), (26, y26), (27, y27), (28, y28), (29, y29), (30, y30), (31, y31), (32, y32), (33, y33), (34, y34), (35, y35), (36, y36), (37, y37), (38, y38), (39, y39), (40, y40), (41, y41), (42, y42), (43, y43), (44, y44), (45, y45), (46, y46), (47, y47), (48, y48), (49, y49), (50, y50), (51, y51), (52, y52), (53, y53), (54, y54), (55, y55), (56, y56), (57, y57), (58, y58), (59, y59), (60, y60), (61, y61), (63, y63), (64, y64), (65, y65), (66, y66), (67, y67), (68, y68)])) h
  | _ => none)
  | false => none)
  | false => none)
theorem t97_eq (C : CallF) (x0 x1 x2 : Value) (h : Heap) : bodyK Try.prog C Try.f97 [x0, x1, x2] h = t97 C x0 x1 x2 h :=
  (bodyB_eq Try.prog C Try.f97 [x0, x1, x2] h (by kernel_rfl)).trans (by kernel_rfl)

noncomputable def k102_2 (C : CallF) (e : Env) (h : Heap) : Out := codeK Try.prog C (partOf Try.f102 [1, 1, 1]) e h (resultsA Try.prog Try.f102.results.toList) (resultsA Try.prog Try.f102.results.toList) (fun _ _ _ => none)
noncomputable def b102_4 (C : CallF) (i : Nat) (e : Env) (h : Heap) : Out := if i = 0 then (k102_2 C) e h else (fun _ _ _ => none) i e h
/-- stolon/stolonref02.Value -/
noncomputable def t102 (C : CallF) (x0 : Value) (h : Heap) : Out :=
  thenV (some ((.int .u64 0), h)) fun y2 h =>
  thenV (some ((.int .u64 0), h)) fun y3 h =>
  thenV (some ((.int .i64 0), h)) fun y4 h =>
  endL (iter (codeA Try.prog C (partOf Try.f102 [1, 1, 0, 1, 0, 0])) rounds (mkF 20 (up (bs [x0]) [(2, y2), (3, y3), (4, y4)])) h) (resultsA Try.prog Try.f102.results.toList) (b102_4 C)
noncomputable def t102k102_2 (_C : CallF) (x : Nat → Value) (h : Heap) : Out :=
  thenV (some ((x 3), h)) fun y19 h =>
  thenV (some (y19, h)) fun y2 h =>
  some (y2, h)
noncomputable def t102l102_11010 (_C : CallF) (x : Nat → Value) (h : Heap) : Option (Ex × Env × Heap) :=
  thenV (some ((x 4), h)) fun y5 h =>
  thenV (some ((x 0), h)) fun y6 h =>
  thenV (pu (lenL y6) h) fun y7 h =>
  thenV (pu (bin Try.prog .lss 3 y5 y7) h) fun y8 h =>
  (match y8 with
  | .bool true =>
  thenV (some ((x 3), h)) fun y11 h =>
  thenV (pu (bin Try.prog .shl 58 y11 (.int .u64 8)) h) fun y12 h =>
  thenV (some ((x 0), h)) fun y13 h =>
  thenV (some ((x 4), h)) fun y14 h =>
  thenV (pu (idxS 1 y13 y14) h) fun y15 h =>
  thenV (ld1 y15 h) fun y16 h =>
  thenV (cvI .u64 y16 h) fun y17 h =>
  thenV (pu (bin Try.prog .or 58 y12 y17) h) fun y18 h =>
  thenV (some (y18, h)) fun y3 h =>
  thenV (some ((x 4), h)) fun y9 h =>
  thenV (pu (bin Try.prog .add 3 y9 (.int .i64 1)) h) fun y10 h =>
  thenV (some (y10, h)) fun y4 h =>
  some (.normal, (mkF 20 (up x [(3, y3), (4, y4), (5, y5), (6, y6), (7, y7), (8, y8), (9, y9), (10, y10), (11, y11), (12, y12), (13, y13), (14, y14), (15, y15), (16, y16), (17, y17), (18, y18)])), h)
  | .bool false =>
  some (.exit 0, (mkF 20 (up x [(5, y5), (6, y6), (7, y7), (8, y8)])), h)
  | _ => none)
theorem t102_eq (C : CallF) (x0 : Value) (h : Heap) : bodyK Try.prog C Try.f102 [x0] h = t102 C x0 h :=
  (bodyB_eq Try.prog C Try.f102 [x0] h (by kernel_rfl)).trans (by kernel_rfl)
theorem t102k102_2_eq (C : CallF) (x : Nat → Value) (h : Heap) : k102_2 C (mkF 20 x) h = t102k102_2 C x h :=
  link_partF (b := (partOf Try.f102 [1, 1, 1])) (kE := (resultsA Try.prog Try.f102.results.toList)) (rE := (resultsA Try.prog Try.f102.results.toList)) (xE := (fun _ _ _ => none)) (T := t102k102_2 C) (fun x h => by kernel_rfl) x h
theorem t102l102_11010_eq (C : CallF) (x : Nat → Value) (h : Heap) : codeA Try.prog C (partOf Try.f102 [1, 1, 0, 1, 0, 0]) (mkF 20 x) h = t102l102_11010 C x h :=
  link_roundF (T := t102l102_11010 C) (fun x h => by kernel_rfl) x h

noncomputable def k103_2 (C : CallF) (e : Env) (h : Heap) : Out := codeK Try.prog C (partOf Try.f103 [1, 1, 1]) e h (resultsA Try.prog Try.f103.results.toList) (resultsA Try.prog Try.f103.results.toList) (fun _ _ _ => none)
noncomputable def b103_4 (C : CallF) (i : Nat) (e : Env) (h : Heap) : Out := if i = 0 then (k103_2 C) e h else (fun _ _ _ => none) i e h
noncomputable def k103_8 (C : CallF) (e : Env) (h : Heap) : Option (Ex × Env × Heap) := codeK Try.prog C (partOf Try.f103 [1, 1, 0, 1, 0, 0, 1, 1]) e h (fun e h => some (Ex.normal, e, h)) (fun e h => some (Ex.ret, e, h)) (fun i e h => some (Ex.exit i, e, h))
noncomputable def b103_9 (C : CallF) (i : Nat) (e : Env) (h : Heap) : Option (Ex × Env × Heap) := if i = 1 then (k103_8 C) e h else (fun i e h => some (Ex.exit i, e, h)) i e h
noncomputable def b103_12 (C : CallF) (i : Nat) (e : Env) (h : Heap) : Option (Ex × Env × Heap) := if i = 2 then (k103_8 C) e h else (b103_9 C) i e h
/-- stolon/stolonref02.Crc -/
noncomputable def t103 (C : CallF) (x0 : Value) (h : Heap) : Out :=
  thenV (some ((.int .u32 0), h)) fun y2 h =>
  thenV (some ((.int .u32 4294967295), h)) fun y3 h =>
  thenV (some ((.int .i64 0), h)) fun y4 h =>
  endL (iter (codeA Try.prog C (partOf Try.f103 [1, 1, 0, 1, 0, 0])) rounds (mkF 33 (up (bs [x0]) [(2, y2), (3, y3), (4, y4)])) h) (resultsA Try.prog Try.f103.results.toList) (b103_4 C)
noncomputable def t103k103_2 (_C : CallF) (x : Nat → Value) (h : Heap) : Out :=
  thenV (some ((x 3), h)) fun y31 h =>
  thenV (pu (unA .xor y31) h) fun y32 h =>
  thenV (some (y32, h)) fun y2 h =>
  some (y2, h)
noncomputable def t103l103_11010 (C : CallF) (x : Nat → Value) (h : Heap) : Option (Ex × Env × Heap) :=
  thenV (some ((x 4), h)) fun y6 h =>
  thenV (some ((x 0), h)) fun y7 h =>
  thenV (pu (lenL y7) h) fun y8 h =>
  thenV (pu (bin Try.prog .lss 3 y6 y8) h) fun y9 h =>
  (match y9 with
  | .bool true =>
  thenV (some ((x 3), h)) fun y12 h =>
  thenV (some ((x 0), h)) fun y13 h =>
  thenV (some ((x 4), h)) fun y14 h =>
  thenV (pu (idxS 1 y13 y14) h) fun y15 h =>
  thenV (ld1 y15 h) fun y16 h =>
  thenV (cvI .u32 y16 h) fun y17 h =>
  thenV (pu (bin Try.prog .xor 113 y12 y17) h) fun y18 h =>
  thenV (some (y18, h)) fun y3 h =>
  thenV (some ((.int .i64 0), h)) fun y5 h =>
  endL (iter (codeA Try.prog C (partOf Try.f103 [1, 1, 0, 1, 0, 0, 1, 0, 0, 1, 1, 0, 0])) rounds (mkF 33 (up x [(3, y3), (5, y5), (6, y6), (7, y7), (8, y8), (9, y9), (12, y12), (13, y13), (14, y14), (15, y15), (16, y16), (17, y17), (18, y18)])) h) (fun e h => some (Ex.ret, e, h)) (b103_12 C)
  | .bool false =>
  some (.exit 0, (mkF 33 (up x [(6, y6), (7, y7), (8, y8), (9, y9)])), h)
  | _ => none)
noncomputable def t103k103_8 (_C : CallF) (x : Nat → Value) (h : Heap) : Option (Ex × Env × Heap) :=
  thenV (some ((x 4), h)) fun y10 h =>
  thenV (pu (bin Try.prog .add 3 y10 (.int .i64 1)) h) fun y11 h =>
  thenV (some (y11, h)) fun y4 h =>
  some (.normal, (mkF 33 (up x [(4, y4), (10, y10), (11, y11)])), h)
noncomputable def t103l103_110100100110 (_C : CallF) (x : Nat → Value) (h : Heap) : Option (Ex × Env × Heap) :=
  thenV (some ((x 5), h)) fun y19 h =>
  thenV (pu (bin Try.prog .lss 3 y19 (.int .i64 8)) h) fun y20 h =>
  (match y20 with
  | .bool true =>
  thenV (some ((x 3), h)) fun y23 h =>
  thenV (pu (bin Try.prog .and 113 y23 (.int .u32 1)) h) fun y24 h =>
  thenV (pu (bin Try.prog .eql 113 y24 (.int .u32 1)) h) fun y25 h =>
  (match y25 with
  | .bool true =>
  thenV (some ((x 3), h)) fun y26 h =>
  thenV (pu (bin Try.prog .shr 113 y26 (.int .u64 1)) h) fun y27 h =>
  thenV (pu (bin Try.prog .xor 113 y27 (.int .u32 2197175160)) h) fun y28 h =>
  thenV (some (y28, h)) fun y3 h =>
  thenV (some ((x 5), h)) fun y21 h =>
  thenV (pu (bin Try.prog .add 3 y21 (.int .i64 1)) h) fun y22 h =>
  thenV (some (y22, h)) fun y5 h =>
  some (.normal, (mkF 33 (up x [(3, y3), (5, y5), (19, y19), (20, y20), (21, y21), (22, y22), (23, y23), (24, y24), (25, y25), (26, y26), (27, y27), (28, y28)])), h)
  | .bool false =>
  thenV (some ((x 3), h)) fun y29 h =>
  thenV (pu (bin Try.prog .shr 113 y29 (.int .u64 1)) h) fun y30 h =>
  thenV (some (y30, h)) fun y3 h =>
  thenV (some ((x 5), h)) fun y21 h =>
  thenV (pu (bin Try.prog .add 3 y21 (.int .i64 1)) h) fun y22 h =>
  thenV (some (y22, h)) fun y5 h =>
  some (.normal, (mkF 33 (up x [(3, y3), (5, y5), (19, y19), (20, y20), (21, y21), (22, y22), (23, y23), (24, y24), (25, y25), (29, y29), (30, y30)])), h)
  | _ => none)
  | .bool false =>
  some (.exit 2, (mkF 33 (up x [(19, y19), (20, y20)])), h)
  | _ => none)
theorem t103_eq (C : CallF) (x0 : Value) (h : Heap) : bodyK Try.prog C Try.f103 [x0] h = t103 C x0 h :=
  (bodyB_eq Try.prog C Try.f103 [x0] h (by kernel_rfl)).trans (by kernel_rfl)
theorem t103k103_2_eq (C : CallF) (x : Nat → Value) (h : Heap) : k103_2 C (mkF 33 x) h = t103k103_2 C x h :=
  link_partF (b := (partOf Try.f103 [1, 1, 1])) (kE := (resultsA Try.prog Try.f103.results.toList)) (rE := (resultsA Try.prog Try.f103.results.toList)) (xE := (fun _ _ _ => none)) (T := t103k103_2 C) (fun x h => by kernel_rfl) x h
theorem t103l103_11010_eq (C : CallF) (x : Nat → Value) (h : Heap) : codeA Try.prog C (partOf Try.f103 [1, 1, 0, 1, 0, 0]) (mkF 33 x) h = t103l103_11010 C x h :=
  link_roundF (T := t103l103_11010 C) (fun x h => by kernel_rfl) x h
theorem t103k103_8_eq (C : CallF) (x : Nat → Value) (h : Heap) : k103_8 C (mkF 33 x) h = t103k103_8 C x h :=
  link_partF (b := (partOf Try.f103 [1, 1, 0, 1, 0, 0, 1, 1])) (kE := (fun e h => some (Ex.normal, e, h))) (rE := (fun e h => some (Ex.ret, e, h))) (xE := (fun i e h => some (Ex.exit i, e, h))) (T := t103k103_8 C) (fun x h => by kernel_rfl) x h
theorem t103l103_110100100110_eq (C : CallF) (x : Nat → Value) (h : Heap) : codeA Try.prog C (partOf Try.f103 [1, 1, 0, 1, 0, 0, 1, 0, 0, 1, 1, 0, 0]) (mkF 33 x) h = t103l103_110100100110 C x h :=
  link_roundF (T := t103l103_110100100110 C) (fun x h => by kernel_rfl) x h

/-- stolon/stolonref03.Block -/
noncomputable def t104 (_C : CallF) (x0 x1 : Value) (h : Heap) : Out :=
  thenV (box x0 h) fun y2 h =>
  thenV (some ((.slice none 0 0), h)) fun _y4 h =>
  thenV (bslR 1 (.int .u8 0) 0 [] h) fun y5 h =>
  thenV (pu (addP y2 0) h) fun y6 h =>
  thenV (ld1 y6 h) fun y7 h =>
  thenV (some (x1, h)) fun y8 h =>
  thenV (pu (bin Try.prog .mul 3 (.int .i64 128) y8) h) fun y9 h =>
  thenV (some (x1, h)) fun y10 h =>
  thenV (pu (bin Try.prog .mul 3 (.int .i64 128) y10) h) fun y11 h =>
  thenV (pu (bin Try.prog .add 3 y11 (.int .i64 128)) h) fun y12 h =>
  thenV (pu (slR 1 y7 (some y9) (some y12) none) h) fun y13 h =>
  thenV (appendA 1 1 y5 y13 h) fun y14 h =>
  thenV (some (y14, h)) fun y4_1 h =>
  some (y4_1, h)
theorem t104_eq (C : CallF) (x0 x1 : Value) (h : Heap) : bodyK Try.prog C Try.f104 [x0, x1] h = t104 C x0 x1 h :=
  (bodyB_eq Try.prog C Try.f104 [x0, x1] h (by kernel_rfl)).trans (by kernel_rfl)

noncomputable def k12_12 (C : CallF) (e : Env) (h : Heap) : Out := codeK Try.prog C (partOf Try.f12 [1, 1, 1, 1, 1, 1, 1]) e h (resultsA Try.prog Try.f12.results.toList) (resultsA Try.prog Try.f12.results.toList) (fun _ _ _ => none)
noncomputable def b12_14 (C : CallF) (i : Nat) (e : Env) (h : Heap) : Out := if i = 0 then (k12_12 C) e h else (fun _ _ _ => none) i e h
/-- stolon/stolonlaw03.DiskDevice -/
noncomputable def t12 (C : CallF) (x0 x1 : Value) (h : Heap) : Out :=
  thenV (some ((.bool false), h)) fun y4 h =>
  thenV (some (x0, h)) fun y11 h =>
  thenV (some (x1, h)) fun y12 h =>
  thenV (C 17 [y11, y12] h) fun y13 h =>
  (match y13 with
  | .bool true =>
  thenV (C 14 [] h) fun y14 h =>
  thenV (some (y14, h)) fun y4_1 h =>
  some (y4_1, h)
  | .bool false =>
  thenV (some (x0, h)) fun y16 h =>
  thenV (C 18 [y16] h) fun y17 h =>
  thenV (some (y17, h)) fun y15 h =>
  thenV (pu (extractA y15 0) h) fun y18 h =>
  thenV (pu (extractA y15 1) h) fun y19 h =>
  thenV (some (y18, h)) fun y5 h =>
  thenV (some (y19, h)) fun y6 h =>
  thenV (some (x0, h)) fun y21 h =>
  thenV (C 35 [y21] h) fun y22 h =>
  thenV (some (y22, h)) fun y20 h =>
  thenV (pu (extractA y20 0) h) fun y23 h =>
  thenV (pu (extractA y20 1) h) fun y24 h =>
  thenV (newC [(.slice none 0 0), (.bool false), (.bool false), (.int .i64 0), (.int .i64 0), (.int .i64 0)] h) fun y7 h =>
  thenV (stN 6 y7 y23 h) fun _ h =>
  thenV (some (y24, h)) fun y8 h =>
  thenV (some (y6, h)) fun y25 h =>
  thenV (some (y8, h)) fun y26 h =>
  thenV (pu (bin Try.prog .neq 28 y25 y26) h) fun y27 h =>
  thenV (some (y27, h)) fun y28 h =>
  thenV (guardK (bOf y28 == some false) (some (y5, h)) h) fun y29 h =>
  thenV (guardK (bOf y28 == some false) (pu (bin Try.prog .eql 27 y29 (.pointer none)) h) h) fun y30 h =>
  thenV (guardK (bOf y28 == some false) (some (y8, h)) h) fun y31 h =>
  thenV (guardK (bOf y28 == some false) (pu (bin Try.prog .neq 28 y31 (.int .i64 0)) h) h) fun y32 h =>
  thenV (guardK (bOf y28 == some false) (pu (bin Try.prog .neq 4 y30 y32) h) h) fun y33 h =>
  thenV (match y28 with | .bool t => some (if t then (.bool true) else y33, h) | _ => none) fun y34 h =>
  (match y34 with
  | .bool true =>
  thenV (some ((.bool false), h)) fun y4_1 h =>
  some (y4_1, h)
  | .bool false =>
  thenV (some (y8, h)) fun y35 h =>
  thenV (pu (bin Try.prog .neq 28 y35 (.int .i64 0)) h) fun y36 h =>
  (match y36 with
  | .bool true =>
  thenV (C 14 [] h) fun y37 h =>
  thenV (some (y37, h)) fun y4_1 h =>
  some (y4_1, h)
  | .bool false =>
  thenV (some ((.int .i64 0), h)) fun y9 h =>
  endL (iter (codeA Try.prog C (partOf Try.f12 [1, 1, 1, 1, 1, 1, 0, 1, 0, 0])) rounds (mkF 80 (up (bs [x0, x1]) [(4, y4), (5, y5), (6, y6), (7, y7), (8, y8), (9, y9), (11, y11), (12, y12), (13, y13), (15, y15), (16, y16), (17, y17), (18, y18), (19, y19), (20, y20), (21, y21), (22, y22), (23, y23), (24, y24), (25, y25), (26, y26), (27, y27), (28, y28), (29, y29), (30, y30), (31, y31), (32, y32), (33, y33), (34, y34), (35, y35), (36, y36)])) h) (resultsA Try.prog Try.f12.results.toList) (b12_14 C)
  | _ => none)
  | _ => none)
  | _ => none)
noncomputable def k10_18 (C : CallF) (e : Env) (h : Heap) : Out := codeK Try.prog C (partOf Try.f10 [1, 1, 1, 1, 1, 1, 1, 1, 1, 1]) e h (resultsA Try.prog Try.f10.results.toList) (resultsA Try.prog Try.f10.results.toList) (fun _ _ _ => none)
noncomputable def b10_20 (C : CallF) (i : Nat) (e : Env) (h : Heap) : Out := if i = 0 then (k10_18 C) e h else (fun _ _ _ => none) i e h
/-- stolon/stolonlaw03.DiskLoads -/
noncomputable def t10 (C : CallF) (x0 : Value) (h : Heap) : Out :=
  thenV (some ((.bool false), h)) fun y2 h =>
  thenV (some (x0, h)) fun y16 h =>
  thenV (pu (lenL y16) h) fun y17 h =>
  thenV (pu (bin Try.prog .gtr 3 y17 (.int .i64 8319)) h) fun y18 h =>
  (match y18 with
  | .bool true =>
  thenV (C 14 [] h) fun y19 h =>
  thenV (some (y19, h)) fun y2_1 h =>
  some (y2_1, h)
  | .bool false =>
  thenV (bslR 1 (.int .u8 0) 0 [] h) fun y21 h =>
  thenV (some (x0, h)) fun y22 h =>
  thenV (appendA 1 1 y21 y22 h) fun y23 h =>
  thenV (C 43 [y23] h) fun y24 h =>
  thenV (some (y24, h)) fun y20 h =>
  thenV (pu (extractA y20 0) h) fun y25 h =>
  thenV (pu (extractA y20 1) h) fun y26 h =>
  thenV (some (y25, h)) fun y3 h =>
  thenV (some (y26, h)) fun y4 h =>
  thenV (some (x0, h)) fun y28 h =>
  thenV (C 37 [y28] h) fun y29 h =>
  thenV (some (y29, h)) fun y27 h =>
  thenV (pu (extractA y27 0) h) fun y30 h =>
  thenV (pu (extractA y27 1) h) fun y31 h =>
  thenV (newC [(.slice none 0 0), (.bool false), (.bool false), (.int .i64 0), (.int .i64 0), (.int .i64 0)] h) fun y5 h =>
  thenV (stN 6 y5 y30 h) fun _ h =>
  thenV (some (y31, h)) fun y6 h =>
  thenV (some (y4, h)) fun y32 h =>
  thenV (some (y6, h)) fun y33 h =>
  thenV (pu (bin Try.prog .neq 28 y32 y33) h) fun y34 h =>
  thenV (some (y34, h)) fun y35 h =>
  thenV (guardK (bOf y35 == some false) (some (y3, h)) h) fun y36 h =>
  thenV (guardK (bOf y35 == some false) (pu (bin Try.prog .eql 27 y36 (.pointer none)) h) h) fun y37 h =>
  thenV (guardK (bOf y35 == some false) (some (y6, h)) h) fun y38 h =>
  thenV (guardK (bOf y35 == some false) (pu (bin Try.prog .neq 28 y38 (.int .i64 0)) h) h) fun y39 h =>
  thenV (guardK (bOf y35 == some false) (pu (bin Try.prog .neq 4 y37 y39) h) h) fun y40 h =>
  thenV (match y35 with | .bool t => some (if t then (.bool true) else y40, h) | _ => none) fun y41 h =>
  (match y41 with
  | .bool true =>
  thenV (some ((.bool false), h)) fun y2_1 h =>
  some (y2_1, h)
  | .bool false =>
  thenV (some (y6, h)) fun y42 h =>
  thenV (pu (bin Try.prog .neq 28 y42 (.int .i64 0)) h) fun y43 h =>
  (match y43 with
  | .bool true =>
  thenV (C 14 [] h) fun y44 h =>
  thenV (some (y44, h)) fun y2_1 h =>
  some (y2_1, h)
  | .bool false =>
  thenV (some (y3, h)) fun y46 h =>
  thenV (C 21 [y46] h) fun y47 h =>
  thenV (some (y47, h)) fun y45 h =>
  thenV (pu (extractA y45 0) h) fun y48 h =>
  thenV (pu (extractA y45 1) h) fun y49 h =>
  thenV (pu (extractA y45 2) h) fun y50 h =>
  thenV (some (y48, h)) fun y7 h =>
  thenV (some (y49, h)) fun y8 h =>
  thenV (some (y50, h)) fun y4_1 h =>
  thenV (ldN 6 y5 h) fun y52 h =>
  thenV (C 38 [y52] h) fun y53 h =>
  thenV (some (y53, h)) fun y51 h =>
  thenV (pu (extractA y51 0) h) fun y54 h =>
  thenV (pu (extractA y51 1) h) fun y55 h =>
  thenV (pu (extractA y51 2) h) fun y56 h =>
  thenV (pu (extractA y51 3) h) fun y57 h =>
  thenV (newC [(.int .i64 0), (.int .i64 0), (.int .u64 0), (.int .i64 0), (.int .u64 0), (.bool false), (.int .i64 0), (.bool false)] h) fun y9 h =>
  thenV (stN 6 y5 y54 h) fun _ h =>
  thenV (stN 8 y9 y55 h) fun _ h =>
  thenV (some (y56, h)) fun y10 h =>
  thenV (some (y57, h)) fun y6_1 h =>
  let g16_0 := h
  thenV (some (y4_1, g16_0)) fun y58 g16_1 =>
  thenV (some (y6_1, g16_1)) fun y59 g16_2 =>
  thenV (pu (bin Try.prog .neq 28 y58 y59) g16_2) fun y60 g16_3 =>
  thenV (some (y60, g16_3)) fun y61 g16_4 =>
  thenV (guardK (bOf y61 == some false) (some (y4_1, g16_4)) g16_4) fun y62 g16_5 =>
  thenV (guardK (bOf y61 == some false) (pu (bin Try.prog .neq 28 y62 (.int .i64 0)) g16_5) g16_5) fun y63 g16_6 =>
  thenV (match y61 with | .bool t => some (if t then (.bool true) else y63, g16_6) | _ => none) fun y64 g16_7 =>
  thenV (some (y64, g16_7)) fun y65 g16_8 =>
  thenV (guardK (bOf y65 == some false) (some (y8, g16_8)) g16_8) fun y66 g16_9 =>
  thenV (guardK (bOf y65 == some false) (some (y10, g16_9)) g16_9) fun y67 g16_10 =>
  thenV (guardK (bOf y65 == some false) (C 44 [y66, y67] g16_10) g16_10) fun y68 g16_11 =>
  thenV (guardK (bOf y65 == some false) (pu (unA .not y68) g16_11) g16_11) fun y69 g16_12 =>
  thenV (match y65 with | .bool t => some (if t then (.bool true) else y69, g16_12) | _ => none) fun y70 g16_13 =>
  thenV (some (y70, g16_13)) fun y71 g16_14 =>
  thenV (guardK (bOf y71 == some false) (some (y7, g16_14)) g16_14) fun y72 g16_15 =>
  thenV (guardK (bOf y71 == some false) (ldN 8 y9 g16_15) g16_15) fun y73 g16_16 =>
  thenV (guardK (bOf y71 == some false) (pu (bldR [(.pointer none), (.int .i64 0), (.int .i64 0), (.int .u64 0), (.int .i64 0), (.int .u64 0), (.bool false), (.int .i64 0), (.bool false)] [(0, 1, y72), (1, 8, y73)]) g16_16) g16_16) fun y74 g16_17 =>
  thenV (guardK (bOf y71 == some false) (ldN 6 y5 g16_17) g16_17) fun y75 g16_18 =>
  thenV (guardK (bOf y71 == some false) (C 45 [y74, y75] g16_18) g16_18) fun y76 g16_19 =>
  thenV (guardK (bOf y71 == some false) (pu (unA .not y76) g16_19) g16_19) fun y77 g16_20 =>
  thenV (match y71 with | .bool t => some (if t then (.bool true) else y77, g16_20) | _ => none) fun y78 g16_21 =>
  thenV (some (y78, g16_21)) fun y79 g16_22 =>
  thenV (guardK (bOf y79 == some false) (some (y3, g16_22)) g16_22) fun y80 g16_23 =>
  thenV (guardK (bOf y79 == some false) (C 25 [y80] g16_23) g16_23) fun y81 g16_24 =>
  thenV (guardK (bOf y79 == some false) (cvBS y81 g16_24) g16_24) fun y82 g16_25 =>
  thenV (guardK (bOf y79 == some false) (some (x0, g16_25)) g16_25) fun y83 g16_26 =>
  thenV (guardK (bOf y79 == some false) (cvBS y83 g16_26) g16_26) fun y84 g16_27 =>
  thenV (guardK (bOf y79 == some false) (pu (bin Try.prog .neq 9 y82 y84) g16_27) g16_27) fun y85 g16_28 =>
  thenV (match y79 with | .bool t => some (if t then (.bool true) else y85, g16_28) | _ => none) fun y86 g16_29 =>
  (match (chkR (bOf y79 == some false) (cvBS y83 g16_23) y84 && true) with
  | true =>
  let h := g16_29
  (match y86 with
  | .bool true =>
  thenV (some ((.bool false), h)) fun y2_1 h =>
  some (y2_1, h)
  | .bool false =>
  thenV (some ((.int .i64 (-1)), h)) fun y11 h =>
  endL (iter (codeA Try.prog C (partOf Try.f10 [1, 1, 1, 1, 1, 1, 1, 1, 1, 0, 1, 0, 0])) rounds (mkF 117 (up (bs [x0]) [(2, y2), (3, y3), (4, y4_1), (5, y5), (6, y6_1), (7, y7), (8, y8), (9, y9), (10, y10), (11, y11), (16, y16), (17, y17), (18, y18), (20, y20), (21, y21), (22, y22), (23, y23), (24, y24), (25, y25), (26, y26), (27, y27), (28, y28), (29, y29), (30, y30), (31, y31), (32, y32), (33, y33), (34, y34), (35, y35), (36, y36), (37, y37), (38, y38), (39, y39), (40, y40), (41, y41), (42, y42), (43, y43), (45, y45), (46, y46), (47, y47), (48, y48), (49, y49), (50, y50), (51, y51), (52, y52), (53, y53), (54, y54), (55, y55), (56, y56), (57, y57), (58, y58), (59, y59), (60, y60), (61, y61), (62, y62), (63, y63), (64, y64), (65, y65), (66, y66), (67, y67), (68, y68), (69, y69), (70, y70), (71, y71), (72, y72), (73, y73), (74, y74), (75, y75), (76, y76), (77, y77), (78, y78), (79, y79), (80, y80), (81, y81), (82, y82), (83, y83), (84, y84), (85, y85), (86, y86)])) h) (resultsA Try.prog Try.f10.results.toList) (b10_20 C)
  | _ => none)
  | false => none)
  | _ => none)
  | _ => none)
  | _ => none)
noncomputable def t10k10_18 (C : CallF) (_x : Nat → Value) (h : Heap) : Out :=
  thenV (C 14 [] h) fun y116 h =>
  thenV (some (y116, h)) fun y2 h =>
  some (y2, h)
noncomputable def t10l10_111111111010 (C : CallF) (x : Nat → Value) (h : Heap) : Option (Ex × Env × Heap) :=
  thenV (some ((x 11), h)) fun y87 h =>
  thenV (ldN 6 (x 5) h) fun y88 h =>
  thenV (C 46 [y88] h) fun y89 h =>
  thenV (pu (bin Try.prog .leq 3 y87 y89) h) fun y90 h =>
  (match y90 with
  | .bool true =>
  thenV (some ((x 7), h)) fun y94 h =>
  thenV (some ((x 11), h)) fun y95 h =>
  thenV (C 28 [y94, y95] h) fun y96 h =>
  thenV (some (y96, h)) fun y93 h =>
  thenV (pu (extractA y93 0) h) fun y97 h =>
  thenV (pu (extractA y93 1) h) fun y98 h =>
  thenV (some (y97, h)) fun y12 h =>
  thenV (some (y98, h)) fun y13 h =>
  thenV (ldN 6 (x 5) h) fun y100 h =>
  thenV (ldN 8 (x 9) h) fun y101 h =>
  thenV (some ((x 11), h)) fun y102 h =>
  thenV (C 47 [y100, y101, y102] h) fun y103 h =>
  thenV (some (y103, h)) fun y99 h =>
  thenV (pu (extractA y99 0) h) fun y104 h =>
  thenV (pu (extractA y99 1) h) fun y105 h =>
  thenV (some (y104, h)) fun y14 h =>
  thenV (some (y105, h)) fun y15 h =>
  thenV (some (y13, h)) fun y106 h =>
  thenV (some (y15, h)) fun y107 h =>
  thenV (pu (bin Try.prog .neq 28 y106 y107) h) fun y108 h =>
  thenV (some (y108, h)) fun y109 h =>
  thenV (guardK (bOf y109 == some false) (some (y12, h)) h) fun y110 h =>
  thenV (guardK (bOf y109 == some false) (cvBS y110 h) h) fun y111 h =>
  thenV (guardK (bOf y109 == some false) (some (y14, h)) h) fun y112 h =>
  thenV (guardK (bOf y109 == some false) (cvBS y112 h) h) fun y113 h =>
  thenV (guardK (bOf y109 == some false) (pu (bin Try.prog .neq 9 y111 y113) h) h) fun y114 h =>
  thenV (match y109 with | .bool t => some (if t then (.bool true) else y114, h) | _ => none) fun y115 h =>
  (match y115 with
  | .bool true =>
  thenV (some ((.bool false), h)) fun y2 h =>
  some (.ret, (mkF 117 (up x [(2, y2), (12, y12), (13, y13), (14, y14), (15, y15), (87, y87), (88, y88), (89, y89), (90, y90), (93, y93), (94, y94), (95, y95), (96, y96), (97, y97), (98, y98), (99, y99), (100, y100), (101, y101), (102, y102), (103, y103), (104, y104), (105, y105), (106, y106), (107, y107), (108, y108), (109, y109), (110, y110), (111, y111), (112, y112), (113, y113), (114, y114), (115, y115)])), h)
  | .bool false =>
  thenV (some ((x 11), h)) fun y91 h =>
  thenV (pu (bin Try.prog .add 3 y91 (.int .i64 1)) h) fun y92 h =>
  thenV (some (y92, h)) fun y11 h =>
  some (.normal, (mkF 117 (up x [(11, y11), (12, y12), (13, y13), (14, y14), (15, y15), (87, y87), (88, y88), (89, y89), (90, y90), (91, y91), (92, y92), (93, y93), (94, y94), (95, y95), (96, y96), (97, y97), (98, y98), (99, y99), (100, y100), (101, y101), (102, y102), (103, y103), (104, y104), (105, y105), (106, y106), (107, y107), (108, y108), (109, y109), (110, y110), (111, y111), (112, y112), (113, y113), (114, y114), (115, y115)])), h)
  | _ => none)
  | .bool false =>
  some (.exit 0, (mkF 117 (up x [(87, y87), (88, y88), (89, y89), (90, y90)])), h)
  | _ => none)
theorem t10_eq (C : CallF) (x0 : Value) (h : Heap) : bodyK Try.prog C Try.f10 [x0] h = t10 C x0 h :=
  (bodyB_eq Try.prog C Try.f10 [x0] h (by kernel_rfl)).trans (by kernel_rfl)
theorem t10k10_18_eq (C : CallF) (x : Nat → Value) (h : Heap) : k10_18 C (mkF 117 x) h = t10k10_18 C x h :=
  link_partF (b := (partOf Try.f10 [1, 1, 1, 1, 1, 1, 1, 1, 1, 1])) (kE := (resultsA Try.prog Try.f10.results.toList)) (rE := (resultsA Try.prog Try.f10.results.toList)) (xE := (fun _ _ _ => none)) (T := t10k10_18 C) (fun x h => by kernel_rfl) x h
theorem t10l10_111111111010_eq (C : CallF) (x : Nat → Value) (h : Heap) : codeA Try.prog C (partOf Try.f10 [1, 1, 1, 1, 1, 1, 1, 1, 1, 0, 1, 0, 0]) (mkF 117 x) h = t10l10_111111111010 C x h :=
  link_roundF (T := t10l10_111111111010 C) (fun x h => by kernel_rfl) x h

end Go.Proofs.Ytcmfgmhadeeieaa

namespace Go.Proofs.Ytcmfgmhadeeieaa
open Go Go.Abs
noncomputable def k43_8 (C : CallF) (e : Env) (h : Heap) : Out := codeK Try.prog C (partOf Try.f43 [1, 1, 1, 1, 1]) e h (resultsA Try.prog Try.f43.results.toList) (resultsA Try.prog Try.f43.results.toList) (fun _ _ _ => none)
noncomputable def b43_10 (C : CallF) (i : Nat) (e : Env) (h : Heap) : Out := if i = 0 then (k43_8 C) e h else (fun _ _ _ => none) i e h
/-- stolon/disk.LoadDisk -/
noncomputable def t43 (C : CallF) (x0 : Value) (h : Heap) : Out :=
  thenV (some ((.pointer none), h)) fun y2 h =>
  thenV (some ((.int .i64 0), h)) fun y3 h =>
  thenV (some (x0, h)) fun y7 h =>
  thenV (pu (lenL y7) h) fun y8 h =>
  thenV (pu (bin Try.prog .rem 3 y8 (.int .i64 128)) h) fun y9 h =>
  thenV (pu (bin Try.prog .neq 3 y9 (.int .i64 0)) h) fun y10 h =>
  (match y10 with
  | .bool true =>
  thenV (some ((.pointer none), h)) fun y2_1 h =>
  thenV (some ((.int .i64 2), h)) fun y3_1 h =>
  some (.tuple #[y2_1, y3_1], h)
  | .bool false =>
  thenV (some (x0, h)) fun y12 h =>
  thenV (pu (lenL y12) h) fun y13 h =>
  thenV (pu (bin Try.prog .quo 3 y13 (.int .i64 128)) h) fun y14 h =>
  thenV (C 18 [y14] h) fun y15 h =>
  thenV (some (y15, h)) fun y11 h =>
  thenV (pu (extractA y11 0) h) fun y16 h =>
  thenV (pu (extractA y11 1) h) fun y17 h =>
  thenV (some (y16, h)) fun y4 h =>
  thenV (some (y17, h)) fun y5 h =>
  thenV (some (y5, h)) fun y18 h =>
  thenV (pu (bin Try.prog .neq 28 y18 (.int .i64 0)) h) fun y19 h =>
  (match y19 with
  | .bool true =>
  thenV (some (y5, h)) fun y20 h =>
  thenV (some ((.pointer none), h)) fun y2_1 h =>
  thenV (some (y20, h)) fun y3_1 h =>
  some (.tuple #[y2_1, y3_1], h)
  | .bool false =>
  thenV (some (y4, h)) fun y21 h =>
  thenV (pu (nilCheckA y21) h) fun y22 h =>
  thenV (pu (addP y22 0) h) fun y23 h =>
  thenV (ld1 y23 h) fun y24 h =>
  thenV (pu (lenL y24) h) fun y25 h =>
  thenV (some ((.int .i64 0), h)) fun y26 h =>
  endL (iter (codeA Try.prog C (partOf Try.f43 [1, 1, 1, 1, 0, 1, 0, 0])) rounds (mkF 43 (up (bs [x0]) [(2, y2), (3, y3), (4, y4), (5, y5), (7, y7), (8, y8), (9, y9), (10, y10), (11, y11), (12, y12), (13, y13), (14, y14), (15, y15), (16, y16), (17, y17), (18, y18), (19, y19), (21, y21), (22, y22), (23, y23), (24, y24), (25, y25), (26, y26)])) h) (resultsA Try.prog Try.f43.results.toList) (b43_10 C)
  | _ => none)
  | _ => none)
noncomputable def t43k43_8 (_C : CallF) (x : Nat → Value) (h : Heap) : Out :=
  thenV (some ((x 4), h)) fun y42 h =>
  thenV (some (y42, h)) fun y2 h =>
  thenV (some ((.int .i64 0), h)) fun y3 h =>
  some (.tuple #[y2, y3], h)
noncomputable def t43l43_1111010 (_C : CallF) (x : Nat → Value) (h : Heap) : Option (Ex × Env × Heap) :=
  thenV (pu (bin Try.prog .lss 3 (x 26) (x 25)) h) fun y27 h =>
  (match y27 with
  | .bool true =>
  thenV (some ((x 26), h)) fun y28 h =>
  thenV (some (y28, h)) fun y6 h =>
  thenV (some ((x 4), h)) fun y29 h =>
  thenV (pu (nilCheckA y29) h) fun y30 h =>
  thenV (pu (addP y30 0) h) fun y31 h =>
  thenV (ld1 y31 h) fun y32 h =>
  thenV (some (y6, h)) fun y33 h =>
  thenV (pu (idxS 128 y32 y33) h) fun y34 h =>
  thenV (pu (sliceArr 128 1 y34 none none none) h) fun y35 h =>
  thenV (some ((x 0), h)) fun y36 h =>
  thenV (some (y6, h)) fun y37 h =>
  thenV (pu (bin Try.prog .mul 3 y37 (.int .i64 128)) h) fun y38 h =>
  thenV (pu (slR 1 y36 (some y38) none none) h) fun y39 h =>
  thenV (copyA 1 y35 y39 h) fun y40 h =>
  thenV (pu (bin Try.prog .add 3 (x 26) (.int .i64 1)) h) fun y41 h =>
  thenV (some (y41, h)) fun y26 h =>
  some (.normal, (mkF 43 (up x [(6, y6), (26, y26), (27, y27), (28, y28), (29, y29), (30, y30), (31, y31), (32, y32), (33, y33), (34, y34), (35, y35), (36, y36), (37, y37), (38, y38), (39, y39), (40, y40), (41, y41)])), h)
  | .bool false =>
  some (.exit 0, (mkF 43 (up x [(27, y27)])), h)
  | _ => none)
theorem t43_eq (C : CallF) (x0 : Value) (h : Heap) : bodyK Try.prog C Try.f43 [x0] h = t43 C x0 h :=
  (bodyB_eq Try.prog C Try.f43 [x0] h (by kernel_rfl)).trans (by kernel_rfl)
theorem t43k43_8_eq (C : CallF) (x : Nat → Value) (h : Heap) : k43_8 C (mkF 43 x) h = t43k43_8 C x h :=
  link_partF (b := (partOf Try.f43 [1, 1, 1, 1, 1])) (kE := (resultsA Try.prog Try.f43.results.toList)) (rE := (resultsA Try.prog Try.f43.results.toList)) (xE := (fun _ _ _ => none)) (T := t43k43_8 C) (fun x h => by kernel_rfl) x h
theorem t43l43_1111010_eq (C : CallF) (x : Nat → Value) (h : Heap) : codeA Try.prog C (partOf Try.f43 [1, 1, 1, 1, 0, 1, 0, 0]) (mkF 43 x) h = t43l43_1111010 C x h :=
  link_roundF (T := t43l43_1111010 C) (fun x h => by kernel_rfl) x h

end Go.Proofs.Ytcmfgmhadeeieaa

