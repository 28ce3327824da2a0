/-
  The swarm: printed texts of functions, each linked to the program.
  Conditions: none.
  The swarm: printed texts of functions, each linked to the program.
  Conditions: none.
-/
import Derived.Test.YtdmnphocgfnlpaaGreatDoorG13
import Derived.Test.YtdmnphocgfnlpaaGreatDoorProg
import Derived.KernelRfl
namespace Go.Proofs.YtdmnphocgfnlpaaGreatDoor
open Go Go.Abs
noncomputable def k52_2 (C : CallF) (e : Env) (h : Heap) : Out := codeK Tryz.prog C (partOf Tryz.f52 [1, 1, 1]) e h (resultsA Tryz.prog Tryz.f52.results.toList) (resultsA Tryz.prog Tryz.f52.results.toList) (fun _ _ _ => none)
noncomputable def b52_4 (C : CallF) (i : Nat) (e : Env) (h : Heap) : Out := if i = 0 then (k52_2 C) e h else (fun _ _ _ => none) i e h
/-- stolon/stolonref02.Value -/
noncomputable def t52 (C : CallF) (x0 : Value) (h : Heap) : Out :=
  thenV (some ((.int .u64 0), h)) fun y2 h =>
  thenV (some ((.int .u64 0), h)) fun y3 h =>
  thenV (some ((.int .i64 0), h)) fun y4 h =>
  endL (iter (codeA Tryz.prog C (partOf Tryz.f52 [1, 1, 0, 1, 0, 0])) rounds (mkF 20 (up (bs [x0]) [(2, y2), (3, y3), (4, y4)])) h) (resultsA Tryz.prog Tryz.f52.results.toList) (b52_4 C)
noncomputable def t52k52_2 (C : CallF) (x : Nat → Value) (h : Heap) : Out :=
  thenV (some ((x 3), h)) fun y19 h =>
  thenV (some (y19, h)) fun y2 h =>
  some (y2, h)
noncomputable def t52l52_11010 (C : CallF) (x : Nat → Value) (h : Heap) : Option (Ex × Env × Heap) :=
  thenV (some ((x 4), h)) fun y5 h =>
  thenV (some ((x 0), h)) fun y6 h =>
  thenV (pu (lenL y6) h) fun y7 h =>
  thenV (pu (bin Tryz.prog .lss 3 y5 y7) h) fun y8 h =>
  (match y8 with
  | .bool true =>
  thenV (some ((x 3), h)) fun y11 h =>
  thenV (pu (bin Tryz.prog .shl 27 y11 (.int .u64 8)) h) fun y12 h =>
  thenV (some ((x 0), h)) fun y13 h =>
  thenV (some ((x 4), h)) fun y14 h =>
  thenV (pu (idxS 1 y13 y14) h) fun y15 h =>
  thenV (ld1 y15 h) fun y16 h =>
  thenV (cvI .u64 y16 h) fun y17 h =>
  thenV (pu (bin Tryz.prog .or 27 y12 y17) h) fun y18 h =>
  thenV (some (y18, h)) fun y3 h =>
  thenV (some ((x 4), h)) fun y9 h =>
  thenV (pu (bin Tryz.prog .add 3 y9 (.int .i64 1)) h) fun y10 h =>
  thenV (some (y10, h)) fun y4 h =>
  some (.normal, (mkF 20 (up x [(3, y3), (4, y4), (5, y5), (6, y6), (7, y7), (8, y8), (9, y9), (10, y10), (11, y11), (12, y12), (13, y13), (14, y14), (15, y15), (16, y16), (17, y17), (18, y18)])), h)
  | .bool false =>
  some (.exit 0, (mkF 20 (up x [(5, y5), (6, y6), (7, y7), (8, y8)])), h)
  | _ => none)
theorem t52_eq (C : CallF) (x0 : Value) (h : Heap) : bodyK Tryz.prog C Tryz.f52 [x0] h = t52 C x0 h :=
  (bodyB_eq Tryz.prog C Tryz.f52 [x0] h (by kernel_rfl)).trans (by kernel_rfl)
theorem t52k52_2_eq (C : CallF) (x : Nat → Value) (h : Heap) : k52_2 C (mkF 20 x) h = t52k52_2 C x h :=
  link_partF (b := (partOf Tryz.f52 [1, 1, 1])) (kE := (resultsA Tryz.prog Tryz.f52.results.toList)) (rE := (resultsA Tryz.prog Tryz.f52.results.toList)) (xE := (fun _ _ _ => none)) (T := t52k52_2 C) (fun x h => by kernel_rfl) x h
theorem t52l52_11010_eq (C : CallF) (x : Nat → Value) (h : Heap) : codeA Tryz.prog C (partOf Tryz.f52 [1, 1, 0, 1, 0, 0]) (mkF 20 x) h = t52l52_11010 C x h :=
  link_roundF (T := t52l52_11010 C) (fun x h => by kernel_rfl) x h


/-- stolon/stolonref10.Valid -/
noncomputable def t13 (C : CallF) (x0 : Value) (h : Heap) : Out :=
  thenV (box x0 h) fun y1 h =>
  thenV (some ((.bool false), h)) fun y2 h =>
  thenV (pu (addP y1 0) h) fun y3 h =>
  thenV (ld1 y3 h) fun y4 h =>
  thenV (pu (bin Tryz.prog .geq 3 y4 (.int .i64 2)) h) fun y5 h =>
  thenV (some (y5, h)) fun y6 h =>
  thenV (guardK (bOf y6 == some true) (pu (addP y1 0) h) h) fun y7 h =>
  thenV (guardK (bOf y6 == some true) (ld1 y7 h) h) fun y8 h =>
  thenV (guardK (bOf y6 == some true) (pu (bin Tryz.prog .leq 3 y8 (.int .i64 16)) h) h) fun y9 h =>
  thenV (match y6 with | .bool t => some (if t then y9 else (.bool false), h) | _ => none) fun y10 h =>
  thenV (some (y10, h)) fun y11 h =>
  thenV (guardK (bOf y11 == some true) (pu (addP y1 1) h) h) fun y12 h =>
  thenV (guardK (bOf y11 == some true) (ld1 y12 h) h) fun y13 h =>
  thenV (guardK (bOf y11 == some true) (pu (bin Tryz.prog .geq 3 y13 (.int .i64 4)) h) h) fun y14 h =>
  thenV (match y11 with | .bool t => some (if t then y14 else (.bool false), h) | _ => none) fun y15 h =>
  thenV (some (y15, h)) fun y16 h =>
  thenV (guardK (bOf y16 == some true) (pu (addP y1 1) h) h) fun y17 h =>
  thenV (guardK (bOf y16 == some true) (ld1 y17 h) h) fun y18 h =>
  thenV (guardK (bOf y16 == some true) (pu (bin Tryz.prog .leq 3 y18 (.int .i64 4096)) h) h) fun y19 h =>
  thenV (match y16 with | .bool t => some (if t then y19 else (.bool false), h) | _ => none) fun y20 h =>
  thenV (some (y20, h)) fun y21 h =>
  thenV (guardK (bOf y21 == some true) (pu (addP y1 2) h) h) fun y22 h =>
  thenV (guardK (bOf y21 == some true) (ld1 y22 h) h) fun y23 h =>
  thenV (guardK (bOf y21 == some true) (pu (bin Tryz.prog .geq 3 y23 (.int .i64 0)) h) h) fun y24 h =>
  thenV (match y21 with | .bool t => some (if t then y24 else (.bool false), h) | _ => none) fun y25 h =>
  thenV (some (y25, h)) fun y26 h =>
  thenV (guardK (bOf y26 == some true) (pu (addP y1 2) h) h) fun y27 h =>
  thenV (guardK (bOf y26 == some true) (ld1 y27 h) h) fun y28 h =>
  thenV (guardK (bOf y26 == some true) (pu (bin Tryz.prog .leq 3 y28 (.int .i64 4294967295)) h) h) fun y29 h =>
  thenV (match y26 with | .bool t => some (if t then y29 else (.bool false), h) | _ => none) fun y30 h =>
  thenV (some (y30, h)) fun y2_1 h =>
  some (y2_1, h)
theorem t13_eq (C : CallF) (x0 : Value) (h : Heap) : bodyK Tryz.prog C Tryz.f13 [x0] h = t13 C x0 h :=
  (bodyB_eq Tryz.prog C Tryz.f13 [x0] h (by kernel_rfl)).trans (by kernel_rfl)


noncomputable def b14_11 (C : CallF) (i : Nat) (e : Env) (h : Heap) : Out := if i = 0 then (resultsA Tryz.prog Tryz.f14.results.toList) e h else (fun _ _ _ => none) i e h
/-- stolon/swarm.Parse -/
noncomputable def t14 (C : CallF) (x0 : Value) (h : Heap) : Out :=
  thenV (newC [(.int .i64 0), (.int .i64 0), (.int .i64 0)] h) fun y2 h =>
  thenV (some ((.slice none 0 0), h)) fun y3 h =>
  thenV (some ((.int .i64 0), h)) fun y4 h =>
  thenV (some (x0, h)) fun y10 h =>
  thenV (C 45 [y10] h) fun y11 h =>
  thenV (some (y11, h)) fun y5 h =>
  thenV (some (y5, h)) fun y12 h =>
  thenV (C 46 [y12] h) fun y13 h =>
  thenV (cvI .i64 y13 h) fun y14 h =>
  thenV (some (y5, h)) fun y15 h =>
  thenV (C 47 [y15] h) fun y16 h =>
  thenV (cvI .i64 y16 h) fun y17 h =>
  thenV (some (y5, h)) fun y18 h =>
  thenV (C 48 [y18] h) fun y19 h =>
  thenV (cvI .i64 y19 h) fun y20 h =>
  thenV (pu (bldR [(.int .i64 0), (.int .i64 0), (.int .i64 0)] [(0, 1, y14), (1, 1, y17), (2, 1, y20)]) h) fun y21 h =>
  thenV (newC [(.int .i64 0), (.int .i64 0), (.int .i64 0)] h) fun y6 h =>
  thenV (stN 3 y6 y21 h) fun _ h =>
  thenV (some (y5, h)) fun y22 h =>
  thenV (C 49 [y22] h) fun y23 h =>
  thenV (some (y23, h)) fun y7 h =>
  thenV (some (y7, h)) fun y24 h =>
  thenV (pu (bin Tryz.prog .neq 31 y24 (.int .i64 0)) h) fun y25 h =>
  (match y25 with
  | .bool true =>
  thenV (pu (bldR [(.int .i64 0), (.int .i64 0), (.int .i64 0)] []) h) fun y26 h =>
  thenV (some (y7, h)) fun y27 h =>
  thenV (stN 3 y2 y26 h) fun _ h =>
  thenV (some ((.slice none 0 0), h)) fun y3_1 h =>
  thenV (some (y27, h)) fun y4_1 h =>
  resultsA Tryz.prog Tryz.f14.results.toList (mkF 57 (up (bs [x0]) [(2, y2), (3, y3_1), (4, y4_1), (5, y5), (6, y6), (7, y7), (10, y10), (11, y11), (12, y12), (13, y13), (14, y14), (15, y15), (16, y16), (17, y17), (18, y18), (19, y19), (20, y20), (21, y21), (22, y22), (23, y23), (24, y24), (25, y25), (26, y26), (27, y27)])) h
  | .bool false =>
  thenV (ldN 3 y6 h) fun y28 h =>
  thenV (C 12 [y28] h) fun y29 h =>
  thenV (pu (unA .not y29) h) fun y30 h =>
  (match y30 with
  | .bool true =>
  thenV (pu (bldR [(.int .i64 0), (.int .i64 0), (.int .i64 0)] []) h) fun y31 h =>
  thenV (stN 3 y2 y31 h) fun _ h =>
  thenV (some ((.slice none 0 0), h)) fun y3_1 h =>
  thenV (some ((.int .i64 2), h)) fun y4_1 h =>
  resultsA Tryz.prog Tryz.f14.results.toList (mkF 57 (up (bs [x0]) [(2, y2), (3, y3_1), (4, y4_1), (5, y5), (6, y6), (7, y7), (10, y10), (11, y11), (12, y12), (13, y13), (14, y14), (15, y15), (16, y16), (17, y17), (18, y18), (19, y19), (20, y20), (21, y21), (22, y22), (23, y23), (24, y24), (25, y25), (28, y28), (29, y29), (30, y30), (31, y31)])) h
  | .bool false =>
  thenV (some ((.slice none 0 0), h)) fun y8 h =>
  endL (iter (codeA Tryz.prog C (partOf Tryz.f14 [1, 1, 1, 1, 1, 1, 0, 0])) rounds (mkF 57 (up (bs [x0]) [(2, y2), (3, y3), (4, y4), (5, y5), (6, y6), (7, y7), (8, y8), (10, y10), (11, y11), (12, y12), (13, y13), (14, y14), (15, y15), (16, y16), (17, y17), (18, y18), (19, y19), (20, y20), (21, y21), (22, y22), (23, y23), (24, y24), (25, y25), (28, y28), (29, y29), (30, y30)])) h) (resultsA Tryz.prog Tryz.f14.results.toList) (b14_11 C)
  | _ => none)
  | _ => none)
noncomputable def t14l14_1111110 (C : CallF) (x : Nat → Value) (h : Heap) : Option (Ex × Env × Heap) :=
  thenV (some ((x 5), h)) fun y32 h =>
  thenV (C 46 [y32] h) fun y33 h =>
  thenV (some ((x 5), h)) fun y34 h =>
  thenV (C 46 [y34] h) fun y35 h =>
  thenV (cvI .i64 y35 h) fun y36 h =>
  thenV (some ((x 5), h)) fun y37 h =>
  thenV (C 47 [y37] h) fun y38 h =>
  thenV (cvI .i64 y38 h) fun y39 h =>
  thenV (some ((x 5), h)) fun y40 h =>
  thenV (C 47 [y40] h) fun y41 h =>
  thenV (cvI .i64 y41 h) fun y42 h =>
  thenV (some ((x 5), h)) fun y43 h =>
  thenV (C 50 [y43] h) fun y44 h =>
  thenV (some ((x 5), h)) fun y45 h =>
  thenV (C 51 [y45] h) fun y46 h =>
  thenV (pu (bldR [(.int .u8 0), (.int .i64 0), (.int .i64 0), (.int .i64 0), (.int .u64 0), (.slice none 0 0)] [(0, 1, y33), (1, 1, y36), (2, 1, y39), (3, 1, y42), (4, 1, y44), (5, 1, y46)]) h) fun y47 h =>
  thenV (newC [(.int .u8 0), (.int .i64 0), (.int .i64 0), (.int .i64 0), (.int .u64 0), (.slice none 0 0)] h) fun y9 h =>
  thenV (stN 6 y9 y47 h) fun _ h =>
  thenV (some ((x 5), h)) fun y48 h =>
  thenV (C 49 [y48] h) fun y49 h =>
  thenV (pu (bin Tryz.prog .neq 31 y49 (.int .i64 0)) h) fun y50 h =>
  (match y50 with
  | .bool true =>
  thenV (ldN 3 (x 6) h) fun y51 h =>
  thenV (some ((x 8), h)) fun y52 h =>
  thenV (stN 3 (x 2) y51 h) fun _ h =>
  thenV (some (y52, h)) fun y3 h =>
  thenV (some ((.int .i64 0), h)) fun y4 h =>
  some (.ret, (mkF 57 (up x [(3, y3), (4, y4), (9, y9), (32, y32), (33, y33), (34, y34), (35, y35), (36, y36), (37, y37), (38, y38), (39, y39), (40, y40), (41, y41), (42, y42), (43, y43), (44, y44), (45, y45), (46, y46), (47, y47), (48, y48), (49, y49), (50, y50), (51, y51), (52, y52)])), h)
  | .bool false =>
  thenV (some ((x 8), h)) fun y53 h =>
  thenV (ldN 6 y9 h) fun y54 h =>
  thenV (bslR 6 (.agg #[(.int .u8 0), (.int .i64 0), (.int .i64 0), (.int .i64 0), (.int .u64 0), (.slice none 0 0)]) 1 [(0, y54)] h) fun y55 h =>
  thenV (appendA 6 64 y53 y55 h) fun y56 h =>
  thenV (some (y56, h)) fun y8 h =>
  some (.normal, (mkF 57 (up x [(8, y8), (9, y9), (32, y32), (33, y33), (34, y34), (35, y35), (36, y36), (37, y37), (38, y38), (39, y39), (40, y40), (41, y41), (42, y42), (43, y43), (44, y44), (45, y45), (46, y46), (47, y47), (48, y48), (49, y49), (50, y50), (53, y53), (54, y54), (55, y55), (56, y56)])), h)
  | _ => none)
theorem t14_eq (C : CallF) (x0 : Value) (h : Heap) : bodyK Tryz.prog C Tryz.f14 [x0] h = t14 C x0 h :=
  (bodyB_eq Tryz.prog C Tryz.f14 [x0] h (by kernel_rfl)).trans (by kernel_rfl)
theorem t14l14_1111110_eq (C : CallF) (x : Nat → Value) (h : Heap) : codeA Tryz.prog C (partOf Tryz.f14 [1, 1, 1, 1, 1, 1, 0, 0]) (mkF 57 x) h = t14l14_1111110 C x h :=
  link_roundF (T := t14l14_1111110 C) (fun x h => by kernel_rfl) x h


noncomputable def k15_11 (C : CallF) (e : Env) (h : Heap) : Out := codeK Tryz.prog C (partOf Tryz.f15 [1, 1, 1, 1, 1, 1, 1]) e h (resultsA Tryz.prog Tryz.f15.results.toList) (resultsA Tryz.prog Tryz.f15.results.toList) (fun _ _ _ => none)
noncomputable def b15_12 (C : CallF) (i : Nat) (e : Env) (h : Heap) : Out := if i = 0 then (k15_11 C) e h else (fun _ _ _ => none) i e h
/-- stolon/stolonref10.Parse -/
noncomputable def t15 (C : CallF) (x0 : Value) (h : Heap) : Out :=
  thenV (newC [(.int .i64 0), (.int .i64 0), (.int .i64 0)] h) fun y2 h =>
  thenV (some ((.slice none 0 0), h)) fun y3 h =>
  thenV (some ((.int .i64 0), h)) fun y4 h =>
  thenV (some (x0, h)) fun y8 h =>
  thenV (pu (lenL y8) h) fun y9 h =>
  thenV (pu (bin Tryz.prog .lss 3 y9 (.int .i64 7)) h) fun y10 h =>
  (match y10 with
  | .bool true =>
  thenV (pu (bldR [(.int .i64 0), (.int .i64 0), (.int .i64 0)] []) h) fun y11 h =>
  thenV (stN 3 y2 y11 h) fun _ h =>
  thenV (some ((.slice none 0 0), h)) fun y3_1 h =>
  thenV (some ((.int .i64 4), h)) fun y4_1 h =>
  resultsA Tryz.prog Tryz.f15.results.toList (mkF 78 (up (bs [x0]) [(2, y2), (3, y3_1), (4, y4_1), (8, y8), (9, y9), (10, y10), (11, y11)])) h
  | .bool false =>
  let g5_0 := h
  thenV (some (x0, g5_0)) fun y12 g5_1 =>
  thenV (pu (idxS 1 y12 (.int .i64 0)) g5_1) fun y13 g5_2 =>
  thenV (ld1 y13 g5_2) fun y14 g5_3 =>
  thenV (cvI .i64 y14 g5_3) fun y15 g5_4 =>
  thenV (some (x0, g5_4)) fun y16 g5_5 =>
  thenV (pu (slR 1 y16 (some (.int .i64 1)) (some (.int .i64 3)) none) g5_5) fun y17 g5_6 =>
  thenV (C 52 [y17] g5_6) fun y18 g5_7 =>
  thenV (cvI .i64 y18 g5_7) fun y19 g5_8 =>
  thenV (some (x0, g5_8)) fun y20 g5_9 =>
  thenV (pu (slR 1 y20 (some (.int .i64 3)) (some (.int .i64 7)) none) g5_9) fun y21 g5_10 =>
  thenV (C 52 [y21] g5_10) fun y22 g5_11 =>
  thenV (cvI .i64 y22 g5_11) fun y23 g5_12 =>
  thenV (pu (bldR [(.int .i64 0), (.int .i64 0), (.int .i64 0)] [(0, 1, y15), (1, 1, y19), (2, 1, y23)]) g5_12) fun y24 g5_13 =>
  thenV (newC [(.int .i64 0), (.int .i64 0), (.int .i64 0)] g5_13) fun y5 g5_14 =>
  thenV (stN 3 y5 y24 g5_14) fun _ g5_15 =>
  (match (chkR true (ld1 y13 g5_7) y14 && (chkR true (ld1 y13 g5_11) y14 && (chkR true (cvI .i64 y14 g5_7) y15 && (chkR true (cvI .i64 y14 g5_11) y15 && (chkR true (cvI .i64 y18 g5_11) y19 && true))))) with
  | true =>
  let h := g5_15
  thenV (ldN 3 y5 h) fun y25 h =>
  thenV (C 13 [y25] h) fun y26 h =>
  thenV (pu (unA .not y26) h) fun y27 h =>
  (match y27 with
  | .bool true =>
  thenV (pu (bldR [(.int .i64 0), (.int .i64 0), (.int .i64 0)] []) h) fun y28 h =>
  thenV (stN 3 y2 y28 h) fun _ h =>
  thenV (some ((.slice none 0 0), h)) fun y3_1 h =>
  thenV (some ((.int .i64 2), h)) fun y4_1 h =>
  resultsA Tryz.prog Tryz.f15.results.toList (mkF 78 (up (bs [x0]) [(2, y2), (3, y3_1), (4, y4_1), (5, y5), (8, y8), (9, y9), (10, y10), (12, y12), (13, y13), (14, y14), (15, y15), (16, y16), (17, y17), (18, y18), (19, y19), (20, y20), (21, y21), (22, y22), (23, y23), (24, y24), (25, y25), (26, y26), (27, y27), (28, y28)])) h
  | .bool false =>
  thenV (bslR 6 (.agg #[(.int .u8 0), (.int .i64 0), (.int .i64 0), (.int .i64 0), (.int .u64 0), (.slice none 0 0)]) 0 [] h) fun y29 h =>
  thenV (some (y29, h)) fun y6 h =>
  thenV (some (x0, h)) fun y30 h =>
  thenV (pu (slR 1 y30 (some (.int .i64 7)) none none) h) fun y31 h =>
  thenV (some (y31, h)) fun y0 h =>
  endL (iter (codeA Tryz.prog C (partOf Tryz.f15 [1, 1, 1, 1, 1, 1, 0, 0, 0])) rounds (mkF 78 (up (bs [x0]) [(0, y0), (2, y2), (3, y3), (4, y4), (5, y5), (6, y6), (8, y8), (9, y9), (10, y10), (12, y12), (13, y13), (14, y14), (15, y15), (16, y16), (17, y17), (18, y18), (19, y19), (20, y20), (21, y21), (22, y22), (23, y23), (24, y24), (25, y25), (26, y26), (27, y27), (29, y29), (30, y30), (31, y31)])) h) (resultsA Tryz.prog Tryz.f15.results.toList) (b15_12 C)
  | _ => none)
  | false => none)
  | _ => none)
noncomputable def t15k15_11 (C : CallF) (x : Nat → Value) (h : Heap) : Out :=
  thenV (ldN 3 (x 5) h) fun y76 h =>
  thenV (some ((x 6), h)) fun y77 h =>
  thenV (stN 3 (x 2) y76 h) fun _ h =>
  thenV (some (y77, h)) fun y3 h =>
  thenV (some ((.int .i64 0), h)) fun y4 h =>
  resultsA Tryz.prog Tryz.f15.results.toList (mkF 78 (up x [(3, y3), (4, y4), (76, y76), (77, y77)])) h
noncomputable def t15l15_11111100 (C : CallF) (x : Nat → Value) (h : Heap) : Option (Ex × Env × Heap) :=
  thenV (some ((x 0), h)) fun y32 h =>
  thenV (pu (lenL y32) h) fun y33 h =>
  thenV (pu (bin Tryz.prog .geq 3 y33 (.int .i64 16)) h) fun y34 h =>
  (match y34 with
  | .bool true =>
  thenV (some ((x 0), h)) fun y35 h =>
  thenV (pu (slR 1 y35 (some (.int .i64 14)) (some (.int .i64 16)) none) h) fun y36 h =>
  thenV (C 52 [y36] h) fun y37 h =>
  thenV (cvI .i64 y37 h) fun y38 h =>
  thenV (some (y38, h)) fun y7 h =>
  thenV (some ((x 0), h)) fun y39 h =>
  thenV (pu (lenL y39) h) fun y40 h =>
  thenV (pu (bin Tryz.prog .sub 3 y40 (.int .i64 16)) h) fun y41 h =>
  thenV (some (y7, h)) fun y42 h =>
  thenV (pu (bin Tryz.prog .lss 3 y41 y42) h) fun y43 h =>
  (match y43 with
  | .bool true =>
  some (.exit 0, (mkF 78 (up x [(7, y7), (32, y32), (33, y33), (34, y34), (35, y35), (36, y36), (37, y37), (38, y38), (39, y39), (40, y40), (41, y41), (42, y42), (43, y43)])), h)
  | .bool false =>
  let g21_0 := h
  thenV (some ((x 6), g21_0)) fun y44 g21_1 =>
  thenV (some ((x 0), g21_1)) fun y45 g21_2 =>
  thenV (pu (idxS 1 y45 (.int .i64 0)) g21_2) fun y46 g21_3 =>
  thenV (ld1 y46 g21_3) fun y47 g21_4 =>
  thenV (some ((x 0), g21_4)) fun y48 g21_5 =>
  thenV (pu (idxS 1 y48 (.int .i64 1)) g21_5) fun y49 g21_6 =>
  thenV (ld1 y49 g21_6) fun y50 g21_7 =>
  thenV (cvI .i64 y50 g21_7) fun y51 g21_8 =>
  thenV (some ((x 0), g21_8)) fun y52 g21_9 =>
  thenV (pu (slR 1 y52 (some (.int .i64 2)) (some (.int .i64 4)) none) g21_9) fun y53 g21_10 =>
  thenV (C 52 [y53] g21_10) fun y54 g21_11 =>
  thenV (cvI .i64 y54 g21_11) fun y55 g21_12 =>
  thenV (some ((x 0), g21_12)) fun y56 g21_13 =>
  thenV (pu (slR 1 y56 (some (.int .i64 4)) (some (.int .i64 6)) none) g21_13) fun y57 g21_14 =>
  thenV (C 52 [y57] g21_14) fun y58 g21_15 =>
  thenV (cvI .i64 y58 g21_15) fun y59 g21_16 =>
  thenV (some ((x 0), g21_16)) fun y60 g21_17 =>
  thenV (pu (slR 1 y60 (some (.int .i64 6)) (some (.int .i64 14)) none) g21_17) fun y61 g21_18 =>
  thenV (C 52 [y61] g21_18) fun y62 g21_19 =>
  thenV (some ((x 0), g21_19)) fun y64 g21_20 =>
  thenV (some (y7, g21_20)) fun y65 g21_21 =>
  thenV (pu (bin Tryz.prog .add 3 (.int .i64 16) y65) g21_21) fun y66 g21_22 =>
  thenV (pu (slR 1 y64 (some (.int .i64 16)) (some y66) none) g21_22) fun y67 g21_23 =>
  thenV (bslR 1 (.int .u8 0) 0 [] g21_23) fun y63 g21_24 =>
  thenV (appendA 1 1 y63 y67 g21_24) fun y68 g21_25 =>
  thenV (pu (bldR [(.int .u8 0), (.int .i64 0), (.int .i64 0), (.int .i64 0), (.int .u64 0), (.slice none 0 0)] [(0, 1, y47), (1, 1, y51), (2, 1, y55), (3, 1, y59), (4, 1, y62), (5, 1, y68)]) g21_25) fun y69 g21_26 =>
  thenV (bslR 6 (.agg #[(.int .u8 0), (.int .i64 0), (.int .i64 0), (.int .i64 0), (.int .u64 0), (.slice none 0 0)]) 1 [(0, y69)] g21_26) fun y70 g21_27 =>
  thenV (appendA 6 64 y44 y70 g21_27) fun y71 g21_28 =>
  thenV (some (y71, g21_28)) fun y6 g21_29 =>
  (match (chkR true (ld1 y46 g21_11) y47 && (chkR true (ld1 y46 g21_15) y47 && (chkR true (ld1 y46 g21_19) y47 && (chkR true (ld1 y46 g21_25) y47 && (chkR true (ld1 y49 g21_11) y50 && (chkR true (ld1 y49 g21_15) y50 && (chkR true (ld1 y49 g21_19) y50 && (chkR true (ld1 y49 g21_25) y50 && (chkR true (cvI .i64 y50 g21_11) y51 && (chkR true (cvI .i64 y50 g21_15) y51 && (chkR true (cvI .i64 y50 g21_19) y51 && (chkR true (cvI .i64 y50 g21_25) y51 && (chkR true (cvI .i64 y54 g21_15) y55 && (chkR true (cvI .i64 y54 g21_19) y55 && (chkR true (cvI .i64 y54 g21_25) y55 && (chkR true (cvI .i64 y58 g21_19) y59 && (chkR true (cvI .i64 y58 g21_25) y59 && true))))))))))))))))) with
  | true =>
  let h := g21_29
  thenV (some ((x 0), h)) fun y72 h =>
  thenV (some (y7, h)) fun y73 h =>
  thenV (pu (bin Tryz.prog .add 3 (.int .i64 16) y73) h) fun y74 h =>
  thenV (pu (slR 1 y72 (some y74) none none) h) fun y75 h =>
  thenV (some (y75, h)) fun y0 h =>
  some (.normal, (mkF 78 (up x [(0, y0), (6, y6), (7, y7), (32, y32), (33, y33), (34, y34), (35, y35), (36, y36), (37, y37), (38, y38), (39, y39), (40, y40), (41, y41), (42, y42), (43, y43), (44, y44), (45, y45), (46, y46), (47, y47), (48, y48), (49, y49), (50, y50), (51, y51), (52, y52), (53, y53), (54, y54), (55, y55), (56, y56), (57, y57), (58, y58), (59, y59), (60, y60), (61, y61), (62, y62), (63, y63), (64, y64), (65, y65), (66, y66), (67, y67), (68, y68), (69, y69), (70, y70), (71, y71), (72, y72), (73, y73), (74, y74), (75, y75)])), h)
  | false => none)
  | _ => none)
  | .bool false =>
  some (.exit 0, (mkF 78 (up x [(32, y32), (33, y33), (34, y34)])), h)
  | _ => none)
theorem t15_eq (C : CallF) (x0 : Value) (h : Heap) : bodyK Tryz.prog C Tryz.f15 [x0] h = t15 C x0 h :=
  (bodyB_eq Tryz.prog C Tryz.f15 [x0] h (by kernel_rfl)).trans (by kernel_rfl)
theorem t15k15_11_eq (C : CallF) (x : Nat → Value) (h : Heap) : k15_11 C (mkF 78 x) h = t15k15_11 C x h :=
  link_partF (b := (partOf Tryz.f15 [1, 1, 1, 1, 1, 1, 1])) (kE := (resultsA Tryz.prog Tryz.f15.results.toList)) (rE := (resultsA Tryz.prog Tryz.f15.results.toList)) (xE := (fun _ _ _ => none)) (T := t15k15_11 C) (fun x h => by kernel_rfl) x h
theorem t15l15_11111100_eq (C : CallF) (x : Nat → Value) (h : Heap) : codeA Tryz.prog C (partOf Tryz.f15 [1, 1, 1, 1, 1, 1, 0, 0, 0]) (mkF 78 x) h = t15l15_11111100 C x h :=
  link_roundF (T := t15l15_11111100 C) (fun x h => by kernel_rfl) x h


noncomputable def k16_4 (C : CallF) (e : Env) (h : Heap) : Out := codeK Tryz.prog C (partOf Tryz.f16 [1, 1, 1]) e h (resultsA Tryz.prog Tryz.f16.results.toList) (resultsA Tryz.prog Tryz.f16.results.toList) (fun _ _ _ => none)
noncomputable def b16_6 (C : CallF) (i : Nat) (e : Env) (h : Heap) : Out := if i = 0 then (k16_4 C) e h else (fun _ _ _ => none) i e h
/-- stolon/stolonlaw10.sameEvents -/
noncomputable def t16 (C : CallF) (x0 x1 : Value) (h : Heap) : Out :=
  thenV (some ((.bool false), h)) fun y4 h =>
  thenV (some (x0, h)) fun y8 h =>
  thenV (pu (lenL y8) h) fun y9 h =>
  thenV (some (x1, h)) fun y10 h =>
  thenV (pu (lenL y10) h) fun y11 h =>
  thenV (pu (bin Tryz.prog .neq 3 y9 y11) h) fun y12 h =>
  (match y12 with
  | .bool true =>
  thenV (some ((.bool false), h)) fun y4_1 h =>
  some (y4_1, h)
  | .bool false =>
  thenV (some ((.int .i64 0), h)) fun y5 h =>
  endL (iter (codeA Tryz.prog C (partOf Tryz.f16 [1, 1, 0, 1, 0, 0])) rounds (mkF 69 (up (bs [x0, x1]) [(4, y4), (5, y5), (8, y8), (9, y9), (10, y10), (11, y11), (12, y12)])) h) (resultsA Tryz.prog Tryz.f16.results.toList) (b16_6 C)
  | _ => none)
noncomputable def t16k16_4 (C : CallF) (x : Nat → Value) (h : Heap) : Out :=
  thenV (some ((.bool true), h)) fun y4 h =>
  some (y4, h)
noncomputable def t16l16_11010 (C : CallF) (x : Nat → Value) (h : Heap) : Option (Ex × Env × Heap) :=
  thenV (some ((x 5), h)) fun y13 h =>
  thenV (some ((x 0), h)) fun y14 h =>
  thenV (pu (lenL y14) h) fun y15 h =>
  thenV (pu (bin Tryz.prog .lss 3 y13 y15) h) fun y16 h =>
  (match y16 with
  | .bool true =>
  let g13_0 := h
  thenV (some ((x 0), g13_0)) fun y19 g13_1 =>
  thenV (some ((x 5), g13_1)) fun y20 g13_2 =>
  thenV (pu (idxS 6 y19 y20) g13_2) fun y21 g13_3 =>
  thenV (ldN 6 y21 g13_3) fun y22 g13_4 =>
  thenV (some ((x 1), g13_4)) fun y23 g13_5 =>
  thenV (some ((x 5), g13_5)) fun y24 g13_6 =>
  thenV (pu (idxS 6 y23 y24) g13_6) fun y25 g13_7 =>
  thenV (ldN 6 y25 g13_7) fun y26 g13_8 =>
  thenV (newC [(.int .u8 0), (.int .i64 0), (.int .i64 0), (.int .i64 0), (.int .u64 0), (.slice none 0 0)] g13_8) fun y6 g13_9 =>
  thenV (newC [(.int .u8 0), (.int .i64 0), (.int .i64 0), (.int .i64 0), (.int .u64 0), (.slice none 0 0)] g13_9) fun y7 g13_10 =>
  thenV (stN 6 y6 y22 g13_10) fun _ g13_11 =>
  thenV (stN 6 y7 y26 g13_11) fun _ g13_12 =>
  (match (chkR true (ldN 6 y25 g13_11) y26 && true) with
  | true =>
  let h := g13_12
  thenV (pu (addP y6 0) h) fun y27 h =>
  thenV (ld1 y27 h) fun y28 h =>
  thenV (pu (addP y7 0) h) fun y29 h =>
  thenV (ld1 y29 h) fun y30 h =>
  thenV (pu (bin Tryz.prog .neq 26 y28 y30) h) fun y31 h =>
  thenV (some (y31, h)) fun y32 h =>
  thenV (guardK (bOf y32 == some false) (pu (addP y6 1) h) h) fun y33 h =>
  thenV (guardK (bOf y32 == some false) (ld1 y33 h) h) fun y34 h =>
  thenV (guardK (bOf y32 == some false) (pu (addP y7 1) h) h) fun y35 h =>
  thenV (guardK (bOf y32 == some false) (ld1 y35 h) h) fun y36 h =>
  thenV (guardK (bOf y32 == some false) (pu (bin Tryz.prog .neq 3 y34 y36) h) h) fun y37 h =>
  thenV (match y32 with | .bool t => some (if t then (.bool true) else y37, h) | _ => none) fun y38 h =>
  thenV (some (y38, h)) fun y39 h =>
  thenV (guardK (bOf y39 == some false) (pu (addP y6 2) h) h) fun y40 h =>
  thenV (guardK (bOf y39 == some false) (ld1 y40 h) h) fun y41 h =>
  thenV (guardK (bOf y39 == some false) (pu (addP y7 2) h) h) fun y42 h =>
  thenV (guardK (bOf y39 == some false) (ld1 y42 h) h) fun y43 h =>
  thenV (guardK (bOf y39 == some false) (pu (bin Tryz.prog .neq 3 y41 y43) h) h) fun y44 h =>
  thenV (match y39 with | .bool t => some (if t then (.bool true) else y44, h) | _ => none) fun y45 h =>
  thenV (some (y45, h)) fun y46 h =>
  thenV (guardK (bOf y46 == some false) (pu (addP y6 3) h) h) fun y47 h =>
  thenV (guardK (bOf y46 == some false) (ld1 y47 h) h) fun y48 h =>
  thenV (guardK (bOf y46 == some false) (pu (addP y7 3) h) h) fun y49 h =>
  thenV (guardK (bOf y46 == some false) (ld1 y49 h) h) fun y50 h =>
  thenV (guardK (bOf y46 == some false) (pu (bin Tryz.prog .neq 3 y48 y50) h) h) fun y51 h =>
  thenV (match y46 with | .bool t => some (if t then (.bool true) else y51, h) | _ => none) fun y52 h =>
  thenV (some (y52, h)) fun y53 h =>
  thenV (guardK (bOf y53 == some false) (pu (addP y6 4) h) h) fun y54 h =>
  thenV (guardK (bOf y53 == some false) (ld1 y54 h) h) fun y55 h =>
  thenV (guardK (bOf y53 == some false) (pu (addP y7 4) h) h) fun y56 h =>
  thenV (guardK (bOf y53 == some false) (ld1 y56 h) h) fun y57 h =>
  thenV (guardK (bOf y53 == some false) (pu (bin Tryz.prog .neq 27 y55 y57) h) h) fun y58 h =>
  thenV (match y53 with | .bool t => some (if t then (.bool true) else y58, h) | _ => none) fun y59 h =>
  thenV (some (y59, h)) fun y60 h =>
  thenV (guardK (bOf y60 == some false) (pu (addP y6 5) h) h) fun y61 h =>
  thenV (guardK (bOf y60 == some false) (ld1 y61 h) h) fun y62 h =>
  thenV (guardK (bOf y60 == some false) (cvBS y62 h) h) fun y63 h =>
  thenV (guardK (bOf y60 == some false) (pu (addP y7 5) h) h) fun y64 h =>
  thenV (guardK (bOf y60 == some false) (ld1 y64 h) h) fun y65 h =>
  thenV (guardK (bOf y60 == some false) (cvBS y65 h) h) fun y66 h =>
  thenV (guardK (bOf y60 == some false) (pu (bin Tryz.prog .neq 9 y63 y66) h) h) fun y67 h =>
  thenV (match y60 with | .bool t => some (if t then (.bool true) else y67, h) | _ => none) fun y68 h =>
  (match y68 with
  | .bool true =>
  thenV (some ((.bool false), h)) fun y4 h =>
  some (.ret, (mkF 69 (up x [(4, y4), (6, y6), (7, y7), (13, y13), (14, y14), (15, y15), (16, y16), (19, y19), (20, y20), (21, y21), (22, y22), (23, y23), (24, y24), (25, y25), (26, y26), (27, y27), (28, y28), (29, y29), (30, y30), (31, y31), (32, y32), (33, y33), (34, y34), (35, y35), (36, y36), (37, y37), (38, y38), (39, y39), (40, y40), (41, y41), (42, y42), (43, y43), (44, y44), (45, y45), (46, y46), (47, y47), (48, y48), (49, y49), (50, y50), (51, y51), (52, y52), (53, y53), (54, y54), (55, y55), (56, y56), (57, y57), (58, y58), (59, y59), (60, y60), (61, y61), (62, y62), (63, y63), (64, y64), (65, y65), (66, y66), (67, y67), (68, y68)])), h)
  | .bool false =>
  thenV (some ((x 5), h)) fun y17 h =>
  thenV (pu (bin Tryz.prog .add 3 y17 (.int .i64 1)) h) fun y18 h =>
  thenV (some (y18, h)) fun y5 h =>
  some (.normal, (mkF 69 (up x [(5, y5), (6, y6), (7, y7), (13, y13), (14, y14), (15, y15), (16, y16), (17, y17), (18, y18), (19, y19), (20, y20), (21, y21), (22, y22), (23, y23), (24, y24), (25, y25), (26, y26), (27, y27), (28, y28), (29, y29), (30, y30), (31, y31), (32, y32), (33, y33), (34, y34), (35, y35), (36, y36), (37, y37), (38, y38), (39, y39), (40, y40), (41, y41), (42, y42), (43, y43), (44, y44), (45, y45), (46, y46), (47, y47), (48, y48), (49, y49), (50, y50), (51, y51), (52, y52), (53, y53), (54, y54), (55, y55), (56, y56), (57, y57), (58, y58), (59, y59), (60, y60), (61, y61), (62, y62), (63, y63), (64, y64), (65, y65), (66, y66), (67, y67), (68, y68)])), h)
  | _ => none)
  | false => none)
  | .bool false =>
  some (.exit 0, (mkF 69 (up x [(13, y13), (14, y14), (15, y15), (16, y16)])), h)
  | _ => none)
theorem t16_eq (C : CallF) (x0 x1 : Value) (h : Heap) : bodyK Tryz.prog C Tryz.f16 [x0, x1] h = t16 C x0 x1 h :=
  (bodyB_eq Tryz.prog C Tryz.f16 [x0, x1] h (by kernel_rfl)).trans (by kernel_rfl)
theorem t16k16_4_eq (C : CallF) (x : Nat → Value) (h : Heap) : k16_4 C (mkF 69 x) h = t16k16_4 C x h :=
  link_partF (b := (partOf Tryz.f16 [1, 1, 1])) (kE := (resultsA Tryz.prog Tryz.f16.results.toList)) (rE := (resultsA Tryz.prog Tryz.f16.results.toList)) (xE := (fun _ _ _ => none)) (T := t16k16_4 C) (fun x h => by kernel_rfl) x h
theorem t16l16_11010_eq (C : CallF) (x : Nat → Value) (h : Heap) : codeA Tryz.prog C (partOf Tryz.f16 [1, 1, 0, 1, 0, 0]) (mkF 69 x) h = t16l16_11010 C x h :=
  link_roundF (T := t16l16_11010 C) (fun x h => by kernel_rfl) x h


/-- stolon/stolonlaw10.SwarmParses -/
noncomputable def t4 (C : CallF) (x0 : Value) (h : Heap) : Out :=
  thenV (some ((.bool false), h)) fun y2 h =>
  thenV (some (x0, h)) fun y9 h =>
  thenV (pu (lenL y9) h) fun y10 h =>
  thenV (pu (bin Tryz.prog .gtr 3 y10 (.int .i64 20000)) h) fun y11 h =>
  (match y11 with
  | .bool true =>
  thenV (C 8 [] h) fun y12 h =>
  thenV (some (y12, h)) fun y2_1 h =>
  some (y2_1, h)
  | .bool false =>
  thenV (bslR 1 (.int .u8 0) 0 [] h) fun y14 h =>
  thenV (some (x0, h)) fun y15 h =>
  thenV (appendA 1 1 y14 y15 h) fun y16 h =>
  thenV (C 14 [y16] h) fun y17 h =>
  thenV (some (y17, h)) fun y13 h =>
  thenV (pu (extractA y13 0) h) fun y18 h =>
  thenV (pu (extractA y13 1) h) fun y19 h =>
  thenV (pu (extractA y13 2) h) fun y20 h =>
  thenV (newC [(.int .i64 0), (.int .i64 0), (.int .i64 0)] h) fun y3 h =>
  thenV (stN 3 y3 y18 h) fun _ h =>
  thenV (some (y19, h)) fun y4 h =>
  thenV (some (y20, h)) fun y5 h =>
  thenV (some (x0, h)) fun y22 h =>
  thenV (C 15 [y22] h) fun y23 h =>
  thenV (some (y23, h)) fun y21 h =>
  thenV (pu (extractA y21 0) h) fun y24 h =>
  thenV (pu (extractA y21 1) h) fun y25 h =>
  thenV (pu (extractA y21 2) h) fun y26 h =>
  thenV (newC [(.int .i64 0), (.int .i64 0), (.int .i64 0)] h) fun y6 h =>
  thenV (stN 3 y6 y24 h) fun _ h =>
  thenV (some (y25, h)) fun y7 h =>
  thenV (some (y26, h)) fun y8 h =>
  thenV (ldN 3 y3 h) fun y27 h =>
  thenV (ldN 3 y6 h) fun y28 h =>
  thenV (pu (bin Tryz.prog .eql 23 y27 y28) h) fun y29 h =>
  thenV (some (y29, h)) fun y30 h =>
  thenV (guardK (bOf y30 == some true) (some (y5, h)) h) fun y31 h =>
  thenV (guardK (bOf y30 == some true) (some (y8, h)) h) fun y32 h =>
  thenV (guardK (bOf y30 == some true) (pu (bin Tryz.prog .eql 31 y31 y32) h) h) fun y33 h =>
  thenV (match y30 with | .bool t => some (if t then y33 else (.bool false), h) | _ => none) fun y34 h =>
  thenV (some (y34, h)) fun y35 h =>
  thenV (guardK (bOf y35 == some true) (some (y4, h)) h) fun y36 h =>
  thenV (guardK (bOf y35 == some true) (some (y7, h)) h) fun y37 h =>
  thenV (guardK (bOf y35 == some true) (C 16 [y36, y37] h) h) fun y38 h =>
  thenV (match y35 with | .bool t => some (if t then y38 else (.bool false), h) | _ => none) fun y39 h =>
  thenV (some (y39, h)) fun y40 h =>
  thenV (guardK (bOf y40 == some true) (C 8 [] h) h) fun y41 h =>
  thenV (match y40 with | .bool t => some (if t then y41 else (.bool false), h) | _ => none) fun y42 h =>
  thenV (some (y42, h)) fun y2_1 h =>
  some (y2_1, h)
  | _ => none)
theorem t4_eq (C : CallF) (x0 : Value) (h : Heap) : bodyK Tryz.prog C Tryz.f4 [x0] h = t4 C x0 h :=
  (bodyB_eq Tryz.prog C Tryz.f4 [x0] h (by kernel_rfl)).trans (by kernel_rfl)


end Go.Proofs.YtdmnphocgfnlpaaGreatDoor

namespace Go.Proofs.YtdmnphocgfnlpaaGreatDoor
open Go Go.Abs
end Go.Proofs.YtdmnphocgfnlpaaGreatDoor

