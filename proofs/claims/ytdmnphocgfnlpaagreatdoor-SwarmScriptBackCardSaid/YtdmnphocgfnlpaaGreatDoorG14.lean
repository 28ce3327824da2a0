/-
  The swarm: printed texts of functions, each linked to the program.
  Conditions: none.
  The swarm: printed texts of functions, each linked to the program.
  Conditions: none.
-/
import Derived.Test.YtdmnphocgfnlpaaGreatDoorG13
import Derived.Test.YtdmnphocgfnlpaaGreatDoorProg
import Derived.KernelRfl
namespace Go.Proofs.YtdmnphocgfnlpaaGreatDoor
open Go Go.Abs
/-- (*stolon/digest.Writer).U8 -/
noncomputable def t37 (C : CallF) (x0 x1 : Value) (h : Heap) : Out :=
  thenV (some (x0, h)) fun y4 h =>
  thenV (some (x1, h)) fun y5 h =>
  thenV (cvI .u64 y5 h) fun y6 h =>
  thenV (C 90 [y4, y6, (.int .i64 1)] h) fun y7 h =>
  some (.tuple #[], h)
theorem t37_eq (C : CallF) (x0 x1 : Value) (h : Heap) : bodyK Tryz.prog C Tryz.f37 [x0, x1] h = t37 C x0 x1 h :=
  (bodyB_eq Tryz.prog C Tryz.f37 [x0, x1] h (by kernel_rfl)).trans (by kernel_rfl)


/-- (*stolon/digest.Writer).U16 -/
noncomputable def t38 (C : CallF) (x0 x1 : Value) (h : Heap) : Out :=
  thenV (some (x0, h)) fun y4 h =>
  thenV (some (x1, h)) fun y5 h =>
  thenV (cvI .u64 y5 h) fun y6 h =>
  thenV (C 90 [y4, y6, (.int .i64 2)] h) fun y7 h =>
  some (.tuple #[], h)
theorem t38_eq (C : CallF) (x0 x1 : Value) (h : Heap) : bodyK Tryz.prog C Tryz.f38 [x0, x1] h = t38 C x0 x1 h :=
  (bodyB_eq Tryz.prog C Tryz.f38 [x0, x1] h (by kernel_rfl)).trans (by kernel_rfl)


/-- (*stolon/digest.Writer).U32 -/
noncomputable def t39 (C : CallF) (x0 x1 : Value) (h : Heap) : Out :=
  thenV (some (x0, h)) fun y4 h =>
  thenV (some (x1, h)) fun y5 h =>
  thenV (cvI .u64 y5 h) fun y6 h =>
  thenV (C 90 [y4, y6, (.int .i64 4)] h) fun y7 h =>
  some (.tuple #[], h)
theorem t39_eq (C : CallF) (x0 x1 : Value) (h : Heap) : bodyK Tryz.prog C Tryz.f39 [x0, x1] h = t39 C x0 x1 h :=
  (bodyB_eq Tryz.prog C Tryz.f39 [x0, x1] h (by kernel_rfl)).trans (by kernel_rfl)


/-- (*stolon/digest.Writer).U64 -/
noncomputable def t41 (C : CallF) (x0 x1 : Value) (h : Heap) : Out :=
  thenV (some (x0, h)) fun y4 h =>
  thenV (some (x1, h)) fun y5 h =>
  thenV (C 90 [y4, y5, (.int .i64 8)] h) fun y6 h =>
  some (.tuple #[], h)
theorem t41_eq (C : CallF) (x0 x1 : Value) (h : Heap) : bodyK Tryz.prog C Tryz.f41 [x0, x1] h = t41 C x0 x1 h :=
  (bodyB_eq Tryz.prog C Tryz.f41 [x0, x1] h (by kernel_rfl)).trans (by kernel_rfl)


noncomputable def b90_2 (C : CallF) (i : Nat) (e : Env) (h : Heap) : Out := if i = 0 then (resultsA Tryz.prog Tryz.f90.results.toList) e h else (fun _ _ _ => none) i e h
/-- (*stolon/digest.Writer).number -/
noncomputable def t90 (C : CallF) (x0 x1 x2 : Value) (h : Heap) : Out :=
  thenV (some (x0, h)) fun y7 h =>
  thenV (some (x2, h)) fun y8 h =>
  thenV (C 91 [y7, y8] h) fun y9 h =>
  (match y9 with
  | .bool true =>
  thenV (some (x2, h)) fun y10 h =>
  thenV (pu (bin Tryz.prog .sub 3 y10 (.int .i64 1)) h) fun y11 h =>
  thenV (some (y11, h)) fun y6 h =>
  endL (iter (codeA Tryz.prog C (partOf Tryz.f90 [1, 0, 1, 0, 0])) rounds (mkF 30 (up (bs [x0, x1, x2]) [(6, y6), (7, y7), (8, y8), (9, y9), (10, y10), (11, y11)])) h) (resultsA Tryz.prog Tryz.f90.results.toList) (b90_2 C)
  | .bool false =>
  some (.tuple #[], h)
  | _ => none)
noncomputable def t90l90_1010 (C : CallF) (x : Nat → Value) (h : Heap) : Option (Ex × Env × Heap) :=
  thenV (some ((x 6), h)) fun y12 h =>
  thenV (pu (bin Tryz.prog .geq 3 y12 (.int .i64 0)) h) fun y13 h =>
  (match y13 with
  | .bool true =>
  thenV (some ((x 0), h)) fun y16 h =>
  thenV (some ((x 0), h)) fun y17 h =>
  thenV (pu (nilCheckA y17) h) fun y18 h =>
  thenV (pu (addP y18 2) h) fun y19 h =>
  thenV (ld1 y19 h) fun y20 h =>
  thenV (some ((x 1), h)) fun y21 h =>
  thenV (some ((x 6), h)) fun y22 h =>
  thenV (pu (bin Tryz.prog .mul 3 (.int .i64 8) y22) h) fun y23 h =>
  thenV (pu (bin Tryz.prog .shr 27 y21 y23) h) fun y24 h =>
  thenV (cvI .u8 y24 h) fun y25 h =>
  thenV (bslR 1 (.int .u8 0) 1 [(0, y25)] h) fun y26 h =>
  thenV (appendA 1 1 y20 y26 h) fun y27 h =>
  thenV (pu (nilCheckA y16) h) fun y28 h =>
  thenV (pu (addP y28 2) h) fun y29 h =>
  thenV (stN 1 y29 y27 h) fun _ h =>
  thenV (some ((x 6), h)) fun y14 h =>
  thenV (pu (bin Tryz.prog .sub 3 y14 (.int .i64 1)) h) fun y15 h =>
  thenV (some (y15, h)) fun y6 h =>
  some (.normal, (mkF 30 (up x [(6, y6), (12, y12), (13, y13), (14, y14), (15, y15), (16, y16), (17, y17), (18, y18), (19, y19), (20, y20), (21, y21), (22, y22), (23, y23), (24, y24), (25, y25), (26, y26), (27, y27), (28, y28), (29, y29)])), h)
  | .bool false =>
  some (.exit 0, (mkF 30 (up x [(12, y12), (13, y13)])), h)
  | _ => none)
theorem t90_eq (C : CallF) (x0 x1 x2 : Value) (h : Heap) : bodyK Tryz.prog C Tryz.f90 [x0, x1, x2] h = t90 C x0 x1 x2 h :=
  (bodyB_eq Tryz.prog C Tryz.f90 [x0, x1, x2] h (by kernel_rfl)).trans (by kernel_rfl)
theorem t90l90_1010_eq (C : CallF) (x : Nat → Value) (h : Heap) : codeA Tryz.prog C (partOf Tryz.f90 [1, 0, 1, 0, 0]) (mkF 30 x) h = t90l90_1010 C x h :=
  link_roundF (T := t90l90_1010 C) (fun x h => by kernel_rfl) x h


noncomputable def k52_2 (C : CallF) (e : Env) (h : Heap) : Out := codeK Tryz.prog C (partOf Tryz.f52 [1, 1, 1]) e h (resultsA Tryz.prog Tryz.f52.results.toList) (resultsA Tryz.prog Tryz.f52.results.toList) (fun _ _ _ => none)
noncomputable def b52_4 (C : CallF) (i : Nat) (e : Env) (h : Heap) : Out := if i = 0 then (k52_2 C) e h else (fun _ _ _ => none) i e h
/-- stolon/stolonref02.Value -/
noncomputable def t52 (C : CallF) (x0 : Value) (h : Heap) : Out :=
  thenV (some ((.int .u64 0), h)) fun y2 h =>
  thenV (some ((.int .u64 0), h)) fun y3 h =>
  thenV (some ((.int .i64 0), h)) fun y4 h =>
  endL (iter (codeA Tryz.prog C (partOf Tryz.f52 [1, 1, 0, 1, 0, 0])) rounds (mkF 20 (up (bs [x0]) [(2, y2), (3, y3), (4, y4)])) h) (resultsA Tryz.prog Tryz.f52.results.toList) (b52_4 C)
noncomputable def t52k52_2 (C : CallF) (x : Nat → Value) (h : Heap) : Out :=
  thenV (some ((x 3), h)) fun y19 h =>
  thenV (some (y19, h)) fun y2 h =>
  some (y2, h)
noncomputable def t52l52_11010 (C : CallF) (x : Nat → Value) (h : Heap) : Option (Ex × Env × Heap) :=
  thenV (some ((x 4), h)) fun y5 h =>
  thenV (some ((x 0), h)) fun y6 h =>
  thenV (pu (lenL y6) h) fun y7 h =>
  thenV (pu (bin Tryz.prog .lss 3 y5 y7) h) fun y8 h =>
  (match y8 with
  | .bool true =>
  thenV (some ((x 3), h)) fun y11 h =>
  thenV (pu (bin Tryz.prog .shl 27 y11 (.int .u64 8)) h) fun y12 h =>
  thenV (some ((x 0), h)) fun y13 h =>
  thenV (some ((x 4), h)) fun y14 h =>
  thenV (pu (idxS 1 y13 y14) h) fun y15 h =>
  thenV (ld1 y15 h) fun y16 h =>
  thenV (cvI .u64 y16 h) fun y17 h =>
  thenV (pu (bin Tryz.prog .or 27 y12 y17) h) fun y18 h =>
  thenV (some (y18, h)) fun y3 h =>
  thenV (some ((x 4), h)) fun y9 h =>
  thenV (pu (bin Tryz.prog .add 3 y9 (.int .i64 1)) h) fun y10 h =>
  thenV (some (y10, h)) fun y4 h =>
  some (.normal, (mkF 20 (up x [(3, y3), (4, y4), (5, y5), (6, y6), (7, y7), (8, y8), (9, y9), (10, y10), (11, y11), (12, y12), (13, y13), (14, y14), (15, y15), (16, y16), (17, y17), (18, y18)])), h)
  | .bool false =>
  some (.exit 0, (mkF 20 (up x [(5, y5), (6, y6), (7, y7), (8, y8)])), h)
  | _ => none)
theorem t52_eq (C : CallF) (x0 : Value) (h : Heap) : bodyK Tryz.prog C Tryz.f52 [x0] h = t52 C x0 h :=
  (bodyB_eq Tryz.prog C Tryz.f52 [x0] h (by kernel_rfl)).trans (by kernel_rfl)
theorem t52k52_2_eq (C : CallF) (x : Nat → Value) (h : Heap) : k52_2 C (mkF 20 x) h = t52k52_2 C x h :=
  link_partF (b := (partOf Tryz.f52 [1, 1, 1])) (kE := (resultsA Tryz.prog Tryz.f52.results.toList)) (rE := (resultsA Tryz.prog Tryz.f52.results.toList)) (xE := (fun _ _ _ => none)) (T := t52k52_2 C) (fun x h => by kernel_rfl) x h
theorem t52l52_11010_eq (C : CallF) (x : Nat → Value) (h : Heap) : codeA Tryz.prog C (partOf Tryz.f52 [1, 1, 0, 1, 0, 0]) (mkF 20 x) h = t52l52_11010 C x h :=
  link_roundF (T := t52l52_11010 C) (fun x h => by kernel_rfl) x h


/-- stolon/stolonref10.Valid -/
noncomputable def t13 (C : CallF) (x0 : Value) (h : Heap) : Out :=
  thenV (box x0 h) fun y1 h =>
  thenV (some ((.bool false), h)) fun y2 h =>
  thenV (pu (addP y1 0) h) fun y3 h =>
  thenV (ld1 y3 h) fun y4 h =>
  thenV (pu (bin Tryz.prog .geq 3 y4 (.int .i64 2)) h) fun y5 h =>
  thenV (some (y5, h)) fun y6 h =>
  thenV (guardK (bOf y6 == some true) (pu (addP y1 0) h) h) fun y7 h =>
  thenV (guardK (bOf y6 == some true) (ld1 y7 h) h) fun y8 h =>
  thenV (guardK (bOf y6 == some true) (pu (bin Tryz.prog .leq 3 y8 (.int .i64 16)) h) h) fun y9 h =>
  thenV (match y6 with | .bool t => some (if t then y9 else (.bool false), h) | _ => none) fun y10 h =>
  thenV (some (y10, h)) fun y11 h =>
  thenV (guardK (bOf y11 == some true) (pu (addP y1 1) h) h) fun y12 h =>
  thenV (guardK (bOf y11 == some true) (ld1 y12 h) h) fun y13 h =>
  thenV (guardK (bOf y11 == some true) (pu (bin Tryz.prog .geq 3 y13 (.int .i64 4)) h) h) fun y14 h =>
  thenV (match y11 with | .bool t => some (if t then y14 else (.bool false), h) | _ => none) fun y15 h =>
  thenV (some (y15, h)) fun y16 h =>
  thenV (guardK (bOf y16 == some true) (pu (addP y1 1) h) h) fun y17 h =>
  thenV (guardK (bOf y16 == some true) (ld1 y17 h) h) fun y18 h =>
  thenV (guardK (bOf y16 == some true) (pu (bin Tryz.prog .leq 3 y18 (.int .i64 4096)) h) h) fun y19 h =>
  thenV (match y16 with | .bool t => some (if t then y19 else (.bool false), h) | _ => none) fun y20 h =>
  thenV (some (y20, h)) fun y21 h =>
  thenV (guardK (bOf y21 == some true) (pu (addP y1 2) h) h) fun y22 h =>
  thenV (guardK (bOf y21 == some true) (ld1 y22 h) h) fun y23 h =>
  thenV (guardK (bOf y21 == some true) (pu (bin Tryz.prog .geq 3 y23 (.int .i64 0)) h) h) fun y24 h =>
  thenV (match y21 with | .bool t => some (if t then y24 else (.bool false), h) | _ => none) fun y25 h =>
  thenV (some (y25, h)) fun y26 h =>
  thenV (guardK (bOf y26 == some true) (pu (addP y1 2) h) h) fun y27 h =>
  thenV (guardK (bOf y26 == some true) (ld1 y27 h) h) fun y28 h =>
  thenV (guardK (bOf y26 == some true) (pu (bin Tryz.prog .leq 3 y28 (.int .i64 4294967295)) h) h) fun y29 h =>
  thenV (match y26 with | .bool t => some (if t then y29 else (.bool false), h) | _ => none) fun y30 h =>
  thenV (some (y30, h)) fun y2_1 h =>
  some (y2_1, h)
theorem t13_eq (C : CallF) (x0 : Value) (h : Heap) : bodyK Tryz.prog C Tryz.f13 [x0] h = t13 C x0 h :=
  (bodyB_eq Tryz.prog C Tryz.f13 [x0] h (by kernel_rfl)).trans (by kernel_rfl)


noncomputable def b14_11 (C : CallF) (i : Nat) (e : Env) (h : Heap) : Out := if i = 0 then (resultsA Tryz.prog Tryz.f14.results.toList) e h else (fun _ _ _ => none) i e h
/-- stolon/swarm.Parse -/
noncomputable def t14 (C : CallF) (x0 : Value) (h : Heap) : Out :=
  thenV (newC [(.int .i64 0), (.int .i64 0), (.int .i64 0)] h) fun y2 h =>
  thenV (some ((.slice none 0 0), h)) fun y3 h =>
  thenV (some ((.int .i64 0), h)) fun y4 h =>
  thenV (some (x0, h)) fun y10 h =>
  thenV (C 45 [y10] h) fun y11 h =>
  thenV (some (y11, h)) fun y5 h =>
  thenV (some (y5, h)) fun y12 h =>
  thenV (C 46 [y12] h) fun y13 h =>
  thenV (cvI .i64 y13 h) fun y14 h =>
  thenV (some (y5, h)) fun y15 h =>
  thenV (C 47 [y15] h) fun y16 h =>
  thenV (cvI .i64 y16 h) fun y17 h =>
  thenV (some (y5, h)) fun y18 h =>
  thenV (C 48 [y18] h) fun y19 h =>
  thenV (cvI .i64 y19 h) fun y20 h =>
  thenV (pu (bldR [(.int .i64 0), (.int .i64 0), (.int .i64 0)] [(0, 1, y14), (1, 1, y17), (2, 1, y20)]) h) fun y21 h =>
  thenV (newC [(.int .i64 0), (.int .i64 0), (.int .i64 0)] h) fun y6 h =>
  thenV (stN 3 y6 y21 h) fun _ h =>
  thenV (some (y5, h)) fun y22 h =>
  thenV (C 49 [y22] h) fun y23 h =>
  thenV (some (y23, h)) fun y7 h =>
  thenV (some (y7, h)) fun y24 h =>
  thenV (pu (bin Tryz.prog .neq 31 y24 (.int .i64 0)) h) fun y25 h =>
  (match y25 with
  | .bool true =>
  thenV (pu (bldR [(.int .i64 0), (.int .i64 0), (.int .i64 0)] []) h) fun y26 h =>
  thenV (some (y7, h)) fun y27 h =>
  thenV (stN 3 y2 y26 h) fun _ h =>
  thenV (some ((.slice none 0 0), h)) fun y3_1 h =>
  thenV (some (y27, h)) fun y4_1 h =>
  resultsA Tryz.prog Tryz.f14.results.toList (mkF 57 (up (bs [x0]) [(2, y2), (3, y3_1), (4, y4_1), (5, y5), (6, y6), (7, y7), (10, y10), (11, y11), (12, y12), (13, y13), (14, y14), (15, y15), (16, y16), (17, y17), (18, y18), (19, y19), (20, y20), (21, y21), (22, y22), (23, y23), (24, y24), (25, y25), (26, y26), (27, y27)])) h
  | .bool false =>
  thenV (ldN 3 y6 h) fun y28 h =>
  thenV (C 12 [y28] h) fun y29 h =>
  thenV (pu (unA .not y29) h) fun y30 h =>
  (match y30 with
  | .bool true =>
  thenV (pu (bldR [(.int .i64 0), (.int .i64 0), (.int .i64 0)] []) h) fun y31 h =>
  thenV (stN 3 y2 y31 h) fun _ h =>
  thenV (some ((.slice none 0 0), h)) fun y3_1 h =>
  thenV (some ((.int .i64 2), h)) fun y4_1 h =>
  resultsA Tryz.prog Tryz.f14.results.toList (mkF 57 (up (bs [x0]) [(2, y2), (3, y3_1), (4, y4_1), (5, y5), (6, y6), (7, y7), (10, y10), (11, y11), (12, y12), (13, y13), (14, y14), (15, y15), (16, y16), (17, y17), (18, y18), (19, y19), (20, y20), (21, y21), (22, y22), (23, y23), (24, y24), (25, y25), (28, y28), (29, y29), (30, y30), (31, y31)])) h
  | .bool false =>
  thenV (some ((.slice none 0 0), h)) fun y8 h =>
  endL (iter (codeA Tryz.prog C (partOf Tryz.f14 [1, 1, 1, 1, 1, 1, 0, 0])) rounds (mkF 57 (up (bs [x0]) [(2, y2), (3, y3), (4, y4), (5, y5), (6, y6), (7, y7), (8, y8), (10, y10), (11, y11), (12, y12), (13, y13), (14, y14), (15, y15), (16, y16), (17, y17), (18, y18), (19, y19), (20, y20), (21, y21), (22, y22), (23, y23), (24, y24), (25, y25), (28, y28), (29, y29), (30, y30)])) h) (resultsA Tryz.prog Tryz.f14.results.toList) (b14_11 C)
  | _ => none)
  | _ => none)
noncomputable def t14l14_1111110 (C : CallF) (x : Nat → Value) (h : Heap) : Option (Ex × Env × Heap) :=
  thenV (some ((x 5), h)) fun y32 h =>
  thenV (C 46 [y32] h) fun y33 h =>
  thenV (some ((x 5), h)) fun y34 h =>
  thenV (C 46 [y34] h) fun y35 h =>
  thenV (cvI .i64 y35 h) fun y36 h =>
  thenV (some ((x 5), h)) fun y37 h =>
  thenV (C 47 [y37] h) fun y38 h =>
  thenV (cvI .i64 y38 h) fun y39 h =>
  thenV (some ((x 5), h)) fun y40 h =>
  thenV (C 47 [y40] h) fun y41 h =>
  thenV (cvI .i64 y41 h) fun y42 h =>
  thenV (some ((x 5), h)) fun y43 h =>
  thenV (C 50 [y43] h) fun y44 h =>
  thenV (some ((x 5), h)) fun y45 h =>
  thenV (C 51 [y45] h) fun y46 h =>
  thenV (pu (bldR [(.int .u8 0), (.int .i64 0), (.int .i64 0), (.int .i64 0), (.int .u64 0), (.slice none 0 0)] [(0, 1, y33), (1, 1, y36), (2, 1, y39), (3, 1, y42), (4, 1, y44), (5, 1, y46)]) h) fun y47 h =>
  thenV (newC [(.int .u8 0), (.int .i64 0), (.int .i64 0), (.int .i64 0), (.int .u64 0), (.slice none 0 0)] h) fun y9 h =>
  thenV (stN 6 y9 y47 h) fun _ h =>
  thenV (some ((x 5), h)) fun y48 h =>
  thenV (C 49 [y48] h) fun y49 h =>
  thenV (pu (bin Tryz.prog .neq 31 y49 (.int .i64 0)) h) fun y50 h =>
  (match y50 with
  | .bool true =>
  thenV (ldN 3 (x 6) h) fun y51 h =>
  thenV (some ((x 8), h)) fun y52 h =>
  thenV (stN 3 (x 2) y51 h) fun _ h =>
  thenV (some (y52, h)) fun y3 h =>
  thenV (some ((.int .i64 0), h)) fun y4 h =>
  some (.ret, (mkF 57 (up x [(3, y3), (4, y4), (9, y9), (32, y32), (33, y33), (34, y34), (35, y35), (36, y36), (37, y37), (38, y38), (39, y39), (40, y40), (41, y41), (42, y42), (43, y43), (44, y44), (45, y45), (46, y46), (47, y47), (48, y48), (49, y49), (50, y50), (51, y51), (52, y52)])), h)
  | .bool false =>
  thenV (some ((x 8), h)) fun y53 h =>
  thenV (ldN 6 y9 h) fun y54 h =>
  thenV (bslR 6 (.agg #[(.int .u8 0), (.int .i64 0), (.int .i64 0), (.int .i64 0), (.int .u64 0), (.slice none 0 0)]) 1 [(0, y54)] h) fun y55 h =>
  thenV (appendA 6 64 y53 y55 h) fun y56 h =>
  thenV (some (y56, h)) fun y8 h =>
  some (.normal, (mkF 57 (up x [(8, y8), (9, y9), (32, y32), (33, y33), (34, y34), (35, y35), (36, y36), (37, y37), (38, y38), (39, y39), (40, y40), (41, y41), (42, y42), (43, y43), (44, y44), (45, y45), (46, y46), (47, y47), (48, y48), (49, y49), (50, y50), (53, y53), (54, y54), (55, y55), (56, y56)])), h)
  | _ => none)
theorem t14_eq (C : CallF) (x0 : Value) (h : Heap) : bodyK Tryz.prog C Tryz.f14 [x0] h = t14 C x0 h :=
  (bodyB_eq Tryz.prog C Tryz.f14 [x0] h (by kernel_rfl)).trans (by kernel_rfl)
theorem t14l14_1111110_eq (C : CallF) (x : Nat → Value) (h : Heap) : codeA Tryz.prog C (partOf Tryz.f14 [1, 1, 1, 1, 1, 1, 0, 0]) (mkF 57 x) h = t14l14_1111110 C x h :=
  link_roundF (T := t14l14_1111110 C) (fun x h => by kernel_rfl) x h


noncomputable def k15_11 (C : CallF) (e : Env) (h : Heap) : Out := codeK Tryz.prog C (partOf Tryz.f15 [1, 1, 1, 1, 1, 1, 1]) e h (resultsA Tryz.prog Tryz.f15.results.toList) (resultsA Tryz.prog Tryz.f15.results.toList) (fun _ _ _ => none)
noncomputable def b15_12 (C : CallF) (i : Nat) (e : Env) (h : Heap) : Out := if i = 0 then (k15_11 C) e h else (fun _ _ _ => none) i e h
/-- stolon/stolonref10.Parse -/
noncomputable def t15 (C : CallF) (x0 : Value) (h : Heap) : Out :=
  thenV (newC [(.int .i64 0), (.int .i64 0), (.int .i64 0)] h) fun y2 h =>
  thenV (some ((.slice none 0 0), h)) fun y3 h =>
  thenV (some ((.int .i64 0), h)) fun y4 h =>
  thenV (some (x0, h)) fun y8 h =>
  thenV (pu (lenL y8) h) fun y9 h =>
  thenV (pu (bin Tryz.prog .lss 3 y9 (.int .i64 7)) h) fun y10 h =>
  (match y10 with
  | .bool true =>
  thenV (pu (bldR [(.int .i64 0), (.int .i64 0), (.int .i64 0)] []) h) fun y11 h =>
  thenV (stN 3 y2 y11 h) fun _ h =>
  thenV (some ((.slice none 0 0), h)) fun y3_1 h =>
  thenV (some ((.int .i64 4), h)) fun y4_1 h =>
  resultsA Tryz.prog Tryz.f15.results.toList (mkF 78 (up (bs [x0]) [(2, y2), (3, y3_1), (4, y4_1), (8, y8), (9, y9), (10, y10), (11, y11)])) h
  | .bool false =>
  let g5_0 := h
  thenV (some (x0, g5_0)) fun y12 g5_1 =>
  thenV (pu (idxS 1 y12 (.int .i64 0)) g5_1) fun y13 g5_2 =>
  thenV (ld1 y13 g5_2) fun y14 g5_3 =>
  thenV (cvI .i64 y14 g5_3) fun y15 g5_4 =>
  thenV (some (x0, g5_4)) fun y16 g5_5 =>
  thenV (pu (slR 1 y16 (some (.int .i64 1)) (some (.int .i64 3)) none) g5_5) fun y17 g5_6 =>
  thenV (C 52 [y17] g5_6) fun y18 g5_7 =>
  thenV (cvI .i64 y18 g5_7) fun y19 g5_8 =>
  thenV (some (x0, g5_8)) fun y20 g5_9 =>
  thenV (pu (slR 1 y20 (some (.int .i64 3)) (some (.int .i64 7)) none) g5_9) fun y21 g5_10 =>
  thenV (C 52 [y21] g5_10) fun y22 g5_11 =>
  thenV (cvI .i64 y22 g5_11) fun y23 g5_12 =>
  thenV (pu (bldR [(.int .i64 0), (.int .i64 0), (.int .i64 0)] [(0, 1, y15), (1, 1, y19), (2, 1, y23)]) g5_12) fun y24 g5_13 =>
  thenV (newC [(.int .i64 0), (.int .i64 0), (.int .i64 0)] g5_13) fun y5 g5_14 =>
  thenV (stN 3 y5 y24 g5_14) fun _ g5_15 =>
  (match (chkR true (ld1 y13 g5_7) y14 && (chkR true (ld1 y13 g5_11) y14 && (chkR true (cvI .i64 y14 g5_7) y15 && (chkR true (cvI .i64 y14 g5_11) y15 && (chkR true (cvI .i64 y18 g5_11) y19 && true))))) with
  | true =>
  let h := g5_15
  thenV (ldN 3 y5 h) fun y25 h =>
  thenV (C 13 [y25] h) fun y26 h =>
  thenV (pu (unA .not y26) h) fun y27 h =>
  (match y27 with
  | .bool true =>
  thenV (pu (bldR [(.int .i64 0), (.int .i64 0), (.int .i64 0)] []) h) fun y28 h =>
  thenV (stN 3 y2 y28 h) fun _ h =>
  thenV (some ((.slice none 0 0), h)) fun y3_1 h =>
  thenV (some ((.int .i64 2), h)) fun y4_1 h =>
  resultsA Tryz.prog Tryz.f15.results.toList (mkF 78 (up (bs [x0]) [(2, y2), (3, y3_1), (4, y4_1), (5, y5), (8, y8), (9, y9), (10, y10), (12, y12), (13, y13), (14, y14), (15, y15), (16, y16), (17, y17), (18, y18), (19, y19), (20, y20), (21, y21), (22, y22), (23, y23), (24, y24), (25, y25), (26, y26), (27, y27), (28, y28)])) h
  | .bool false =>
  thenV (bslR 6 (.agg #[(.int .u8 0), (.int .i64 0), (.int .i64 0), (.int .i64 0), (.int .u64 0), (.slice none 0 0)]) 0 [] h) fun y29 h =>
  thenV (some (y29, h)) fun y6 h =>
  thenV (some (x0, h)) fun y30 h =>
  thenV (pu (slR 1 y30 (some (.int .i64 7)) none none) h) fun y31 h =>
  thenV (some (y31, h)) fun y0 h =>
  endL (iter (codeA Tryz.prog C (partOf Tryz.f15 [1, 1, 1, 1, 1, 1, 0, 0, 0])) rounds (mkF 78 (up (bs [x0]) [(0, y0), (2, y2), (3, y3), (4, y4), (5, y5), (6, y6), (8, y8), (9, y9), (10, y10), (12, y12), (13, y13), (14, y14), (15, y15), (16, y16), (17, y17), (18, y18), (19, y19), (20, y20), (21, y21), (22, y22), (23, y23), (24, y24), (25, y25), (26, y26), (27, y27), (29, y29), (30, y30), (31, y31)])) h) (resultsA Tryz.prog Tryz.f15.results.toList) (b15_12 C)
  | _ => none)
  | false => none)
  | _ => none)
noncomputable def t15k15_11 (C : CallF) (x : Nat → Value) (h : Heap) : Out :=
  thenV (ldN 3 (x 5) h) fun y76 h =>
  thenV (some ((x 6), h)) fun y77 h =>
  thenV (stN 3 (x 2) y76 h) fun _ h =>
  thenV (some (y77, h)) fun y3 h =>
  thenV (some ((.int .i64 0), h)) fun y4 h =>
  resultsA Tryz.prog Tryz.f15.results.toList (mkF 78 (up x [(3, y3), (4, y4), (76, y76), (77, y77)])) h
noncomputable def t15l15_11111100 (C : CallF) (x : Nat → Value) (h : Heap) : Option (Ex × Env × Heap) :=
  thenV (some ((x 0), h)) fun y32 h =>
  thenV (pu (lenL y32) h) fun y33 h =>
  thenV (pu (bin Tryz.prog .geq 3 y33 (.int .i64 16)) h) fun y34 h =>
  (match y34 with
  | .bool true =>
  thenV (some ((x 0), h)) fun y35 h =>
  thenV (pu (slR 1 y35 (some (.int .i64 14)) (some (.int .i64 16)) none) h) fun y36 h =>
  thenV (C 52 [y36] h) fun y37 h =>
  thenV (cvI .i64 y37 h) fun y38 h =>
  thenV (some (y38, h)) fun y7 h =>
  thenV (some ((x 0), h)) fun y39 h =>
  thenV (pu (lenL y39) h) fun y40 h =>
  thenV (pu (bin Tryz.prog .sub 3 y40 (.int .i64 16)) h) fun y41 h =>
  thenV (some (y7, h)) fun y42 h =>
  thenV (pu (bin Tryz.prog .lss 3 y41 y42) h) fun y43 h =>
  (match y43 with
  | .bool true =>
  some (.exit 0, (mkF 78 (up x [(7, y7), (32, y32), (33, y33), (34, y34), (35, y35), (36, y36), (37, y37), (38, y38), (39, y39), (40, y40), (41, y41), (42, y42), (43, y43)])), h)
  | .bool false =>
  let g21_0 := h
  thenV (some ((x 6), g21_0)) fun y44 g21_1 =>
  thenV (some ((x 0), g21_1)) fun y45 g21_2 =>
  thenV (pu (idxS 1 y45 (.int .i64 0)) g21_2) fun y46 g21_3 =>
  thenV (ld1 y46 g21_3) fun y47 g21_4 =>
  thenV (some ((x 0), g21_4)) fun y48 g21_5 =>
  thenV (pu (idxS 1 y48 (.int .i64 1)) g21_5) fun y49 g21_6 =>
  thenV (ld1 y49 g21_6) fun y50 g21_7 =>
  thenV (cvI .i64 y50 g21_7) fun y51 g21_8 =>
  thenV (some ((x 0), g21_8)) fun y52 g21_9 =>
  thenV (pu (slR 1 y52 (some (.int .i64 2)) (some (.int .i64 4)) none) g21_9) fun y53 g21_10 =>
  thenV (C 52 [y53] g21_10) fun y54 g21_11 =>
  thenV (cvI .i64 y54 g21_11) fun y55 g21_12 =>
  thenV (some ((x 0), g21_12)) fun y56 g21_13 =>
  thenV (pu (slR 1 y56 (some (.int .i64 4)) (some (.int .i64 6)) none) g21_13) fun y57 g21_14 =>
  thenV (C 52 [y57] g21_14) fun y58 g21_15 =>
  thenV (cvI .i64 y58 g21_15) fun y59 g21_16 =>
  thenV (some ((x 0), g21_16)) fun y60 g21_17 =>
  thenV (pu (slR 1 y60 (some (.int .i64 6)) (some (.int .i64 14)) none) g21_17) fun y61 g21_18 =>
  thenV (C 52 [y61] g21_18) fun y62 g21_19 =>
  thenV (some ((x 0), g21_19)) fun y64 g21_20 =>
  thenV (some (y7, g21_20)) fun y65 g21_21 =>
  thenV (pu (bin Tryz.prog .add 3 (.int .i64 16) y65) g21_21) fun y66 g21_22 =>
  thenV (pu (slR 1 y64 (some (.int .i64 16)) (some y66) none) g21_22) fun y67 g21_23 =>
  thenV (bslR 1 (.int .u8 0) 0 [] g21_23) fun y63 g21_24 =>
  thenV (appendA 1 1 y63 y67 g21_24) fun y68 g21_25 =>
  thenV (pu (bldR [(.int .u8 0), (.int .i64 0), (.int .i64 0), (.int .i64 0), (.int .u64 0), (.slice none 0 0)] [(0, 1, y47), (1, 1, y51), (2, 1, y55), (3, 1, y59), (4, 1, y62), (5, 1, y68)]) g21_25) fun y69 g21_26 =>
  thenV (bslR 6 (.agg #[(.int .u8 0), (.int .i64 0), (.int .i64 0), (.int .i64 0), (.int .u64 0), (.slice none 0 0)]) 1 [(0, y69)] g21_26) fun y70 g21_27 =>
  thenV (appendA 6 64 y44 y70 g21_27) fun y71 g21_28 =>
  thenV (some (y71, g21_28)) fun y6 g21_29 =>
  (match (chkR true (ld1 y46 g21_11) y47 && (chkR true (ld1 y46 g21_15) y47 && (chkR true (ld1 y46 g21_19) y47 && (chkR true (ld1 y46 g21_25) y47 && (chkR true (ld1 y49 g21_11) y50 && (chkR true (ld1 y49 g21_15) y50 && (chkR true (ld1 y49 g21_19) y50 && (chkR true (ld1 y49 g21_25) y50 && (chkR true (cvI .i64 y50 g21_11) y51 && (chkR true (cvI .i64 y50 g21_15) y51 && (chkR true (cvI .i64 y50 g21_19) y51 && (chkR true (cvI .i64 y50 g21_25) y51 && (chkR true (cvI .i64 y54 g21_15) y55 && (chkR true (cvI .i64 y54 g21_19) y55 && (chkR true (cvI .i64 y54 g21_25) y55 && (chkR true (cvI .i64 y58 g21_19) y59 && (chkR true (cvI .i64 y58 g21_25) y59 && true))))))))))))))))) with
  | true =>
  let h := g21_29
  thenV (some ((x 0), h)) fun y72 h =>
  thenV (some (y7, h)) fun y73 h =>
  thenV (pu (bin Tryz.prog .add 3 (.int .i64 16) y73) h) fun y74 h =>
  thenV (pu (slR 1 y72 (some y74) none none) h) fun y75 h =>
  thenV (some (y75, h)) fun y0 h =>
  some (.normal, (mkF 78 (up x [(0, y0), (6, y6), (7, y7), (32, y32), (33, y33), (34, y34), (35, y35), (36, y36), (37, y37), (38, y38), (39, y39), (40, y40), (41, y41), (42, y42), (43, y43), (44, y44), (45, y45), (46, y46), (47, y47), (48, y48), (49, y49), (50, y50), (51, y51), (52, y52), (53, y53), (54, y54), (55, y55), (56, y56), (57, y57), (58, y58), (59, y59), (60, y60), (61, y61), (62, y62), (63, y63), (64, y64), (65, y65), (66, y66), (67, y67), (68, y68), (69, y69), (70, y70), (71, y71), (72, y72), (73, y73), (74, y74), (75, y75)])), h)
  | false => none)
  | _ => none)
  | .bool false =>
  some (.exit 0, (mkF 78 (up x [(32, y32), (33, y33), (34, y34)])), h)
  | _ => none)
theorem t15_eq (C : CallF) (x0 : Value) (h : Heap) : bodyK Tryz.prog C Tryz.f15 [x0] h = t15 C x0 h :=
  (bodyB_eq Tryz.prog C Tryz.f15 [x0] h (by kernel_rfl)).trans (by kernel_rfl)
theorem t15k15_11_eq (C : CallF) (x : Nat → Value) (h : Heap) : k15_11 C (mkF 78 x) h = t15k15_11 C x h :=
  link_partF (b := (partOf Tryz.f15 [1, 1, 1, 1, 1, 1, 1])) (kE := (resultsA Tryz.prog Tryz.f15.results.toList)) (rE := (resultsA Tryz.prog Tryz.f15.results.toList)) (xE := (fun _ _ _ => none)) (T := t15k15_11 C) (fun x h => by kernel_rfl) x h
theorem t15l15_11111100_eq (C : CallF) (x : Nat → Value) (h : Heap) : codeA Tryz.prog C (partOf Tryz.f15 [1, 1, 1, 1, 1, 1, 0, 0, 0]) (mkF 78 x) h = t15l15_11111100 C x h :=
  link_roundF (T := t15l15_11111100 C) (fun x h => by kernel_rfl) x h


noncomputable def k16_4 (C : CallF) (e : Env) (h : Heap) : Out := codeK Tryz.prog C (partOf Tryz.f16 [1, 1, 1]) e h (resultsA Tryz.prog Tryz.f16.results.toList) (resultsA Tryz.prog Tryz.f16.results.toList) (fun _ _ _ => none)
noncomputable def b16_6 (C : CallF) (i : Nat) (e : Env) (h : Heap) : Out := if i = 0 then (k16_4 C) e h else (fun _ _ _ => none) i e h
/-- stolon/stolonlaw10.sameEvents -/
noncomputable def t16 (C : CallF) (x0 x1 : Value) (h : Heap) : Out :=
  thenV (some ((.bool false), h)) fun y4 h =>
  thenV (some (x0, h)) fun y8 h =>
  thenV (pu (lenL y8) h) fun y9 h =>
  thenV (some (x1, h)) fun y10 h =>
  thenV (pu (lenL y10) h) fun y11 h =>
  thenV (pu (bin Tryz.prog .neq 3 y9 y11) h) fun y12 h =>
  (match y12 with
  | .bool true =>
  thenV (some ((.bool false), h)) fun y4_1 h =>
  some (y4_1, h)
  | .bool false =>
  thenV (some ((.int .i64 0), h)) fun y5 h =>
  endL (iter (codeA Tryz.prog C (partOf Tryz.f16 [1, 1, 0, 1, 0, 0])) rounds (mkF 69 (up (bs [x0, x1]) [(4, y4), (5, y5), (8, y8), (9, y9), (10, y10), (11, y11), (12, y12)])) h) (resultsA Tryz.prog Tryz.f16.results.toList) (b16_6 C)
  | _ => none)
noncomputable def t16k16_4 (C : CallF) (x : Nat → Value) (h : Heap) : Out :=
  thenV (some ((.bool true), h)) fun y4 h =>
  some (y4, h)
noncomputable def t16l16_11010 (C : CallF) (x : Nat → Value) (h : Heap) : Option (Ex × Env × Heap) :=
  thenV (some ((x 5), h)) fun y13 h =>
  thenV (some ((x 0), h)) fun y14 h =>
  thenV (pu (lenL y14) h) fun y15 h =>
  thenV (pu (bin Tryz.prog .lss 3 y13 y15) h) fun y16 h =>
  (match y16 with
  | .bool true =>
  let g13_0 := h
  thenV (some ((x 0), g13_0)) fun y19 g13_1 =>
  thenV (some ((x 5), g13_1)) fun y20 g13_2 =>
  thenV (pu (idxS 6 y19 y20) g13_2) fun y21 g13_3 =>
  thenV (ldN 6 y21 g13_3) fun y22 g13_4 =>
  thenV (some ((x 1), g13_4)) fun y23 g13_5 =>
  thenV (some ((x 5), g13_5)) fun y24 g13_6 =>
  thenV (pu (idxS 6 y23 y24) g13_6) fun y25 g13_7 =>
  thenV (ldN 6 y25 g13_7) fun y26 g13_8 =>
  thenV (newC [(.int .u8 0), (.int .i64 0), (.int .i64 0), (.int .i64 0), (.int .u64 0), (.slice none 0 0)] g13_8) fun y6 g13_9 =>
  thenV (newC [(.int .u8 0), (.int .i64 0), (.int .i64 0), (.int .i64 0), (.int .u64 0), (.slice none 0 0)] g13_9) fun y7 g13_10 =>
  thenV (stN 6 y6 y22 g13_10) fun _ g13_11 =>
  thenV (stN 6 y7 y26 g13_11) fun _ g13_12 =>
  (match (chkR true (ldN 6 y25 g13_11) y26 && true) with
  | true =>
  let h := g13_12
  thenV (pu (addP y6 0) h) fun y27 h =>
  thenV (ld1 y27 h) fun y28 h =>
  thenV (pu (addP y7 0) h) fun y29 h =>
  thenV (ld1 y29 h) fun y30 h =>
  thenV (pu (bin Tryz.prog .neq 26 y28 y30) h) fun y31 h =>
  thenV (some (y31, h)) fun y32 h =>
  thenV (guardK (bOf y32 == some false) (pu (addP y6 1) h) h) fun y33 h =>
  thenV (guardK (bOf y32 == some false) (ld1 y33 h) h) fun y34 h =>
  thenV (guardK (bOf y32 == some false) (pu (addP y7 1) h) h) fun y35 h =>
  thenV (guardK (bOf y32 == some false) (ld1 y35 h) h) fun y36 h =>
  thenV (guardK (bOf y32 == some false) (pu (bin Tryz.prog .neq 3 y34 y36) h) h) fun y37 h =>
  thenV (match y32 with | .bool t => some (if t then (.bool true) else y37, h) | _ => none) fun y38 h =>
  thenV (some (y38, h)) fun y39 h =>
  thenV (guardK (bOf y39 == some false) (pu (addP y6 2) h) h) fun y40 h =>
  thenV (guardK (bOf y39 == some false) (ld1 y40 h) h) fun y41 h =>
  thenV (guardK (bOf y39 == some false) (pu (addP y7 2) h) h) fun y42 h =>
  thenV (guardK (bOf y39 == some false) (ld1 y42 h) h) fun y43 h =>
  thenV (guardK (bOf y39 == some false) (pu (bin Tryz.prog .neq 3 y41 y43) h) h) fun y44 h =>
  thenV (match y39 with | .bool t => some (if t then (.bool true) else y44, h) | _ => none) fun y45 h =>
  thenV (some (y45, h)) fun y46 h =>
  thenV (guardK (bOf y46 == some false) (pu (addP y6 3) h) h) fun y47 h =>
  thenV (guardK (bOf y46 == some false) (ld1 y47 h) h) fun y48 h =>
  thenV (guardK (bOf y46 == some false) (pu (addP y7 3) h) h) fun y49 h =>
  thenV (guardK (bOf y46 == some false) (ld1 y49 h) h) fun y50 h =>
  thenV (guardK (bOf y46 == some false) (pu (bin Tryz.prog .neq 3 y48 y50) h) h) fun y51 h =>
  thenV (match y46 with | .bool t => some (if t then (.bool true) else y51, h) | _ => none) fun y52 h =>
  thenV (some (y52, h)) fun y53 h =>
  thenV (guardK (bOf y53 == some false) (pu (addP y6 4) h) h) fun y54 h =>
  thenV (guardK (bOf y53 == some false) (ld1 y54 h) h) fun y55 h =>
  thenV (guardK (bOf y53 == some false) (pu (addP y7 4) h) h) fun y56 h =>
  thenV (guardK (bOf y53 == some false) (ld1 y56 h) h) fun y57 h =>
  thenV (guardK (bOf y53 == some false) (pu (bin Tryz.prog .neq 27 y55 y57) h) h) fun y58 h =>
  thenV (match y53 with | .bool t => some (if t then (.bool true) else y58, h) | _ => none) fun y59 h =>
  thenV (some (y59, h)) fun y60 h =>
  thenV (guardK (bOf y60 == some false) (pu (addP y6 5) h) h) fun y61 h =>
  thenV (guardK (bOf y60 == some false) (ld1 y61 h) h) fun y62 h =>
  thenV (guardK (bOf y60 == some false) (cvBS y62 h) h) fun y63 h =>
  thenV (guardK (bOf y60 == some false) (pu (addP y7 5) h) h) fun y64 h =>
  thenV (guardK (bOf y60 == some false) (ld1 y64 h) h) fun y65 h =>
  thenV (guardK (bOf y60 == some false) (cvBS y65 h) h) fun y66 h =>
  thenV (guardK (bOf y60 == some false) (pu (bin Tryz.prog .neq 9 y63 y66) h) h) fun y67 h =>
  thenV (match y60 with | .bool t => some (if t then (.bool true) else y67, h) | _ => none) fun y68 h =>
  (match y68 with
  | .bool true =>
  thenV (some ((.bool false), h)) fun y4 h =>
  some (.ret, (mkF 69 (up x [(4, y4), (6, y6), (7, y7), (13, y13), (14, y14), (15, y15), (16, y16), (19, y19), (20, y20), (21, y21), (22, y22), (23, y23), (24, y24), (25, y25), (26, y26), (27, y27), (28, y28), (29, y29), (30, y30), (31, y31), (32, y32), (33, y33), (34, y34), (35, y35), (36, y36), (37, y37), (38, y38), (39, y39), (40, y40), (41, y41), (42, y42), (43, y43), (44, y44), (45, y45), (46, y46), (47, y47), (48, y48), (49, y49), (50, y50), (51, y51), (52, y52), (53, y53), (54, y54), (55, y55), (56, y56), (57, y57), (58, y58), (59, y59), (60, y60), (61, y61), (62, y62), (63, y63), (64, y64), (65, y65), (66, y66), (67, y67), (68, y68)])), h)
  | .bool false =>
  thenV (some ((x 5), h)) fun y17 h =>
  thenV (pu (bin Tryz.prog .add 3 y17 (.int .i64 1)) h) fun y18 h =>
  thenV (some (y18, h)) fun y5 h =>
  some (.normal, (mkF 69 (up x [(5, y5), (6, y6), (7, y7), (13, y13), (14, y14), (15, y15), (16, y16), (17, y17), (18, y18), (19, y19), (20, y20), (21, y21), (22, y22), (23, y23), (24, y24), (25, y25), (26, y26), (27, y27), (28, y28), (29, y29), (30, y30), (31, y31), (32, y32), (33, y33), (34, y34), (35, y35), (36, y36), (37, y37), (38, y38), (39, y39), (40, y40), (41, y41), (42, y42), (43, y43), (44, y44), (45, y45), (46, y46), (47, y47), (48, y48), (49, y49), (50, y50), (51, y51), (52, y52), (53, y53), (54, y54), (55, y55), (56, y56), (57, y57), (58, y58), (59, y59), (60, y60), (61, y61), (62, y62), (63, y63), (64, y64), (65, y65), (66, y66), (67, y67), (68, y68)])), h)
  | _ => none)
  | false => none)
  | .bool false =>
  some (.exit 0, (mkF 69 (up x [(13, y13), (14, y14), (15, y15), (16, y16)])), h)
  | _ => none)
theorem t16_eq (C : CallF) (x0 x1 : Value) (h : Heap) : bodyK Tryz.prog C Tryz.f16 [x0, x1] h = t16 C x0 x1 h :=
  (bodyB_eq Tryz.prog C Tryz.f16 [x0, x1] h (by kernel_rfl)).trans (by kernel_rfl)
theorem t16k16_4_eq (C : CallF) (x : Nat → Value) (h : Heap) : k16_4 C (mkF 69 x) h = t16k16_4 C x h :=
  link_partF (b := (partOf Tryz.f16 [1, 1, 1])) (kE := (resultsA Tryz.prog Tryz.f16.results.toList)) (rE := (resultsA Tryz.prog Tryz.f16.results.toList)) (xE := (fun _ _ _ => none)) (T := t16k16_4 C) (fun x h => by kernel_rfl) x h
theorem t16l16_11010_eq (C : CallF) (x : Nat → Value) (h : Heap) : codeA Tryz.prog C (partOf Tryz.f16 [1, 1, 0, 1, 0, 0]) (mkF 69 x) h = t16l16_11010 C x h :=
  link_roundF (T := t16l16_11010 C) (fun x h => by kernel_rfl) x h


/-- stolon/stolonlaw10.SwarmParses -/
noncomputable def t4 (C : CallF) (x0 : Value) (h : Heap) : Out :=
  thenV (some ((.bool false), h)) fun y2 h =>
  thenV (some (x0, h)) fun y9 h =>
  thenV (pu (lenL y9) h) fun y10 h =>
  thenV (pu (bin Tryz.prog .gtr 3 y10 (.int .i64 20000)) h) fun y11 h =>
  (match y11 with
  | .bool true =>
  thenV (C 8 [] h) fun y12 h =>
  thenV (some (y12, h)) fun y2_1 h =>
  some (y2_1, h)
  | .bool false =>
  thenV (bslR 1 (.int .u8 0) 0 [] h) fun y14 h =>
  thenV (some (x0, h)) fun y15 h =>
  thenV (appendA 1 1 y14 y15 h) fun y16 h =>
  thenV (C 14 [y16] h) fun y17 h =>
  thenV (some (y17, h)) fun y13 h =>
  thenV (pu (extractA y13 0) h) fun y18 h =>
  thenV (pu (extractA y13 1) h) fun y19 h =>
  thenV (pu (extractA y13 2) h) fun y20 h =>
  thenV (newC [(.int .i64 0), (.int .i64 0), (.int .i64 0)] h) fun y3 h =>
  thenV (stN 3 y3 y18 h) fun _ h =>
  thenV (some (y19, h)) fun y4 h =>
  thenV (some (y20, h)) fun y5 h =>
  thenV (some (x0, h)) fun y22 h =>
  thenV (C 15 [y22] h) fun y23 h =>
  thenV (some (y23, h)) fun y21 h =>
  thenV (pu (extractA y21 0) h) fun y24 h =>
  thenV (pu (extractA y21 1) h) fun y25 h =>
  thenV (pu (extractA y21 2) h) fun y26 h =>
  thenV (newC [(.int .i64 0), (.int .i64 0), (.int .i64 0)] h) fun y6 h =>
  thenV (stN 3 y6 y24 h) fun _ h =>
  thenV (some (y25, h)) fun y7 h =>
  thenV (some (y26, h)) fun y8 h =>
  thenV (ldN 3 y3 h) fun y27 h =>
  thenV (ldN 3 y6 h) fun y28 h =>
  thenV (pu (bin Tryz.prog .eql 23 y27 y28) h) fun y29 h =>
  thenV (some (y29, h)) fun y30 h =>
  thenV (guardK (bOf y30 == some true) (some (y5, h)) h) fun y31 h =>
  thenV (guardK (bOf y30 == some true) (some (y8, h)) h) fun y32 h =>
  thenV (guardK (bOf y30 == some true) (pu (bin Tryz.prog .eql 31 y31 y32) h) h) fun y33 h =>
  thenV (match y30 with | .bool t => some (if t then y33 else (.bool false), h) | _ => none) fun y34 h =>
  thenV (some (y34, h)) fun y35 h =>
  thenV (guardK (bOf y35 == some true) (some (y4, h)) h) fun y36 h =>
  thenV (guardK (bOf y35 == some true) (some (y7, h)) h) fun y37 h =>
  thenV (guardK (bOf y35 == some true) (C 16 [y36, y37] h) h) fun y38 h =>
  thenV (match y35 with | .bool t => some (if t then y38 else (.bool false), h) | _ => none) fun y39 h =>
  thenV (some (y39, h)) fun y40 h =>
  thenV (guardK (bOf y40 == some true) (C 8 [] h) h) fun y41 h =>
  thenV (match y40 with | .bool t => some (if t then y41 else (.bool false), h) | _ => none) fun y42 h =>
  thenV (some (y42, h)) fun y2_1 h =>
  some (y2_1, h)
  | _ => none)
theorem t4_eq (C : CallF) (x0 : Value) (h : Heap) : bodyK Tryz.prog C Tryz.f4 [x0] h = t4 C x0 h :=
  (bodyB_eq Tryz.prog C Tryz.f4 [x0] h (by kernel_rfl)).trans (by kernel_rfl)


end Go.Proofs.YtdmnphocgfnlpaaGreatDoor

namespace Go.Proofs.YtdmnphocgfnlpaaGreatDoor
open Go Go.Abs
noncomputable def k44_2 (C : CallF) (e : Env) (h : Heap) : Out := codeK Tryz.prog C (partOf Tryz.f44 [1, 1, 1]) e h (resultsA Tryz.prog Tryz.f44.results.toList) (resultsA Tryz.prog Tryz.f44.results.toList) (fun _ _ _ => none)
noncomputable def b44_4 (C : CallF) (i : Nat) (e : Env) (h : Heap) : Out := if i = 0 then (k44_2 C) e h else (fun _ _ _ => none) i e h
/-- stolon/stolonref02.Number -/
noncomputable def t44 (C : CallF) (x0 x1 : Value) (h : Heap) : Out :=
  thenV (some ((.slice none 0 0), h)) fun y4 h =>
  thenV (bslR 1 (.int .u8 0) 0 [] h) fun y7 h =>
  thenV (some (y7, h)) fun y5 h =>
  thenV (some (x1, h)) fun y8 h =>
  thenV (pu (bin Tryz.prog .sub 3 y8 (.int .i64 1)) h) fun y9 h =>
  thenV (some (y9, h)) fun y6 h =>
  endL (iter (codeA Tryz.prog C (partOf Tryz.f44 [1, 1, 0, 1, 0, 0])) rounds (mkF 24 (up (bs [x0, x1]) [(4, y4), (5, y5), (6, y6), (7, y7), (8, y8), (9, y9)])) h) (resultsA Tryz.prog Tryz.f44.results.toList) (b44_4 C)
noncomputable def t44k44_2 (C : CallF) (x : Nat → Value) (h : Heap) : Out :=
  thenV (some ((x 5), h)) fun y23 h =>
  thenV (some (y23, h)) fun y4 h =>
  some (y4, h)
noncomputable def t44l44_11010 (C : CallF) (x : Nat → Value) (h : Heap) : Option (Ex × Env × Heap) :=
  thenV (some ((x 6), h)) fun y10 h =>
  thenV (pu (bin Tryz.prog .geq 3 y10 (.int .i64 0)) h) fun y11 h =>
  (match y11 with
  | .bool true =>
  thenV (some ((x 5), h)) fun y14 h =>
  thenV (some ((x 0), h)) fun y15 h =>
  thenV (some ((x 6), h)) fun y16 h =>
  thenV (cvI .u64 y16 h) fun y17 h =>
  thenV (pu (bin Tryz.prog .mul 151 (.int .u64 8) y17) h) fun y18 h =>
  thenV (pu (bin Tryz.prog .shr 27 y15 y18) h) fun y19 h =>
  thenV (cvI .u8 y19 h) fun y20 h =>
  thenV (bslR 1 (.int .u8 0) 1 [(0, y20)] h) fun y21 h =>
  thenV (appendA 1 1 y14 y21 h) fun y22 h =>
  thenV (some (y22, h)) fun y5 h =>
  thenV (some ((x 6), h)) fun y12 h =>
  thenV (pu (bin Tryz.prog .sub 3 y12 (.int .i64 1)) h) fun y13 h =>
  thenV (some (y13, h)) fun y6 h =>
  some (.normal, (mkF 24 (up x [(5, y5), (6, y6), (10, y10), (11, y11), (12, y12), (13, y13), (14, y14), (15, y15), (16, y16), (17, y17), (18, y18), (19, y19), (20, y20), (21, y21), (22, y22)])), h)
  | .bool false =>
  some (.exit 0, (mkF 24 (up x [(10, y10), (11, y11)])), h)
  | _ => none)
theorem t44_eq (C : CallF) (x0 x1 : Value) (h : Heap) : bodyK Tryz.prog C Tryz.f44 [x0, x1] h = t44 C x0 x1 h :=
  (bodyB_eq Tryz.prog C Tryz.f44 [x0, x1] h (by kernel_rfl)).trans (by kernel_rfl)
theorem t44k44_2_eq (C : CallF) (x : Nat → Value) (h : Heap) : k44_2 C (mkF 24 x) h = t44k44_2 C x h :=
  link_partF (b := (partOf Tryz.f44 [1, 1, 1])) (kE := (resultsA Tryz.prog Tryz.f44.results.toList)) (rE := (resultsA Tryz.prog Tryz.f44.results.toList)) (xE := (fun _ _ _ => none)) (T := t44k44_2 C) (fun x h => by kernel_rfl) x h
theorem t44l44_11010_eq (C : CallF) (x : Nat → Value) (h : Heap) : codeA Tryz.prog C (partOf Tryz.f44 [1, 1, 0, 1, 0, 0]) (mkF 24 x) h = t44l44_11010 C x h :=
  link_roundF (T := t44l44_11010 C) (fun x h => by kernel_rfl) x h


noncomputable def k9_8 (C : CallF) (e : Env) (h : Heap) : Out := codeK Tryz.prog C (partOf Tryz.f9 [1, 1, 1, 1, 1, 1, 1]) e h (resultsA Tryz.prog Tryz.f9.results.toList) (resultsA Tryz.prog Tryz.f9.results.toList) (fun _ _ _ => none)
noncomputable def b9_10 (C : CallF) (i : Nat) (e : Env) (h : Heap) : Out := if i = 0 then (k9_8 C) e h else (fun _ _ _ => none) i e h
/-- stolon/swarm.Script -/
noncomputable def t9 (C : CallF) (x0 x1 : Value) (h : Heap) : Out :=
  thenV (box x0 h) fun y2 h =>
  thenV (some ((.slice none 0 0), h)) fun y4 h =>
  thenV (some ((.int .i64 0), h)) fun y5 h =>
  thenV (ldN 3 y2 h) fun y9 h =>
  thenV (C 12 [y9] h) fun y10 h =>
  thenV (pu (unA .not y10) h) fun y11 h =>
  (match y11 with
  | .bool true =>
  thenV (some ((.slice none 0 0), h)) fun y4_1 h =>
  thenV (some ((.int .i64 2), h)) fun y5_1 h =>
  some (.tuple #[y4_1, y5_1], h)
  | .bool false =>
  thenV (C 36 [(.int .i64 9223372036854775807)] h) fun y12 h =>
  thenV (some (y12, h)) fun y6 h =>
  thenV (some (y6, h)) fun y13 h =>
  thenV (pu (addP y2 0) h) fun y14 h =>
  thenV (ld1 y14 h) fun y15 h =>
  thenV (cvI .u8 y15 h) fun y16 h =>
  thenV (C 37 [y13, y16] h) fun y17 h =>
  thenV (some (y6, h)) fun y18 h =>
  thenV (pu (addP y2 1) h) fun y19 h =>
  thenV (ld1 y19 h) fun y20 h =>
  thenV (cvI .u16 y20 h) fun y21 h =>
  thenV (C 38 [y18, y21] h) fun y22 h =>
  thenV (some (y6, h)) fun y23 h =>
  thenV (pu (addP y2 2) h) fun y24 h =>
  thenV (ld1 y24 h) fun y25 h =>
  thenV (cvI .u32 y25 h) fun y26 h =>
  thenV (C 39 [y23, y26] h) fun y27 h =>
  thenV (some (x1, h)) fun y28 h =>
  thenV (pu (lenL y28) h) fun y29 h =>
  thenV (some ((.int .i64 0), h)) fun y30 h =>
  endL (iter (codeA Tryz.prog C (partOf Tryz.f9 [1, 1, 1, 1, 1, 1, 0, 1, 0, 0])) rounds (mkF 69 (up (bs [x0, x1]) [(2, y2), (4, y4), (5, y5), (6, y6), (9, y9), (10, y10), (11, y11), (12, y12), (13, y13), (14, y14), (15, y15), (16, y16), (17, y17), (18, y18), (19, y19), (20, y20), (21, y21), (22, y22), (23, y23), (24, y24), (25, y25), (26, y26), (27, y27), (28, y28), (29, y29), (30, y30)])) h) (resultsA Tryz.prog Tryz.f9.results.toList) (b9_10 C)
  | _ => none)
noncomputable def t9k9_8 (C : CallF) (x : Nat → Value) (h : Heap) : Out :=
  thenV (some ((x 6), h)) fun y65 h =>
  thenV (C 43 [y65] h) fun y66 h =>
  thenV (pu (extractA y66 0) h) fun y67 h =>
  thenV (pu (extractA y66 1) h) fun y68 h =>
  thenV (some (y67, h)) fun y4 h =>
  thenV (some (y68, h)) fun y5 h =>
  some (.tuple #[y4, y5], h)
noncomputable def t9l9_111111010 (C : CallF) (x : Nat → Value) (h : Heap) : Option (Ex × Env × Heap) :=
  thenV (pu (bin Tryz.prog .lss 3 (x 30) (x 29)) h) fun y31 h =>
  (match y31 with
  | .bool true =>
  thenV (pu (idxS 6 (x 28) (x 30)) h) fun y32 h =>
  thenV (ldN 6 y32 h) fun y33 h =>
  thenV (newC [(.int .u8 0), (.int .i64 0), (.int .i64 0), (.int .i64 0), (.int .u64 0), (.slice none 0 0)] h) fun y8 h =>
  thenV (stN 6 y8 y33 h) fun _ h =>
  thenV (ldN 6 y8 h) fun y34 h =>
  thenV (C 40 [y34] h) fun y35 h =>
  thenV (pu (unA .not y35) h) fun y36 h =>
  (match y36 with
  | .bool true =>
  thenV (some ((.slice none 0 0), h)) fun y4 h =>
  thenV (some ((.int .i64 2), h)) fun y5 h =>
  some (.ret, (mkF 69 (up x [(4, y4), (5, y5), (8, y8), (31, y31), (32, y32), (33, y33), (34, y34), (35, y35), (36, y36)])), h)
  | .bool false =>
  thenV (some ((x 6), h)) fun y37 h =>
  thenV (pu (addP y8 0) h) fun y38 h =>
  thenV (ld1 y38 h) fun y39 h =>
  thenV (C 37 [y37, y39] h) fun y40 h =>
  thenV (some ((x 6), h)) fun y41 h =>
  thenV (pu (addP y8 1) h) fun y42 h =>
  thenV (ld1 y42 h) fun y43 h =>
  thenV (cvI .u8 y43 h) fun y44 h =>
  thenV (C 37 [y41, y44] h) fun y45 h =>
  thenV (some ((x 6), h)) fun y46 h =>
  thenV (pu (addP y8 2) h) fun y47 h =>
  thenV (ld1 y47 h) fun y48 h =>
  thenV (cvI .u16 y48 h) fun y49 h =>
  thenV (C 38 [y46, y49] h) fun y50 h =>
  thenV (some ((x 6), h)) fun y51 h =>
  thenV (pu (addP y8 3) h) fun y52 h =>
  thenV (ld1 y52 h) fun y53 h =>
  thenV (cvI .u16 y53 h) fun y54 h =>
  thenV (C 38 [y51, y54] h) fun y55 h =>
  thenV (some ((x 6), h)) fun y56 h =>
  thenV (pu (addP y8 4) h) fun y57 h =>
  thenV (ld1 y57 h) fun y58 h =>
  thenV (C 41 [y56, y58] h) fun y59 h =>
  thenV (some ((x 6), h)) fun y60 h =>
  thenV (pu (addP y8 5) h) fun y61 h =>
  thenV (ld1 y61 h) fun y62 h =>
  thenV (C 42 [y60, y62] h) fun y63 h =>
  thenV (pu (bin Tryz.prog .add 3 (x 30) (.int .i64 1)) h) fun y64 h =>
  thenV (some (y64, h)) fun y30 h =>
  some (.normal, (mkF 69 (up x [(8, y8), (30, y30), (31, y31), (32, y32), (33, y33), (34, y34), (35, y35), (36, y36), (37, y37), (38, y38), (39, y39), (40, y40), (41, y41), (42, y42), (43, y43), (44, y44), (45, y45), (46, y46), (47, y47), (48, y48), (49, y49), (50, y50), (51, y51), (52, y52), (53, y53), (54, y54), (55, y55), (56, y56), (57, y57), (58, y58), (59, y59), (60, y60), (61, y61), (62, y62), (63, y63), (64, y64)])), h)
  | _ => none)
  | .bool false =>
  some (.exit 0, (mkF 69 (up x [(31, y31)])), h)
  | _ => none)
theorem t9_eq (C : CallF) (x0 x1 : Value) (h : Heap) : bodyK Tryz.prog C Tryz.f9 [x0, x1] h = t9 C x0 x1 h :=
  (bodyB_eq Tryz.prog C Tryz.f9 [x0, x1] h (by kernel_rfl)).trans (by kernel_rfl)
theorem t9k9_8_eq (C : CallF) (x : Nat → Value) (h : Heap) : k9_8 C (mkF 69 x) h = t9k9_8 C x h :=
  link_partF (b := (partOf Tryz.f9 [1, 1, 1, 1, 1, 1, 1])) (kE := (resultsA Tryz.prog Tryz.f9.results.toList)) (rE := (resultsA Tryz.prog Tryz.f9.results.toList)) (xE := (fun _ _ _ => none)) (T := t9k9_8 C) (fun x h => by kernel_rfl) x h
theorem t9l9_111111010_eq (C : CallF) (x : Nat → Value) (h : Heap) : codeA Tryz.prog C (partOf Tryz.f9 [1, 1, 1, 1, 1, 1, 0, 1, 0, 0]) (mkF 69 x) h = t9l9_111111010 C x h :=
  link_roundF (T := t9l9_111111010 C) (fun x h => by kernel_rfl) x h


noncomputable def k10_2 (C : CallF) (e : Env) (h : Heap) : Out := codeK Tryz.prog C (partOf Tryz.f10 [1, 1, 1]) e h (resultsA Tryz.prog Tryz.f10.results.toList) (resultsA Tryz.prog Tryz.f10.results.toList) (fun _ _ _ => none)
noncomputable def b10_4 (C : CallF) (i : Nat) (e : Env) (h : Heap) : Out := if i = 0 then (k10_2 C) e h else (fun _ _ _ => none) i e h
/-- stolon/stolonlaw10.own -/
noncomputable def t10 (C : CallF) (x0 : Value) (h : Heap) : Out :=
  thenV (some ((.slice none 0 0), h)) fun y2 h =>
  thenV (bslR 6 (.agg #[(.int .u8 0), (.int .i64 0), (.int .i64 0), (.int .i64 0), (.int .u64 0), (.slice none 0 0)]) 0 [] h) fun y6 h =>
  thenV (some (y6, h)) fun y3 h =>
  thenV (some ((.int .i64 0), h)) fun y4 h =>
  endL (iter (codeA Tryz.prog C (partOf Tryz.f10 [1, 1, 0, 1, 0, 0])) rounds (mkF 27 (up (bs [x0]) [(2, y2), (3, y3), (4, y4), (6, y6)])) h) (resultsA Tryz.prog Tryz.f10.results.toList) (b10_4 C)
noncomputable def t10k10_2 (C : CallF) (x : Nat → Value) (h : Heap) : Out :=
  thenV (some ((x 3), h)) fun y26 h =>
  thenV (some (y26, h)) fun y2 h =>
  some (y2, h)
noncomputable def t10l10_11010 (C : CallF) (x : Nat → Value) (h : Heap) : Option (Ex × Env × Heap) :=
  thenV (some ((x 4), h)) fun y7 h =>
  thenV (some ((x 0), h)) fun y8 h =>
  thenV (pu (lenL y8) h) fun y9 h =>
  thenV (pu (bin Tryz.prog .lss 3 y7 y9) h) fun y10 h =>
  (match y10 with
  | .bool true =>
  thenV (some ((x 0), h)) fun y13 h =>
  thenV (some ((x 4), h)) fun y14 h =>
  thenV (pu (idxS 6 y13 y14) h) fun y15 h =>
  thenV (ldN 6 y15 h) fun y16 h =>
  thenV (newC [(.int .u8 0), (.int .i64 0), (.int .i64 0), (.int .i64 0), (.int .u64 0), (.slice none 0 0)] h) fun y5 h =>
  thenV (stN 6 y5 y16 h) fun _ h =>
  thenV (bslR 1 (.int .u8 0) 0 [] h) fun y17 h =>
  thenV (pu (addP y5 5) h) fun y18 h =>
  thenV (ld1 y18 h) fun y19 h =>
  thenV (appendA 1 1 y17 y19 h) fun y20 h =>
  thenV (pu (addP y5 5) h) fun y21 h =>
  thenV (stN 1 y21 y20 h) fun _ h =>
  thenV (some ((x 3), h)) fun y22 h =>
  thenV (ldN 6 y5 h) fun y23 h =>
  thenV (bslR 6 (.agg #[(.int .u8 0), (.int .i64 0), (.int .i64 0), (.int .i64 0), (.int .u64 0), (.slice none 0 0)]) 1 [(0, y23)] h) fun y24 h =>
  thenV (appendA 6 64 y22 y24 h) fun y25 h =>
  thenV (some (y25, h)) fun y3 h =>
  thenV (some ((x 4), h)) fun y11 h =>
  thenV (pu (bin Tryz.prog .add 3 y11 (.int .i64 1)) h) fun y12 h =>
  thenV (some (y12, h)) fun y4 h =>
  some (.normal, (mkF 27 (up x [(3, y3), (4, y4), (5, y5), (7, y7), (8, y8), (9, y9), (10, y10), (11, y11), (12, y12), (13, y13), (14, y14), (15, y15), (16, y16), (17, y17), (18, y18), (19, y19), (20, y20), (21, y21), (22, y22), (23, y23), (24, y24), (25, y25)])), h)
  | .bool false =>
  some (.exit 0, (mkF 27 (up x [(7, y7), (8, y8), (9, y9), (10, y10)])), h)
  | _ => none)
theorem t10_eq (C : CallF) (x0 : Value) (h : Heap) : bodyK Tryz.prog C Tryz.f10 [x0] h = t10 C x0 h :=
  (bodyB_eq Tryz.prog C Tryz.f10 [x0] h (by kernel_rfl)).trans (by kernel_rfl)
theorem t10k10_2_eq (C : CallF) (x : Nat → Value) (h : Heap) : k10_2 C (mkF 27 x) h = t10k10_2 C x h :=
  link_partF (b := (partOf Tryz.f10 [1, 1, 1])) (kE := (resultsA Tryz.prog Tryz.f10.results.toList)) (rE := (resultsA Tryz.prog Tryz.f10.results.toList)) (xE := (fun _ _ _ => none)) (T := t10k10_2 C) (fun x h => by kernel_rfl) x h
theorem t10l10_11010_eq (C : CallF) (x : Nat → Value) (h : Heap) : codeA Tryz.prog C (partOf Tryz.f10 [1, 1, 0, 1, 0, 0]) (mkF 27 x) h = t10l10_11010 C x h :=
  link_roundF (T := t10l10_11010 C) (fun x h => by kernel_rfl) x h


noncomputable def k11_7 (C : CallF) (e : Env) (h : Heap) : Out := codeK Tryz.prog C (partOf Tryz.f11 [1, 1, 1, 1, 1]) e h (resultsA Tryz.prog Tryz.f11.results.toList) (resultsA Tryz.prog Tryz.f11.results.toList) (fun _ _ _ => none)
noncomputable def b11_9 (C : CallF) (i : Nat) (e : Env) (h : Heap) : Out := if i = 0 then (k11_7 C) e h else (fun _ _ _ => none) i e h
/-- stolon/stolonref10.Script -/
noncomputable def t11 (C : CallF) (x0 x1 : Value) (h : Heap) : Out :=
  thenV (box x0 h) fun y2 h =>
  thenV (some ((.slice none 0 0), h)) fun y4 h =>
  thenV (some ((.int .i64 0), h)) fun y5 h =>
  thenV (ldN 3 y2 h) fun y9 h =>
  thenV (C 13 [y9] h) fun y10 h =>
  thenV (pu (unA .not y10) h) fun y11 h =>
  (match y11 with
  | .bool true =>
  thenV (some ((.slice none 0 0), h)) fun y4_1 h =>
  thenV (some ((.int .i64 2), h)) fun y5_1 h =>
  some (.tuple #[y4_1, y5_1], h)
  | .bool false =>
  let g5_0 := h
  thenV (pu (addP y2 0) g5_0) fun y12 g5_1 =>
  thenV (ld1 y12 g5_1) fun y13 g5_2 =>
  thenV (cvI .u8 y13 g5_2) fun y14 g5_3 =>
  thenV (pu (addP y2 1) g5_3) fun y16 g5_4 =>
  thenV (ld1 y16 g5_4) fun y17 g5_5 =>
  thenV (cvI .u64 y17 g5_5) fun y18 g5_6 =>
  thenV (C 44 [y18, (.int .i64 2)] g5_6) fun y19 g5_7 =>
  thenV (bslR 1 (.int .u8 0) 1 [(0, y14)] g5_7) fun y15 g5_8 =>
  thenV (appendA 1 1 y15 y19 g5_8) fun y20 g5_9 =>
  thenV (some (y20, g5_9)) fun y6 g5_10 =>
  (match (chkR true (ld1 y12 g5_7) y13 && (chkR true (cvI .u8 y13 g5_7) y14 && true)) with
  | true =>
  let h := g5_10
  thenV (some (y6, h)) fun y21 h =>
  thenV (pu (addP y2 2) h) fun y22 h =>
  thenV (ld1 y22 h) fun y23 h =>
  thenV (cvI .u64 y23 h) fun y24 h =>
  thenV (C 44 [y24, (.int .i64 4)] h) fun y25 h =>
  thenV (appendA 1 1 y21 y25 h) fun y26 h =>
  thenV (some (y26, h)) fun y6_1 h =>
  thenV (some ((.int .i64 0), h)) fun y7 h =>
  endL (iter (codeA Tryz.prog C (partOf Tryz.f11 [1, 1, 1, 1, 0, 1, 0, 0])) rounds (mkF 106 (up (bs [x0, x1]) [(2, y2), (4, y4), (5, y5), (6, y6_1), (7, y7), (9, y9), (10, y10), (11, y11), (12, y12), (13, y13), (14, y14), (15, y15), (16, y16), (17, y17), (18, y18), (19, y19), (20, y20), (21, y21), (22, y22), (23, y23), (24, y24), (25, y25), (26, y26)])) h) (resultsA Tryz.prog Tryz.f11.results.toList) (b11_9 C)
  | false => none)
  | _ => none)
noncomputable def t11k11_7 (C : CallF) (x : Nat → Value) (h : Heap) : Out :=
  thenV (some ((x 6), h)) fun y105 h =>
  thenV (some (y105, h)) fun y4 h =>
  thenV (some ((.int .i64 0), h)) fun y5 h =>
  some (.tuple #[y4, y5], h)
noncomputable def t11l11_1111010 (C : CallF) (x : Nat → Value) (h : Heap) : Option (Ex × Env × Heap) :=
  thenV (some ((x 7), h)) fun y27 h =>
  thenV (some ((x 1), h)) fun y28 h =>
  thenV (pu (lenL y28) h) fun y29 h =>
  thenV (pu (bin Tryz.prog .lss 3 y27 y29) h) fun y30 h =>
  (match y30 with
  | .bool true =>
  thenV (some ((x 1), h)) fun y33 h =>
  thenV (some ((x 7), h)) fun y34 h =>
  thenV (pu (idxS 6 y33 y34) h) fun y35 h =>
  thenV (ldN 6 y35 h) fun y36 h =>
  thenV (newC [(.int .u8 0), (.int .i64 0), (.int .i64 0), (.int .i64 0), (.int .u64 0), (.slice none 0 0)] h) fun y8 h =>
  thenV (stN 6 y8 y36 h) fun _ h =>
  thenV (pu (addP y8 1) h) fun y37 h =>
  thenV (ld1 y37 h) fun y38 h =>
  thenV (pu (bin Tryz.prog .lss 3 y38 (.int .i64 0)) h) fun y39 h =>
  thenV (some (y39, h)) fun y40 h =>
  thenV (guardK (bOf y40 == some false) (pu (addP y8 1) h) h) fun y41 h =>
  thenV (guardK (bOf y40 == some false) (ld1 y41 h) h) fun y42 h =>
  thenV (guardK (bOf y40 == some false) (pu (bin Tryz.prog .gtr 3 y42 (.int .i64 255)) h) h) fun y43 h =>
  thenV (match y40 with | .bool t => some (if t then (.bool true) else y43, h) | _ => none) fun y44 h =>
  thenV (some (y44, h)) fun y45 h =>
  thenV (guardK (bOf y45 == some false) (pu (addP y8 2) h) h) fun y46 h =>
  thenV (guardK (bOf y45 == some false) (ld1 y46 h) h) fun y47 h =>
  thenV (guardK (bOf y45 == some false) (pu (bin Tryz.prog .lss 3 y47 (.int .i64 0)) h) h) fun y48 h =>
  thenV (match y45 with | .bool t => some (if t then (.bool true) else y48, h) | _ => none) fun y49 h =>
  thenV (some (y49, h)) fun y50 h =>
  thenV (guardK (bOf y50 == some false) (pu (addP y8 2) h) h) fun y51 h =>
  thenV (guardK (bOf y50 == some false) (ld1 y51 h) h) fun y52 h =>
  thenV (guardK (bOf y50 == some false) (pu (bin Tryz.prog .gtr 3 y52 (.int .i64 65535)) h) h) fun y53 h =>
  thenV (match y50 with | .bool t => some (if t then (.bool true) else y53, h) | _ => none) fun y54 h =>
  thenV (some (y54, h)) fun y55 h =>
  thenV (guardK (bOf y55 == some false) (pu (addP y8 3) h) h) fun y56 h =>
  thenV (guardK (bOf y55 == some false) (ld1 y56 h) h) fun y57 h =>
  thenV (guardK (bOf y55 == some false) (pu (bin Tryz.prog .lss 3 y57 (.int .i64 0)) h) h) fun y58 h =>
  thenV (match y55 with | .bool t => some (if t then (.bool true) else y58, h) | _ => none) fun y59 h =>
  thenV (some (y59, h)) fun y60 h =>
  thenV (guardK (bOf y60 == some false) (pu (addP y8 3) h) h) fun y61 h =>
  thenV (guardK (bOf y60 == some false) (ld1 y61 h) h) fun y62 h =>
  thenV (guardK (bOf y60 == some false) (pu (bin Tryz.prog .gtr 3 y62 (.int .i64 65535)) h) h) fun y63 h =>
  thenV (match y60 with | .bool t => some (if t then (.bool true) else y63, h) | _ => none) fun y64 h =>
  thenV (some (y64, h)) fun y65 h =>
  thenV (guardK (bOf y65 == some false) (pu (addP y8 5) h) h) fun y66 h =>
  thenV (guardK (bOf y65 == some false) (ld1 y66 h) h) fun y67 h =>
  thenV (guardK (bOf y65 == some false) (pu (lenL y67) h) h) fun y68 h =>
  thenV (guardK (bOf y65 == some false) (pu (bin Tryz.prog .gtr 3 y68 (.int .i64 65535)) h) h) fun y69 h =>
  thenV (match y65 with | .bool t => some (if t then (.bool true) else y69, h) | _ => none) fun y70 h =>
  (match y70 with
  | .bool true =>
  thenV (some ((.slice none 0 0), h)) fun y4 h =>
  thenV (some ((.int .i64 2), h)) fun y5 h =>
  some (.ret, (mkF 106 (up x [(4, y4), (5, y5), (8, y8), (27, y27), (28, y28), (29, y29), (30, y30), (33, y33), (34, y34), (35, y35), (36, y36), (37, y37), (38, y38), (39, y39), (40, y40), (41, y41), (42, y42), (43, y43), (44, y44), (45, y45), (46, y46), (47, y47), (48, y48), (49, y49), (50, y50), (51, y51), (52, y52), (53, y53), (54, y54), (55, y55), (56, y56), (57, y57), (58, y58), (59, y59), (60, y60), (61, y61), (62, y62), (63, y63), (64, y64), (65, y65), (66, y66), (67, y67), (68, y68), (69, y69), (70, y70)])), h)
  | .bool false =>
  thenV (some ((x 6), h)) fun y71 h =>
  thenV (pu (addP y8 0) h) fun y72 h =>
  thenV (ld1 y72 h) fun y73 h =>
  thenV (pu (addP y8 1) h) fun y74 h =>
  thenV (ld1 y74 h) fun y75 h =>
  thenV (cvI .u8 y75 h) fun y76 h =>
  thenV (bslR 1 (.int .u8 0) 2 [(0, y73), (1, y76)] h) fun y77 h =>
  thenV (appendA 1 1 y71 y77 h) fun y78 h =>
  thenV (some (y78, h)) fun y6 h =>
  let g21_0 := h
  thenV (some (y6, g21_0)) fun y79 g21_1 =>
  thenV (pu (addP y8 2) g21_1) fun y80 g21_2 =>
  thenV (ld1 y80 g21_2) fun y81 g21_3 =>
  thenV (cvI .u64 y81 g21_3) fun y82 g21_4 =>
  thenV (C 44 [y82, (.int .i64 2)] g21_4) fun y83 g21_5 =>
  thenV (appendA 1 1 y79 y83 g21_5) fun y84 g21_6 =>
  thenV (pu (addP y8 3) g21_6) fun y85 g21_7 =>
  thenV (ld1 y85 g21_7) fun y86 g21_8 =>
  thenV (cvI .u64 y86 g21_8) fun y87 g21_9 =>
  thenV (C 44 [y87, (.int .i64 2)] g21_9) fun y88 g21_10 =>
  thenV (appendA 1 1 y84 y88 g21_10) fun y89 g21_11 =>
  thenV (some (y89, g21_11)) fun y6_1 g21_12 =>
  (match (chkR true (ld1 y85 g21_4) y86 && (chkR true (ld1 y85 g21_5) y86 && (chkR true (cvI .u64 y86 g21_4) y87 && (chkR true (cvI .u64 y86 g21_5) y87 && true)))) with
  | true =>
  let h := g21_12
  let g23_0 := h
  thenV (some (y6_1, g23_0)) fun y90 g23_1 =>
  thenV (pu (addP y8 4) g23_1) fun y91 g23_2 =>
  thenV (ld1 y91 g23_2) fun y92 g23_3 =>
  thenV (C 44 [y92, (.int .i64 8)] g23_3) fun y93 g23_4 =>
  thenV (appendA 1 1 y90 y93 g23_4) fun y94 g23_5 =>
  thenV (pu (addP y8 5) g23_5) fun y95 g23_6 =>
  thenV (ld1 y95 g23_6) fun y96 g23_7 =>
  thenV (pu (lenL y96) g23_7) fun y97 g23_8 =>
  thenV (cvI .u64 y97 g23_8) fun y98 g23_9 =>
  thenV (C 44 [y98, (.int .i64 2)] g23_9) fun y99 g23_10 =>
  thenV (appendA 1 1 y94 y99 g23_10) fun y100 g23_11 =>
  thenV (some (y100, g23_11)) fun y6_2 g23_12 =>
  (match (chkR true (ld1 y95 g23_3) y96 && (chkR true (ld1 y95 g23_4) y96 && (chkR true (pu (lenL y96) g23_3) y97 && (chkR true (pu (lenL y96) g23_4) y97 && (chkR true (cvI .u64 y97 g23_3) y98 && (chkR true (cvI .u64 y97 g23_4) y98 && true)))))) with
  | true =>
  let h := g23_12
  thenV (some (y6_2, h)) fun y101 h =>
  thenV (pu (addP y8 5) h) fun y102 h =>
  thenV (ld1 y102 h) fun y103 h =>
  thenV (appendA 1 1 y101 y103 h) fun y104 h =>
  thenV (some (y104, h)) fun y6_3 h =>
  thenV (some ((x 7), h)) fun y31 h =>
  thenV (pu (bin Tryz.prog .add 3 y31 (.int .i64 1)) h) fun y32 h =>
  thenV (some (y32, h)) fun y7 h =>
  some (.normal, (mkF 106 (up x [(6, y6_3), (7, y7), (8, y8), (27, y27), (28, y28), (29, y29), (30, y30), (31, y31), (32, y32), (33, y33), (34, y34), (35, y35), (36, y36), (37, y37), (38, y38), (39, y39), (40, y40), (41, y41), (42, y42), (43, y43), (44, y44), (45, y45), (46, y46), (47, y47), (48, y48), (49, y49), (50, y50), (51, y51), (52, y52), (53, y53), (54, y54), (55, y55), (56, y56), (57, y57), (58, y58), (59, y59), (60, y60), (61, y61), (62, y62), (63, y63), (64, y64), (65, y65), (66, y66), (67, y67), (68, y68), (69, y69), (70, y70), (71, y71), (72, y72), (73, y73), (74, y74), (75, y75), (76, y76), (77, y77), (78, y78), (79, y79), (80, y80), (81, y81), (82, y82), (83, y83), (84, y84), (85, y85), (86, y86), (87, y87), (88, y88), (89, y89), (90, y90), (91, y91), (92, y92), (93, y93), (94, y94), (95, y95), (96, y96), (97, y97), (98, y98), (99, y99), (100, y100), (101, y101), (102, y102), (103, y103), (104, y104)])), h)
  | false => none)
  | false => none)
  | _ => none)
  | .bool false =>
  some (.exit 0, (mkF 106 (up x [(27, y27), (28, y28), (29, y29), (30, y30)])), h)
  | _ => none)
theorem t11_eq (C : CallF) (x0 x1 : Value) (h : Heap) : bodyK Tryz.prog C Tryz.f11 [x0, x1] h = t11 C x0 x1 h :=
  (bodyB_eq Tryz.prog C Tryz.f11 [x0, x1] h (by kernel_rfl)).trans (by kernel_rfl)
theorem t11k11_7_eq (C : CallF) (x : Nat → Value) (h : Heap) : k11_7 C (mkF 106 x) h = t11k11_7 C x h :=
  link_partF (b := (partOf Tryz.f11 [1, 1, 1, 1, 1])) (kE := (resultsA Tryz.prog Tryz.f11.results.toList)) (rE := (resultsA Tryz.prog Tryz.f11.results.toList)) (xE := (fun _ _ _ => none)) (T := t11k11_7 C) (fun x h => by kernel_rfl) x h
theorem t11l11_1111010_eq (C : CallF) (x : Nat → Value) (h : Heap) : codeA Tryz.prog C (partOf Tryz.f11 [1, 1, 1, 1, 0, 1, 0, 0]) (mkF 106 x) h = t11l11_1111010 C x h :=
  link_roundF (T := t11l11_1111010 C) (fun x h => by kernel_rfl) x h


noncomputable def k3_4 (C : CallF) (e : Env) (h : Heap) : Out := codeK Tryz.prog C (partOf Tryz.f3 [1, 1, 1]) e h (resultsA Tryz.prog Tryz.f3.results.toList) (resultsA Tryz.prog Tryz.f3.results.toList) (fun _ _ _ => none)
noncomputable def b3_6 (C : CallF) (i : Nat) (e : Env) (h : Heap) : Out := if i = 0 then (k3_4 C) e h else (fun _ _ _ => none) i e h
/-- stolon/stolonlaw10.SwarmScripts -/
noncomputable def t3 (C : CallF) (x0 x1 : Value) (h : Heap) : Out :=
  thenV (box x0 h) fun y2 h =>
  thenV (some ((.bool false), h)) fun y4 h =>
  thenV (some (x1, h)) fun y10 h =>
  thenV (pu (lenL y10) h) fun y11 h =>
  thenV (pu (bin Tryz.prog .gtr 3 y11 (.int .i64 80)) h) fun y12 h =>
  (match y12 with
  | .bool true =>
  thenV (C 8 [] h) fun y13 h =>
  thenV (some (y13, h)) fun y4_1 h =>
  some (y4_1, h)
  | .bool false =>
  thenV (some ((.int .i64 0), h)) fun y5 h =>
  endL (iter (codeA Tryz.prog C (partOf Tryz.f3 [1, 1, 0, 1, 0, 0])) rounds (mkF 61 (up (bs [x0, x1]) [(2, y2), (4, y4), (5, y5), (10, y10), (11, y11), (12, y12)])) h) (resultsA Tryz.prog Tryz.f3.results.toList) (b3_6 C)
  | _ => none)
noncomputable def t3k3_4 (C : CallF) (x : Nat → Value) (h : Heap) : Out :=
  let g8_0 := h
  thenV (ldN 3 (x 2) g8_0) fun y29 g8_1 =>
  thenV (some ((x 1), g8_1)) fun y30 g8_2 =>
  thenV (C 10 [y30] g8_2) fun y31 g8_3 =>
  thenV (C 9 [y29, y31] g8_3) fun y32 g8_4 =>
  thenV (some (y32, g8_4)) fun y28 g8_5 =>
  thenV (pu (extractA y28 0) g8_5) fun y33 g8_6 =>
  thenV (pu (extractA y28 1) g8_6) fun y34 g8_7 =>
  thenV (some (y33, g8_7)) fun y6 g8_8 =>
  thenV (some (y34, g8_8)) fun y7 g8_9 =>
  (match (chkR true (ldN 3 (x 2) g8_3) y29 && true) with
  | true =>
  let h := g8_9
  thenV (ldN 3 (x 2) h) fun y36 h =>
  thenV (some ((x 1), h)) fun y37 h =>
  thenV (C 11 [y36, y37] h) fun y38 h =>
  thenV (some (y38, h)) fun y35 h =>
  thenV (pu (extractA y35 0) h) fun y39 h =>
  thenV (pu (extractA y35 1) h) fun y40 h =>
  thenV (some (y39, h)) fun y8 h =>
  thenV (some (y40, h)) fun y9 h =>
  let g11_0 := h
  thenV (ldN 3 (x 2) g11_0) fun y41 g11_1 =>
  thenV (C 12 [y41] g11_1) fun y42 g11_2 =>
  thenV (ldN 3 (x 2) g11_2) fun y43 g11_3 =>
  thenV (C 13 [y43] g11_3) fun y44 g11_4 =>
  thenV (pu (bin Tryz.prog .eql 4 y42 y44) g11_4) fun y45 g11_5 =>
  thenV (some (y45, g11_5)) fun y46 g11_6 =>
  thenV (guardK (bOf y46 == some true) (some (y7, g11_6)) g11_6) fun y47 g11_7 =>
  thenV (guardK (bOf y46 == some true) (some (y9, g11_7)) g11_7) fun y48 g11_8 =>
  thenV (guardK (bOf y46 == some true) (pu (bin Tryz.prog .eql 31 y47 y48) g11_8) g11_8) fun y49 g11_9 =>
  thenV (match y46 with | .bool t => some (if t then y49 else (.bool false), g11_9) | _ => none) fun y50 g11_10 =>
  thenV (some (y50, g11_10)) fun y51 g11_11 =>
  thenV (guardK (bOf y51 == some true) (some (y6, g11_11)) g11_11) fun y52 g11_12 =>
  thenV (guardK (bOf y51 == some true) (cvBS y52 g11_12) g11_12) fun y53 g11_13 =>
  thenV (guardK (bOf y51 == some true) (some (y8, g11_13)) g11_13) fun y54 g11_14 =>
  thenV (guardK (bOf y51 == some true) (cvBS y54 g11_14) g11_14) fun y55 g11_15 =>
  thenV (guardK (bOf y51 == some true) (pu (bin Tryz.prog .eql 9 y53 y55) g11_15) g11_15) fun y56 g11_16 =>
  thenV (match y51 with | .bool t => some (if t then y56 else (.bool false), g11_16) | _ => none) fun y57 g11_17 =>
  thenV (some (y57, g11_17)) fun y58 g11_18 =>
  thenV (guardK (bOf y58 == some true) (C 8 [] g11_18) g11_18) fun y59 g11_19 =>
  thenV (match y58 with | .bool t => some (if t then y59 else (.bool false), g11_19) | _ => none) fun y60 g11_20 =>
  thenV (some (y60, g11_20)) fun y4 g11_21 =>
  (match (chkR true (ldN 3 (x 2) g11_1) y43 && true) with
  | true =>
  let h := g11_21
  some (y4, h)
  | false => none)
  | false => none)
noncomputable def t3l3_11010 (C : CallF) (x : Nat → Value) (h : Heap) : Option (Ex × Env × Heap) :=
  thenV (some ((x 5), h)) fun y14 h =>
  thenV (some ((x 1), h)) fun y15 h =>
  thenV (pu (lenL y15) h) fun y16 h =>
  thenV (pu (bin Tryz.prog .lss 3 y14 y16) h) fun y17 h =>
  (match y17 with
  | .bool true =>
  thenV (some ((x 1), h)) fun y20 h =>
  thenV (some ((x 5), h)) fun y21 h =>
  thenV (pu (idxS 6 y20 y21) h) fun y22 h =>
  thenV (pu (addP y22 5) h) fun y23 h =>
  thenV (ld1 y23 h) fun y24 h =>
  thenV (pu (lenL y24) h) fun y25 h =>
  thenV (pu (bin Tryz.prog .gtr 3 y25 (.int .i64 70000)) h) fun y26 h =>
  (match y26 with
  | .bool true =>
  thenV (C 8 [] h) fun y27 h =>
  thenV (some (y27, h)) fun y4 h =>
  some (.ret, (mkF 61 (up x [(4, y4), (14, y14), (15, y15), (16, y16), (17, y17), (20, y20), (21, y21), (22, y22), (23, y23), (24, y24), (25, y25), (26, y26), (27, y27)])), h)
  | .bool false =>
  thenV (some ((x 5), h)) fun y18 h =>
  thenV (pu (bin Tryz.prog .add 3 y18 (.int .i64 1)) h) fun y19 h =>
  thenV (some (y19, h)) fun y5 h =>
  some (.normal, (mkF 61 (up x [(5, y5), (14, y14), (15, y15), (16, y16), (17, y17), (18, y18), (19, y19), (20, y20), (21, y21), (22, y22), (23, y23), (24, y24), (25, y25), (26, y26)])), h)
  | _ => none)
  | .bool false =>
  some (.exit 0, (mkF 61 (up x [(14, y14), (15, y15), (16, y16), (17, y17)])), h)
  | _ => none)
theorem t3_eq (C : CallF) (x0 x1 : Value) (h : Heap) : bodyK Tryz.prog C Tryz.f3 [x0, x1] h = t3 C x0 x1 h :=
  (bodyB_eq Tryz.prog C Tryz.f3 [x0, x1] h (by kernel_rfl)).trans (by kernel_rfl)
theorem t3k3_4_eq (C : CallF) (x : Nat → Value) (h : Heap) : k3_4 C (mkF 61 x) h = t3k3_4 C x h :=
  link_partF (b := (partOf Tryz.f3 [1, 1, 1])) (kE := (resultsA Tryz.prog Tryz.f3.results.toList)) (rE := (resultsA Tryz.prog Tryz.f3.results.toList)) (xE := (fun _ _ _ => none)) (T := t3k3_4 C) (fun x h => by kernel_rfl) x h
theorem t3l3_11010_eq (C : CallF) (x : Nat → Value) (h : Heap) : codeA Tryz.prog C (partOf Tryz.f3 [1, 1, 0, 1, 0, 0]) (mkF 61 x) h = t3l3_11010 C x h :=
  link_roundF (T := t3l3_11010 C) (fun x h => by kernel_rfl) x h


noncomputable def k5_4 (C : CallF) (e : Env) (h : Heap) : Out := codeK Tryz.prog C (partOf Tryz.f5 [1, 1, 1]) e h (resultsA Tryz.prog Tryz.f5.results.toList) (resultsA Tryz.prog Tryz.f5.results.toList) (fun _ _ _ => none)
noncomputable def b5_6 (C : CallF) (i : Nat) (e : Env) (h : Heap) : Out := if i = 0 then (k5_4 C) e h else (fun _ _ _ => none) i e h
/-- stolon/stolonlaw10.SwarmScriptBack -/
noncomputable def t5 (C : CallF) (x0 x1 x2 : Value) (h : Heap) : Out :=
  thenV (box x0 h) fun y3 h =>
  thenV (some ((.bool false), h)) fun y6 h =>
  thenV (some (x1, h)) fun y13 h =>
  thenV (pu (lenL y13) h) fun y14 h =>
  thenV (pu (bin Tryz.prog .gtr 3 y14 (.int .i64 80)) h) fun y15 h =>
  thenV (some (y15, h)) fun y16 h =>
  thenV (guardK (bOf y16 == some false) (some (x2, h)) h) fun y17 h =>
  thenV (guardK (bOf y16 == some false) (pu (lenL y17) h) h) fun y18 h =>
  thenV (guardK (bOf y16 == some false) (pu (bin Tryz.prog .gtr 3 y18 (.int .i64 15)) h) h) fun y19 h =>
  thenV (match y16 with | .bool t => some (if t then (.bool true) else y19, h) | _ => none) fun y20 h =>
  (match y20 with
  | .bool true =>
  thenV (C 8 [] h) fun y21 h =>
  thenV (some (y21, h)) fun y6_1 h =>
  some (y6_1, h)
  | .bool false =>
  thenV (some ((.int .i64 0), h)) fun y7 h =>
  endL (iter (codeA Tryz.prog C (partOf Tryz.f5 [1, 1, 0, 1, 0, 0])) rounds (mkF 75 (up (bs [x0, x1, x2]) [(3, y3), (6, y6), (7, y7), (13, y13), (14, y14), (15, y15), (16, y16), (17, y17), (18, y18), (19, y19), (20, y20)])) h) (resultsA Tryz.prog Tryz.f5.results.toList) (b5_6 C)
  | _ => none)
noncomputable def t5k5_4 (C : CallF) (x : Nat → Value) (h : Heap) : Out :=
  let g8_0 := h
  thenV (ldN 3 (x 3) g8_0) fun y37 g8_1 =>
  thenV (some ((x 1), g8_1)) fun y38 g8_2 =>
  thenV (C 10 [y38] g8_2) fun y39 g8_3 =>
  thenV (C 9 [y37, y39] g8_3) fun y40 g8_4 =>
  thenV (some (y40, g8_4)) fun y36 g8_5 =>
  thenV (pu (extractA y36 0) g8_5) fun y41 g8_6 =>
  thenV (pu (extractA y36 1) g8_6) fun y42 g8_7 =>
  thenV (some (y41, g8_7)) fun y8 g8_8 =>
  thenV (some (y42, g8_8)) fun y9 g8_9 =>
  (match (chkR true (ldN 3 (x 3) g8_3) y37 && true) with
  | true =>
  let h := g8_9
  thenV (some (y9, h)) fun y43 h =>
  thenV (pu (bin Tryz.prog .neq 31 y43 (.int .i64 0)) h) fun y44 h =>
  (match y44 with
  | .bool true =>
  thenV (C 8 [] h) fun y45 h =>
  thenV (some (y45, h)) fun y6 h =>
  some (y6, h)
  | .bool false =>
  thenV (bslR 1 (.int .u8 0) 0 [] h) fun y47 h =>
  thenV (some (y8, h)) fun y48 h =>
  thenV (appendA 1 1 y47 y48 h) fun y49 h =>
  thenV (some ((x 2), h)) fun y50 h =>
  thenV (appendA 1 1 y49 y50 h) fun y51 h =>
  thenV (C 14 [y51] h) fun y52 h =>
  thenV (some (y52, h)) fun y46 h =>
  thenV (pu (extractA y46 0) h) fun y53 h =>
  thenV (pu (extractA y46 1) h) fun y54 h =>
  thenV (pu (extractA y46 2) h) fun y55 h =>
  thenV (newC [(.int .i64 0), (.int .i64 0), (.int .i64 0)] h) fun y10 h =>
  thenV (stN 3 y10 y53 h) fun _ h =>
  thenV (some (y54, h)) fun y11 h =>
  thenV (some (y55, h)) fun y12 h =>
  thenV (some (y12, h)) fun y56 h =>
  thenV (pu (bin Tryz.prog .eql 31 y56 (.int .i64 0)) h) fun y57 h =>
  thenV (some (y57, h)) fun y58 h =>
  thenV (guardK (bOf y58 == some true) (ldN 3 y10 h) h) fun y59 h =>
  thenV (guardK (bOf y58 == some true) (ldN 3 (x 3) h) h) fun y60 h =>
  thenV (guardK (bOf y58 == some true) (pu (bin Tryz.prog .eql 23 y59 y60) h) h) fun y61 h =>
  thenV (match y58 with | .bool t => some (if t then y61 else (.bool false), h) | _ => none) fun y62 h =>
  thenV (some (y62, h)) fun y63 h =>
  thenV (guardK (bOf y63 == some true) (some (y11, h)) h) fun y64 h =>
  thenV (guardK (bOf y63 == some true) (some ((x 1), h)) h) fun y65 h =>
  thenV (guardK (bOf y63 == some true) (C 16 [y64, y65] h) h) fun y66 h =>
  thenV (match y63 with | .bool t => some (if t then y66 else (.bool false), h) | _ => none) fun y67 h =>
  thenV (some (y67, h)) fun y68 h =>
  thenV (guardK (bOf y68 == some true) (ldN 3 (x 3) h) h) fun y69 h =>
  thenV (guardK (bOf y68 == some true) (C 12 [y69] h) h) fun y70 h =>
  thenV (match y68 with | .bool t => some (if t then y70 else (.bool false), h) | _ => none) fun y71 h =>
  thenV (some (y71, h)) fun y72 h =>
  thenV (guardK (bOf y72 == some true) (C 8 [] h) h) fun y73 h =>
  thenV (match y72 with | .bool t => some (if t then y73 else (.bool false), h) | _ => none) fun y74 h =>
  thenV (some (y74, h)) fun y6 h =>
  some (y6, h)
  | _ => none)
  | false => none)
noncomputable def t5l5_11010 (C : CallF) (x : Nat → Value) (h : Heap) : Option (Ex × Env × Heap) :=
  thenV (some ((x 7), h)) fun y22 h =>
  thenV (some ((x 1), h)) fun y23 h =>
  thenV (pu (lenL y23) h) fun y24 h =>
  thenV (pu (bin Tryz.prog .lss 3 y22 y24) h) fun y25 h =>
  (match y25 with
  | .bool true =>
  thenV (some ((x 1), h)) fun y28 h =>
  thenV (some ((x 7), h)) fun y29 h =>
  thenV (pu (idxS 6 y28 y29) h) fun y30 h =>
  thenV (pu (addP y30 5) h) fun y31 h =>
  thenV (ld1 y31 h) fun y32 h =>
  thenV (pu (lenL y32) h) fun y33 h =>
  thenV (pu (bin Tryz.prog .gtr 3 y33 (.int .i64 70000)) h) fun y34 h =>
  (match y34 with
  | .bool true =>
  thenV (C 8 [] h) fun y35 h =>
  thenV (some (y35, h)) fun y6 h =>
  some (.ret, (mkF 75 (up x [(6, y6), (22, y22), (23, y23), (24, y24), (25, y25), (28, y28), (29, y29), (30, y30), (31, y31), (32, y32), (33, y33), (34, y34), (35, y35)])), h)
  | .bool false =>
  thenV (some ((x 7), h)) fun y26 h =>
  thenV (pu (bin Tryz.prog .add 3 y26 (.int .i64 1)) h) fun y27 h =>
  thenV (some (y27, h)) fun y7 h =>
  some (.normal, (mkF 75 (up x [(7, y7), (22, y22), (23, y23), (24, y24), (25, y25), (26, y26), (27, y27), (28, y28), (29, y29), (30, y30), (31, y31), (32, y32), (33, y33), (34, y34)])), h)
  | _ => none)
  | .bool false =>
  some (.exit 0, (mkF 75 (up x [(22, y22), (23, y23), (24, y24), (25, y25)])), h)
  | _ => none)
theorem t5_eq (C : CallF) (x0 x1 x2 : Value) (h : Heap) : bodyK Tryz.prog C Tryz.f5 [x0, x1, x2] h = t5 C x0 x1 x2 h :=
  (bodyB_eq Tryz.prog C Tryz.f5 [x0, x1, x2] h (by kernel_rfl)).trans (by kernel_rfl)
theorem t5k5_4_eq (C : CallF) (x : Nat → Value) (h : Heap) : k5_4 C (mkF 75 x) h = t5k5_4 C x h :=
  link_partF (b := (partOf Tryz.f5 [1, 1, 1])) (kE := (resultsA Tryz.prog Tryz.f5.results.toList)) (rE := (resultsA Tryz.prog Tryz.f5.results.toList)) (xE := (fun _ _ _ => none)) (T := t5k5_4 C) (fun x h => by kernel_rfl) x h
theorem t5l5_11010_eq (C : CallF) (x : Nat → Value) (h : Heap) : codeA Tryz.prog C (partOf Tryz.f5 [1, 1, 0, 1, 0, 0]) (mkF 75 x) h = t5l5_11010 C x h :=
  link_roundF (T := t5l5_11010 C) (fun x h => by kernel_rfl) x h


end Go.Proofs.YtdmnphocgfnlpaaGreatDoor

