/-
  Printed by a program: the texts of some of the seat's functions, each linked to the program.
  Conditions: none.
-/
import Derived.Test.YtdnahgfgoajmcaaDoorG9
import Derived.Test.YtdnahgfgoajmcaaDoorProg
import Derived.KernelRfl
namespace Go.Proofs.YtdnahgfgoajmcaaDoor
open Go Go.Abs
noncomputable def k109_2 (C : CallF) (e : Env) (h : Heap) : Out := codeK Tryd.prog C (partOf Tryd.f109 [1, 1, 1]) e h (resultsA Tryd.prog Tryd.f109.results.toList) (resultsA Tryd.prog Tryd.f109.results.toList) (fun _ _ _ => none)
noncomputable def b109_3 (C : CallF) (i : Nat) (e : Env) (h : Heap) : Out := if i = 0 then (k109_2 C) e h else (fun _ _ _ => none) i e h
/-- stolon/stolonref06.half -/
noncomputable def t109 (C : CallF) (x0 : Value) (h : Heap) : Out :=
  thenV (some ((.int .i64 0), h)) fun y2 h =>
  thenV (some ((.int .i64 1), h)) fun y3 h =>
  endL (iter (codeA Tryd.prog C (partOf Tryd.f109 [1, 1, 0, 0, 0])) rounds (mkF 11 (up (bs [x0]) [(2, y2), (3, y3)])) h) (resultsA Tryd.prog Tryd.f109.results.toList) (b109_3 C)
noncomputable def t109k109_2 (C : CallF) (x : Nat → Value) (h : Heap) : Out :=
  thenV (some ((x 3), h)) fun y10 h =>
  thenV (some (y10, h)) fun y2 h =>
  some (y2, h)
noncomputable def t109l109_1100 (C : CallF) (x : Nat → Value) (h : Heap) : Option (Ex × Env × Heap) :=
  thenV (some ((x 3), h)) fun y4 h =>
  thenV (pu (bin Tryd.prog .mul 3 (.int .i64 2) y4) h) fun y5 h =>
  thenV (some ((x 0), h)) fun y6 h =>
  thenV (pu (bin Tryd.prog .lss 3 y5 y6) h) fun y7 h =>
  (match y7 with
  | .bool true =>
  thenV (some ((x 3), h)) fun y8 h =>
  thenV (pu (bin Tryd.prog .mul 3 y8 (.int .i64 2)) h) fun y9 h =>
  thenV (some (y9, h)) fun y3 h =>
  some (.normal, (mkF 11 (up x [(3, y3), (4, y4), (5, y5), (6, y6), (7, y7), (8, y8), (9, y9)])), h)
  | .bool false =>
  some (.exit 0, (mkF 11 (up x [(4, y4), (5, y5), (6, y6), (7, y7)])), h)
  | _ => none)
theorem t109_eq (C : CallF) (x0 : Value) (h : Heap) : bodyK Tryd.prog C Tryd.f109 [x0] h = t109 C x0 h :=
  (bodyB_eq Tryd.prog C Tryd.f109 [x0] h (by kernel_rfl)).trans (by kernel_rfl)
theorem t109k109_2_eq (C : CallF) (x : Nat → Value) (h : Heap) : k109_2 C (mkF 11 x) h = t109k109_2 C x h :=
  link_partF (b := (partOf Tryd.f109 [1, 1, 1])) (kE := (resultsA Tryd.prog Tryd.f109.results.toList)) (rE := (resultsA Tryd.prog Tryd.f109.results.toList)) (xE := (fun _ _ _ => none)) (T := t109k109_2 C) (fun x h => by kernel_rfl) x h
theorem t109l109_1100_eq (C : CallF) (x : Nat → Value) (h : Heap) : codeA Tryd.prog C (partOf Tryd.f109 [1, 1, 0, 0, 0]) (mkF 11 x) h = t109l109_1100 C x h :=
  link_roundF (T := t109l109_1100 C) (fun x h => by kernel_rfl) x h

noncomputable def k31_5 (C : CallF) (e : Env) (h : Heap) : Out := codeK Tryd.prog C (partOf Tryd.f31 [1, 1, 1, 1]) e h (resultsA Tryd.prog Tryd.f31.results.toList) (resultsA Tryd.prog Tryd.f31.results.toList) (fun _ _ _ => none)
noncomputable def b31_7 (C : CallF) (i : Nat) (e : Env) (h : Heap) : Out := if i = 0 then (k31_5 C) e h else (fun _ _ _ => none) i e h
noncomputable def k31_11 (C : CallF) (e : Env) (h : Heap) : Option (Ex × Env × Heap) := codeK Tryd.prog C (partOf Tryd.f31 [1, 1, 1, 0, 1, 0, 0, 1, 1, 1]) e h (fun e h => some (Ex.normal, e, h)) (fun e h => some (Ex.ret, e, h)) (fun i e h => some (Ex.exit i, e, h))
noncomputable def b31_12 (C : CallF) (i : Nat) (e : Env) (h : Heap) : Option (Ex × Env × Heap) := if i = 1 then (k31_11 C) e h else (fun i e h => some (Ex.exit i, e, h)) i e h
noncomputable def k31_17 (C : CallF) (e : Env) (h : Heap) : Option (Ex × Env × Heap) := codeK Tryd.prog C (partOf Tryd.f31 [1, 1, 1, 0, 1, 0, 0, 1, 1, 0, 0, 1, 1, 1]) e h (k31_11 C) (fun e h => some (Ex.ret, e, h)) (b31_12 C)
noncomputable def b31_20 (C : CallF) (i : Nat) (e : Env) (h : Heap) : Option (Ex × Env × Heap) := if i = 2 then (k31_17 C) e h else (b31_12 C) i e h
/-- stolon/inventory.Verify -/
noncomputable def t31 (C : CallF) (x0 x1 x2 x3 x4 : Value) (h : Heap) : Out :=
  thenV (box x0 h) fun y5 h =>
  thenV (box x3 h) fun y8 h =>
  thenV (some ((.bool false), h)) fun y10 h =>
  thenV (ldN 39 y8 h) fun y15 h =>
  thenV (C 42 [y15] h) fun y16 h =>
  thenV (pu (unA .not y16) h) fun y17 h =>
  thenV (some (y17, h)) fun y18 h =>
  thenV (guardK (bOf y18 == some false) (some (x1, h)) h) fun y19 h =>
  thenV (guardK (bOf y18 == some false) (pu (bin Tryd.prog .gtr 3 y19 (.int .i64 1048576)) h) h) fun y20 h =>
  thenV (match y18 with | .bool t => some (if t then (.bool true) else y20, h) | _ => none) fun y21 h =>
  thenV (some (y21, h)) fun y22 h =>
  thenV (guardK (bOf y22 == some false) (some (x2, h)) h) fun y23 h =>
  thenV (guardK (bOf y22 == some false) (pu (bin Tryd.prog .lss 3 y23 (.int .i64 0)) h) h) fun y24 h =>
  thenV (match y22 with | .bool t => some (if t then (.bool true) else y24, h) | _ => none) fun y25 h =>
  thenV (some (y25, h)) fun y26 h =>
  thenV (guardK (bOf y26 == some false) (some (x2, h)) h) fun y27 h =>
  thenV (guardK (bOf y26 == some false) (some (x1, h)) h) fun y28 h =>
  thenV (guardK (bOf y26 == some false) (pu (bin Tryd.prog .geq 3 y27 y28) h) h) fun y29 h =>
  thenV (match y26 with | .bool t => some (if t then (.bool true) else y29, h) | _ => none) fun y30 h =>
  (match y30 with
  | .bool true =>
  thenV (some ((.bool false), h)) fun y10_1 h =>
  some (y10_1, h)
  | .bool false =>
  thenV (ldN 39 y8 h) fun y31 h =>
  thenV (C 69 [y31] h) fun y32 h =>
  thenV (some (x1, h)) fun y33 h =>
  thenV (pu (bin Tryd.prog .sub 3 y33 (.int .i64 1)) h) fun y34 h =>
  thenV (newC (List.replicate 32 (.int .u8 0)) h) fun y11 h =>
  thenV (stN 32 y11 y32 h) fun _ h =>
  thenV (some (y34, h)) fun y12 h =>
  thenV (some (x4, h)) fun y35 h =>
  thenV (pu (lenL y35) h) fun y36 h =>
  thenV (some ((.int .i64 0), h)) fun y37 h =>
  endL (iter (codeA Tryd.prog C (partOf Tryd.f31 [1, 1, 1, 0, 1, 0, 0])) rounds (mkF 80 (up (bs [x0, x1, x2, x3, x4]) [(5, y5), (8, y8), (10, y10), (11, y11), (12, y12), (15, y15), (16, y16), (17, y17), (18, y18), (19, y19), (20, y20), (21, y21), (22, y22), (23, y23), (24, y24), (25, y25), (26, y26), (27, y27), (28, y28), (29, y29), (30, y30), (31, y31), (32, y32), (33, y33), (34, y34), (35, y35), (36, y36), (37, y37)])) h) (resultsA Tryd.prog Tryd.f31.results.toList) (b31_7 C)
  | _ => none)
noncomputable def t31k31_5 (C : CallF) (x : Nat → Value) (h : Heap) : Out :=
  thenV (some ((x 12), h)) fun y73 h =>
  thenV (pu (bin Tryd.prog .eql 3 y73 (.int .i64 0)) h) fun y74 h =>
  thenV (some (y74, h)) fun y75 h =>
  thenV (guardK (bOf y75 == some true) (ldN 32 (x 11) h) h) fun y76 h =>
  thenV (guardK (bOf y75 == some true) (ldN 32 (x 5) h) h) fun y77 h =>
  thenV (guardK (bOf y75 == some true) (pu (bin Tryd.prog .eql 35 y76 y77) h) h) fun y78 h =>
  thenV (match y75 with | .bool t => some (if t then y78 else (.bool false), h) | _ => none) fun y79 h =>
  thenV (some (y79, h)) fun y10 h =>
  some (y10, h)
noncomputable def t31l31_111010 (C : CallF) (x : Nat → Value) (h : Heap) : Option (Ex × Env × Heap) :=
  thenV (pu (bin Tryd.prog .lss 3 (x 37) (x 36)) h) fun y38 h =>
  (match y38 with
  | .bool true =>
  thenV (pu (idxS 32 (x 35) (x 37)) h) fun y39 h =>
  thenV (ldN 32 y39 h) fun y40 h =>
  thenV (newC (List.replicate 32 (.int .u8 0)) h) fun y14 h =>
  thenV (stN 32 y14 y40 h) fun _ h =>
  thenV (some ((x 12), h)) fun y41 h =>
  thenV (pu (bin Tryd.prog .eql 3 y41 (.int .i64 0)) h) fun y42 h =>
  (match y42 with
  | .bool true =>
  thenV (some ((.bool false), h)) fun y10 h =>
  some (.ret, (mkF 80 (up x [(10, y10), (14, y14), (38, y38), (39, y39), (40, y40), (41, y41), (42, y42)])), h)
  | .bool false =>
  thenV (some ((x 2), h)) fun y43 h =>
  thenV (pu (bin Tryd.prog .and 3 y43 (.int .i64 1)) h) fun y44 h =>
  thenV (pu (bin Tryd.prog .eql 3 y44 (.int .i64 1)) h) fun y45 h =>
  thenV (some (y45, h)) fun y46 h =>
  thenV (guardK (bOf y46 == some false) (some ((x 2), h)) h) fun y47 h =>
  thenV (guardK (bOf y46 == some false) (some ((x 12), h)) h) fun y48 h =>
  thenV (guardK (bOf y46 == some false) (pu (bin Tryd.prog .eql 3 y47 y48) h) h) fun y49 h =>
  thenV (match y46 with | .bool t => some (if t then (.bool true) else y49, h) | _ => none) fun y50 h =>
  (match y50 with
  | .bool true =>
  thenV (ldN 32 y14 h) fun y51 h =>
  thenV (ldN 32 (x 11) h) fun y52 h =>
  thenV (C 70 [y51, y52] h) fun y53 h =>
  thenV (stN 32 (x 11) y53 h) fun _ h =>
  endL (iter (codeA Tryd.prog C (partOf Tryd.f31 [1, 1, 1, 0, 1, 0, 0, 1, 1, 0, 0, 1, 1, 0, 1, 0, 1, 0, 0])) rounds (mkF 80 (up x [(14, y14), (38, y38), (39, y39), (40, y40), (41, y41), (42, y42), (43, y43), (44, y44), (45, y45), (46, y46), (47, y47), (48, y48), (49, y49), (50, y50), (51, y51), (52, y52), (53, y53)])) h) (fun e h => some (Ex.ret, e, h)) (b31_20 C)
  | .bool false =>
  thenV (ldN 32 (x 11) h) fun y65 h =>
  thenV (ldN 32 y14 h) fun y66 h =>
  thenV (C 70 [y65, y66] h) fun y67 h =>
  thenV (stN 32 (x 11) y67 h) fun _ h =>
  thenV (some ((x 2), h)) fun y68 h =>
  thenV (pu (bin Tryd.prog .shr 3 y68 (.int .u64 1)) h) fun y69 h =>
  thenV (some (y69, h)) fun y2 h =>
  thenV (some ((x 12), h)) fun y70 h =>
  thenV (pu (bin Tryd.prog .shr 3 y70 (.int .u64 1)) h) fun y71 h =>
  thenV (some (y71, h)) fun y12 h =>
  thenV (pu (bin Tryd.prog .add 3 (x 37) (.int .i64 1)) h) fun y72 h =>
  thenV (some (y72, h)) fun y37 h =>
  some (.normal, (mkF 80 (up x [(2, y2), (12, y12), (14, y14), (37, y37), (38, y38), (39, y39), (40, y40), (41, y41), (42, y42), (43, y43), (44, y44), (45, y45), (46, y46), (47, y47), (48, y48), (49, y49), (50, y50), (65, y65), (66, y66), (67, y67), (68, y68), (69, y69), (70, y70), (71, y71), (72, y72)])), h)
  | _ => none)
  | _ => none)
  | .bool false =>
  some (.exit 0, (mkF 80 (up x [(38, y38)])), h)
  | _ => none)
noncomputable def t31k31_11 (C : CallF) (x : Nat → Value) (h : Heap) : Option (Ex × Env × Heap) :=
  thenV (pu (bin Tryd.prog .add 3 (x 37) (.int .i64 1)) h) fun y72 h =>
  thenV (some (y72, h)) fun y37 h =>
  some (.normal, (mkF 80 (up x [(37, y37), (72, y72)])), h)
noncomputable def t31k31_17 (C : CallF) (x : Nat → Value) (h : Heap) : Option (Ex × Env × Heap) :=
  thenV (some ((x 2), h)) fun y68 h =>
  thenV (pu (bin Tryd.prog .shr 3 y68 (.int .u64 1)) h) fun y69 h =>
  thenV (some (y69, h)) fun y2 h =>
  thenV (some ((x 12), h)) fun y70 h =>
  thenV (pu (bin Tryd.prog .shr 3 y70 (.int .u64 1)) h) fun y71 h =>
  thenV (some (y71, h)) fun y12 h =>
  k31_11 C (mkF 80 (up x [(2, y2), (12, y12), (68, y68), (69, y69), (70, y70), (71, y71)])) h
noncomputable def t31l31_111010011001101010 (C : CallF) (x : Nat → Value) (h : Heap) : Option (Ex × Env × Heap) :=
  thenV (some ((x 2), h)) fun y54 h =>
  thenV (pu (bin Tryd.prog .and 3 y54 (.int .i64 1)) h) fun y55 h =>
  thenV (pu (bin Tryd.prog .eql 3 y55 (.int .i64 0)) h) fun y56 h =>
  thenV (some (y56, h)) fun y57 h =>
  thenV (guardK (bOf y57 == some true) (some ((x 2), h)) h) fun y58 h =>
  thenV (guardK (bOf y57 == some true) (pu (bin Tryd.prog .neq 3 y58 (.int .i64 0)) h) h) fun y59 h =>
  thenV (match y57 with | .bool t => some (if t then y59 else (.bool false), h) | _ => none) fun y60 h =>
  (match y60 with
  | .bool true =>
  thenV (some ((x 2), h)) fun y61 h =>
  thenV (pu (bin Tryd.prog .shr 3 y61 (.int .u64 1)) h) fun y62 h =>
  thenV (some (y62, h)) fun y2 h =>
  thenV (some ((x 12), h)) fun y63 h =>
  thenV (pu (bin Tryd.prog .shr 3 y63 (.int .u64 1)) h) fun y64 h =>
  thenV (some (y64, h)) fun y12 h =>
  some (.normal, (mkF 80 (up x [(2, y2), (12, y12), (54, y54), (55, y55), (56, y56), (57, y57), (58, y58), (59, y59), (60, y60), (61, y61), (62, y62), (63, y63), (64, y64)])), h)
  | .bool false =>
  some (.exit 2, (mkF 80 (up x [(54, y54), (55, y55), (56, y56), (57, y57), (58, y58), (59, y59), (60, y60)])), h)
  | _ => none)
theorem t31_eq (C : CallF) (x0 x1 x2 x3 x4 : Value) (h : Heap) : bodyK Tryd.prog C Tryd.f31 [x0, x1, x2, x3, x4] h = t31 C x0 x1 x2 x3 x4 h :=
  (bodyB_eq Tryd.prog C Tryd.f31 [x0, x1, x2, x3, x4] h (by kernel_rfl)).trans (by kernel_rfl)
theorem t31k31_5_eq (C : CallF) (x : Nat → Value) (h : Heap) : k31_5 C (mkF 80 x) h = t31k31_5 C x h :=
  link_partF (b := (partOf Tryd.f31 [1, 1, 1, 1])) (kE := (resultsA Tryd.prog Tryd.f31.results.toList)) (rE := (resultsA Tryd.prog Tryd.f31.results.toList)) (xE := (fun _ _ _ => none)) (T := t31k31_5 C) (fun x h => by kernel_rfl) x h
theorem t31l31_111010_eq (C : CallF) (x : Nat → Value) (h : Heap) : codeA Tryd.prog C (partOf Tryd.f31 [1, 1, 1, 0, 1, 0, 0]) (mkF 80 x) h = t31l31_111010 C x h :=
  link_roundF (T := t31l31_111010 C) (fun x h => by kernel_rfl) x h
theorem t31k31_11_eq (C : CallF) (x : Nat → Value) (h : Heap) : k31_11 C (mkF 80 x) h = t31k31_11 C x h :=
  link_partF (b := (partOf Tryd.f31 [1, 1, 1, 0, 1, 0, 0, 1, 1, 1])) (kE := (fun e h => some (Ex.normal, e, h))) (rE := (fun e h => some (Ex.ret, e, h))) (xE := (fun i e h => some (Ex.exit i, e, h))) (T := t31k31_11 C) (fun x h => by kernel_rfl) x h
theorem t31k31_17_eq (C : CallF) (x : Nat → Value) (h : Heap) : k31_17 C (mkF 80 x) h = t31k31_17 C x h :=
  link_partF (b := (partOf Tryd.f31 [1, 1, 1, 0, 1, 0, 0, 1, 1, 0, 0, 1, 1, 1])) (kE := (k31_11 C)) (rE := (fun e h => some (Ex.ret, e, h))) (xE := (b31_12 C)) (T := t31k31_17 C) (fun x h => by kernel_rfl) x h
theorem t31l31_111010011001101010_eq (C : CallF) (x : Nat → Value) (h : Heap) : codeA Tryd.prog C (partOf Tryd.f31 [1, 1, 1, 0, 1, 0, 0, 1, 1, 0, 0, 1, 1, 0, 1, 0, 1, 0, 0]) (mkF 80 x) h = t31l31_111010011001101010 C x h :=
  link_roundF (T := t31l31_111010011001101010 C) (fun x h => by kernel_rfl) x h

/-- stolon/stolonref06.climb -/
noncomputable def t71 (C : CallF) (x0 x1 x2 x3 : Value) (h : Heap) : Out :=
  thenV (box x2 h) fun y6 h =>
  thenV (newC (List.replicate 32 (.int .u8 0)) h) fun y8 h =>
  thenV (some ((.bool false), h)) fun y9 h =>
  thenV (some (x0, h)) fun y16 h =>
  thenV (pu (bin Tryd.prog .eql 3 y16 (.int .i64 1)) h) fun y17 h =>
  (match y17 with
  | .bool true =>
  thenV (ldN 32 y6 h) fun y18 h =>
  thenV (some (x3, h)) fun y19 h =>
  thenV (pu (lenL y19) h) fun y20 h =>
  thenV (pu (bin Tryd.prog .eql 3 y20 (.int .i64 0)) h) fun y21 h =>
  thenV (stN 32 y8 y18 h) fun _ h =>
  thenV (some (y21, h)) fun y9_1 h =>
  resultsA Tryd.prog Tryd.f71.results.toList (mkF 73 (up (bs [x0, x1, x2, x3]) [(6, y6), (8, y8), (9, y9_1), (16, y16), (17, y17), (18, y18), (19, y19), (20, y20), (21, y21)])) h
  | .bool false =>
  thenV (some (x3, h)) fun y22 h =>
  thenV (pu (lenL y22) h) fun y23 h =>
  thenV (pu (bin Tryd.prog .eql 3 y23 (.int .i64 0)) h) fun y24 h =>
  (match y24 with
  | .bool true =>
  thenV (ldN 32 y6 h) fun y25 h =>
  thenV (stN 32 y8 y25 h) fun _ h =>
  thenV (some ((.bool false), h)) fun y9_1 h =>
  resultsA Tryd.prog Tryd.f71.results.toList (mkF 73 (up (bs [x0, x1, x2, x3]) [(6, y6), (8, y8), (9, y9_1), (16, y16), (17, y17), (22, y22), (23, y23), (24, y24), (25, y25)])) h
  | .bool false =>
  thenV (some (x3, h)) fun y26 h =>
  thenV (some (x3, h)) fun y27 h =>
  thenV (pu (lenL y27) h) fun y28 h =>
  thenV (pu (bin Tryd.prog .sub 3 y28 (.int .i64 1)) h) fun y29 h =>
  thenV (pu (idxS 32 y26 y29) h) fun y30 h =>
  thenV (ldN 32 y30 h) fun y31 h =>
  thenV (newC (List.replicate 32 (.int .u8 0)) h) fun y10 h =>
  thenV (stN 32 y10 y31 h) fun _ h =>
  thenV (some (x0, h)) fun y32 h =>
  thenV (C 109 [y32] h) fun y33 h =>
  thenV (some (y33, h)) fun y11 h =>
  thenV (some (x1, h)) fun y34 h =>
  thenV (some (y11, h)) fun y35 h =>
  thenV (pu (bin Tryd.prog .lss 3 y34 y35) h) fun y36 h =>
  (match y36 with
  | .bool true =>
  thenV (some (y11, h)) fun y38 h =>
  thenV (some (x1, h)) fun y39 h =>
  thenV (ldN 32 y6 h) fun y40 h =>
  thenV (some (x3, h)) fun y41 h =>
  thenV (some (x3, h)) fun y42 h =>
  thenV (pu (lenL y42) h) fun y43 h =>
  thenV (pu (bin Tryd.prog .sub 3 y43 (.int .i64 1)) h) fun y44 h =>
  thenV (pu (slR 32 y41 none (some y44) none) h) fun y45 h =>
  thenV (C 71 [y38, y39, y40, y45] h) fun y46 h =>
  thenV (some (y46, h)) fun y37 h =>
  thenV (pu (extractA y37 0) h) fun y47 h =>
  thenV (pu (extractA y37 1) h) fun y48 h =>
  thenV (newC (List.replicate 32 (.int .u8 0)) h) fun y12 h =>
  thenV (stN 32 y12 y47 h) fun _ h =>
  thenV (some (y48, h)) fun y13 h =>
  thenV (ldN 32 y12 h) fun y49 h =>
  thenV (ldN 32 y10 h) fun y50 h =>
  thenV (C 110 [y49, y50] h) fun y51 h =>
  thenV (some (y13, h)) fun y52 h =>
  thenV (stN 32 y8 y51 h) fun _ h =>
  thenV (some (y52, h)) fun y9_1 h =>
  resultsA Tryd.prog Tryd.f71.results.toList (mkF 73 (up (bs [x0, x1, x2, x3]) [(6, y6), (8, y8), (9, y9_1), (10, y10), (11, y11), (12, y12), (13, y13), (16, y16), (17, y17), (22, y22), (23, y23), (24, y24), (26, y26), (27, y27), (28, y28), (29, y29), (30, y30), (31, y31), (32, y32), (33, y33), (34, y34), (35, y35), (36, y36), (37, y37), (38, y38), (39, y39), (40, y40), (41, y41), (42, y42), (43, y43), (44, y44), (45, y45), (46, y46), (47, y47), (48, y48), (49, y49), (50, y50), (51, y51), (52, y52)])) h
  | .bool false =>
  thenV (some (x0, h)) fun y54 h =>
  thenV (some (y11, h)) fun y55 h =>
  thenV (pu (bin Tryd.prog .sub 3 y54 y55) h) fun y56 h =>
  thenV (some (x1, h)) fun y57 h =>
  thenV (some (y11, h)) fun y58 h =>
  thenV (pu (bin Tryd.prog .sub 3 y57 y58) h) fun y59 h =>
  thenV (ldN 32 y6 h) fun y60 h =>
  thenV (some (x3, h)) fun y61 h =>
  thenV (some (x3, h)) fun y62 h =>
  thenV (pu (lenL y62) h) fun y63 h =>
  thenV (pu (bin Tryd.prog .sub 3 y63 (.int .i64 1)) h) fun y64 h =>
  thenV (pu (slR 32 y61 none (some y64) none) h) fun y65 h =>
  thenV (C 71 [y56, y59, y60, y65] h) fun y66 h =>
  thenV (some (y66, h)) fun y53 h =>
  thenV (pu (extractA y53 0) h) fun y67 h =>
  thenV (pu (extractA y53 1) h) fun y68 h =>
  thenV (newC (List.replicate 32 (.int .u8 0)) h) fun y14 h =>
  thenV (stN 32 y14 y67 h) fun _ h =>
  thenV (some (y68, h)) fun y15 h =>
  thenV (ldN 32 y10 h) fun y69 h =>
  thenV (ldN 32 y14 h) fun y70 h =>
  thenV (C 110 [y69, y70] h) fun y71 h =>
  thenV (some (y15, h)) fun y72 h =>
  thenV (stN 32 y8 y71 h) fun _ h =>
  thenV (some (y72, h)) fun y9_1 h =>
  resultsA Tryd.prog Tryd.f71.results.toList (mkF 73 (up (bs [x0, x1, x2, x3]) [(6, y6), (8, y8), (9, y9_1), (10, y10), (11, y11), (14, y14), (15, y15), (16, y16), (17, y17), (22, y22), (23, y23), (24, y24), (26, y26), (27, y27), (28, y28), (29, y29), (30, y30), (31, y31), (32, y32), (33, y33), (34, y34), (35, y35), (36, y36), (53, y53), (54, y54), (55, y55), (56, y56), (57, y57), (58, y58), (59, y59), (60, y60), (61, y61), (62, y62), (63, y63), (64, y64), (65, y65), (66, y66), (67, y67), (68, y68), (69, y69), (70, y70), (71, y71), (72, y72)])) h
  | _ => none)
  | _ => none)
  | _ => none)
theorem t71_eq (C : CallF) (x0 x1 x2 x3 : Value) (h : Heap) : bodyK Tryd.prog C Tryd.f71 [x0, x1, x2, x3] h = t71 C x0 x1 x2 x3 h :=
  (bodyB_eq Tryd.prog C Tryd.f71 [x0, x1, x2, x3] h (by kernel_rfl)).trans (by kernel_rfl)

/-- stolon/stolonref06.Verify -/
noncomputable def t32 (C : CallF) (x0 x1 x2 x3 x4 : Value) (h : Heap) : Out :=
  thenV (box x0 h) fun y5 h =>
  thenV (box x3 h) fun y8 h =>
  thenV (some ((.bool false), h)) fun y10 h =>
  thenV (ldN 39 y8 h) fun y13 h =>
  thenV (C 48 [y13] h) fun y14 h =>
  thenV (pu (unA .not y14) h) fun y15 h =>
  thenV (some (y15, h)) fun y16 h =>
  thenV (guardK (bOf y16 == some false) (some (x1, h)) h) fun y17 h =>
  thenV (guardK (bOf y16 == some false) (pu (bin Tryd.prog .gtr 3 y17 (.int .i64 1048576)) h) h) fun y18 h =>
  thenV (match y16 with | .bool t => some (if t then (.bool true) else y18, h) | _ => none) fun y19 h =>
  thenV (some (y19, h)) fun y20 h =>
  thenV (guardK (bOf y20 == some false) (some (x2, h)) h) fun y21 h =>
  thenV (guardK (bOf y20 == some false) (pu (bin Tryd.prog .lss 3 y21 (.int .i64 0)) h) h) fun y22 h =>
  thenV (match y20 with | .bool t => some (if t then (.bool true) else y22, h) | _ => none) fun y23 h =>
  thenV (some (y23, h)) fun y24 h =>
  thenV (guardK (bOf y24 == some false) (some (x2, h)) h) fun y25 h =>
  thenV (guardK (bOf y24 == some false) (some (x1, h)) h) fun y26 h =>
  thenV (guardK (bOf y24 == some false) (pu (bin Tryd.prog .geq 3 y25 y26) h) h) fun y27 h =>
  thenV (match y24 with | .bool t => some (if t then (.bool true) else y27, h) | _ => none) fun y28 h =>
  (match y28 with
  | .bool true =>
  thenV (some ((.bool false), h)) fun y10_1 h =>
  some (y10_1, h)
  | .bool false =>
  thenV (some (x1, h)) fun y30 h =>
  thenV (some (x2, h)) fun y31 h =>
  thenV (ldN 39 y8 h) fun y32 h =>
  thenV (C 72 [y32] h) fun y33 h =>
  thenV (some (x4, h)) fun y34 h =>
  thenV (C 71 [y30, y31, y33, y34] h) fun y35 h =>
  thenV (some (y35, h)) fun y29 h =>
  thenV (pu (extractA y29 0) h) fun y36 h =>
  thenV (pu (extractA y29 1) h) fun y37 h =>
  thenV (newC (List.replicate 32 (.int .u8 0)) h) fun y11 h =>
  thenV (stN 32 y11 y36 h) fun _ h =>
  thenV (some (y37, h)) fun y12 h =>
  thenV (some (y12, h)) fun y38 h =>
  thenV (some (y38, h)) fun y39 h =>
  thenV (guardK (bOf y39 == some true) (ldN 32 y11 h) h) fun y40 h =>
  thenV (guardK (bOf y39 == some true) (ldN 32 y5 h) h) fun y41 h =>
  thenV (guardK (bOf y39 == some true) (pu (bin Tryd.prog .eql 35 y40 y41) h) h) fun y42 h =>
  thenV (match y39 with | .bool t => some (if t then y42 else (.bool false), h) | _ => none) fun y43 h =>
  thenV (some (y43, h)) fun y10_1 h =>
  some (y10_1, h)
  | _ => none)
theorem t32_eq (C : CallF) (x0 x1 x2 x3 x4 : Value) (h : Heap) : bodyK Tryd.prog C Tryd.f32 [x0, x1, x2, x3, x4] h = t32 C x0 x1 x2 x3 x4 h :=
  (bodyB_eq Tryd.prog C Tryd.f32 [x0, x1, x2, x3, x4] h (by kernel_rfl)).trans (by kernel_rfl)

/-- stolon/stolonlaw06.InventoryVerifies -/
noncomputable def t6 (C : CallF) (x0 : Value) (h : Heap) : Out :=
  thenV (box x0 h) fun y1 h =>
  thenV (some ((.bool false), h)) fun y2 h =>
  thenV (pu (addP y1 73) h) fun y3 h =>
  thenV (ld1 y3 h) fun y4 h =>
  thenV (pu (lenL y4) h) fun y5 h =>
  thenV (pu (bin Tryd.prog .gtr 3 y5 (.int .i64 100)) h) fun y6 h =>
  (match y6 with
  | .bool true =>
  thenV (C 14 [] h) fun y7 h =>
  thenV (some (y7, h)) fun y2_1 h =>
  some (y2_1, h)
  | .bool false =>
  let g5_0 := h
  thenV (pu (addP y1 0) g5_0) fun y8 g5_1 =>
  thenV (ldN 32 y8 g5_1) fun y9 g5_2 =>
  thenV (pu (addP y1 32) g5_2) fun y10 g5_3 =>
  thenV (ld1 y10 g5_3) fun y11 g5_4 =>
  thenV (pu (addP y1 33) g5_4) fun y12 g5_5 =>
  thenV (ld1 y12 g5_5) fun y13 g5_6 =>
  thenV (pu (addP y1 34) g5_6) fun y14 g5_7 =>
  thenV (ldN 39 y14 g5_7) fun y15 g5_8 =>
  thenV (pu (addP y1 73) g5_8) fun y17 g5_9 =>
  thenV (ld1 y17 g5_9) fun y18 g5_10 =>
  thenV (pu (addP y1 0) g5_10) fun y21 g5_11 =>
  thenV (ldN 32 y21 g5_11) fun y22 g5_12 =>
  thenV (pu (addP y1 32) g5_12) fun y23 g5_13 =>
  thenV (ld1 y23 g5_13) fun y24 g5_14 =>
  thenV (pu (addP y1 33) g5_14) fun y25 g5_15 =>
  thenV (ld1 y25 g5_15) fun y26 g5_16 =>
  thenV (pu (addP y1 34) g5_16) fun y27 g5_17 =>
  thenV (ldN 39 y27 g5_17) fun y28 g5_18 =>
  thenV (pu (addP y1 73) g5_18) fun y29 g5_19 =>
  thenV (ld1 y29 g5_19) fun y30 g5_20 =>
  thenV (bslR 32 (.agg (List.replicate 32 (.int .u8 0)).toArray) 0 [] g5_20) fun y16 g5_21 =>
  thenV (appendA 32 32 y16 y18 g5_21) fun y19 g5_22 =>
  thenV (C 31 [y9, y11, y13, y15, y19] g5_22) fun y20 g5_23 =>
  thenV (C 32 [y22, y24, y26, y28, y30] g5_23) fun y31 g5_24 =>
  thenV (pu (bin Tryd.prog .eql 4 y20 y31) g5_24) fun y32 g5_25 =>
  thenV (some (y32, g5_25)) fun y33 g5_26 =>
  thenV (guardK (bOf y33 == some true) (C 14 [] g5_26) g5_26) fun y34 g5_27 =>
  thenV (match y33 with | .bool t => some (if t then y34 else (.bool false), g5_27) | _ => none) fun y35 g5_28 =>
  thenV (some (y35, g5_28)) fun y2_1 g5_29 =>
  (match (chkR true (ldN 32 y8 g5_22) y9 && (chkR true (ld1 y10 g5_22) y11 && (chkR true (ld1 y12 g5_22) y13 && (chkR true (ldN 39 y14 g5_22) y15 && (chkR true (ldN 32 y21 g5_22) y22 && (chkR true (ldN 32 y21 g5_23) y22 && (chkR true (ld1 y23 g5_22) y24 && (chkR true (ld1 y23 g5_23) y24 && (chkR true (ld1 y25 g5_22) y26 && (chkR true (ld1 y25 g5_23) y26 && (chkR true (ldN 39 y27 g5_22) y28 && (chkR true (ldN 39 y27 g5_23) y28 && (chkR true (ld1 y29 g5_22) y30 && (chkR true (ld1 y29 g5_23) y30 && true)))))))))))))) with
  | true =>
  let h := g5_29
  some (y2_1, h)
  | false => none)
  | _ => none)
theorem t6_eq (C : CallF) (x0 : Value) (h : Heap) : bodyK Tryd.prog C Tryd.f6 [x0] h = t6 C x0 h :=
  (bodyB_eq Tryd.prog C Tryd.f6 [x0] h (by kernel_rfl)).trans (by kernel_rfl)

end Go.Proofs.YtdnahgfgoajmcaaDoor

