/-
  Printed by a program: the text of CRC32C, linked to the program.
  Conditions: none.
  Printed by a program: the texts of the Reader's take and number, linked to the program.
  Conditions: none.
  Printed by a program: texts of the Reader and of the disk's blocks, linked to the program.
  Conditions: none.
-/
import Derived.Test.YtdmnphocgfnlpaaGreatDoorG9
import Derived.Test.YtdmnphocgfnlpaaGreatDoorProg
import Derived.KernelRfl
namespace Go.Proofs.YtdmnphocgfnlpaaGreatDoor
open Go Go.Abs
noncomputable def k126_2 (C : CallF) (e : Env) (h : Heap) : Out := codeK Tryz.prog C (partOf Tryz.f126 [1, 1, 1]) e h (resultsA Tryz.prog Tryz.f126.results.toList) (resultsA Tryz.prog Tryz.f126.results.toList) (fun _ _ _ => none)
noncomputable def b126_4 (C : CallF) (i : Nat) (e : Env) (h : Heap) : Out := if i = 0 then (k126_2 C) e h else (fun _ _ _ => none) i e h
noncomputable def k126_6 (C : CallF) (e : Env) (h : Heap) : Out := codeK Tryz.prog C (partOf Tryz.f126 [1, 1, 1, 1, 1]) e h (resultsA Tryz.prog Tryz.f126.results.toList) (resultsA Tryz.prog Tryz.f126.results.toList) (fun _ _ _ => none)
noncomputable def b126_8 (C : CallF) (i : Nat) (e : Env) (h : Heap) : Out := if i = 4 then (k126_6 C) e h else (fun _ _ _ => none) i e h
noncomputable def k126_11 (C : CallF) (e : Env) (h : Heap) : Option (Ex × Env × Heap) := codeK Tryz.prog C (partOf Tryz.f126 [1, 1, 0, 1, 0, 0, 1, 1, 1]) e h (fun e h => some (Ex.normal, e, h)) (fun e h => some (Ex.ret, e, h)) (fun i e h => some (Ex.exit i, e, h))
noncomputable def b126_12 (C : CallF) (i : Nat) (e : Env) (h : Heap) : Option (Ex × Env × Heap) := if i = 1 then (k126_11 C) e h else (fun i e h => some (Ex.exit i, e, h)) i e h
noncomputable def k126_15 (C : CallF) (e : Env) (h : Heap) : Option (Ex × Env × Heap) := codeK Tryz.prog C (partOf Tryz.f126 [1, 1, 0, 1, 0, 0, 1, 1, 0, 0, 1, 1, 1]) e h (k126_11 C) (fun e h => some (Ex.ret, e, h)) (b126_12 C)
noncomputable def b126_17 (C : CallF) (i : Nat) (e : Env) (h : Heap) : Option (Ex × Env × Heap) := if i = 2 then (k126_15 C) e h else (b126_12 C) i e h
/-- stolon/digest.CRC32C -/
noncomputable def t126 (C : CallF) (x0 : Value) (h : Heap) : Out :=
  thenV (some ((.int .u32 0), h)) fun y2 h =>
  thenV (newC (List.replicate 16 (.int .u32 0)) h) fun y3 h =>
  thenV (some ((.int .i64 0), h)) fun y9 h =>
  endL (iter (codeA Tryz.prog C (partOf Tryz.f126 [1, 1, 0, 1, 0, 0])) rounds (mkF 54 (up (bs [x0]) [(2, y2), (3, y3), (9, y9)])) h) (resultsA Tryz.prog Tryz.f126.results.toList) (b126_4 C)
noncomputable def t126k126_2 (C : CallF) (x : Nat → Value) (h : Heap) : Out :=
  thenV (some ((.int .u32 4294967295), h)) fun y6 h =>
  thenV (some ((x 0), h)) fun y27 h =>
  thenV (pu (lenL y27) h) fun y28 h =>
  thenV (some ((.int .i64 0), h)) fun y29 h =>
  endL (iter (codeA Tryz.prog C (partOf Tryz.f126 [1, 1, 1, 1, 0, 1, 0, 0])) rounds (mkF 54 (up x [(6, y6), (27, y27), (28, y28), (29, y29)])) h) (resultsA Tryz.prog Tryz.f126.results.toList) (b126_8 C)
noncomputable def t126l126_11010 (C : CallF) (x : Nat → Value) (h : Heap) : Option (Ex × Env × Heap) :=
  thenV (pu (bin Tryz.prog .lss 3 (x 9) (.int .i64 16)) h) fun y10 h =>
  (match y10 with
  | .bool true =>
  thenV (some ((x 9), h)) fun y11 h =>
  thenV (some (y11, h)) fun y4 h =>
  thenV (some (y4, h)) fun y12 h =>
  thenV (cvI .u32 y12 h) fun y13 h =>
  thenV (some (y13, h)) fun y5 h =>
  thenV (some ((.int .i64 0), h)) fun y14 h =>
  endL (iter (codeA Tryz.prog C (partOf Tryz.f126 [1, 1, 0, 1, 0, 0, 1, 1, 0, 0, 1, 1, 0, 1, 0, 0])) rounds (mkF 54 (up x [(4, y4), (5, y5), (10, y10), (11, y11), (12, y12), (13, y13), (14, y14)])) h) (fun e h => some (Ex.ret, e, h)) (b126_17 C)
  | .bool false =>
  some (.exit 0, (mkF 54 (up x [(10, y10)])), h)
  | _ => none)
noncomputable def t126k126_6 (C : CallF) (x : Nat → Value) (h : Heap) : Out :=
  thenV (some ((x 6), h)) fun y52 h =>
  thenV (pu (unA .xor y52) h) fun y53 h =>
  thenV (some (y53, h)) fun y2 h =>
  some (y2, h)
noncomputable def t126l126_1111010 (C : CallF) (x : Nat → Value) (h : Heap) : Option (Ex × Env × Heap) :=
  thenV (pu (bin Tryz.prog .lss 3 (x 29) (x 28)) h) fun y30 h =>
  (match y30 with
  | .bool true =>
  thenV (pu (idxS 1 (x 27) (x 29)) h) fun y31 h =>
  thenV (ld1 y31 h) fun y32 h =>
  thenV (some (y32, h)) fun y8 h =>
  thenV (some ((x 6), h)) fun y33 h =>
  thenV (some (y8, h)) fun y34 h =>
  thenV (cvI .u32 y34 h) fun y35 h =>
  thenV (pu (bin Tryz.prog .xor 77 y33 y35) h) fun y36 h =>
  thenV (some (y36, h)) fun y6 h =>
  thenV (some (y6, h)) fun y37 h =>
  thenV (pu (bin Tryz.prog .and 77 y37 (.int .u32 15)) h) fun y38 h =>
  thenV (pu (idxA 16 1 (x 3) y38) h) fun y39 h =>
  thenV (ld1 y39 h) fun y40 h =>
  thenV (some (y6, h)) fun y41 h =>
  thenV (pu (bin Tryz.prog .shr 77 y41 (.int .u64 4)) h) fun y42 h =>
  thenV (pu (bin Tryz.prog .xor 77 y40 y42) h) fun y43 h =>
  thenV (some (y43, h)) fun y6_1 h =>
  thenV (some (y6_1, h)) fun y44 h =>
  thenV (pu (bin Tryz.prog .and 77 y44 (.int .u32 15)) h) fun y45 h =>
  thenV (pu (idxA 16 1 (x 3) y45) h) fun y46 h =>
  thenV (ld1 y46 h) fun y47 h =>
  thenV (some (y6_1, h)) fun y48 h =>
  thenV (pu (bin Tryz.prog .shr 77 y48 (.int .u64 4)) h) fun y49 h =>
  thenV (pu (bin Tryz.prog .xor 77 y47 y49) h) fun y50 h =>
  thenV (some (y50, h)) fun y6_2 h =>
  thenV (pu (bin Tryz.prog .add 3 (x 29) (.int .i64 1)) h) fun y51 h =>
  thenV (some (y51, h)) fun y29 h =>
  some (.normal, (mkF 54 (up x [(6, y6_2), (8, y8), (29, y29), (30, y30), (31, y31), (32, y32), (33, y33), (34, y34), (35, y35), (36, y36), (37, y37), (38, y38), (39, y39), (40, y40), (41, y41), (42, y42), (43, y43), (44, y44), (45, y45), (46, y46), (47, y47), (48, y48), (49, y49), (50, y50), (51, y51)])), h)
  | .bool false =>
  some (.exit 4, (mkF 54 (up x [(30, y30)])), h)
  | _ => none)
noncomputable def t126k126_11 (C : CallF) (x : Nat → Value) (h : Heap) : Option (Ex × Env × Heap) :=
  thenV (pu (bin Tryz.prog .add 3 (x 9) (.int .i64 1)) h) fun y26 h =>
  thenV (some (y26, h)) fun y9 h =>
  some (.normal, (mkF 54 (up x [(9, y9), (26, y26)])), h)
noncomputable def t126k126_15 (C : CallF) (x : Nat → Value) (h : Heap) : Option (Ex × Env × Heap) :=
  thenV (some ((x 4), h)) fun y23 h =>
  thenV (some ((x 5), h)) fun y24 h =>
  thenV (pu (idxA 16 1 (x 3) y23) h) fun y25 h =>
  thenV (stN 1 y25 y24 h) fun _ h =>
  k126_11 C (mkF 54 (up x [(23, y23), (24, y24), (25, y25)])) h
noncomputable def t126l126_110100110011010 (C : CallF) (x : Nat → Value) (h : Heap) : Option (Ex × Env × Heap) :=
  thenV (pu (bin Tryz.prog .lss 3 (x 14) (.int .i64 4)) h) fun y15 h =>
  (match y15 with
  | .bool true =>
  thenV (some ((x 5), h)) fun y16 h =>
  thenV (pu (bin Tryz.prog .shr 77 y16 (.int .u64 1)) h) fun y17 h =>
  thenV (some ((x 5), h)) fun y18 h =>
  thenV (pu (bin Tryz.prog .and 77 y18 (.int .u32 1)) h) fun y19 h =>
  thenV (pu (bin Tryz.prog .mul 77 (.int .u32 2197175160) y19) h) fun y20 h =>
  thenV (pu (bin Tryz.prog .xor 77 y17 y20) h) fun y21 h =>
  thenV (some (y21, h)) fun y5 h =>
  thenV (pu (bin Tryz.prog .add 3 (x 14) (.int .i64 1)) h) fun y22 h =>
  thenV (some (y22, h)) fun y14 h =>
  some (.normal, (mkF 54 (up x [(5, y5), (14, y14), (15, y15), (16, y16), (17, y17), (18, y18), (19, y19), (20, y20), (21, y21), (22, y22)])), h)
  | .bool false =>
  some (.exit 2, (mkF 54 (up x [(15, y15)])), h)
  | _ => none)
theorem t126_eq (C : CallF) (x0 : Value) (h : Heap) : bodyK Tryz.prog C Tryz.f126 [x0] h = t126 C x0 h :=
  (bodyB_eq Tryz.prog C Tryz.f126 [x0] h (by kernel_rfl)).trans (by kernel_rfl)
theorem t126k126_2_eq (C : CallF) (x : Nat → Value) (h : Heap) : k126_2 C (mkF 54 x) h = t126k126_2 C x h :=
  link_partF (b := (partOf Tryz.f126 [1, 1, 1])) (kE := (resultsA Tryz.prog Tryz.f126.results.toList)) (rE := (resultsA Tryz.prog Tryz.f126.results.toList)) (xE := (fun _ _ _ => none)) (T := t126k126_2 C) (fun x h => by kernel_rfl) x h
theorem t126l126_11010_eq (C : CallF) (x : Nat → Value) (h : Heap) : codeA Tryz.prog C (partOf Tryz.f126 [1, 1, 0, 1, 0, 0]) (mkF 54 x) h = t126l126_11010 C x h :=
  link_roundF (T := t126l126_11010 C) (fun x h => by kernel_rfl) x h
theorem t126k126_6_eq (C : CallF) (x : Nat → Value) (h : Heap) : k126_6 C (mkF 54 x) h = t126k126_6 C x h :=
  link_partF (b := (partOf Tryz.f126 [1, 1, 1, 1, 1])) (kE := (resultsA Tryz.prog Tryz.f126.results.toList)) (rE := (resultsA Tryz.prog Tryz.f126.results.toList)) (xE := (fun _ _ _ => none)) (T := t126k126_6 C) (fun x h => by kernel_rfl) x h
theorem t126l126_1111010_eq (C : CallF) (x : Nat → Value) (h : Heap) : codeA Tryz.prog C (partOf Tryz.f126 [1, 1, 1, 1, 0, 1, 0, 0]) (mkF 54 x) h = t126l126_1111010 C x h :=
  link_roundF (T := t126l126_1111010 C) (fun x h => by kernel_rfl) x h
theorem t126k126_11_eq (C : CallF) (x : Nat → Value) (h : Heap) : k126_11 C (mkF 54 x) h = t126k126_11 C x h :=
  link_partF (b := (partOf Tryz.f126 [1, 1, 0, 1, 0, 0, 1, 1, 1])) (kE := (fun e h => some (Ex.normal, e, h))) (rE := (fun e h => some (Ex.ret, e, h))) (xE := (fun i e h => some (Ex.exit i, e, h))) (T := t126k126_11 C) (fun x h => by kernel_rfl) x h
theorem t126k126_15_eq (C : CallF) (x : Nat → Value) (h : Heap) : k126_15 C (mkF 54 x) h = t126k126_15 C x h :=
  link_partF (b := (partOf Tryz.f126 [1, 1, 0, 1, 0, 0, 1, 1, 0, 0, 1, 1, 1])) (kE := (k126_11 C)) (rE := (fun e h => some (Ex.ret, e, h))) (xE := (b126_12 C)) (T := t126k126_15 C) (fun x h => by kernel_rfl) x h
theorem t126l126_110100110011010_eq (C : CallF) (x : Nat → Value) (h : Heap) : codeA Tryz.prog C (partOf Tryz.f126 [1, 1, 0, 1, 0, 0, 1, 1, 0, 0, 1, 1, 0, 1, 0, 0]) (mkF 54 x) h = t126l126_110100110011010 C x h :=
  link_roundF (T := t126l126_110100110011010 C) (fun x h => by kernel_rfl) x h

end Go.Proofs.YtdmnphocgfnlpaaGreatDoor

namespace Go.Proofs.YtdmnphocgfnlpaaGreatDoor
open Go Go.Abs
/-- (*stolon/digest.Reader).take -/
noncomputable def t93 (C : CallF) (x0 x1 : Value) (h : Heap) : Out :=
  thenV (some ((.slice none 0 0), h)) fun y4 h =>
  thenV (some (x0, h)) fun y6 h =>
  thenV (pu (bin Tryz.prog .eql 82 y6 (.pointer none)) h) fun y7 h =>
  thenV (some (y7, h)) fun y8 h =>
  thenV (guardK (bOf y8 == some false) (some (x0, h)) h) fun y9 h =>
  thenV (guardK (bOf y8 == some false) (pu (nilCheckA y9) h) h) fun y10 h =>
  thenV (guardK (bOf y8 == some false) (pu (addP y10 1) h) h) fun y11 h =>
  thenV (guardK (bOf y8 == some false) (ld1 y11 h) h) fun y12 h =>
  thenV (guardK (bOf y8 == some false) (pu (bin Tryz.prog .neq 31 y12 (.int .i64 0)) h) h) fun y13 h =>
  thenV (match y8 with | .bool t => some (if t then (.bool true) else y13, h) | _ => none) fun y14 h =>
  (match y14 with
  | .bool true =>
  thenV (some ((.slice none 0 0), h)) fun y4_1 h =>
  some (y4_1, h)
  | .bool false =>
  thenV (some (x1, h)) fun y16 h =>
  thenV (pu (bin Tryz.prog .lss 3 y16 (.int .i64 0)) h) fun y17 h =>
  thenV (some (y17, h)) fun y15 h =>
  (match y15 with
  | .bool true =>
  thenV (some (x0, h)) fun y18 h =>
  thenV (pu (nilCheckA y18) h) fun y19 h =>
  thenV (pu (addP y19 1) h) fun y20 h =>
  thenV (stN 1 y20 (.int .i64 2) h) fun _ h =>
  thenV (some ((.slice none 0 0), h)) fun y4_1 h =>
  some (y4_1, h)
  | .bool false =>
  thenV (some (x1, h)) fun y22 h =>
  thenV (some (x0, h)) fun y23 h =>
  thenV (pu (nilCheckA y23) h) fun y24 h =>
  thenV (pu (addP y24 0) h) fun y25 h =>
  thenV (ld1 y25 h) fun y26 h =>
  thenV (pu (lenL y26) h) fun y27 h =>
  thenV (pu (bin Tryz.prog .gtr 3 y22 y27) h) fun y28 h =>
  thenV (some (y28, h)) fun y21 h =>
  (match y21 with
  | .bool true =>
  thenV (some (x0, h)) fun y29 h =>
  thenV (pu (nilCheckA y29) h) fun y30 h =>
  thenV (pu (addP y30 1) h) fun y31 h =>
  thenV (stN 1 y31 (.int .i64 4) h) fun _ h =>
  thenV (some ((.slice none 0 0), h)) fun y4_1 h =>
  some (y4_1, h)
  | .bool false =>
  thenV (some (x0, h)) fun y32 h =>
  thenV (pu (nilCheckA y32) h) fun y33 h =>
  thenV (pu (addP y33 0) h) fun y34 h =>
  thenV (ld1 y34 h) fun y35 h =>
  thenV (some (x1, h)) fun y36 h =>
  thenV (pu (slR 1 y35 none (some y36) none) h) fun y37 h =>
  thenV (some (y37, h)) fun y5 h =>
  thenV (some (x0, h)) fun y38 h =>
  thenV (some (x0, h)) fun y39 h =>
  thenV (pu (nilCheckA y39) h) fun y40 h =>
  thenV (pu (addP y40 0) h) fun y41 h =>
  thenV (ld1 y41 h) fun y42 h =>
  thenV (some (x1, h)) fun y43 h =>
  thenV (pu (slR 1 y42 (some y43) none none) h) fun y44 h =>
  thenV (pu (nilCheckA y38) h) fun y45 h =>
  thenV (pu (addP y45 0) h) fun y46 h =>
  thenV (stN 1 y46 y44 h) fun _ h =>
  thenV (some (y5, h)) fun y47 h =>
  thenV (some (y47, h)) fun y4_1 h =>
  some (y4_1, h)
  | _ => none)
  | _ => none)
  | _ => none)
theorem t93_eq (C : CallF) (x0 x1 : Value) (h : Heap) : bodyK Tryz.prog C Tryz.f93 [x0, x1] h = t93 C x0 x1 h :=
  (bodyB_eq Tryz.prog C Tryz.f93 [x0, x1] h (by kernel_rfl)).trans (by kernel_rfl)


noncomputable def k92_2 (C : CallF) (e : Env) (h : Heap) : Out := codeK Tryz.prog C (partOf Tryz.f92 [1, 1, 1]) e h (resultsA Tryz.prog Tryz.f92.results.toList) (resultsA Tryz.prog Tryz.f92.results.toList) (fun _ _ _ => none)
noncomputable def b92_4 (C : CallF) (i : Nat) (e : Env) (h : Heap) : Out := if i = 0 then (k92_2 C) e h else (fun _ _ _ => none) i e h
/-- (*stolon/digest.Reader).number -/
noncomputable def t92 (C : CallF) (x0 x1 : Value) (h : Heap) : Out :=
  thenV (some ((.int .u64 0), h)) fun y4 h =>
  thenV (some ((.int .u64 0), h)) fun y5 h =>
  thenV (some (x0, h)) fun y8 h =>
  thenV (some (x1, h)) fun y9 h =>
  thenV (C 93 [y8, y9] h) fun y10 h =>
  thenV (pu (lenL y10) h) fun y11 h =>
  thenV (some ((.int .i64 0), h)) fun y12 h =>
  endL (iter (codeA Tryz.prog C (partOf Tryz.f92 [1, 1, 0, 1, 0, 0])) rounds (mkF 23 (up (bs [x0, x1]) [(4, y4), (5, y5), (8, y8), (9, y9), (10, y10), (11, y11), (12, y12)])) h) (resultsA Tryz.prog Tryz.f92.results.toList) (b92_4 C)
noncomputable def t92k92_2 (C : CallF) (x : Nat → Value) (h : Heap) : Out :=
  thenV (some ((x 5), h)) fun y22 h =>
  thenV (some (y22, h)) fun y4 h =>
  some (y4, h)
noncomputable def t92l92_11010 (C : CallF) (x : Nat → Value) (h : Heap) : Option (Ex × Env × Heap) :=
  thenV (pu (bin Tryz.prog .lss 3 (x 12) (x 11)) h) fun y13 h =>
  (match y13 with
  | .bool true =>
  thenV (pu (idxS 1 (x 10) (x 12)) h) fun y14 h =>
  thenV (ld1 y14 h) fun y15 h =>
  thenV (some (y15, h)) fun y7 h =>
  thenV (some ((x 5), h)) fun y16 h =>
  thenV (pu (bin Tryz.prog .shl 27 y16 (.int .u64 8)) h) fun y17 h =>
  thenV (some (y7, h)) fun y18 h =>
  thenV (cvI .u64 y18 h) fun y19 h =>
  thenV (pu (bin Tryz.prog .or 27 y17 y19) h) fun y20 h =>
  thenV (some (y20, h)) fun y5 h =>
  thenV (pu (bin Tryz.prog .add 3 (x 12) (.int .i64 1)) h) fun y21 h =>
  thenV (some (y21, h)) fun y12 h =>
  some (.normal, (mkF 23 (up x [(5, y5), (7, y7), (12, y12), (13, y13), (14, y14), (15, y15), (16, y16), (17, y17), (18, y18), (19, y19), (20, y20), (21, y21)])), h)
  | .bool false =>
  some (.exit 0, (mkF 23 (up x [(13, y13)])), h)
  | _ => none)
theorem t92_eq (C : CallF) (x0 x1 : Value) (h : Heap) : bodyK Tryz.prog C Tryz.f92 [x0, x1] h = t92 C x0 x1 h :=
  (bodyB_eq Tryz.prog C Tryz.f92 [x0, x1] h (by kernel_rfl)).trans (by kernel_rfl)
theorem t92k92_2_eq (C : CallF) (x : Nat → Value) (h : Heap) : k92_2 C (mkF 23 x) h = t92k92_2 C x h :=
  link_partF (b := (partOf Tryz.f92 [1, 1, 1])) (kE := (resultsA Tryz.prog Tryz.f92.results.toList)) (rE := (resultsA Tryz.prog Tryz.f92.results.toList)) (xE := (fun _ _ _ => none)) (T := t92k92_2 C) (fun x h => by kernel_rfl) x h
theorem t92l92_11010_eq (C : CallF) (x : Nat → Value) (h : Heap) : codeA Tryz.prog C (partOf Tryz.f92 [1, 1, 0, 1, 0, 0]) (mkF 23 x) h = t92l92_11010 C x h :=
  link_roundF (T := t92l92_11010 C) (fun x h => by kernel_rfl) x h


end Go.Proofs.YtdmnphocgfnlpaaGreatDoor

namespace Go.Proofs.YtdmnphocgfnlpaaGreatDoor
open Go Go.Abs
/-- slices.Clone[[]byte,byte] -/
noncomputable def t81 (C : CallF) (x0 : Value) (h : Heap) : Out :=
  thenV (some ((.slice none 0 0), h)) fun y2 h =>
  thenV (some (x0, h)) fun y3 h =>
  thenV (pu (bin Tryz.prog .eql 28 y3 (.slice none 0 0)) h) fun y4 h =>
  (match y4 with
  | .bool true =>
  thenV (some ((.slice none 0 0), h)) fun y2_1 h =>
  some (y2_1, h)
  | .bool false =>
  thenV (bslR 1 (.int .u8 0) 0 [] h) fun y5 h =>
  thenV (some (x0, h)) fun y6 h =>
  thenV (appendA 1 1 y5 y6 h) fun y7 h =>
  thenV (some (y7, h)) fun y2_1 h =>
  some (y2_1, h)
  | _ => none)
theorem t81_eq (C : CallF) (x0 : Value) (h : Heap) : bodyK Tryz.prog C Tryz.f81 [x0] h = t81 C x0 h :=
  (bodyB_eq Tryz.prog C Tryz.f81 [x0] h (by kernel_rfl)).trans (by kernel_rfl)


/-- stolon/digest.NewReader -/
noncomputable def t45 (C : CallF) (x0 : Value) (h : Heap) : Out :=
  thenV (some ((.pointer none), h)) fun y2 h =>
  thenV (some (x0, h)) fun y3 h =>
  thenV (C 81 [y3] h) fun y4 h =>
  thenV (pu (bldR [(.slice none 0 0), (.int .i64 0)] [(0, 1, y4)]) h) fun y5 h =>
  thenV (box y5 h) fun y6 h =>
  thenV (some (y6, h)) fun y2_1 h =>
  some (y2_1, h)
theorem t45_eq (C : CallF) (x0 : Value) (h : Heap) : bodyK Tryz.prog C Tryz.f45 [x0] h = t45 C x0 h :=
  (bodyB_eq Tryz.prog C Tryz.f45 [x0] h (by kernel_rfl)).trans (by kernel_rfl)


/-- (*stolon/digest.Reader).U8 -/
noncomputable def t46 (C : CallF) (x0 : Value) (h : Heap) : Out :=
  thenV (some ((.int .u8 0), h)) fun y2 h =>
  thenV (some (x0, h)) fun y3 h =>
  thenV (C 92 [y3, (.int .i64 1)] h) fun y4 h =>
  thenV (cvI .u8 y4 h) fun y5 h =>
  thenV (some (y5, h)) fun y2_1 h =>
  some (y2_1, h)
theorem t46_eq (C : CallF) (x0 : Value) (h : Heap) : bodyK Tryz.prog C Tryz.f46 [x0] h = t46 C x0 h :=
  (bodyB_eq Tryz.prog C Tryz.f46 [x0] h (by kernel_rfl)).trans (by kernel_rfl)


/-- (*stolon/digest.Reader).U16 -/
noncomputable def t47 (C : CallF) (x0 : Value) (h : Heap) : Out :=
  thenV (some ((.int .u16 0), h)) fun y2 h =>
  thenV (some (x0, h)) fun y3 h =>
  thenV (C 92 [y3, (.int .i64 2)] h) fun y4 h =>
  thenV (cvI .u16 y4 h) fun y5 h =>
  thenV (some (y5, h)) fun y2_1 h =>
  some (y2_1, h)
theorem t47_eq (C : CallF) (x0 : Value) (h : Heap) : bodyK Tryz.prog C Tryz.f47 [x0] h = t47 C x0 h :=
  (bodyB_eq Tryz.prog C Tryz.f47 [x0] h (by kernel_rfl)).trans (by kernel_rfl)


/-- (*stolon/digest.Reader).U32 -/
noncomputable def t48 (C : CallF) (x0 : Value) (h : Heap) : Out :=
  thenV (some ((.int .u32 0), h)) fun y2 h =>
  thenV (some (x0, h)) fun y3 h =>
  thenV (C 92 [y3, (.int .i64 4)] h) fun y4 h =>
  thenV (cvI .u32 y4 h) fun y5 h =>
  thenV (some (y5, h)) fun y2_1 h =>
  some (y2_1, h)
theorem t48_eq (C : CallF) (x0 : Value) (h : Heap) : bodyK Tryz.prog C Tryz.f48 [x0] h = t48 C x0 h :=
  (bodyB_eq Tryz.prog C Tryz.f48 [x0] h (by kernel_rfl)).trans (by kernel_rfl)


/-- (*stolon/digest.Reader).Err -/
noncomputable def t49 (C : CallF) (x0 : Value) (h : Heap) : Out :=
  thenV (some ((.int .i64 0), h)) fun y2 h =>
  thenV (some (x0, h)) fun y3 h =>
  thenV (pu (bin Tryz.prog .eql 82 y3 (.pointer none)) h) fun y4 h =>
  (match y4 with
  | .bool true =>
  thenV (some ((.int .i64 1), h)) fun y2_1 h =>
  some (y2_1, h)
  | .bool false =>
  thenV (some (x0, h)) fun y5 h =>
  thenV (pu (nilCheckA y5) h) fun y6 h =>
  thenV (pu (addP y6 1) h) fun y7 h =>
  thenV (ld1 y7 h) fun y8 h =>
  thenV (some (y8, h)) fun y2_1 h =>
  some (y2_1, h)
  | _ => none)
theorem t49_eq (C : CallF) (x0 : Value) (h : Heap) : bodyK Tryz.prog C Tryz.f49 [x0] h = t49 C x0 h :=
  (bodyB_eq Tryz.prog C Tryz.f49 [x0] h (by kernel_rfl)).trans (by kernel_rfl)


/-- (*stolon/digest.Reader).U64 -/
noncomputable def t50 (C : CallF) (x0 : Value) (h : Heap) : Out :=
  thenV (some ((.int .u64 0), h)) fun y2 h =>
  thenV (some (x0, h)) fun y3 h =>
  thenV (C 92 [y3, (.int .i64 8)] h) fun y4 h =>
  thenV (some (y4, h)) fun y2_1 h =>
  some (y2_1, h)
theorem t50_eq (C : CallF) (x0 : Value) (h : Heap) : bodyK Tryz.prog C Tryz.f50 [x0] h = t50 C x0 h :=
  (bodyB_eq Tryz.prog C Tryz.f50 [x0] h (by kernel_rfl)).trans (by kernel_rfl)


/-- (*stolon/digest.Reader).Raw -/
noncomputable def t180 (C : CallF) (x0 x1 : Value) (h : Heap) : Out :=
  thenV (some ((.slice none 0 0), h)) fun y4 h =>
  thenV (some (x0, h)) fun y5 h =>
  thenV (some (x1, h)) fun y6 h =>
  thenV (C 93 [y5, y6] h) fun y7 h =>
  thenV (C 81 [y7] h) fun y8 h =>
  thenV (some (y8, h)) fun y4_1 h =>
  some (y4_1, h)
theorem t180_eq (C : CallF) (x0 x1 : Value) (h : Heap) : bodyK Tryz.prog C Tryz.f180 [x0, x1] h = t180 C x0 x1 h :=
  (bodyB_eq Tryz.prog C Tryz.f180 [x0, x1] h (by kernel_rfl)).trans (by kernel_rfl)


/-- (*stolon/disk.Disk).area -/
noncomputable def t319 (C : CallF) (x0 : Value) (h : Heap) : Out :=
  thenV (some ((.int .i64 0), h)) fun y2 h =>
  thenV (some (x0, h)) fun y3 h =>
  thenV (pu (nilCheckA y3) h) fun y4 h =>
  thenV (pu (addP y4 0) h) fun y5 h =>
  thenV (ld1 y5 h) fun y6 h =>
  thenV (pu (lenL y6) h) fun y7 h =>
  thenV (pu (bin Tryz.prog .sub 3 y7 (.int .i64 2)) h) fun y8 h =>
  thenV (pu (bin Tryz.prog .quo 3 y8 (.int .i64 2)) h) fun y9 h =>
  thenV (some (y9, h)) fun y2_1 h =>
  some (y2_1, h)
theorem t319_eq (C : CallF) (x0 : Value) (h : Heap) : bodyK Tryz.prog C Tryz.f319 [x0] h = t319 C x0 h :=
  (bodyB_eq Tryz.prog C Tryz.f319 [x0] h (by kernel_rfl)).trans (by kernel_rfl)


/-- (*stolon/disk.Disk).open -/
noncomputable def t435 (C : CallF) (x0 x1 : Value) (h : Heap) : Out :=
  thenV (some ((.pointer none), h)) fun y4 h =>
  thenV (some ((.bool false), h)) fun y5 h =>
  thenV (some (x0, h)) fun y8 h =>
  thenV (pu (nilCheckA y8) h) fun y9 h =>
  thenV (pu (addP y9 0) h) fun y10 h =>
  thenV (ld1 y10 h) fun y11 h =>
  thenV (some (x1, h)) fun y12 h =>
  thenV (pu (idxS 128 y11 y12) h) fun y13 h =>
  thenV (pu (sliceArr 128 1 y13 none none none) h) fun y14 h =>
  thenV (C 45 [y14] h) fun y15 h =>
  thenV (some (y15, h)) fun y6 h =>
  thenV (some (y6, h)) fun y16 h =>
  thenV (C 48 [y16] h) fun y17 h =>
  thenV (some (y17, h)) fun y7 h =>
  thenV (some (y6, h)) fun y18 h =>
  thenV (some (y7, h)) fun y19 h =>
  thenV (some (x0, h)) fun y20 h =>
  thenV (pu (nilCheckA y20) h) fun y21 h =>
  thenV (pu (addP y21 0) h) fun y22 h =>
  thenV (ld1 y22 h) fun y23 h =>
  thenV (some (x1, h)) fun y24 h =>
  thenV (pu (idxS 128 y23 y24) h) fun y25 h =>
  thenV (pu (sliceArr 128 1 y25 (some (.int .i64 4)) none none) h) fun y26 h =>
  thenV (C 126 [y26] h) fun y27 h =>
  thenV (pu (bin Tryz.prog .eql 77 y19 y27) h) fun y28 h =>
  thenV (some (y18, h)) fun y4_1 h =>
  thenV (some (y28, h)) fun y5_1 h =>
  some (.tuple #[y4_1, y5_1], h)
theorem t435_eq (C : CallF) (x0 x1 : Value) (h : Heap) : bodyK Tryz.prog C Tryz.f435 [x0, x1] h = t435 C x0 x1 h :=
  (bodyB_eq Tryz.prog C Tryz.f435 [x0, x1] h (by kernel_rfl)).trans (by kernel_rfl)


/-- (*stolon/disk.Disk).log -/
noncomputable def t368 (C : CallF) (x0 x1 x2 : Value) (h : Heap) : Out :=
  thenV (newC [(.int .u64 0), (.int .i64 0), (.int .i64 0), (.slice none 0 0)] h) fun y6 h =>
  thenV (some ((.bool false), h)) fun y7 h =>
  thenV (some (x0, h)) fun y14 h =>
  thenV (some (x1, h)) fun y15 h =>
  thenV (some (x0, h)) fun y16 h =>
  thenV (C 319 [y16] h) fun y17 h =>
  thenV (pu (bin Tryz.prog .mul 3 y15 y17) h) fun y18 h =>
  thenV (pu (bin Tryz.prog .add 3 (.int .i64 2) y18) h) fun y19 h =>
  thenV (some (x2, h)) fun y20 h =>
  thenV (pu (bin Tryz.prog .add 3 y19 y20) h) fun y21 h =>
  thenV (C 435 [y14, y21] h) fun y22 h =>
  thenV (some (y22, h)) fun y13 h =>
  thenV (pu (extractA y13 0) h) fun y23 h =>
  thenV (pu (extractA y13 1) h) fun y24 h =>
  thenV (some (y23, h)) fun y8 h =>
  thenV (some (y24, h)) fun y9 h =>
  thenV (some (y8, h)) fun y25 h =>
  thenV (C 50 [y25] h) fun y26 h =>
  thenV (pu (bldR [(.int .u64 0), (.int .i64 0), (.int .i64 0), (.slice none 0 0)] [(0, 1, y26)]) h) fun y27 h =>
  thenV (newC [(.int .u64 0), (.int .i64 0), (.int .i64 0), (.slice none 0 0)] h) fun y10 h =>
  thenV (stN 4 y10 y27 h) fun _ h =>
  thenV (some (y8, h)) fun y28 h =>
  thenV (C 48 [y28] h) fun y29 h =>
  thenV (cvI .i64 y29 h) fun y30 h =>
  thenV (some (y30, h)) fun y11 h =>
  thenV (some (y8, h)) fun y31 h =>
  thenV (C 47 [y31] h) fun y32 h =>
  thenV (cvI .i64 y32 h) fun y33 h =>
  thenV (some (y8, h)) fun y34 h =>
  thenV (C 47 [y34] h) fun y35 h =>
  thenV (cvI .i64 y35 h) fun y36 h =>
  thenV (pu (addP y10 1) h) fun y37 h =>
  thenV (stN 1 y37 y33 h) fun _ h =>
  thenV (pu (addP y10 2) h) fun y38 h =>
  thenV (stN 1 y38 y36 h) fun _ h =>
  thenV (some (y8, h)) fun y39 h =>
  thenV (some (y8, h)) fun y40 h =>
  thenV (C 47 [y40] h) fun y41 h =>
  thenV (cvI .i64 y41 h) fun y42 h =>
  thenV (C 180 [y39, y42] h) fun y43 h =>
  thenV (pu (addP y10 3) h) fun y44 h =>
  thenV (stN 1 y44 y43 h) fun _ h =>
  thenV (some (y9, h)) fun y45 h =>
  thenV (some (y45, h)) fun y46 h =>
  thenV (guardK (bOf y46 == some true) (some (y11, h)) h) fun y47 h =>
  thenV (guardK (bOf y46 == some true) (some (x2, h)) h) fun y48 h =>
  thenV (guardK (bOf y46 == some true) (pu (bin Tryz.prog .eql 3 y47 y48) h) h) fun y49 h =>
  thenV (match y46 with | .bool t => some (if t then y49 else (.bool false), h) | _ => none) fun y50 h =>
  thenV (some (y50, h)) fun y51 h =>
  thenV (guardK (bOf y51 == some true) (pu (addP y10 2) h) h) fun y52 h =>
  thenV (guardK (bOf y51 == some true) (ld1 y52 h) h) fun y53 h =>
  thenV (guardK (bOf y51 == some true) (pu (bin Tryz.prog .geq 3 y53 (.int .i64 1)) h) h) fun y54 h =>
  thenV (match y51 with | .bool t => some (if t then y54 else (.bool false), h) | _ => none) fun y55 h =>
  thenV (some (y55, h)) fun y56 h =>
  thenV (guardK (bOf y56 == some true) (pu (addP y10 1) h) h) fun y57 h =>
  thenV (guardK (bOf y56 == some true) (ld1 y57 h) h) fun y58 h =>
  thenV (guardK (bOf y56 == some true) (pu (addP y10 2) h) h) fun y59 h =>
  thenV (guardK (bOf y56 == some true) (ld1 y59 h) h) fun y60 h =>
  thenV (guardK (bOf y56 == some true) (pu (bin Tryz.prog .lss 3 y58 y60) h) h) fun y61 h =>
  thenV (match y56 with | .bool t => some (if t then y61 else (.bool false), h) | _ => none) fun y62 h =>
  thenV (some (y62, h)) fun y63 h =>
  thenV (guardK (bOf y63 == some true) (some (y8, h)) h) fun y64 h =>
  thenV (guardK (bOf y63 == some true) (C 49 [y64] h) h) fun y65 h =>
  thenV (guardK (bOf y63 == some true) (pu (bin Tryz.prog .eql 31 y65 (.int .i64 0)) h) h) fun y66 h =>
  thenV (match y63 with | .bool t => some (if t then y66 else (.bool false), h) | _ => none) fun y67 h =>
  thenV (some (y67, h)) fun y12 h =>
  thenV (ldN 4 y10 h) fun y68 h =>
  thenV (some (y12, h)) fun y69 h =>
  thenV (stN 4 y6 y68 h) fun _ h =>
  thenV (some (y69, h)) fun y7_1 h =>
  resultsA Tryz.prog Tryz.f368.results.toList (mkF 70 (up (bs [x0, x1, x2]) [(6, y6), (7, y7_1), (8, y8), (9, y9), (10, y10), (11, y11), (12, y12), (13, y13), (14, y14), (15, y15), (16, y16), (17, y17), (18, y18), (19, y19), (20, y20), (21, y21), (22, y22), (23, y23), (24, y24), (25, y25), (26, y26), (27, y27), (28, y28), (29, y29), (30, y30), (31, y31), (32, y32), (33, y33), (34, y34), (35, y35), (36, y36), (37, y37), (38, y38), (39, y39), (40, y40), (41, y41), (42, y42), (43, y43), (44, y44), (45, y45), (46, y46), (47, y47), (48, y48), (49, y49), (50, y50), (51, y51), (52, y52), (53, y53), (54, y54), (55, y55), (56, y56), (57, y57), (58, y58), (59, y59), (60, y60), (61, y61), (62, y62), (63, y63), (64, y64), (65, y65), (66, y66), (67, y67), (68, y68), (69, y69)])) h
theorem t368_eq (C : CallF) (x0 x1 x2 : Value) (h : Heap) : bodyK Tryz.prog C Tryz.f368 [x0, x1, x2] h = t368 C x0 x1 x2 h :=
  (bodyB_eq Tryz.prog C Tryz.f368 [x0, x1, x2] h (by kernel_rfl)).trans (by kernel_rfl)



end Go.Proofs.YtdmnphocgfnlpaaGreatDoor

