/-
  Printed by a program: the texts of some of the seat's functions, each linked to the program.
  Conditions: none.
-/
import Derived.Test.YtcmfgmhadeeieaaT1
import Derived.Test.YtcmfgmhadeeieaaProg
import Derived.KernelRfl
namespace Go.Proofs.Ytcmfgmhadeeieaa
open Go Go.Abs
/-- stolon/disk.Cost -/
noncomputable def t15 (C : CallF) (x0 : Value) (h : Heap) : Out :=
  thenV (some ((.int .i64 0), h)) fun y2 h =>
  thenV (some (x0, h)) fun y3 h =>
  thenV (pu (bin Try.prog .leq 3 y3 (.int .i64 106)) h) fun y4 h =>
  (match y4 with
  | .bool true =>
  thenV (some ((.int .i64 1), h)) fun y2_1 h =>
  some (y2_1, h)
  | .bool false =>
  thenV (some (x0, h)) fun y5 h =>
  thenV (pu (bin Try.prog .sub 3 y5 (.int .i64 1)) h) fun y6 h =>
  thenV (pu (bin Try.prog .quo 3 y6 (.int .i64 106)) h) fun y7 h =>
  thenV (pu (bin Try.prog .add 3 y7 (.int .i64 1)) h) fun y8 h =>
  thenV (some (y8, h)) fun y2_1 h =>
  some (y2_1, h)
  | _ => none)
theorem t15_eq (C : CallF) (x0 : Value) (h : Heap) : bodyK Try.prog C Try.f15 [x0] h = t15 C x0 h :=
  (bodyB_eq Try.prog C Try.f15 [x0] h (by kernel_rfl)).trans (by kernel_rfl)

/-- stolon/disk.NewDisk -/
noncomputable def t18 (C : CallF) (x0 : Value) (h : Heap) : Out :=
  thenV (some ((.pointer none), h)) fun y2 h =>
  thenV (some ((.int .i64 0), h)) fun y3 h =>
  thenV (some (x0, h)) fun y4 h =>
  thenV (pu (bin Try.prog .lss 3 y4 (.int .i64 4)) h) fun y5 h =>
  thenV (some (y5, h)) fun y6 h =>
  thenV (guardK (bOf y6 == some false) (some (x0, h)) h) fun y7 h =>
  thenV (guardK (bOf y6 == some false) (pu (bin Try.prog .gtr 3 y7 (.int .i64 4096)) h) h) fun y8 h =>
  thenV (match y6 with | .bool t => some (if t then (.bool true) else y8, h) | _ => none) fun y9 h =>
  (match y9 with
  | .bool true =>
  thenV (some ((.pointer none), h)) fun y2_1 h =>
  thenV (some ((.int .i64 2), h)) fun y3_1 h =>
  some (.tuple #[y2_1, y3_1], h)
  | .bool false =>
  thenV (some (x0, h)) fun y10 h =>
  thenV (mkR 128 128 (.agg (List.replicate 128 (.int .u8 0)).toArray) y10 y10 h) fun y11 h =>
  thenV (pu (bldR [(.slice none 0 0), (.bool false), (.bool false), (.int .i64 0), (.int .i64 0), (.int .i64 0)] [(0, 1, y11)]) h) fun y12 h =>
  thenV (box y12 h) fun y13 h =>
  thenV (some (y13, h)) fun y2_1 h =>
  thenV (some ((.int .i64 0), h)) fun y3_1 h =>
  some (.tuple #[y2_1, y3_1], h)
  | _ => none)
theorem t18_eq (C : CallF) (x0 : Value) (h : Heap) : bodyK Try.prog C Try.f18 [x0] h = t18 C x0 h :=
  (bodyB_eq Try.prog C Try.f18 [x0] h (by kernel_rfl)).trans (by kernel_rfl)

/-- (*stolon/disk.Disk).Write -/
noncomputable def t19 (C : CallF) (x0 x1 x2 : Value) (h : Heap) : Out :=
  thenV (some ((.int .i64 0), h)) fun y6 h =>
  thenV (some (x0, h)) fun y8 h =>
  thenV (some (x1, h)) fun y9 h =>
  thenV (C 53 [y8, y9] h) fun y10 h =>
  thenV (some (y10, h)) fun y7 h =>
  thenV (some (y7, h)) fun y11 h =>
  thenV (pu (bin Try.prog .neq 28 y11 (.int .i64 0)) h) fun y12 h =>
  (match y12 with
  | .bool true =>
  thenV (some (y7, h)) fun y13 h =>
  thenV (some (y13, h)) fun y6_1 h =>
  some (y6_1, h)
  | .bool false =>
  thenV (some (x2, h)) fun y14 h =>
  thenV (pu (lenL y14) h) fun y15 h =>
  thenV (pu (bin Try.prog .neq 3 y15 (.int .i64 128)) h) fun y16 h =>
  (match y16 with
  | .bool true =>
  thenV (some ((.int .i64 10), h)) fun y6_1 h =>
  some (y6_1, h)
  | .bool false =>
  thenV (some (x0, h)) fun y17 h =>
  thenV (pu (nilCheckA y17) h) fun y18 h =>
  thenV (pu (addP y18 2) h) fun y19 h =>
  thenV (ld1 y19 h) fun y20 h =>
  thenV (pu (unA .not y20) h) fun y21 h =>
  (match y21 with
  | .bool true =>
  thenV (some (x0, h)) fun y22 h =>
  thenV (pu (nilCheckA y22) h) fun y23 h =>
  thenV (pu (addP y23 0) h) fun y24 h =>
  thenV (ld1 y24 h) fun y25 h =>
  thenV (some (x1, h)) fun y26 h =>
  thenV (pu (idxS 128 y25 y26) h) fun y27 h =>
  thenV (pu (sliceArr 128 1 y27 none none none) h) fun y28 h =>
  thenV (some (x2, h)) fun y29 h =>
  thenV (copyA 1 y28 y29 h) fun y30 h =>
  thenV (some ((.int .i64 0), h)) fun y6_1 h =>
  some (y6_1, h)
  | .bool false =>
  thenV (some (x0, h)) fun y31 h =>
  thenV (pu (nilCheckA y31) h) fun y32 h =>
  thenV (pu (addP y32 3) h) fun y33 h =>
  thenV (ld1 y33 h) fun y34 h =>
  thenV (pu (bin Try.prog .eql 3 y34 (.int .i64 0)) h) fun y35 h =>
  (match y35 with
  | .bool true =>
  thenV (some (x0, h)) fun y36 h =>
  thenV (pu (nilCheckA y36) h) fun y37 h =>
  thenV (pu (addP y37 0) h) fun y38 h =>
  thenV (ld1 y38 h) fun y39 h =>
  thenV (some (x1, h)) fun y40 h =>
  thenV (pu (idxS 128 y39 y40) h) fun y41 h =>
  thenV (pu (sliceArr 128 1 y41 none none none) h) fun y42 h =>
  thenV (some (x2, h)) fun y43 h =>
  thenV (some (x0, h)) fun y44 h =>
  thenV (pu (nilCheckA y44) h) fun y45 h =>
  thenV (pu (addP y45 4) h) fun y46 h =>
  thenV (ld1 y46 h) fun y47 h =>
  thenV (pu (slR 1 y43 none (some y47) none) h) fun y48 h =>
  thenV (copyA 1 y42 y48 h) fun y49 h =>
  thenV (some (x0, h)) fun y50 h =>
  thenV (C 32 [y50] h) fun y51 h =>
  thenV (some ((.int .i64 9), h)) fun y6_1 h =>
  some (y6_1, h)
  | .bool false =>
  thenV (some (x0, h)) fun y52 h =>
  thenV (pu (nilCheckA y52) h) fun y53 h =>
  thenV (pu (addP y53 3) h) fun y54 h =>
  thenV (ld1 y54 h) fun y55 h =>
  thenV (pu (bin Try.prog .sub 3 y55 (.int .i64 1)) h) fun y56 h =>
  thenV (pu (nilCheckA y52) h) fun y57 h =>
  thenV (pu (addP y57 3) h) fun y58 h =>
  thenV (stN 1 y58 y56 h) fun _ h =>
  thenV (some (x0, h)) fun y59 h =>
  thenV (pu (nilCheckA y59) h) fun y60 h =>
  thenV (pu (addP y60 0) h) fun y61 h =>
  thenV (ld1 y61 h) fun y62 h =>
  thenV (some (x1, h)) fun y63 h =>
  thenV (pu (idxS 128 y62 y63) h) fun y64 h =>
  thenV (pu (sliceArr 128 1 y64 none none none) h) fun y65 h =>
  thenV (some (x2, h)) fun y66 h =>
  thenV (copyA 1 y65 y66 h) fun y67 h =>
  thenV (some ((.int .i64 0), h)) fun y6_1 h =>
  some (y6_1, h)
  | _ => none)
  | _ => none)
  | _ => none)
  | _ => none)
theorem t19_eq (C : CallF) (x0 x1 x2 : Value) (h : Heap) : bodyK Try.prog C Try.f19 [x0, x1, x2] h = t19 C x0 x1 x2 h :=
  (bodyB_eq Try.prog C Try.f19 [x0, x1, x2] h (by kernel_rfl)).trans (by kernel_rfl)

/-- (*stolon/disk.Disk).Read -/
noncomputable def t20 (C : CallF) (x0 x1 : Value) (h : Heap) : Out :=
  thenV (some ((.slice none 0 0), h)) fun y4 h =>
  thenV (some ((.int .i64 0), h)) fun y5 h =>
  thenV (some (x0, h)) fun y8 h =>
  thenV (some (x1, h)) fun y9 h =>
  thenV (C 53 [y8, y9] h) fun y10 h =>
  thenV (some (y10, h)) fun y6 h =>
  thenV (some (y6, h)) fun y11 h =>
  thenV (pu (bin Try.prog .neq 28 y11 (.int .i64 0)) h) fun y12 h =>
  (match y12 with
  | .bool true =>
  thenV (some (y6, h)) fun y13 h =>
  thenV (some ((.slice none 0 0), h)) fun y4_1 h =>
  thenV (some (y13, h)) fun y5_1 h =>
  some (.tuple #[y4_1, y5_1], h)
  | .bool false =>
  thenV (some (x0, h)) fun y14 h =>
  thenV (pu (nilCheckA y14) h) fun y15 h =>
  thenV (pu (addP y15 0) h) fun y16 h =>
  thenV (ld1 y16 h) fun y17 h =>
  thenV (some (x1, h)) fun y18 h =>
  thenV (pu (idxS 128 y17 y18) h) fun y19 h =>
  thenV (ldN 128 y19 h) fun y20 h =>
  thenV (newC (List.replicate 128 (.int .u8 0)) h) fun y7 h =>
  thenV (stN 128 y7 y20 h) fun _ h =>
  thenV (pu (sliceArr 128 1 y7 none none none) h) fun y21 h =>
  thenV (some (y21, h)) fun y4_1 h =>
  thenV (some ((.int .i64 0), h)) fun y5_1 h =>
  some (.tuple #[y4_1, y5_1], h)
  | _ => none)
theorem t20_eq (C : CallF) (x0 x1 : Value) (h : Heap) : bodyK Try.prog C Try.f20 [x0, x1] h = t20 C x0 x1 h :=
  (bodyB_eq Try.prog C Try.f20 [x0, x1] h (by kernel_rfl)).trans (by kernel_rfl)

/-- (*stolon/disk.Journal).Area -/
noncomputable def t22 (C : CallF) (x0 : Value) (h : Heap) : Out :=
  thenV (some ((.int .i64 0), h)) fun y2 h =>
  thenV (some (x0, h)) fun y3 h =>
  thenV (C 58 [y3] h) fun y4 h =>
  thenV (pu (bin Try.prog .neq 28 y4 (.int .i64 0)) h) fun y5 h =>
  (match y5 with
  | .bool true =>
  thenV (some ((.int .i64 0), h)) fun y2_1 h =>
  some (y2_1, h)
  | .bool false =>
  thenV (some (x0, h)) fun y6 h =>
  thenV (pu (nilCheckA y6) h) fun y7 h =>
  thenV (pu (addP y7 0) h) fun y8 h =>
  thenV (ld1 y8 h) fun y9 h =>
  thenV (C 55 [y9] h) fun y10 h =>
  thenV (some (y10, h)) fun y2_1 h =>
  some (y2_1, h)
  | _ => none)
theorem t22_eq (C : CallF) (x0 : Value) (h : Heap) : bodyK Try.prog C Try.f22 [x0] h = t22 C x0 h :=
  (bodyB_eq Try.prog C Try.f22 [x0] h (by kernel_rfl)).trans (by kernel_rfl)

noncomputable def k25_5 (C : CallF) (e : Env) (h : Heap) : Out := codeK Try.prog C (partOf Try.f25 [1, 1, 1, 1]) e h (resultsA Try.prog Try.f25.results.toList) (resultsA Try.prog Try.f25.results.toList) (fun _ _ _ => none)
noncomputable def b25_7 (C : CallF) (i : Nat) (e : Env) (h : Heap) : Out := if i = 0 then (k25_5 C) e h else (fun _ _ _ => none) i e h
/-- (*stolon/disk.Disk).Image -/
noncomputable def t25 (C : CallF) (x0 : Value) (h : Heap) : Out :=
  thenV (some ((.slice none 0 0), h)) fun y2 h =>
  thenV (some (x0, h)) fun y5 h =>
  thenV (pu (bin Try.prog .eql 27 y5 (.pointer none)) h) fun y6 h =>
  (match y6 with
  | .bool true =>
  thenV (some ((.slice none 0 0), h)) fun y2_1 h =>
  some (y2_1, h)
  | .bool false =>
  thenV (some (x0, h)) fun y7 h =>
  thenV (pu (nilCheckA y7) h) fun y8 h =>
  thenV (pu (addP y8 0) h) fun y9 h =>
  thenV (ld1 y9 h) fun y10 h =>
  thenV (pu (lenL y10) h) fun y11 h =>
  thenV (pu (bin Try.prog .mul 3 y11 (.int .i64 128)) h) fun y12 h =>
  thenV (mkR 1 1 (.int .u8 0) (.int .i64 0) y12 h) fun y13 h =>
  thenV (some (y13, h)) fun y3 h =>
  thenV (some (x0, h)) fun y14 h =>
  thenV (pu (nilCheckA y14) h) fun y15 h =>
  thenV (pu (addP y15 0) h) fun y16 h =>
  thenV (ld1 y16 h) fun y17 h =>
  thenV (pu (lenL y17) h) fun y18 h =>
  thenV (some ((.int .i64 0), h)) fun y19 h =>
  endL (iter (codeA Try.prog C (partOf Try.f25 [1, 1, 1, 0, 1, 0, 0])) rounds (mkF 33 (up (bs [x0]) [(2, y2), (3, y3), (5, y5), (6, y6), (7, y7), (8, y8), (9, y9), (10, y10), (11, y11), (12, y12), (13, y13), (14, y14), (15, y15), (16, y16), (17, y17), (18, y18), (19, y19)])) h) (resultsA Try.prog Try.f25.results.toList) (b25_7 C)
  | _ => none)
noncomputable def t25k25_5 (C : CallF) (x : Nat → Value) (h : Heap) : Out :=
  thenV (some ((x 3), h)) fun y32 h =>
  thenV (some (y32, h)) fun y2 h =>
  some (y2, h)
noncomputable def t25l25_111010 (C : CallF) (x : Nat → Value) (h : Heap) : Option (Ex × Env × Heap) :=
  thenV (pu (bin Try.prog .lss 3 (x 19) (x 18)) h) fun y20 h =>
  (match y20 with
  | .bool true =>
  thenV (some ((x 19), h)) fun y21 h =>
  thenV (some (y21, h)) fun y4 h =>
  thenV (some ((x 3), h)) fun y22 h =>
  thenV (some ((x 0), h)) fun y23 h =>
  thenV (pu (nilCheckA y23) h) fun y24 h =>
  thenV (pu (addP y24 0) h) fun y25 h =>
  thenV (ld1 y25 h) fun y26 h =>
  thenV (some (y4, h)) fun y27 h =>
  thenV (pu (idxS 128 y26 y27) h) fun y28 h =>
  thenV (pu (sliceArr 128 1 y28 none none none) h) fun y29 h =>
  thenV (appendA 1 1 y22 y29 h) fun y30 h =>
  thenV (some (y30, h)) fun y3 h =>
  thenV (pu (bin Try.prog .add 3 (x 19) (.int .i64 1)) h) fun y31 h =>
  thenV (some (y31, h)) fun y19 h =>
  some (.normal, (mkF 33 (up x [(3, y3), (4, y4), (19, y19), (20, y20), (21, y21), (22, y22), (23, y23), (24, y24), (25, y25), (26, y26), (27, y27), (28, y28), (29, y29), (30, y30), (31, y31)])), h)
  | .bool false =>
  some (.exit 0, (mkF 33 (up x [(20, y20)])), h)
  | _ => none)
theorem t25_eq (C : CallF) (x0 : Value) (h : Heap) : bodyK Try.prog C Try.f25 [x0] h = t25 C x0 h :=
  (bodyB_eq Try.prog C Try.f25 [x0] h (by kernel_rfl)).trans (by kernel_rfl)
theorem t25k25_5_eq (C : CallF) (x : Nat → Value) (h : Heap) : k25_5 C (mkF 33 x) h = t25k25_5 C x h :=
  link_partF (b := (partOf Try.f25 [1, 1, 1, 1])) (kE := (resultsA Try.prog Try.f25.results.toList)) (rE := (resultsA Try.prog Try.f25.results.toList)) (xE := (fun _ _ _ => none)) (T := t25k25_5 C) (fun x h => by kernel_rfl) x h
theorem t25l25_111010_eq (C : CallF) (x : Nat → Value) (h : Heap) : codeA Try.prog C (partOf Try.f25 [1, 1, 1, 0, 1, 0, 0]) (mkF 33 x) h = t25l25_111010 C x h :=
  link_roundF (T := t25l25_111010 C) (fun x h => by kernel_rfl) x h

/-- (*stolon/disk.Journal).Free -/
noncomputable def t26 (C : CallF) (x0 : Value) (h : Heap) : Out :=
  thenV (some ((.int .i64 0), h)) fun y2 h =>
  thenV (some (x0, h)) fun y3 h =>
  thenV (C 58 [y3] h) fun y4 h =>
  thenV (pu (bin Try.prog .neq 28 y4 (.int .i64 0)) h) fun y5 h =>
  thenV (some (y5, h)) fun y6 h =>
  thenV (guardK (bOf y6 == some false) (some (x0, h)) h) fun y7 h =>
  thenV (guardK (bOf y6 == some false) (pu (nilCheckA y7) h) h) fun y8 h =>
  thenV (guardK (bOf y6 == some false) (pu (addP y8 6) h) h) fun y9 h =>
  thenV (guardK (bOf y6 == some false) (ld1 y9 h) h) fun y10 h =>
  thenV (guardK (bOf y6 == some false) (pu (unA .not y10) h) h) fun y11 h =>
  thenV (match y6 with | .bool t => some (if t then (.bool true) else y11, h) | _ => none) fun y12 h =>
  (match y12 with
  | .bool true =>
  thenV (some ((.int .i64 0), h)) fun y2_1 h =>
  some (y2_1, h)
  | .bool false =>
  let g5_0 := h
  thenV (some (x0, g5_0)) fun y13 g5_1 =>
  thenV (pu (nilCheckA y13) g5_1) fun y14 g5_2 =>
  thenV (pu (addP y14 0) g5_2) fun y15 g5_3 =>
  thenV (ld1 y15 g5_3) fun y16 g5_4 =>
  thenV (C 55 [y16] g5_4) fun y17 g5_5 =>
  thenV (some (x0, g5_5)) fun y18 g5_6 =>
  thenV (pu (nilCheckA y18) g5_6) fun y19 g5_7 =>
  thenV (pu (addP y19 7) g5_7) fun y20 g5_8 =>
  thenV (ld1 y20 g5_8) fun y21 g5_9 =>
  thenV (pu (bin Try.prog .sub 3 y17 y21) g5_9) fun y22 g5_10 =>
  thenV (some (y22, g5_10)) fun y2_1 g5_11 =>
  (match (chkR true (ld1 y20 g5_4) y21 && true) with
  | true =>
  let h := g5_11
  some (y2_1, h)
  | false => none)
  | _ => none)
theorem t26_eq (C : CallF) (x0 : Value) (h : Heap) : bodyK Try.prog C Try.f26 [x0] h = t26 C x0 h :=
  (bodyB_eq Try.prog C Try.f26 [x0] h (by kernel_rfl)).trans (by kernel_rfl)

/-- (*stolon/disk.Disk).Rot -/
noncomputable def t31 (C : CallF) (x0 x1 x2 x3 : Value) (h : Heap) : Out :=
  thenV (some ((.int .i64 0), h)) fun y8 h =>
  thenV (some (x0, h)) fun y10 h =>
  thenV (pu (bin Try.prog .eql 27 y10 (.pointer none)) h) fun y11 h =>
  thenV (some (y11, h)) fun y9 h =>
  (match y9 with
  | .bool true =>
  thenV (some ((.int .i64 1), h)) fun y8_1 h =>
  some (y8_1, h)
  | .bool false =>
  thenV (some (x1, h)) fun y13 h =>
  thenV (pu (bin Try.prog .lss 3 y13 (.int .i64 0)) h) fun y14 h =>
  thenV (some (y14, h)) fun y15 h =>
  thenV (guardK (bOf y15 == some false) (some (x1, h)) h) fun y16 h =>
  thenV (guardK (bOf y15 == some false) (some (x0, h)) h) fun y17 h =>
  thenV (guardK (bOf y15 == some false) (pu (nilCheckA y17) h) h) fun y18 h =>
  thenV (guardK (bOf y15 == some false) (pu (addP y18 0) h) h) fun y19 h =>
  thenV (guardK (bOf y15 == some false) (ld1 y19 h) h) fun y20 h =>
  thenV (guardK (bOf y15 == some false) (pu (lenL y20) h) h) fun y21 h =>
  thenV (guardK (bOf y15 == some false) (pu (bin Try.prog .geq 3 y16 y21) h) h) fun y22 h =>
  thenV (match y15 with | .bool t => some (if t then (.bool true) else y22, h) | _ => none) fun y23 h =>
  thenV (some (y23, h)) fun y24 h =>
  thenV (guardK (bOf y24 == some false) (some (x2, h)) h) fun y25 h =>
  thenV (guardK (bOf y24 == some false) (pu (bin Try.prog .lss 3 y25 (.int .i64 0)) h) h) fun y26 h =>
  thenV (match y24 with | .bool t => some (if t then (.bool true) else y26, h) | _ => none) fun y27 h =>
  thenV (some (y27, h)) fun y28 h =>
  thenV (guardK (bOf y28 == some false) (some (x2, h)) h) fun y29 h =>
  thenV (guardK (bOf y28 == some false) (pu (bin Try.prog .geq 3 y29 (.int .i64 128)) h) h) fun y30 h =>
  thenV (match y28 with | .bool t => some (if t then (.bool true) else y30, h) | _ => none) fun y31 h =>
  thenV (some (y31, h)) fun y12 h =>
  (match y12 with
  | .bool true =>
  thenV (some ((.int .i64 2), h)) fun y8_1 h =>
  some (y8_1, h)
  | .bool false =>
  thenV (some (x0, h)) fun y32 h =>
  thenV (pu (nilCheckA y32) h) fun y33 h =>
  thenV (pu (addP y33 0) h) fun y34 h =>
  thenV (ld1 y34 h) fun y35 h =>
  thenV (some (x1, h)) fun y36 h =>
  thenV (some (x2, h)) fun y37 h =>
  thenV (pu (idxS 128 y35 y36) h) fun y38 h =>
  thenV (pu (idxA 128 1 y38 y37) h) fun y39 h =>
  thenV (ld1 y39 h) fun y40 h =>
  thenV (some (x3, h)) fun y41 h =>
  thenV (pu (bin Try.prog .xor 5 y40 y41) h) fun y42 h =>
  thenV (pu (idxS 128 y35 y36) h) fun y43 h =>
  thenV (pu (idxA 128 1 y43 y37) h) fun y44 h =>
  thenV (stN 1 y44 y42 h) fun _ h =>
  thenV (some ((.int .i64 0), h)) fun y8_1 h =>
  some (y8_1, h)
  | _ => none)
  | _ => none)
theorem t31_eq (C : CallF) (x0 x1 x2 x3 : Value) (h : Heap) : bodyK Try.prog C Try.f31 [x0, x1, x2, x3] h = t31 C x0 x1 x2 x3 h :=
  (bodyB_eq Try.prog C Try.f31 [x0, x1, x2, x3] h (by kernel_rfl)).trans (by kernel_rfl)

/-- (*stolon/disk.Disk).PowerOff -/
noncomputable def t32 (C : CallF) (x0 : Value) (h : Heap) : Out :=
  thenV (some (x0, h)) fun y2 h =>
  thenV (pu (bin Try.prog .eql 27 y2 (.pointer none)) h) fun y3 h =>
  thenV (some (y3, h)) fun y4 h =>
  thenV (guardK (bOf y4 == some false) (some (x0, h)) h) fun y5 h =>
  thenV (guardK (bOf y4 == some false) (pu (nilCheckA y5) h) h) fun y6 h =>
  thenV (guardK (bOf y4 == some false) (pu (addP y6 1) h) h) fun y7 h =>
  thenV (guardK (bOf y4 == some false) (ld1 y7 h) h) fun y8 h =>
  thenV (match y4 with | .bool t => some (if t then (.bool true) else y8, h) | _ => none) fun y9 h =>
  (match y9 with
  | .bool true =>
  some (.tuple #[], h)
  | .bool false =>
  thenV (some (x0, h)) fun y10 h =>
  thenV (some (x0, h)) fun y11 h =>
  thenV (pu (nilCheckA y10) h) fun y12 h =>
  thenV (pu (addP y12 1) h) fun y13 h =>
  thenV (stN 1 y13 (.bool true) h) fun _ h =>
  thenV (pu (nilCheckA y11) h) fun y14 h =>
  thenV (pu (addP y14 2) h) fun y15 h =>
  thenV (stN 1 y15 (.bool false) h) fun _ h =>
  thenV (some (x0, h)) fun y16 h =>
  thenV (pu (nilCheckA y16) h) fun y17 h =>
  thenV (pu (addP y17 5) h) fun y18 h =>
  thenV (ld1 y18 h) fun y19 h =>
  thenV (pu (bin Try.prog .add 3 y19 (.int .i64 1)) h) fun y20 h =>
  thenV (pu (nilCheckA y16) h) fun y21 h =>
  thenV (pu (addP y21 5) h) fun y22 h =>
  thenV (stN 1 y22 y20 h) fun _ h =>
  some (.tuple #[], h)
  | _ => none)
theorem t32_eq (C : CallF) (x0 : Value) (h : Heap) : bodyK Try.prog C Try.f32 [x0] h = t32 C x0 h :=
  (bodyB_eq Try.prog C Try.f32 [x0] h (by kernel_rfl)).trans (by kernel_rfl)

/-- (*stolon/disk.Disk).PowerOn -/
noncomputable def t33 (C : CallF) (x0 : Value) (h : Heap) : Out :=
  thenV (some (x0, h)) fun y2 h =>
  thenV (pu (bin Try.prog .neq 27 y2 (.pointer none)) h) fun y3 h =>
  (match y3 with
  | .bool true =>
  thenV (some (x0, h)) fun y4 h =>
  thenV (some (x0, h)) fun y5 h =>
  thenV (pu (nilCheckA y4) h) fun y6 h =>
  thenV (pu (addP y6 1) h) fun y7 h =>
  thenV (stN 1 y7 (.bool false) h) fun _ h =>
  thenV (pu (nilCheckA y5) h) fun y8 h =>
  thenV (pu (addP y8 2) h) fun y9 h =>
  thenV (stN 1 y9 (.bool false) h) fun _ h =>
  some (.tuple #[], h)
  | .bool false =>
  some (.tuple #[], h)
  | _ => none)
theorem t33_eq (C : CallF) (x0 : Value) (h : Heap) : bodyK Try.prog C Try.f33 [x0] h = t33 C x0 h :=
  (bodyB_eq Try.prog C Try.f33 [x0] h (by kernel_rfl)).trans (by kernel_rfl)

/-- (*stolon/disk.Disk).Down -/
noncomputable def t36 (C : CallF) (x0 : Value) (h : Heap) : Out :=
  thenV (some ((.bool false), h)) fun y2 h =>
  thenV (some (x0, h)) fun y3 h =>
  thenV (pu (bin Try.prog .neq 27 y3 (.pointer none)) h) fun y4 h =>
  thenV (some (y4, h)) fun y5 h =>
  thenV (guardK (bOf y5 == some true) (some (x0, h)) h) fun y6 h =>
  thenV (guardK (bOf y5 == some true) (pu (nilCheckA y6) h) h) fun y7 h =>
  thenV (guardK (bOf y5 == some true) (pu (addP y7 1) h) h) fun y8 h =>
  thenV (guardK (bOf y5 == some true) (ld1 y8 h) h) fun y9 h =>
  thenV (match y5 with | .bool t => some (if t then y9 else (.bool false), h) | _ => none) fun y10 h =>
  thenV (some (y10, h)) fun y2_1 h =>
  some (y2_1, h)
theorem t36_eq (C : CallF) (x0 : Value) (h : Heap) : bodyK Try.prog C Try.f36 [x0] h = t36 C x0 h :=
  (bodyB_eq Try.prog C Try.f36 [x0] h (by kernel_rfl)).trans (by kernel_rfl)

/-- (*stolon/disk.Disk).Arm -/
noncomputable def t48 (C : CallF) (x0 x1 x2 : Value) (h : Heap) : Out :=
  thenV (some ((.int .i64 0), h)) fun y6 h =>
  thenV (some (x0, h)) fun y8 h =>
  thenV (pu (bin Try.prog .eql 27 y8 (.pointer none)) h) fun y9 h =>
  thenV (some (y9, h)) fun y7 h =>
  (match y7 with
  | .bool true =>
  thenV (some ((.int .i64 1), h)) fun y6_1 h =>
  some (y6_1, h)
  | .bool false =>
  thenV (some (x0, h)) fun y11 h =>
  thenV (pu (nilCheckA y11) h) fun y12 h =>
  thenV (pu (addP y12 1) h) fun y13 h =>
  thenV (ld1 y13 h) fun y14 h =>
  thenV (some (y14, h)) fun y10 h =>
  (match y10 with
  | .bool true =>
  thenV (some ((.int .i64 9), h)) fun y6_1 h =>
  some (y6_1, h)
  | .bool false =>
  thenV (some (x1, h)) fun y16 h =>
  thenV (pu (bin Try.prog .lss 3 y16 (.int .i64 0)) h) fun y17 h =>
  thenV (some (y17, h)) fun y18 h =>
  thenV (guardK (bOf y18 == some false) (some (x2, h)) h) fun y19 h =>
  thenV (guardK (bOf y18 == some false) (pu (bin Try.prog .lss 3 y19 (.int .i64 0)) h) h) fun y20 h =>
  thenV (match y18 with | .bool t => some (if t then (.bool true) else y20, h) | _ => none) fun y21 h =>
  thenV (some (y21, h)) fun y22 h =>
  thenV (guardK (bOf y22 == some false) (some (x2, h)) h) fun y23 h =>
  thenV (guardK (bOf y22 == some false) (pu (bin Try.prog .gtr 3 y23 (.int .i64 128)) h) h) fun y24 h =>
  thenV (match y22 with | .bool t => some (if t then (.bool true) else y24, h) | _ => none) fun y25 h =>
  thenV (some (y25, h)) fun y15 h =>
  (match y15 with
  | .bool true =>
  thenV (some ((.int .i64 2), h)) fun y6_1 h =>
  some (y6_1, h)
  | .bool false =>
  thenV (some (x0, h)) fun y26 h =>
  thenV (some (x0, h)) fun y27 h =>
  thenV (some (x0, h)) fun y28 h =>
  thenV (some (x1, h)) fun y29 h =>
  thenV (some (x2, h)) fun y30 h =>
  thenV (pu (nilCheckA y26) h) fun y31 h =>
  thenV (pu (addP y31 2) h) fun y32 h =>
  thenV (stN 1 y32 (.bool true) h) fun _ h =>
  thenV (pu (nilCheckA y27) h) fun y33 h =>
  thenV (pu (addP y33 3) h) fun y34 h =>
  thenV (stN 1 y34 y29 h) fun _ h =>
  thenV (pu (nilCheckA y28) h) fun y35 h =>
  thenV (pu (addP y35 4) h) fun y36 h =>
  thenV (stN 1 y36 y30 h) fun _ h =>
  thenV (some ((.int .i64 0), h)) fun y6_1 h =>
  some (y6_1, h)
  | _ => none)
  | _ => none)
  | _ => none)
theorem t48_eq (C : CallF) (x0 x1 x2 : Value) (h : Heap) : bodyK Try.prog C Try.f48 [x0, x1, x2] h = t48 C x0 x1 x2 h :=
  (bodyB_eq Try.prog C Try.f48 [x0, x1, x2] h (by kernel_rfl)).trans (by kernel_rfl)

/-- (*stolon/disk.Disk).Blocks -/
noncomputable def t50 (C : CallF) (x0 : Value) (h : Heap) : Out :=
  thenV (some ((.int .i64 0), h)) fun y2 h =>
  thenV (some (x0, h)) fun y3 h =>
  thenV (pu (bin Try.prog .eql 27 y3 (.pointer none)) h) fun y4 h =>
  (match y4 with
  | .bool true =>
  thenV (some ((.int .i64 0), h)) fun y2_1 h =>
  some (y2_1, h)
  | .bool false =>
  thenV (some (x0, h)) fun y5 h =>
  thenV (pu (nilCheckA y5) h) fun y6 h =>
  thenV (pu (addP y6 0) h) fun y7 h =>
  thenV (ld1 y7 h) fun y8 h =>
  thenV (pu (lenL y8) h) fun y9 h =>
  thenV (some (y9, h)) fun y2_1 h =>
  some (y2_1, h)
  | _ => none)
theorem t50_eq (C : CallF) (x0 : Value) (h : Heap) : bodyK Try.prog C Try.f50 [x0] h = t50 C x0 h :=
  (bodyB_eq Try.prog C Try.f50 [x0] h (by kernel_rfl)).trans (by kernel_rfl)

/-- (*stolon/disk.Disk).fault -/
noncomputable def t53 (C : CallF) (x0 x1 : Value) (h : Heap) : Out :=
  thenV (some ((.int .i64 0), h)) fun y4 h =>
  thenV (some (x0, h)) fun y6 h =>
  thenV (pu (bin Try.prog .eql 27 y6 (.pointer none)) h) fun y7 h =>
  thenV (some (y7, h)) fun y5 h =>
  (match y5 with
  | .bool true =>
  thenV (some ((.int .i64 1), h)) fun y4_1 h =>
  some (y4_1, h)
  | .bool false =>
  thenV (some (x0, h)) fun y9 h =>
  thenV (pu (nilCheckA y9) h) fun y10 h =>
  thenV (pu (addP y10 1) h) fun y11 h =>
  thenV (ld1 y11 h) fun y12 h =>
  thenV (some (y12, h)) fun y8 h =>
  (match y8 with
  | .bool true =>
  thenV (some ((.int .i64 9), h)) fun y4_1 h =>
  some (y4_1, h)
  | .bool false =>
  thenV (some (x1, h)) fun y14 h =>
  thenV (pu (bin Try.prog .lss 3 y14 (.int .i64 0)) h) fun y15 h =>
  thenV (some (y15, h)) fun y16 h =>
  thenV (guardK (bOf y16 == some false) (some (x1, h)) h) fun y17 h =>
  thenV (guardK (bOf y16 == some false) (some (x0, h)) h) fun y18 h =>
  thenV (guardK (bOf y16 == some false) (pu (nilCheckA y18) h) h) fun y19 h =>
  thenV (guardK (bOf y16 == some false) (pu (addP y19 0) h) h) fun y20 h =>
  thenV (guardK (bOf y16 == some false) (ld1 y20 h) h) fun y21 h =>
  thenV (guardK (bOf y16 == some false) (pu (lenL y21) h) h) fun y22 h =>
  thenV (guardK (bOf y16 == some false) (pu (bin Try.prog .geq 3 y17 y22) h) h) fun y23 h =>
  thenV (match y16 with | .bool t => some (if t then (.bool true) else y23, h) | _ => none) fun y24 h =>
  thenV (some (y24, h)) fun y13 h =>
  (match y13 with
  | .bool true =>
  thenV (some ((.int .i64 2), h)) fun y4_1 h =>
  some (y4_1, h)
  | .bool false =>
  thenV (some ((.int .i64 0), h)) fun y4_1 h =>
  some (y4_1, h)
  | _ => none)
  | _ => none)
  | _ => none)
theorem t53_eq (C : CallF) (x0 x1 : Value) (h : Heap) : bodyK Try.prog C Try.f53 [x0, x1] h = t53 C x0 x1 h :=
  (bodyB_eq Try.prog C Try.f53 [x0, x1] h (by kernel_rfl)).trans (by kernel_rfl)

/-- (*stolon/disk.Disk).super -/
noncomputable def t54 (C : CallF) (x0 x1 : Value) (h : Heap) : Out :=
  thenV (some ((.int .u64 0), h)) fun y4 h =>
  thenV (some ((.int .i64 0), h)) fun y5 h =>
  thenV (some ((.bool false), h)) fun y6 h =>
  thenV (some (x0, h)) fun y11 h =>
  thenV (some (x1, h)) fun y12 h =>
  thenV (C 84 [y11, y12] h) fun y13 h =>
  thenV (some (y13, h)) fun y10 h =>
  thenV (pu (extractA y10 0) h) fun y14 h =>
  thenV (pu (extractA y10 1) h) fun y15 h =>
  thenV (some (y14, h)) fun y7 h =>
  thenV (some (y15, h)) fun y8 h =>
  thenV (some (y7, h)) fun y16 h =>
  thenV (C 85 [y16] h) fun y17 h =>
  thenV (some (y17, h)) fun y9 h =>
  thenV (some (y7, h)) fun y18 h =>
  thenV (C 86 [y18] h) fun y19 h =>
  thenV (some (y7, h)) fun y20 h =>
  thenV (C 87 [y20] h) fun y21 h =>
  thenV (cvI .i64 y21 h) fun y22 h =>
  thenV (some (y19, h)) fun y4_1 h =>
  thenV (some (y22, h)) fun y5_1 h =>
  thenV (some (y4_1, h)) fun y23 h =>
  thenV (some (y5_1, h)) fun y24 h =>
  thenV (some (y8, h)) fun y25 h =>
  thenV (some (y25, h)) fun y26 h =>
  thenV (guardK (bOf y26 == some true) (some (y9, h)) h) fun y27 h =>
  thenV (guardK (bOf y26 == some true) (pu (bin Try.prog .eql 113 y27 (.int .u32 1398034252)) h) h) fun y28 h =>
  thenV (match y26 with | .bool t => some (if t then y28 else (.bool false), h) | _ => none) fun y29 h =>
  thenV (some (y29, h)) fun y30 h =>
  thenV (guardK (bOf y30 == some true) (some (y5_1, h)) h) fun y31 h =>
  thenV (guardK (bOf y30 == some true) (pu (bin Try.prog .leq 3 y31 (.int .i64 1)) h) h) fun y32 h =>
  thenV (match y30 with | .bool t => some (if t then y32 else (.bool false), h) | _ => none) fun y33 h =>
  thenV (some (y23, h)) fun y4_2 h =>
  thenV (some (y24, h)) fun y5_2 h =>
  thenV (some (y33, h)) fun y6_1 h =>
  some (.tuple #[y4_2, y5_2, y6_1], h)
theorem t54_eq (C : CallF) (x0 x1 : Value) (h : Heap) : bodyK Try.prog C Try.f54 [x0, x1] h = t54 C x0 x1 h :=
  (bodyB_eq Try.prog C Try.f54 [x0, x1] h (by kernel_rfl)).trans (by kernel_rfl)

/-- (*stolon/disk.Disk).area -/
noncomputable def t55 (C : CallF) (x0 : Value) (h : Heap) : Out :=
  thenV (some ((.int .i64 0), h)) fun y2 h =>
  thenV (some (x0, h)) fun y3 h =>
  thenV (pu (nilCheckA y3) h) fun y4 h =>
  thenV (pu (addP y4 0) h) fun y5 h =>
  thenV (ld1 y5 h) fun y6 h =>
  thenV (pu (lenL y6) h) fun y7 h =>
  thenV (pu (bin Try.prog .sub 3 y7 (.int .i64 2)) h) fun y8 h =>
  thenV (pu (bin Try.prog .quo 3 y8 (.int .i64 2)) h) fun y9 h =>
  thenV (some (y9, h)) fun y2_1 h =>
  some (y2_1, h)
theorem t55_eq (C : CallF) (x0 : Value) (h : Heap) : bodyK Try.prog C Try.f55 [x0] h = t55 C x0 h :=
  (bodyB_eq Try.prog C Try.f55 [x0] h (by kernel_rfl)).trans (by kernel_rfl)

/-- (*stolon/disk.Disk).log -/
noncomputable def t56 (C : CallF) (x0 x1 x2 : Value) (h : Heap) : Out :=
  thenV (newC [(.int .u64 0), (.int .i64 0), (.int .i64 0), (.slice none 0 0)] h) fun y6 h =>
  thenV (some ((.bool false), h)) fun y7 h =>
  thenV (some (x0, h)) fun y14 h =>
  thenV (some (x1, h)) fun y15 h =>
  thenV (some (x0, h)) fun y16 h =>
  thenV (C 55 [y16] h) fun y17 h =>
  thenV (pu (bin Try.prog .mul 3 y15 y17) h) fun y18 h =>
  thenV (pu (bin Try.prog .add 3 (.int .i64 2) y18) h) fun y19 h =>
  thenV (some (x2, h)) fun y20 h =>
  thenV (pu (bin Try.prog .add 3 y19 y20) h) fun y21 h =>
  thenV (C 84 [y14, y21] h) fun y22 h =>
  thenV (some (y22, h)) fun y13 h =>
  thenV (pu (extractA y13 0) h) fun y23 h =>
  thenV (pu (extractA y13 1) h) fun y24 h =>
  thenV (some (y23, h)) fun y8 h =>
  thenV (some (y24, h)) fun y9 h =>
  thenV (some (y8, h)) fun y25 h =>
  thenV (C 86 [y25] h) fun y26 h =>
  thenV (pu (bldR [(.int .u64 0), (.int .i64 0), (.int .i64 0), (.slice none 0 0)] [(0, 1, y26)]) h) fun y27 h =>
  thenV (newC [(.int .u64 0), (.int .i64 0), (.int .i64 0), (.slice none 0 0)] h) fun y10 h =>
  thenV (stN 4 y10 y27 h) fun _ h =>
  thenV (some (y8, h)) fun y28 h =>
  thenV (C 85 [y28] h) fun y29 h =>
  thenV (cvI .i64 y29 h) fun y30 h =>
  thenV (some (y30, h)) fun y11 h =>
  thenV (some (y8, h)) fun y31 h =>
  thenV (C 88 [y31] h) fun y32 h =>
  thenV (cvI .i64 y32 h) fun y33 h =>
  thenV (some (y8, h)) fun y34 h =>
  thenV (C 88 [y34] h) fun y35 h =>
  thenV (cvI .i64 y35 h) fun y36 h =>
  thenV (pu (addP y10 1) h) fun y37 h =>
  thenV (stN 1 y37 y33 h) fun _ h =>
  thenV (pu (addP y10 2) h) fun y38 h =>
  thenV (stN 1 y38 y36 h) fun _ h =>
  thenV (some (y8, h)) fun y39 h =>
  thenV (some (y8, h)) fun y40 h =>
  thenV (C 88 [y40] h) fun y41 h =>
  thenV (cvI .i64 y41 h) fun y42 h =>
  thenV (C 89 [y39, y42] h) fun y43 h =>
  thenV (pu (addP y10 3) h) fun y44 h =>
  thenV (stN 1 y44 y43 h) fun _ h =>
  thenV (some (y9, h)) fun y45 h =>
  thenV (some (y45, h)) fun y46 h =>
  thenV (guardK (bOf y46 == some true) (some (y11, h)) h) fun y47 h =>
  thenV (guardK (bOf y46 == some true) (some (x2, h)) h) fun y48 h =>
  thenV (guardK (bOf y46 == some true) (pu (bin Try.prog .eql 3 y47 y48) h) h) fun y49 h =>
  thenV (match y46 with | .bool t => some (if t then y49 else (.bool false), h) | _ => none) fun y50 h =>
  thenV (some (y50, h)) fun y51 h =>
  thenV (guardK (bOf y51 == some true) (pu (addP y10 2) h) h) fun y52 h =>
  thenV (guardK (bOf y51 == some true) (ld1 y52 h) h) fun y53 h =>
  thenV (guardK (bOf y51 == some true) (pu (bin Try.prog .geq 3 y53 (.int .i64 1)) h) h) fun y54 h =>
  thenV (match y51 with | .bool t => some (if t then y54 else (.bool false), h) | _ => none) fun y55 h =>
  thenV (some (y55, h)) fun y56 h =>
  thenV (guardK (bOf y56 == some true) (pu (addP y10 1) h) h) fun y57 h =>
  thenV (guardK (bOf y56 == some true) (ld1 y57 h) h) fun y58 h =>
  thenV (guardK (bOf y56 == some true) (pu (addP y10 2) h) h) fun y59 h =>
  thenV (guardK (bOf y56 == some true) (ld1 y59 h) h) fun y60 h =>
  thenV (guardK (bOf y56 == some true) (pu (bin Try.prog .lss 3 y58 y60) h) h) fun y61 h =>
  thenV (match y56 with | .bool t => some (if t then y61 else (.bool false), h) | _ => none) fun y62 h =>
  thenV (some (y62, h)) fun y63 h =>
  thenV (guardK (bOf y63 == some true) (some (y8, h)) h) fun y64 h =>
  thenV (guardK (bOf y63 == some true) (C 90 [y64] h) h) fun y65 h =>
  thenV (guardK (bOf y63 == some true) (pu (bin Try.prog .eql 28 y65 (.int .i64 0)) h) h) fun y66 h =>
  thenV (match y63 with | .bool t => some (if t then y66 else (.bool false), h) | _ => none) fun y67 h =>
  thenV (some (y67, h)) fun y12 h =>
  thenV (ldN 4 y10 h) fun y68 h =>
  thenV (some (y12, h)) fun y69 h =>
  thenV (stN 4 y6 y68 h) fun _ h =>
  thenV (some (y69, h)) fun y7_1 h =>
  resultsA Try.prog Try.f56.results.toList (mkF 70 (up (bs [x0, x1, x2]) [(6, y6), (7, y7_1), (8, y8), (9, y9), (10, y10), (11, y11), (12, y12), (13, y13), (14, y14), (15, y15), (16, y16), (17, y17), (18, y18), (19, y19), (20, y20), (21, y21), (22, y22), (23, y23), (24, y24), (25, y25), (26, y26), (27, y27), (28, y28), (29, y29), (30, y30), (31, y31), (32, y32), (33, y33), (34, y34), (35, y35), (36, y36), (37, y37), (38, y38), (39, y39), (40, y40), (41, y41), (42, y42), (43, y43), (44, y44), (45, y45), (46, y46), (47, y47), (48, y48), (49, y49), (50, y50), (51, y51), (52, y52), (53, y53), (54, y54), (55, y55), (56, y56), (57, y57), (58, y58), (59, y59), (60, y60), (61, y61), (62, y62), (63, y63), (64, y64), (65, y65), (66, y66), (67, y67), (68, y68), (69, y69)])) h
theorem t56_eq (C : CallF) (x0 x1 x2 : Value) (h : Heap) : bodyK Try.prog C Try.f56 [x0, x1, x2] h = t56 C x0 x1 x2 h :=
  (bodyB_eq Try.prog C Try.f56 [x0, x1, x2] h (by kernel_rfl)).trans (by kernel_rfl)

noncomputable def k57_7 (C : CallF) (e : Env) (h : Heap) : Out := codeK Try.prog C (partOf Try.f57 [1, 1, 1, 1, 1, 1]) e h (resultsA Try.prog Try.f57.results.toList) (resultsA Try.prog Try.f57.results.toList) (fun _ _ _ => none)
noncomputable def b57_9 (C : CallF) (i : Nat) (e : Env) (h : Heap) : Out := if i = 0 then (k57_7 C) e h else (fun _ _ _ => none) i e h
/-- (*stolon/disk.Journal).record -/
noncomputable def t57 (C : CallF) (x0 x1 : Value) (h : Heap) : Out :=
  thenV (some ((.slice none 0 0), h)) fun y4 h =>
  thenV (some ((.int .i64 0), h)) fun y5 h =>
  thenV (some (x0, h)) fun y12 h =>
  thenV (pu (nilCheckA y12) h) fun y13 h =>
  thenV (pu (addP y13 0) h) fun y14 h =>
  thenV (ld1 y14 h) fun y15 h =>
  thenV (C 55 [y15] h) fun y16 h =>
  thenV (some (y16, h)) fun y6 h =>
  thenV (some (x0, h)) fun y17 h =>
  thenV (pu (nilCheckA y17) h) fun y18 h =>
  thenV (pu (addP y18 2) h) fun y19 h =>
  thenV (ld1 y19 h) fun y20 h =>
  thenV (pu (bin Try.prog .lss 3 y20 (.int .i64 0)) h) fun y21 h =>
  thenV (some (y21, h)) fun y22 h =>
  thenV (guardK (bOf y22 == some false) (some (x1, h)) h) fun y23 h =>
  thenV (guardK (bOf y22 == some false) (pu (bin Try.prog .lss 3 y23 (.int .i64 0)) h) h) fun y24 h =>
  thenV (match y22 with | .bool t => some (if t then (.bool true) else y24, h) | _ => none) fun y25 h =>
  thenV (some (y25, h)) fun y26 h =>
  thenV (guardK (bOf y26 == some false) (some (x1, h)) h) fun y27 h =>
  thenV (guardK (bOf y26 == some false) (some (y6, h)) h) fun y28 h =>
  thenV (guardK (bOf y26 == some false) (pu (bin Try.prog .geq 3 y27 y28) h) h) fun y29 h =>
  thenV (match y26 with | .bool t => some (if t then (.bool true) else y29, h) | _ => none) fun y30 h =>
  (match y30 with
  | .bool true =>
  thenV (some ((.slice none 0 0), h)) fun y4_1 h =>
  thenV (some ((.int .i64 0), h)) fun y5_1 h =>
  some (.tuple #[y4_1, y5_1], h)
  | .bool false =>
  thenV (some ((.slice none 0 0), h)) fun y7 h =>
  thenV (some ((.int .i64 1), h)) fun y8 h =>
  thenV (some ((.int .i64 0), h)) fun y9 h =>
  endL (iter (codeA Try.prog C (partOf Try.f57 [1, 1, 1, 1, 1, 0, 1, 0, 0])) rounds (mkF 89 (up (bs [x0, x1]) [(4, y4), (5, y5), (6, y6), (7, y7), (8, y8), (9, y9), (12, y12), (13, y13), (14, y14), (15, y15), (16, y16), (17, y17), (18, y18), (19, y19), (20, y20), (21, y21), (22, y22), (23, y23), (24, y24), (25, y25), (26, y26), (27, y27), (28, y28), (29, y29), (30, y30)])) h) (resultsA Try.prog Try.f57.results.toList) (b57_9 C)
  | _ => none)
noncomputable def t57k57_7 (C : CallF) (x : Nat → Value) (h : Heap) : Out :=
  thenV (some ((x 7), h)) fun y87 h =>
  thenV (some ((x 8), h)) fun y88 h =>
  thenV (some (y87, h)) fun y4 h =>
  thenV (some (y88, h)) fun y5 h =>
  some (.tuple #[y4, y5], h)
noncomputable def t57l57_11111010 (C : CallF) (x : Nat → Value) (h : Heap) : Option (Ex × Env × Heap) :=
  thenV (some ((x 9), h)) fun y31 h =>
  thenV (some ((x 8), h)) fun y32 h =>
  thenV (pu (bin Try.prog .lss 3 y31 y32) h) fun y33 h =>
  (match y33 with
  | .bool true =>
  thenV (some ((x 1), h)) fun y36 h =>
  thenV (some ((x 9), h)) fun y37 h =>
  thenV (pu (bin Try.prog .add 3 y36 y37) h) fun y38 h =>
  thenV (some ((x 6), h)) fun y39 h =>
  thenV (pu (bin Try.prog .geq 3 y38 y39) h) fun y40 h =>
  (match y40 with
  | .bool true =>
  thenV (some ((.slice none 0 0), h)) fun y4 h =>
  thenV (some ((.int .i64 0), h)) fun y5 h =>
  some (.ret, (mkF 89 (up x [(4, y4), (5, y5), (31, y31), (32, y32), (33, y33), (36, y36), (37, y37), (38, y38), (39, y39), (40, y40)])), h)
  | .bool false =>
  thenV (some ((x 0), h)) fun y42 h =>
  thenV (pu (nilCheckA y42) h) fun y43 h =>
  thenV (pu (addP y43 0) h) fun y44 h =>
  thenV (ld1 y44 h) fun y45 h =>
  thenV (some ((x 0), h)) fun y46 h =>
  thenV (pu (nilCheckA y46) h) fun y47 h =>
  thenV (pu (addP y47 3) h) fun y48 h =>
  thenV (ld1 y48 h) fun y49 h =>
  thenV (some ((x 1), h)) fun y50 h =>
  thenV (some ((x 9), h)) fun y51 h =>
  thenV (pu (bin Try.prog .add 3 y50 y51) h) fun y52 h =>
  thenV (C 56 [y45, y49, y52] h) fun y53 h =>
  thenV (some (y53, h)) fun y41 h =>
  thenV (pu (extractA y41 0) h) fun y54 h =>
  thenV (pu (extractA y41 1) h) fun y55 h =>
  thenV (newC [(.int .u64 0), (.int .i64 0), (.int .i64 0), (.slice none 0 0)] h) fun y10 h =>
  thenV (stN 4 y10 y54 h) fun _ h =>
  thenV (some (y55, h)) fun y11 h =>
  thenV (some ((x 9), h)) fun y56 h =>
  thenV (pu (bin Try.prog .eql 3 y56 (.int .i64 0)) h) fun y57 h =>
  (match y57 with
  | .bool true =>
  thenV (pu (addP y10 2) h) fun y58 h =>
  thenV (ld1 y58 h) fun y59 h =>
  thenV (some (y59, h)) fun y8 h =>
  thenV (some (y11, h)) fun y60 h =>
  thenV (pu (unA .not y60) h) fun y61 h =>
  thenV (some (y61, h)) fun y62 h =>
  thenV (guardK (bOf y62 == some false) (pu (addP y10 0) h) h) fun y63 h =>
  thenV (guardK (bOf y62 == some false) (ld1 y63 h) h) fun y64 h =>
  thenV (guardK (bOf y62 == some false) (some ((x 0), h)) h) fun y65 h =>
  thenV (guardK (bOf y62 == some false) (pu (nilCheckA y65) h) h) fun y66 h =>
  thenV (guardK (bOf y62 == some false) (pu (addP y66 4) h) h) fun y67 h =>
  thenV (guardK (bOf y62 == some false) (ld1 y67 h) h) fun y68 h =>
  thenV (guardK (bOf y62 == some false) (pu (bin Try.prog .neq 58 y64 y68) h) h) fun y69 h =>
  thenV (match y62 with | .bool t => some (if t then (.bool true) else y69, h) | _ => none) fun y70 h =>
  thenV (some (y70, h)) fun y71 h =>
  thenV (guardK (bOf y71 == some false) (pu (addP y10 1) h) h) fun y72 h =>
  thenV (guardK (bOf y71 == some false) (ld1 y72 h) h) fun y73 h =>
  thenV (guardK (bOf y71 == some false) (some ((x 9), h)) h) fun y74 h =>
  thenV (guardK (bOf y71 == some false) (pu (bin Try.prog .neq 3 y73 y74) h) h) fun y75 h =>
  thenV (match y71 with | .bool t => some (if t then (.bool true) else y75, h) | _ => none) fun y76 h =>
  thenV (some (y76, h)) fun y77 h =>
  thenV (guardK (bOf y77 == some false) (pu (addP y10 2) h) h) fun y78 h =>
  thenV (guardK (bOf y77 == some false) (ld1 y78 h) h) fun y79 h =>
  thenV (guardK (bOf y77 == some false) (some (y8, h)) h) fun y80 h =>
  thenV (guardK (bOf y77 == some false) (pu (bin Try.prog .neq 3 y79 y80) h) h) fun y81 h =>
  thenV (match y77 with | .bool t => some (if t then (.bool true) else y81, h) | _ => none) fun y82 h =>
  (match y82 with
  | .bool true =>
  thenV (some ((.slice none 0 0), h)) fun y4 h =>
  thenV (some ((.int .i64 0), h)) fun y5 h =>
  some (.ret, (mkF 89 (up x [(4, y4), (5, y5), (8, y8), (10, y10), (11, y11), (31, y31), (32, y32), (33, y33), (36, y36), (37, y37), (38, y38), (39, y39), (40, y40), (41, y41), (42, y42), (43, y43), (44, y44), (45, y45), (46, y46), (47, y47), (48, y48), (49, y49), (50, y50), (51, y51), (52, y52), (53, y53), (54, y54), (55, y55), (56, y56), (57, y57), (58, y58), (59, y59), (60, y60), (61, y61), (62, y62), (63, y63), (64, y64), (65, y65), (66, y66), (67, y67), (68, y68), (69, y69), (70, y70), (71, y71), (72, y72), (73, y73), (74, y74), (75, y75), (76, y76), (77, y77), (78, y78), (79, y79), (80, y80), (81, y81), (82, y82)])), h)
  | .bool false =>
  thenV (some ((x 7), h)) fun y83 h =>
  thenV (pu (addP y10 3) h) fun y84 h =>
  thenV (ld1 y84 h) fun y85 h =>
  thenV (appendA 1 1 y83 y85 h) fun y86 h =>
  thenV (some (y86, h)) fun y7 h =>
  thenV (some ((x 9), h)) fun y34 h =>
  thenV (pu (bin Try.prog .add 3 y34 (.int .i64 1)) h) fun y35 h =>
  thenV (some (y35, h)) fun y9 h =>
  some (.normal, (mkF 89 (up x [(7, y7), (8, y8), (9, y9), (10, y10), (11, y11), (31, y31), (32, y32), (33, y33), (34, y34), (35, y35), (36, y36), (37, y37), (38, y38), (39, y39), (40, y40), (41, y41), (42, y42), (43, y43), (44, y44), (45, y45), (46, y46), (47, y47), (48, y48), (49, y49), (50, y50), (51, y51), (52, y52), (53, y53), (54, y54), (55, y55), (56, y56), (57, y57), (58, y58), (59, y59), (60, y60), (61, y61), (62, y62), (63, y63), (64, y64), (65, y65), (66, y66), (67, y67), (68, y68), (69, y69), (70, y70), (71, y71), (72, y72), (73, y73), (74, y74), (75, y75), (76, y76), (77, y77), (78, y78), (79, y79), (80, y80), (81, y81), (82, y82), (83, y83), (84, y84), (85, y85), (86, y86)])), h)
  | _ => none)
  | .bool false =>
  thenV (some (y11, h)) fun y60 h =>
  thenV (pu (unA .not y60) h) fun y61 h =>
  thenV (some (y61, h)) fun y62 h =>
  thenV (guardK (bOf y62 == some false) (pu (addP y10 0) h) h) fun y63 h =>
  thenV (guardK (bOf y62 == some false) (ld1 y63 h) h) fun y64 h =>
  thenV (guardK (bOf y62 == some false) (some ((x 0), h)) h) fun y65 h =>
  thenV (guardK (bOf y62 == some false) (pu (nilCheckA y65) h) h) fun y66 h =>
  thenV (guardK (bOf y62 == some false) (pu (addP y66 4) h) h) fun y67 h =>
  thenV (guardK (bOf y62 == some false) (ld1 y67 h) h) fun y68 h =>
  thenV (guardK (bOf y62 == some false) (pu (bin Try.prog .neq 58 y64 y68) h) h) fun y69 h =>
  thenV (match y62 with | .bool t => some (if t then (.bool true) else y69, h) | _ => none) fun y70 h =>
  thenV (some (y70, h)) fun y71 h =>
  thenV (guardK (bOf y71 == some false) (pu (addP y10 1) h) h) fun y72 h =>
  thenV (guardK (bOf y71 == some false) (ld1 y72 h) h) fun y73 h =>
  thenV (guardK (bOf y71 == some false) (some ((x 9), h)) h) fun y74 h =>
  thenV (guardK (bOf y71 == some false) (pu (bin Try.prog .neq 3 y73 y74) h) h) fun y75 h =>
  thenV (match y71 with | .bool t => some (if t then (.bool true) else y75, h) | _ => none) fun y76 h =>
  thenV (some (y76, h)) fun y77 h =>
  thenV (guardK (bOf y77 == some false) (pu (addP y10 2) h) h) fun y78 h =>
  thenV (guardK (bOf y77 == some false) (ld1 y78 h) h) fun y79 h =>
  thenV (guardK (bOf y77 == some false) (some ((x 8), h)) h) fun y80 h =>
  thenV (guardK (bOf y77 == some false) (pu (bin Try.prog .neq 3 y79 y80) h) h) fun y81 h =>
  thenV (match y77 with | .bool t => some (if t then (.bool true) else y81, h) | _ => none) fun y82 h =>
  (match y82 with
  | .bool true =>
  thenV (some ((.slice none 0 0), h)) fun y4 h =>
  thenV (some ((.int .i64 0), h)) fun y5 h =>
  some (.ret, (mkF 89 (up x [(4, y4), (5, y5), (10, y10), (11, y11), (31, y31), (32, y32), (33, y33), (36, y36), (37, y37), (38, y38), (39, y39), (40, y40), (41, y41), (42, y42), (43, y43), (44, y44), (45, y45), (46, y46), (47, y47), (48, y48), (49, y49), (50, y50), (51, y51), (52, y52), (53, y53), (54, y54), (55, y55), (56, y56), (57, y57), (60, y60), (61, y61), (62, y62), (63, y63), (64, y64), (65, y65), (66, y66), (67, y67), (68, y68), (69, y69), (70, y70), (71, y71), (72, y72), (73, y73), (74, y74), (75, y75), (76, y76), (77, y77), (78, y78), (79, y79), (80, y80), (81, y81), (82, y82)])), h)
  | .bool false =>
  thenV (some ((x 7), h)) fun y83 h =>
  thenV (pu (addP y10 3) h) fun y84 h =>
  thenV (ld1 y84 h) fun y85 h =>
  thenV (appendA 1 1 y83 y85 h) fun y86 h =>
  thenV (some (y86, h)) fun y7 h =>
  thenV (some ((x 9), h)) fun y34 h =>
  thenV (pu (bin Try.prog .add 3 y34 (.int .i64 1)) h) fun y35 h =>
  thenV (some (y35, h)) fun y9 h =>
  some (.normal, (mkF 89 (up x [(7, y7), (9, y9), (10, y10), (11, y11), (31, y31), (32, y32), (33, y33), (34, y34), (35, y35), (36, y36), (37, y37), (38, y38), (39, y39), (40, y40), (41, y41), (42, y42), (43, y43), (44, y44), (45, y45), (46, y46), (47, y47), (48, y48), (49, y49), (50, y50), (51, y51), (52, y52), (53, y53), (54, y54), (55, y55), (56, y56), (57, y57), (60, y60), (61, y61), (62, y62), (63, y63), (64, y64), (65, y65), (66, y66), (67, y67), (68, y68), (69, y69), (70, y70), (71, y71), (72, y72), (73, y73), (74, y74), (75, y75), (76, y76), (77, y77), (78, y78), (79, y79), (80, y80), (81, y81), (82, y82), (83, y83), (84, y84), (85, y85), (86, y86)])), h)
  | _ => none)
  | _ => none)
  | _ => none)
  | .bool false =>
  some (.exit 0, (mkF 89 (up x [(31, y31), (32, y32), (33, y33)])), h)
  | _ => none)
theorem t57_eq (C : CallF) (x0 x1 : Value) (h : Heap) : bodyK Try.prog C Try.f57 [x0, x1] h = t57 C x0 x1 h :=
  (bodyB_eq Try.prog C Try.f57 [x0, x1] h (by kernel_rfl)).trans (by kernel_rfl)
theorem t57k57_7_eq (C : CallF) (x : Nat → Value) (h : Heap) : k57_7 C (mkF 89 x) h = t57k57_7 C x h :=
  link_partF (b := (partOf Try.f57 [1, 1, 1, 1, 1, 1])) (kE := (resultsA Try.prog Try.f57.results.toList)) (rE := (resultsA Try.prog Try.f57.results.toList)) (xE := (fun _ _ _ => none)) (T := t57k57_7 C) (fun x h => by kernel_rfl) x h
theorem t57l57_11111010_eq (C : CallF) (x : Nat → Value) (h : Heap) : codeA Try.prog C (partOf Try.f57 [1, 1, 1, 1, 1, 0, 1, 0, 0]) (mkF 89 x) h = t57l57_11111010 C x h :=
  link_roundF (T := t57l57_11111010 C) (fun x h => by kernel_rfl) x h

/-- (*stolon/disk.Journal).fault -/
noncomputable def t58 (C : CallF) (x0 : Value) (h : Heap) : Out :=
  thenV (some ((.int .i64 0), h)) fun y2 h =>
  thenV (some (x0, h)) fun y4 h =>
  thenV (pu (bin Try.prog .eql 38 y4 (.pointer none)) h) fun y5 h =>
  thenV (some (y5, h)) fun y3 h =>
  (match y3 with
  | .bool true =>
  thenV (some ((.int .i64 1), h)) fun y2_1 h =>
  some (y2_1, h)
  | .bool false =>
  thenV (some (x0, h)) fun y7 h =>
  thenV (pu (nilCheckA y7) h) fun y8 h =>
  thenV (pu (addP y8 0) h) fun y9 h =>
  thenV (ld1 y9 h) fun y10 h =>
  thenV (pu (nilCheckA y10) h) fun y11 h =>
  thenV (pu (addP y11 1) h) fun y12 h =>
  thenV (ld1 y12 h) fun y13 h =>
  thenV (some (y13, h)) fun y14 h =>
  thenV (guardK (bOf y14 == some false) (some (x0, h)) h) fun y15 h =>
  thenV (guardK (bOf y14 == some false) (pu (nilCheckA y15) h) h) fun y16 h =>
  thenV (guardK (bOf y14 == some false) (pu (addP y16 0) h) h) fun y17 h =>
  thenV (guardK (bOf y14 == some false) (ld1 y17 h) h) fun y18 h =>
  thenV (guardK (bOf y14 == some false) (pu (nilCheckA y18) h) h) fun y19 h =>
  thenV (guardK (bOf y14 == some false) (pu (addP y19 5) h) h) fun y20 h =>
  thenV (guardK (bOf y14 == some false) (ld1 y20 h) h) fun y21 h =>
  thenV (guardK (bOf y14 == some false) (some (x0, h)) h) fun y22 h =>
  thenV (guardK (bOf y14 == some false) (pu (nilCheckA y22) h) h) fun y23 h =>
  thenV (guardK (bOf y14 == some false) (pu (addP y23 1) h) h) fun y24 h =>
  thenV (guardK (bOf y14 == some false) (ld1 y24 h) h) fun y25 h =>
  thenV (guardK (bOf y14 == some false) (pu (bin Try.prog .neq 3 y21 y25) h) h) fun y26 h =>
  thenV (match y14 with | .bool t => some (if t then (.bool true) else y26, h) | _ => none) fun y27 h =>
  thenV (some (y27, h)) fun y6 h =>
  (match y6 with
  | .bool true =>
  thenV (some ((.int .i64 9), h)) fun y2_1 h =>
  some (y2_1, h)
  | .bool false =>
  thenV (some ((.int .i64 0), h)) fun y2_1 h =>
  some (y2_1, h)
  | _ => none)
  | _ => none)
theorem t58_eq (C : CallF) (x0 : Value) (h : Heap) : bodyK Try.prog C Try.f58 [x0] h = t58 C x0 h :=
  (bodyB_eq Try.prog C Try.f58 [x0] h (by kernel_rfl)).trans (by kernel_rfl)

/-- stolon/disk.seal -/
noncomputable def t64 (C : CallF) (x0 : Value) (h : Heap) : Out :=
  thenV (some ((.slice none 0 0), h)) fun y2 h =>
  thenV (some (x0, h)) fun y8 h =>
  thenV (C 94 [y8] h) fun y9 h =>
  thenV (some (y9, h)) fun y7 h =>
  thenV (pu (extractA y7 0) h) fun y10 h =>
  thenV (pu (extractA y7 1) h) fun y11 h =>
  thenV (some (y10, h)) fun y3 h =>
  thenV (some (y11, h)) fun y4 h =>
  thenV (mkR 1 1 (.int .u8 0) (.int .i64 128) (.int .i64 128) h) fun y12 h =>
  thenV (some (y12, h)) fun y5 h =>
  thenV (some (y5, h)) fun y13 h =>
  thenV (pu (slR 1 y13 (some (.int .i64 4)) none none) h) fun y14 h =>
  thenV (some (y3, h)) fun y15 h =>
  thenV (copyA 1 y14 y15 h) fun y16 h =>
  thenV (some (y5, h)) fun y17 h =>
  thenV (pu (slR 1 y17 (some (.int .i64 4)) none none) h) fun y18 h =>
  thenV (C 95 [y18] h) fun y19 h =>
  thenV (some (y19, h)) fun y6 h =>
  thenV (some (y5, h)) fun y20 h =>
  thenV (some (y5, h)) fun y21 h =>
  thenV (some (y5, h)) fun y22 h =>
  thenV (some (y5, h)) fun y23 h =>
  thenV (some (y6, h)) fun y24 h =>
  thenV (pu (bin Try.prog .shr 113 y24 (.int .u64 24)) h) fun y25 h =>
  thenV (cvI .u8 y25 h) fun y26 h =>
  thenV (some (y6, h)) fun y27 h =>
  thenV (pu (bin Try.prog .shr 113 y27 (.int .u64 16)) h) fun y28 h =>
  thenV (cvI .u8 y28 h) fun y29 h =>
  thenV (some (y6, h)) fun y30 h =>
  thenV (pu (bin Try.prog .shr 113 y30 (.int .u64 8)) h) fun y31 h =>
  thenV (cvI .u8 y31 h) fun y32 h =>
  thenV (some (y6, h)) fun y33 h =>
  thenV (cvI .u8 y33 h) fun y34 h =>
  thenV (pu (idxS 1 y20 (.int .i64 0)) h) fun y35 h =>
  thenV (stN 1 y35 y26 h) fun _ h =>
  thenV (pu (idxS 1 y21 (.int .i64 1)) h) fun y36 h =>
  thenV (stN 1 y36 y29 h) fun _ h =>
  thenV (pu (idxS 1 y22 (.int .i64 2)) h) fun y37 h =>
  thenV (stN 1 y37 y32 h) fun _ h =>
  thenV (pu (idxS 1 y23 (.int .i64 3)) h) fun y38 h =>
  thenV (stN 1 y38 y34 h) fun _ h =>
  thenV (some (y5, h)) fun y39 h =>
  thenV (some (y39, h)) fun y2_1 h =>
  some (y2_1, h)
theorem t64_eq (C : CallF) (x0 : Value) (h : Heap) : bodyK Try.prog C Try.f64 [x0] h = t64 C x0 h :=
  (bodyB_eq Try.prog C Try.f64 [x0] h (by kernel_rfl)).trans (by kernel_rfl)

/-- (*stolon/disk.Disk).Wipe -/
noncomputable def t81 (C : CallF) (x0 : Value) (h : Heap) : Out :=
  thenV (some ((.int .i64 0), h)) fun y2 h =>
  thenV (some (x0, h)) fun y3 h =>
  thenV (pu (bin Try.prog .eql 27 y3 (.pointer none)) h) fun y4 h =>
  (match y4 with
  | .bool true =>
  thenV (some ((.int .i64 1), h)) fun y2_1 h =>
  some (y2_1, h)
  | .bool false =>
  thenV (some (x0, h)) fun y5 h =>
  thenV (pu (nilCheckA y5) h) fun y6 h =>
  thenV (pu (addP y6 0) h) fun y7 h =>
  thenV (ld1 y7 h) fun y8 h =>
  thenV (clrR (.agg (List.replicate 128 (.int .u8 0)).toArray) 128 y8 h) fun _ h =>
  thenV (some ((.int .i64 0), h)) fun y2_1 h =>
  some (y2_1, h)
  | _ => none)
theorem t81_eq (C : CallF) (x0 : Value) (h : Heap) : bodyK Try.prog C Try.f81 [x0] h = t81 C x0 h :=
  (bodyB_eq Try.prog C Try.f81 [x0] h (by kernel_rfl)).trans (by kernel_rfl)

/-- (*stolon/disk.Disk).open -/
noncomputable def t84 (C : CallF) (x0 x1 : Value) (h : Heap) : Out :=
  thenV (some ((.pointer none), h)) fun y4 h =>
  thenV (some ((.bool false), h)) fun y5 h =>
  thenV (some (x0, h)) fun y8 h =>
  thenV (pu (nilCheckA y8) h) fun y9 h =>
  thenV (pu (addP y9 0) h) fun y10 h =>
  thenV (ld1 y10 h) fun y11 h =>
  thenV (some (x1, h)) fun y12 h =>
  thenV (pu (idxS 128 y11 y12) h) fun y13 h =>
  thenV (pu (sliceArr 128 1 y13 none none none) h) fun y14 h =>
  thenV (C 105 [y14] h) fun y15 h =>
  thenV (some (y15, h)) fun y6 h =>
  thenV (some (y6, h)) fun y16 h =>
  thenV (C 85 [y16] h) fun y17 h =>
  thenV (some (y17, h)) fun y7 h =>
  thenV (some (y6, h)) fun y18 h =>
  thenV (some (y7, h)) fun y19 h =>
  thenV (some (x0, h)) fun y20 h =>
  thenV (pu (nilCheckA y20) h) fun y21 h =>
  thenV (pu (addP y21 0) h) fun y22 h =>
  thenV (ld1 y22 h) fun y23 h =>
  thenV (some (x1, h)) fun y24 h =>
  thenV (pu (idxS 128 y23 y24) h) fun y25 h =>
  thenV (pu (sliceArr 128 1 y25 (some (.int .i64 4)) none none) h) fun y26 h =>
  thenV (C 95 [y26] h) fun y27 h =>
  thenV (pu (bin Try.prog .eql 113 y19 y27) h) fun y28 h =>
  thenV (some (y18, h)) fun y4_1 h =>
  thenV (some (y28, h)) fun y5_1 h =>
  some (.tuple #[y4_1, y5_1], h)
theorem t84_eq (C : CallF) (x0 x1 : Value) (h : Heap) : bodyK Try.prog C Try.f84 [x0, x1] h = t84 C x0 x1 h :=
  (bodyB_eq Try.prog C Try.f84 [x0, x1] h (by kernel_rfl)).trans (by kernel_rfl)

end Go.Proofs.Ytcmfgmhadeeieaa
