/-
  Printed by a program: the texts of some of the seat's functions, each linked to the program.
  Conditions: none.
-/
import Derived.Test.YtcmfgmhadeeieaaA28
import Derived.Test.YtcmfgmhadeeieaaProg
import Derived.KernelRfl
namespace Go.Proofs.Ytcmfgmhadeeieaa
open Go Go.Abs
/-- stolon/digest.NewWriter -/
noncomputable def t60 (C : CallF) (x0 : Value) (h : Heap) : Out :=
  thenV (some ((.pointer none), h)) fun y2 h =>
  thenV (some (x0, h)) fun y3 h =>
  thenV (pu (minmax true (.int .i64 0) [y3]) h) fun y4 h =>
  thenV (pu (bldR [(.int .i64 0), (.bool false), (.slice none 0 0)] [(0, 1, y4)]) h) fun y5 h =>
  thenV (box y5 h) fun y6 h =>
  thenV (some (y6, h)) fun y2_1 h =>
  some (y2_1, h)
theorem t60_eq (C : CallF) (x0 : Value) (h : Heap) : bodyK Try.prog C Try.f60 [x0] h = t60 C x0 h :=
  (bodyB_eq Try.prog C Try.f60 [x0] h (by kernel_rfl)).trans (by kernel_rfl)

/-- (*stolon/digest.Writer).U32 -/
noncomputable def t61 (C : CallF) (x0 x1 : Value) (h : Heap) : Out :=
  thenV (some (x0, h)) fun y4 h =>
  thenV (some (x1, h)) fun y5 h =>
  thenV (cvI .u64 y5 h) fun y6 h =>
  thenV (C 93 [y4, y6, (.int .i64 4)] h) fun y7 h =>
  some (.tuple #[], h)
theorem t61_eq (C : CallF) (x0 x1 : Value) (h : Heap) : bodyK Try.prog C Try.f61 [x0, x1] h = t61 C x0 x1 h :=
  (bodyB_eq Try.prog C Try.f61 [x0, x1] h (by kernel_rfl)).trans (by kernel_rfl)

/-- (*stolon/digest.Writer).U64 -/
noncomputable def t62 (C : CallF) (x0 x1 : Value) (h : Heap) : Out :=
  thenV (some (x0, h)) fun y4 h =>
  thenV (some (x1, h)) fun y5 h =>
  thenV (C 93 [y4, y5, (.int .i64 8)] h) fun y6 h =>
  some (.tuple #[], h)
theorem t62_eq (C : CallF) (x0 x1 : Value) (h : Heap) : bodyK Try.prog C Try.f62 [x0, x1] h = t62 C x0 x1 h :=
  (bodyB_eq Try.prog C Try.f62 [x0, x1] h (by kernel_rfl)).trans (by kernel_rfl)

/-- (*stolon/digest.Writer).U8 -/
noncomputable def t63 (C : CallF) (x0 x1 : Value) (h : Heap) : Out :=
  thenV (some (x0, h)) fun y4 h =>
  thenV (some (x1, h)) fun y5 h =>
  thenV (cvI .u64 y5 h) fun y6 h =>
  thenV (C 93 [y4, y6, (.int .i64 1)] h) fun y7 h =>
  some (.tuple #[], h)
theorem t63_eq (C : CallF) (x0 x1 : Value) (h : Heap) : bodyK Try.prog C Try.f63 [x0, x1] h = t63 C x0 x1 h :=
  (bodyB_eq Try.prog C Try.f63 [x0, x1] h (by kernel_rfl)).trans (by kernel_rfl)

/-- (*stolon/digest.Reader).U32 -/
noncomputable def t85 (C : CallF) (x0 : Value) (h : Heap) : Out :=
  thenV (some ((.int .u32 0), h)) fun y2 h =>
  thenV (some (x0, h)) fun y3 h =>
  thenV (C 106 [y3, (.int .i64 4)] h) fun y4 h =>
  thenV (cvI .u32 y4 h) fun y5 h =>
  thenV (some (y5, h)) fun y2_1 h =>
  some (y2_1, h)
theorem t85_eq (C : CallF) (x0 : Value) (h : Heap) : bodyK Try.prog C Try.f85 [x0] h = t85 C x0 h :=
  (bodyB_eq Try.prog C Try.f85 [x0] h (by kernel_rfl)).trans (by kernel_rfl)

/-- (*stolon/digest.Reader).U64 -/
noncomputable def t86 (C : CallF) (x0 : Value) (h : Heap) : Out :=
  thenV (some ((.int .u64 0), h)) fun y2 h =>
  thenV (some (x0, h)) fun y3 h =>
  thenV (C 106 [y3, (.int .i64 8)] h) fun y4 h =>
  thenV (some (y4, h)) fun y2_1 h =>
  some (y2_1, h)
theorem t86_eq (C : CallF) (x0 : Value) (h : Heap) : bodyK Try.prog C Try.f86 [x0] h = t86 C x0 h :=
  (bodyB_eq Try.prog C Try.f86 [x0] h (by kernel_rfl)).trans (by kernel_rfl)

/-- (*stolon/digest.Reader).U8 -/
noncomputable def t87 (C : CallF) (x0 : Value) (h : Heap) : Out :=
  thenV (some ((.int .u8 0), h)) fun y2 h =>
  thenV (some (x0, h)) fun y3 h =>
  thenV (C 106 [y3, (.int .i64 1)] h) fun y4 h =>
  thenV (cvI .u8 y4 h) fun y5 h =>
  thenV (some (y5, h)) fun y2_1 h =>
  some (y2_1, h)
theorem t87_eq (C : CallF) (x0 : Value) (h : Heap) : bodyK Try.prog C Try.f87 [x0] h = t87 C x0 h :=
  (bodyB_eq Try.prog C Try.f87 [x0] h (by kernel_rfl)).trans (by kernel_rfl)

/-- (*stolon/digest.Reader).U16 -/
noncomputable def t88 (C : CallF) (x0 : Value) (h : Heap) : Out :=
  thenV (some ((.int .u16 0), h)) fun y2 h =>
  thenV (some (x0, h)) fun y3 h =>
  thenV (C 106 [y3, (.int .i64 2)] h) fun y4 h =>
  thenV (cvI .u16 y4 h) fun y5 h =>
  thenV (some (y5, h)) fun y2_1 h =>
  some (y2_1, h)
theorem t88_eq (C : CallF) (x0 : Value) (h : Heap) : bodyK Try.prog C Try.f88 [x0] h = t88 C x0 h :=
  (bodyB_eq Try.prog C Try.f88 [x0] h (by kernel_rfl)).trans (by kernel_rfl)

/-- (*stolon/digest.Reader).Raw -/
noncomputable def t89 (C : CallF) (x0 x1 : Value) (h : Heap) : Out :=
  thenV (some ((.slice none 0 0), h)) fun y4 h =>
  thenV (some (x0, h)) fun y5 h =>
  thenV (some (x1, h)) fun y6 h =>
  thenV (C 108 [y5, y6] h) fun y7 h =>
  thenV (C 107 [y7] h) fun y8 h =>
  thenV (some (y8, h)) fun y4_1 h =>
  some (y4_1, h)
theorem t89_eq (C : CallF) (x0 x1 : Value) (h : Heap) : bodyK Try.prog C Try.f89 [x0, x1] h = t89 C x0 x1 h :=
  (bodyB_eq Try.prog C Try.f89 [x0, x1] h (by kernel_rfl)).trans (by kernel_rfl)

/-- (*stolon/digest.Reader).Err -/
noncomputable def t90 (C : CallF) (x0 : Value) (h : Heap) : Out :=
  thenV (some ((.int .i64 0), h)) fun y2 h =>
  thenV (some (x0, h)) fun y3 h =>
  thenV (pu (bin Try.prog .eql 134 y3 (.pointer none)) h) fun y4 h =>
  (match y4 with
  | .bool true =>
  thenV (some ((.int .i64 1), h)) fun y2_1 h =>
  some (y2_1, h)
  | .bool false =>
  thenV (some (x0, h)) fun y5 h =>
  thenV (pu (nilCheckA y5) h) fun y6 h =>
  thenV (pu (addP y6 1) h) fun y7 h =>
  thenV (ld1 y7 h) fun y8 h =>
  thenV (some (y8, h)) fun y2_1 h =>
  some (y2_1, h)
  | _ => none)
theorem t90_eq (C : CallF) (x0 : Value) (h : Heap) : bodyK Try.prog C Try.f90 [x0] h = t90 C x0 h :=
  (bodyB_eq Try.prog C Try.f90 [x0] h (by kernel_rfl)).trans (by kernel_rfl)

/-- (*stolon/digest.Writer).U16 -/
noncomputable def t91 (C : CallF) (x0 x1 : Value) (h : Heap) : Out :=
  thenV (some (x0, h)) fun y4 h =>
  thenV (some (x1, h)) fun y5 h =>
  thenV (cvI .u64 y5 h) fun y6 h =>
  thenV (C 93 [y4, y6, (.int .i64 2)] h) fun y7 h =>
  some (.tuple #[], h)
theorem t91_eq (C : CallF) (x0 x1 : Value) (h : Heap) : bodyK Try.prog C Try.f91 [x0, x1] h = t91 C x0 x1 h :=
  (bodyB_eq Try.prog C Try.f91 [x0, x1] h (by kernel_rfl)).trans (by kernel_rfl)

/-- (*stolon/digest.Writer).Text -/
noncomputable def t92 (C : CallF) (x0 x1 : Value) (h : Heap) : Out :=
  thenV (some (x0, h)) fun y4 h =>
  thenV (pu (bin Try.prog .eql 110 y4 (.pointer none)) h) fun y5 h =>
  (match y5 with
  | .bool true =>
  some (.tuple #[], h)
  | .bool false =>
  thenV (some (x1, h)) fun y6 h =>
  thenV (pu (lenL y6) h) fun y7 h =>
  thenV (pu (bin Try.prog .gtr 3 y7 (.int .i64 65535)) h) fun y8 h =>
  (match y8 with
  | .bool true =>
  thenV (some (x0, h)) fun y9 h =>
  thenV (pu (nilCheckA y9) h) fun y10 h =>
  thenV (pu (addP y10 1) h) fun y11 h =>
  thenV (stN 1 y11 (.bool true) h) fun _ h =>
  some (.tuple #[], h)
  | .bool false =>
  thenV (some (x0, h)) fun y12 h =>
  thenV (some (x1, h)) fun y13 h =>
  thenV (pu (lenL y13) h) fun y14 h =>
  thenV (pu (bin Try.prog .add 3 y14 (.int .i64 2)) h) fun y15 h =>
  thenV (C 109 [y12, y15] h) fun y16 h =>
  (match y16 with
  | .bool true =>
  thenV (some (x0, h)) fun y17 h =>
  thenV (some (x0, h)) fun y18 h =>
  thenV (pu (nilCheckA y18) h) fun y19 h =>
  thenV (pu (addP y19 2) h) fun y20 h =>
  thenV (ld1 y20 h) fun y21 h =>
  thenV (some (x1, h)) fun y22 h =>
  thenV (pu (lenL y22) h) fun y23 h =>
  thenV (pu (bin Try.prog .shr 3 y23 (.int .u64 8)) h) fun y24 h =>
  thenV (cvI .u8 y24 h) fun y25 h =>
  thenV (some (x1, h)) fun y26 h =>
  thenV (pu (lenL y26) h) fun y27 h =>
  thenV (cvI .u8 y27 h) fun y28 h =>
  thenV (bslR 1 (.int .u8 0) 2 [(0, y25), (1, y28)] h) fun y29 h =>
  thenV (appendA 1 1 y21 y29 h) fun y30 h =>
  thenV (pu (nilCheckA y17) h) fun y31 h =>
  thenV (pu (addP y31 2) h) fun y32 h =>
  thenV (stN 1 y32 y30 h) fun _ h =>
  thenV (some (x0, h)) fun y33 h =>
  thenV (some (x0, h)) fun y34 h =>
  thenV (pu (nilCheckA y34) h) fun y35 h =>
  thenV (pu (addP y35 2) h) fun y36 h =>
  thenV (ld1 y36 h) fun y37 h =>
  thenV (some (x1, h)) fun y38 h =>
  thenV (appendA 1 1 y37 y38 h) fun y39 h =>
  thenV (pu (nilCheckA y33) h) fun y40 h =>
  thenV (pu (addP y40 2) h) fun y41 h =>
  thenV (stN 1 y41 y39 h) fun _ h =>
  some (.tuple #[], h)
  | .bool false =>
  some (.tuple #[], h)
  | _ => none)
  | _ => none)
  | _ => none)
theorem t92_eq (C : CallF) (x0 x1 : Value) (h : Heap) : bodyK Try.prog C Try.f92 [x0, x1] h = t92 C x0 x1 h :=
  (bodyB_eq Try.prog C Try.f92 [x0, x1] h (by kernel_rfl)).trans (by kernel_rfl)

noncomputable def b93_2 (C : CallF) (i : Nat) (e : Env) (h : Heap) : Out := if i = 0 then (resultsA Try.prog Try.f93.results.toList) e h else (fun _ _ _ => none) i e h
/-- (*stolon/digest.Writer).number -/
noncomputable def t93 (C : CallF) (x0 x1 x2 : Value) (h : Heap) : Out :=
  thenV (some (x0, h)) fun y7 h =>
  thenV (some (x2, h)) fun y8 h =>
  thenV (C 109 [y7, y8] h) fun y9 h =>
  (match y9 with
  | .bool true =>
  thenV (some (x2, h)) fun y10 h =>
  thenV (pu (bin Try.prog .sub 3 y10 (.int .i64 1)) h) fun y11 h =>
  thenV (some (y11, h)) fun y6 h =>
  endL (iter (codeA Try.prog C (partOf Try.f93 [1, 0, 1, 0, 0])) rounds (mkF 30 (up (bs [x0, x1, x2]) [(6, y6), (7, y7), (8, y8), (9, y9), (10, y10), (11, y11)])) h) (resultsA Try.prog Try.f93.results.toList) (b93_2 C)
  | .bool false =>
  some (.tuple #[], h)
  | _ => none)
noncomputable def t93l93_1010 (C : CallF) (x : Nat → Value) (h : Heap) : Option (Ex × Env × Heap) :=
  thenV (some ((x 6), h)) fun y12 h =>
  thenV (pu (bin Try.prog .geq 3 y12 (.int .i64 0)) h) fun y13 h =>
  (match y13 with
  | .bool true =>
  thenV (some ((x 0), h)) fun y16 h =>
  thenV (some ((x 0), h)) fun y17 h =>
  thenV (pu (nilCheckA y17) h) fun y18 h =>
  thenV (pu (addP y18 2) h) fun y19 h =>
  thenV (ld1 y19 h) fun y20 h =>
  thenV (some ((x 1), h)) fun y21 h =>
  thenV (some ((x 6), h)) fun y22 h =>
  thenV (pu (bin Try.prog .mul 3 (.int .i64 8) y22) h) fun y23 h =>
  thenV (pu (bin Try.prog .shr 58 y21 y23) h) fun y24 h =>
  thenV (cvI .u8 y24 h) fun y25 h =>
  thenV (bslR 1 (.int .u8 0) 1 [(0, y25)] h) fun y26 h =>
  thenV (appendA 1 1 y20 y26 h) fun y27 h =>
  thenV (pu (nilCheckA y16) h) fun y28 h =>
  thenV (pu (addP y28 2) h) fun y29 h =>
  thenV (stN 1 y29 y27 h) fun _ h =>
  thenV (some ((x 6), h)) fun y14 h =>
  thenV (pu (bin Try.prog .sub 3 y14 (.int .i64 1)) h) fun y15 h =>
  thenV (some (y15, h)) fun y6 h =>
  some (.normal, (mkF 30 (up x [(6, y6), (12, y12), (13, y13), (14, y14), (15, y15), (16, y16), (17, y17), (18, y18), (19, y19), (20, y20), (21, y21), (22, y22), (23, y23), (24, y24), (25, y25), (26, y26), (27, y27), (28, y28), (29, y29)])), h)
  | .bool false =>
  some (.exit 0, (mkF 30 (up x [(12, y12), (13, y13)])), h)
  | _ => none)
theorem t93_eq (C : CallF) (x0 x1 x2 : Value) (h : Heap) : bodyK Try.prog C Try.f93 [x0, x1, x2] h = t93 C x0 x1 x2 h :=
  (bodyB_eq Try.prog C Try.f93 [x0, x1, x2] h (by kernel_rfl)).trans (by kernel_rfl)
theorem t93l93_1010_eq (C : CallF) (x : Nat → Value) (h : Heap) : codeA Try.prog C (partOf Try.f93 [1, 0, 1, 0, 0]) (mkF 30 x) h = t93l93_1010 C x h :=
  link_roundF (T := t93l93_1010 C) (fun x h => by kernel_rfl) x h

/-- (*stolon/digest.Writer).Bytes -/
noncomputable def t94 (C : CallF) (x0 : Value) (h : Heap) : Out :=
  thenV (some ((.slice none 0 0), h)) fun y2 h =>
  thenV (some ((.int .i64 0), h)) fun y3 h =>
  thenV (some (x0, h)) fun y5 h =>
  thenV (pu (bin Try.prog .eql 110 y5 (.pointer none)) h) fun y6 h =>
  thenV (some (y6, h)) fun y4 h =>
  (match y4 with
  | .bool true =>
  thenV (some ((.slice none 0 0), h)) fun y2_1 h =>
  thenV (some ((.int .i64 1), h)) fun y3_1 h =>
  some (.tuple #[y2_1, y3_1], h)
  | .bool false =>
  thenV (some (x0, h)) fun y8 h =>
  thenV (pu (nilCheckA y8) h) fun y9 h =>
  thenV (pu (addP y9 1) h) fun y10 h =>
  thenV (ld1 y10 h) fun y11 h =>
  thenV (some (y11, h)) fun y7 h =>
  (match y7 with
  | .bool true =>
  thenV (some ((.slice none 0 0), h)) fun y2_1 h =>
  thenV (some ((.int .i64 3), h)) fun y3_1 h =>
  some (.tuple #[y2_1, y3_1], h)
  | .bool false =>
  thenV (some (x0, h)) fun y12 h =>
  thenV (pu (nilCheckA y12) h) fun y13 h =>
  thenV (pu (addP y13 2) h) fun y14 h =>
  thenV (ld1 y14 h) fun y15 h =>
  thenV (C 107 [y15] h) fun y16 h =>
  thenV (some (y16, h)) fun y2_1 h =>
  thenV (some ((.int .i64 0), h)) fun y3_1 h =>
  some (.tuple #[y2_1, y3_1], h)
  | _ => none)
  | _ => none)
theorem t94_eq (C : CallF) (x0 : Value) (h : Heap) : bodyK Try.prog C Try.f94 [x0] h = t94 C x0 h :=
  (bodyB_eq Try.prog C Try.f94 [x0] h (by kernel_rfl)).trans (by kernel_rfl)

noncomputable def k95_2 (C : CallF) (e : Env) (h : Heap) : Out := codeK Try.prog C (partOf Try.f95 [1, 1, 1]) e h (resultsA Try.prog Try.f95.results.toList) (resultsA Try.prog Try.f95.results.toList) (fun _ _ _ => none)
noncomputable def b95_4 (C : CallF) (i : Nat) (e : Env) (h : Heap) : Out := if i = 0 then (k95_2 C) e h else (fun _ _ _ => none) i e h
noncomputable def k95_6 (C : CallF) (e : Env) (h : Heap) : Out := codeK Try.prog C (partOf Try.f95 [1, 1, 1, 1, 1]) e h (resultsA Try.prog Try.f95.results.toList) (resultsA Try.prog Try.f95.results.toList) (fun _ _ _ => none)
noncomputable def b95_8 (C : CallF) (i : Nat) (e : Env) (h : Heap) : Out := if i = 4 then (k95_6 C) e h else (fun _ _ _ => none) i e h
noncomputable def k95_11 (C : CallF) (e : Env) (h : Heap) : Option (Ex × Env × Heap) := codeK Try.prog C (partOf Try.f95 [1, 1, 0, 1, 0, 0, 1, 1, 1]) e h (fun e h => some (Ex.normal, e, h)) (fun e h => some (Ex.ret, e, h)) (fun i e h => some (Ex.exit i, e, h))
noncomputable def b95_12 (C : CallF) (i : Nat) (e : Env) (h : Heap) : Option (Ex × Env × Heap) := if i = 1 then (k95_11 C) e h else (fun i e h => some (Ex.exit i, e, h)) i e h
noncomputable def k95_15 (C : CallF) (e : Env) (h : Heap) : Option (Ex × Env × Heap) := codeK Try.prog C (partOf Try.f95 [1, 1, 0, 1, 0, 0, 1, 1, 0, 0, 1, 1, 1]) e h (k95_11 C) (fun e h => some (Ex.ret, e, h)) (b95_12 C)
noncomputable def b95_17 (C : CallF) (i : Nat) (e : Env) (h : Heap) : Option (Ex × Env × Heap) := if i = 2 then (k95_15 C) e h else (b95_12 C) i e h
/-- stolon/digest.CRC32C -/
noncomputable def t95 (C : CallF) (x0 : Value) (h : Heap) : Out :=
  thenV (some ((.int .u32 0), h)) fun y2 h =>
  thenV (newC (List.replicate 16 (.int .u32 0)) h) fun y3 h =>
  thenV (some ((.int .i64 0), h)) fun y9 h =>
  endL (iter (codeA Try.prog C (partOf Try.f95 [1, 1, 0, 1, 0, 0])) rounds (mkF 54 (up (bs [x0]) [(2, y2), (3, y3), (9, y9)])) h) (resultsA Try.prog Try.f95.results.toList) (b95_4 C)
noncomputable def t95k95_2 (C : CallF) (x : Nat → Value) (h : Heap) : Out :=
  thenV (some ((.int .u32 4294967295), h)) fun y6 h =>
  thenV (some ((x 0), h)) fun y27 h =>
  thenV (pu (lenL y27) h) fun y28 h =>
  thenV (some ((.int .i64 0), h)) fun y29 h =>
  endL (iter (codeA Try.prog C (partOf Try.f95 [1, 1, 1, 1, 0, 1, 0, 0])) rounds (mkF 54 (up x [(6, y6), (27, y27), (28, y28), (29, y29)])) h) (resultsA Try.prog Try.f95.results.toList) (b95_8 C)
noncomputable def t95l95_11010 (C : CallF) (x : Nat → Value) (h : Heap) : Option (Ex × Env × Heap) :=
  thenV (pu (bin Try.prog .lss 3 (x 9) (.int .i64 16)) h) fun y10 h =>
  (match y10 with
  | .bool true =>
  thenV (some ((x 9), h)) fun y11 h =>
  thenV (some (y11, h)) fun y4 h =>
  thenV (some (y4, h)) fun y12 h =>
  thenV (cvI .u32 y12 h) fun y13 h =>
  thenV (some (y13, h)) fun y5 h =>
  thenV (some ((.int .i64 0), h)) fun y14 h =>
  endL (iter (codeA Try.prog C (partOf Try.f95 [1, 1, 0, 1, 0, 0, 1, 1, 0, 0, 1, 1, 0, 1, 0, 0])) rounds (mkF 54 (up x [(4, y4), (5, y5), (10, y10), (11, y11), (12, y12), (13, y13), (14, y14)])) h) (fun e h => some (Ex.ret, e, h)) (b95_17 C)
  | .bool false =>
  some (.exit 0, (mkF 54 (up x [(10, y10)])), h)
  | _ => none)
noncomputable def t95k95_6 (C : CallF) (x : Nat → Value) (h : Heap) : Out :=
  thenV (some ((x 6), h)) fun y52 h =>
  thenV (pu (unA .xor y52) h) fun y53 h =>
  thenV (some (y53, h)) fun y2 h =>
  some (y2, h)
noncomputable def t95l95_1111010 (C : CallF) (x : Nat → Value) (h : Heap) : Option (Ex × Env × Heap) :=
  thenV (pu (bin Try.prog .lss 3 (x 29) (x 28)) h) fun y30 h =>
  (match y30 with
  | .bool true =>
  thenV (pu (idxS 1 (x 27) (x 29)) h) fun y31 h =>
  thenV (ld1 y31 h) fun y32 h =>
  thenV (some (y32, h)) fun y8 h =>
  thenV (some ((x 6), h)) fun y33 h =>
  thenV (some (y8, h)) fun y34 h =>
  thenV (cvI .u32 y34 h) fun y35 h =>
  thenV (pu (bin Try.prog .xor 113 y33 y35) h) fun y36 h =>
  thenV (some (y36, h)) fun y6 h =>
  thenV (some (y6, h)) fun y37 h =>
  thenV (pu (bin Try.prog .and 113 y37 (.int .u32 15)) h) fun y38 h =>
  thenV (pu (idxA 16 1 (x 3) y38) h) fun y39 h =>
  thenV (ld1 y39 h) fun y40 h =>
  thenV (some (y6, h)) fun y41 h =>
  thenV (pu (bin Try.prog .shr 113 y41 (.int .u64 4)) h) fun y42 h =>
  thenV (pu (bin Try.prog .xor 113 y40 y42) h) fun y43 h =>
  thenV (some (y43, h)) fun y6_1 h =>
  thenV (some (y6_1, h)) fun y44 h =>
  thenV (pu (bin Try.prog .and 113 y44 (.int .u32 15)) h) fun y45 h =>
  thenV (pu (idxA 16 1 (x 3) y45) h) fun y46 h =>
  thenV (ld1 y46 h) fun y47 h =>
  thenV (some (y6_1, h)) fun y48 h =>
  thenV (pu (bin Try.prog .shr 113 y48 (.int .u64 4)) h) fun y49 h =>
  thenV (pu (bin Try.prog .xor 113 y47 y49) h) fun y50 h =>
  thenV (some (y50, h)) fun y6_2 h =>
  thenV (pu (bin Try.prog .add 3 (x 29) (.int .i64 1)) h) fun y51 h =>
  thenV (some (y51, h)) fun y29 h =>
  some (.normal, (mkF 54 (up x [(6, y6_2), (8, y8), (29, y29), (30, y30), (31, y31), (32, y32), (33, y33), (34, y34), (35, y35), (36, y36), (37, y37), (38, y38), (39, y39), (40, y40), (41, y41), (42, y42), (43, y43), (44, y44), (45, y45), (46, y46), (47, y47), (48, y48), (49, y49), (50, y50), (51, y51)])), h)
  | .bool false =>
  some (.exit 4, (mkF 54 (up x [(30, y30)])), h)
  | _ => none)
noncomputable def t95k95_11 (C : CallF) (x : Nat → Value) (h : Heap) : Option (Ex × Env × Heap) :=
  thenV (pu (bin Try.prog .add 3 (x 9) (.int .i64 1)) h) fun y26 h =>
  thenV (some (y26, h)) fun y9 h =>
  some (.normal, (mkF 54 (up x [(9, y9), (26, y26)])), h)
noncomputable def t95k95_15 (C : CallF) (x : Nat → Value) (h : Heap) : Option (Ex × Env × Heap) :=
  thenV (some ((x 4), h)) fun y23 h =>
  thenV (some ((x 5), h)) fun y24 h =>
  thenV (pu (idxA 16 1 (x 3) y23) h) fun y25 h =>
  thenV (stN 1 y25 y24 h) fun _ h =>
  k95_11 C (mkF 54 (up x [(23, y23), (24, y24), (25, y25)])) h
noncomputable def t95l95_110100110011010 (C : CallF) (x : Nat → Value) (h : Heap) : Option (Ex × Env × Heap) :=
  thenV (pu (bin Try.prog .lss 3 (x 14) (.int .i64 4)) h) fun y15 h =>
  (match y15 with
  | .bool true =>
  thenV (some ((x 5), h)) fun y16 h =>
  thenV (pu (bin Try.prog .shr 113 y16 (.int .u64 1)) h) fun y17 h =>
  thenV (some ((x 5), h)) fun y18 h =>
  thenV (pu (bin Try.prog .and 113 y18 (.int .u32 1)) h) fun y19 h =>
  thenV (pu (bin Try.prog .mul 113 (.int .u32 2197175160) y19) h) fun y20 h =>
  thenV (pu (bin Try.prog .xor 113 y17 y20) h) fun y21 h =>
  thenV (some (y21, h)) fun y5 h =>
  thenV (pu (bin Try.prog .add 3 (x 14) (.int .i64 1)) h) fun y22 h =>
  thenV (some (y22, h)) fun y14 h =>
  some (.normal, (mkF 54 (up x [(5, y5), (14, y14), (15, y15), (16, y16), (17, y17), (18, y18), (19, y19), (20, y20), (21, y21), (22, y22)])), h)
  | .bool false =>
  some (.exit 2, (mkF 54 (up x [(15, y15)])), h)
  | _ => none)
theorem t95_eq (C : CallF) (x0 : Value) (h : Heap) : bodyK Try.prog C Try.f95 [x0] h = t95 C x0 h :=
  (bodyB_eq Try.prog C Try.f95 [x0] h (by kernel_rfl)).trans (by kernel_rfl)
theorem t95k95_2_eq (C : CallF) (x : Nat → Value) (h : Heap) : k95_2 C (mkF 54 x) h = t95k95_2 C x h :=
  link_partF (b := (partOf Try.f95 [1, 1, 1])) (kE := (resultsA Try.prog Try.f95.results.toList)) (rE := (resultsA Try.prog Try.f95.results.toList)) (xE := (fun _ _ _ => none)) (T := t95k95_2 C) (fun x h => by kernel_rfl) x h
theorem t95l95_11010_eq (C : CallF) (x : Nat → Value) (h : Heap) : codeA Try.prog C (partOf Try.f95 [1, 1, 0, 1, 0, 0]) (mkF 54 x) h = t95l95_11010 C x h :=
  link_roundF (T := t95l95_11010 C) (fun x h => by kernel_rfl) x h
theorem t95k95_6_eq (C : CallF) (x : Nat → Value) (h : Heap) : k95_6 C (mkF 54 x) h = t95k95_6 C x h :=
  link_partF (b := (partOf Try.f95 [1, 1, 1, 1, 1])) (kE := (resultsA Try.prog Try.f95.results.toList)) (rE := (resultsA Try.prog Try.f95.results.toList)) (xE := (fun _ _ _ => none)) (T := t95k95_6 C) (fun x h => by kernel_rfl) x h
theorem t95l95_1111010_eq (C : CallF) (x : Nat → Value) (h : Heap) : codeA Try.prog C (partOf Try.f95 [1, 1, 1, 1, 0, 1, 0, 0]) (mkF 54 x) h = t95l95_1111010 C x h :=
  link_roundF (T := t95l95_1111010 C) (fun x h => by kernel_rfl) x h
theorem t95k95_11_eq (C : CallF) (x : Nat → Value) (h : Heap) : k95_11 C (mkF 54 x) h = t95k95_11 C x h :=
  link_partF (b := (partOf Try.f95 [1, 1, 0, 1, 0, 0, 1, 1, 1])) (kE := (fun e h => some (Ex.normal, e, h))) (rE := (fun e h => some (Ex.ret, e, h))) (xE := (fun i e h => some (Ex.exit i, e, h))) (T := t95k95_11 C) (fun x h => by kernel_rfl) x h
theorem t95k95_15_eq (C : CallF) (x : Nat → Value) (h : Heap) : k95_15 C (mkF 54 x) h = t95k95_15 C x h :=
  link_partF (b := (partOf Try.f95 [1, 1, 0, 1, 0, 0, 1, 1, 0, 0, 1, 1, 1])) (kE := (k95_11 C)) (rE := (fun e h => some (Ex.ret, e, h))) (xE := (b95_12 C)) (T := t95k95_15 C) (fun x h => by kernel_rfl) x h
theorem t95l95_110100110011010_eq (C : CallF) (x : Nat → Value) (h : Heap) : codeA Try.prog C (partOf Try.f95 [1, 1, 0, 1, 0, 0, 1, 1, 0, 0, 1, 1, 0, 1, 0, 0]) (mkF 54 x) h = t95l95_110100110011010 C x h :=
  link_roundF (T := t95l95_110100110011010 C) (fun x h => by kernel_rfl) x h

/-- stolon/digest.NewReader -/
noncomputable def t105 (C : CallF) (x0 : Value) (h : Heap) : Out :=
  thenV (some ((.pointer none), h)) fun y2 h =>
  thenV (some (x0, h)) fun y3 h =>
  thenV (C 107 [y3] h) fun y4 h =>
  thenV (pu (bldR [(.slice none 0 0), (.int .i64 0)] [(0, 1, y4)]) h) fun y5 h =>
  thenV (box y5 h) fun y6 h =>
  thenV (some (y6, h)) fun y2_1 h =>
  some (y2_1, h)
theorem t105_eq (C : CallF) (x0 : Value) (h : Heap) : bodyK Try.prog C Try.f105 [x0] h = t105 C x0 h :=
  (bodyB_eq Try.prog C Try.f105 [x0] h (by kernel_rfl)).trans (by kernel_rfl)

noncomputable def k106_2 (C : CallF) (e : Env) (h : Heap) : Out := codeK Try.prog C (partOf Try.f106 [1, 1, 1]) e h (resultsA Try.prog Try.f106.results.toList) (resultsA Try.prog Try.f106.results.toList) (fun _ _ _ => none)
noncomputable def b106_4 (C : CallF) (i : Nat) (e : Env) (h : Heap) : Out := if i = 0 then (k106_2 C) e h else (fun _ _ _ => none) i e h
/-- (*stolon/digest.Reader).number -/
noncomputable def t106 (C : CallF) (x0 x1 : Value) (h : Heap) : Out :=
  thenV (some ((.int .u64 0), h)) fun y4 h =>
  thenV (some ((.int .u64 0), h)) fun y5 h =>
  thenV (some (x0, h)) fun y8 h =>
  thenV (some (x1, h)) fun y9 h =>
  thenV (C 108 [y8, y9] h) fun y10 h =>
  thenV (pu (lenL y10) h) fun y11 h =>
  thenV (some ((.int .i64 0), h)) fun y12 h =>
  endL (iter (codeA Try.prog C (partOf Try.f106 [1, 1, 0, 1, 0, 0])) rounds (mkF 23 (up (bs [x0, x1]) [(4, y4), (5, y5), (8, y8), (9, y9), (10, y10), (11, y11), (12, y12)])) h) (resultsA Try.prog Try.f106.results.toList) (b106_4 C)
noncomputable def t106k106_2 (C : CallF) (x : Nat → Value) (h : Heap) : Out :=
  thenV (some ((x 5), h)) fun y22 h =>
  thenV (some (y22, h)) fun y4 h =>
  some (y4, h)
noncomputable def t106l106_11010 (C : CallF) (x : Nat → Value) (h : Heap) : Option (Ex × Env × Heap) :=
  thenV (pu (bin Try.prog .lss 3 (x 12) (x 11)) h) fun y13 h =>
  (match y13 with
  | .bool true =>
  thenV (pu (idxS 1 (x 10) (x 12)) h) fun y14 h =>
  thenV (ld1 y14 h) fun y15 h =>
  thenV (some (y15, h)) fun y7 h =>
  thenV (some ((x 5), h)) fun y16 h =>
  thenV (pu (bin Try.prog .shl 58 y16 (.int .u64 8)) h) fun y17 h =>
  thenV (some (y7, h)) fun y18 h =>
  thenV (cvI .u64 y18 h) fun y19 h =>
  thenV (pu (bin Try.prog .or 58 y17 y19) h) fun y20 h =>
  thenV (some (y20, h)) fun y5 h =>
  thenV (pu (bin Try.prog .add 3 (x 12) (.int .i64 1)) h) fun y21 h =>
  thenV (some (y21, h)) fun y12 h =>
  some (.normal, (mkF 23 (up x [(5, y5), (7, y7), (12, y12), (13, y13), (14, y14), (15, y15), (16, y16), (17, y17), (18, y18), (19, y19), (20, y20), (21, y21)])), h)
  | .bool false =>
  some (.exit 0, (mkF 23 (up x [(13, y13)])), h)
  | _ => none)
theorem t106_eq (C : CallF) (x0 x1 : Value) (h : Heap) : bodyK Try.prog C Try.f106 [x0, x1] h = t106 C x0 x1 h :=
  (bodyB_eq Try.prog C Try.f106 [x0, x1] h (by kernel_rfl)).trans (by kernel_rfl)
theorem t106k106_2_eq (C : CallF) (x : Nat → Value) (h : Heap) : k106_2 C (mkF 23 x) h = t106k106_2 C x h :=
  link_partF (b := (partOf Try.f106 [1, 1, 1])) (kE := (resultsA Try.prog Try.f106.results.toList)) (rE := (resultsA Try.prog Try.f106.results.toList)) (xE := (fun _ _ _ => none)) (T := t106k106_2 C) (fun x h => by kernel_rfl) x h
theorem t106l106_11010_eq (C : CallF) (x : Nat → Value) (h : Heap) : codeA Try.prog C (partOf Try.f106 [1, 1, 0, 1, 0, 0]) (mkF 23 x) h = t106l106_11010 C x h :=
  link_roundF (T := t106l106_11010 C) (fun x h => by kernel_rfl) x h

/-- slices.Clone[[]byte,byte] -/
noncomputable def t107 (C : CallF) (x0 : Value) (h : Heap) : Out :=
  thenV (some ((.slice none 0 0), h)) fun y2 h =>
  thenV (some (x0, h)) fun y3 h =>
  thenV (pu (bin Try.prog .eql 32 y3 (.slice none 0 0)) h) fun y4 h =>
  (match y4 with
  | .bool true =>
  thenV (some ((.slice none 0 0), h)) fun y2_1 h =>
  some (y2_1, h)
  | .bool false =>
  thenV (bslR 1 (.int .u8 0) 0 [] h) fun y5 h =>
  thenV (some (x0, h)) fun y6 h =>
  thenV (appendA 1 1 y5 y6 h) fun y7 h =>
  thenV (some (y7, h)) fun y2_1 h =>
  some (y2_1, h)
  | _ => none)
theorem t107_eq (C : CallF) (x0 : Value) (h : Heap) : bodyK Try.prog C Try.f107 [x0] h = t107 C x0 h :=
  (bodyB_eq Try.prog C Try.f107 [x0] h (by kernel_rfl)).trans (by kernel_rfl)

/-- (*stolon/digest.Reader).take -/
noncomputable def t108 (C : CallF) (x0 x1 : Value) (h : Heap) : Out :=
  thenV (some ((.slice none 0 0), h)) fun y4 h =>
  thenV (some (x0, h)) fun y6 h =>
  thenV (pu (bin Try.prog .eql 134 y6 (.pointer none)) h) fun y7 h =>
  thenV (some (y7, h)) fun y8 h =>
  thenV (guardK (bOf y8 == some false) (some (x0, h)) h) fun y9 h =>
  thenV (guardK (bOf y8 == some false) (pu (nilCheckA y9) h) h) fun y10 h =>
  thenV (guardK (bOf y8 == some false) (pu (addP y10 1) h) h) fun y11 h =>
  thenV (guardK (bOf y8 == some false) (ld1 y11 h) h) fun y12 h =>
  thenV (guardK (bOf y8 == some false) (pu (bin Try.prog .neq 28 y12 (.int .i64 0)) h) h) fun y13 h =>
  thenV (match y8 with | .bool t => some (if t then (.bool true) else y13, h) | _ => none) fun y14 h =>
  (match y14 with
  | .bool true =>
  thenV (some ((.slice none 0 0), h)) fun y4_1 h =>
  some (y4_1, h)
  | .bool false =>
  thenV (some (x1, h)) fun y16 h =>
  thenV (pu (bin Try.prog .lss 3 y16 (.int .i64 0)) h) fun y17 h =>
  thenV (some (y17, h)) fun y15 h =>
  (match y15 with
  | .bool true =>
  thenV (some (x0, h)) fun y18 h =>
  thenV (pu (nilCheckA y18) h) fun y19 h =>
  thenV (pu (addP y19 1) h) fun y20 h =>
  thenV (stN 1 y20 (.int .i64 2) h) fun _ h =>
  thenV (some ((.slice none 0 0), h)) fun y4_1 h =>
  some (y4_1, h)
  | .bool false =>
  thenV (some (x1, h)) fun y22 h =>
  thenV (some (x0, h)) fun y23 h =>
  thenV (pu (nilCheckA y23) h) fun y24 h =>
  thenV (pu (addP y24 0) h) fun y25 h =>
  thenV (ld1 y25 h) fun y26 h =>
  thenV (pu (lenL y26) h) fun y27 h =>
  thenV (pu (bin Try.prog .gtr 3 y22 y27) h) fun y28 h =>
  thenV (some (y28, h)) fun y21 h =>
  (match y21 with
  | .bool true =>
  thenV (some (x0, h)) fun y29 h =>
  thenV (pu (nilCheckA y29) h) fun y30 h =>
  thenV (pu (addP y30 1) h) fun y31 h =>
  thenV (stN 1 y31 (.int .i64 4) h) fun _ h =>
  thenV (some ((.slice none 0 0), h)) fun y4_1 h =>
  some (y4_1, h)
  | .bool false =>
  thenV (some (x0, h)) fun y32 h =>
  thenV (pu (nilCheckA y32) h) fun y33 h =>
  thenV (pu (addP y33 0) h) fun y34 h =>
  thenV (ld1 y34 h) fun y35 h =>
  thenV (some (x1, h)) fun y36 h =>
  thenV (pu (slR 1 y35 none (some y36) none) h) fun y37 h =>
  thenV (some (y37, h)) fun y5 h =>
  thenV (some (x0, h)) fun y38 h =>
  thenV (some (x0, h)) fun y39 h =>
  thenV (pu (nilCheckA y39) h) fun y40 h =>
  thenV (pu (addP y40 0) h) fun y41 h =>
  thenV (ld1 y41 h) fun y42 h =>
  thenV (some (x1, h)) fun y43 h =>
  thenV (pu (slR 1 y42 (some y43) none none) h) fun y44 h =>
  thenV (pu (nilCheckA y38) h) fun y45 h =>
  thenV (pu (addP y45 0) h) fun y46 h =>
  thenV (stN 1 y46 y44 h) fun _ h =>
  thenV (some (y5, h)) fun y47 h =>
  thenV (some (y47, h)) fun y4_1 h =>
  some (y4_1, h)
  | _ => none)
  | _ => none)
  | _ => none)
theorem t108_eq (C : CallF) (x0 x1 : Value) (h : Heap) : bodyK Try.prog C Try.f108 [x0, x1] h = t108 C x0 x1 h :=
  (bodyB_eq Try.prog C Try.f108 [x0, x1] h (by kernel_rfl)).trans (by kernel_rfl)

/-- (*stolon/digest.Writer).room -/
noncomputable def t109 (C : CallF) (x0 x1 : Value) (h : Heap) : Out :=
  thenV (some ((.bool false), h)) fun y4 h =>
  thenV (some (x0, h)) fun y5 h =>
  thenV (pu (bin Try.prog .eql 110 y5 (.pointer none)) h) fun y6 h =>
  thenV (some (y6, h)) fun y7 h =>
  thenV (guardK (bOf y7 == some false) (some (x0, h)) h) fun y8 h =>
  thenV (guardK (bOf y7 == some false) (pu (nilCheckA y8) h) h) fun y9 h =>
  thenV (guardK (bOf y7 == some false) (pu (addP y9 1) h) h) fun y10 h =>
  thenV (guardK (bOf y7 == some false) (ld1 y10 h) h) fun y11 h =>
  thenV (match y7 with | .bool t => some (if t then (.bool true) else y11, h) | _ => none) fun y12 h =>
  (match y12 with
  | .bool true =>
  thenV (some ((.bool false), h)) fun y4_1 h =>
  some (y4_1, h)
  | .bool false =>
  thenV (some (x0, h)) fun y13 h =>
  thenV (some (x1, h)) fun y14 h =>
  thenV (some (x0, h)) fun y15 h =>
  thenV (pu (nilCheckA y15) h) fun y16 h =>
  thenV (pu (addP y16 0) h) fun y17 h =>
  thenV (ld1 y17 h) fun y18 h =>
  thenV (some (x0, h)) fun y19 h =>
  thenV (pu (nilCheckA y19) h) fun y20 h =>
  thenV (pu (addP y20 2) h) fun y21 h =>
  thenV (ld1 y21 h) fun y22 h =>
  thenV (pu (lenL y22) h) fun y23 h =>
  thenV (pu (bin Try.prog .sub 3 y18 y23) h) fun y24 h =>
  thenV (pu (bin Try.prog .gtr 3 y14 y24) h) fun y25 h =>
  thenV (pu (nilCheckA y13) h) fun y26 h =>
  thenV (pu (addP y26 1) h) fun y27 h =>
  thenV (stN 1 y27 y25 h) fun _ h =>
  thenV (some (x0, h)) fun y28 h =>
  thenV (pu (nilCheckA y28) h) fun y29 h =>
  thenV (pu (addP y29 1) h) fun y30 h =>
  thenV (ld1 y30 h) fun y31 h =>
  thenV (pu (unA .not y31) h) fun y32 h =>
  thenV (some (y32, h)) fun y4_1 h =>
  some (y4_1, h)
  | _ => none)
theorem t109_eq (C : CallF) (x0 x1 : Value) (h : Heap) : bodyK Try.prog C Try.f109 [x0, x1] h = t109 C x0 x1 h :=
  (bodyB_eq Try.prog C Try.f109 [x0, x1] h (by kernel_rfl)).trans (by kernel_rfl)

end Go.Proofs.Ytcmfgmhadeeieaa
