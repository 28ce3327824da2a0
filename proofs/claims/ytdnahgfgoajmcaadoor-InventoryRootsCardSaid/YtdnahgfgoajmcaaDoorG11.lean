/-
  InventoryProofs, InventoryRoots: texts of functions, printed.
  Conditions: none (links by kernel_rfl).
  InventoryProofs, InventoryRoots: texts of functions, printed.
  Conditions: none (links by kernel_rfl).
  InventoryProofs, InventoryRoots: texts of functions, printed.
  Conditions: none (links by kernel_rfl).
  InventoryProofs, InventoryRoots: texts of functions, printed.
  Conditions: none (links by kernel_rfl).
  InventoryRoots: texts of functions, printed.
  Conditions: none (links by kernel_rfl).
-/
import Derived.Test.YtdnahgfgoajmcaaDoorG10
namespace Go.Proofs.YtdnahgfgoajmcaaDoor
open Go Go.Abs
noncomputable def k54_5 (C : CallF) (e : Env) (h : Heap) : Out := codeK Tryd.prog C (partOf Tryd.f54 [1, 1, 1, 1]) e h (resultsA Tryd.prog Tryd.f54.results.toList) (resultsA Tryd.prog Tryd.f54.results.toList) (fun _ _ _ => none)
noncomputable def b54_7 (C : CallF) (i : Nat) (e : Env) (h : Heap) : Out := if i = 0 then (k54_5 C) e h else (fun _ _ _ => none) i e h
noncomputable def k54_9 (C : CallF) (e : Env) (h : Heap) : Out := codeK Tryd.prog C (partOf Tryd.f54 [1, 1, 1, 1, 1, 1]) e h (resultsA Tryd.prog Tryd.f54.results.toList) (resultsA Tryd.prog Tryd.f54.results.toList) (fun _ _ _ => none)
noncomputable def b54_11 (C : CallF) (i : Nat) (e : Env) (h : Heap) : Out := if i = 4 then (k54_9 C) e h else (fun _ _ _ => none) i e h
noncomputable def k54_14 (C : CallF) (e : Env) (h : Heap) : Option (Ex × Env × Heap) := codeK Tryd.prog C (partOf Tryd.f54 [1, 1, 1, 0, 1, 0, 0, 1, 1, 1]) e h (fun e h => some (Ex.normal, e, h)) (fun e h => some (Ex.ret, e, h)) (fun i e h => some (Ex.exit i, e, h))
noncomputable def b54_15 (C : CallF) (i : Nat) (e : Env) (h : Heap) : Option (Ex × Env × Heap) := if i = 1 then (k54_14 C) e h else (fun i e h => some (Ex.exit i, e, h)) i e h
noncomputable def k54_18 (C : CallF) (e : Env) (h : Heap) : Option (Ex × Env × Heap) := codeK Tryd.prog C (partOf Tryd.f54 [1, 1, 1, 0, 1, 0, 0, 1, 1, 0, 0, 1, 1, 1]) e h (k54_14 C) (fun e h => some (Ex.ret, e, h)) (b54_15 C)
noncomputable def b54_20 (C : CallF) (i : Nat) (e : Env) (h : Heap) : Option (Ex × Env × Heap) := if i = 2 then (k54_18 C) e h else (b54_15 C) i e h
/-- stolon/inventory.tree -/
noncomputable def t54 (C : CallF) (x0 : Value) (h : Heap) : Out :=
  thenV (newC (List.replicate 32 (.int .u8 0)) h) fun y2 h =>
  thenV (some (x0, h)) fun y11 h =>
  thenV (pu (lenL y11) h) fun y12 h =>
  thenV (pu (bin Tryd.prog .eql 3 y12 (.int .i64 0)) h) fun y13 h =>
  (match y13 with
  | .bool true =>
  thenV (C 106 [(.slice none 0 0)] h) fun y14 h =>
  thenV (stN 32 y2 y14 h) fun _ h =>
  resultsA Tryd.prog Tryd.f54.results.toList (mkF 66 (up (bs [x0]) [(2, y2), (11, y11), (12, y12), (13, y13), (14, y14)])) h
  | .bool false =>
  thenV (some ((.slice none 0 0), h)) fun y3 h =>
  thenV (some (x0, h)) fun y15 h =>
  thenV (pu (lenL y15) h) fun y16 h =>
  thenV (some ((.int .i64 0), h)) fun y17 h =>
  endL (iter (codeA Tryd.prog C (partOf Tryd.f54 [1, 1, 1, 0, 1, 0, 0])) rounds (mkF 66 (up (bs [x0]) [(2, y2), (3, y3), (11, y11), (12, y12), (13, y13), (15, y15), (16, y16), (17, y17)])) h) (resultsA Tryd.prog Tryd.f54.results.toList) (b54_7 C)
  | _ => none)
noncomputable def t54k54_5 (C : CallF) (x : Nat → Value) (h : Heap) : Out :=
  thenV (some ((x 3), h)) fun y48 h =>
  thenV (some ((x 3), h)) fun y49 h =>
  thenV (pu (lenL y49) h) fun y50 h =>
  thenV (pu (bin Tryd.prog .sub 3 y50 (.int .i64 1)) h) fun y51 h =>
  thenV (pu (idxS 32 y48 y51) h) fun y52 h =>
  thenV (ldN 32 y52 h) fun y53 h =>
  thenV (newC (List.replicate 32 (.int .u8 0)) h) fun y8 h =>
  thenV (stN 32 y8 y53 h) fun _ h =>
  thenV (some ((x 3), h)) fun y54 h =>
  thenV (some ((x 3), h)) fun y55 h =>
  thenV (pu (lenL y55) h) fun y56 h =>
  thenV (pu (bin Tryd.prog .sub 3 y56 (.int .i64 1)) h) fun y57 h =>
  thenV (pu (slR 32 y54 none (some y57) none) h) fun y58 h =>
  thenV (C 107 [y58] h) fun y59 h =>
  endN (codeA Tryd.prog C (partOf Tryd.f54 [1, 1, 1, 1, 1, 0, 1, 0]) (mkF 66 (up x [(8, y8), (48, y48), (49, y49), (50, y50), (51, y51), (52, y52), (53, y53), (54, y54), (55, y55), (56, y56), (57, y57), (58, y58), (59, y59)])) h) (k54_9 C) (resultsA Tryd.prog Tryd.f54.results.toList) (b54_11 C)
noncomputable def t54l54_111010 (C : CallF) (x : Nat → Value) (h : Heap) : Option (Ex × Env × Heap) :=
  thenV (pu (bin Tryd.prog .lss 3 (x 17) (x 16)) h) fun y18 h =>
  (match y18 with
  | .bool true =>
  thenV (some ((x 17), h)) fun y19 h =>
  thenV (pu (idxS 39 (x 15) (x 17)) h) fun y20 h =>
  thenV (ldN 39 y20 h) fun y21 h =>
  thenV (newC [(.int .u8 0), (.int .u8 0), (.int .u8 0), (.int .u8 0), (.int .u8 0), (.int .u8 0), (.int .u8 0), (.int .u8 0), (.int .u8 0), (.int .u8 0), (.int .u8 0), (.int .u8 0), (.int .u8 0), (.int .u8 0), (.int .u8 0), (.int .u8 0), (.int .u8 0), (.int .u8 0), (.int .u8 0), (.int .u8 0), (.int .u8 0), (.int .u8 0), (.int .u8 0), (.int .u8 0), (.int .u8 0), (.int .u8 0), (.int .u8 0), (.int .u8 0), (.int .u8 0), (.int .u8 0), (.int .u8 0), (.int .u8 0), (.int .u8 0), (.int .i64 0), (.int .u64 0), (.int .u64 0), (.bool false), (.int .i64 0), (.int .i64 0)] h) fun y5 h =>
  thenV (some (y19, h)) fun y4 h =>
  thenV (stN 39 y5 y21 h) fun _ h =>
  thenV (ldN 39 y5 h) fun y22 h =>
  thenV (C 69 [y22] h) fun y23 h =>
  thenV (newC (List.replicate 32 (.int .u8 0)) h) fun y6 h =>
  thenV (stN 32 y6 y23 h) fun _ h =>
  thenV (some (y4, h)) fun y24 h =>
  thenV (some (y24, h)) fun y7 h =>
  endL (iter (codeA Tryd.prog C (partOf Tryd.f54 [1, 1, 1, 0, 1, 0, 0, 1, 1, 0, 0, 1, 1, 0, 1, 0, 0])) rounds (mkF 66 (up x [(4, y4), (5, y5), (6, y6), (7, y7), (18, y18), (19, y19), (20, y20), (21, y21), (22, y22), (23, y23), (24, y24)])) h) (fun e h => some (Ex.ret, e, h)) (b54_20 C)
  | .bool false =>
  some (.exit 0, (mkF 66 (up x [(18, y18)])), h)
  | _ => none)
noncomputable def t54k54_9 (C : CallF) (x : Nat → Value) (h : Heap) : Out :=
  thenV (ldN 32 (x 8) h) fun y65 h =>
  thenV (stN 32 (x 2) y65 h) fun _ h =>
  resultsA Tryd.prog Tryd.f54.results.toList (mkF 66 (up x [(65, y65)])) h
noncomputable def t54l54_11111010a (C : CallF) (x : Nat → Value) (h : Heap) : Option (Ex × Env × Heap) :=
  thenV (newC (List.replicate 32 (.int .u8 0)) h) fun y10 h =>
  thenV (stN 32 y10 (x 61) h) fun _ h =>
  some (.normal, (mkF 66 (up x [(10, y10)])), h)
noncomputable def t54l54_11111010b (C : CallF) (x : Nat → Value) (h : Heap) : Option (Ex × Env × Heap) :=
  thenV (ldN 32 (x 10) h) fun y62 h =>
  thenV (ldN 32 (x 8) h) fun y63 h =>
  thenV (C 70 [y62, y63] h) fun y64 h =>
  thenV (stN 32 (x 8) y64 h) fun _ h =>
  some (.normal, (mkF 66 (up x [(62, y62), (63, y63), (64, y64)])), h)
noncomputable def t54k54_14 (C : CallF) (x : Nat → Value) (h : Heap) : Option (Ex × Env × Heap) :=
  thenV (pu (bin Tryd.prog .add 3 (x 17) (.int .i64 1)) h) fun y47 h =>
  thenV (some (y47, h)) fun y17 h =>
  some (.normal, (mkF 66 (up x [(17, y17), (47, y47)])), h)
noncomputable def t54k54_18 (C : CallF) (x : Nat → Value) (h : Heap) : Option (Ex × Env × Heap) :=
  thenV (some ((x 3), h)) fun y43 h =>
  thenV (ldN 32 (x 6) h) fun y44 h =>
  thenV (bslR 32 (.agg (List.replicate 32 (.int .u8 0)).toArray) 1 [(0, y44)] h) fun y45 h =>
  thenV (appendA 32 32 y43 y45 h) fun y46 h =>
  thenV (some (y46, h)) fun y3 h =>
  k54_14 C (mkF 66 (up x [(3, y3), (43, y43), (44, y44), (45, y45), (46, y46)])) h
noncomputable def t54l54_1110100110011010 (C : CallF) (x : Nat → Value) (h : Heap) : Option (Ex × Env × Heap) :=
  thenV (some ((x 7), h)) fun y25 h =>
  thenV (pu (bin Tryd.prog .and 3 y25 (.int .i64 1)) h) fun y26 h =>
  thenV (pu (bin Tryd.prog .eql 3 y26 (.int .i64 1)) h) fun y27 h =>
  (match y27 with
  | .bool true =>
  thenV (some ((x 3), h)) fun y30 h =>
  thenV (some ((x 3), h)) fun y31 h =>
  thenV (pu (lenL y31) h) fun y32 h =>
  thenV (pu (bin Tryd.prog .sub 3 y32 (.int .i64 1)) h) fun y33 h =>
  thenV (pu (idxS 32 y30 y33) h) fun y34 h =>
  thenV (ldN 32 y34 h) fun y35 h =>
  thenV (ldN 32 (x 6) h) fun y36 h =>
  thenV (C 70 [y35, y36] h) fun y37 h =>
  thenV (stN 32 (x 6) y37 h) fun _ h =>
  thenV (some ((x 3), h)) fun y38 h =>
  thenV (some ((x 3), h)) fun y39 h =>
  thenV (pu (lenL y39) h) fun y40 h =>
  thenV (pu (bin Tryd.prog .sub 3 y40 (.int .i64 1)) h) fun y41 h =>
  thenV (pu (slR 32 y38 none (some y41) none) h) fun y42 h =>
  thenV (some (y42, h)) fun y3 h =>
  thenV (some ((x 7), h)) fun y28 h =>
  thenV (pu (bin Tryd.prog .shr 3 y28 (.int .u64 1)) h) fun y29 h =>
  thenV (some (y29, h)) fun y7 h =>
  some (.normal, (mkF 66 (up x [(3, y3), (7, y7), (25, y25), (26, y26), (27, y27), (28, y28), (29, y29), (30, y30), (31, y31), (32, y32), (33, y33), (34, y34), (35, y35), (36, y36), (37, y37), (38, y38), (39, y39), (40, y40), (41, y41), (42, y42)])), h)
  | .bool false =>
  some (.exit 2, (mkF 66 (up x [(25, y25), (26, y26), (27, y27)])), h)
  | _ => none)
theorem t54_eq (C : CallF) (x0 : Value) (h : Heap) : bodyK Tryd.prog C Tryd.f54 [x0] h = t54 C x0 h :=
  (bodyB_eq Tryd.prog C Tryd.f54 [x0] h (by kernel_rfl)).trans (by kernel_rfl)
theorem t54k54_5_eq (C : CallF) (x : Nat → Value) (h : Heap) : k54_5 C (mkF 66 x) h = t54k54_5 C x h :=
  link_partF (b := (partOf Tryd.f54 [1, 1, 1, 1])) (kE := (resultsA Tryd.prog Tryd.f54.results.toList)) (rE := (resultsA Tryd.prog Tryd.f54.results.toList)) (xE := (fun _ _ _ => none)) (T := t54k54_5 C) (fun x h => by kernel_rfl) x h
theorem t54l54_111010_eq (C : CallF) (x : Nat → Value) (h : Heap) : codeA Tryd.prog C (partOf Tryd.f54 [1, 1, 1, 0, 1, 0, 0]) (mkF 66 x) h = t54l54_111010 C x h :=
  link_roundF (T := t54l54_111010 C) (fun x h => by kernel_rfl) x h
theorem t54k54_9_eq (C : CallF) (x : Nat → Value) (h : Heap) : k54_9 C (mkF 66 x) h = t54k54_9 C x h :=
  link_partF (b := (partOf Tryd.f54 [1, 1, 1, 1, 1, 1])) (kE := (resultsA Tryd.prog Tryd.f54.results.toList)) (rE := (resultsA Tryd.prog Tryd.f54.results.toList)) (xE := (fun _ _ _ => none)) (T := t54k54_9 C) (fun x h => by kernel_rfl) x h
theorem t54l54_11111010a_eq (C : CallF) (x : Nat → Value) (h : Heap) : codeA Tryd.prog C (rgA (partOf Tryd.f54 [1, 1, 1, 1, 1, 0, 1, 0])) (mkF 66 x) h = t54l54_11111010a C x h :=
  link_roundF (T := t54l54_11111010a C) (fun x h => by kernel_rfl) x h
theorem t54l54_11111010b_eq (C : CallF) (x : Nat → Value) (h : Heap) : codeA Tryd.prog C (rgB (partOf Tryd.f54 [1, 1, 1, 1, 1, 0, 1, 0])) (mkF 66 x) h = t54l54_11111010b C x h :=
  link_roundF (T := t54l54_11111010b C) (fun x h => by kernel_rfl) x h
theorem t54k54_14_eq (C : CallF) (x : Nat → Value) (h : Heap) : k54_14 C (mkF 66 x) h = t54k54_14 C x h :=
  link_partF (b := (partOf Tryd.f54 [1, 1, 1, 0, 1, 0, 0, 1, 1, 1])) (kE := (fun e h => some (Ex.normal, e, h))) (rE := (fun e h => some (Ex.ret, e, h))) (xE := (fun i e h => some (Ex.exit i, e, h))) (T := t54k54_14 C) (fun x h => by kernel_rfl) x h
theorem t54k54_18_eq (C : CallF) (x : Nat → Value) (h : Heap) : k54_18 C (mkF 66 x) h = t54k54_18 C x h :=
  link_partF (b := (partOf Tryd.f54 [1, 1, 1, 0, 1, 0, 0, 1, 1, 0, 0, 1, 1, 1])) (kE := (k54_14 C)) (rE := (fun e h => some (Ex.ret, e, h))) (xE := (b54_15 C)) (T := t54k54_18 C) (fun x h => by kernel_rfl) x h
theorem t54l54_1110100110011010_eq (C : CallF) (x : Nat → Value) (h : Heap) : codeA Tryd.prog C (partOf Tryd.f54 [1, 1, 1, 0, 1, 0, 0, 1, 1, 0, 0, 1, 1, 0, 1, 0, 0]) (mkF 66 x) h = t54l54_1110100110011010 C x h :=
  link_roundF (T := t54l54_1110100110011010 C) (fun x h => by kernel_rfl) x h

/-- slices.Backward[[]stolon/api.Digest,stolon/api.Digest] -/
noncomputable def t107 (C : CallF) (x0 : Value) (h : Heap) : Out :=
  thenV (box x0 h) fun y1 h =>
  thenV (some (.nilFunc, h)) fun y2 h =>
  thenV (some (.func (.func 135) #[] #[y1], h)) fun y3 h =>
  thenV (some (y3, h)) fun y2_1 h =>
  some (y2_1, h)
theorem t107_eq (C : CallF) (x0 : Value) (h : Heap) : bodyK Tryd.prog C Tryd.f107 [x0] h = t107 C x0 h :=
  (bodyB_eq Tryd.prog C Tryd.f107 [x0] h (by kernel_rfl)).trans (by kernel_rfl)

noncomputable def b135_1 (C : CallF) (i : Nat) (e : Env) (h : Heap) : Out := if i = 0 then (resultsA Tryd.prog Tryd.f135.results.toList) e h else (fun _ _ _ => none) i e h
/-- slices.Backward[[]stolon/api.Digest,stolon/api.Digest]$1 -/
noncomputable def t135 (C : CallF) (x0 x1 : Value) (h : Heap) : Out :=
  thenV (ld1 x1 h) fun y4 h =>
  thenV (pu (lenL y4) h) fun y5 h =>
  thenV (pu (bin Tryd.prog .sub 3 y5 (.int .i64 1)) h) fun y6 h =>
  thenV (some (y6, h)) fun y3 h =>
  endL (iter (codeA Tryd.prog C (partOf Tryd.f135 [1, 0, 0])) rounds (mkF 19 (up (bs [x0, x1]) [(3, y3), (4, y4), (5, y5), (6, y6)])) h) (resultsA Tryd.prog Tryd.f135.results.toList) (b135_1 C)
noncomputable def t135l135_10 (C : CallF) (x : Nat → Value) (h : Heap) : Option (Ex × Env × Heap) :=
  thenV (some ((x 3), h)) fun y7 h =>
  thenV (pu (bin Tryd.prog .geq 3 y7 (.int .i64 0)) h) fun y8 h =>
  (match y8 with
  | .bool true =>
  thenV (some ((x 0), h)) fun y11 h =>
  thenV (some ((x 3), h)) fun y12 h =>
  thenV (ld1 (x 1) h) fun y13 h =>
  thenV (some ((x 3), h)) fun y14 h =>
  thenV (pu (idxS 32 y13 y14) h) fun y15 h =>
  thenV (ldN 32 y15 h) fun y16 h =>
  thenV (callA Tryd.prog C y11 [y12, y16] h) fun y17 h =>
  thenV (pu (unA .not y17) h) fun y18 h =>
  (match y18 with
  | .bool true =>
  some (.ret, (mkF 19 (up x [(7, y7), (8, y8), (11, y11), (12, y12), (13, y13), (14, y14), (15, y15), (16, y16), (17, y17), (18, y18)])), h)
  | .bool false =>
  thenV (some ((x 3), h)) fun y9 h =>
  thenV (pu (bin Tryd.prog .sub 3 y9 (.int .i64 1)) h) fun y10 h =>
  thenV (some (y10, h)) fun y3 h =>
  some (.normal, (mkF 19 (up x [(3, y3), (7, y7), (8, y8), (9, y9), (10, y10), (11, y11), (12, y12), (13, y13), (14, y14), (15, y15), (16, y16), (17, y17), (18, y18)])), h)
  | _ => none)
  | .bool false =>
  some (.exit 0, (mkF 19 (up x [(7, y7), (8, y8)])), h)
  | _ => none)
theorem t135_eq (C : CallF) (x0 x1 : Value) (h : Heap) : bodyK Tryd.prog C Tryd.f135 [x0, x1] h = t135 C x0 x1 h :=
  (bodyB_eq Tryd.prog C Tryd.f135 [x0, x1] h (by kernel_rfl)).trans (by kernel_rfl)
theorem t135l135_10_eq (C : CallF) (x : Nat → Value) (h : Heap) : codeA Tryd.prog C (partOf Tryd.f135 [1, 0, 0]) (mkF 19 x) h = t135l135_10 C x h :=
  link_roundF (T := t135l135_10 C) (fun x h => by kernel_rfl) x h

/-- stolon/digest.SHA256 -/
noncomputable def t106 (C : CallF) (x0 : Value) (h : Heap) : Out :=
  thenV (newC (List.replicate 32 (.int .u8 0)) h) fun y2 h =>
  thenV (C 121 [] h) fun y4 h =>
  thenV (some (y4, h)) fun y3 h =>
  thenV (some (y3, h)) fun y5 h =>
  thenV (some (x0, h)) fun y6 h =>
  thenV (C 122 [y5, y6] h) fun y7 h =>
  thenV (some (y3, h)) fun y8 h =>
  thenV (C 123 [y8] h) fun y9 h =>
  thenV (stN 32 y2 y9 h) fun _ h =>
  resultsA Tryd.prog Tryd.f106.results.toList (mkF 10 (up (bs [x0]) [(2, y2), (3, y3), (4, y4), (5, y5), (6, y6), (7, y7), (8, y8), (9, y9)])) h
theorem t106_eq (C : CallF) (x0 : Value) (h : Heap) : bodyK Tryd.prog C Tryd.f106 [x0] h = t106 C x0 h :=
  (bodyB_eq Tryd.prog C Tryd.f106 [x0] h (by kernel_rfl)).trans (by kernel_rfl)

end Go.Proofs.YtdnahgfgoajmcaaDoor

namespace Go.Proofs.YtdnahgfgoajmcaaDoor
open Go Go.Abs
/-- stolon/inventory.split -/
noncomputable def t83 (C : CallF) (x0 : Value) (h : Heap) : Out :=
  thenV (some ((.int .i64 0), h)) fun y2 h =>
  thenV (some (x0, h)) fun y3 h =>
  thenV (pu (bin Tryd.prog .sub 3 y3 (.int .i64 1)) h) fun y4 h =>
  thenV (cvI .u64 y4 h) fun y5 h =>
  thenV (C 118 [y5] h) fun y6 h =>
  thenV (pu (bin Tryd.prog .sub 3 y6 (.int .i64 1)) h) fun y7 h =>
  thenV (pu (bin Tryd.prog .shl 3 (.int .i64 1) y7) h) fun y8 h =>
  thenV (some (y8, h)) fun y2_1 h =>
  some (y2_1, h)
theorem t83_eq (C : CallF) (x0 : Value) (h : Heap) : bodyK Tryd.prog C Tryd.f83 [x0] h = t83 C x0 h :=
  (bodyB_eq Tryd.prog C Tryd.f83 [x0] h (by kernel_rfl)).trans (by kernel_rfl)

/-- math/bits.Len -/
noncomputable def t118 (C : CallF) (x0 : Value) (h : Heap) : Out :=
  thenV (some ((.int .i64 0), h)) fun y2 h =>
  (match (Value.bool false) with
  | .bool true =>
  thenV (some (x0, h)) fun y3 h =>
  thenV (cvI .u32 y3 h) fun y4 h =>
  thenV (C 147 [y4] h) fun y5 h =>
  thenV (some (y5, h)) fun y2_1 h =>
  some (y2_1, h)
  | .bool false =>
  thenV (some (x0, h)) fun y6 h =>
  thenV (C 148 [y6] h) fun y7 h =>
  thenV (some (y7, h)) fun y2_1 h =>
  some (y2_1, h)
  | _ => none)
theorem t118_eq (C : CallF) (x0 : Value) (h : Heap) : bodyK Tryd.prog C Tryd.f118 [x0] h = t118 C x0 h :=
  (bodyB_eq Tryd.prog C Tryd.f118 [x0] h (by kernel_rfl)).trans (by kernel_rfl)

/-- math/bits.Len64 -/
noncomputable def t148 (C : CallF) (x0 : Value) (h : Heap) : Out :=
  thenV (some ((.int .i64 0), h)) fun y2 h =>
  thenV (some (x0, h)) fun y3 h =>
  thenV (pu (bin Tryd.prog .geq 32 y3 (.int .u64 4294967296)) h) fun y4 h =>
  (match y4 with
  | .bool true =>
  thenV (some (x0, h)) fun y5 h =>
  thenV (pu (bin Tryd.prog .shr 32 y5 (.int .u64 32)) h) fun y6 h =>
  thenV (some (y6, h)) fun y0 h =>
  thenV (some ((.int .i64 32), h)) fun y2_1 h =>
  thenV (some (y0, h)) fun y7 h =>
  thenV (pu (bin Tryd.prog .geq 32 y7 (.int .u64 65536)) h) fun y8 h =>
  (match y8 with
  | .bool true =>
  thenV (some (y0, h)) fun y9 h =>
  thenV (pu (bin Tryd.prog .shr 32 y9 (.int .u64 16)) h) fun y10 h =>
  thenV (some (y10, h)) fun y0_1 h =>
  thenV (some (y2_1, h)) fun y11 h =>
  thenV (pu (bin Tryd.prog .add 3 y11 (.int .i64 16)) h) fun y12 h =>
  thenV (some (y12, h)) fun y2_2 h =>
  thenV (some (y0_1, h)) fun y13 h =>
  thenV (pu (bin Tryd.prog .geq 32 y13 (.int .u64 256)) h) fun y14 h =>
  (match y14 with
  | .bool true =>
  thenV (some (y0_1, h)) fun y15 h =>
  thenV (pu (bin Tryd.prog .shr 32 y15 (.int .u64 8)) h) fun y16 h =>
  thenV (some (y16, h)) fun y0_2 h =>
  thenV (some (y2_2, h)) fun y17 h =>
  thenV (pu (bin Tryd.prog .add 3 y17 (.int .i64 8)) h) fun y18 h =>
  thenV (some (y18, h)) fun y2_3 h =>
  thenV (some (y2_3, h)) fun y19 h =>
  thenV (some (y0_2, h)) fun y20 h =>
  thenV (cvI .u8 y20 h) fun y21 h =>
  thenV (pu (ixS (.string ⟨#[0, 1, 2, 2, 3, 3, 3, 3, 4, 4, 4, 4, 4, 4, 4, 4, 5, 5, 5, 5, 5, 5, 5, 5, 5, 5, 5, 5, 5, 5, 5, 5, 6, 6, 6, 6, 6, 6, 6, 6, 6, 6, 6, 6, 6, 6, 6, 6, 6, 6, 6, 6, 6, 6, 6, 6, 6, 6, 6, 6, 6, 6, 6, 6, 7, 7, 7, 7, 7, 7, 7, 7, 7, 7, 7, 7, 7, 7, 7, 7, 7, 7, 7, 7, 7, 7, 7, 7, 7, 7, 7, 7, 7, 7, 7, 7, 7, 7, 7, 7, 7, 7, 7, 7, 7, 7, 7, 7, 7, 7, 7, 7, 7, 7, 7, 7, 7, 7, 7, 7, 7, 7, 7, 7, 7, 7, 7, 7, 8, 8, 8, 8, 8, 8, 8, 8, 8, 8, 8, 8, 8, 8, 8, 8, 8, 8, 8, 8, 8, 8, 8, 8, 8, 8, 8, 8, 8, 8, 8, 8, 8, 8, 8, 8, 8, 8, 8, 8, 8, 8, 8, 8, 8, 8, 8, 8, 8, 8, 8, 8, 8, 8, 8, 8, 8, 8, 8, 8, 8, 8, 8, 8, 8, 8, 8, 8, 8, 8, 8, 8, 8, 8, 8, 8, 8, 8, 8, 8, 8, 8, 8, 8, 8, 8, 8, 8, 8, 8, 8, 8, 8, 8, 8, 8, 8, 8, 8, 8, 8, 8, 8, 8, 8, 8, 8, 8, 8, 8, 8, 8, 8, 8, 8, 8, 8, 8, 8, 8, 8, 8, 8, 8, 8, 8, 8, 8]⟩) y21) h) fun y22 h =>
  thenV (cvI .i64 y22 h) fun y23 h =>
  thenV (pu (bin Tryd.prog .add 3 y19 y23) h) fun y24 h =>
  thenV (some (y24, h)) fun y2_4 h =>
  some (y2_4, h)
  | .bool false =>
  thenV (some (y2_2, h)) fun y19 h =>
  thenV (some (y0_1, h)) fun y20 h =>
  thenV (cvI .u8 y20 h) fun y21 h =>
  thenV (pu (ixS (.string ⟨#[0, 1, 2, 2, 3, 3, 3, 3, 4, 4, 4, 4, 4, 4, 4, 4, 5, 5, 5, 5, 5, 5, 5, 5, 5, 5, 5, 5, 5, 5, 5, 5, 6, 6, 6, 6, 6, 6, 6, 6, 6, 6, 6, 6, 6, 6, 6, 6, 6, 6, 6, 6, 6, 6, 6, 6, 6, 6, 6, 6, 6, 6, 6, 6, 7, 7, 7, 7, 7, 7, 7, 7, 7, 7, 7, 7, 7, 7, 7, 7, 7, 7, 7, 7, 7, 7, 7, 7, 7, 7, 7, 7, 7, 7, 7, 7, 7, 7, 7, 7, 7, 7, 7, 7, 7, 7, 7, 7, 7, 7, 7, 7, 7, 7, 7, 7, 7, 7, 7, 7, 7, 7, 7, 7, 7, 7, 7, 7, 8, 8, 8, 8, 8, 8, 8, 8, 8, 8, 8, 8, 8, 8, 8, 8, 8, 8, 8, 8, 8, 8, 8, 8, 8, 8, 8, 8, 8, 8, 8, 8, 8, 8, 8, 8, 8, 8, 8, 8, 8, 8, 8, 8, 8, 8, 8, 8, 8, 8, 8, 8, 8, 8, 8, 8, 8, 8, 8, 8, 8, 8, 8, 8, 8, 8, 8, 8, 8, 8, 8, 8, 8, 8, 8, 8, 8, 8, 8, 8, 8, 8, 8, 8, 8, 8, 8, 8, 8, 8, 8, 8, 8, 8, 8, 8, 8, 8, 8, 8, 8, 8, 8, 8, 8, 8, 8, 8, 8, 8, 8, 8, 8, 8, 8, 8, 8, 8, 8, 8, 8, 8, 8, 8, 8, 8, 8, 8]⟩) y21) h) fun y22 h =>
  thenV (cvI .i64 y22 h) fun y23 h =>
  thenV (pu (bin Tryd.prog .add 3 y19 y23) h) fun y24 h =>
  thenV (some (y24, h)) fun y2_3 h =>
  some (y2_3, h)
  | _ => none)
  | .bool false =>
  thenV (some (y0, h)) fun y13 h =>
  thenV (pu (bin Tryd.prog .geq 32 y13 (.int .u64 256)) h) fun y14 h =>
  (match y14 with
  | .bool true =>
  thenV (some (y0, h)) fun y15 h =>
  thenV (pu (bin Tryd.prog .shr 32 y15 (.int .u64 8)) h) fun y16 h =>
  thenV (some (y16, h)) fun y0_1 h =>
  thenV (some (y2_1, h)) fun y17 h =>
  thenV (pu (bin Tryd.prog .add 3 y17 (.int .i64 8)) h) fun y18 h =>
  thenV (some (y18, h)) fun y2_2 h =>
  thenV (some (y2_2, h)) fun y19 h =>
  thenV (some (y0_1, h)) fun y20 h =>
  thenV (cvI .u8 y20 h) fun y21 h =>
  thenV (pu (ixS (.string ⟨#[0, 1, 2, 2, 3, 3, 3, 3, 4, 4, 4, 4, 4, 4, 4, 4, 5, 5, 5, 5, 5, 5, 5, 5, 5, 5, 5, 5, 5, 5, 5, 5, 6, 6, 6, 6, 6, 6, 6, 6, 6, 6, 6, 6, 6, 6, 6, 6, 6, 6, 6, 6, 6, 6, 6, 6, 6, 6, 6, 6, 6, 6, 6, 6, 7, 7, 7, 7, 7, 7, 7, 7, 7, 7, 7, 7, 7, 7, 7, 7, 7, 7, 7, 7, 7, 7, 7, 7, 7, 7, 7, 7, 7, 7, 7, 7, 7, 7, 7, 7, 7, 7, 7, 7, 7, 7, 7, 7, 7, 7, 7, 7, 7, 7, 7, 7, 7, 7, 7, 7, 7, 7, 7, 7, 7, 7, 7, 7, 8, 8, 8, 8, 8, 8, 8, 8, 8, 8, 8, 8, 8, 8, 8, 8, 8, 8, 8, 8, 8, 8, 8, 8, 8, 8, 8, 8, 8, 8, 8, 8, 8, 8, 8, 8, 8, 8, 8, 8, 8, 8, 8, 8, 8, 8, 8, 8, 8, 8, 8, 8, 8, 8, 8, 8, 8, 8, 8, 8, 8, 8, 8, 8, 8, 8, 8, 8, 8, 8, 8, 8, 8, 8, 8, 8, 8, 8, 8, 8, 8, 8, 8, 8, 8, 8, 8, 8, 8, 8, 8, 8, 8, 8, 8, 8, 8, 8, 8, 8, 8, 8, 8, 8, 8, 8, 8, 8, 8, 8, 8, 8, 8, 8, 8, 8, 8, 8, 8, 8, 8, 8, 8, 8, 8, 8, 8, 8]⟩) y21) h) fun y22 h =>
  thenV (cvI .i64 y22 h) fun y23 h =>
  thenV (pu (bin Tryd.prog .add 3 y19 y23) h) fun y24 h =>
  thenV (some (y24, h)) fun y2_3 h =>
  some (y2_3, h)
  | .bool false =>
  thenV (some (y2_1, h)) fun y19 h =>
  thenV (some (y0, h)) fun y20 h =>
  thenV (cvI .u8 y20 h) fun y21 h =>
  thenV (pu (ixS (.string ⟨#[0, 1, 2, 2, 3, 3, 3, 3, 4, 4, 4, 4, 4, 4, 4, 4, 5, 5, 5, 5, 5, 5, 5, 5, 5, 5, 5, 5, 5, 5, 5, 5, 6, 6, 6, 6, 6, 6, 6, 6, 6, 6, 6, 6, 6, 6, 6, 6, 6, 6, 6, 6, 6, 6, 6, 6, 6, 6, 6, 6, 6, 6, 6, 6, 7, 7, 7, 7, 7, 7, 7, 7, 7, 7, 7, 7, 7, 7, 7, 7, 7, 7, 7, 7, 7, 7, 7, 7, 7, 7, 7, 7, 7, 7, 7, 7, 7, 7, 7, 7, 7, 7, 7, 7, 7, 7, 7, 7, 7, 7, 7, 7, 7, 7, 7, 7, 7, 7, 7, 7, 7, 7, 7, 7, 7, 7, 7, 7, 8, 8, 8, 8, 8, 8, 8, 8, 8, 8, 8, 8, 8, 8, 8, 8, 8, 8, 8, 8, 8, 8, 8, 8, 8, 8, 8, 8, 8, 8, 8, 8, 8, 8, 8, 8, 8, 8, 8, 8, 8, 8, 8, 8, 8, 8, 8, 8, 8, 8, 8, 8, 8, 8, 8, 8, 8, 8, 8, 8, 8, 8, 8, 8, 8, 8, 8, 8, 8, 8, 8, 8, 8, 8, 8, 8, 8, 8, 8, 8, 8, 8, 8, 8, 8, 8, 8, 8, 8, 8, 8, 8, 8, 8, 8, 8, 8, 8, 8, 8, 8, 8, 8, 8, 8, 8, 8, 8, 8, 8, 8, 8, 8, 8, 8, 8, 8, 8, 8, 8, 8, 8, 8, 8, 8, 8, 8, 8]⟩) y21) h) fun y22 h =>
  thenV (cvI .i64 y22 h) fun y23 h =>
  thenV (pu (bin Tryd.prog .add 3 y19 y23) h) fun y24 h =>
  thenV (some (y24, h)) fun y2_2 h =>
  some (y2_2, h)
  | _ => none)
  | _ => none)
  | .bool false =>
  thenV (some (x0, h)) fun y7 h =>
  thenV (pu (bin Tryd.prog .geq 32 y7 (.int .u64 65536)) h) fun y8 h =>
  (match y8 with
  | .bool true =>
  thenV (some (x0, h)) fun y9 h =>
  thenV (pu (bin Tryd.prog .shr 32 y9 (.int .u64 16)) h) fun y10 h =>
  thenV (some (y10, h)) fun y0 h =>
  thenV (some (y2, h)) fun y11 h =>
  thenV (pu (bin Tryd.prog .add 3 y11 (.int .i64 16)) h) fun y12 h =>
  thenV (some (y12, h)) fun y2_1 h =>
  thenV (some (y0, h)) fun y13 h =>
  thenV (pu (bin Tryd.prog .geq 32 y13 (.int .u64 256)) h) fun y14 h =>
  (match y14 with
  | .bool true =>
  thenV (some (y0, h)) fun y15 h =>
  thenV (pu (bin Tryd.prog .shr 32 y15 (.int .u64 8)) h) fun y16 h =>
  thenV (some (y16, h)) fun y0_1 h =>
  thenV (some (y2_1, h)) fun y17 h =>
  thenV (pu (bin Tryd.prog .add 3 y17 (.int .i64 8)) h) fun y18 h =>
  thenV (some (y18, h)) fun y2_2 h =>
  thenV (some (y2_2, h)) fun y19 h =>
  thenV (some (y0_1, h)) fun y20 h =>
  thenV (cvI .u8 y20 h) fun y21 h =>
  thenV (pu (ixS (.string ⟨#[0, 1, 2, 2, 3, 3, 3, 3, 4, 4, 4, 4, 4, 4, 4, 4, 5, 5, 5, 5, 5, 5, 5, 5, 5, 5, 5, 5, 5, 5, 5, 5, 6, 6, 6, 6, 6, 6, 6, 6, 6, 6, 6, 6, 6, 6, 6, 6, 6, 6, 6, 6, 6, 6, 6, 6, 6, 6, 6, 6, 6, 6, 6, 6, 7, 7, 7, 7, 7, 7, 7, 7, 7, 7, 7, 7, 7, 7, 7, 7, 7, 7, 7, 7, 7, 7, 7, 7, 7, 7, 7, 7, 7, 7, 7, 7, 7, 7, 7, 7, 7, 7, 7, 7, 7, 7, 7, 7, 7, 7, 7, 7, 7, 7, 7, 7, 7, 7, 7, 7, 7, 7, 7, 7, 7, 7, 7, 7, 8, 8, 8, 8, 8, 8, 8, 8, 8, 8, 8, 8, 8, 8, 8, 8, 8, 8, 8, 8, 8, 8, 8, 8, 8, 8, 8, 8, 8, 8, 8, 8, 8, 8, 8, 8, 8, 8, 8, 8, 8, 8, 8, 8, 8, 8, 8, 8, 8, 8, 8, 8, 8, 8, 8, 8, 8, 8, 8, 8, 8, 8, 8, 8, 8, 8, 8, 8, 8, 8, 8, 8, 8, 8, 8, 8, 8, 8, 8, 8, 8, 8, 8, 8, 8, 8, 8, 8, 8, 8, 8, 8, 8, 8, 8, 8, 8, 8, 8, 8, 8, 8, 8, 8, 8, 8, 8, 8, 8, 8, 8, 8, 8, 8, 8, 8, 8, 8, 8, 8, 8, 8, 8, 8, 8, 8, 8, 8]⟩) y21) h) fun y22 h =>
  thenV (cvI .i64 y22 h) fun y23 h =>
  thenV (pu (bin Tryd.prog .add 3 y19 y23) h) fun y24 h =>
  thenV (some (y24, h)) fun y2_3 h =>
  some (y2_3, h)
  | .bool false =>
  thenV (some (y2_1, h)) fun y19 h =>
  thenV (some (y0, h)) fun y20 h =>
  thenV (cvI .u8 y20 h) fun y21 h =>
  thenV (pu (ixS (.string ⟨#[0, 1, 2, 2, 3, 3, 3, 3, 4, 4, 4, 4, 4, 4, 4, 4, 5, 5, 5, 5, 5, 5, 5, 5, 5, 5, 5, 5, 5, 5, 5, 5, 6, 6, 6, 6, 6, 6, 6, 6, 6, 6, 6, 6, 6, 6, 6, 6, 6, 6, 6, 6, 6, 6, 6, 6, 6, 6, 6, 6, 6, 6, 6, 6, 7, 7, 7, 7, 7, 7, 7, 7, 7, 7, 7, 7, 7, 7, 7, 7, 7, 7, 7, 7, 7, 7, 7, 7, 7, 7, 7, 7, 7, 7, 7, 7, 7, 7, 7, 7, 7, 7, 7, 7, 7, 7, 7, 7, 7, 7, 7, 7, 7, 7, 7, 7, 7, 7, 7, 7, 7, 7, 7, 7, 7, 7, 7, 7, 8, 8, 8, 8, 8, 8, 8, 8, 8, 8, 8, 8, 8, 8, 8, 8, 8, 8, 8, 8, 8, 8, 8, 8, 8, 8, 8, 8, 8, 8, 8, 8, 8, 8, 8, 8, 8, 8, 8, 8, 8, 8, 8, 8, 8, 8, 8, 8, 8, 8, 8, 8, 8, 8, 8, 8, 8, 8, 8, 8, 8, 8, 8, 8, 8, 8, 8, 8, 8, 8, 8, 8, 8, 8, 8, 8, 8, 8, 8, 8, 8, 8, 8, 8, 8, 8, 8, 8, 8, 8, 8, 8, 8, 8, 8, 8, 8, 8, 8, 8, 8, 8, 8, 8, 8, 8, 8, 8, 8, 8, 8, 8, 8, 8, 8, 8, 8, 8, 8, 8, 8, 8, 8, 8, 8, 8, 8, 8]⟩) y21) h) fun y22 h =>
  thenV (cvI .i64 y22 h) fun y23 h =>
  thenV (pu (bin Tryd.prog .add 3 y19 y23) h) fun y24 h =>
  thenV (some (y24, h)) fun y2_2 h =>
  some (y2_2, h)
  | _ => none)
  | .bool false =>
  thenV (some (x0, h)) fun y13 h =>
  thenV (pu (bin Tryd.prog .geq 32 y13 (.int .u64 256)) h) fun y14 h =>
  (match y14 with
  | .bool true =>
  thenV (some (x0, h)) fun y15 h =>
  thenV (pu (bin Tryd.prog .shr 32 y15 (.int .u64 8)) h) fun y16 h =>
  thenV (some (y16, h)) fun y0 h =>
  thenV (some (y2, h)) fun y17 h =>
  thenV (pu (bin Tryd.prog .add 3 y17 (.int .i64 8)) h) fun y18 h =>
  thenV (some (y18, h)) fun y2_1 h =>
  thenV (some (y2_1, h)) fun y19 h =>
  thenV (some (y0, h)) fun y20 h =>
  thenV (cvI .u8 y20 h) fun y21 h =>
  thenV (pu (ixS (.string ⟨#[0, 1, 2, 2, 3, 3, 3, 3, 4, 4, 4, 4, 4, 4, 4, 4, 5, 5, 5, 5, 5, 5, 5, 5, 5, 5, 5, 5, 5, 5, 5, 5, 6, 6, 6, 6, 6, 6, 6, 6, 6, 6, 6, 6, 6, 6, 6, 6, 6, 6, 6, 6, 6, 6, 6, 6, 6, 6, 6, 6, 6, 6, 6, 6, 7, 7, 7, 7, 7, 7, 7, 7, 7, 7, 7, 7, 7, 7, 7, 7, 7, 7, 7, 7, 7, 7, 7, 7, 7, 7, 7, 7, 7, 7, 7, 7, 7, 7, 7, 7, 7, 7, 7, 7, 7, 7, 7, 7, 7, 7, 7, 7, 7, 7, 7, 7, 7, 7, 7, 7, 7, 7, 7, 7, 7, 7, 7, 7, 8, 8, 8, 8, 8, 8, 8, 8, 8, 8, 8, 8, 8, 8, 8, 8, 8, 8, 8, 8, 8, 8, 8, 8, 8, 8, 8, 8, 8, 8, 8, 8, 8, 8, 8, 8, 8, 8, 8, 8, 8, 8, 8, 8, 8, 8, 8, 8, 8, 8, 8, 8, 8, 8, 8, 8, 8, 8, 8, 8, 8, 8, 8, 8, 8, 8, 8, 8, 8, 8, 8, 8, 8, 8, 8, 8, 8, 8, 8, 8, 8, 8, 8, 8, 8, 8, 8, 8, 8, 8, 8, 8, 8, 8, 8, 8, 8, 8, 8, 8, 8, 8, 8, 8, 8, 8, 8, 8, 8, 8, 8, 8, 8, 8, 8, 8, 8, 8, 8, 8, 8, 8, 8, 8, 8, 8, 8, 8]⟩) y21) h) fun y22 h =>
  thenV (cvI .i64 y22 h) fun y23 h =>
  thenV (pu (bin Tryd.prog .add 3 y19 y23) h) fun y24 h =>
  thenV (some (y24, h)) fun y2_2 h =>
  some (y2_2, h)
  | .bool false =>
  thenV (some (y2, h)) fun y19 h =>
  thenV (some (x0, h)) fun y20 h =>
  thenV (cvI .u8 y20 h) fun y21 h =>
  thenV (pu (ixS (.string ⟨#[0, 1, 2, 2, 3, 3, 3, 3, 4, 4, 4, 4, 4, 4, 4, 4, 5, 5, 5, 5, 5, 5, 5, 5, 5, 5, 5, 5, 5, 5, 5, 5, 6, 6, 6, 6, 6, 6, 6, 6, 6, 6, 6, 6, 6, 6, 6, 6, 6, 6, 6, 6, 6, 6, 6, 6, 6, 6, 6, 6, 6, 6, 6, 6, 7, 7, 7, 7, 7, 7, 7, 7, 7, 7, 7, 7, 7, 7, 7, 7, 7, 7, 7, 7, 7, 7, 7, 7, 7, 7, 7, 7, 7, 7, 7, 7, 7, 7, 7, 7, 7, 7, 7, 7, 7, 7, 7, 7, 7, 7, 7, 7, 7, 7, 7, 7, 7, 7, 7, 7, 7, 7, 7, 7, 7, 7, 7, 7, 8, 8, 8, 8, 8, 8, 8, 8, 8, 8, 8, 8, 8, 8, 8, 8, 8, 8, 8, 8, 8, 8, 8, 8, 8, 8, 8, 8, 8, 8, 8, 8, 8, 8, 8, 8, 8, 8, 8, 8, 8, 8, 8, 8, 8, 8, 8, 8, 8, 8, 8, 8, 8, 8, 8, 8, 8, 8, 8, 8, 8, 8, 8, 8, 8, 8, 8, 8, 8, 8, 8, 8, 8, 8, 8, 8, 8, 8, 8, 8, 8, 8, 8, 8, 8, 8, 8, 8, 8, 8, 8, 8, 8, 8, 8, 8, 8, 8, 8, 8, 8, 8, 8, 8, 8, 8, 8, 8, 8, 8, 8, 8, 8, 8, 8, 8, 8, 8, 8, 8, 8, 8, 8, 8, 8, 8, 8, 8]⟩) y21) h) fun y22 h =>
  thenV (cvI .i64 y22 h) fun y23 h =>
  thenV (pu (bin Tryd.prog .add 3 y19 y23) h) fun y24 h =>
  thenV (some (y24, h)) fun y2_1 h =>
  some (y2_1, h)
  | _ => none)
  | _ => none)
  | _ => none)
theorem t148_eq (C : CallF) (x0 : Value) (h : Heap) : bodyK Tryd.prog C Tryd.f148 [x0] h = t148 C x0 h :=
  (bodyB_eq Tryd.prog C Tryd.f148 [x0] h (by kernel_rfl)).trans (by kernel_rfl)

/-- stolon/inventory.invalid -/
noncomputable def t81 (C : CallF) (x0 : Value) (h : Heap) : Out :=
  thenV (some ((.bool false), h)) fun y2 h =>
  thenV (some (x0, h)) fun y3 h =>
  thenV (C 60 [y3, (.func (.func 124) #[] #[])] h) fun y4 h =>
  thenV (some (y4, h)) fun y2_1 h =>
  some (y2_1, h)
theorem t81_eq (C : CallF) (x0 : Value) (h : Heap) : bodyK Tryd.prog C Tryd.f81 [x0] h = t81 C x0 h :=
  (bodyB_eq Tryd.prog C Tryd.f81 [x0] h (by kernel_rfl)).trans (by kernel_rfl)

/-- stolon/inventory.invalid$1 -/
noncomputable def t124 (C : CallF) (x0 : Value) (h : Heap) : Out :=
  thenV (box x0 h) fun y1 h =>
  thenV (some ((.bool false), h)) fun y2 h =>
  thenV (ldN 39 y1 h) fun y3 h =>
  thenV (C 42 [y3] h) fun y4 h =>
  thenV (pu (unA .not y4) h) fun y5 h =>
  thenV (some (y5, h)) fun y2_1 h =>
  some (y2_1, h)
theorem t124_eq (C : CallF) (x0 : Value) (h : Heap) : bodyK Tryd.prog C Tryd.f124 [x0] h = t124 C x0 h :=
  (bodyB_eq Tryd.prog C Tryd.f124 [x0] h (by kernel_rfl)).trans (by kernel_rfl)

/-- slices.ContainsFunc[[]stolon/api.Record,stolon/api.Record] -/
noncomputable def t60 (C : CallF) (x0 x1 : Value) (h : Heap) : Out :=
  thenV (some ((.bool false), h)) fun y4 h =>
  thenV (some (x0, h)) fun y5 h =>
  thenV (some (x1, h)) fun y6 h =>
  thenV (C 113 [y5, y6] h) fun y7 h =>
  thenV (pu (bin Tryd.prog .geq 3 y7 (.int .i64 0)) h) fun y8 h =>
  thenV (some (y8, h)) fun y4_1 h =>
  some (y4_1, h)
theorem t60_eq (C : CallF) (x0 x1 : Value) (h : Heap) : bodyK Tryd.prog C Tryd.f60 [x0, x1] h = t60 C x0 x1 h :=
  (bodyB_eq Tryd.prog C Tryd.f60 [x0, x1] h (by kernel_rfl)).trans (by kernel_rfl)

/-- stolon/stolonlaw06.own -/
noncomputable def t26 (C : CallF) (x0 : Value) (h : Heap) : Out :=
  thenV (some ((.slice none 0 0), h)) fun y2 h =>
  thenV (bslR 39 (.agg #[(.int .u8 0), (.int .u8 0), (.int .u8 0), (.int .u8 0), (.int .u8 0), (.int .u8 0), (.int .u8 0), (.int .u8 0), (.int .u8 0), (.int .u8 0), (.int .u8 0), (.int .u8 0), (.int .u8 0), (.int .u8 0), (.int .u8 0), (.int .u8 0), (.int .u8 0), (.int .u8 0), (.int .u8 0), (.int .u8 0), (.int .u8 0), (.int .u8 0), (.int .u8 0), (.int .u8 0), (.int .u8 0), (.int .u8 0), (.int .u8 0), (.int .u8 0), (.int .u8 0), (.int .u8 0), (.int .u8 0), (.int .u8 0), (.int .u8 0), (.int .i64 0), (.int .u64 0), (.int .u64 0), (.bool false), (.int .i64 0), (.int .i64 0)]) 0 [] h) fun y3 h =>
  thenV (some (x0, h)) fun y4 h =>
  thenV (appendA 39 88 y3 y4 h) fun y5 h =>
  thenV (some (y5, h)) fun y2_1 h =>
  some (y2_1, h)
theorem t26_eq (C : CallF) (x0 : Value) (h : Heap) : bodyK Tryd.prog C Tryd.f26 [x0] h = t26 C x0 h :=
  (bodyB_eq Tryd.prog C Tryd.f26 [x0] h (by kernel_rfl)).trans (by kernel_rfl)

/-- stolon/inventory.Root -/
noncomputable def t38 (C : CallF) (x0 : Value) (h : Heap) : Out :=
  thenV (newC (List.replicate 32 (.int .u8 0)) h) fun y2 h =>
  thenV (some ((.int .i64 0), h)) fun y3 h =>
  thenV (some (x0, h)) fun y4 h =>
  thenV (C 81 [y4] h) fun y5 h =>
  (match y5 with
  | .bool true =>
  thenV (pu (bldR (List.replicate 32 (.int .u8 0)) []) h) fun y6 h =>
  thenV (stN 32 y2 y6 h) fun _ h =>
  thenV (some ((.int .i64 2), h)) fun y3_1 h =>
  resultsA Tryd.prog Tryd.f38.results.toList (mkF 9 (up (bs [x0]) [(2, y2), (3, y3_1), (4, y4), (5, y5), (6, y6)])) h
  | .bool false =>
  thenV (some (x0, h)) fun y7 h =>
  thenV (C 54 [y7] h) fun y8 h =>
  thenV (stN 32 y2 y8 h) fun _ h =>
  thenV (some ((.int .i64 0), h)) fun y3_1 h =>
  resultsA Tryd.prog Tryd.f38.results.toList (mkF 9 (up (bs [x0]) [(2, y2), (3, y3_1), (4, y4), (5, y5), (7, y7), (8, y8)])) h
  | _ => none)
theorem t38_eq (C : CallF) (x0 : Value) (h : Heap) : bodyK Tryd.prog C Tryd.f38 [x0] h = t38 C x0 h :=
  (bodyB_eq Tryd.prog C Tryd.f38 [x0] h (by kernel_rfl)).trans (by kernel_rfl)

end Go.Proofs.YtdnahgfgoajmcaaDoor

namespace Go.Proofs.YtdnahgfgoajmcaaDoor
open Go Go.Abs
noncomputable def b84_1 (C : CallF) (i : Nat) (e : Env) (h : Heap) : Out := if i = 0 then (resultsA Tryd.prog Tryd.f84.results.toList) e h else (fun _ _ _ => none) i e h
/-- slices.Reverse[[]stolon/api.Digest,stolon/api.Digest] -/
noncomputable def t84 (C : CallF) (x0 : Value) (h : Heap) : Out :=
  thenV (some (x0, h)) fun y4 h =>
  thenV (pu (lenL y4) h) fun y5 h =>
  thenV (pu (bin Tryd.prog .sub 3 y5 (.int .i64 1)) h) fun y6 h =>
  thenV (some ((.int .i64 0), h)) fun y2 h =>
  thenV (some (y6, h)) fun y3 h =>
  endL (iter (codeA Tryd.prog C (partOf Tryd.f84 [1, 0, 0])) rounds (mkF 28 (up (bs [x0]) [(2, y2), (3, y3), (4, y4), (5, y5), (6, y6)])) h) (resultsA Tryd.prog Tryd.f84.results.toList) (b84_1 C)
noncomputable def t84l84_10 (C : CallF) (x : Nat → Value) (h : Heap) : Option (Ex × Env × Heap) :=
  thenV (some ((x 2), h)) fun y7 h =>
  thenV (some ((x 3), h)) fun y8 h =>
  thenV (pu (bin Tryd.prog .lss 3 y7 y8) h) fun y9 h =>
  (match y9 with
  | .bool true =>
  thenV (some ((x 0), h)) fun y14 h =>
  thenV (some ((x 2), h)) fun y15 h =>
  thenV (some ((x 0), h)) fun y16 h =>
  thenV (some ((x 3), h)) fun y17 h =>
  thenV (some ((x 0), h)) fun y18 h =>
  thenV (some ((x 3), h)) fun y19 h =>
  thenV (pu (idxS 32 y18 y19) h) fun y20 h =>
  thenV (ldN 32 y20 h) fun y21 h =>
  thenV (some ((x 0), h)) fun y22 h =>
  thenV (some ((x 2), h)) fun y23 h =>
  thenV (pu (idxS 32 y22 y23) h) fun y24 h =>
  thenV (ldN 32 y24 h) fun y25 h =>
  thenV (pu (idxS 32 y14 y15) h) fun y26 h =>
  thenV (stN 32 y26 y21 h) fun _ h =>
  thenV (pu (idxS 32 y16 y17) h) fun y27 h =>
  thenV (stN 32 y27 y25 h) fun _ h =>
  thenV (some ((x 2), h)) fun y10 h =>
  thenV (pu (bin Tryd.prog .add 3 y10 (.int .i64 1)) h) fun y11 h =>
  thenV (some ((x 3), h)) fun y12 h =>
  thenV (pu (bin Tryd.prog .sub 3 y12 (.int .i64 1)) h) fun y13 h =>
  thenV (some (y11, h)) fun y2 h =>
  thenV (some (y13, h)) fun y3 h =>
  some (.normal, (mkF 28 (up x [(2, y2), (3, y3), (7, y7), (8, y8), (9, y9), (10, y10), (11, y11), (12, y12), (13, y13), (14, y14), (15, y15), (16, y16), (17, y17), (18, y18), (19, y19), (20, y20), (21, y21), (22, y22), (23, y23), (24, y24), (25, y25), (26, y26), (27, y27)])), h)
  | .bool false =>
  some (.exit 0, (mkF 28 (up x [(7, y7), (8, y8), (9, y9)])), h)
  | _ => none)
theorem t84_eq (C : CallF) (x0 : Value) (h : Heap) : bodyK Tryd.prog C Tryd.f84 [x0] h = t84 C x0 h :=
  (bodyB_eq Tryd.prog C Tryd.f84 [x0] h (by kernel_rfl)).trans (by kernel_rfl)
theorem t84l84_10_eq (C : CallF) (x : Nat → Value) (h : Heap) : codeA Tryd.prog C (partOf Tryd.f84 [1, 0, 0]) (mkF 28 x) h = t84l84_10 C x h :=
  link_roundF (T := t84l84_10 C) (fun x h => by kernel_rfl) x h

noncomputable def k40_5 (C : CallF) (e : Env) (h : Heap) : Out := codeK Tryd.prog C (partOf Tryd.f40 [1, 1, 1, 1]) e h (resultsA Tryd.prog Tryd.f40.results.toList) (resultsA Tryd.prog Tryd.f40.results.toList) (fun _ _ _ => none)
noncomputable def b40_7 (C : CallF) (i : Nat) (e : Env) (h : Heap) : Out := if i = 0 then (k40_5 C) e h else (fun _ _ _ => none) i e h
/-- stolon/inventory.Prove -/
noncomputable def t40 (C : CallF) (x0 x1 : Value) (h : Heap) : Out :=
  thenV (some ((.slice none 0 0), h)) fun y4 h =>
  thenV (some ((.int .i64 0), h)) fun y5 h =>
  thenV (some (x0, h)) fun y9 h =>
  thenV (C 81 [y9] h) fun y10 h =>
  thenV (some (y10, h)) fun y11 h =>
  thenV (guardK (bOf y11 == some false) (some (x1, h)) h) fun y12 h =>
  thenV (guardK (bOf y11 == some false) (pu (bin Tryd.prog .lss 3 y12 (.int .i64 0)) h) h) fun y13 h =>
  thenV (match y11 with | .bool t => some (if t then (.bool true) else y13, h) | _ => none) fun y14 h =>
  thenV (some (y14, h)) fun y15 h =>
  thenV (guardK (bOf y15 == some false) (some (x1, h)) h) fun y16 h =>
  thenV (guardK (bOf y15 == some false) (some (x0, h)) h) fun y17 h =>
  thenV (guardK (bOf y15 == some false) (pu (lenL y17) h) h) fun y18 h =>
  thenV (guardK (bOf y15 == some false) (pu (bin Tryd.prog .geq 3 y16 y18) h) h) fun y19 h =>
  thenV (match y15 with | .bool t => some (if t then (.bool true) else y19, h) | _ => none) fun y20 h =>
  (match y20 with
  | .bool true =>
  thenV (some ((.slice none 0 0), h)) fun y4_1 h =>
  thenV (some ((.int .i64 2), h)) fun y5_1 h =>
  some (.tuple #[y4_1, y5_1], h)
  | .bool false =>
  thenV (some ((.slice none 0 0), h)) fun y6 h =>
  thenV (some (x0, h)) fun y21 h =>
  thenV (some (y21, h)) fun y7 h =>
  endL (iter (codeA Tryd.prog C (partOf Tryd.f40 [1, 1, 1, 0, 1, 0, 0])) rounds (mkF 57 (up (bs [x0, x1]) [(4, y4), (5, y5), (6, y6), (7, y7), (9, y9), (10, y10), (11, y11), (12, y12), (13, y13), (14, y14), (15, y15), (16, y16), (17, y17), (18, y18), (19, y19), (20, y20), (21, y21)])) h) (resultsA Tryd.prog Tryd.f40.results.toList) (b40_7 C)
  | _ => none)
noncomputable def t40k40_5 (C : CallF) (x : Nat → Value) (h : Heap) : Out :=
  thenV (some ((x 6), h)) fun y54 h =>
  thenV (C 84 [y54] h) fun y55 h =>
  thenV (some ((x 6), h)) fun y56 h =>
  thenV (some (y56, h)) fun y4 h =>
  thenV (some ((.int .i64 0), h)) fun y5 h =>
  some (.tuple #[y4, y5], h)
noncomputable def t40l40_111010 (C : CallF) (x : Nat → Value) (h : Heap) : Option (Ex × Env × Heap) :=
  thenV (some ((x 7), h)) fun y22 h =>
  thenV (pu (lenL y22) h) fun y23 h =>
  thenV (pu (bin Tryd.prog .gtr 3 y23 (.int .i64 1)) h) fun y24 h =>
  (match y24 with
  | .bool true =>
  thenV (some ((x 7), h)) fun y25 h =>
  thenV (pu (lenL y25) h) fun y26 h =>
  thenV (C 83 [y26] h) fun y27 h =>
  thenV (some (y27, h)) fun y8 h =>
  thenV (some ((x 1), h)) fun y28 h =>
  thenV (some (y8, h)) fun y29 h =>
  thenV (pu (bin Tryd.prog .lss 3 y28 y29) h) fun y30 h =>
  (match y30 with
  | .bool true =>
  thenV (some ((x 6), h)) fun y31 h =>
  thenV (some ((x 7), h)) fun y32 h =>
  thenV (some (y8, h)) fun y33 h =>
  thenV (pu (slR 39 y32 (some y33) none none) h) fun y34 h =>
  thenV (C 54 [y34] h) fun y35 h =>
  thenV (bslR 32 (.agg (List.replicate 32 (.int .u8 0)).toArray) 1 [(0, y35)] h) fun y36 h =>
  thenV (appendA 32 32 y31 y36 h) fun y37 h =>
  thenV (some ((x 7), h)) fun y38 h =>
  thenV (some (y8, h)) fun y39 h =>
  thenV (pu (slR 39 y38 none (some y39) none) h) fun y40 h =>
  thenV (some (y37, h)) fun y6 h =>
  thenV (some (y40, h)) fun y7 h =>
  some (.normal, (mkF 57 (up x [(6, y6), (7, y7), (8, y8), (22, y22), (23, y23), (24, y24), (25, y25), (26, y26), (27, y27), (28, y28), (29, y29), (30, y30), (31, y31), (32, y32), (33, y33), (34, y34), (35, y35), (36, y36), (37, y37), (38, y38), (39, y39), (40, y40)])), h)
  | .bool false =>
  thenV (some ((x 6), h)) fun y41 h =>
  thenV (some ((x 7), h)) fun y42 h =>
  thenV (some (y8, h)) fun y43 h =>
  thenV (pu (slR 39 y42 none (some y43) none) h) fun y44 h =>
  thenV (C 54 [y44] h) fun y45 h =>
  thenV (bslR 32 (.agg (List.replicate 32 (.int .u8 0)).toArray) 1 [(0, y45)] h) fun y46 h =>
  thenV (appendA 32 32 y41 y46 h) fun y47 h =>
  thenV (some ((x 7), h)) fun y48 h =>
  thenV (some (y8, h)) fun y49 h =>
  thenV (pu (slR 39 y48 (some y49) none none) h) fun y50 h =>
  thenV (some (y47, h)) fun y6 h =>
  thenV (some (y50, h)) fun y7 h =>
  thenV (some ((x 1), h)) fun y51 h =>
  thenV (some (y8, h)) fun y52 h =>
  thenV (pu (bin Tryd.prog .sub 3 y51 y52) h) fun y53 h =>
  thenV (some (y53, h)) fun y1 h =>
  some (.normal, (mkF 57 (up x [(1, y1), (6, y6), (7, y7), (8, y8), (22, y22), (23, y23), (24, y24), (25, y25), (26, y26), (27, y27), (28, y28), (29, y29), (30, y30), (41, y41), (42, y42), (43, y43), (44, y44), (45, y45), (46, y46), (47, y47), (48, y48), (49, y49), (50, y50), (51, y51), (52, y52), (53, y53)])), h)
  | _ => none)
  | .bool false =>
  some (.exit 0, (mkF 57 (up x [(22, y22), (23, y23), (24, y24)])), h)
  | _ => none)
theorem t40_eq (C : CallF) (x0 x1 : Value) (h : Heap) : bodyK Tryd.prog C Tryd.f40 [x0, x1] h = t40 C x0 x1 h :=
  (bodyB_eq Tryd.prog C Tryd.f40 [x0, x1] h (by kernel_rfl)).trans (by kernel_rfl)
theorem t40k40_5_eq (C : CallF) (x : Nat → Value) (h : Heap) : k40_5 C (mkF 57 x) h = t40k40_5 C x h :=
  link_partF (b := (partOf Tryd.f40 [1, 1, 1, 1])) (kE := (resultsA Tryd.prog Tryd.f40.results.toList)) (rE := (resultsA Tryd.prog Tryd.f40.results.toList)) (xE := (fun _ _ _ => none)) (T := t40k40_5 C) (fun x h => by kernel_rfl) x h
theorem t40l40_111010_eq (C : CallF) (x : Nat → Value) (h : Heap) : codeA Tryd.prog C (partOf Tryd.f40 [1, 1, 1, 0, 1, 0, 0]) (mkF 57 x) h = t40l40_111010 C x h :=
  link_roundF (T := t40l40_111010 C) (fun x h => by kernel_rfl) x h

end Go.Proofs.YtdnahgfgoajmcaaDoor

namespace Go.Proofs.YtdnahgfgoajmcaaDoor
open Go Go.Abs
noncomputable def k113_1 (C : CallF) (e : Env) (h : Heap) : Out := codeK Tryd.prog C (partOf Tryd.f113 [1, 1]) e h (resultsA Tryd.prog Tryd.f113.results.toList) (resultsA Tryd.prog Tryd.f113.results.toList) (fun _ _ _ => none)
noncomputable def b113_3 (C : CallF) (i : Nat) (e : Env) (h : Heap) : Out := if i = 0 then (k113_1 C) e h else (fun _ _ _ => none) i e h
/-- slices.IndexFunc[[]stolon/api.Record,stolon/api.Record] -/
noncomputable def t113 (C : CallF) (x0 x1 : Value) (h : Heap) : Out :=
  thenV (some ((.int .i64 0), h)) fun y4 h =>
  thenV (some (x0, h)) fun y6 h =>
  thenV (pu (lenL y6) h) fun y7 h =>
  thenV (some ((.int .i64 0), h)) fun y8 h =>
  endL (iter (codeA Tryd.prog C (partOf Tryd.f113 [1, 0, 1, 0, 0])) rounds (mkF 19 (up (bs [x0, x1]) [(4, y4), (6, y6), (7, y7), (8, y8)])) h) (resultsA Tryd.prog Tryd.f113.results.toList) (b113_3 C)
noncomputable def t113k113_1 (C : CallF) (x : Nat → Value) (h : Heap) : Out :=
  thenV (some ((.int .i64 (-1)), h)) fun y4 h =>
  some (y4, h)
noncomputable def t113l113_1010 (C : CallF) (x : Nat → Value) (h : Heap) : Option (Ex × Env × Heap) :=
  thenV (pu (bin Tryd.prog .lss 3 (x 8) (x 7)) h) fun y9 h =>
  (match y9 with
  | .bool true =>
  thenV (some ((x 8), h)) fun y10 h =>
  thenV (some (y10, h)) fun y5 h =>
  thenV (some ((x 1), h)) fun y11 h =>
  thenV (some ((x 0), h)) fun y12 h =>
  thenV (some (y5, h)) fun y13 h =>
  thenV (pu (idxS 39 y12 y13) h) fun y14 h =>
  thenV (ldN 39 y14 h) fun y15 h =>
  thenV (callA Tryd.prog C y11 [y15] h) fun y16 h =>
  (match y16 with
  | .bool true =>
  thenV (some (y5, h)) fun y17 h =>
  thenV (some (y17, h)) fun y4 h =>
  some (.ret, (mkF 19 (up x [(4, y4), (5, y5), (9, y9), (10, y10), (11, y11), (12, y12), (13, y13), (14, y14), (15, y15), (16, y16), (17, y17)])), h)
  | .bool false =>
  thenV (pu (bin Tryd.prog .add 3 (x 8) (.int .i64 1)) h) fun y18 h =>
  thenV (some (y18, h)) fun y8 h =>
  some (.normal, (mkF 19 (up x [(5, y5), (8, y8), (9, y9), (10, y10), (11, y11), (12, y12), (13, y13), (14, y14), (15, y15), (16, y16), (18, y18)])), h)
  | _ => none)
  | .bool false =>
  some (.exit 0, (mkF 19 (up x [(9, y9)])), h)
  | _ => none)
theorem t113_eq (C : CallF) (x0 x1 : Value) (h : Heap) : bodyK Tryd.prog C Tryd.f113 [x0, x1] h = t113 C x0 x1 h :=
  (bodyB_eq Tryd.prog C Tryd.f113 [x0, x1] h (by kernel_rfl)).trans (by kernel_rfl)
theorem t113k113_1_eq (C : CallF) (x : Nat → Value) (h : Heap) : k113_1 C (mkF 19 x) h = t113k113_1 C x h :=
  link_partF (b := (partOf Tryd.f113 [1, 1])) (kE := (resultsA Tryd.prog Tryd.f113.results.toList)) (rE := (resultsA Tryd.prog Tryd.f113.results.toList)) (xE := (fun _ _ _ => none)) (T := t113k113_1 C) (fun x h => by kernel_rfl) x h
theorem t113l113_1010_eq (C : CallF) (x : Nat → Value) (h : Heap) : codeA Tryd.prog C (partOf Tryd.f113 [1, 0, 1, 0, 0]) (mkF 19 x) h = t113l113_1010 C x h :=
  link_roundF (T := t113l113_1010 C) (fun x h => by kernel_rfl) x h

end Go.Proofs.YtdnahgfgoajmcaaDoor

namespace Go.Proofs.YtdnahgfgoajmcaaDoor
open Go Go.Abs
/-- stolon/stolonref06.tree -/
noncomputable def t55 (C : CallF) (x0 : Value) (h : Heap) : Out :=
  thenV (newC (List.replicate 32 (.int .u8 0)) h) fun y2 h =>
  thenV (some (x0, h)) fun y4 h =>
  thenV (pu (lenL y4) h) fun y5 h =>
  thenV (pu (bin Tryd.prog .eql 3 y5 (.int .i64 0)) h) fun y6 h =>
  (match y6 with
  | .bool true =>
  thenV (C 108 [(.slice none 0 0)] h) fun y7 h =>
  thenV (stN 32 y2 y7 h) fun _ h =>
  resultsA Tryd.prog Tryd.f55.results.toList (mkF 27 (up (bs [x0]) [(2, y2), (4, y4), (5, y5), (6, y6), (7, y7)])) h
  | .bool false =>
  thenV (some (x0, h)) fun y8 h =>
  thenV (pu (lenL y8) h) fun y9 h =>
  thenV (pu (bin Tryd.prog .eql 3 y9 (.int .i64 1)) h) fun y10 h =>
  (match y10 with
  | .bool true =>
  thenV (some (x0, h)) fun y11 h =>
  thenV (pu (idxS 39 y11 (.int .i64 0)) h) fun y12 h =>
  thenV (ldN 39 y12 h) fun y13 h =>
  thenV (C 72 [y13] h) fun y14 h =>
  thenV (stN 32 y2 y14 h) fun _ h =>
  resultsA Tryd.prog Tryd.f55.results.toList (mkF 27 (up (bs [x0]) [(2, y2), (4, y4), (5, y5), (6, y6), (8, y8), (9, y9), (10, y10), (11, y11), (12, y12), (13, y13), (14, y14)])) h
  | .bool false =>
  thenV (some (x0, h)) fun y15 h =>
  thenV (pu (lenL y15) h) fun y16 h =>
  thenV (C 109 [y16] h) fun y17 h =>
  thenV (some (y17, h)) fun y3 h =>
  thenV (some (x0, h)) fun y18 h =>
  thenV (some (y3, h)) fun y19 h =>
  thenV (pu (slR 39 y18 none (some y19) none) h) fun y20 h =>
  thenV (C 55 [y20] h) fun y21 h =>
  thenV (some (x0, h)) fun y22 h =>
  thenV (some (y3, h)) fun y23 h =>
  thenV (pu (slR 39 y22 (some y23) none none) h) fun y24 h =>
  thenV (C 55 [y24] h) fun y25 h =>
  thenV (C 110 [y21, y25] h) fun y26 h =>
  thenV (stN 32 y2 y26 h) fun _ h =>
  resultsA Tryd.prog Tryd.f55.results.toList (mkF 27 (up (bs [x0]) [(2, y2), (3, y3), (4, y4), (5, y5), (6, y6), (8, y8), (9, y9), (10, y10), (15, y15), (16, y16), (17, y17), (18, y18), (19, y19), (20, y20), (21, y21), (22, y22), (23, y23), (24, y24), (25, y25), (26, y26)])) h
  | _ => none)
  | _ => none)
theorem t55_eq (C : CallF) (x0 : Value) (h : Heap) : bodyK Tryd.prog C Tryd.f55 [x0] h = t55 C x0 h :=
  (bodyB_eq Tryd.prog C Tryd.f55 [x0] h (by kernel_rfl)).trans (by kernel_rfl)

noncomputable def k82_1 (C : CallF) (e : Env) (h : Heap) : Out := codeK Tryd.prog C (partOf Tryd.f82 [1, 1]) e h (resultsA Tryd.prog Tryd.f82.results.toList) (resultsA Tryd.prog Tryd.f82.results.toList) (fun _ _ _ => none)
noncomputable def b82_3 (C : CallF) (i : Nat) (e : Env) (h : Heap) : Out := if i = 0 then (k82_1 C) e h else (fun _ _ _ => none) i e h
/-- stolon/stolonref06.allValid -/
noncomputable def t82 (C : CallF) (x0 : Value) (h : Heap) : Out :=
  thenV (some ((.bool false), h)) fun y2 h =>
  thenV (some ((.int .i64 0), h)) fun y3 h =>
  endL (iter (codeA Tryd.prog C (partOf Tryd.f82 [1, 0, 1, 0, 0])) rounds (mkF 16 (up (bs [x0]) [(2, y2), (3, y3)])) h) (resultsA Tryd.prog Tryd.f82.results.toList) (b82_3 C)
noncomputable def t82k82_1 (C : CallF) (x : Nat → Value) (h : Heap) : Out :=
  thenV (some ((.bool true), h)) fun y2 h =>
  some (y2, h)
noncomputable def t82l82_1010 (C : CallF) (x : Nat → Value) (h : Heap) : Option (Ex × Env × Heap) :=
  thenV (some ((x 3), h)) fun y4 h =>
  thenV (some ((x 0), h)) fun y5 h =>
  thenV (pu (lenL y5) h) fun y6 h =>
  thenV (pu (bin Tryd.prog .lss 3 y4 y6) h) fun y7 h =>
  (match y7 with
  | .bool true =>
  thenV (some ((x 0), h)) fun y10 h =>
  thenV (some ((x 3), h)) fun y11 h =>
  thenV (pu (idxS 39 y10 y11) h) fun y12 h =>
  thenV (ldN 39 y12 h) fun y13 h =>
  thenV (C 48 [y13] h) fun y14 h =>
  thenV (pu (unA .not y14) h) fun y15 h =>
  (match y15 with
  | .bool true =>
  thenV (some ((.bool false), h)) fun y2 h =>
  some (.ret, (mkF 16 (up x [(2, y2), (4, y4), (5, y5), (6, y6), (7, y7), (10, y10), (11, y11), (12, y12), (13, y13), (14, y14), (15, y15)])), h)
  | .bool false =>
  thenV (some ((x 3), h)) fun y8 h =>
  thenV (pu (bin Tryd.prog .add 3 y8 (.int .i64 1)) h) fun y9 h =>
  thenV (some (y9, h)) fun y3 h =>
  some (.normal, (mkF 16 (up x [(3, y3), (4, y4), (5, y5), (6, y6), (7, y7), (8, y8), (9, y9), (10, y10), (11, y11), (12, y12), (13, y13), (14, y14), (15, y15)])), h)
  | _ => none)
  | .bool false =>
  some (.exit 0, (mkF 16 (up x [(4, y4), (5, y5), (6, y6), (7, y7)])), h)
  | _ => none)
theorem t82_eq (C : CallF) (x0 : Value) (h : Heap) : bodyK Tryd.prog C Tryd.f82 [x0] h = t82 C x0 h :=
  (bodyB_eq Tryd.prog C Tryd.f82 [x0] h (by kernel_rfl)).trans (by kernel_rfl)
theorem t82k82_1_eq (C : CallF) (x : Nat → Value) (h : Heap) : k82_1 C (mkF 16 x) h = t82k82_1 C x h :=
  link_partF (b := (partOf Tryd.f82 [1, 1])) (kE := (resultsA Tryd.prog Tryd.f82.results.toList)) (rE := (resultsA Tryd.prog Tryd.f82.results.toList)) (xE := (fun _ _ _ => none)) (T := t82k82_1 C) (fun x h => by kernel_rfl) x h
theorem t82l82_1010_eq (C : CallF) (x : Nat → Value) (h : Heap) : codeA Tryd.prog C (partOf Tryd.f82 [1, 0, 1, 0, 0]) (mkF 16 x) h = t82l82_1010 C x h :=
  link_roundF (T := t82l82_1010 C) (fun x h => by kernel_rfl) x h

/-- stolon/stolonref06.Root -/
noncomputable def t39 (C : CallF) (x0 : Value) (h : Heap) : Out :=
  thenV (newC (List.replicate 32 (.int .u8 0)) h) fun y2 h =>
  thenV (some ((.int .i64 0), h)) fun y3 h =>
  thenV (some (x0, h)) fun y4 h =>
  thenV (C 82 [y4] h) fun y5 h =>
  thenV (pu (unA .not y5) h) fun y6 h =>
  (match y6 with
  | .bool true =>
  thenV (ldN 32 (ptr 0 0) h) fun y7 h =>
  thenV (stN 32 y2 y7 h) fun _ h =>
  thenV (some ((.int .i64 2), h)) fun y3_1 h =>
  resultsA Tryd.prog Tryd.f39.results.toList (mkF 10 (up (bs [x0]) [(2, y2), (3, y3_1), (4, y4), (5, y5), (6, y6), (7, y7)])) h
  | .bool false =>
  thenV (some (x0, h)) fun y8 h =>
  thenV (C 55 [y8] h) fun y9 h =>
  thenV (stN 32 y2 y9 h) fun _ h =>
  thenV (some ((.int .i64 0), h)) fun y3_1 h =>
  resultsA Tryd.prog Tryd.f39.results.toList (mkF 10 (up (bs [x0]) [(2, y2), (3, y3_1), (4, y4), (5, y5), (6, y6), (8, y8), (9, y9)])) h
  | _ => none)
theorem t39_eq (C : CallF) (x0 : Value) (h : Heap) : bodyK Tryd.prog C Tryd.f39 [x0] h = t39 C x0 h :=
  (bodyB_eq Tryd.prog C Tryd.f39 [x0] h (by kernel_rfl)).trans (by kernel_rfl)

/-- stolon/stolonref06.path -/
noncomputable def t85 (C : CallF) (x0 x1 : Value) (h : Heap) : Out :=
  thenV (some ((.slice none 0 0), h)) fun y4 h =>
  thenV (some (x0, h)) fun y6 h =>
  thenV (pu (lenL y6) h) fun y7 h =>
  thenV (pu (bin Tryd.prog .eql 3 y7 (.int .i64 1)) h) fun y8 h =>
  (match y8 with
  | .bool true =>
  thenV (some ((.slice none 0 0), h)) fun y4_1 h =>
  some (y4_1, h)
  | .bool false =>
  thenV (some (x0, h)) fun y9 h =>
  thenV (pu (lenL y9) h) fun y10 h =>
  thenV (C 109 [y10] h) fun y11 h =>
  thenV (some (y11, h)) fun y5 h =>
  thenV (some (x1, h)) fun y12 h =>
  thenV (some (y5, h)) fun y13 h =>
  thenV (pu (bin Tryd.prog .lss 3 y12 y13) h) fun y14 h =>
  (match y14 with
  | .bool true =>
  thenV (some (x0, h)) fun y15 h =>
  thenV (some (y5, h)) fun y16 h =>
  thenV (pu (slR 39 y15 none (some y16) none) h) fun y17 h =>
  thenV (some (x1, h)) fun y18 h =>
  thenV (C 85 [y17, y18] h) fun y19 h =>
  thenV (some (x0, h)) fun y20 h =>
  thenV (some (y5, h)) fun y21 h =>
  thenV (pu (slR 39 y20 (some y21) none none) h) fun y22 h =>
  thenV (C 55 [y22] h) fun y23 h =>
  thenV (bslR 32 (.agg (List.replicate 32 (.int .u8 0)).toArray) 1 [(0, y23)] h) fun y24 h =>
  thenV (appendA 32 32 y19 y24 h) fun y25 h =>
  thenV (some (y25, h)) fun y4_1 h =>
  some (y4_1, h)
  | .bool false =>
  thenV (some (x0, h)) fun y26 h =>
  thenV (some (y5, h)) fun y27 h =>
  thenV (pu (slR 39 y26 (some y27) none none) h) fun y28 h =>
  thenV (some (x1, h)) fun y29 h =>
  thenV (some (y5, h)) fun y30 h =>
  thenV (pu (bin Tryd.prog .sub 3 y29 y30) h) fun y31 h =>
  thenV (C 85 [y28, y31] h) fun y32 h =>
  thenV (some (x0, h)) fun y33 h =>
  thenV (some (y5, h)) fun y34 h =>
  thenV (pu (slR 39 y33 none (some y34) none) h) fun y35 h =>
  thenV (C 55 [y35] h) fun y36 h =>
  thenV (bslR 32 (.agg (List.replicate 32 (.int .u8 0)).toArray) 1 [(0, y36)] h) fun y37 h =>
  thenV (appendA 32 32 y32 y37 h) fun y38 h =>
  thenV (some (y38, h)) fun y4_1 h =>
  some (y4_1, h)
  | _ => none)
  | _ => none)
theorem t85_eq (C : CallF) (x0 x1 : Value) (h : Heap) : bodyK Tryd.prog C Tryd.f85 [x0, x1] h = t85 C x0 x1 h :=
  (bodyB_eq Tryd.prog C Tryd.f85 [x0, x1] h (by kernel_rfl)).trans (by kernel_rfl)

/-- stolon/stolonref06.Prove -/
noncomputable def t41 (C : CallF) (x0 x1 : Value) (h : Heap) : Out :=
  thenV (some ((.slice none 0 0), h)) fun y4 h =>
  thenV (some ((.int .i64 0), h)) fun y5 h =>
  thenV (some (x0, h)) fun y6 h =>
  thenV (C 82 [y6] h) fun y7 h =>
  thenV (pu (unA .not y7) h) fun y8 h =>
  thenV (some (y8, h)) fun y9 h =>
  thenV (guardK (bOf y9 == some false) (some (x1, h)) h) fun y10 h =>
  thenV (guardK (bOf y9 == some false) (pu (bin Tryd.prog .lss 3 y10 (.int .i64 0)) h) h) fun y11 h =>
  thenV (match y9 with | .bool t => some (if t then (.bool true) else y11, h) | _ => none) fun y12 h =>
  thenV (some (y12, h)) fun y13 h =>
  thenV (guardK (bOf y13 == some false) (some (x1, h)) h) fun y14 h =>
  thenV (guardK (bOf y13 == some false) (some (x0, h)) h) fun y15 h =>
  thenV (guardK (bOf y13 == some false) (pu (lenL y15) h) h) fun y16 h =>
  thenV (guardK (bOf y13 == some false) (pu (bin Tryd.prog .geq 3 y14 y16) h) h) fun y17 h =>
  thenV (match y13 with | .bool t => some (if t then (.bool true) else y17, h) | _ => none) fun y18 h =>
  (match y18 with
  | .bool true =>
  thenV (some ((.slice none 0 0), h)) fun y4_1 h =>
  thenV (some ((.int .i64 2), h)) fun y5_1 h =>
  some (.tuple #[y4_1, y5_1], h)
  | .bool false =>
  thenV (some (x0, h)) fun y19 h =>
  thenV (some (x1, h)) fun y20 h =>
  thenV (C 85 [y19, y20] h) fun y21 h =>
  thenV (some (y21, h)) fun y4_1 h =>
  thenV (some ((.int .i64 0), h)) fun y5_1 h =>
  some (.tuple #[y4_1, y5_1], h)
  | _ => none)
theorem t41_eq (C : CallF) (x0 x1 : Value) (h : Heap) : bodyK Tryd.prog C Tryd.f41 [x0, x1] h = t41 C x0 x1 h :=
  (bodyB_eq Tryd.prog C Tryd.f41 [x0, x1] h (by kernel_rfl)).trans (by kernel_rfl)

noncomputable def k34_4 (C : CallF) (e : Env) (h : Heap) : Out := codeK Tryd.prog C (partOf Tryd.f34 [1, 1, 1]) e h (resultsA Tryd.prog Tryd.f34.results.toList) (resultsA Tryd.prog Tryd.f34.results.toList) (fun _ _ _ => none)
noncomputable def b34_6 (C : CallF) (i : Nat) (e : Env) (h : Heap) : Out := if i = 0 then (k34_4 C) e h else (fun _ _ _ => none) i e h
/-- stolon/stolonlaw06.sameIDs -/
noncomputable def t34 (C : CallF) (x0 x1 : Value) (h : Heap) : Out :=
  thenV (some ((.bool false), h)) fun y4 h =>
  thenV (some (x0, h)) fun y6 h =>
  thenV (pu (lenL y6) h) fun y7 h =>
  thenV (some (x1, h)) fun y8 h =>
  thenV (pu (lenL y8) h) fun y9 h =>
  thenV (pu (bin Tryd.prog .neq 3 y7 y9) h) fun y10 h =>
  (match y10 with
  | .bool true =>
  thenV (some ((.bool false), h)) fun y4_1 h =>
  some (y4_1, h)
  | .bool false =>
  thenV (some ((.int .i64 0), h)) fun y5 h =>
  endL (iter (codeA Tryd.prog C (partOf Tryd.f34 [1, 1, 0, 1, 0, 0])) rounds (mkF 26 (up (bs [x0, x1]) [(4, y4), (5, y5), (6, y6), (7, y7), (8, y8), (9, y9), (10, y10)])) h) (resultsA Tryd.prog Tryd.f34.results.toList) (b34_6 C)
  | _ => none)
noncomputable def t34k34_4 (C : CallF) (x : Nat → Value) (h : Heap) : Out :=
  thenV (some ((.bool true), h)) fun y4 h =>
  some (y4, h)
noncomputable def t34l34_11010 (C : CallF) (x : Nat → Value) (h : Heap) : Option (Ex × Env × Heap) :=
  thenV (some ((x 5), h)) fun y11 h =>
  thenV (some ((x 0), h)) fun y12 h =>
  thenV (pu (lenL y12) h) fun y13 h =>
  thenV (pu (bin Tryd.prog .lss 3 y11 y13) h) fun y14 h =>
  (match y14 with
  | .bool true =>
  thenV (some ((x 0), h)) fun y17 h =>
  thenV (some ((x 5), h)) fun y18 h =>
  thenV (pu (idxS 32 y17 y18) h) fun y19 h =>
  thenV (ldN 32 y19 h) fun y20 h =>
  thenV (some ((x 1), h)) fun y21 h =>
  thenV (some ((x 5), h)) fun y22 h =>
  thenV (pu (idxS 32 y21 y22) h) fun y23 h =>
  thenV (ldN 32 y23 h) fun y24 h =>
  thenV (pu (bin Tryd.prog .neq 35 y20 y24) h) fun y25 h =>
  (match y25 with
  | .bool true =>
  thenV (some ((.bool false), h)) fun y4 h =>
  some (.ret, (mkF 26 (up x [(4, y4), (11, y11), (12, y12), (13, y13), (14, y14), (17, y17), (18, y18), (19, y19), (20, y20), (21, y21), (22, y22), (23, y23), (24, y24), (25, y25)])), h)
  | .bool false =>
  thenV (some ((x 5), h)) fun y15 h =>
  thenV (pu (bin Tryd.prog .add 3 y15 (.int .i64 1)) h) fun y16 h =>
  thenV (some (y16, h)) fun y5 h =>
  some (.normal, (mkF 26 (up x [(5, y5), (11, y11), (12, y12), (13, y13), (14, y14), (15, y15), (16, y16), (17, y17), (18, y18), (19, y19), (20, y20), (21, y21), (22, y22), (23, y23), (24, y24), (25, y25)])), h)
  | _ => none)
  | .bool false =>
  some (.exit 0, (mkF 26 (up x [(11, y11), (12, y12), (13, y13), (14, y14)])), h)
  | _ => none)
theorem t34_eq (C : CallF) (x0 x1 : Value) (h : Heap) : bodyK Tryd.prog C Tryd.f34 [x0, x1] h = t34 C x0 x1 h :=
  (bodyB_eq Tryd.prog C Tryd.f34 [x0, x1] h (by kernel_rfl)).trans (by kernel_rfl)
theorem t34k34_4_eq (C : CallF) (x : Nat → Value) (h : Heap) : k34_4 C (mkF 26 x) h = t34k34_4 C x h :=
  link_partF (b := (partOf Tryd.f34 [1, 1, 1])) (kE := (resultsA Tryd.prog Tryd.f34.results.toList)) (rE := (resultsA Tryd.prog Tryd.f34.results.toList)) (xE := (fun _ _ _ => none)) (T := t34k34_4 C) (fun x h => by kernel_rfl) x h
theorem t34l34_11010_eq (C : CallF) (x : Nat → Value) (h : Heap) : codeA Tryd.prog C (partOf Tryd.f34 [1, 1, 0, 1, 0, 0]) (mkF 26 x) h = t34l34_11010 C x h :=
  link_roundF (T := t34l34_11010 C) (fun x h => by kernel_rfl) x h

/-- stolon/stolonlaw06.InventoryRoots -/
noncomputable def t8 (C : CallF) (x0 x1 : Value) (h : Heap) : Out :=
  thenV (some ((.bool false), h)) fun y4 h =>
  thenV (some (x0, h)) fun y13 h =>
  thenV (pu (lenL y13) h) fun y14 h =>
  thenV (pu (bin Tryd.prog .gtr 3 y14 (.int .i64 100)) h) fun y15 h =>
  (match y15 with
  | .bool true =>
  thenV (C 14 [] h) fun y16 h =>
  thenV (some (y16, h)) fun y4_1 h =>
  some (y4_1, h)
  | .bool false =>
  thenV (some (x0, h)) fun y18 h =>
  thenV (C 26 [y18] h) fun y19 h =>
  thenV (C 38 [y19] h) fun y20 h =>
  thenV (some (y20, h)) fun y17 h =>
  thenV (pu (extractA y17 0) h) fun y21 h =>
  thenV (pu (extractA y17 1) h) fun y22 h =>
  thenV (newC (List.replicate 32 (.int .u8 0)) h) fun y5 h =>
  thenV (stN 32 y5 y21 h) fun _ h =>
  thenV (some (y22, h)) fun y6 h =>
  thenV (some (x0, h)) fun y24 h =>
  thenV (C 39 [y24] h) fun y25 h =>
  thenV (some (y25, h)) fun y23 h =>
  thenV (pu (extractA y23 0) h) fun y26 h =>
  thenV (pu (extractA y23 1) h) fun y27 h =>
  thenV (newC (List.replicate 32 (.int .u8 0)) h) fun y7 h =>
  thenV (stN 32 y7 y26 h) fun _ h =>
  thenV (some (y27, h)) fun y8 h =>
  thenV (some (x0, h)) fun y29 h =>
  thenV (C 26 [y29] h) fun y30 h =>
  thenV (some (x1, h)) fun y31 h =>
  thenV (C 40 [y30, y31] h) fun y32 h =>
  thenV (some (y32, h)) fun y28 h =>
  thenV (pu (extractA y28 0) h) fun y33 h =>
  thenV (pu (extractA y28 1) h) fun y34 h =>
  thenV (some (y33, h)) fun y9 h =>
  thenV (some (y34, h)) fun y10 h =>
  thenV (some (x0, h)) fun y36 h =>
  thenV (some (x1, h)) fun y37 h =>
  thenV (C 41 [y36, y37] h) fun y38 h =>
  thenV (some (y38, h)) fun y35 h =>
  thenV (pu (extractA y35 0) h) fun y39 h =>
  thenV (pu (extractA y35 1) h) fun y40 h =>
  thenV (some (y39, h)) fun y11 h =>
  thenV (some (y40, h)) fun y12 h =>
  thenV (ldN 32 y5 h) fun y41 h =>
  thenV (ldN 32 y7 h) fun y42 h =>
  thenV (pu (bin Tryd.prog .eql 35 y41 y42) h) fun y43 h =>
  thenV (some (y43, h)) fun y44 h =>
  thenV (guardK (bOf y44 == some true) (some (y6, h)) h) fun y45 h =>
  thenV (guardK (bOf y44 == some true) (some (y8, h)) h) fun y46 h =>
  thenV (guardK (bOf y44 == some true) (pu (bin Tryd.prog .eql 26 y45 y46) h) h) fun y47 h =>
  thenV (match y44 with | .bool t => some (if t then y47 else (.bool false), h) | _ => none) fun y48 h =>
  thenV (some (y48, h)) fun y49 h =>
  thenV (guardK (bOf y49 == some true) (some (y10, h)) h) fun y50 h =>
  thenV (guardK (bOf y49 == some true) (some (y12, h)) h) fun y51 h =>
  thenV (guardK (bOf y49 == some true) (pu (bin Tryd.prog .eql 26 y50 y51) h) h) fun y52 h =>
  thenV (match y49 with | .bool t => some (if t then y52 else (.bool false), h) | _ => none) fun y53 h =>
  thenV (some (y53, h)) fun y54 h =>
  thenV (guardK (bOf y54 == some true) (some (y9, h)) h) fun y55 h =>
  thenV (guardK (bOf y54 == some true) (some (y11, h)) h) fun y56 h =>
  thenV (guardK (bOf y54 == some true) (C 34 [y55, y56] h) h) fun y57 h =>
  thenV (match y54 with | .bool t => some (if t then y57 else (.bool false), h) | _ => none) fun y58 h =>
  thenV (some (y58, h)) fun y59 h =>
  thenV (guardK (bOf y59 == some true) (C 14 [] h) h) fun y60 h =>
  thenV (match y59 with | .bool t => some (if t then y60 else (.bool false), h) | _ => none) fun y61 h =>
  thenV (some (y61, h)) fun y4_1 h =>
  some (y4_1, h)
  | _ => none)
theorem t8_eq (C : CallF) (x0 x1 : Value) (h : Heap) : bodyK Tryd.prog C Tryd.f8 [x0, x1] h = t8 C x0 x1 h :=
  (bodyB_eq Tryd.prog C Tryd.f8 [x0, x1] h (by kernel_rfl)).trans (by kernel_rfl)

end Go.Proofs.YtdnahgfgoajmcaaDoor

