/-
  Printed by a program: the text of CRC32C, linked to the program.
  Conditions: none.
-/
import Derived.Test.YtdhpgacmgebjdaaGreatDoorG9
import Derived.Test.YtdhpgacmgebjdaaGreatDoorProg
import Derived.KernelRfl
namespace Go.Proofs.YtdhpgacmgebjdaaGreatDoor
open Go Go.Abs
noncomputable def k208_2 (C : CallF) (e : Env) (h : Heap) : Out := codeK Tryz.prog C (partOf Tryz.f208 [1, 1, 1]) e h (resultsA Tryz.prog Tryz.f208.results.toList) (resultsA Tryz.prog Tryz.f208.results.toList) (fun _ _ _ => none)
noncomputable def b208_4 (C : CallF) (i : Nat) (e : Env) (h : Heap) : Out := if i = 0 then (k208_2 C) e h else (fun _ _ _ => none) i e h
noncomputable def k208_6 (C : CallF) (e : Env) (h : Heap) : Out := codeK Tryz.prog C (partOf Tryz.f208 [1, 1, 1, 1, 1]) e h (resultsA Tryz.prog Tryz.f208.results.toList) (resultsA Tryz.prog Tryz.f208.results.toList) (fun _ _ _ => none)
noncomputable def b208_8 (C : CallF) (i : Nat) (e : Env) (h : Heap) : Out := if i = 4 then (k208_6 C) e h else (fun _ _ _ => none) i e h
noncomputable def k208_11 (C : CallF) (e : Env) (h : Heap) : Option (Ex × Env × Heap) := codeK Tryz.prog C (partOf Tryz.f208 [1, 1, 0, 1, 0, 0, 1, 1, 1]) e h (fun e h => some (Ex.normal, e, h)) (fun e h => some (Ex.ret, e, h)) (fun i e h => some (Ex.exit i, e, h))
noncomputable def b208_12 (C : CallF) (i : Nat) (e : Env) (h : Heap) : Option (Ex × Env × Heap) := if i = 1 then (k208_11 C) e h else (fun i e h => some (Ex.exit i, e, h)) i e h
noncomputable def k208_15 (C : CallF) (e : Env) (h : Heap) : Option (Ex × Env × Heap) := codeK Tryz.prog C (partOf Tryz.f208 [1, 1, 0, 1, 0, 0, 1, 1, 0, 0, 1, 1, 1]) e h (k208_11 C) (fun e h => some (Ex.ret, e, h)) (b208_12 C)
noncomputable def b208_17 (C : CallF) (i : Nat) (e : Env) (h : Heap) : Option (Ex × Env × Heap) := if i = 2 then (k208_15 C) e h else (b208_12 C) i e h
/-- stolon/digest.CRC32C -/
noncomputable def t208 (C : CallF) (x0 : Value) (h : Heap) : Out :=
  thenV (some ((.int .u32 0), h)) fun y2 h =>
  thenV (newC (List.replicate 16 (.int .u32 0)) h) fun y3 h =>
  thenV (some ((.int .i64 0), h)) fun y9 h =>
  endL (iter (codeA Tryz.prog C (partOf Tryz.f208 [1, 1, 0, 1, 0, 0])) rounds (mkF 54 (up (bs [x0]) [(2, y2), (3, y3), (9, y9)])) h) (resultsA Tryz.prog Tryz.f208.results.toList) (b208_4 C)
noncomputable def t208k208_2 (C : CallF) (x : Nat → Value) (h : Heap) : Out :=
  thenV (some ((.int .u32 4294967295), h)) fun y6 h =>
  thenV (some ((x 0), h)) fun y27 h =>
  thenV (pu (lenL y27) h) fun y28 h =>
  thenV (some ((.int .i64 0), h)) fun y29 h =>
  endL (iter (codeA Tryz.prog C (partOf Tryz.f208 [1, 1, 1, 1, 0, 1, 0, 0])) rounds (mkF 54 (up x [(6, y6), (27, y27), (28, y28), (29, y29)])) h) (resultsA Tryz.prog Tryz.f208.results.toList) (b208_8 C)
noncomputable def t208l208_11010 (C : CallF) (x : Nat → Value) (h : Heap) : Option (Ex × Env × Heap) :=
  thenV (pu (bin Tryz.prog .lss 3 (x 9) (.int .i64 16)) h) fun y10 h =>
  (match y10 with
  | .bool true =>
  thenV (some ((x 9), h)) fun y11 h =>
  thenV (some (y11, h)) fun y4 h =>
  thenV (some (y4, h)) fun y12 h =>
  thenV (cvI .u32 y12 h) fun y13 h =>
  thenV (some (y13, h)) fun y5 h =>
  thenV (some ((.int .i64 0), h)) fun y14 h =>
  endL (iter (codeA Tryz.prog C (partOf Tryz.f208 [1, 1, 0, 1, 0, 0, 1, 1, 0, 0, 1, 1, 0, 1, 0, 0])) rounds (mkF 54 (up x [(4, y4), (5, y5), (10, y10), (11, y11), (12, y12), (13, y13), (14, y14)])) h) (fun e h => some (Ex.ret, e, h)) (b208_17 C)
  | .bool false =>
  some (.exit 0, (mkF 54 (up x [(10, y10)])), h)
  | _ => none)
noncomputable def t208k208_6 (C : CallF) (x : Nat → Value) (h : Heap) : Out :=
  thenV (some ((x 6), h)) fun y52 h =>
  thenV (pu (unA .xor y52) h) fun y53 h =>
  thenV (some (y53, h)) fun y2 h =>
  some (y2, h)
noncomputable def t208l208_1111010 (C : CallF) (x : Nat → Value) (h : Heap) : Option (Ex × Env × Heap) :=
  thenV (pu (bin Tryz.prog .lss 3 (x 29) (x 28)) h) fun y30 h =>
  (match y30 with
  | .bool true =>
  thenV (pu (idxS 1 (x 27) (x 29)) h) fun y31 h =>
  thenV (ld1 y31 h) fun y32 h =>
  thenV (some (y32, h)) fun y8 h =>
  thenV (some ((x 6), h)) fun y33 h =>
  thenV (some (y8, h)) fun y34 h =>
  thenV (cvI .u32 y34 h) fun y35 h =>
  thenV (pu (bin Tryz.prog .xor 186 y33 y35) h) fun y36 h =>
  thenV (some (y36, h)) fun y6 h =>
  thenV (some (y6, h)) fun y37 h =>
  thenV (pu (bin Tryz.prog .and 186 y37 (.int .u32 15)) h) fun y38 h =>
  thenV (pu (idxA 16 1 (x 3) y38) h) fun y39 h =>
  thenV (ld1 y39 h) fun y40 h =>
  thenV (some (y6, h)) fun y41 h =>
  thenV (pu (bin Tryz.prog .shr 186 y41 (.int .u64 4)) h) fun y42 h =>
  thenV (pu (bin Tryz.prog .xor 186 y40 y42) h) fun y43 h =>
  thenV (some (y43, h)) fun y6_1 h =>
  thenV (some (y6_1, h)) fun y44 h =>
  thenV (pu (bin Tryz.prog .and 186 y44 (.int .u32 15)) h) fun y45 h =>
  thenV (pu (idxA 16 1 (x 3) y45) h) fun y46 h =>
  thenV (ld1 y46 h) fun y47 h =>
  thenV (some (y6_1, h)) fun y48 h =>
  thenV (pu (bin Tryz.prog .shr 186 y48 (.int .u64 4)) h) fun y49 h =>
  thenV (pu (bin Tryz.prog .xor 186 y47 y49) h) fun y50 h =>
  thenV (some (y50, h)) fun y6_2 h =>
  thenV (pu (bin Tryz.prog .add 3 (x 29) (.int .i64 1)) h) fun y51 h =>
  thenV (some (y51, h)) fun y29 h =>
  some (.normal, (mkF 54 (up x [(6, y6_2), (8, y8), (29, y29), (30, y30), (31, y31), (32, y32), (33, y33), (34, y34), (35, y35), (36, y36), (37, y37), (38, y38), (39, y39), (40, y40), (41, y41), (42, y42), (43, y43), (44, y44), (45, y45), (46, y46), (47, y47), (48, y48), (49, y49), (50, y50), (51, y51)])), h)
  | .bool false =>
  some (.exit 4, (mkF 54 (up x [(30, y30)])), h)
  | _ => none)
noncomputable def t208k208_11 (C : CallF) (x : Nat → Value) (h : Heap) : Option (Ex × Env × Heap) :=
  thenV (pu (bin Tryz.prog .add 3 (x 9) (.int .i64 1)) h) fun y26 h =>
  thenV (some (y26, h)) fun y9 h =>
  some (.normal, (mkF 54 (up x [(9, y9), (26, y26)])), h)
noncomputable def t208k208_15 (C : CallF) (x : Nat → Value) (h : Heap) : Option (Ex × Env × Heap) :=
  thenV (some ((x 4), h)) fun y23 h =>
  thenV (some ((x 5), h)) fun y24 h =>
  thenV (pu (idxA 16 1 (x 3) y23) h) fun y25 h =>
  thenV (stN 1 y25 y24 h) fun _ h =>
  k208_11 C (mkF 54 (up x [(23, y23), (24, y24), (25, y25)])) h
noncomputable def t208l208_110100110011010 (C : CallF) (x : Nat → Value) (h : Heap) : Option (Ex × Env × Heap) :=
  thenV (pu (bin Tryz.prog .lss 3 (x 14) (.int .i64 4)) h) fun y15 h =>
  (match y15 with
  | .bool true =>
  thenV (some ((x 5), h)) fun y16 h =>
  thenV (pu (bin Tryz.prog .shr 186 y16 (.int .u64 1)) h) fun y17 h =>
  thenV (some ((x 5), h)) fun y18 h =>
  thenV (pu (bin Tryz.prog .and 186 y18 (.int .u32 1)) h) fun y19 h =>
  thenV (pu (bin Tryz.prog .mul 186 (.int .u32 2197175160) y19) h) fun y20 h =>
  thenV (pu (bin Tryz.prog .xor 186 y17 y20) h) fun y21 h =>
  thenV (some (y21, h)) fun y5 h =>
  thenV (pu (bin Tryz.prog .add 3 (x 14) (.int .i64 1)) h) fun y22 h =>
  thenV (some (y22, h)) fun y14 h =>
  some (.normal, (mkF 54 (up x [(5, y5), (14, y14), (15, y15), (16, y16), (17, y17), (18, y18), (19, y19), (20, y20), (21, y21), (22, y22)])), h)
  | .bool false =>
  some (.exit 2, (mkF 54 (up x [(15, y15)])), h)
  | _ => none)
theorem t208_eq (C : CallF) (x0 : Value) (h : Heap) : bodyK Tryz.prog C Tryz.f208 [x0] h = t208 C x0 h :=
  (bodyB_eq Tryz.prog C Tryz.f208 [x0] h (by kernel_rfl)).trans (by kernel_rfl)
theorem t208k208_2_eq (C : CallF) (x : Nat → Value) (h : Heap) : k208_2 C (mkF 54 x) h = t208k208_2 C x h :=
  link_partF (b := (partOf Tryz.f208 [1, 1, 1])) (kE := (resultsA Tryz.prog Tryz.f208.results.toList)) (rE := (resultsA Tryz.prog Tryz.f208.results.toList)) (xE := (fun _ _ _ => none)) (T := t208k208_2 C) (fun x h => by kernel_rfl) x h
theorem t208l208_11010_eq (C : CallF) (x : Nat → Value) (h : Heap) : codeA Tryz.prog C (partOf Tryz.f208 [1, 1, 0, 1, 0, 0]) (mkF 54 x) h = t208l208_11010 C x h :=
  link_roundF (T := t208l208_11010 C) (fun x h => by kernel_rfl) x h
theorem t208k208_6_eq (C : CallF) (x : Nat → Value) (h : Heap) : k208_6 C (mkF 54 x) h = t208k208_6 C x h :=
  link_partF (b := (partOf Tryz.f208 [1, 1, 1, 1, 1])) (kE := (resultsA Tryz.prog Tryz.f208.results.toList)) (rE := (resultsA Tryz.prog Tryz.f208.results.toList)) (xE := (fun _ _ _ => none)) (T := t208k208_6 C) (fun x h => by kernel_rfl) x h
theorem t208l208_1111010_eq (C : CallF) (x : Nat → Value) (h : Heap) : codeA Tryz.prog C (partOf Tryz.f208 [1, 1, 1, 1, 0, 1, 0, 0]) (mkF 54 x) h = t208l208_1111010 C x h :=
  link_roundF (T := t208l208_1111010 C) (fun x h => by kernel_rfl) x h
theorem t208k208_11_eq (C : CallF) (x : Nat → Value) (h : Heap) : k208_11 C (mkF 54 x) h = t208k208_11 C x h :=
  link_partF (b := (partOf Tryz.f208 [1, 1, 0, 1, 0, 0, 1, 1, 1])) (kE := (fun e h => some (Ex.normal, e, h))) (rE := (fun e h => some (Ex.ret, e, h))) (xE := (fun i e h => some (Ex.exit i, e, h))) (T := t208k208_11 C) (fun x h => by kernel_rfl) x h
theorem t208k208_15_eq (C : CallF) (x : Nat → Value) (h : Heap) : k208_15 C (mkF 54 x) h = t208k208_15 C x h :=
  link_partF (b := (partOf Tryz.f208 [1, 1, 0, 1, 0, 0, 1, 1, 0, 0, 1, 1, 1])) (kE := (k208_11 C)) (rE := (fun e h => some (Ex.ret, e, h))) (xE := (b208_12 C)) (T := t208k208_15 C) (fun x h => by kernel_rfl) x h
theorem t208l208_110100110011010_eq (C : CallF) (x : Nat → Value) (h : Heap) : codeA Tryz.prog C (partOf Tryz.f208 [1, 1, 0, 1, 0, 0, 1, 1, 0, 0, 1, 1, 0, 1, 0, 0]) (mkF 54 x) h = t208l208_110100110011010 C x h :=
  link_roundF (T := t208l208_110100110011010 C) (fun x h => by kernel_rfl) x h

end Go.Proofs.YtdhpgacmgebjdaaGreatDoor

