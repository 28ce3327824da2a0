/-
  InventoryProofs, InventoryRoots: texts of functions, printed.
  Conditions: none (links by kernel_rfl).
  InventoryProofs, InventoryRoots: texts of functions, printed.
  Conditions: none (links by kernel_rfl).
  InventoryProofs, InventoryRoots: texts of functions, printed.
  Conditions: none (links by kernel_rfl).
  InventoryProofs, InventoryRoots: texts of functions, printed.
  Conditions: none (links by kernel_rfl).
  Printed by a program: the texts of some of the inventory's functions, each linked to the program.
  Conditions: none.
  Printed by a program: the texts of some of the inventory's functions, each linked to the program.
  Conditions: none.
  Printed by a program: the texts of some of the inventory's functions, each linked to the program.
  Conditions: none.
  Printed by a program: the texts of some of the inventory's functions, each linked to the program.
  Conditions: none.
  Printed by a program: the texts of some of the inventory's functions, each linked to the program.
  Conditions: none.
  Printed by a program: the texts of some of the inventory's functions, each linked to the program.
  Conditions: none.
-/
import Derived.Test.YtdnahgfgoajmcaaDoorG11
import Derived.Test.YtdnahgfgoajmcaaDoorProg
import Derived.KernelRfl
namespace Go.Proofs.YtdnahgfgoajmcaaDoor
open Go Go.Abs
end Go.Proofs.YtdnahgfgoajmcaaDoor

namespace Go.Proofs.YtdnahgfgoajmcaaDoor
open Go Go.Abs
/-- slices.ContainsFunc[[]stolon/api.Record,stolon/api.Record] -/
noncomputable def t60 (C : CallF) (x0 x1 : Value) (h : Heap) : Out :=
  thenV (some ((.bool false), h)) fun _y4 h =>
  thenV (some (x0, h)) fun y5 h =>
  thenV (some (x1, h)) fun y6 h =>
  thenV (C 113 [y5, y6] h) fun y7 h =>
  thenV (pu (bin Tryd.prog .geq 3 y7 (.int .i64 0)) h) fun y8 h =>
  thenV (some (y8, h)) fun y4_1 h =>
  some (y4_1, h)
theorem t60_eq (C : CallF) (x0 x1 : Value) (h : Heap) : bodyK Tryd.prog C Tryd.f60 [x0, x1] h = t60 C x0 x1 h :=
  (bodyB_eq Tryd.prog C Tryd.f60 [x0, x1] h (by kernel_rfl)).trans (by kernel_rfl)

/-- stolon/stolonlaw06.own -/
noncomputable def t26 (_C : CallF) (x0 : Value) (h : Heap) : Out :=
  thenV (some ((.slice none 0 0), h)) fun _y2 h =>
  thenV (bslR 39 (.agg #[(.int .u8 0), (.int .u8 0), (.int .u8 0), (.int .u8 0), (.int .u8 0), (.int .u8 0), (.int .u8 0), (.int .u8 0), (.int .u8 0), (.int .u8 0), (.int .u8 0), (.int .u8 0), (.int .u8 0), (.int .u8 0), (.int .u8 0), (.int .u8 0), (.int .u8 0), (.int .u8 0), (.int .u8 0), (.int .u8 0), (.int .u8 0), (.int .u8 0), (.int .u8 0), (.int .u8 0), (.int .u8 0), (.int .u8 0), (.int .u8 0), (.int .u8 0), (.int .u8 0), (.int .u8 0), (.int .u8 0), (.int .u8 0), (.int .u8 0), (.int .i64 0), (.int .u64 0), (.int .u64 0), (.bool false), (.int .i64 0), (.int .i64 0)]) 0 [] h) fun y3 h =>
  thenV (some (x0, h)) fun y4 h =>
  thenV (appendA 39 88 y3 y4 h) fun y5 h =>
  thenV (some (y5, h)) fun y2_1 h =>
  some (y2_1, h)
theorem t26_eq (C : CallF) (x0 : Value) (h : Heap) : bodyK Tryd.prog C Tryd.f26 [x0] h = t26 C x0 h :=
  (bodyB_eq Tryd.prog C Tryd.f26 [x0] h (by kernel_rfl)).trans (by kernel_rfl)

end Go.Proofs.YtdnahgfgoajmcaaDoor

namespace Go.Proofs.YtdnahgfgoajmcaaDoor
open Go Go.Abs
end Go.Proofs.YtdnahgfgoajmcaaDoor

namespace Go.Proofs.YtdnahgfgoajmcaaDoor
open Go Go.Abs
noncomputable def k113_1 (C : CallF) (e : Env) (h : Heap) : Out := codeK Tryd.prog C (partOf Tryd.f113 [1, 1]) e h (resultsA Tryd.prog Tryd.f113.results.toList) (resultsA Tryd.prog Tryd.f113.results.toList) (fun _ _ _ => none)
noncomputable def b113_3 (C : CallF) (i : Nat) (e : Env) (h : Heap) : Out := if i = 0 then (k113_1 C) e h else (fun _ _ _ => none) i e h
/-- slices.IndexFunc[[]stolon/api.Record,stolon/api.Record] -/
noncomputable def t113 (C : CallF) (x0 x1 : Value) (h : Heap) : Out :=
  thenV (some ((.int .i64 0), h)) fun y4 h =>
  thenV (some (x0, h)) fun y6 h =>
  thenV (pu (lenL y6) h) fun y7 h =>
  thenV (some ((.int .i64 0), h)) fun y8 h =>
  endL (iter (codeA Tryd.prog C (partOf Tryd.f113 [1, 0, 1, 0, 0])) rounds (mkF 19 (up (bs [x0, x1]) [(4, y4), (6, y6), (7, y7), (8, y8)])) h) (resultsA Tryd.prog Tryd.f113.results.toList) (b113_3 C)
noncomputable def t113k113_1 (_C : CallF) (_x : Nat → Value) (h : Heap) : Out :=
  thenV (some ((.int .i64 (-1)), h)) fun y4 h =>
  some (y4, h)
noncomputable def t113l113_1010 (C : CallF) (x : Nat → Value) (h : Heap) : Option (Ex × Env × Heap) :=
  thenV (pu (bin Tryd.prog .lss 3 (x 8) (x 7)) h) fun y9 h =>
  (match y9 with
  | .bool true =>
  thenV (some ((x 8), h)) fun y10 h =>
  thenV (some (y10, h)) fun y5 h =>
  thenV (some ((x 1), h)) fun y11 h =>
  thenV (some ((x 0), h)) fun y12 h =>
  thenV (some (y5, h)) fun y13 h =>
  thenV (pu (idxS 39 y12 y13) h) fun y14 h =>
  thenV (ldN 39 y14 h) fun y15 h =>
  thenV (callA Tryd.prog C y11 [y15] h) fun y16 h =>
  (match y16 with
  | .bool true =>
  thenV (some (y5, h)) fun y17 h =>
  thenV (some (y17, h)) fun y4 h =>
  some (.ret, (mkF 19 (up x [(4, y4), (5, y5), (9, y9), (10, y10), (11, y11), (12, y12), (13, y13), (14, y14), (15, y15), (16, y16), (17, y17)])), h)
  | .bool false =>
  thenV (pu (bin Tryd.prog .add 3 (x 8) (.int .i64 1)) h) fun y18 h =>
  thenV (some (y18, h)) fun y8 h =>
  some (.normal, (mkF 19 (up x [(5, y5), (8, y8), (9, y9), (10, y10), (11, y11), (12, y12), (13, y13), (14, y14), (15, y15), (16, y16), (18, y18)])), h)
  | _ => none)
  | .bool false =>
  some (.exit 0, (mkF 19 (up x [(9, y9)])), h)
  | _ => none)
theorem t113_eq (C : CallF) (x0 x1 : Value) (h : Heap) : bodyK Tryd.prog C Tryd.f113 [x0, x1] h = t113 C x0 x1 h :=
  (bodyB_eq Tryd.prog C Tryd.f113 [x0, x1] h (by kernel_rfl)).trans (by kernel_rfl)
theorem t113k113_1_eq (C : CallF) (x : Nat → Value) (h : Heap) : k113_1 C (mkF 19 x) h = t113k113_1 C x h :=
  link_partF (b := (partOf Tryd.f113 [1, 1])) (kE := (resultsA Tryd.prog Tryd.f113.results.toList)) (rE := (resultsA Tryd.prog Tryd.f113.results.toList)) (xE := (fun _ _ _ => none)) (T := t113k113_1 C) (fun x h => by kernel_rfl) x h
theorem t113l113_1010_eq (C : CallF) (x : Nat → Value) (h : Heap) : codeA Tryd.prog C (partOf Tryd.f113 [1, 0, 1, 0, 0]) (mkF 19 x) h = t113l113_1010 C x h :=
  link_roundF (T := t113l113_1010 C) (fun x h => by kernel_rfl) x h

end Go.Proofs.YtdnahgfgoajmcaaDoor

namespace Go.Proofs.YtdnahgfgoajmcaaDoor
open Go Go.Abs
noncomputable def b25_5 (_C : CallF) (i : Nat) (e : Env) (h : Heap) : Option (Ex × Env × Heap) := if i = 0 then (fun e h => some (Ex.normal, e, h)) e h else (fun i e h => some (Ex.exit i, e, h)) i e h
noncomputable def k25_19 (C : CallF) (e : Env) (h : Heap) : Option (Ex × Env × Heap) := codeK Tryd.prog C (partOf Tryd.f25 [1, 1, 1, 1, 0, 1, 0, 0, 1, 1, 1]) e h (fun e h => some (Ex.normal, e, h)) (fun e h => some (Ex.ret, e, h)) (fun i e h => some (Ex.exit i, e, h))
noncomputable def b25_20 (C : CallF) (i : Nat) (e : Env) (h : Heap) : Option (Ex × Env × Heap) := if i = 1 then (k25_19 C) e h else (fun i e h => some (Ex.exit i, e, h)) i e h
noncomputable def b25_23 (C : CallF) (i : Nat) (e : Env) (h : Heap) : Option (Ex × Env × Heap) := if i = 2 then (k25_19 C) e h else (b25_20 C) i e h
noncomputable def t25p25_0 (_C : CallF) (x : Nat → Value) (h : Heap) : Option (Ex × Env × Heap) :=
  thenV (some ((.int .i64 0), h)) fun y4 h =>
  some (.normal, (mkF 103 (up x [(4, y4)])), h)
noncomputable def t25p25_10 (_C : CallF) (x : Nat → Value) (h : Heap) : Option (Ex × Env × Heap) :=
  thenV (some ((x 0), h)) fun y18 h =>
  thenV (pu (bin Tryd.prog .eql 25 y18 (.pointer none)) h) fun y19 h =>
  (match y19 with
  | .bool true =>
  thenV (some ((.int .i64 1), h)) fun y4 h =>
  some (.ret, (mkF 103 (up x [(4, y4), (18, y18), (19, y19)])), h)
  | .bool false =>
  some (.normal, (mkF 103 (up x [(18, y18), (19, y19)])), h)
  | _ => none)
noncomputable def t25p25_110 (C : CallF) (x : Nat → Value) (h : Heap) : Option (Ex × Env × Heap) :=
  thenV (some ((x 1), h)) fun y20 h =>
  thenV (C 60 [y20, (.func (.func 61) #[] #[])] h) fun y21 h =>
  (match y21 with
  | .bool true =>
  thenV (some ((.int .i64 2), h)) fun y4 h =>
  some (.ret, (mkF 103 (up x [(4, y4), (20, y20), (21, y21)])), h)
  | .bool false =>
  some (.normal, (mkF 103 (up x [(20, y20), (21, y21)])), h)
  | _ => none)
noncomputable def t25p25_1110 (_C : CallF) (x : Nat → Value) (h : Heap) : Option (Ex × Env × Heap) :=
  thenV (makeMapA none Tryd.prog 98 h) fun y22 h =>
  thenV (some (y22, h)) fun y5 h =>
  some (.normal, (mkF 103 (up x [(5, y5), (22, y22)])), h)
noncomputable def t25p25_11110 (C : CallF) (x : Nat → Value) (h : Heap) : Option (Ex × Env × Heap) :=
  thenV (some ((x 0), h)) fun y23 h =>
  thenV (pu (nilCheckA y23) h) fun y24 h =>
  thenV (pu (addP y24 0) h) fun y25 h =>
  thenV (ld1 y25 h) fun y26 h =>
  thenV (some ((x 1), h)) fun y27 h =>
  thenV (bslR 1 (.slice none 0 0) 2 [(0, y26), (1, y27)] h) fun y28 h =>
  thenV (pu (lenL y28) h) fun y29 h =>
  thenV (some ((.int .i64 0), h)) fun y30 h =>
  endL (iter (codeA Tryd.prog C (partOf Tryd.f25 [1, 1, 1, 1, 0, 1, 0, 0])) rounds (mkF 103 (up x [(23, y23), (24, y24), (25, y25), (26, y26), (27, y27), (28, y28), (29, y29), (30, y30)])) h) (fun e h => some (Ex.ret, e, h)) (b25_5 C)
noncomputable def t25p25_111110 (_C : CallF) (x : Nat → Value) (h : Heap) : Option (Ex × Env × Heap) :=
  thenV (bslR 39 (.agg #[(.int .u8 0), (.int .u8 0), (.int .u8 0), (.int .u8 0), (.int .u8 0), (.int .u8 0), (.int .u8 0), (.int .u8 0), (.int .u8 0), (.int .u8 0), (.int .u8 0), (.int .u8 0), (.int .u8 0), (.int .u8 0), (.int .u8 0), (.int .u8 0), (.int .u8 0), (.int .u8 0), (.int .u8 0), (.int .u8 0), (.int .u8 0), (.int .u8 0), (.int .u8 0), (.int .u8 0), (.int .u8 0), (.int .u8 0), (.int .u8 0), (.int .u8 0), (.int .u8 0), (.int .u8 0), (.int .u8 0), (.int .u8 0), (.int .u8 0), (.int .i64 0), (.int .u64 0), (.int .u64 0), (.bool false), (.int .i64 0), (.int .i64 0)]) 0 [] h) fun y61 h =>
  thenV (some (y61, h)) fun y12 h =>
  some (.normal, (mkF 103 (up x [(12, y12), (61, y61)])), h)
noncomputable def t25p25_11111100 (_C : CallF) (x : Nat → Value) (h : Heap) : Option (Ex × Env × Heap) :=
  thenV (some ((x 5), h)) fun y62 h =>
  thenV (rangeA Tryd.prog 98 y62 h) fun y63 h =>
  some (.normal, (mkF 103 (up x [(62, y62), (63, y63)])), h)
noncomputable def t25p25_11111101001 (_C : CallF) (x : Nat → Value) (h : Heap) : Option (Ex × Env × Heap) :=
  (match (x 65) with
  | .bool true =>
  thenV (entryA (x 63) h) fun y66 h =>
  thenV (pu (extractA y66 0) h) fun y67 h =>
  thenV (pu (extractA y66 1) h) fun y68 h =>
  thenV (newC [(.int .u8 0), (.int .u8 0), (.int .u8 0), (.int .u8 0), (.int .u8 0), (.int .u8 0), (.int .u8 0), (.int .u8 0), (.int .u8 0), (.int .u8 0), (.int .u8 0), (.int .u8 0), (.int .u8 0), (.int .u8 0), (.int .u8 0), (.int .u8 0), (.int .u8 0), (.int .u8 0), (.int .u8 0), (.int .u8 0), (.int .u8 0), (.int .u8 0), (.int .u8 0), (.int .u8 0), (.int .u8 0), (.int .u8 0), (.int .u8 0), (.int .u8 0), (.int .u8 0), (.int .u8 0), (.int .u8 0), (.int .u8 0), (.int .u8 0), (.int .i64 0)] h) fun y13 h =>
  thenV (newC [(.int .u8 0), (.int .u8 0), (.int .u8 0), (.int .u8 0), (.int .u8 0), (.int .u8 0), (.int .u8 0), (.int .u8 0), (.int .u8 0), (.int .u8 0), (.int .u8 0), (.int .u8 0), (.int .u8 0), (.int .u8 0), (.int .u8 0), (.int .u8 0), (.int .u8 0), (.int .u8 0), (.int .u8 0), (.int .u8 0), (.int .u8 0), (.int .u8 0), (.int .u8 0), (.int .u8 0), (.int .u8 0), (.int .u8 0), (.int .u8 0), (.int .u8 0), (.int .u8 0), (.int .u8 0), (.int .u8 0), (.int .u8 0), (.int .u8 0), (.int .i64 0), (.int .u64 0), (.int .u64 0), (.bool false), (.int .i64 0), (.int .i64 0)] h) fun y14 h =>
  thenV (stN 34 y13 y67 h) fun _ h =>
  thenV (stN 39 y14 y68 h) fun _ h =>
  thenV (pu (addP y13 0) h) fun y69 h =>
  thenV (ld1 y69 h) fun y70 h =>
  thenV (pu (bin Tryd.prog .eql 56 y70 (.int .u8 3)) h) fun y71 h =>
  (match y71 with
  | .bool true =>
  thenV (some ((x 5), h)) fun y72 h =>
  thenV (pu (addP y13 33) h) fun y73 h =>
  thenV (ld1 y73 h) fun y74 h =>
  thenV (pu (bldR [(.int .u8 0), (.int .u8 0), (.int .u8 0), (.int .u8 0), (.int .u8 0), (.int .u8 0), (.int .u8 0), (.int .u8 0), (.int .u8 0), (.int .u8 0), (.int .u8 0), (.int .u8 0), (.int .u8 0), (.int .u8 0), (.int .u8 0), (.int .u8 0), (.int .u8 0), (.int .u8 0), (.int .u8 0), (.int .u8 0), (.int .u8 0), (.int .u8 0), (.int .u8 0), (.int .u8 0), (.int .u8 0), (.int .u8 0), (.int .u8 0), (.int .u8 0), (.int .u8 0), (.int .u8 0), (.int .u8 0), (.int .u8 0), (.int .u8 0), (.int .i64 0)] [(0, 1, (.int .u8 1)), (33, 1, y74)]) h) fun y75 h =>
  thenV (lookupA Tryd.prog 98 y72 y75 false h) fun y76 h =>
  thenV (newC [(.int .u8 0), (.int .u8 0), (.int .u8 0), (.int .u8 0), (.int .u8 0), (.int .u8 0), (.int .u8 0), (.int .u8 0), (.int .u8 0), (.int .u8 0), (.int .u8 0), (.int .u8 0), (.int .u8 0), (.int .u8 0), (.int .u8 0), (.int .u8 0), (.int .u8 0), (.int .u8 0), (.int .u8 0), (.int .u8 0), (.int .u8 0), (.int .u8 0), (.int .u8 0), (.int .u8 0), (.int .u8 0), (.int .u8 0), (.int .u8 0), (.int .u8 0), (.int .u8 0), (.int .u8 0), (.int .u8 0), (.int .u8 0), (.int .u8 0), (.int .i64 0), (.int .u64 0), (.int .u64 0), (.bool false), (.int .i64 0), (.int .i64 0)] h) fun y15 h =>
  thenV (stN 39 y15 y76 h) fun _ h =>
  thenV (some ((x 5), h)) fun y78 h =>
  thenV (pu (addP y13 1) h) fun y79 h =>
  thenV (ldN 32 y79 h) fun y80 h =>
  thenV (pu (bldR [(.int .u8 0), (.int .u8 0), (.int .u8 0), (.int .u8 0), (.int .u8 0), (.int .u8 0), (.int .u8 0), (.int .u8 0), (.int .u8 0), (.int .u8 0), (.int .u8 0), (.int .u8 0), (.int .u8 0), (.int .u8 0), (.int .u8 0), (.int .u8 0), (.int .u8 0), (.int .u8 0), (.int .u8 0), (.int .u8 0), (.int .u8 0), (.int .u8 0), (.int .u8 0), (.int .u8 0), (.int .u8 0), (.int .u8 0), (.int .u8 0), (.int .u8 0), (.int .u8 0), (.int .u8 0), (.int .u8 0), (.int .u8 0), (.int .u8 0), (.int .i64 0)] [(0, 1, (.int .u8 2)), (1, 32, y80)]) h) fun y81 h =>
  thenV (lookupA Tryd.prog 98 y78 y81 true h) fun y82 h =>
  thenV (some (y82, h)) fun y77 h =>
  thenV (pu (extractA y77 0) h) fun y83 h =>
  thenV (pu (extractA y77 1) h) fun y84 h =>
  thenV (newC [(.int .u8 0), (.int .u8 0), (.int .u8 0), (.int .u8 0), (.int .u8 0), (.int .u8 0), (.int .u8 0), (.int .u8 0), (.int .u8 0), (.int .u8 0), (.int .u8 0), (.int .u8 0), (.int .u8 0), (.int .u8 0), (.int .u8 0), (.int .u8 0), (.int .u8 0), (.int .u8 0), (.int .u8 0), (.int .u8 0), (.int .u8 0), (.int .u8 0), (.int .u8 0), (.int .u8 0), (.int .u8 0), (.int .u8 0), (.int .u8 0), (.int .u8 0), (.int .u8 0), (.int .u8 0), (.int .u8 0), (.int .u8 0), (.int .u8 0), (.int .i64 0), (.int .u64 0), (.int .u64 0), (.bool false), (.int .i64 0), (.int .i64 0)] h) fun y16 h =>
  thenV (stN 39 y16 y83 h) fun _ h =>
  thenV (some (y84, h)) fun y17 h =>
  thenV (some (y17, h)) fun y85 h =>
  thenV (some (y85, h)) fun y86 h =>
  thenV (guardK (bOf y86 == some false) (pu (addP y14 34) h) h) fun y87 h =>
  thenV (guardK (bOf y86 == some false) (ld1 y87 h) h) fun y88 h =>
  thenV (guardK (bOf y86 == some false) (pu (addP y15 34) h) h) fun y89 h =>
  thenV (guardK (bOf y86 == some false) (ld1 y89 h) h) fun y90 h =>
  thenV (guardK (bOf y86 == some false) (pu (bin Tryd.prog .lss 32 y88 y90) h) h) fun y91 h =>
  thenV (match y86 with | .bool t => some (if t then (.bool true) else y91, h) | _ => none) fun y92 h =>
  (match y92 with
  | .bool true =>
  some (.normal, (mkF 103 (up x [(13, y13), (14, y14), (15, y15), (16, y16), (17, y17), (66, y66), (67, y67), (68, y68), (69, y69), (70, y70), (71, y71), (72, y72), (73, y73), (74, y74), (75, y75), (76, y76), (77, y77), (78, y78), (79, y79), (80, y80), (81, y81), (82, y82), (83, y83), (84, y84), (85, y85), (86, y86), (87, y87), (88, y88), (89, y89), (90, y90), (91, y91), (92, y92)])), h)
  | .bool false =>
  thenV (some ((x 12), h)) fun y93 h =>
  thenV (ldN 39 y14 h) fun y94 h =>
  thenV (bslR 39 (.agg #[(.int .u8 0), (.int .u8 0), (.int .u8 0), (.int .u8 0), (.int .u8 0), (.int .u8 0), (.int .u8 0), (.int .u8 0), (.int .u8 0), (.int .u8 0), (.int .u8 0), (.int .u8 0), (.int .u8 0), (.int .u8 0), (.int .u8 0), (.int .u8 0), (.int .u8 0), (.int .u8 0), (.int .u8 0), (.int .u8 0), (.int .u8 0), (.int .u8 0), (.int .u8 0), (.int .u8 0), (.int .u8 0), (.int .u8 0), (.int .u8 0), (.int .u8 0), (.int .u8 0), (.int .u8 0), (.int .u8 0), (.int .u8 0), (.int .u8 0), (.int .i64 0), (.int .u64 0), (.int .u64 0), (.bool false), (.int .i64 0), (.int .i64 0)]) 1 [(0, y94)] h) fun y95 h =>
  thenV (appendA 39 88 y93 y95 h) fun y96 h =>
  thenV (some (y96, h)) fun y12 h =>
  some (.normal, (mkF 103 (up x [(12, y12), (13, y13), (14, y14), (15, y15), (16, y16), (17, y17), (66, y66), (67, y67), (68, y68), (69, y69), (70, y70), (71, y71), (72, y72), (73, y73), (74, y74), (75, y75), (76, y76), (77, y77), (78, y78), (79, y79), (80, y80), (81, y81), (82, y82), (83, y83), (84, y84), (85, y85), (86, y86), (87, y87), (88, y88), (89, y89), (90, y90), (91, y91), (92, y92), (93, y93), (94, y94), (95, y95), (96, y96)])), h)
  | _ => none)
  | .bool false =>
  thenV (some ((x 12), h)) fun y93 h =>
  thenV (ldN 39 y14 h) fun y94 h =>
  thenV (bslR 39 (.agg #[(.int .u8 0), (.int .u8 0), (.int .u8 0), (.int .u8 0), (.int .u8 0), (.int .u8 0), (.int .u8 0), (.int .u8 0), (.int .u8 0), (.int .u8 0), (.int .u8 0), (.int .u8 0), (.int .u8 0), (.int .u8 0), (.int .u8 0), (.int .u8 0), (.int .u8 0), (.int .u8 0), (.int .u8 0), (.int .u8 0), (.int .u8 0), (.int .u8 0), (.int .u8 0), (.int .u8 0), (.int .u8 0), (.int .u8 0), (.int .u8 0), (.int .u8 0), (.int .u8 0), (.int .u8 0), (.int .u8 0), (.int .u8 0), (.int .u8 0), (.int .i64 0), (.int .u64 0), (.int .u64 0), (.bool false), (.int .i64 0), (.int .i64 0)]) 1 [(0, y94)] h) fun y95 h =>
  thenV (appendA 39 88 y93 y95 h) fun y96 h =>
  thenV (some (y96, h)) fun y12 h =>
  some (.normal, (mkF 103 (up x [(12, y12), (13, y13), (14, y14), (66, y66), (67, y67), (68, y68), (69, y69), (70, y70), (71, y71), (93, y93), (94, y94), (95, y95), (96, y96)])), h)
  | _ => none)
  | .bool false =>
  some (.exit 4, (mkF 103 (up x [])), h)
  | _ => none)
noncomputable def t25p25_1111111 (C : CallF) (x : Nat → Value) (h : Heap) : Option (Ex × Env × Heap) :=
  thenV (some ((x 12), h)) fun y97 h =>
  thenV (C 64 [y97, (.func (.func 65) #[] #[])] h) fun y98 h =>
  thenV (some ((x 0), h)) fun y99 h =>
  thenV (some ((x 12), h)) fun y100 h =>
  thenV (pu (nilCheckA y99) h) fun y101 h =>
  thenV (pu (addP y101 0) h) fun y102 h =>
  thenV (stN 1 y102 y100 h) fun _ h =>
  thenV (some ((.int .i64 0), h)) fun y4 h =>
  some (.ret, (mkF 103 (up x [(4, y4), (97, y97), (98, y98), (99, y99), (100, y100), (101, y101), (102, y102)])), h)
noncomputable def t25l25_1111010 (C : CallF) (x : Nat → Value) (h : Heap) : Option (Ex × Env × Heap) :=
  thenV (pu (bin Tryd.prog .lss 3 (x 30) (x 29)) h) fun y31 h =>
  (match y31 with
  | .bool true =>
  thenV (pu (idxS 1 (x 28) (x 30)) h) fun y32 h =>
  thenV (ld1 y32 h) fun y33 h =>
  thenV (some (y33, h)) fun y7 h =>
  thenV (some (y7, h)) fun y34 h =>
  thenV (pu (lenL y34) h) fun y35 h =>
  thenV (some ((.int .i64 0), h)) fun y36 h =>
  endL (iter (codeA Tryd.prog C (partOf Tryd.f25 [1, 1, 1, 1, 0, 1, 0, 0, 1, 1, 0, 0, 1, 1, 0, 0])) rounds (mkF 103 (up x [(7, y7), (31, y31), (32, y32), (33, y33), (34, y34), (35, y35), (36, y36)])) h) (fun e h => some (Ex.ret, e, h)) (b25_23 C)
  | .bool false =>
  some (.exit 0, (mkF 103 (up x [(31, y31)])), h)
  | _ => none)
noncomputable def t25k25_19 (_C : CallF) (x : Nat → Value) (h : Heap) : Option (Ex × Env × Heap) :=
  thenV (pu (bin Tryd.prog .add 3 (x 30) (.int .i64 1)) h) fun y60 h =>
  thenV (some (y60, h)) fun y30 h =>
  some (.normal, (mkF 103 (up x [(30, y30), (60, y60)])), h)
noncomputable def t25l25_111101001100110 (C : CallF) (x : Nat → Value) (h : Heap) : Option (Ex × Env × Heap) :=
  thenV (pu (bin Tryd.prog .lss 3 (x 36) (x 35)) h) fun y37 h =>
  (match y37 with
  | .bool true =>
  thenV (pu (idxS 39 (x 34) (x 36)) h) fun y38 h =>
  thenV (ldN 39 y38 h) fun y39 h =>
  thenV (newC [(.int .u8 0), (.int .u8 0), (.int .u8 0), (.int .u8 0), (.int .u8 0), (.int .u8 0), (.int .u8 0), (.int .u8 0), (.int .u8 0), (.int .u8 0), (.int .u8 0), (.int .u8 0), (.int .u8 0), (.int .u8 0), (.int .u8 0), (.int .u8 0), (.int .u8 0), (.int .u8 0), (.int .u8 0), (.int .u8 0), (.int .u8 0), (.int .u8 0), (.int .u8 0), (.int .u8 0), (.int .u8 0), (.int .u8 0), (.int .u8 0), (.int .u8 0), (.int .u8 0), (.int .u8 0), (.int .u8 0), (.int .u8 0), (.int .u8 0), (.int .i64 0), (.int .u64 0), (.int .u64 0), (.bool false), (.int .i64 0), (.int .i64 0)] h) fun y9 h =>
  thenV (stN 39 y9 y39 h) fun _ h =>
  thenV (some ((x 5), h)) fun y41 h =>
  thenV (ldN 39 y9 h) fun y42 h =>
  thenV (C 62 [y42] h) fun y43 h =>
  thenV (lookupA Tryd.prog 98 y41 y43 true h) fun y44 h =>
  thenV (some (y44, h)) fun y40 h =>
  thenV (pu (extractA y40 0) h) fun y45 h =>
  thenV (pu (extractA y40 1) h) fun y46 h =>
  thenV (newC [(.int .u8 0), (.int .u8 0), (.int .u8 0), (.int .u8 0), (.int .u8 0), (.int .u8 0), (.int .u8 0), (.int .u8 0), (.int .u8 0), (.int .u8 0), (.int .u8 0), (.int .u8 0), (.int .u8 0), (.int .u8 0), (.int .u8 0), (.int .u8 0), (.int .u8 0), (.int .u8 0), (.int .u8 0), (.int .u8 0), (.int .u8 0), (.int .u8 0), (.int .u8 0), (.int .u8 0), (.int .u8 0), (.int .u8 0), (.int .u8 0), (.int .u8 0), (.int .u8 0), (.int .u8 0), (.int .u8 0), (.int .u8 0), (.int .u8 0), (.int .i64 0), (.int .u64 0), (.int .u64 0), (.bool false), (.int .i64 0), (.int .i64 0)] h) fun y10 h =>
  thenV (stN 39 y10 y45 h) fun _ h =>
  thenV (some (y46, h)) fun y11 h =>
  thenV (some (y11, h)) fun y47 h =>
  thenV (pu (unA .not y47) h) fun y48 h =>
  thenV (some (y48, h)) fun y49 h =>
  thenV (guardK (bOf y49 == some false) (ldN 39 y9 h) h) fun y50 h =>
  thenV (guardK (bOf y49 == some false) (ldN 39 y10 h) h) fun y51 h =>
  thenV (guardK (bOf y49 == some false) (C 63 [y50, y51] h) h) fun y52 h =>
  thenV (guardK (bOf y49 == some false) (pu (bin Tryd.prog .gtr 3 y52 (.int .i64 0)) h) h) fun y53 h =>
  thenV (match y49 with | .bool t => some (if t then (.bool true) else y53, h) | _ => none) fun y54 h =>
  (match y54 with
  | .bool true =>
  let g31_0 := h
  thenV (some ((x 5), g31_0)) fun y55 g31_1 =>
  thenV (ldN 39 y9 g31_1) fun y56 g31_2 =>
  thenV (C 62 [y56] g31_2) fun y57 g31_3 =>
  thenV (ldN 39 y9 g31_3) fun y58 g31_4 =>
  thenV (mapUpdateA Tryd.prog 98 y55 y57 y58 g31_4) fun _ g31_5 =>
  (match (chkR true (ldN 39 y9 g31_2) y58 && true) with
  | true =>
  let h := g31_5
  thenV (pu (bin Tryd.prog .add 3 (x 36) (.int .i64 1)) h) fun y59 h =>
  thenV (some (y59, h)) fun y36 h =>
  some (.normal, (mkF 103 (up x [(9, y9), (10, y10), (11, y11), (36, y36), (37, y37), (38, y38), (39, y39), (40, y40), (41, y41), (42, y42), (43, y43), (44, y44), (45, y45), (46, y46), (47, y47), (48, y48), (49, y49), (50, y50), (51, y51), (52, y52), (53, y53), (54, y54), (55, y55), (56, y56), (57, y57), (58, y58), (59, y59)])), h)
  | false => none)
  | .bool false =>
  thenV (pu (bin Tryd.prog .add 3 (x 36) (.int .i64 1)) h) fun y59 h =>
  thenV (some (y59, h)) fun y36 h =>
  some (.normal, (mkF 103 (up x [(9, y9), (10, y10), (11, y11), (36, y36), (37, y37), (38, y38), (39, y39), (40, y40), (41, y41), (42, y42), (43, y43), (44, y44), (45, y45), (46, y46), (47, y47), (48, y48), (49, y49), (50, y50), (51, y51), (52, y52), (53, y53), (54, y54), (59, y59)])), h)
  | _ => none)
  | .bool false =>
  some (.exit 2, (mkF 103 (up x [(37, y37)])), h)
  | _ => none)
theorem t25p25_0_eq (C : CallF) (x : Nat → Value) (h : Heap) : codeA Tryd.prog C (partOf Tryd.f25 [0]) (mkF 103 x) h = t25p25_0 C x h :=
  link_roundF (T := t25p25_0 C) (fun x h => by kernel_rfl) x h
theorem t25p25_10_eq (C : CallF) (x : Nat → Value) (h : Heap) : codeA Tryd.prog C (partOf Tryd.f25 [1, 0]) (mkF 103 x) h = t25p25_10 C x h :=
  link_roundF (T := t25p25_10 C) (fun x h => by kernel_rfl) x h
theorem t25p25_110_eq (C : CallF) (x : Nat → Value) (h : Heap) : codeA Tryd.prog C (partOf Tryd.f25 [1, 1, 0]) (mkF 103 x) h = t25p25_110 C x h :=
  link_roundF (T := t25p25_110 C) (fun x h => by kernel_rfl) x h
theorem t25p25_1110_eq (C : CallF) (x : Nat → Value) (h : Heap) : codeA Tryd.prog C (partOf Tryd.f25 [1, 1, 1, 0]) (mkF 103 x) h = t25p25_1110 C x h :=
  link_roundF (T := t25p25_1110 C) (fun x h => by kernel_rfl) x h
theorem t25p25_11110_eq (C : CallF) (x : Nat → Value) (h : Heap) : codeA Tryd.prog C (partOf Tryd.f25 [1, 1, 1, 1, 0]) (mkF 103 x) h = t25p25_11110 C x h :=
  link_roundF (T := t25p25_11110 C) (fun x h => by kernel_rfl) x h
theorem t25p25_111110_eq (C : CallF) (x : Nat → Value) (h : Heap) : codeA Tryd.prog C (partOf Tryd.f25 [1, 1, 1, 1, 1, 0]) (mkF 103 x) h = t25p25_111110 C x h :=
  link_roundF (T := t25p25_111110 C) (fun x h => by kernel_rfl) x h
theorem t25p25_11111100_eq (C : CallF) (x : Nat → Value) (h : Heap) : codeA Tryd.prog C (partOf Tryd.f25 [1, 1, 1, 1, 1, 1, 0, 0]) (mkF 103 x) h = t25p25_11111100 C x h :=
  link_roundF (T := t25p25_11111100 C) (fun x h => by kernel_rfl) x h
theorem t25p25_11111101001_eq (C : CallF) (x : Nat → Value) (h : Heap) : codeA Tryd.prog C (partOf Tryd.f25 [1, 1, 1, 1, 1, 1, 0, 1, 0, 0, 1]) (mkF 103 x) h = t25p25_11111101001 C x h :=
  link_roundF (T := t25p25_11111101001 C) (fun x h => by kernel_rfl) x h
theorem t25p25_1111111_eq (C : CallF) (x : Nat → Value) (h : Heap) : codeA Tryd.prog C (partOf Tryd.f25 [1, 1, 1, 1, 1, 1, 1]) (mkF 103 x) h = t25p25_1111111 C x h :=
  link_roundF (T := t25p25_1111111 C) (fun x h => by kernel_rfl) x h
theorem t25l25_1111010_eq (C : CallF) (x : Nat → Value) (h : Heap) : codeA Tryd.prog C (partOf Tryd.f25 [1, 1, 1, 1, 0, 1, 0, 0]) (mkF 103 x) h = t25l25_1111010 C x h :=
  link_roundF (T := t25l25_1111010 C) (fun x h => by kernel_rfl) x h
theorem t25k25_19_eq (C : CallF) (x : Nat → Value) (h : Heap) : k25_19 C (mkF 103 x) h = t25k25_19 C x h :=
  link_partF (b := (partOf Tryd.f25 [1, 1, 1, 1, 0, 1, 0, 0, 1, 1, 1])) (kE := (fun e h => some (Ex.normal, e, h))) (rE := (fun e h => some (Ex.ret, e, h))) (xE := (fun i e h => some (Ex.exit i, e, h))) (T := t25k25_19 C) (fun x h => by kernel_rfl) x h
theorem t25l25_111101001100110_eq (C : CallF) (x : Nat → Value) (h : Heap) : codeA Tryd.prog C (partOf Tryd.f25 [1, 1, 1, 1, 0, 1, 0, 0, 1, 1, 0, 0, 1, 1, 0, 0]) (mkF 103 x) h = t25l25_111101001100110 C x h :=
  link_roundF (T := t25l25_111101001100110 C) (fun x h => by kernel_rfl) x h


/-- (*stolon/inventory.Inventory).Merge$1 -/
noncomputable def t61 (C : CallF) (x0 : Value) (h : Heap) : Out :=
  thenV (box x0 h) fun y1 h =>
  thenV (some ((.bool false), h)) fun _y2 h =>
  thenV (ldN 39 y1 h) fun y3 h =>
  thenV (C 42 [y3] h) fun y4 h =>
  thenV (pu (unA .not y4) h) fun y5 h =>
  thenV (some (y5, h)) fun y2_1 h =>
  some (y2_1, h)
theorem t61_eq (C : CallF) (x0 : Value) (h : Heap) : bodyK Tryd.prog C Tryd.f61 [x0] h = t61 C x0 h :=
  (bodyB_eq Tryd.prog C Tryd.f61 [x0] h (by kernel_rfl)).trans (by kernel_rfl)


/-- slices.Clone[[]stolon/api.Record,stolon/api.Record] -/
noncomputable def t57 (_C : CallF) (x0 : Value) (h : Heap) : Out :=
  thenV (some ((.slice none 0 0), h)) fun _y2 h =>
  thenV (some (x0, h)) fun y3 h =>
  thenV (pu (bin Tryd.prog .eql 22 y3 (.slice none 0 0)) h) fun y4 h =>
  (match y4 with
  | .bool true =>
  thenV (some ((.slice none 0 0), h)) fun y2_1 h =>
  some (y2_1, h)
  | .bool false =>
  thenV (bslR 39 (.agg #[(.int .u8 0), (.int .u8 0), (.int .u8 0), (.int .u8 0), (.int .u8 0), (.int .u8 0), (.int .u8 0), (.int .u8 0), (.int .u8 0), (.int .u8 0), (.int .u8 0), (.int .u8 0), (.int .u8 0), (.int .u8 0), (.int .u8 0), (.int .u8 0), (.int .u8 0), (.int .u8 0), (.int .u8 0), (.int .u8 0), (.int .u8 0), (.int .u8 0), (.int .u8 0), (.int .u8 0), (.int .u8 0), (.int .u8 0), (.int .u8 0), (.int .u8 0), (.int .u8 0), (.int .u8 0), (.int .u8 0), (.int .u8 0), (.int .u8 0), (.int .i64 0), (.int .u64 0), (.int .u64 0), (.bool false), (.int .i64 0), (.int .i64 0)]) 0 [] h) fun y5 h =>
  thenV (some (x0, h)) fun y6 h =>
  thenV (appendA 39 88 y5 y6 h) fun y7 h =>
  thenV (some (y7, h)) fun y2_1 h =>
  some (y2_1, h)
  | _ => none)
theorem t57_eq (C : CallF) (x0 : Value) (h : Heap) : bodyK Tryd.prog C Tryd.f57 [x0] h = t57 C x0 h :=
  (bodyB_eq Tryd.prog C Tryd.f57 [x0] h (by kernel_rfl)).trans (by kernel_rfl)


/-- stolon/stolonlaw06.load -/
noncomputable def t15 (C : CallF) (x0 : Value) (h : Heap) : Out :=
  thenV (some ((.pointer none), h)) fun _y2 h =>
  thenV (some ((.int .i64 0), h)) fun _y3 h =>
  thenV (C 33 [] h) fun y5 h =>
  thenV (some (y5, h)) fun y4 h =>
  thenV (some (y4, h)) fun y6 h =>
  thenV (pu (bin Tryd.prog .eql 25 y6 (.pointer none)) h) fun y7 h =>
  (match y7 with
  | .bool true =>
  thenV (some ((.pointer none), h)) fun y2_1 h =>
  thenV (some ((.int .i64 1), h)) fun y3_1 h =>
  some (.tuple #[y2_1, y3_1], h)
  | .bool false =>
  thenV (some (y4, h)) fun y8 h =>
  thenV (some (y4, h)) fun y9 h =>
  thenV (some (x0, h)) fun y10 h =>
  thenV (C 26 [y10] h) fun y11 h =>
  thenV (C 25 [y9, y11] h) fun y12 h =>
  thenV (some (y8, h)) fun y2_1 h =>
  thenV (some (y12, h)) fun y3_1 h =>
  some (.tuple #[y2_1, y3_1], h)
  | _ => none)
theorem t15_eq (C : CallF) (x0 : Value) (h : Heap) : bodyK Tryd.prog C Tryd.f15 [x0] h = t15 C x0 h :=
  (bodyB_eq Tryd.prog C Tryd.f15 [x0] h (by kernel_rfl)).trans (by kernel_rfl)


/-- stolon/inventory.New -/
noncomputable def t33 (_C : CallF) (h : Heap) : Out :=
  thenV (some ((.pointer none), h)) fun _y0 h =>
  thenV (pu (bldR [(.slice none 0 0)] []) h) fun y1 h =>
  thenV (box y1 h) fun y2 h =>
  thenV (some (y2, h)) fun y0_1 h =>
  some (y0_1, h)
theorem t33_eq (C : CallF) (h : Heap) : bodyK Tryd.prog C Tryd.f33 [] h = t33 C  h :=
  (bodyB_eq Tryd.prog C Tryd.f33 [] h (by kernel_rfl)).trans (by kernel_rfl)


/-- (*stolon/inventory.Inventory).Records -/
noncomputable def t23 (C : CallF) (x0 : Value) (h : Heap) : Out :=
  thenV (some ((.slice none 0 0), h)) fun _y2 h =>
  thenV (some (x0, h)) fun y3 h =>
  thenV (pu (bin Tryd.prog .eql 25 y3 (.pointer none)) h) fun y4 h =>
  (match y4 with
  | .bool true =>
  thenV (some ((.slice none 0 0), h)) fun y2_1 h =>
  some (y2_1, h)
  | .bool false =>
  thenV (some (x0, h)) fun y5 h =>
  thenV (pu (nilCheckA y5) h) fun y6 h =>
  thenV (pu (addP y6 0) h) fun y7 h =>
  thenV (ld1 y7 h) fun y8 h =>
  thenV (C 57 [y8] h) fun y9 h =>
  thenV (some (y9, h)) fun y2_1 h =>
  some (y2_1, h)
  | _ => none)
theorem t23_eq (C : CallF) (x0 : Value) (h : Heap) : bodyK Tryd.prog C Tryd.f23 [x0] h = t23 C x0 h :=
  (bodyB_eq Tryd.prog C Tryd.f23 [x0] h (by kernel_rfl)).trans (by kernel_rfl)


end Go.Proofs.YtdnahgfgoajmcaaDoor

namespace Go.Proofs.YtdnahgfgoajmcaaDoor
open Go Go.Abs
/-- (*stolon/inventory.Inventory).Merge$2 -/
noncomputable def t65 (C : CallF) (x0 x1 : Value) (h : Heap) : Out :=
  thenV (box x0 h) fun y2 h =>
  thenV (box x1 h) fun y3 h =>
  thenV (some ((.int .i64 0), h)) fun _y4 h =>
  let g2_0 := h
  thenV (ldN 39 y2 g2_0) fun y5 g2_1 =>
  thenV (C 67 [y5] g2_1) fun y6 g2_2 =>
  thenV (ldN 39 y3 g2_2) fun y7 g2_3 =>
  thenV (C 67 [y7] g2_3) fun y8 g2_4 =>
  thenV (C 66 [y6, y8] g2_4) fun y9 g2_5 =>
  thenV (some (y9, g2_5)) fun y4_1 g2_6 =>
  (match (chkR true (ldN 39 y3 g2_1) y7 && true) with
  | true =>
  let h := g2_6
  some (y4_1, h)
  | false => none)
theorem t65_eq (C : CallF) (x0 x1 : Value) (h : Heap) : bodyK Tryd.prog C Tryd.f65 [x0, x1] h = t65 C x0 x1 h :=
  (bodyB_eq Tryd.prog C Tryd.f65 [x0, x1] h (by kernel_rfl)).trans (by kernel_rfl)


/-- bytes.Compare -/
noncomputable def t66 (C : CallF) (x0 x1 : Value) (h : Heap) : Out :=
  thenV (some ((.int .i64 0), h)) fun _y4 h =>
  thenV (some (x0, h)) fun y5 h =>
  thenV (some (x1, h)) fun y6 h =>
  thenV (C 119 [y5, y6] h) fun y7 h =>
  thenV (some (y7, h)) fun y4_1 h =>
  some (y4_1, h)
theorem t66_eq (C : CallF) (x0 x1 : Value) (h : Heap) : bodyK Tryd.prog C Tryd.f66 [x0, x1] h = t66 C x0 x1 h :=
  (bodyB_eq Tryd.prog C Tryd.f66 [x0, x1] h (by kernel_rfl)).trans (by kernel_rfl)


end Go.Proofs.YtdnahgfgoajmcaaDoor

namespace Go.Proofs.YtdnahgfgoajmcaaDoor
open Go Go.Abs
noncomputable def k24_5 (C : CallF) (e : Env) (h : Heap) : Out := codeK Tryd.prog C (partOf Tryd.f24 [1, 1, 1, 1]) e h (resultsA Tryd.prog Tryd.f24.results.toList) (resultsA Tryd.prog Tryd.f24.results.toList) (fun _ _ _ => none)
noncomputable def b24_7 (C : CallF) (i : Nat) (e : Env) (h : Heap) : Out := if i = 0 then (k24_5 C) e h else (fun _ _ _ => none) i e h
noncomputable def k24_11 (C : CallF) (e : Env) (h : Heap) : Option (Ex × Env × Heap) := codeK Tryd.prog C (partOf Tryd.f24 [1, 1, 1, 0, 1, 0, 0, 1, 1]) e h (fun e h => some (Ex.normal, e, h)) (fun e h => some (Ex.ret, e, h)) (fun i e h => some (Ex.exit i, e, h))
noncomputable def b24_12 (C : CallF) (i : Nat) (e : Env) (h : Heap) : Option (Ex × Env × Heap) := if i = 1 then (k24_11 C) e h else (fun i e h => some (Ex.exit i, e, h)) i e h
noncomputable def b24_18 (C : CallF) (i : Nat) (e : Env) (h : Heap) : Option (Ex × Env × Heap) := if i = 2 then (k24_11 C) e h else (b24_12 C) i e h
/-- stolon/stolonlaw06.rightRecords -/
noncomputable def t24 (C : CallF) (x0 : Value) (h : Heap) : Out :=
  thenV (some ((.bool false), h)) fun y2 h =>
  thenV (some (x0, h)) fun y6 h =>
  thenV (pu (lenL y6) h) fun y7 h =>
  thenV (pu (bin Tryd.prog .gtr 3 y7 (.int .i64 40)) h) fun y8 h =>
  (match y8 with
  | .bool true =>
  thenV (some ((.bool false), h)) fun y2_1 h =>
  some (y2_1, h)
  | .bool false =>
  thenV (some ((.int .i64 0), h)) fun y3 h =>
  thenV (some ((.int .i64 0), h)) fun y4 h =>
  endL (iter (codeA Tryd.prog C (partOf Tryd.f24 [1, 1, 1, 0, 1, 0, 0])) rounds (mkF 48 (up (bs [x0]) [(2, y2), (3, y3), (4, y4), (6, y6), (7, y7), (8, y8)])) h) (resultsA Tryd.prog Tryd.f24.results.toList) (b24_7 C)
  | _ => none)
noncomputable def t24k24_5 (_C : CallF) (x : Nat → Value) (h : Heap) : Out :=
  thenV (some ((x 3), h)) fun y46 h =>
  thenV (pu (bin Tryd.prog .leq 3 y46 (.int .i64 120)) h) fun y47 h =>
  thenV (some (y47, h)) fun y2 h =>
  some (y2, h)
noncomputable def t24l24_111010 (C : CallF) (x : Nat → Value) (h : Heap) : Option (Ex × Env × Heap) :=
  thenV (some ((x 4), h)) fun y9 h =>
  thenV (some ((x 0), h)) fun y10 h =>
  thenV (pu (lenL y10) h) fun y11 h =>
  thenV (pu (bin Tryd.prog .lss 3 y9 y11) h) fun y12 h =>
  (match y12 with
  | .bool true =>
  thenV (some ((x 0), h)) fun y15 h =>
  thenV (some ((x 4), h)) fun y16 h =>
  thenV (pu (idxS 1 y15 y16) h) fun y17 h =>
  thenV (ld1 y17 h) fun y18 h =>
  thenV (pu (lenL y18) h) fun y19 h =>
  thenV (pu (bin Tryd.prog .gtr 3 y19 (.int .i64 120)) h) fun y20 h =>
  (match y20 with
  | .bool true =>
  thenV (some ((.bool false), h)) fun y2 h =>
  some (.ret, (mkF 48 (up x [(2, y2), (9, y9), (10, y10), (11, y11), (12, y12), (15, y15), (16, y16), (17, y17), (18, y18), (19, y19), (20, y20)])), h)
  | .bool false =>
  thenV (some ((x 3), h)) fun y21 h =>
  thenV (some ((x 0), h)) fun y22 h =>
  thenV (some ((x 4), h)) fun y23 h =>
  thenV (pu (idxS 1 y22 y23) h) fun y24 h =>
  thenV (ld1 y24 h) fun y25 h =>
  thenV (pu (lenL y25) h) fun y26 h =>
  thenV (pu (bin Tryd.prog .add 3 y21 y26) h) fun y27 h =>
  thenV (some (y27, h)) fun y3 h =>
  thenV (some ((.int .i64 0), h)) fun y5 h =>
  endL (iter (codeA Tryd.prog C (partOf Tryd.f24 [1, 1, 1, 0, 1, 0, 0, 1, 0, 0, 1, 1, 1, 0, 0])) rounds (mkF 48 (up x [(3, y3), (5, y5), (9, y9), (10, y10), (11, y11), (12, y12), (15, y15), (16, y16), (17, y17), (18, y18), (19, y19), (20, y20), (21, y21), (22, y22), (23, y23), (24, y24), (25, y25), (26, y26), (27, y27)])) h) (fun e h => some (Ex.ret, e, h)) (b24_18 C)
  | _ => none)
  | .bool false =>
  some (.exit 0, (mkF 48 (up x [(9, y9), (10, y10), (11, y11), (12, y12)])), h)
  | _ => none)
noncomputable def t24k24_11 (_C : CallF) (x : Nat → Value) (h : Heap) : Option (Ex × Env × Heap) :=
  thenV (some ((x 4), h)) fun y13 h =>
  thenV (pu (bin Tryd.prog .add 3 y13 (.int .i64 1)) h) fun y14 h =>
  thenV (some (y14, h)) fun y4 h =>
  some (.normal, (mkF 48 (up x [(4, y4), (13, y13), (14, y14)])), h)
noncomputable def t24l24_11101001001110 (C : CallF) (x : Nat → Value) (h : Heap) : Option (Ex × Env × Heap) :=
  thenV (some ((x 5), h)) fun y28 h =>
  thenV (some ((x 0), h)) fun y29 h =>
  thenV (some ((x 4), h)) fun y30 h =>
  thenV (pu (idxS 1 y29 y30) h) fun y31 h =>
  thenV (ld1 y31 h) fun y32 h =>
  thenV (pu (lenL y32) h) fun y33 h =>
  thenV (pu (bin Tryd.prog .lss 3 y28 y33) h) fun y34 h =>
  (match y34 with
  | .bool true =>
  thenV (some ((x 0), h)) fun y37 h =>
  thenV (some ((x 4), h)) fun y38 h =>
  thenV (pu (idxS 1 y37 y38) h) fun y39 h =>
  thenV (ld1 y39 h) fun y40 h =>
  thenV (some ((x 5), h)) fun y41 h =>
  thenV (pu (idxS 39 y40 y41) h) fun y42 h =>
  thenV (ldN 39 y42 h) fun y43 h =>
  thenV (C 42 [y43] h) fun y44 h =>
  thenV (pu (unA .not y44) h) fun y45 h =>
  (match y45 with
  | .bool true =>
  thenV (some ((.bool false), h)) fun y2 h =>
  some (.ret, (mkF 48 (up x [(2, y2), (28, y28), (29, y29), (30, y30), (31, y31), (32, y32), (33, y33), (34, y34), (37, y37), (38, y38), (39, y39), (40, y40), (41, y41), (42, y42), (43, y43), (44, y44), (45, y45)])), h)
  | .bool false =>
  thenV (some ((x 5), h)) fun y35 h =>
  thenV (pu (bin Tryd.prog .add 3 y35 (.int .i64 1)) h) fun y36 h =>
  thenV (some (y36, h)) fun y5 h =>
  some (.normal, (mkF 48 (up x [(5, y5), (28, y28), (29, y29), (30, y30), (31, y31), (32, y32), (33, y33), (34, y34), (35, y35), (36, y36), (37, y37), (38, y38), (39, y39), (40, y40), (41, y41), (42, y42), (43, y43), (44, y44), (45, y45)])), h)
  | _ => none)
  | .bool false =>
  some (.exit 2, (mkF 48 (up x [(28, y28), (29, y29), (30, y30), (31, y31), (32, y32), (33, y33), (34, y34)])), h)
  | _ => none)
theorem t24_eq (C : CallF) (x0 : Value) (h : Heap) : bodyK Tryd.prog C Tryd.f24 [x0] h = t24 C x0 h :=
  (bodyB_eq Tryd.prog C Tryd.f24 [x0] h (by kernel_rfl)).trans (by kernel_rfl)
theorem t24k24_5_eq (C : CallF) (x : Nat → Value) (h : Heap) : k24_5 C (mkF 48 x) h = t24k24_5 C x h :=
  link_partF (b := (partOf Tryd.f24 [1, 1, 1, 1])) (kE := (resultsA Tryd.prog Tryd.f24.results.toList)) (rE := (resultsA Tryd.prog Tryd.f24.results.toList)) (xE := (fun _ _ _ => none)) (T := t24k24_5 C) (fun x h => by kernel_rfl) x h
theorem t24l24_111010_eq (C : CallF) (x : Nat → Value) (h : Heap) : codeA Tryd.prog C (partOf Tryd.f24 [1, 1, 1, 0, 1, 0, 0]) (mkF 48 x) h = t24l24_111010 C x h :=
  link_roundF (T := t24l24_111010 C) (fun x h => by kernel_rfl) x h
theorem t24k24_11_eq (C : CallF) (x : Nat → Value) (h : Heap) : k24_11 C (mkF 48 x) h = t24k24_11 C x h :=
  link_partF (b := (partOf Tryd.f24 [1, 1, 1, 0, 1, 0, 0, 1, 1])) (kE := (fun e h => some (Ex.normal, e, h))) (rE := (fun e h => some (Ex.ret, e, h))) (xE := (fun i e h => some (Ex.exit i, e, h))) (T := t24k24_11 C) (fun x h => by kernel_rfl) x h
theorem t24l24_11101001001110_eq (C : CallF) (x : Nat → Value) (h : Heap) : codeA Tryd.prog C (partOf Tryd.f24 [1, 1, 1, 0, 1, 0, 0, 1, 0, 0, 1, 1, 1, 0, 0]) (mkF 48 x) h = t24l24_11101001001110 C x h :=
  link_roundF (T := t24l24_11101001001110 C) (fun x h => by kernel_rfl) x h


noncomputable def k19_4 (C : CallF) (e : Env) (h : Heap) : Out := codeK Tryd.prog C (partOf Tryd.f19 [1, 1, 1]) e h (resultsA Tryd.prog Tryd.f19.results.toList) (resultsA Tryd.prog Tryd.f19.results.toList) (fun _ _ _ => none)
noncomputable def b19_6 (C : CallF) (i : Nat) (e : Env) (h : Heap) : Out := if i = 0 then (k19_4 C) e h else (fun _ _ _ => none) i e h
/-- stolon/stolonref06.Same -/
noncomputable def t19 (C : CallF) (x0 x1 : Value) (h : Heap) : Out :=
  thenV (some ((.bool false), h)) fun y4 h =>
  thenV (some (x0, h)) fun y6 h =>
  thenV (pu (lenL y6) h) fun y7 h =>
  thenV (some (x1, h)) fun y8 h =>
  thenV (pu (lenL y8) h) fun y9 h =>
  thenV (pu (bin Tryd.prog .neq 3 y7 y9) h) fun y10 h =>
  (match y10 with
  | .bool true =>
  thenV (some ((.bool false), h)) fun y4_1 h =>
  some (y4_1, h)
  | .bool false =>
  thenV (some ((.int .i64 0), h)) fun y5 h =>
  endL (iter (codeA Tryd.prog C (partOf Tryd.f19 [1, 1, 0, 1, 0, 0])) rounds (mkF 26 (up (bs [x0, x1]) [(4, y4), (5, y5), (6, y6), (7, y7), (8, y8), (9, y9), (10, y10)])) h) (resultsA Tryd.prog Tryd.f19.results.toList) (b19_6 C)
  | _ => none)
noncomputable def t19k19_4 (_C : CallF) (_x : Nat → Value) (h : Heap) : Out :=
  thenV (some ((.bool true), h)) fun y4 h =>
  some (y4, h)
noncomputable def t19l19_11010 (_C : CallF) (x : Nat → Value) (h : Heap) : Option (Ex × Env × Heap) :=
  thenV (some ((x 5), h)) fun y11 h =>
  thenV (some ((x 0), h)) fun y12 h =>
  thenV (pu (lenL y12) h) fun y13 h =>
  thenV (pu (bin Tryd.prog .lss 3 y11 y13) h) fun y14 h =>
  (match y14 with
  | .bool true =>
  thenV (some ((x 0), h)) fun y17 h =>
  thenV (some ((x 5), h)) fun y18 h =>
  thenV (pu (idxS 39 y17 y18) h) fun y19 h =>
  thenV (ldN 39 y19 h) fun y20 h =>
  thenV (some ((x 1), h)) fun y21 h =>
  thenV (some ((x 5), h)) fun y22 h =>
  thenV (pu (idxS 39 y21 y22) h) fun y23 h =>
  thenV (ldN 39 y23 h) fun y24 h =>
  thenV (pu (bin Tryd.prog .neq 58 y20 y24) h) fun y25 h =>
  (match y25 with
  | .bool true =>
  thenV (some ((.bool false), h)) fun y4 h =>
  some (.ret, (mkF 26 (up x [(4, y4), (11, y11), (12, y12), (13, y13), (14, y14), (17, y17), (18, y18), (19, y19), (20, y20), (21, y21), (22, y22), (23, y23), (24, y24), (25, y25)])), h)
  | .bool false =>
  thenV (some ((x 5), h)) fun y15 h =>
  thenV (pu (bin Tryd.prog .add 3 y15 (.int .i64 1)) h) fun y16 h =>
  thenV (some (y16, h)) fun y5 h =>
  some (.normal, (mkF 26 (up x [(5, y5), (11, y11), (12, y12), (13, y13), (14, y14), (15, y15), (16, y16), (17, y17), (18, y18), (19, y19), (20, y20), (21, y21), (22, y22), (23, y23), (24, y24), (25, y25)])), h)
  | _ => none)
  | .bool false =>
  some (.exit 0, (mkF 26 (up x [(11, y11), (12, y12), (13, y13), (14, y14)])), h)
  | _ => none)
theorem t19_eq (C : CallF) (x0 x1 : Value) (h : Heap) : bodyK Tryd.prog C Tryd.f19 [x0, x1] h = t19 C x0 x1 h :=
  (bodyB_eq Tryd.prog C Tryd.f19 [x0, x1] h (by kernel_rfl)).trans (by kernel_rfl)
theorem t19k19_4_eq (C : CallF) (x : Nat → Value) (h : Heap) : k19_4 C (mkF 26 x) h = t19k19_4 C x h :=
  link_partF (b := (partOf Tryd.f19 [1, 1, 1])) (kE := (resultsA Tryd.prog Tryd.f19.results.toList)) (rE := (resultsA Tryd.prog Tryd.f19.results.toList)) (xE := (fun _ _ _ => none)) (T := t19k19_4 C) (fun x h => by kernel_rfl) x h
theorem t19l19_11010_eq (C : CallF) (x : Nat → Value) (h : Heap) : codeA Tryd.prog C (partOf Tryd.f19 [1, 1, 0, 1, 0, 0]) (mkF 26 x) h = t19l19_11010 C x h :=
  link_roundF (T := t19l19_11010 C) (fun x h => by kernel_rfl) x h


end Go.Proofs.YtdnahgfgoajmcaaDoor

namespace Go.Proofs.YtdnahgfgoajmcaaDoor
open Go Go.Abs
/-- (*stolon/inventory.Inventory).each -/
noncomputable def t68 (_C : CallF) (x0 x1 : Value) (h : Heap) : Out :=
  thenV (box x0 h) fun y2 h =>
  thenV (box x1 h) fun y3 h =>
  thenV (some (.nilFunc, h)) fun _y4 h =>
  thenV (some (.func (.func 120) #[] #[y2, y3], h)) fun y5 h =>
  thenV (some (y5, h)) fun y4_1 h =>
  some (y4_1, h)
theorem t68_eq (C : CallF) (x0 x1 : Value) (h : Heap) : bodyK Tryd.prog C Tryd.f68 [x0, x1] h = t68 C x0 x1 h :=
  (bodyB_eq Tryd.prog C Tryd.f68 [x0, x1] h (by kernel_rfl)).trans (by kernel_rfl)


noncomputable def b120_3 (_C : CallF) (i : Nat) (e : Env) (h : Heap) : Out := if i = 0 then (resultsA Tryd.prog Tryd.f120.results.toList) e h else (fun _ _ _ => none) i e h
/-- (*stolon/inventory.Inventory).each$1 -/
noncomputable def t120 (C : CallF) (x0 x1 x2 : Value) (h : Heap) : Out :=
  thenV (ld1 x1 h) fun y6 h =>
  thenV (pu (bin Tryd.prog .eql 25 y6 (.pointer none)) h) fun y7 h =>
  (match y7 with
  | .bool true =>
  some (.tuple #[], h)
  | .bool false =>
  thenV (ld1 x1 h) fun y8 h =>
  thenV (pu (nilCheckA y8) h) fun y9 h =>
  thenV (pu (addP y9 0) h) fun y10 h =>
  thenV (ld1 y10 h) fun y11 h =>
  thenV (pu (lenL y11) h) fun y12 h =>
  thenV (some ((.int .i64 0), h)) fun y13 h =>
  endL (iter (codeA Tryd.prog C (partOf Tryd.f120 [1, 1, 0, 0])) rounds (mkF 28 (up (bs [x0, x1, x2]) [(6, y6), (7, y7), (8, y8), (9, y9), (10, y10), (11, y11), (12, y12), (13, y13)])) h) (resultsA Tryd.prog Tryd.f120.results.toList) (b120_3 C)
  | _ => none)
noncomputable def t120l120_110 (C : CallF) (x : Nat → Value) (h : Heap) : Option (Ex × Env × Heap) :=
  thenV (pu (bin Tryd.prog .lss 3 (x 13) (x 12)) h) fun y14 h =>
  (match y14 with
  | .bool true =>
  thenV (pu (idxS 39 (x 11) (x 13)) h) fun y15 h =>
  thenV (ldN 39 y15 h) fun y16 h =>
  thenV (newC [(.int .u8 0), (.int .u8 0), (.int .u8 0), (.int .u8 0), (.int .u8 0), (.int .u8 0), (.int .u8 0), (.int .u8 0), (.int .u8 0), (.int .u8 0), (.int .u8 0), (.int .u8 0), (.int .u8 0), (.int .u8 0), (.int .u8 0), (.int .u8 0), (.int .u8 0), (.int .u8 0), (.int .u8 0), (.int .u8 0), (.int .u8 0), (.int .u8 0), (.int .u8 0), (.int .u8 0), (.int .u8 0), (.int .u8 0), (.int .u8 0), (.int .u8 0), (.int .u8 0), (.int .u8 0), (.int .u8 0), (.int .u8 0), (.int .u8 0), (.int .i64 0), (.int .u64 0), (.int .u64 0), (.bool false), (.int .i64 0), (.int .i64 0)] h) fun y5 h =>
  thenV (stN 39 y5 y16 h) fun _ h =>
  thenV (pu (addP y5 0) h) fun y17 h =>
  thenV (ld1 y17 h) fun y18 h =>
  thenV (ld1 (x 2) h) fun y19 h =>
  thenV (pu (bin Tryd.prog .eql 56 y18 y19) h) fun y20 h =>
  thenV (some (y20, h)) fun y21 h =>
  thenV (guardK (bOf y21 == some true) (some ((x 0), h)) h) fun y22 h =>
  thenV (guardK (bOf y21 == some true) (ldN 39 y5 h) h) fun y23 h =>
  thenV (guardK (bOf y21 == some true) (callA Tryd.prog C y22 [y23] h) h) fun y24 h =>
  thenV (guardK (bOf y21 == some true) (pu (unA .not y24) h) h) fun y25 h =>
  thenV (match y21 with | .bool t => some (if t then y25 else (.bool false), h) | _ => none) fun y26 h =>
  (match y26 with
  | .bool true =>
  some (.ret, (mkF 28 (up x [(5, y5), (14, y14), (15, y15), (16, y16), (17, y17), (18, y18), (19, y19), (20, y20), (21, y21), (22, y22), (23, y23), (24, y24), (25, y25), (26, y26)])), h)
  | .bool false =>
  thenV (pu (bin Tryd.prog .add 3 (x 13) (.int .i64 1)) h) fun y27 h =>
  thenV (some (y27, h)) fun y13 h =>
  some (.normal, (mkF 28 (up x [(5, y5), (13, y13), (14, y14), (15, y15), (16, y16), (17, y17), (18, y18), (19, y19), (20, y20), (21, y21), (22, y22), (23, y23), (24, y24), (25, y25), (26, y26), (27, y27)])), h)
  | _ => none)
  | .bool false =>
  some (.exit 0, (mkF 28 (up x [(14, y14)])), h)
  | _ => none)
theorem t120_eq (C : CallF) (x0 x1 x2 : Value) (h : Heap) : bodyK Tryd.prog C Tryd.f120 [x0, x1, x2] h = t120 C x0 x1 x2 h :=
  (bodyB_eq Tryd.prog C Tryd.f120 [x0, x1, x2] h (by kernel_rfl)).trans (by kernel_rfl)
theorem t120l120_110_eq (C : CallF) (x : Nat → Value) (h : Heap) : codeA Tryd.prog C (partOf Tryd.f120 [1, 1, 0, 0]) (mkF 28 x) h = t120l120_110 C x h :=
  link_roundF (T := t120l120_110 C) (fun x h => by kernel_rfl) x h


noncomputable def k28_1 (C : CallF) (e : Env) (h : Heap) : Out := codeK Tryd.prog C (partOf Tryd.f28 [1, 1]) e h (resultsA Tryd.prog Tryd.f28.results.toList) (resultsA Tryd.prog Tryd.f28.results.toList) (fun _ _ _ => none)
noncomputable def b28_3 (C : CallF) (i : Nat) (e : Env) (h : Heap) : Out := if i = 0 then (k28_1 C) e h else (fun _ _ _ => none) i e h
/-- (*stolon/inventory.Inventory).Buried -/
noncomputable def t28 (C : CallF) (x0 x1 : Value) (h : Heap) : Out :=
  thenV (box x1 h) fun y3 h =>
  thenV (newC [(.bool false)] h) fun y4 h =>
  thenV (some (x0, h)) fun y6 h =>
  thenV (C 68 [y6, (.int .u8 2)] h) fun y7 h =>
  endN (codeA Tryd.prog C (partOf Tryd.f28 [1, 0, 1, 0]) (mkF 13 (up (bs [x0, x1]) [(3, y3), (4, y4), (6, y6), (7, y7)])) h) (k28_1 C) (resultsA Tryd.prog Tryd.f28.results.toList) (b28_3 C)
noncomputable def t28k28_1 (_C : CallF) (x : Nat → Value) (h : Heap) : Out :=
  thenV (stN 1 (x 4) (.bool false) h) fun _ h =>
  resultsA Tryd.prog Tryd.f28.results.toList (mkF 13 (up x [])) h
noncomputable def t28l28_1010a (_C : CallF) (x : Nat → Value) (h : Heap) : Option (Ex × Env × Heap) :=
  thenV (newC [(.int .u8 0), (.int .u8 0), (.int .u8 0), (.int .u8 0), (.int .u8 0), (.int .u8 0), (.int .u8 0), (.int .u8 0), (.int .u8 0), (.int .u8 0), (.int .u8 0), (.int .u8 0), (.int .u8 0), (.int .u8 0), (.int .u8 0), (.int .u8 0), (.int .u8 0), (.int .u8 0), (.int .u8 0), (.int .u8 0), (.int .u8 0), (.int .u8 0), (.int .u8 0), (.int .u8 0), (.int .u8 0), (.int .u8 0), (.int .u8 0), (.int .u8 0), (.int .u8 0), (.int .u8 0), (.int .u8 0), (.int .u8 0), (.int .u8 0), (.int .i64 0), (.int .u64 0), (.int .u64 0), (.bool false), (.int .i64 0), (.int .i64 0)] h) fun y5 h =>
  thenV (stN 39 y5 (x 8) h) fun _ h =>
  some (.normal, (mkF 13 (up x [(5, y5)])), h)
noncomputable def t28l28_1010b (_C : CallF) (x : Nat → Value) (h : Heap) : Option (Ex × Env × Heap) :=
  thenV (pu (addP (x 5) 1) h) fun y9 h =>
  thenV (ldN 32 y9 h) fun y10 h =>
  thenV (ldN 32 (x 3) h) fun y11 h =>
  thenV (pu (bin Tryd.prog .eql 35 y10 y11) h) fun y12 h =>
  (match y12 with
  | .bool true =>
  thenV (stN 1 (x 4) (.bool true) h) fun _ h =>
  some (.ret, (mkF 13 (up x [(9, y9), (10, y10), (11, y11), (12, y12)])), h)
  | .bool false =>
  some (.normal, (mkF 13 (up x [(9, y9), (10, y10), (11, y11), (12, y12)])), h)
  | _ => none)
theorem t28_eq (C : CallF) (x0 x1 : Value) (h : Heap) : bodyK Tryd.prog C Tryd.f28 [x0, x1] h = t28 C x0 x1 h :=
  (bodyB_eq Tryd.prog C Tryd.f28 [x0, x1] h (by kernel_rfl)).trans (by kernel_rfl)
theorem t28k28_1_eq (C : CallF) (x : Nat → Value) (h : Heap) : k28_1 C (mkF 13 x) h = t28k28_1 C x h :=
  link_partF (b := (partOf Tryd.f28 [1, 1])) (kE := (resultsA Tryd.prog Tryd.f28.results.toList)) (rE := (resultsA Tryd.prog Tryd.f28.results.toList)) (xE := (fun _ _ _ => none)) (T := t28k28_1 C) (fun x h => by kernel_rfl) x h
theorem t28l28_1010a_eq (C : CallF) (x : Nat → Value) (h : Heap) : codeA Tryd.prog C (rgA (partOf Tryd.f28 [1, 0, 1, 0])) (mkF 13 x) h = t28l28_1010a C x h :=
  link_roundF (T := t28l28_1010a C) (fun x h => by kernel_rfl) x h
theorem t28l28_1010b_eq (C : CallF) (x : Nat → Value) (h : Heap) : codeA Tryd.prog C (rgB (partOf Tryd.f28 [1, 0, 1, 0])) (mkF 13 x) h = t28l28_1010b C x h :=
  link_roundF (T := t28l28_1010b C) (fun x h => by kernel_rfl) x h


noncomputable def k29_1 (C : CallF) (e : Env) (h : Heap) : Out := codeK Tryd.prog C (partOf Tryd.f29 [1, 1]) e h (resultsA Tryd.prog Tryd.f29.results.toList) (resultsA Tryd.prog Tryd.f29.results.toList) (fun _ _ _ => none)
noncomputable def b29_3 (C : CallF) (i : Nat) (e : Env) (h : Heap) : Out := if i = 0 then (k29_1 C) e h else (fun _ _ _ => none) i e h
/-- (*stolon/inventory.Inventory).Base -/
noncomputable def t29 (C : CallF) (x0 x1 : Value) (h : Heap) : Out :=
  thenV (box x1 h) fun y3 h =>
  thenV (newC [(.int .u64 0)] h) fun y4 h =>
  thenV (some (x0, h)) fun y6 h =>
  thenV (C 68 [y6, (.int .u8 1)] h) fun y7 h =>
  endN (codeA Tryd.prog C (partOf Tryd.f29 [1, 0, 1, 0]) (mkF 15 (up (bs [x0, x1]) [(3, y3), (4, y4), (6, y6), (7, y7)])) h) (k29_1 C) (resultsA Tryd.prog Tryd.f29.results.toList) (b29_3 C)
noncomputable def t29k29_1 (_C : CallF) (x : Nat → Value) (h : Heap) : Out :=
  thenV (stN 1 (x 4) (.int .u64 0) h) fun _ h =>
  resultsA Tryd.prog Tryd.f29.results.toList (mkF 15 (up x [])) h
noncomputable def t29l29_1010a (_C : CallF) (x : Nat → Value) (h : Heap) : Option (Ex × Env × Heap) :=
  thenV (newC [(.int .u8 0), (.int .u8 0), (.int .u8 0), (.int .u8 0), (.int .u8 0), (.int .u8 0), (.int .u8 0), (.int .u8 0), (.int .u8 0), (.int .u8 0), (.int .u8 0), (.int .u8 0), (.int .u8 0), (.int .u8 0), (.int .u8 0), (.int .u8 0), (.int .u8 0), (.int .u8 0), (.int .u8 0), (.int .u8 0), (.int .u8 0), (.int .u8 0), (.int .u8 0), (.int .u8 0), (.int .u8 0), (.int .u8 0), (.int .u8 0), (.int .u8 0), (.int .u8 0), (.int .u8 0), (.int .u8 0), (.int .u8 0), (.int .u8 0), (.int .i64 0), (.int .u64 0), (.int .u64 0), (.bool false), (.int .i64 0), (.int .i64 0)] h) fun y5 h =>
  thenV (stN 39 y5 (x 8) h) fun _ h =>
  some (.normal, (mkF 15 (up x [(5, y5)])), h)
noncomputable def t29l29_1010b (_C : CallF) (x : Nat → Value) (h : Heap) : Option (Ex × Env × Heap) :=
  thenV (pu (addP (x 5) 33) h) fun y9 h =>
  thenV (ld1 y9 h) fun y10 h =>
  thenV (ld1 (x 3) h) fun y11 h =>
  thenV (pu (bin Tryd.prog .eql 3 y10 y11) h) fun y12 h =>
  (match y12 with
  | .bool true =>
  thenV (pu (addP (x 5) 34) h) fun y13 h =>
  thenV (ld1 y13 h) fun y14 h =>
  thenV (stN 1 (x 4) y14 h) fun _ h =>
  some (.ret, (mkF 15 (up x [(9, y9), (10, y10), (11, y11), (12, y12), (13, y13), (14, y14)])), h)
  | .bool false =>
  some (.normal, (mkF 15 (up x [(9, y9), (10, y10), (11, y11), (12, y12)])), h)
  | _ => none)
theorem t29_eq (C : CallF) (x0 x1 : Value) (h : Heap) : bodyK Tryd.prog C Tryd.f29 [x0, x1] h = t29 C x0 x1 h :=
  (bodyB_eq Tryd.prog C Tryd.f29 [x0, x1] h (by kernel_rfl)).trans (by kernel_rfl)
theorem t29k29_1_eq (C : CallF) (x : Nat → Value) (h : Heap) : k29_1 C (mkF 15 x) h = t29k29_1 C x h :=
  link_partF (b := (partOf Tryd.f29 [1, 1])) (kE := (resultsA Tryd.prog Tryd.f29.results.toList)) (rE := (resultsA Tryd.prog Tryd.f29.results.toList)) (xE := (fun _ _ _ => none)) (T := t29k29_1 C) (fun x h => by kernel_rfl) x h
theorem t29l29_1010a_eq (C : CallF) (x : Nat → Value) (h : Heap) : codeA Tryd.prog C (rgA (partOf Tryd.f29 [1, 0, 1, 0])) (mkF 15 x) h = t29l29_1010a C x h :=
  link_roundF (T := t29l29_1010a C) (fun x h => by kernel_rfl) x h
theorem t29l29_1010b_eq (C : CallF) (x : Nat → Value) (h : Heap) : codeA Tryd.prog C (rgB (partOf Tryd.f29 [1, 0, 1, 0])) (mkF 15 x) h = t29l29_1010b C x h :=
  link_roundF (T := t29l29_1010b C) (fun x h => by kernel_rfl) x h


end Go.Proofs.YtdnahgfgoajmcaaDoor

namespace Go.Proofs.YtdnahgfgoajmcaaDoor
open Go Go.Abs
noncomputable def k5_9 (C : CallF) (e : Env) (h : Heap) : Out := codeK Tryd.prog C (partOf Tryd.f5 [1, 1, 1, 1, 1, 1]) e h (resultsA Tryd.prog Tryd.f5.results.toList) (resultsA Tryd.prog Tryd.f5.results.toList) (fun _ _ _ => none)
noncomputable def b5_11 (C : CallF) (i : Nat) (e : Env) (h : Heap) : Out := if i = 0 then (k5_9 C) e h else (fun _ _ _ => none) i e h
noncomputable def k5_13 (C : CallF) (e : Env) (h : Heap) : Out := codeK Tryd.prog C (partOf Tryd.f5 [1, 1, 1, 1, 1, 1, 1, 1]) e h (resultsA Tryd.prog Tryd.f5.results.toList) (resultsA Tryd.prog Tryd.f5.results.toList) (fun _ _ _ => none)
noncomputable def b5_15 (C : CallF) (i : Nat) (e : Env) (h : Heap) : Out := if i = 2 then (k5_13 C) e h else (fun _ _ _ => none) i e h
noncomputable def k5_21 (C : CallF) (e : Env) (h : Heap) : Out := codeK Tryd.prog C (partOf Tryd.f5 [1, 1, 1, 1, 1, 1, 1, 1, 1]) e h (resultsA Tryd.prog Tryd.f5.results.toList) (resultsA Tryd.prog Tryd.f5.results.toList) (fun _ _ _ => none)
noncomputable def b5_23 (C : CallF) (i : Nat) (e : Env) (h : Heap) : Out := if i = 6 then (k5_21 C) e h else (fun _ _ _ => none) i e h
noncomputable def k5_26 (C : CallF) (e : Env) (h : Heap) : Option (Ex × Env × Heap) := codeK Tryd.prog C (partOf Tryd.f5 [1, 1, 1, 1, 1, 1, 1, 0, 1, 0, 0, 1, 1]) e h (fun e h => some (Ex.normal, e, h)) (fun e h => some (Ex.ret, e, h)) (fun i e h => some (Ex.exit i, e, h))
noncomputable def b5_27 (C : CallF) (i : Nat) (e : Env) (h : Heap) : Option (Ex × Env × Heap) := if i = 3 then (k5_26 C) e h else (fun i e h => some (Ex.exit i, e, h)) i e h
noncomputable def k5_39 (C : CallF) (e : Env) (h : Heap) : Option (Ex × Env × Heap) := codeK Tryd.prog C (partOf Tryd.f5 [1, 1, 1, 1, 1, 1, 1, 0, 1, 0, 0, 1, 0, 0, 1, 1, 1, 1, 1]) e h (k5_26 C) (fun e h => some (Ex.ret, e, h)) (b5_27 C)
noncomputable def b5_41 (C : CallF) (i : Nat) (e : Env) (h : Heap) : Option (Ex × Env × Heap) := if i = 4 then (k5_39 C) e h else (b5_27 C) i e h
noncomputable def k5_46 (C : CallF) (e : Env) (h : Heap) : Option (Ex × Env × Heap) := codeK Tryd.prog C (partOf Tryd.f5 [1, 1, 1, 1, 1, 1, 1, 1, 0, 1, 0, 0, 1, 1]) e h (fun e h => some (Ex.normal, e, h)) (fun e h => some (Ex.ret, e, h)) (fun i e h => some (Ex.exit i, e, h))
noncomputable def b5_47 (C : CallF) (i : Nat) (e : Env) (h : Heap) : Option (Ex × Env × Heap) := if i = 7 then (k5_46 C) e h else (fun i e h => some (Ex.exit i, e, h)) i e h
noncomputable def k5_51 (C : CallF) (e : Env) (h : Heap) : Option (Ex × Env × Heap) := codeK Tryd.prog C (partOf Tryd.f5 [1, 1, 1, 1, 1, 1, 1, 1, 0, 1, 0, 0, 1, 0, 0, 1, 1, 1]) e h (k5_46 C) (fun e h => some (Ex.ret, e, h)) (b5_47 C)
noncomputable def b5_53 (C : CallF) (i : Nat) (e : Env) (h : Heap) : Option (Ex × Env × Heap) := if i = 8 then (k5_51 C) e h else (b5_47 C) i e h
/-- stolon/stolonlaw06.InventoryNormal -/
noncomputable def t5 (C : CallF) (x0 : Value) (h : Heap) : Out :=
  thenV (some ((.bool false), h)) fun y2 h =>
  thenV (some (x0, h)) fun y19 h =>
  thenV (C 24 [y19] h) fun y20 h =>
  thenV (pu (unA .not y20) h) fun y21 h =>
  (match y21 with
  | .bool true =>
  thenV (C 14 [] h) fun y22 h =>
  thenV (some (y22, h)) fun y2_1 h =>
  some (y2_1, h)
  | .bool false =>
  thenV (C 15 [(.slice none 0 0)] h) fun y24 h =>
  thenV (some (y24, h)) fun y23 h =>
  thenV (pu (extractA y23 0) h) fun y25 h =>
  thenV (pu (extractA y23 1) h) fun y26 h =>
  thenV (some (y25, h)) fun y3 h =>
  thenV (some (y26, h)) fun y4 h =>
  thenV (some (y4, h)) fun y27 h =>
  thenV (pu (bin Tryd.prog .neq 26 y27 (.int .i64 0)) h) fun y28 h =>
  (match y28 with
  | .bool true =>
  thenV (some ((.bool false), h)) fun y2_1 h =>
  some (y2_1, h)
  | .bool false =>
  thenV (bslR 39 (.agg #[(.int .u8 0), (.int .u8 0), (.int .u8 0), (.int .u8 0), (.int .u8 0), (.int .u8 0), (.int .u8 0), (.int .u8 0), (.int .u8 0), (.int .u8 0), (.int .u8 0), (.int .u8 0), (.int .u8 0), (.int .u8 0), (.int .u8 0), (.int .u8 0), (.int .u8 0), (.int .u8 0), (.int .u8 0), (.int .u8 0), (.int .u8 0), (.int .u8 0), (.int .u8 0), (.int .u8 0), (.int .u8 0), (.int .u8 0), (.int .u8 0), (.int .u8 0), (.int .u8 0), (.int .u8 0), (.int .u8 0), (.int .u8 0), (.int .u8 0), (.int .i64 0), (.int .u64 0), (.int .u64 0), (.bool false), (.int .i64 0), (.int .i64 0)]) 0 [] h) fun y29 h =>
  thenV (some (y29, h)) fun y5 h =>
  thenV (some ((.int .i64 0), h)) fun y6 h =>
  endL (iter (codeA Tryd.prog C (partOf Tryd.f5 [1, 1, 1, 1, 1, 0, 1, 0, 0])) rounds (mkF 194 (up (bs [x0]) [(2, y2), (3, y3), (4, y4), (5, y5), (6, y6), (19, y19), (20, y20), (21, y21), (23, y23), (24, y24), (25, y25), (26, y26), (27, y27), (28, y28), (29, y29)])) h) (resultsA Tryd.prog Tryd.f5.results.toList) (b5_11 C)
  | _ => none)
  | _ => none)
noncomputable def t5k5_9 (C : CallF) (x : Nat → Value) (h : Heap) : Out :=
  thenV (some ((x 3), h)) fun y49 h =>
  thenV (C 23 [y49] h) fun y50 h =>
  thenV (some (y50, h)) fun y7 h =>
  thenV (some ((.int .i64 0), h)) fun y8 h =>
  endL (iter (codeA Tryd.prog C (partOf Tryd.f5 [1, 1, 1, 1, 1, 1, 1, 0, 1, 0, 0])) rounds (mkF 194 (up x [(7, y7), (8, y8), (49, y49), (50, y50)])) h) (resultsA Tryd.prog Tryd.f5.results.toList) (b5_15 C)
noncomputable def t5l5_11111010 (C : CallF) (x : Nat → Value) (h : Heap) : Option (Ex × Env × Heap) :=
  thenV (some ((x 6), h)) fun y30 h =>
  thenV (some ((x 0), h)) fun y31 h =>
  thenV (pu (lenL y31) h) fun y32 h =>
  thenV (pu (bin Tryd.prog .lss 3 y30 y32) h) fun y33 h =>
  (match y33 with
  | .bool true =>
  thenV (some ((x 3), h)) fun y36 h =>
  thenV (some ((x 0), h)) fun y37 h =>
  thenV (some ((x 6), h)) fun y38 h =>
  thenV (pu (idxS 1 y37 y38) h) fun y39 h =>
  thenV (ld1 y39 h) fun y40 h =>
  thenV (C 26 [y40] h) fun y41 h =>
  thenV (C 25 [y36, y41] h) fun y42 h =>
  thenV (some ((x 5), h)) fun y43 h =>
  thenV (some ((x 0), h)) fun y44 h =>
  thenV (some ((x 6), h)) fun y45 h =>
  thenV (pu (idxS 1 y44 y45) h) fun y46 h =>
  thenV (ld1 y46 h) fun y47 h =>
  thenV (appendA 39 88 y43 y47 h) fun y48 h =>
  thenV (some (y48, h)) fun y5 h =>
  thenV (some ((x 6), h)) fun y34 h =>
  thenV (pu (bin Tryd.prog .add 3 y34 (.int .i64 1)) h) fun y35 h =>
  thenV (some (y35, h)) fun y6 h =>
  some (.normal, (mkF 194 (up x [(5, y5), (6, y6), (30, y30), (31, y31), (32, y32), (33, y33), (34, y34), (35, y35), (36, y36), (37, y37), (38, y38), (39, y39), (40, y40), (41, y41), (42, y42), (43, y43), (44, y44), (45, y45), (46, y46), (47, y47), (48, y48)])), h)
  | .bool false =>
  some (.exit 0, (mkF 194 (up x [(30, y30), (31, y31), (32, y32), (33, y33)])), h)
  | _ => none)
noncomputable def t5k5_13 (C : CallF) (x : Nat → Value) (h : Heap) : Out :=
  thenV (some ((.int .i64 0), h)) fun y15 h =>
  endL (iter (codeA Tryd.prog C (partOf Tryd.f5 [1, 1, 1, 1, 1, 1, 1, 1, 0, 1, 0, 0])) rounds (mkF 194 (up x [(15, y15)])) h) (resultsA Tryd.prog Tryd.f5.results.toList) (b5_23 C)
noncomputable def t5l5_1111111010 (C : CallF) (x : Nat → Value) (h : Heap) : Option (Ex × Env × Heap) :=
  thenV (some ((x 8), h)) fun y51 h =>
  thenV (some ((x 7), h)) fun y52 h =>
  thenV (pu (lenL y52) h) fun y53 h =>
  thenV (pu (bin Tryd.prog .lss 3 y51 y53) h) fun y54 h =>
  (match y54 with
  | .bool true =>
  thenV (some ((x 7), h)) fun y58 h =>
  thenV (some ((x 8), h)) fun y59 h =>
  thenV (pu (idxS 39 y58 y59) h) fun y60 h =>
  thenV (ldN 39 y60 h) fun y61 h =>
  thenV (C 27 [y61] h) fun y62 h =>
  thenV (some (y62, h)) fun y57 h =>
  thenV (pu (extractA y57 0) h) fun y63 h =>
  thenV (pu (extractA y57 1) h) fun y64 h =>
  thenV (some (y63, h)) fun y9 h =>
  thenV (some (y64, h)) fun y10 h =>
  thenV (some ((x 8), h)) fun y65 h =>
  thenV (pu (bin Tryd.prog .gtr 3 y65 (.int .i64 0)) h) fun y66 h =>
  (match y66 with
  | .bool true =>
  thenV (some ((x 7), h)) fun y68 h =>
  thenV (some ((x 8), h)) fun y69 h =>
  thenV (pu (bin Tryd.prog .sub 3 y69 (.int .i64 1)) h) fun y70 h =>
  thenV (pu (idxS 39 y68 y70) h) fun y71 h =>
  thenV (ldN 39 y71 h) fun y72 h =>
  thenV (C 27 [y72] h) fun y73 h =>
  thenV (some (y73, h)) fun y67 h =>
  thenV (pu (extractA y67 0) h) fun y74 h =>
  thenV (pu (extractA y67 1) h) fun y75 h =>
  thenV (some (y74, h)) fun y11 h =>
  thenV (some (y75, h)) fun y12 h =>
  thenV (some (y11, h)) fun y76 h =>
  thenV (cvBS y76 h) fun y77 h =>
  thenV (some (y9, h)) fun y78 h =>
  thenV (cvBS y78 h) fun y79 h =>
  thenV (pu (bin Tryd.prog .geq 9 y77 y79) h) fun y80 h =>
  (match y80 with
  | .bool true =>
  thenV (some ((.bool false), h)) fun y2 h =>
  some (.ret, (mkF 194 (up x [(2, y2), (9, y9), (10, y10), (11, y11), (12, y12), (51, y51), (52, y52), (53, y53), (54, y54), (57, y57), (58, y58), (59, y59), (60, y60), (61, y61), (62, y62), (63, y63), (64, y64), (65, y65), (66, y66), (67, y67), (68, y68), (69, y69), (70, y70), (71, y71), (72, y72), (73, y73), (74, y74), (75, y75), (76, y76), (77, y77), (78, y78), (79, y79), (80, y80)])), h)
  | .bool false =>
  let g36_0 := h
  thenV (some ((x 7), g36_0)) fun y81 g36_1 =>
  thenV (some ((x 8), g36_1)) fun y82 g36_2 =>
  thenV (pu (idxS 39 y81 y82) g36_2) fun y83 g36_3 =>
  thenV (pu (addP y83 0) g36_3) fun y84 g36_4 =>
  thenV (ld1 y84 g36_4) fun y85 g36_5 =>
  thenV (pu (bin Tryd.prog .eql 56 y85 (.int .u8 3)) g36_5) fun y86 g36_6 =>
  thenV (some (y86, g36_6)) fun y87 g36_7 =>
  thenV (guardK (bOf y87 == some true) (some ((x 3), g36_7)) g36_7) fun y88 g36_8 =>
  thenV (guardK (bOf y87 == some true) (some ((x 7), g36_8)) g36_8) fun y89 g36_9 =>
  thenV (guardK (bOf y87 == some true) (some ((x 8), g36_9)) g36_9) fun y90 g36_10 =>
  thenV (guardK (bOf y87 == some true) (pu (idxS 39 y89 y90) g36_10) g36_10) fun y91 g36_11 =>
  thenV (guardK (bOf y87 == some true) (pu (addP y91 1) g36_11) g36_11) fun y92 g36_12 =>
  thenV (guardK (bOf y87 == some true) (ldN 32 y92 g36_12) g36_12) fun y93 g36_13 =>
  thenV (guardK (bOf y87 == some true) (C 28 [y88, y93] g36_13) g36_13) fun y94 g36_14 =>
  thenV (guardK (bOf y87 == some true) (some (y94, g36_14)) g36_14) fun y95 g36_15 =>
  thenV (guardK (bOf y95 == some false) (some ((x 7), g36_15)) g36_15) fun y96 g36_16 =>
  thenV (guardK (bOf y95 == some false) (some ((x 8), g36_16)) g36_16) fun y97 g36_17 =>
  thenV (guardK (bOf y95 == some false) (pu (idxS 39 y96 y97) g36_17) g36_17) fun y98 g36_18 =>
  thenV (guardK (bOf y95 == some false) (pu (addP y98 34) g36_18) g36_18) fun y99 g36_19 =>
  thenV (guardK (bOf y95 == some false) (ld1 y99 g36_19) g36_19) fun y100 g36_20 =>
  thenV (guardK (bOf y95 == some false) (some ((x 3), g36_20)) g36_20) fun y101 g36_21 =>
  thenV (guardK (bOf y95 == some false) (some ((x 7), g36_21)) g36_21) fun y102 g36_22 =>
  thenV (guardK (bOf y95 == some false) (some ((x 8), g36_22)) g36_22) fun y103 g36_23 =>
  thenV (guardK (bOf y95 == some false) (pu (idxS 39 y102 y103) g36_23) g36_23) fun y104 g36_24 =>
  thenV (guardK (bOf y95 == some false) (pu (addP y104 33) g36_24) g36_24) fun y105 g36_25 =>
  thenV (guardK (bOf y95 == some false) (ld1 y105 g36_25) g36_25) fun y106 g36_26 =>
  thenV (guardK (bOf y95 == some false) (C 29 [y101, y106] g36_26) g36_26) fun y107 g36_27 =>
  thenV (guardK (bOf y95 == some false) (pu (bin Tryd.prog .lss 32 y100 y107) g36_27) g36_27) fun y108 g36_28 =>
  thenV (guardK (bOf y87 == some true) (match y95 with | .bool t => some (if t then (.bool true) else y108, g36_28) | _ => none) g36_28) fun y109 g36_29 =>
  thenV (match y87 with | .bool t => some (if t then y109 else (.bool false), g36_29) | _ => none) fun y110 g36_30 =>
  (match (chkR (bOf y95 == some false) (ld1 y99 g36_27) y100 && true) with
  | true =>
  let h := g36_30
  (match y110 with
  | .bool true =>
  thenV (some ((.bool false), h)) fun y2 h =>
  some (.ret, (mkF 194 (up x [(2, y2), (9, y9), (10, y10), (11, y11), (12, y12), (51, y51), (52, y52), (53, y53), (54, y54), (57, y57), (58, y58), (59, y59), (60, y60), (61, y61), (62, y62), (63, y63), (64, y64), (65, y65), (66, y66), (67, y67), (68, y68), (69, y69), (70, y70), (71, y71), (72, y72), (73, y73), (74, y74), (75, y75), (76, y76), (77, y77), (78, y78), (79, y79), (80, y80), (81, y81), (82, y82), (83, y83), (84, y84), (85, y85), (86, y86), (87, y87), (88, y88), (89, y89), (90, y90), (91, y91), (92, y92), (93, y93), (94, y94), (95, y95), (96, y96), (97, y97), (98, y98), (99, y99), (100, y100), (101, y101), (102, y102), (103, y103), (104, y104), (105, y105), (106, y106), (107, y107), (108, y108), (109, y109), (110, y110)])), h)
  | .bool false =>
  thenV (some ((.bool false), h)) fun y13 h =>
  thenV (some ((.int .i64 0), h)) fun y14 h =>
  endL (iter (codeA Tryd.prog C (partOf Tryd.f5 [1, 1, 1, 1, 1, 1, 1, 0, 1, 0, 0, 1, 0, 0, 1, 1, 1, 1, 0, 1, 0, 0])) rounds (mkF 194 (up x [(9, y9), (10, y10), (11, y11), (12, y12), (13, y13), (14, y14), (51, y51), (52, y52), (53, y53), (54, y54), (57, y57), (58, y58), (59, y59), (60, y60), (61, y61), (62, y62), (63, y63), (64, y64), (65, y65), (66, y66), (67, y67), (68, y68), (69, y69), (70, y70), (71, y71), (72, y72), (73, y73), (74, y74), (75, y75), (76, y76), (77, y77), (78, y78), (79, y79), (80, y80), (81, y81), (82, y82), (83, y83), (84, y84), (85, y85), (86, y86), (87, y87), (88, y88), (89, y89), (90, y90), (91, y91), (92, y92), (93, y93), (94, y94), (95, y95), (96, y96), (97, y97), (98, y98), (99, y99), (100, y100), (101, y101), (102, y102), (103, y103), (104, y104), (105, y105), (106, y106), (107, y107), (108, y108), (109, y109), (110, y110)])) h) (fun e h => some (Ex.ret, e, h)) (b5_41 C)
  | _ => none)
  | false => none)
  | _ => none)
  | .bool false =>
  let g42_0 := h
  thenV (some ((x 7), g42_0)) fun y81 g42_1 =>
  thenV (some ((x 8), g42_1)) fun y82 g42_2 =>
  thenV (pu (idxS 39 y81 y82) g42_2) fun y83 g42_3 =>
  thenV (pu (addP y83 0) g42_3) fun y84 g42_4 =>
  thenV (ld1 y84 g42_4) fun y85 g42_5 =>
  thenV (pu (bin Tryd.prog .eql 56 y85 (.int .u8 3)) g42_5) fun y86 g42_6 =>
  thenV (some (y86, g42_6)) fun y87 g42_7 =>
  thenV (guardK (bOf y87 == some true) (some ((x 3), g42_7)) g42_7) fun y88 g42_8 =>
  thenV (guardK (bOf y87 == some true) (some ((x 7), g42_8)) g42_8) fun y89 g42_9 =>
  thenV (guardK (bOf y87 == some true) (some ((x 8), g42_9)) g42_9) fun y90 g42_10 =>
  thenV (guardK (bOf y87 == some true) (pu (idxS 39 y89 y90) g42_10) g42_10) fun y91 g42_11 =>
  thenV (guardK (bOf y87 == some true) (pu (addP y91 1) g42_11) g42_11) fun y92 g42_12 =>
  thenV (guardK (bOf y87 == some true) (ldN 32 y92 g42_12) g42_12) fun y93 g42_13 =>
  thenV (guardK (bOf y87 == some true) (C 28 [y88, y93] g42_13) g42_13) fun y94 g42_14 =>
  thenV (guardK (bOf y87 == some true) (some (y94, g42_14)) g42_14) fun y95 g42_15 =>
  thenV (guardK (bOf y95 == some false) (some ((x 7), g42_15)) g42_15) fun y96 g42_16 =>
  thenV (guardK (bOf y95 == some false) (some ((x 8), g42_16)) g42_16) fun y97 g42_17 =>
  thenV (guardK (bOf y95 == some false) (pu (idxS 39 y96 y97) g42_17) g42_17) fun y98 g42_18 =>
  thenV (guardK (bOf y95 == some false) (pu (addP y98 34) g42_18) g42_18) fun y99 g42_19 =>
  thenV (guardK (bOf y95 == some false) (ld1 y99 g42_19) g42_19) fun y100 g42_20 =>
  thenV (guardK (bOf y95 == some false) (some ((x 3), g42_20)) g42_20) fun y101 g42_21 =>
  thenV (guardK (bOf y95 == some false) (some ((x 7), g42_21)) g42_21) fun y102 g42_22 =>
  thenV (guardK (bOf y95 == some false) (some ((x 8), g42_22)) g42_22) fun y103 g42_23 =>
  thenV (guardK (bOf y95 == some false) (pu (idxS 39 y102 y103) g42_23) g42_23) fun y104 g42_24 =>
  thenV (guardK (bOf y95 == some false) (pu (addP y104 33) g42_24) g42_24) fun y105 g42_25 =>
  thenV (guardK (bOf y95 == some false) (ld1 y105 g42_25) g42_25) fun y106 g42_26 =>
  thenV (guardK (bOf y95 == some false) (C 29 [y101, y106] g42_26) g42_26) fun y107 g42_27 =>
  thenV (guardK (bOf y95 == some false) (pu (bin Tryd.prog .lss 32 y100 y107) g42_27) g42_27) fun y108 g42_28 =>
  thenV (guardK (bOf y87 == some true) (match y95 with | .bool t => some (if t then (.bool true) else y108, g42_28) | _ => none) g42_28) fun y109 g42_29 =>
  thenV (match y87 with | .bool t => some (if t then y109 else (.bool false), g42_29) | _ => none) fun y110 g42_30 =>
  (match (chkR (bOf y95 == some false) (ld1 y99 g42_27) y100 && true) with
  | true =>
  let h := g42_30
  (match y110 with
  | .bool true =>
  thenV (some ((.bool false), h)) fun y2 h =>
  some (.ret, (mkF 194 (up x [(2, y2), (9, y9), (10, y10), (51, y51), (52, y52), (53, y53), (54, y54), (57, y57), (58, y58), (59, y59), (60, y60), (61, y61), (62, y62), (63, y63), (64, y64), (65, y65), (66, y66), (81, y81), (82, y82), (83, y83), (84, y84), (85, y85), (86, y86), (87, y87), (88, y88), (89, y89), (90, y90), (91, y91), (92, y92), (93, y93), (94, y94), (95, y95), (96, y96), (97, y97), (98, y98), (99, y99), (100, y100), (101, y101), (102, y102), (103, y103), (104, y104), (105, y105), (106, y106), (107, y107), (108, y108), (109, y109), (110, y110)])), h)
  | .bool false =>
  thenV (some ((.bool false), h)) fun y13 h =>
  thenV (some ((.int .i64 0), h)) fun y14 h =>
  endL (iter (codeA Tryd.prog C (partOf Tryd.f5 [1, 1, 1, 1, 1, 1, 1, 0, 1, 0, 0, 1, 0, 0, 1, 1, 1, 1, 0, 1, 0, 0])) rounds (mkF 194 (up x [(9, y9), (10, y10), (13, y13), (14, y14), (51, y51), (52, y52), (53, y53), (54, y54), (57, y57), (58, y58), (59, y59), (60, y60), (61, y61), (62, y62), (63, y63), (64, y64), (65, y65), (66, y66), (81, y81), (82, y82), (83, y83), (84, y84), (85, y85), (86, y86), (87, y87), (88, y88), (89, y89), (90, y90), (91, y91), (92, y92), (93, y93), (94, y94), (95, y95), (96, y96), (97, y97), (98, y98), (99, y99), (100, y100), (101, y101), (102, y102), (103, y103), (104, y104), (105, y105), (106, y106), (107, y107), (108, y108), (109, y109), (110, y110)])) h) (fun e h => some (Ex.ret, e, h)) (b5_41 C)
  | _ => none)
  | false => none)
  | _ => none)
  | .bool false =>
  some (.exit 2, (mkF 194 (up x [(51, y51), (52, y52), (53, y53), (54, y54)])), h)
  | _ => none)
noncomputable def t5k5_21 (C : CallF) (_x : Nat → Value) (h : Heap) : Out :=
  thenV (C 14 [] h) fun y193 h =>
  thenV (some (y193, h)) fun y2 h =>
  some (y2, h)
noncomputable def t5l5_11111111010 (C : CallF) (x : Nat → Value) (h : Heap) : Option (Ex × Env × Heap) :=
  thenV (some ((x 15), h)) fun y140 h =>
  thenV (some ((x 5), h)) fun y141 h =>
  thenV (pu (lenL y141) h) fun y142 h =>
  thenV (pu (bin Tryd.prog .lss 3 y140 y142) h) fun y143 h =>
  (match y143 with
  | .bool true =>
  thenV (some ((x 5), h)) fun y146 h =>
  thenV (some ((x 15), h)) fun y147 h =>
  thenV (pu (idxS 39 y146 y147) h) fun y148 h =>
  thenV (ldN 39 y148 h) fun y149 h =>
  thenV (newC [(.int .u8 0), (.int .u8 0), (.int .u8 0), (.int .u8 0), (.int .u8 0), (.int .u8 0), (.int .u8 0), (.int .u8 0), (.int .u8 0), (.int .u8 0), (.int .u8 0), (.int .u8 0), (.int .u8 0), (.int .u8 0), (.int .u8 0), (.int .u8 0), (.int .u8 0), (.int .u8 0), (.int .u8 0), (.int .u8 0), (.int .u8 0), (.int .u8 0), (.int .u8 0), (.int .u8 0), (.int .u8 0), (.int .u8 0), (.int .u8 0), (.int .u8 0), (.int .u8 0), (.int .u8 0), (.int .u8 0), (.int .u8 0), (.int .u8 0), (.int .i64 0), (.int .u64 0), (.int .u64 0), (.bool false), (.int .i64 0), (.int .i64 0)] h) fun y16 h =>
  thenV (stN 39 y16 y149 h) fun _ h =>
  let g50_0 := h
  thenV (pu (addP y16 0) g50_0) fun y150 g50_1 =>
  thenV (ld1 y150 g50_1) fun y151 g50_2 =>
  thenV (pu (bin Tryd.prog .eql 56 y151 (.int .u8 3)) g50_2) fun y152 g50_3 =>
  thenV (some (y152, g50_3)) fun y153 g50_4 =>
  thenV (guardK (bOf y153 == some true) (some ((x 3), g50_4)) g50_4) fun y154 g50_5 =>
  thenV (guardK (bOf y153 == some true) (pu (addP y16 1) g50_5) g50_5) fun y155 g50_6 =>
  thenV (guardK (bOf y153 == some true) (ldN 32 y155 g50_6) g50_6) fun y156 g50_7 =>
  thenV (guardK (bOf y153 == some true) (C 28 [y154, y156] g50_7) g50_7) fun y157 g50_8 =>
  thenV (guardK (bOf y153 == some true) (some (y157, g50_8)) g50_8) fun y158 g50_9 =>
  thenV (guardK (bOf y158 == some false) (pu (addP y16 34) g50_9) g50_9) fun y159 g50_10 =>
  thenV (guardK (bOf y158 == some false) (ld1 y159 g50_10) g50_10) fun y160 g50_11 =>
  thenV (guardK (bOf y158 == some false) (some ((x 3), g50_11)) g50_11) fun y161 g50_12 =>
  thenV (guardK (bOf y158 == some false) (pu (addP y16 33) g50_12) g50_12) fun y162 g50_13 =>
  thenV (guardK (bOf y158 == some false) (ld1 y162 g50_13) g50_13) fun y163 g50_14 =>
  thenV (guardK (bOf y158 == some false) (C 29 [y161, y163] g50_14) g50_14) fun y164 g50_15 =>
  thenV (guardK (bOf y158 == some false) (pu (bin Tryd.prog .lss 32 y160 y164) g50_15) g50_15) fun y165 g50_16 =>
  thenV (guardK (bOf y153 == some true) (match y158 with | .bool t => some (if t then (.bool true) else y165, g50_16) | _ => none) g50_16) fun y166 g50_17 =>
  thenV (match y153 with | .bool t => some (if t then y166 else (.bool false), g50_17) | _ => none) fun y167 g50_18 =>
  thenV (some (y167, g50_18)) fun y17 g50_19 =>
  (match (chkR (bOf y158 == some false) (ld1 y159 g50_15) y160 && true) with
  | true =>
  let h := g50_19
  thenV (some ((.int .i64 0), h)) fun y18 h =>
  endL (iter (codeA Tryd.prog C (partOf Tryd.f5 [1, 1, 1, 1, 1, 1, 1, 1, 0, 1, 0, 0, 1, 0, 0, 1, 1, 0, 1, 0, 0])) rounds (mkF 194 (up x [(16, y16), (17, y17), (18, y18), (140, y140), (141, y141), (142, y142), (143, y143), (146, y146), (147, y147), (148, y148), (149, y149), (150, y150), (151, y151), (152, y152), (153, y153), (154, y154), (155, y155), (156, y156), (157, y157), (158, y158), (159, y159), (160, y160), (161, y161), (162, y162), (163, y163), (164, y164), (165, y165), (166, y166), (167, y167)])) h) (fun e h => some (Ex.ret, e, h)) (b5_53 C)
  | false => none)
  | .bool false =>
  some (.exit 6, (mkF 194 (up x [(140, y140), (141, y141), (142, y142), (143, y143)])), h)
  | _ => none)
noncomputable def t5k5_26 (_C : CallF) (x : Nat → Value) (h : Heap) : Option (Ex × Env × Heap) :=
  thenV (some ((x 8), h)) fun y55 h =>
  thenV (pu (bin Tryd.prog .add 3 y55 (.int .i64 1)) h) fun y56 h =>
  thenV (some (y56, h)) fun y8 h =>
  some (.normal, (mkF 194 (up x [(8, y8), (55, y55), (56, y56)])), h)
noncomputable def t5k5_39 (C : CallF) (x : Nat → Value) (h : Heap) : Option (Ex × Env × Heap) :=
  thenV (some ((x 13), h)) fun y138 h =>
  thenV (pu (unA .not y138) h) fun y139 h =>
  (match y139 with
  | .bool true =>
  thenV (some ((.bool false), h)) fun y2 h =>
  some (.ret, (mkF 194 (up x [(2, y2), (138, y138), (139, y139)])), h)
  | .bool false =>
  k5_26 C (mkF 194 (up x [(138, y138), (139, y139)])) h
  | _ => none)
noncomputable def t5l5_111111101001001111010 (C : CallF) (x : Nat → Value) (h : Heap) : Option (Ex × Env × Heap) :=
  thenV (some ((x 14), h)) fun y111 h =>
  thenV (some ((x 5), h)) fun y112 h =>
  thenV (pu (lenL y112) h) fun y113 h =>
  thenV (pu (bin Tryd.prog .lss 3 y111 y113) h) fun y114 h =>
  (match y114 with
  | .bool true =>
  thenV (some ((x 13), h)) fun y117 h =>
  thenV (some (y117, h)) fun y118 h =>
  thenV (guardK (bOf y118 == some false) (some ((x 5), h)) h) fun y119 h =>
  thenV (guardK (bOf y118 == some false) (some ((x 14), h)) h) fun y120 h =>
  thenV (guardK (bOf y118 == some false) (pu (idxS 39 y119 y120) h) h) fun y121 h =>
  thenV (guardK (bOf y118 == some false) (ldN 39 y121 h) h) fun y122 h =>
  thenV (guardK (bOf y118 == some false) (some ((x 7), h)) h) fun y123 h =>
  thenV (guardK (bOf y118 == some false) (some ((x 8), h)) h) fun y124 h =>
  thenV (guardK (bOf y118 == some false) (pu (idxS 39 y123 y124) h) h) fun y125 h =>
  thenV (guardK (bOf y118 == some false) (ldN 39 y125 h) h) fun y126 h =>
  thenV (guardK (bOf y118 == some false) (pu (bin Tryd.prog .eql 58 y122 y126) h) h) fun y127 h =>
  thenV (match y118 with | .bool t => some (if t then (.bool true) else y127, h) | _ => none) fun y128 h =>
  thenV (some (y128, h)) fun y13 h =>
  thenV (some ((x 5), h)) fun y129 h =>
  thenV (some ((x 14), h)) fun y130 h =>
  thenV (pu (idxS 39 y129 y130) h) fun y131 h =>
  thenV (ldN 39 y131 h) fun y132 h =>
  thenV (some ((x 7), h)) fun y133 h =>
  thenV (some ((x 8), h)) fun y134 h =>
  thenV (pu (idxS 39 y133 y134) h) fun y135 h =>
  thenV (ldN 39 y135 h) fun y136 h =>
  thenV (C 30 [y132, y136] h) fun y137 h =>
  (match y137 with
  | .bool true =>
  thenV (some ((.bool false), h)) fun y2 h =>
  some (.ret, (mkF 194 (up x [(2, y2), (13, y13), (111, y111), (112, y112), (113, y113), (114, y114), (117, y117), (118, y118), (119, y119), (120, y120), (121, y121), (122, y122), (123, y123), (124, y124), (125, y125), (126, y126), (127, y127), (128, y128), (129, y129), (130, y130), (131, y131), (132, y132), (133, y133), (134, y134), (135, y135), (136, y136), (137, y137)])), h)
  | .bool false =>
  thenV (some ((x 14), h)) fun y115 h =>
  thenV (pu (bin Tryd.prog .add 3 y115 (.int .i64 1)) h) fun y116 h =>
  thenV (some (y116, h)) fun y14 h =>
  some (.normal, (mkF 194 (up x [(13, y13), (14, y14), (111, y111), (112, y112), (113, y113), (114, y114), (115, y115), (116, y116), (117, y117), (118, y118), (119, y119), (120, y120), (121, y121), (122, y122), (123, y123), (124, y124), (125, y125), (126, y126), (127, y127), (128, y128), (129, y129), (130, y130), (131, y131), (132, y132), (133, y133), (134, y134), (135, y135), (136, y136), (137, y137)])), h)
  | _ => none)
  | .bool false =>
  some (.exit 4, (mkF 194 (up x [(111, y111), (112, y112), (113, y113), (114, y114)])), h)
  | _ => none)
noncomputable def t5k5_46 (_C : CallF) (x : Nat → Value) (h : Heap) : Option (Ex × Env × Heap) :=
  thenV (some ((x 15), h)) fun y144 h =>
  thenV (pu (bin Tryd.prog .add 3 y144 (.int .i64 1)) h) fun y145 h =>
  thenV (some (y145, h)) fun y15 h =>
  some (.normal, (mkF 194 (up x [(15, y15), (144, y144), (145, y145)])), h)
noncomputable def t5k5_51 (C : CallF) (x : Nat → Value) (h : Heap) : Option (Ex × Env × Heap) :=
  thenV (some ((x 17), h)) fun y191 h =>
  thenV (pu (unA .not y191) h) fun y192 h =>
  (match y192 with
  | .bool true =>
  thenV (some ((.bool false), h)) fun y2 h =>
  some (.ret, (mkF 194 (up x [(2, y2), (191, y191), (192, y192)])), h)
  | .bool false =>
  k5_46 C (mkF 194 (up x [(191, y191), (192, y192)])) h
  | _ => none)
noncomputable def t5l5_11111111010010011010 (C : CallF) (x : Nat → Value) (h : Heap) : Option (Ex × Env × Heap) :=
  thenV (some ((x 18), h)) fun y168 h =>
  thenV (some ((x 7), h)) fun y169 h =>
  thenV (pu (lenL y169) h) fun y170 h =>
  thenV (pu (bin Tryd.prog .lss 3 y168 y170) h) fun y171 h =>
  (match y171 with
  | .bool true =>
  thenV (some ((x 17), h)) fun y174 h =>
  thenV (some (y174, h)) fun y175 h =>
  thenV (guardK (bOf y175 == some false) (some ((x 7), h)) h) fun y176 h =>
  thenV (guardK (bOf y175 == some false) (some ((x 18), h)) h) fun y177 h =>
  thenV (guardK (bOf y175 == some false) (pu (idxS 39 y176 y177) h) h) fun y178 h =>
  thenV (guardK (bOf y175 == some false) (ldN 39 y178 h) h) fun y179 h =>
  thenV (guardK (bOf y175 == some false) (ldN 39 (x 16) h) h) fun y180 h =>
  thenV (guardK (bOf y175 == some false) (pu (bin Tryd.prog .eql 58 y179 y180) h) h) fun y181 h =>
  thenV (match y175 with | .bool t => some (if t then (.bool true) else y181, h) | _ => none) fun y182 h =>
  thenV (some (y182, h)) fun y183 h =>
  thenV (guardK (bOf y183 == some false) (some ((x 7), h)) h) fun y184 h =>
  thenV (guardK (bOf y183 == some false) (some ((x 18), h)) h) fun y185 h =>
  thenV (guardK (bOf y183 == some false) (pu (idxS 39 y184 y185) h) h) fun y186 h =>
  thenV (guardK (bOf y183 == some false) (ldN 39 y186 h) h) fun y187 h =>
  thenV (guardK (bOf y183 == some false) (ldN 39 (x 16) h) h) fun y188 h =>
  thenV (guardK (bOf y183 == some false) (C 30 [y187, y188] h) h) fun y189 h =>
  thenV (match y183 with | .bool t => some (if t then (.bool true) else y189, h) | _ => none) fun y190 h =>
  thenV (some (y190, h)) fun y17 h =>
  thenV (some ((x 18), h)) fun y172 h =>
  thenV (pu (bin Tryd.prog .add 3 y172 (.int .i64 1)) h) fun y173 h =>
  thenV (some (y173, h)) fun y18 h =>
  some (.normal, (mkF 194 (up x [(17, y17), (18, y18), (168, y168), (169, y169), (170, y170), (171, y171), (172, y172), (173, y173), (174, y174), (175, y175), (176, y176), (177, y177), (178, y178), (179, y179), (180, y180), (181, y181), (182, y182), (183, y183), (184, y184), (185, y185), (186, y186), (187, y187), (188, y188), (189, y189), (190, y190)])), h)
  | .bool false =>
  some (.exit 8, (mkF 194 (up x [(168, y168), (169, y169), (170, y170), (171, y171)])), h)
  | _ => none)
theorem t5_eq (C : CallF) (x0 : Value) (h : Heap) : bodyK Tryd.prog C Tryd.f5 [x0] h = t5 C x0 h :=
  (bodyB_eq Tryd.prog C Tryd.f5 [x0] h (by kernel_rfl)).trans (by kernel_rfl)
theorem t5k5_9_eq (C : CallF) (x : Nat → Value) (h : Heap) : k5_9 C (mkF 194 x) h = t5k5_9 C x h :=
  link_partF (b := (partOf Tryd.f5 [1, 1, 1, 1, 1, 1])) (kE := (resultsA Tryd.prog Tryd.f5.results.toList)) (rE := (resultsA Tryd.prog Tryd.f5.results.toList)) (xE := (fun _ _ _ => none)) (T := t5k5_9 C) (fun x h => by kernel_rfl) x h
theorem t5l5_11111010_eq (C : CallF) (x : Nat → Value) (h : Heap) : codeA Tryd.prog C (partOf Tryd.f5 [1, 1, 1, 1, 1, 0, 1, 0, 0]) (mkF 194 x) h = t5l5_11111010 C x h :=
  link_roundF (T := t5l5_11111010 C) (fun x h => by kernel_rfl) x h
theorem t5k5_13_eq (C : CallF) (x : Nat → Value) (h : Heap) : k5_13 C (mkF 194 x) h = t5k5_13 C x h :=
  link_partF (b := (partOf Tryd.f5 [1, 1, 1, 1, 1, 1, 1, 1])) (kE := (resultsA Tryd.prog Tryd.f5.results.toList)) (rE := (resultsA Tryd.prog Tryd.f5.results.toList)) (xE := (fun _ _ _ => none)) (T := t5k5_13 C) (fun x h => by kernel_rfl) x h
theorem t5l5_1111111010_eq (C : CallF) (x : Nat → Value) (h : Heap) : codeA Tryd.prog C (partOf Tryd.f5 [1, 1, 1, 1, 1, 1, 1, 0, 1, 0, 0]) (mkF 194 x) h = t5l5_1111111010 C x h :=
  link_roundF (T := t5l5_1111111010 C) (fun x h => by kernel_rfl) x h
theorem t5k5_21_eq (C : CallF) (x : Nat → Value) (h : Heap) : k5_21 C (mkF 194 x) h = t5k5_21 C x h :=
  link_partF (b := (partOf Tryd.f5 [1, 1, 1, 1, 1, 1, 1, 1, 1])) (kE := (resultsA Tryd.prog Tryd.f5.results.toList)) (rE := (resultsA Tryd.prog Tryd.f5.results.toList)) (xE := (fun _ _ _ => none)) (T := t5k5_21 C) (fun x h => by kernel_rfl) x h
theorem t5l5_11111111010_eq (C : CallF) (x : Nat → Value) (h : Heap) : codeA Tryd.prog C (partOf Tryd.f5 [1, 1, 1, 1, 1, 1, 1, 1, 0, 1, 0, 0]) (mkF 194 x) h = t5l5_11111111010 C x h :=
  link_roundF (T := t5l5_11111111010 C) (fun x h => by kernel_rfl) x h
theorem t5k5_26_eq (C : CallF) (x : Nat → Value) (h : Heap) : k5_26 C (mkF 194 x) h = t5k5_26 C x h :=
  link_partF (b := (partOf Tryd.f5 [1, 1, 1, 1, 1, 1, 1, 0, 1, 0, 0, 1, 1])) (kE := (fun e h => some (Ex.normal, e, h))) (rE := (fun e h => some (Ex.ret, e, h))) (xE := (fun i e h => some (Ex.exit i, e, h))) (T := t5k5_26 C) (fun x h => by kernel_rfl) x h
theorem t5k5_39_eq (C : CallF) (x : Nat → Value) (h : Heap) : k5_39 C (mkF 194 x) h = t5k5_39 C x h :=
  link_partF (b := (partOf Tryd.f5 [1, 1, 1, 1, 1, 1, 1, 0, 1, 0, 0, 1, 0, 0, 1, 1, 1, 1, 1])) (kE := (k5_26 C)) (rE := (fun e h => some (Ex.ret, e, h))) (xE := (b5_27 C)) (T := t5k5_39 C) (fun x h => by kernel_rfl) x h
theorem t5l5_111111101001001111010_eq (C : CallF) (x : Nat → Value) (h : Heap) : codeA Tryd.prog C (partOf Tryd.f5 [1, 1, 1, 1, 1, 1, 1, 0, 1, 0, 0, 1, 0, 0, 1, 1, 1, 1, 0, 1, 0, 0]) (mkF 194 x) h = t5l5_111111101001001111010 C x h :=
  link_roundF (T := t5l5_111111101001001111010 C) (fun x h => by kernel_rfl) x h
theorem t5k5_46_eq (C : CallF) (x : Nat → Value) (h : Heap) : k5_46 C (mkF 194 x) h = t5k5_46 C x h :=
  link_partF (b := (partOf Tryd.f5 [1, 1, 1, 1, 1, 1, 1, 1, 0, 1, 0, 0, 1, 1])) (kE := (fun e h => some (Ex.normal, e, h))) (rE := (fun e h => some (Ex.ret, e, h))) (xE := (fun i e h => some (Ex.exit i, e, h))) (T := t5k5_46 C) (fun x h => by kernel_rfl) x h
theorem t5k5_51_eq (C : CallF) (x : Nat → Value) (h : Heap) : k5_51 C (mkF 194 x) h = t5k5_51 C x h :=
  link_partF (b := (partOf Tryd.f5 [1, 1, 1, 1, 1, 1, 1, 1, 0, 1, 0, 0, 1, 0, 0, 1, 1, 1])) (kE := (k5_46 C)) (rE := (fun e h => some (Ex.ret, e, h))) (xE := (b5_47 C)) (T := t5k5_51 C) (fun x h => by kernel_rfl) x h
theorem t5l5_11111111010010011010_eq (C : CallF) (x : Nat → Value) (h : Heap) : codeA Tryd.prog C (partOf Tryd.f5 [1, 1, 1, 1, 1, 1, 1, 1, 0, 1, 0, 0, 1, 0, 0, 1, 1, 0, 1, 0, 0]) (mkF 194 x) h = t5l5_11111111010010011010 C x h :=
  link_roundF (T := t5l5_11111111010010011010 C) (fun x h => by kernel_rfl) x h


end Go.Proofs.YtdnahgfgoajmcaaDoor

namespace Go.Proofs.YtdnahgfgoajmcaaDoor
open Go Go.Abs
noncomputable def k4_9 (C : CallF) (e : Env) (h : Heap) : Out := codeK Tryd.prog C (partOf Tryd.f4 [1, 1, 1, 1, 1, 1]) e h (resultsA Tryd.prog Tryd.f4.results.toList) (resultsA Tryd.prog Tryd.f4.results.toList) (fun _ _ _ => none)
noncomputable def b4_11 (C : CallF) (i : Nat) (e : Env) (h : Heap) : Out := if i = 0 then (k4_9 C) e h else (fun _ _ _ => none) i e h
noncomputable def k4_18 (C : CallF) (e : Env) (h : Heap) : Out := codeK Tryd.prog C (partOf Tryd.f4 [1, 1, 1, 1, 1, 1, 1, 1, 1, 1, 1]) e h (resultsA Tryd.prog Tryd.f4.results.toList) (resultsA Tryd.prog Tryd.f4.results.toList) (fun _ _ _ => none)
noncomputable def b4_20 (C : CallF) (i : Nat) (e : Env) (h : Heap) : Out := if i = 2 then (k4_18 C) e h else (fun _ _ _ => none) i e h
/-- stolon/stolonlaw06.InventoryUnion -/
noncomputable def t4 (C : CallF) (x0 x1 : Value) (h : Heap) : Out :=
  thenV (some ((.bool false), h)) fun y4 h =>
  thenV (some (x0, h)) fun y15 h =>
  thenV (C 24 [y15] h) fun y16 h =>
  thenV (pu (unA .not y16) h) fun y17 h =>
  thenV (some (y17, h)) fun y18 h =>
  thenV (guardK (bOf y18 == some false) (some (x1, h)) h) fun y19 h =>
  thenV (guardK (bOf y18 == some false) (pu (lenL y19) h) h) fun y20 h =>
  thenV (guardK (bOf y18 == some false) (pu (bin Tryd.prog .gtr 3 y20 (.int .i64 100)) h) h) fun y21 h =>
  thenV (match y18 with | .bool t => some (if t then (.bool true) else y21, h) | _ => none) fun y22 h =>
  (match y22 with
  | .bool true =>
  thenV (C 14 [] h) fun y23 h =>
  thenV (some (y23, h)) fun y4_1 h =>
  some (y4_1, h)
  | .bool false =>
  thenV (bslR 39 (.agg #[(.int .u8 0), (.int .u8 0), (.int .u8 0), (.int .u8 0), (.int .u8 0), (.int .u8 0), (.int .u8 0), (.int .u8 0), (.int .u8 0), (.int .u8 0), (.int .u8 0), (.int .u8 0), (.int .u8 0), (.int .u8 0), (.int .u8 0), (.int .u8 0), (.int .u8 0), (.int .u8 0), (.int .u8 0), (.int .u8 0), (.int .u8 0), (.int .u8 0), (.int .u8 0), (.int .u8 0), (.int .u8 0), (.int .u8 0), (.int .u8 0), (.int .u8 0), (.int .u8 0), (.int .u8 0), (.int .u8 0), (.int .u8 0), (.int .u8 0), (.int .i64 0), (.int .u64 0), (.int .u64 0), (.bool false), (.int .i64 0), (.int .i64 0)]) 0 [] h) fun y24 h =>
  thenV (some (y24, h)) fun y5 h =>
  thenV (C 15 [(.slice none 0 0)] h) fun y26 h =>
  thenV (some (y26, h)) fun y25 h =>
  thenV (pu (extractA y25 0) h) fun y27 h =>
  thenV (pu (extractA y25 1) h) fun y28 h =>
  thenV (some (y27, h)) fun y6 h =>
  thenV (some (y28, h)) fun y7 h =>
  thenV (some (y7, h)) fun y29 h =>
  thenV (pu (bin Tryd.prog .neq 26 y29 (.int .i64 0)) h) fun y30 h =>
  (match y30 with
  | .bool true =>
  thenV (some ((.bool false), h)) fun y4_1 h =>
  some (y4_1, h)
  | .bool false =>
  thenV (some ((.int .i64 0), h)) fun y8 h =>
  endL (iter (codeA Tryd.prog C (partOf Tryd.f4 [1, 1, 1, 1, 1, 0, 1, 0, 0])) rounds (mkF 133 (up (bs [x0, x1]) [(4, y4), (5, y5), (6, y6), (7, y7), (8, y8), (15, y15), (16, y16), (17, y17), (18, y18), (19, y19), (20, y20), (21, y21), (22, y22), (24, y24), (25, y25), (26, y26), (27, y27), (28, y28), (29, y29), (30, y30)])) h) (resultsA Tryd.prog Tryd.f4.results.toList) (b4_11 C)
  | _ => none)
  | _ => none)
noncomputable def t4k4_9 (C : CallF) (x : Nat → Value) (h : Heap) : Out :=
  thenV (some ((x 5), h)) fun y52 h =>
  thenV (C 15 [y52] h) fun y53 h =>
  thenV (some (y53, h)) fun y51 h =>
  thenV (pu (extractA y51 0) h) fun y54 h =>
  thenV (pu (extractA y51 1) h) fun y55 h =>
  thenV (some (y54, h)) fun y9 h =>
  thenV (some (y55, h)) fun y7 h =>
  thenV (some (y7, h)) fun y56 h =>
  thenV (pu (bin Tryd.prog .neq 26 y56 (.int .i64 0)) h) fun y57 h =>
  thenV (some (y57, h)) fun y58 h =>
  thenV (guardK (bOf y58 == some false) (some ((x 6), h)) h) fun y59 h =>
  thenV (guardK (bOf y58 == some false) (C 23 [y59] h) h) fun y60 h =>
  thenV (guardK (bOf y58 == some false) (some (y9, h)) h) fun y61 h =>
  thenV (guardK (bOf y58 == some false) (C 23 [y61] h) h) fun y62 h =>
  thenV (guardK (bOf y58 == some false) (C 19 [y60, y62] h) h) fun y63 h =>
  thenV (guardK (bOf y58 == some false) (pu (unA .not y63) h) h) fun y64 h =>
  thenV (match y58 with | .bool t => some (if t then (.bool true) else y64, h) | _ => none) fun y65 h =>
  (match y65 with
  | .bool true =>
  thenV (some ((.bool false), h)) fun y4 h =>
  some (y4, h)
  | .bool false =>
  thenV (C 15 [(.slice none 0 0)] h) fun y67 h =>
  thenV (some (y67, h)) fun y66 h =>
  thenV (pu (extractA y66 0) h) fun y68 h =>
  thenV (pu (extractA y66 1) h) fun y69 h =>
  thenV (some (y68, h)) fun y10 h =>
  thenV (some (y69, h)) fun y11 h =>
  thenV (some ((x 5), h)) fun y70 h =>
  thenV (C 26 [y70] h) fun y71 h =>
  thenV (some (y71, h)) fun y12 h =>
  thenV (some ((.int .i64 0), h)) fun y13 h =>
  endL (iter (codeA Tryd.prog C (partOf Tryd.f4 [1, 1, 1, 1, 1, 1, 1, 1, 1, 1, 0, 1, 0, 0])) rounds (mkF 133 (up x [(7, y7), (9, y9), (10, y10), (11, y11), (12, y12), (13, y13), (51, y51), (52, y52), (53, y53), (54, y54), (55, y55), (56, y56), (57, y57), (58, y58), (59, y59), (60, y60), (61, y61), (62, y62), (63, y63), (64, y64), (65, y65), (66, y66), (67, y67), (68, y68), (69, y69), (70, y70), (71, y71)])) h) (resultsA Tryd.prog Tryd.f4.results.toList) (b4_20 C)
  | _ => none)
noncomputable def t4l4_11111010 (C : CallF) (x : Nat → Value) (h : Heap) : Option (Ex × Env × Heap) :=
  thenV (some ((x 8), h)) fun y31 h =>
  thenV (some ((x 0), h)) fun y32 h =>
  thenV (pu (lenL y32) h) fun y33 h =>
  thenV (pu (bin Tryd.prog .lss 3 y31 y33) h) fun y34 h =>
  (match y34 with
  | .bool true =>
  thenV (some ((x 6), h)) fun y37 h =>
  thenV (some ((x 0), h)) fun y38 h =>
  thenV (some ((x 8), h)) fun y39 h =>
  thenV (pu (idxS 1 y38 y39) h) fun y40 h =>
  thenV (ld1 y40 h) fun y41 h =>
  thenV (C 26 [y41] h) fun y42 h =>
  thenV (C 25 [y37, y42] h) fun y43 h =>
  thenV (pu (bin Tryd.prog .neq 26 y43 (.int .i64 0)) h) fun y44 h =>
  (match y44 with
  | .bool true =>
  thenV (some ((.bool false), h)) fun y4 h =>
  some (.ret, (mkF 133 (up x [(4, y4), (31, y31), (32, y32), (33, y33), (34, y34), (37, y37), (38, y38), (39, y39), (40, y40), (41, y41), (42, y42), (43, y43), (44, y44)])), h)
  | .bool false =>
  thenV (some ((x 5), h)) fun y45 h =>
  thenV (some ((x 0), h)) fun y46 h =>
  thenV (some ((x 8), h)) fun y47 h =>
  thenV (pu (idxS 1 y46 y47) h) fun y48 h =>
  thenV (ld1 y48 h) fun y49 h =>
  thenV (appendA 39 88 y45 y49 h) fun y50 h =>
  thenV (some (y50, h)) fun y5 h =>
  thenV (some ((x 8), h)) fun y35 h =>
  thenV (pu (bin Tryd.prog .add 3 y35 (.int .i64 1)) h) fun y36 h =>
  thenV (some (y36, h)) fun y8 h =>
  some (.normal, (mkF 133 (up x [(5, y5), (8, y8), (31, y31), (32, y32), (33, y33), (34, y34), (35, y35), (36, y36), (37, y37), (38, y38), (39, y39), (40, y40), (41, y41), (42, y42), (43, y43), (44, y44), (45, y45), (46, y46), (47, y47), (48, y48), (49, y49), (50, y50)])), h)
  | _ => none)
  | .bool false =>
  some (.exit 0, (mkF 133 (up x [(31, y31), (32, y32), (33, y33), (34, y34)])), h)
  | _ => none)
noncomputable def t4k4_18 (C : CallF) (x : Nat → Value) (h : Heap) : Out :=
  thenV (some ((x 6), h)) fun y125 h =>
  thenV (C 23 [y125] h) fun y126 h =>
  thenV (some ((x 10), h)) fun y127 h =>
  thenV (C 23 [y127] h) fun y128 h =>
  thenV (C 19 [y126, y128] h) fun y129 h =>
  thenV (some (y129, h)) fun y130 h =>
  thenV (guardK (bOf y130 == some true) (C 14 [] h) h) fun y131 h =>
  thenV (match y130 with | .bool t => some (if t then y131 else (.bool false), h) | _ => none) fun y132 h =>
  thenV (some (y132, h)) fun y4 h =>
  some (y4, h)
noncomputable def t4l4_1111111111010 (C : CallF) (x : Nat → Value) (h : Heap) : Option (Ex × Env × Heap) :=
  thenV (some ((x 12), h)) fun y72 h =>
  thenV (pu (lenL y72) h) fun y73 h =>
  thenV (pu (bin Tryd.prog .gtr 3 y73 (.int .i64 0)) h) fun y74 h =>
  (match y74 with
  | .bool true =>
  thenV (some ((.int .i64 0), h)) fun y14 h =>
  thenV (some ((x 1), h)) fun y77 h =>
  thenV (pu (lenL y77) h) fun y78 h =>
  thenV (pu (bin Tryd.prog .gtr 3 y78 (.int .i64 0)) h) fun y79 h =>
  (match y79 with
  | .bool true =>
  thenV (some ((x 1), h)) fun y80 h =>
  thenV (some ((x 13), h)) fun y81 h =>
  thenV (some ((x 1), h)) fun y82 h =>
  thenV (pu (lenL y82) h) fun y83 h =>
  thenV (pu (bin Tryd.prog .rem 3 y81 y83) h) fun y84 h =>
  thenV (pu (idxS 1 y80 y84) h) fun y85 h =>
  thenV (ld1 y85 h) fun y86 h =>
  thenV (some ((x 12), h)) fun y87 h =>
  thenV (pu (lenL y87) h) fun y88 h =>
  thenV (pu (bin Tryd.prog .rem 3 y86 y88) h) fun y89 h =>
  thenV (some (y89, h)) fun y14_1 h =>
  thenV (some (y14_1, h)) fun y90 h =>
  thenV (pu (bin Tryd.prog .lss 3 y90 (.int .i64 0)) h) fun y91 h =>
  (match y91 with
  | .bool true =>
  thenV (some (y14_1, h)) fun y92 h =>
  thenV (some ((x 12), h)) fun y93 h =>
  thenV (pu (lenL y93) h) fun y94 h =>
  thenV (pu (bin Tryd.prog .add 3 y92 y94) h) fun y95 h =>
  thenV (some (y95, h)) fun y14_2 h =>
  thenV (some ((x 10), h)) fun y96 h =>
  thenV (some ((x 12), h)) fun y97 h =>
  thenV (some (y14_2, h)) fun y98 h =>
  thenV (pu (idxS 39 y97 y98) h) fun y99 h =>
  thenV (ldN 39 y99 h) fun y100 h =>
  thenV (bslR 39 (.agg #[(.int .u8 0), (.int .u8 0), (.int .u8 0), (.int .u8 0), (.int .u8 0), (.int .u8 0), (.int .u8 0), (.int .u8 0), (.int .u8 0), (.int .u8 0), (.int .u8 0), (.int .u8 0), (.int .u8 0), (.int .u8 0), (.int .u8 0), (.int .u8 0), (.int .u8 0), (.int .u8 0), (.int .u8 0), (.int .u8 0), (.int .u8 0), (.int .u8 0), (.int .u8 0), (.int .u8 0), (.int .u8 0), (.int .u8 0), (.int .u8 0), (.int .u8 0), (.int .u8 0), (.int .u8 0), (.int .u8 0), (.int .u8 0), (.int .u8 0), (.int .i64 0), (.int .u64 0), (.int .u64 0), (.bool false), (.int .i64 0), (.int .i64 0)]) 1 [(0, y100)] h) fun y101 h =>
  thenV (C 25 [y96, y101] h) fun y102 h =>
  thenV (pu (bin Tryd.prog .neq 26 y102 (.int .i64 0)) h) fun y103 h =>
  thenV (some (y103, h)) fun y104 h =>
  thenV (guardK (bOf y104 == some false) (some ((x 13), h)) h) fun y105 h =>
  thenV (guardK (bOf y104 == some false) (pu (bin Tryd.prog .rem 3 y105 (.int .i64 3)) h) h) fun y106 h =>
  thenV (guardK (bOf y104 == some false) (pu (bin Tryd.prog .eql 3 y106 (.int .i64 0)) h) h) fun y107 h =>
  thenV (guardK (bOf y104 == some false) (some (y107, h)) h) fun y108 h =>
  thenV (guardK (bOf y108 == some true) (some ((x 10), h)) h) fun y109 h =>
  thenV (guardK (bOf y108 == some true) (some ((x 10), h)) h) fun y110 h =>
  thenV (guardK (bOf y108 == some true) (C 23 [y110] h) h) fun y111 h =>
  thenV (guardK (bOf y108 == some true) (C 25 [y109, y111] h) h) fun y112 h =>
  thenV (guardK (bOf y108 == some true) (pu (bin Tryd.prog .neq 26 y112 (.int .i64 0)) h) h) fun y113 h =>
  thenV (guardK (bOf y104 == some false) (match y108 with | .bool t => some (if t then y113 else (.bool false), h) | _ => none) h) fun y114 h =>
  thenV (match y104 with | .bool t => some (if t then (.bool true) else y114, h) | _ => none) fun y115 h =>
  (match y115 with
  | .bool true =>
  thenV (some ((.bool false), h)) fun y4 h =>
  some (.ret, (mkF 133 (up x [(4, y4), (14, y14_2), (72, y72), (73, y73), (74, y74), (77, y77), (78, y78), (79, y79), (80, y80), (81, y81), (82, y82), (83, y83), (84, y84), (85, y85), (86, y86), (87, y87), (88, y88), (89, y89), (90, y90), (91, y91), (92, y92), (93, y93), (94, y94), (95, y95), (96, y96), (97, y97), (98, y98), (99, y99), (100, y100), (101, y101), (102, y102), (103, y103), (104, y104), (105, y105), (106, y106), (107, y107), (108, y108), (109, y109), (110, y110), (111, y111), (112, y112), (113, y113), (114, y114), (115, y115)])), h)
  | .bool false =>
  thenV (some ((x 12), h)) fun y116 h =>
  thenV (some (y14_2, h)) fun y117 h =>
  thenV (pu (slR 39 y116 none (some y117) none) h) fun y118 h =>
  thenV (C 26 [y118] h) fun y119 h =>
  thenV (some ((x 12), h)) fun y120 h =>
  thenV (some (y14_2, h)) fun y121 h =>
  thenV (pu (bin Tryd.prog .add 3 y121 (.int .i64 1)) h) fun y122 h =>
  thenV (pu (slR 39 y120 (some y122) none none) h) fun y123 h =>
  thenV (appendA 39 88 y119 y123 h) fun y124 h =>
  thenV (some (y124, h)) fun y12 h =>
  thenV (some ((x 13), h)) fun y75 h =>
  thenV (pu (bin Tryd.prog .add 3 y75 (.int .i64 1)) h) fun y76 h =>
  thenV (some (y76, h)) fun y13 h =>
  some (.normal, (mkF 133 (up x [(12, y12), (13, y13), (14, y14_2), (72, y72), (73, y73), (74, y74), (75, y75), (76, y76), (77, y77), (78, y78), (79, y79), (80, y80), (81, y81), (82, y82), (83, y83), (84, y84), (85, y85), (86, y86), (87, y87), (88, y88), (89, y89), (90, y90), (91, y91), (92, y92), (93, y93), (94, y94), (95, y95), (96, y96), (97, y97), (98, y98), (99, y99), (100, y100), (101, y101), (102, y102), (103, y103), (104, y104), (105, y105), (106, y106), (107, y107), (108, y108), (109, y109), (110, y110), (111, y111), (112, y112), (113, y113), (114, y114), (115, y115), (116, y116), (117, y117), (118, y118), (119, y119), (120, y120), (121, y121), (122, y122), (123, y123), (124, y124)])), h)
  | _ => none)
  | .bool false =>
  thenV (some ((x 10), h)) fun y96 h =>
  thenV (some ((x 12), h)) fun y97 h =>
  thenV (some (y14_1, h)) fun y98 h =>
  thenV (pu (idxS 39 y97 y98) h) fun y99 h =>
  thenV (ldN 39 y99 h) fun y100 h =>
  thenV (bslR 39 (.agg #[(.int .u8 0), (.int .u8 0), (.int .u8 0), (.int .u8 0), (.int .u8 0), (.int .u8 0), (.int .u8 0), (.int .u8 0), (.int .u8 0), (.int .u8 0), (.int .u8 0), (.int .u8 0), (.int .u8 0), (.int .u8 0), (.int .u8 0), (.int .u8 0), (.int .u8 0), (.int .u8 0), (.int .u8 0), (.int .u8 0), (.int .u8 0), (.int .u8 0), (.int .u8 0), (.int .u8 0), (.int .u8 0), (.int .u8 0), (.int .u8 0), (.int .u8 0), (.int .u8 0), (.int .u8 0), (.int .u8 0), (.int .u8 0), (.int .u8 0), (.int .i64 0), (.int .u64 0), (.int .u64 0), (.bool false), (.int .i64 0), (.int .i64 0)]) 1 [(0, y100)] h) fun y101 h =>
  thenV (C 25 [y96, y101] h) fun y102 h =>
  thenV (pu (bin Tryd.prog .neq 26 y102 (.int .i64 0)) h) fun y103 h =>
  thenV (some (y103, h)) fun y104 h =>
  thenV (guardK (bOf y104 == some false) (some ((x 13), h)) h) fun y105 h =>
  thenV (guardK (bOf y104 == some false) (pu (bin Tryd.prog .rem 3 y105 (.int .i64 3)) h) h) fun y106 h =>
  thenV (guardK (bOf y104 == some false) (pu (bin Tryd.prog .eql 3 y106 (.int .i64 0)) h) h) fun y107 h =>
  thenV (guardK (bOf y104 == some false) (some (y107, h)) h) fun y108 h =>
  thenV (guardK (bOf y108 == some true) (some ((x 10), h)) h) fun y109 h =>
  thenV (guardK (bOf y108 == some true) (some ((x 10), h)) h) fun y110 h =>
  thenV (guardK (bOf y108 == some true) (C 23 [y110] h) h) fun y111 h =>
  thenV (guardK (bOf y108 == some true) (C 25 [y109, y111] h) h) fun y112 h =>
  thenV (guardK (bOf y108 == some true) (pu (bin Tryd.prog .neq 26 y112 (.int .i64 0)) h) h) fun y113 h =>
  thenV (guardK (bOf y104 == some false) (match y108 with | .bool t => some (if t then y113 else (.bool false), h) | _ => none) h) fun y114 h =>
  thenV (match y104 with | .bool t => some (if t then (.bool true) else y114, h) | _ => none) fun y115 h =>
  (match y115 with
  | .bool true =>
  thenV (some ((.bool false), h)) fun y4 h =>
  some (.ret, (mkF 133 (up x [(4, y4), (14, y14_1), (72, y72), (73, y73), (74, y74), (77, y77), (78, y78), (79, y79), (80, y80), (81, y81), (82, y82), (83, y83), (84, y84), (85, y85), (86, y86), (87, y87), (88, y88), (89, y89), (90, y90), (91, y91), (96, y96), (97, y97), (98, y98), (99, y99), (100, y100), (101, y101), (102, y102), (103, y103), (104, y104), (105, y105), (106, y106), (107, y107), (108, y108), (109, y109), (110, y110), (111, y111), (112, y112), (113, y113), (114, y114), (115, y115)])), h)
  | .bool false =>
  thenV (some ((x 12), h)) fun y116 h =>
  thenV (some (y14_1, h)) fun y117 h =>
  thenV (pu (slR 39 y116 none (some y117) none) h) fun y118 h =>
  thenV (C 26 [y118] h) fun y119 h =>
  thenV (some ((x 12), h)) fun y120 h =>
  thenV (some (y14_1, h)) fun y121 h =>
  thenV (pu (bin Tryd.prog .add 3 y121 (.int .i64 1)) h) fun y122 h =>
  thenV (pu (slR 39 y120 (some y122) none none) h) fun y123 h =>
  thenV (appendA 39 88 y119 y123 h) fun y124 h =>
  thenV (some (y124, h)) fun y12 h =>
  thenV (some ((x 13), h)) fun y75 h =>
  thenV (pu (bin Tryd.prog .add 3 y75 (.int .i64 1)) h) fun y76 h =>
  thenV (some (y76, h)) fun y13 h =>
  some (.normal, (mkF 133 (up x [(12, y12), (13, y13), (14, y14_1), (72, y72), (73, y73), (74, y74), (75, y75), (76, y76), (77, y77), (78, y78), (79, y79), (80, y80), (81, y81), (82, y82), (83, y83), (84, y84), (85, y85), (86, y86), (87, y87), (88, y88), (89, y89), (90, y90), (91, y91), (96, y96), (97, y97), (98, y98), (99, y99), (100, y100), (101, y101), (102, y102), (103, y103), (104, y104), (105, y105), (106, y106), (107, y107), (108, y108), (109, y109), (110, y110), (111, y111), (112, y112), (113, y113), (114, y114), (115, y115), (116, y116), (117, y117), (118, y118), (119, y119), (120, y120), (121, y121), (122, y122), (123, y123), (124, y124)])), h)
  | _ => none)
  | _ => none)
  | .bool false =>
  thenV (some ((x 10), h)) fun y96 h =>
  thenV (some ((x 12), h)) fun y97 h =>
  thenV (some (y14, h)) fun y98 h =>
  thenV (pu (idxS 39 y97 y98) h) fun y99 h =>
  thenV (ldN 39 y99 h) fun y100 h =>
  thenV (bslR 39 (.agg #[(.int .u8 0), (.int .u8 0), (.int .u8 0), (.int .u8 0), (.int .u8 0), (.int .u8 0), (.int .u8 0), (.int .u8 0), (.int .u8 0), (.int .u8 0), (.int .u8 0), (.int .u8 0), (.int .u8 0), (.int .u8 0), (.int .u8 0), (.int .u8 0), (.int .u8 0), (.int .u8 0), (.int .u8 0), (.int .u8 0), (.int .u8 0), (.int .u8 0), (.int .u8 0), (.int .u8 0), (.int .u8 0), (.int .u8 0), (.int .u8 0), (.int .u8 0), (.int .u8 0), (.int .u8 0), (.int .u8 0), (.int .u8 0), (.int .u8 0), (.int .i64 0), (.int .u64 0), (.int .u64 0), (.bool false), (.int .i64 0), (.int .i64 0)]) 1 [(0, y100)] h) fun y101 h =>
  thenV (C 25 [y96, y101] h) fun y102 h =>
  thenV (pu (bin Tryd.prog .neq 26 y102 (.int .i64 0)) h) fun y103 h =>
  thenV (some (y103, h)) fun y104 h =>
  thenV (guardK (bOf y104 == some false) (some ((x 13), h)) h) fun y105 h =>
  thenV (guardK (bOf y104 == some false) (pu (bin Tryd.prog .rem 3 y105 (.int .i64 3)) h) h) fun y106 h =>
  thenV (guardK (bOf y104 == some false) (pu (bin Tryd.prog .eql 3 y106 (.int .i64 0)) h) h) fun y107 h =>
  thenV (guardK (bOf y104 == some false) (some (y107, h)) h) fun y108 h =>
  thenV (guardK (bOf y108 == some true) (some ((x 10), h)) h) fun y109 h =>
  thenV (guardK (bOf y108 == some true) (some ((x 10), h)) h) fun y110 h =>
  thenV (guardK (bOf y108 == some true) (C 23 [y110] h) h) fun y111 h =>
  thenV (guardK (bOf y108 == some true) (C 25 [y109, y111] h) h) fun y112 h =>
  thenV (guardK (bOf y108 == some true) (pu (bin Tryd.prog .neq 26 y112 (.int .i64 0)) h) h) fun y113 h =>
  thenV (guardK (bOf y104 == some false) (match y108 with | .bool t => some (if t then y113 else (.bool false), h) | _ => none) h) fun y114 h =>
  thenV (match y104 with | .bool t => some (if t then (.bool true) else y114, h) | _ => none) fun y115 h =>
  (match y115 with
  | .bool true =>
  thenV (some ((.bool false), h)) fun y4 h =>
  some (.ret, (mkF 133 (up x [(4, y4), (14, y14), (72, y72), (73, y73), (74, y74), (77, y77), (78, y78), (79, y79), (96, y96), (97, y97), (98, y98), (99, y99), (100, y100), (101, y101), (102, y102), (103, y103), (104, y104), (105, y105), (106, y106), (107, y107), (108, y108), (109, y109), (110, y110), (111, y111), (112, y112), (113, y113), (114, y114), (115, y115)])), h)
  | .bool false =>
  thenV (some ((x 12), h)) fun y116 h =>
  thenV (some (y14, h)) fun y117 h =>
  thenV (pu (slR 39 y116 none (some y117) none) h) fun y118 h =>
  thenV (C 26 [y118] h) fun y119 h =>
  thenV (some ((x 12), h)) fun y120 h =>
  thenV (some (y14, h)) fun y121 h =>
  thenV (pu (bin Tryd.prog .add 3 y121 (.int .i64 1)) h) fun y122 h =>
  thenV (pu (slR 39 y120 (some y122) none none) h) fun y123 h =>
  thenV (appendA 39 88 y119 y123 h) fun y124 h =>
  thenV (some (y124, h)) fun y12 h =>
  thenV (some ((x 13), h)) fun y75 h =>
  thenV (pu (bin Tryd.prog .add 3 y75 (.int .i64 1)) h) fun y76 h =>
  thenV (some (y76, h)) fun y13 h =>
  some (.normal, (mkF 133 (up x [(12, y12), (13, y13), (14, y14), (72, y72), (73, y73), (74, y74), (75, y75), (76, y76), (77, y77), (78, y78), (79, y79), (96, y96), (97, y97), (98, y98), (99, y99), (100, y100), (101, y101), (102, y102), (103, y103), (104, y104), (105, y105), (106, y106), (107, y107), (108, y108), (109, y109), (110, y110), (111, y111), (112, y112), (113, y113), (114, y114), (115, y115), (116, y116), (117, y117), (118, y118), (119, y119), (120, y120), (121, y121), (122, y122), (123, y123), (124, y124)])), h)
  | _ => none)
  | _ => none)
  | .bool false =>
  some (.exit 2, (mkF 133 (up x [(72, y72), (73, y73), (74, y74)])), h)
  | _ => none)
theorem t4_eq (C : CallF) (x0 x1 : Value) (h : Heap) : bodyK Tryd.prog C Tryd.f4 [x0, x1] h = t4 C x0 x1 h :=
  (bodyB_eq Tryd.prog C Tryd.f4 [x0, x1] h (by kernel_rfl)).trans (by kernel_rfl)
theorem t4k4_9_eq (C : CallF) (x : Nat → Value) (h : Heap) : k4_9 C (mkF 133 x) h = t4k4_9 C x h :=
  link_partF (b := (partOf Tryd.f4 [1, 1, 1, 1, 1, 1])) (kE := (resultsA Tryd.prog Tryd.f4.results.toList)) (rE := (resultsA Tryd.prog Tryd.f4.results.toList)) (xE := (fun _ _ _ => none)) (T := t4k4_9 C) (fun x h => by kernel_rfl) x h
theorem t4l4_11111010_eq (C : CallF) (x : Nat → Value) (h : Heap) : codeA Tryd.prog C (partOf Tryd.f4 [1, 1, 1, 1, 1, 0, 1, 0, 0]) (mkF 133 x) h = t4l4_11111010 C x h :=
  link_roundF (T := t4l4_11111010 C) (fun x h => by kernel_rfl) x h
theorem t4k4_18_eq (C : CallF) (x : Nat → Value) (h : Heap) : k4_18 C (mkF 133 x) h = t4k4_18 C x h :=
  link_partF (b := (partOf Tryd.f4 [1, 1, 1, 1, 1, 1, 1, 1, 1, 1, 1])) (kE := (resultsA Tryd.prog Tryd.f4.results.toList)) (rE := (resultsA Tryd.prog Tryd.f4.results.toList)) (xE := (fun _ _ _ => none)) (T := t4k4_18 C) (fun x h => by kernel_rfl) x h
theorem t4l4_1111111111010_eq (C : CallF) (x : Nat → Value) (h : Heap) : codeA Tryd.prog C (partOf Tryd.f4 [1, 1, 1, 1, 1, 1, 1, 1, 1, 1, 0, 1, 0, 0]) (mkF 133 x) h = t4l4_1111111111010 C x h :=
  link_roundF (T := t4l4_1111111111010 C) (fun x h => by kernel_rfl) x h


end Go.Proofs.YtdnahgfgoajmcaaDoor

