/-
  A part of the proof, spaces and names shortened by a program (a claim may hold 1,500,000 bytes).
  Conditions: as each theorem states.
-/
import Derived.Test.YtjghlcdidopcpaaGreatDoorG5
import Derived.Test.YtjghlcdidopcpaaGreatDoorProg
import Derived.KernelRfl
namespace Go.Proofs.YtjghlcdidopcpaaGreatDoor
open Go Go.Abs
noncomputable def t32 (C:au) (x0:Value) (h:aj):Out:=
 ae (some ((.pointer none),h)) fun _y2 h=>
 ae (some (x0,h)) fun y3 h=>
 ae (C 69 [y3] h) fun y4 h=>
 ae (pu (bU [(.slice none 0 0),(.int .i64 0)] [(0,1,y4)]) h) fun y5 h=>
 ae (box y5 h) fun y6 h=>
 ae (some (y6,h)) fun y2_1 h=>
 some (y2_1,h)
theorem t32_eq (C:au) (x0:Value) (h:aj):bf Tryz.prog C Tryz.f32 [x0] h=t32 C x0 h:=
 (aL Tryz.prog C Tryz.f32 [x0] h (by kernel_rfl)).trans (by kernel_rfl)
noncomputable def t33 (C:au) (x0:Value) (h:aj):Out:=
 ae (some ((.int .u32 0),h)) fun _y2 h=>
 ae (some (x0,h)) fun y3 h=>
 ae (C 76 [y3,(.int .i64 4)] h) fun y4 h=>
 ae (fc .u32 y4 h) fun y5 h=>
 ae (some (y5,h)) fun y2_1 h=>
 some (y2_1,h)
theorem t33_eq (C:au) (x0:Value) (h:aj):bf Tryz.prog C Tryz.f33 [x0] h=t33 C x0 h:=
 (aL Tryz.prog C Tryz.f33 [x0] h (by kernel_rfl)).trans (by kernel_rfl)
noncomputable def k34_2 (C:au) (e:Env) (h:aj):Out:=aT Tryz.prog C (partOf Tryz.f34 [1,1,1]) e h (ar Tryz.prog Tryz.f34.results.toList) (ar Tryz.prog Tryz.f34.results.toList) (fun _ _ _=>none)
noncomputable def b34_4 (C:au) (i:Nat) (e:Env) (h:aj):Out:=if i=0 then (k34_2 C) e h else (fun _ _ _=>none) i e h
noncomputable def k34_6 (C:au) (e:Env) (h:aj):Out:=aT Tryz.prog C (partOf Tryz.f34 [1,1,1,1,1]) e h (ar Tryz.prog Tryz.f34.results.toList) (ar Tryz.prog Tryz.f34.results.toList) (fun _ _ _=>none)
noncomputable def b34_8 (C:au) (i:Nat) (e:Env) (h:aj):Out:=if i=4 then (k34_6 C) e h else (fun _ _ _=>none) i e h
noncomputable def k34_11 (C:au) (e:Env) (h:aj):Option (Ex×Env×aj):=aT Tryz.prog C (partOf Tryz.f34 [1,1,0,1,0,0,1,1,1]) e h (fun e h=>some (Ex.normal,e,h)) (fun e h=>some (Ex.ret,e,h)) (fun i e h=>some (Ex.exit i,e,h))
noncomputable def b34_12 (C:au) (i:Nat) (e:Env) (h:aj):Option (Ex×Env×aj):=if i=1 then (k34_11 C) e h else (fun i e h=>some (Ex.exit i,e,h)) i e h
noncomputable def k34_15 (C:au) (e:Env) (h:aj):Option (Ex×Env×aj):=aT Tryz.prog C (partOf Tryz.f34 [1,1,0,1,0,0,1,1,0,0,1,1,1]) e h (k34_11 C) (fun e h=>some (Ex.ret,e,h)) (b34_12 C)
noncomputable def b34_17 (C:au) (i:Nat) (e:Env) (h:aj):Option (Ex×Env×aj):=if i=2 then (k34_15 C) e h else (b34_12 C) i e h
noncomputable def t34 (C:au) (x0:Value) (h:aj):Out:=
 ae (some ((.int .u32 0),h)) fun y2 h=>
 ae (cL (List.replicate 16 (.int .u32 0)) h) fun y3 h=>
 ae (some ((.int .i64 0),h)) fun y9 h=>
 dX (iter (aM Tryz.prog C (partOf Tryz.f34 [1,1,0,1,0,0])) rounds (aJ 54 (up (bs [x0]) [(2,y2),(3,y3),(9,y9)])) h) (ar Tryz.prog Tryz.f34.results.toList) (b34_4 C)
noncomputable def t34k34_2 (C:au) (x:Nat→Value) (h:aj):Out:=
 ae (some ((.int .u32 4294967295),h)) fun y6 h=>
 ae (some ((x 0),h)) fun dn h=>
 ae (pu (bG dn) h) fun y28 h=>
 ae (some ((.int .i64 0),h)) fun y29 h=>
 dX (iter (aM Tryz.prog C (partOf Tryz.f34 [1,1,1,1,0,1,0,0])) rounds (aJ 54 (up x [(6,y6),(27,dn),(28,y28),(29,y29)])) h) (ar Tryz.prog Tryz.f34.results.toList) (b34_8 C)
noncomputable def t34l34_11010 (C:au) (x:Nat→Value) (h:aj):Option (Ex×Env×aj):=
 ae (pu (bin Tryz.prog .lss 3 (x 9) (.int .i64 16)) h) fun y10 h=>
 (match y10 with
 | .bool true=>
 ae (some ((x 9),h)) fun y11 h=>
 ae (some (y11,h)) fun y4 h=>
 ae (some (y4,h)) fun y12 h=>
 ae (fc .u32 y12 h) fun y13 h=>
 ae (some (y13,h)) fun y5 h=>
 ae (some ((.int .i64 0),h)) fun y14 h=>
 dX (iter (aM Tryz.prog C (partOf Tryz.f34 [1,1,0,1,0,0,1,1,0,0,1,1,0,1,0,0])) rounds (aJ 54 (up x [(4,y4),(5,y5),(10,y10),(11,y11),(12,y12),(13,y13),(14,y14)])) h) (fun e h=>some (Ex.ret,e,h)) (b34_17 C)
 | .bool false=>
 some (.exit 0,(aJ 54 (up x [(10,y10)])),h)
 |_=>none)
noncomputable def t34k34_6 (_C:au) (x:Nat→Value) (h:aj):Out:=
 ae (some ((x 6),h)) fun y52 h=>
 ae (pu (unA .xor y52) h) fun eJ h=>
 ae (some (eJ,h)) fun y2 h=>
 some (y2,h)
noncomputable def eT (_C:au) (x:Nat→Value) (h:aj):Option (Ex×Env×aj):=
 ae (pu (bin Tryz.prog .lss 3 (x 29) (x 28)) h) fun y30 h=>
 (match y30 with
 | .bool true=>
 ae (pu (bB 1 (x 27) (x 29)) h) fun y31 h=>
 ae (aN y31 h) fun y32 h=>
 ae (some (y32,h)) fun y8 h=>
 ae (some ((x 6),h)) fun y33 h=>
 ae (some (y8,h)) fun y34 h=>
 ae (fc .u32 y34 h) fun y35 h=>
 ae (pu (bin Tryz.prog .xor 50 y33 y35) h) fun y36 h=>
 ae (some (y36,h)) fun y6 h=>
 ae (some (y6,h)) fun y37 h=>
 ae (pu (bin Tryz.prog .and 50 y37 (.int .u32 15)) h) fun y38 h=>
 ae (pu (idxA 16 1 (x 3) y38) h) fun y39 h=>
 ae (aN y39 h) fun y40 h=>
 ae (some (y6,h)) fun y41 h=>
 ae (pu (bin Tryz.prog .shr 50 y41 (.int .u64 4)) h) fun y42 h=>
 ae (pu (bin Tryz.prog .xor 50 y40 y42) h) fun y43 h=>
 ae (some (y43,h)) fun y6_1 h=>
 ae (some (y6_1,h)) fun y44 h=>
 ae (pu (bin Tryz.prog .and 50 y44 (.int .u32 15)) h) fun y45 h=>
 ae (pu (idxA 16 1 (x 3) y45) h) fun y46 h=>
 ae (aN y46 h) fun y47 h=>
 ae (some (y6_1,h)) fun y48 h=>
 ae (pu (bin Tryz.prog .shr 50 y48 (.int .u64 4)) h) fun y49 h=>
 ae (pu (bin Tryz.prog .xor 50 y47 y49) h) fun y50 h=>
 ae (some (y50,h)) fun y6_2 h=>
 ae (pu (bin Tryz.prog .add 3 (x 29) (.int .i64 1)) h) fun y51 h=>
 ae (some (y51,h)) fun y29 h=>
 some (.normal,(aJ 54 (up x [(6,y6_2),(8,y8),(29,y29),(30,y30),(31,y31),(32,y32),(33,y33),(34,y34),(35,y35),(36,y36),(37,y37),(38,y38),(39,y39),(40,y40),(41,y41),(42,y42),(43,y43),(44,y44),(45,y45),(46,y46),(47,y47),(48,y48),(49,y49),(50,y50),(51,y51)])),h)
 | .bool false=>
 some (.exit 4,(aJ 54 (up x [(30,y30)])),h)
 |_=>none)
noncomputable def t34k34_11 (_C:au) (x:Nat→Value) (h:aj):Option (Ex×Env×aj):=
 ae (pu (bin Tryz.prog .add 3 (x 9) (.int .i64 1)) h) fun cV h=>
 ae (some (cV,h)) fun y9 h=>
 some (.normal,(aJ 54 (up x [(9,y9),(26,cV)])),h)
noncomputable def t34k34_15 (C:au) (x:Nat→Value) (h:aj):Option (Ex×Env×aj):=
 ae (some ((x 4),h)) fun y23 h=>
 ae (some ((x 5),h)) fun y24 h=>
 ae (pu (idxA 16 1 (x 3) y23) h) fun y25 h=>
 ae (bw 1 y25 y24 h) fun _ h=>
 k34_11 C (aJ 54 (up x [(23,y23),(24,y24),(25,y25)])) h
noncomputable def ep (_C:au) (x:Nat→Value) (h:aj):Option (Ex×Env×aj):=
 ae (pu (bin Tryz.prog .lss 3 (x 14) (.int .i64 4)) h) fun y15 h=>
 (match y15 with
 | .bool true=>
 ae (some ((x 5),h)) fun y16 h=>
 ae (pu (bin Tryz.prog .shr 50 y16 (.int .u64 1)) h) fun y17 h=>
 ae (some ((x 5),h)) fun y18 h=>
 ae (pu (bin Tryz.prog .and 50 y18 (.int .u32 1)) h) fun y19 h=>
 ae (pu (bin Tryz.prog .mul 50 (.int .u32 2197175160) y19) h) fun y20 h=>
 ae (pu (bin Tryz.prog .xor 50 y17 y20) h) fun y21 h=>
 ae (some (y21,h)) fun y5 h=>
 ae (pu (bin Tryz.prog .add 3 (x 14) (.int .i64 1)) h) fun y22 h=>
 ae (some (y22,h)) fun y14 h=>
 some (.normal,(aJ 54 (up x [(5,y5),(14,y14),(15,y15),(16,y16),(17,y17),(18,y18),(19,y19),(20,y20),(21,y21),(22,y22)])),h)
 | .bool false=>
 some (.exit 2,(aJ 54 (up x [(15,y15)])),h)
 |_=>none)
theorem t34_eq (C:au) (x0:Value) (h:aj):bf Tryz.prog C Tryz.f34 [x0] h=t34 C x0 h:=
 (aL Tryz.prog C Tryz.f34 [x0] h (by kernel_rfl)).trans (by kernel_rfl)
theorem t34k34_2_eq (C:au) (x:Nat→Value) (h:aj):k34_2 C (aJ 54 x) h=t34k34_2 C x h:=
 bg (b:=(partOf Tryz.f34 [1,1,1])) (kE:=(ar Tryz.prog Tryz.f34.results.toList)) (rE:=(ar Tryz.prog Tryz.f34.results.toList)) (xE:=(fun _ _ _=>none)) (T:=t34k34_2 C) (fun x h=>by kernel_rfl) x h
theorem t34l34_11010_eq (C:au) (x:Nat→Value) (h:aj):aM Tryz.prog C (partOf Tryz.f34 [1,1,0,1,0,0]) (aJ 54 x) h=t34l34_11010 C x h:=
 bn (T:=t34l34_11010 C) (fun x h=>by kernel_rfl) x h
theorem t34k34_6_eq (C:au) (x:Nat→Value) (h:aj):k34_6 C (aJ 54 x) h=t34k34_6 C x h:=
 bg (b:=(partOf Tryz.f34 [1,1,1,1,1])) (kE:=(ar Tryz.prog Tryz.f34.results.toList)) (rE:=(ar Tryz.prog Tryz.f34.results.toList)) (xE:=(fun _ _ _=>none)) (T:=t34k34_6 C) (fun x h=>by kernel_rfl) x h
theorem t34l34_1111010_eq (C:au) (x:Nat→Value) (h:aj):aM Tryz.prog C (partOf Tryz.f34 [1,1,1,1,0,1,0,0]) (aJ 54 x) h=eT C x h:=
 bn (T:=eT C) (fun x h=>by kernel_rfl) x h
theorem t34k34_11_eq (C:au) (x:Nat→Value) (h:aj):k34_11 C (aJ 54 x) h=t34k34_11 C x h:=
 bg (b:=(partOf Tryz.f34 [1,1,0,1,0,0,1,1,1])) (kE:=(fun e h=>some (Ex.normal,e,h))) (rE:=(fun e h=>some (Ex.ret,e,h))) (xE:=(fun i e h=>some (Ex.exit i,e,h))) (T:=t34k34_11 C) (fun x h=>by kernel_rfl) x h
theorem t34k34_15_eq (C:au) (x:Nat→Value) (h:aj):k34_15 C (aJ 54 x) h=t34k34_15 C x h:=
 bg (b:=(partOf Tryz.f34 [1,1,0,1,0,0,1,1,0,0,1,1,1])) (kE:=(k34_11 C)) (rE:=(fun e h=>some (Ex.ret,e,h))) (xE:=(b34_12 C)) (T:=t34k34_15 C) (fun x h=>by kernel_rfl) x h
theorem t34l34_110100110011010_eq (C:au) (x:Nat→Value) (h:aj):aM Tryz.prog C (partOf Tryz.f34 [1,1,0,1,0,0,1,1,0,0,1,1,0,1,0,0]) (aJ 54 x) h=ep C x h:=
 bn (T:=ep C) (fun x h=>by kernel_rfl) x h
noncomputable def t36 (C:au) (x0:Value) (h:aj):Out:=
 ae (some ((.int .i64 0),h)) fun _y2 h=>
 ae (some (x0,h)) fun y4 h=>
 ae (C 75 [y4] h) fun y5 h=>
 ae (some (y5,h)) fun y3 h=>
 ae (some (y3,h)) fun y6 h=>
 ae (pu (bin Tryz.prog .neq 35 y6 (.int .i64 0)) h) fun y7 h=>
 (match y7 with
 | .bool true=>
 ae (some (y3,h)) fun y8 h=>
 ae (some (y8,h)) fun y2_1 h=>
 some (y2_1,h)
 | .bool false=>
 ae (some (x0,h)) fun y9 h=>
 ae (pu (bj y9) h) fun y10 h=>
 ae (pu (aA y10 0) h) fun y11 h=>
 ae (aN y11 h) fun y12 h=>
 ae (pu (bG y12) h) fun y13 h=>
 ae (pu (bin Tryz.prog .gtr 3 y13 (.int .i64 0)) h) fun y14 h=>
 (match y14 with
 | .bool true=>
 ae (some ((.int .i64 5),h)) fun y2_1 h=>
 some (y2_1,h)
 | .bool false=>
 ae (some ((.int .i64 0),h)) fun y2_1 h=>
 some (y2_1,h)
 |_=>none)
 |_=>none)
theorem t36_eq (C:au) (x0:Value) (h:aj):bf Tryz.prog C Tryz.f36 [x0] h=t36 C x0 h:=
 (aL Tryz.prog C Tryz.f36 [x0] h (by kernel_rfl)).trans (by kernel_rfl)
noncomputable def k38_2 (C:au) (e:Env) (h:aj):Out:=aT Tryz.prog C (partOf Tryz.f38 [1,1,1]) e h (ar Tryz.prog Tryz.f38.results.toList) (ar Tryz.prog Tryz.f38.results.toList) (fun _ _ _=>none)
noncomputable def b38_4 (C:au) (i:Nat) (e:Env) (h:aj):Out:=if i=0 then (k38_2 C) e h else (fun _ _ _=>none) i e h
noncomputable def t38 (C:au) (x0:Value) (h:aj):Out:=
 ae (some ((.int .u64 0),h)) fun y2 h=>
 ae (some ((.int .u64 0),h)) fun y3 h=>
 ae (some ((.int .i64 0),h)) fun y4 h=>
 dX (iter (aM Tryz.prog C (partOf Tryz.f38 [1,1,0,1,0,0])) rounds (aJ 20 (up (bs [x0]) [(2,y2),(3,y3),(4,y4)])) h) (ar Tryz.prog Tryz.f38.results.toList) (b38_4 C)
noncomputable def t38k38_2 (_C:au) (x:Nat→Value) (h:aj):Out:=
 ae (some ((x 3),h)) fun y19 h=>
 ae (some (y19,h)) fun y2 h=>
 some (y2,h)
noncomputable def t38l38_11010 (_C:au) (x:Nat→Value) (h:aj):Option (Ex×Env×aj):=
 ae (some ((x 4),h)) fun y5 h=>
 ae (some ((x 0),h)) fun y6 h=>
 ae (pu (bG y6) h) fun y7 h=>
 ae (pu (bin Tryz.prog .lss 3 y5 y7) h) fun y8 h=>
 (match y8 with
 | .bool true=>
 ae (some ((x 3),h)) fun y11 h=>
 ae (pu (bin Tryz.prog .shl 25 y11 (.int .u64 8)) h) fun y12 h=>
 ae (some ((x 0),h)) fun y13 h=>
 ae (some ((x 4),h)) fun y14 h=>
 ae (pu (bB 1 y13 y14) h) fun y15 h=>
 ae (aN y15 h) fun y16 h=>
 ae (fc .u64 y16 h) fun y17 h=>
 ae (pu (bin Tryz.prog .or 25 y12 y17) h) fun y18 h=>
 ae (some (y18,h)) fun y3 h=>
 ae (some ((x 4),h)) fun y9 h=>
 ae (pu (bin Tryz.prog .add 3 y9 (.int .i64 1)) h) fun y10 h=>
 ae (some (y10,h)) fun y4 h=>
 some (.normal,(aJ 20 (up x [(3,y3),(4,y4),(5,y5),(6,y6),(7,y7),(8,y8),(9,y9),(10,y10),(11,y11),(12,y12),(13,y13),(14,y14),(15,y15),(16,y16),(17,y17),(18,y18)])),h)
 | .bool false=>
 some (.exit 0,(aJ 20 (up x [(5,y5),(6,y6),(7,y7),(8,y8)])),h)
 |_=>none)
theorem t38_eq (C:au) (x0:Value) (h:aj):bf Tryz.prog C Tryz.f38 [x0] h=t38 C x0 h:=
 (aL Tryz.prog C Tryz.f38 [x0] h (by kernel_rfl)).trans (by kernel_rfl)
theorem t38k38_2_eq (C:au) (x:Nat→Value) (h:aj):k38_2 C (aJ 20 x) h=t38k38_2 C x h:=
 bg (b:=(partOf Tryz.f38 [1,1,1])) (kE:=(ar Tryz.prog Tryz.f38.results.toList)) (rE:=(ar Tryz.prog Tryz.f38.results.toList)) (xE:=(fun _ _ _=>none)) (T:=t38k38_2 C) (fun x h=>by kernel_rfl) x h
theorem t38l38_11010_eq (C:au) (x:Nat→Value) (h:aj):aM Tryz.prog C (partOf Tryz.f38 [1,1,0,1,0,0]) (aJ 20 x) h=t38l38_11010 C x h:=
 bn (T:=t38l38_11010 C) (fun x h=>by kernel_rfl) x h
noncomputable def k39_2 (C:au) (e:Env) (h:aj):Out:=aT Tryz.prog C (partOf Tryz.f39 [1,1,1]) e h (ar Tryz.prog Tryz.f39.results.toList) (ar Tryz.prog Tryz.f39.results.toList) (fun _ _ _=>none)
noncomputable def b39_4 (C:au) (i:Nat) (e:Env) (h:aj):Out:=if i=0 then (k39_2 C) e h else (fun _ _ _=>none) i e h
noncomputable def k39_8 (C:au) (e:Env) (h:aj):Option (Ex×Env×aj):=aT Tryz.prog C (partOf Tryz.f39 [1,1,0,1,0,0,1,1]) e h (fun e h=>some (Ex.normal,e,h)) (fun e h=>some (Ex.ret,e,h)) (fun i e h=>some (Ex.exit i,e,h))
noncomputable def b39_9 (C:au) (i:Nat) (e:Env) (h:aj):Option (Ex×Env×aj):=if i=1 then (k39_8 C) e h else (fun i e h=>some (Ex.exit i,e,h)) i e h
noncomputable def b39_12 (C:au) (i:Nat) (e:Env) (h:aj):Option (Ex×Env×aj):=if i=2 then (k39_8 C) e h else (b39_9 C) i e h
noncomputable def t39 (C:au) (x0:Value) (h:aj):Out:=
 ae (some ((.int .u32 0),h)) fun y2 h=>
 ae (some ((.int .u32 4294967295),h)) fun y3 h=>
 ae (some ((.int .i64 0),h)) fun y4 h=>
 dX (iter (aM Tryz.prog C (partOf Tryz.f39 [1,1,0,1,0,0])) rounds (aJ 33 (up (bs [x0]) [(2,y2),(3,y3),(4,y4)])) h) (ar Tryz.prog Tryz.f39.results.toList) (b39_4 C)
noncomputable def t39k39_2 (_C:au) (x:Nat→Value) (h:aj):Out:=
 ae (some ((x 3),h)) fun y31 h=>
 ae (pu (unA .xor y31) h) fun y32 h=>
 ae (some (y32,h)) fun y2 h=>
 some (y2,h)
noncomputable def t39l39_11010 (C:au) (x:Nat→Value) (h:aj):Option (Ex×Env×aj):=
 ae (some ((x 4),h)) fun y6 h=>
 ae (some ((x 0),h)) fun y7 h=>
 ae (pu (bG y7) h) fun y8 h=>
 ae (pu (bin Tryz.prog .lss 3 y6 y8) h) fun y9 h=>
 (match y9 with
 | .bool true=>
 ae (some ((x 3),h)) fun y12 h=>
 ae (some ((x 0),h)) fun y13 h=>
 ae (some ((x 4),h)) fun y14 h=>
 ae (pu (bB 1 y13 y14) h) fun y15 h=>
 ae (aN y15 h) fun y16 h=>
 ae (fc .u32 y16 h) fun y17 h=>
 ae (pu (bin Tryz.prog .xor 50 y12 y17) h) fun y18 h=>
 ae (some (y18,h)) fun y3 h=>
 ae (some ((.int .i64 0),h)) fun y5 h=>
 dX (iter (aM Tryz.prog C (partOf Tryz.f39 [1,1,0,1,0,0,1,0,0,1,1,0,0])) rounds (aJ 33 (up x [(3,y3),(5,y5),(6,y6),(7,y7),(8,y8),(9,y9),(12,y12),(13,y13),(14,y14),(15,y15),(16,y16),(17,y17),(18,y18)])) h) (fun e h=>some (Ex.ret,e,h)) (b39_12 C)
 | .bool false=>
 some (.exit 0,(aJ 33 (up x [(6,y6),(7,y7),(8,y8),(9,y9)])),h)
 |_=>none)
noncomputable def t39k39_8 (_C:au) (x:Nat→Value) (h:aj):Option (Ex×Env×aj):=
 ae (some ((x 4),h)) fun y10 h=>
 ae (pu (bin Tryz.prog .add 3 y10 (.int .i64 1)) h) fun y11 h=>
 ae (some (y11,h)) fun y4 h=>
 some (.normal,(aJ 33 (up x [(4,y4),(10,y10),(11,y11)])),h)
noncomputable def fw (_C:au) (x:Nat→Value) (h:aj):Option (Ex×Env×aj):=
 ae (some ((x 5),h)) fun y19 h=>
 ae (pu (bin Tryz.prog .lss 3 y19 (.int .i64 8)) h) fun y20 h=>
 (match y20 with
 | .bool true=>
 ae (some ((x 3),h)) fun y23 h=>
 ae (pu (bin Tryz.prog .and 50 y23 (.int .u32 1)) h) fun y24 h=>
 ae (pu (bin Tryz.prog .eql 50 y24 (.int .u32 1)) h) fun y25 h=>
 (match y25 with
 | .bool true=>
 ae (some ((x 3),h)) fun cV h=>
 ae (pu (bin Tryz.prog .shr 50 cV (.int .u64 1)) h) fun dn h=>
 ae (pu (bin Tryz.prog .xor 50 dn (.int .u32 2197175160)) h) fun y28 h=>
 ae (some (y28,h)) fun y3 h=>
 ae (some ((x 5),h)) fun y21 h=>
 ae (pu (bin Tryz.prog .add 3 y21 (.int .i64 1)) h) fun y22 h=>
 ae (some (y22,h)) fun y5 h=>
 some (.normal,(aJ 33 (up x [(3,y3),(5,y5),(19,y19),(20,y20),(21,y21),(22,y22),(23,y23),(24,y24),(25,y25),(26,cV),(27,dn),(28,y28)])),h)
 | .bool false=>
 ae (some ((x 3),h)) fun y29 h=>
 ae (pu (bin Tryz.prog .shr 50 y29 (.int .u64 1)) h) fun y30 h=>
 ae (some (y30,h)) fun y3 h=>
 ae (some ((x 5),h)) fun y21 h=>
 ae (pu (bin Tryz.prog .add 3 y21 (.int .i64 1)) h) fun y22 h=>
 ae (some (y22,h)) fun y5 h=>
 some (.normal,(aJ 33 (up x [(3,y3),(5,y5),(19,y19),(20,y20),(21,y21),(22,y22),(23,y23),(24,y24),(25,y25),(29,y29),(30,y30)])),h)
 |_=>none)
 | .bool false=>
 some (.exit 2,(aJ 33 (up x [(19,y19),(20,y20)])),h)
 |_=>none)
theorem t39_eq (C:au) (x0:Value) (h:aj):bf Tryz.prog C Tryz.f39 [x0] h=t39 C x0 h:=
 (aL Tryz.prog C Tryz.f39 [x0] h (by kernel_rfl)).trans (by kernel_rfl)
theorem t39k39_2_eq (C:au) (x:Nat→Value) (h:aj):k39_2 C (aJ 33 x) h=t39k39_2 C x h:=
 bg (b:=(partOf Tryz.f39 [1,1,1])) (kE:=(ar Tryz.prog Tryz.f39.results.toList)) (rE:=(ar Tryz.prog Tryz.f39.results.toList)) (xE:=(fun _ _ _=>none)) (T:=t39k39_2 C) (fun x h=>by kernel_rfl) x h
theorem t39l39_11010_eq (C:au) (x:Nat→Value) (h:aj):aM Tryz.prog C (partOf Tryz.f39 [1,1,0,1,0,0]) (aJ 33 x) h=t39l39_11010 C x h:=
 bn (T:=t39l39_11010 C) (fun x h=>by kernel_rfl) x h
theorem t39k39_8_eq (C:au) (x:Nat→Value) (h:aj):k39_8 C (aJ 33 x) h=t39k39_8 C x h:=
 bg (b:=(partOf Tryz.f39 [1,1,0,1,0,0,1,1])) (kE:=(fun e h=>some (Ex.normal,e,h))) (rE:=(fun e h=>some (Ex.ret,e,h))) (xE:=(fun i e h=>some (Ex.exit i,e,h))) (T:=t39k39_8 C) (fun x h=>by kernel_rfl) x h
theorem t39l39_110100100110_eq (C:au) (x:Nat→Value) (h:aj):aM Tryz.prog C (partOf Tryz.f39 [1,1,0,1,0,0,1,0,0,1,1,0,0]) (aJ 33 x) h=fw C x h:=
 bn (T:=fw C) (fun x h=>by kernel_rfl) x h
noncomputable def t72 (C:au) (x0:Value) (h:aj):Out:=
 ae (some ((.int .u16 0),h)) fun _y2 h=>
 ae (some (x0,h)) fun y3 h=>
 ae (C 76 [y3,(.int .i64 2)] h) fun y4 h=>
 ae (fc .u16 y4 h) fun y5 h=>
 ae (some (y5,h)) fun y2_1 h=>
 some (y2_1,h)
theorem t72_eq (C:au) (x0:Value) (h:aj):bf Tryz.prog C Tryz.f72 [x0] h=t72 C x0 h:=
 (aL Tryz.prog C Tryz.f72 [x0] h (by kernel_rfl)).trans (by kernel_rfl)
noncomputable def t73 (C:au) (x0:Value) (h:aj):Out:=
 ae (some ((.int .u8 0),h)) fun _y2 h=>
 ae (some (x0,h)) fun y3 h=>
 ae (C 76 [y3,(.int .i64 1)] h) fun y4 h=>
 ae (fc .u8 y4 h) fun y5 h=>
 ae (some (y5,h)) fun y2_1 h=>
 some (y2_1,h)
theorem t73_eq (C:au) (x0:Value) (h:aj):bf Tryz.prog C Tryz.f73 [x0] h=t73 C x0 h:=
 (aL Tryz.prog C Tryz.f73 [x0] h (by kernel_rfl)).trans (by kernel_rfl)
noncomputable def t74 (C:au) (x0 x1:Value) (h:aj):Out:=
 ae (some ((.slice none 0 0),h)) fun _y4 h=>
 ae (some (x0,h)) fun y5 h=>
 ae (some (x1,h)) fun y6 h=>
 ae (C 94 [y5,y6] h) fun y7 h=>
 ae (C 69 [y7] h) fun y8 h=>
 ae (some (y8,h)) fun y4_1 h=>
 some (y4_1,h)
theorem t74_eq (C:au) (x0 x1:Value) (h:aj):bf Tryz.prog C Tryz.f74 [x0,x1] h=t74 C x0 x1 h:=
 (aL Tryz.prog C Tryz.f74 [x0,x1] h (by kernel_rfl)).trans (by kernel_rfl)
noncomputable def t75 (_C:au) (x0:Value) (h:aj):Out:=
 ae (some ((.int .i64 0),h)) fun _y2 h=>
 ae (some (x0,h)) fun y3 h=>
 ae (pu (bin Tryz.prog .eql 68 y3 (.pointer none)) h) fun y4 h=>
 (match y4 with
 | .bool true=>
 ae (some ((.int .i64 1),h)) fun y2_1 h=>
 some (y2_1,h)
 | .bool false=>
 ae (some (x0,h)) fun y5 h=>
 ae (pu (bj y5) h) fun y6 h=>
 ae (pu (aA y6 1) h) fun y7 h=>
 ae (aN y7 h) fun y8 h=>
 ae (some (y8,h)) fun y2_1 h=>
 some (y2_1,h)
 |_=>none)
theorem t75_eq (C:au) (x0:Value) (h:aj):bf Tryz.prog C Tryz.f75 [x0] h=t75 C x0 h:=
 (aL Tryz.prog C Tryz.f75 [x0] h (by kernel_rfl)).trans (by kernel_rfl)
noncomputable def k76_2 (C:au) (e:Env) (h:aj):Out:=aT Tryz.prog C (partOf Tryz.f76 [1,1,1]) e h (ar Tryz.prog Tryz.f76.results.toList) (ar Tryz.prog Tryz.f76.results.toList) (fun _ _ _=>none)
noncomputable def b76_4 (C:au) (i:Nat) (e:Env) (h:aj):Out:=if i=0 then (k76_2 C) e h else (fun _ _ _=>none) i e h
noncomputable def t76 (C:au) (x0 x1:Value) (h:aj):Out:=
 ae (some ((.int .u64 0),h)) fun y4 h=>
 ae (some ((.int .u64 0),h)) fun y5 h=>
 ae (some (x0,h)) fun y8 h=>
 ae (some (x1,h)) fun y9 h=>
 ae (C 94 [y8,y9] h) fun y10 h=>
 ae (pu (bG y10) h) fun y11 h=>
 ae (some ((.int .i64 0),h)) fun y12 h=>
 dX (iter (aM Tryz.prog C (partOf Tryz.f76 [1,1,0,1,0,0])) rounds (aJ 23 (up (bs [x0,x1]) [(4,y4),(5,y5),(8,y8),(9,y9),(10,y10),(11,y11),(12,y12)])) h) (ar Tryz.prog Tryz.f76.results.toList) (b76_4 C)
noncomputable def t76k76_2 (_C:au) (x:Nat→Value) (h:aj):Out:=
 ae (some ((x 5),h)) fun y22 h=>
 ae (some (y22,h)) fun y4 h=>
 some (y4,h)
noncomputable def t76l76_11010 (_C:au) (x:Nat→Value) (h:aj):Option (Ex×Env×aj):=
 ae (pu (bin Tryz.prog .lss 3 (x 12) (x 11)) h) fun y13 h=>
 (match y13 with
 | .bool true=>
 ae (pu (bB 1 (x 10) (x 12)) h) fun y14 h=>
 ae (aN y14 h) fun y15 h=>
 ae (some (y15,h)) fun y7 h=>
 ae (some ((x 5),h)) fun y16 h=>
 ae (pu (bin Tryz.prog .shl 25 y16 (.int .u64 8)) h) fun y17 h=>
 ae (some (y7,h)) fun y18 h=>
 ae (fc .u64 y18 h) fun y19 h=>
 ae (pu (bin Tryz.prog .or 25 y17 y19) h) fun y20 h=>
 ae (some (y20,h)) fun y5 h=>
 ae (pu (bin Tryz.prog .add 3 (x 12) (.int .i64 1)) h) fun y21 h=>
 ae (some (y21,h)) fun y12 h=>
 some (.normal,(aJ 23 (up x [(5,y5),(7,y7),(12,y12),(13,y13),(14,y14),(15,y15),(16,y16),(17,y17),(18,y18),(19,y19),(20,y20),(21,y21)])),h)
 | .bool false=>
 some (.exit 0,(aJ 23 (up x [(13,y13)])),h)
 |_=>none)
theorem t76_eq (C:au) (x0 x1:Value) (h:aj):bf Tryz.prog C Tryz.f76 [x0,x1] h=t76 C x0 x1 h:=
 (aL Tryz.prog C Tryz.f76 [x0,x1] h (by kernel_rfl)).trans (by kernel_rfl)
theorem t76k76_2_eq (C:au) (x:Nat→Value) (h:aj):k76_2 C (aJ 23 x) h=t76k76_2 C x h:=
 bg (b:=(partOf Tryz.f76 [1,1,1])) (kE:=(ar Tryz.prog Tryz.f76.results.toList)) (rE:=(ar Tryz.prog Tryz.f76.results.toList)) (xE:=(fun _ _ _=>none)) (T:=t76k76_2 C) (fun x h=>by kernel_rfl) x h
theorem t76l76_11010_eq (C:au) (x:Nat→Value) (h:aj):aM Tryz.prog C (partOf Tryz.f76 [1,1,0,1,0,0]) (aJ 23 x) h=t76l76_11010 C x h:=
 bn (T:=t76l76_11010 C) (fun x h=>by kernel_rfl) x h
noncomputable def t94 (_C:au) (x0 x1:Value) (h:aj):Out:=
 ae (some ((.slice none 0 0),h)) fun _y4 h=>
 ae (some (x0,h)) fun y6 h=>
 ae (pu (bin Tryz.prog .eql 68 y6 (.pointer none)) h) fun y7 h=>
 ae (some (y7,h)) fun y8 h=>
 ae (aq (aI y8==some false) (some (x0,h)) h) fun y9 h=>
 ae (aq (aI y8==some false) (pu (bj y9) h) h) fun y10 h=>
 ae (aq (aI y8==some false) (pu (aA y10 1) h) h) fun y11 h=>
 ae (aq (aI y8==some false) (aN y11 h) h) fun y12 h=>
 ae (aq (aI y8==some false) (pu (bin Tryz.prog .neq 35 y12 (.int .i64 0)) h) h) fun y13 h=>
 ae (match y8 with | .bool t=>some (if t then (.bool true) else y13,h)|_=>none) fun y14 h=>
 (match y14 with
 | .bool true=>
 ae (some ((.slice none 0 0),h)) fun y4_1 h=>
 some (y4_1,h)
 | .bool false=>
 ae (some (x1,h)) fun y16 h=>
 ae (pu (bin Tryz.prog .lss 3 y16 (.int .i64 0)) h) fun y17 h=>
 ae (some (y17,h)) fun y15 h=>
 (match y15 with
 | .bool true=>
 ae (some (x0,h)) fun y18 h=>
 ae (pu (bj y18) h) fun y19 h=>
 ae (pu (aA y19 1) h) fun y20 h=>
 ae (bw 1 y20 (.int .i64 2) h) fun _ h=>
 ae (some ((.slice none 0 0),h)) fun y4_1 h=>
 some (y4_1,h)
 | .bool false=>
 ae (some (x1,h)) fun y22 h=>
 ae (some (x0,h)) fun y23 h=>
 ae (pu (bj y23) h) fun y24 h=>
 ae (pu (aA y24 0) h) fun y25 h=>
 ae (aN y25 h) fun cV h=>
 ae (pu (bG cV) h) fun dn h=>
 ae (pu (bin Tryz.prog .gtr 3 y22 dn) h) fun y28 h=>
 ae (some (y28,h)) fun y21 h=>
 (match y21 with
 | .bool true=>
 ae (some (x0,h)) fun y29 h=>
 ae (pu (bj y29) h) fun y30 h=>
 ae (pu (aA y30 1) h) fun y31 h=>
 ae (bw 1 y31 (.int .i64 4) h) fun _ h=>
 ae (some ((.slice none 0 0),h)) fun y4_1 h=>
 some (y4_1,h)
 | .bool false=>
 ae (some (x0,h)) fun y32 h=>
 ae (pu (bj y32) h) fun y33 h=>
 ae (pu (aA y33 0) h) fun y34 h=>
 ae (aN y34 h) fun y35 h=>
 ae (some (x1,h)) fun y36 h=>
 ae (pu (slR 1 y35 none (some y36) none) h) fun y37 h=>
 ae (some (y37,h)) fun y5 h=>
 ae (some (x0,h)) fun y38 h=>
 ae (some (x0,h)) fun y39 h=>
 ae (pu (bj y39) h) fun y40 h=>
 ae (pu (aA y40 0) h) fun y41 h=>
 ae (aN y41 h) fun y42 h=>
 ae (some (x1,h)) fun y43 h=>
 ae (pu (slR 1 y42 (some y43) none none) h) fun y44 h=>
 ae (pu (bj y38) h) fun y45 h=>
 ae (pu (aA y45 0) h) fun y46 h=>
 ae (bw 1 y46 y44 h) fun _ h=>
 ae (some (y5,h)) fun y47 h=>
 ae (some (y47,h)) fun y4_1 h=>
 some (y4_1,h)
 |_=>none)
 |_=>none)
 |_=>none)
theorem t94_eq (C:au) (x0 x1:Value) (h:aj):bf Tryz.prog C Tryz.f94 [x0,x1] h=t94 C x0 x1 h:=
 (aL Tryz.prog C Tryz.f94 [x0,x1] h (by kernel_rfl)).trans (by kernel_rfl)
noncomputable def t128 (C:au) (x0:Value) (h:aj):Out:=
 ae (some ((.int .u64 0),h)) fun _y2 h=>
 ae (some (x0,h)) fun y3 h=>
 ae (C 76 [y3,(.int .i64 8)] h) fun y4 h=>
 ae (some (y4,h)) fun y2_1 h=>
 some (y2_1,h)
theorem t128_eq (C:au) (x0:Value) (h:aj):bf Tryz.prog C Tryz.f128 [x0] h=t128 C x0 h:=
 (aL Tryz.prog C Tryz.f128 [x0] h (by kernel_rfl)).trans (by kernel_rfl)
noncomputable def t135 (C:au) (x0:Value) (h:aj):Out:=
 ae (some ((.slice none 0 0),h)) fun _y2 h=>
 ae (some (x0,h)) fun y5 h=>
 ae (pu (bin Tryz.prog .eql 68 y5 (.pointer none)) h) fun y6 h=>
 ae (some (y6,h)) fun y7 h=>
 ae (aq (aI y7==some false) (some (x0,h)) h) fun y8 h=>
 ae (aq (aI y7==some false) (pu (bj y8) h) h) fun y9 h=>
 ae (aq (aI y7==some false) (pu (aA y9 1) h) h) fun y10 h=>
 ae (aq (aI y7==some false) (aN y10 h) h) fun y11 h=>
 ae (aq (aI y7==some false) (pu (bin Tryz.prog .neq 35 y11 (.int .i64 0)) h) h) fun y12 h=>
 ae (match y7 with | .bool t=>some (if t then (.bool true) else y12,h)|_=>none) fun y13 h=>
 (match y13 with
 | .bool true=>
 ae (some ((.slice none 0 0),h)) fun y2_1 h=>
 some (y2_1,h)
 | .bool false=>
 ae (some (x0,h)) fun y14 h=>
 ae (pu (bj y14) h) fun y15 h=>
 ae (pu (aA y15 0) h) fun y16 h=>
 ae (aN y16 h) fun y17 h=>
 ae (some (y17,h)) fun y3 h=>
 ae (some (x0,h)) fun y18 h=>
 ae (some (x0,h)) fun y19 h=>
 ae (C 76 [y19,(.int .i64 2)] h) fun y20 h=>
 ae (fc .i64 y20 h) fun y21 h=>
 ae (C 94 [y18,y21] h) fun y22 h=>
 ae (some (y22,h)) fun y4 h=>
 ae (some (x0,h)) fun y23 h=>
 ae (pu (bj y23) h) fun y24 h=>
 ae (pu (aA y24 1) h) fun y25 h=>
 ae (aN y25 h) fun cV h=>
 ae (pu (bin Tryz.prog .neq 35 cV (.int .i64 0)) h) fun dn h=>
 (match dn with
 | .bool true=>
 ae (some (x0,h)) fun y28 h=>
 ae (some (y3,h)) fun y29 h=>
 ae (pu (bj y28) h) fun y30 h=>
 ae (pu (aA y30 0) h) fun y31 h=>
 ae (bw 1 y31 y29 h) fun _ h=>
 ae (some ((.slice none 0 0),h)) fun y2_1 h=>
 some (y2_1,h)
 | .bool false=>
 ae (some (y4,h)) fun y32 h=>
 ae (C 69 [y32] h) fun y33 h=>
 ae (some (y33,h)) fun y2_1 h=>
 some (y2_1,h)
 |_=>none)
 |_=>none)
theorem t135_eq (C:au) (x0:Value) (h:aj):bf Tryz.prog C Tryz.f135 [x0] h=t135 C x0 h:=
 (aL Tryz.prog C Tryz.f135 [x0] h (by kernel_rfl)).trans (by kernel_rfl)
noncomputable def t149 (C:au) (x0:Value) (h:aj):Out:=
 ae (cL (List.replicate 32 (.int .u8 0)) h) fun y2 h=>
 ae (cL (List.replicate 32 (.int .u8 0)) h) fun y3 h=>
 ae (pu (eX 32 1 y3 none none none) h) fun y4 h=>
 ae (some (x0,h)) fun y5 h=>
 ae (C 94 [y5,(.int .i64 32)] h) fun y6 h=>
 ae (copyA 1 y4 y6 h) fun y7 h=>
 ae (bD 32 y3 h) fun y8 h=>
 ae (bw 32 y2 y8 h) fun _ h=>
 ar Tryz.prog Tryz.f149.results.toList (aJ 9 (up (bs [x0]) [(2,y2),(3,y3),(4,y4),(5,y5),(6,y6),(7,y7),(8,y8)])) h
theorem t149_eq (C:au) (x0:Value) (h:aj):bf Tryz.prog C Tryz.f149 [x0] h=t149 C x0 h:=
 (aL Tryz.prog C Tryz.f149 [x0] h (by kernel_rfl)).trans (by kernel_rfl)
end Go.Proofs.YtjghlcdidopcpaaGreatDoor

namespace Go.Proofs.YtjghlcdidopcpaaGreatDoor
open Go Go.Abs
noncomputable def t19 (C:au) (x0:Value) (h:aj):Out:=
 ae (box x0 h) fun y1 h=>
 ae (some ((.int .i64 0),h)) fun _y2 h=>
 ae (pu (aA y1 0) h) fun y7 h=>
 ae (aN y7 h) fun y8 h=>
 ae (C 35 [y8] h) fun y9 h=>
 ae (some (y9,h)) fun y6 h=>
 ae (pu (aG y6 0) h) fun y10 h=>
 ae (pu (aG y6 1) h) fun y11 h=>
 ae (cL [(.string ⟨#[]⟩),.nilFunc,.nilFunc,.nilFunc,.nilFunc] h) fun y3 h=>
 ae (bw 5 y3 y10 h) fun _ h=>
 ae (some (y11,h)) fun y4 h=>
 ae (some (y4,h)) fun y12 h=>
 ae (pu (unA .not y12) h) fun y13 h=>
 ae (some (y13,h)) fun y14 h=>
 ae (aq (aI y14==some false) (pu (aA y1 1) h) h) fun y15 h=>
 ae (aq (aI y14==some false) (aN y15 h) h) fun y16 h=>
 ae (aq (aI y14==some false) (C 46 [y16] h) h) fun y17 h=>
 ae (aq (aI y14==some false) (pu (unA .not y17) h) h) fun y18 h=>
 ae (match y14 with | .bool t=>some (if t then (.bool true) else y18,h)|_=>none) fun y19 h=>
 ae (some (y19,h)) fun y20 h=>
 ae (aq (aI y20==some false) (pu (aA y1 2) h) h) fun y21 h=>
 ae (aq (aI y20==some false) (aN y21 h) h) fun y22 h=>
 ae (aq (aI y20==some false) (C 46 [y22] h) h) fun y23 h=>
 ae (aq (aI y20==some false) (pu (unA .not y23) h) h) fun y24 h=>
 ae (match y20 with | .bool t=>some (if t then (.bool true) else y24,h)|_=>none) fun y25 h=>
 ae (some (y25,h)) fun cV h=>
 ae (aq (aI cV==some false) (pu (aA y1 1) h) h) fun dn h=>
 ae (aq (aI cV==some false) (aN dn h) h) fun y28 h=>
 ae (aq (aI cV==some false) (pu (aA y1 2) h) h) fun y29 h=>
 ae (aq (aI cV==some false) (aN y29 h) h) fun y30 h=>
 ae (aq (aI cV==some false) (pu (bin Tryz.prog .eql 3 y28 y30) h) h) fun y31 h=>
 ae (match cV with | .bool t=>some (if t then (.bool true) else y31,h)|_=>none) fun y32 h=>
 ae (some (y32,h)) fun y33 h=>
 ae (aq (aI y33==some false) (pu (aA y3 1) h) h) fun y34 h=>
 ae (aq (aI y33==some false) (aN y34 h) h) fun y35 h=>
 ae (aq (aI y33==some false) (bD 116 y1 h) h) fun y36 h=>
 ae (aq (aI y33==some false) (callA Tryz.prog C y35 [y36] h) h) fun y37 h=>
 ae (aq (aI y33==some false) (pu (unA .not y37) h) h) fun y38 h=>
 ae (match y33 with | .bool t=>some (if t then (.bool true) else y38,h)|_=>none) fun y39 h=>
 (match y39 with
 | .bool true=>
 ae (some ((.int .i64 2),h)) fun y2_1 h=>
 some (y2_1,h)
 | .bool false=>
 ae (pu (aA y3 2) h) fun y40 h=>
 ae (aN y40 h) fun y41 h=>
 ae (bD 116 y1 h) fun y42 h=>
 ae (callA Tryz.prog C y41 [y42] h) fun y43 h=>
 ae (cL Zl h) fun y5 h=>
 ae (bw 116 y5 y43 h) fun _ h=>
 let g7_0:=h
 ae (pu (aA y1 0) g7_0) fun y44 g7_1=>
 ae (aN y44 g7_1) fun y45 g7_2=>
 ae (pu (aA y1 1) g7_2) fun y46 g7_3=>
 ae (aN y46 g7_3) fun y47 g7_4=>
 ae (pu (aA y1 2) g7_4) fun y48 g7_5=>
 ae (aN y48 g7_5) fun y49 g7_6=>
 ae (pu (aA y5 0) g7_6) fun y50 g7_7=>
 ae (bw 1 y50 y45 g7_7) fun _ g7_8=>
 ae (pu (aA y5 1) g7_8) fun y51 g7_9=>
 ae (bw 1 y51 y47 g7_9) fun _ g7_10=>
 ae (pu (aA y5 2) g7_10) fun y52 g7_11=>
 ae (bw 1 y52 y49 g7_11) fun _ g7_12=>
 (match (dH true (aN y46 g7_8) y47&&(dH true (aN y48 g7_8) y49&&(dH true (aN y48 g7_10) y49&&true))) with
 |true=>
 let h:=g7_12
 ae (bD 116 y1 h) fun eJ h=>
 ae (bD 116 y5 h) fun eN h=>
 ae (C 22 [eJ,eN] h) fun y55 h=>
 ae (pu (unA .not y55) h) fun y56 h=>
 (match y56 with
 | .bool true=>
 ae (some ((.int .i64 2),h)) fun y2_1 h=>
 some (y2_1,h)
 | .bool false=>
 ae (some ((.int .i64 0),h)) fun y2_1 h=>
 some (y2_1,h)
 |_=>none)
 |false=>none)
 |_=>none)
theorem t19_eq (C:au) (x0:Value) (h:aj):bf Tryz.prog C Tryz.f19 [x0] h=t19 C x0 h:=
 (aL Tryz.prog C Tryz.f19 [x0] h (by kernel_rfl)).trans (by kernel_rfl)
noncomputable def t35 (C:au) (x0:Value) (h:aj):Out:=
 ae (cL [(.string ⟨#[]⟩),.nilFunc,.nilFunc,.nilFunc,.nilFunc] h) fun y2 h=>
 ae (some ((.bool false),h)) fun _y3 h=>
 ae (C 77 [] h) fun y5 h=>
 ae (cL [(.string ⟨#[]⟩),.nilFunc,.nilFunc,.nilFunc,.nilFunc,(.string ⟨#[]⟩),.nilFunc,.nilFunc,.nilFunc,.nilFunc,(.string ⟨#[]⟩),.nilFunc,.nilFunc,.nilFunc,.nilFunc,(.string ⟨#[]⟩),.nilFunc,.nilFunc,.nilFunc,.nilFunc,(.string ⟨#[]⟩),.nilFunc,.nilFunc,.nilFunc,.nilFunc,(.string ⟨#[]⟩),.nilFunc,.nilFunc,.nilFunc,.nilFunc,(.string ⟨#[]⟩),.nilFunc,.nilFunc,.nilFunc,.nilFunc,(.string ⟨#[]⟩),.nilFunc,.nilFunc,.nilFunc,.nilFunc,(.string ⟨#[]⟩),.nilFunc,.nilFunc,.nilFunc,.nilFunc,(.string ⟨#[]⟩),.nilFunc,.nilFunc,.nilFunc,.nilFunc,(.string ⟨#[]⟩),.nilFunc,.nilFunc,.nilFunc,.nilFunc,(.string ⟨#[]⟩),.nilFunc,.nilFunc,.nilFunc,.nilFunc,(.string ⟨#[]⟩),.nilFunc,.nilFunc,.nilFunc,.nilFunc,(.string ⟨#[]⟩),.nilFunc,.nilFunc,.nilFunc,.nilFunc] h) fun y4 h=>
 ae (bw 70 y4 y5 h) fun _ h=>
 ae (some (x0,h)) fun y6 h=>
 ae (pu (bin Tryz.prog .lss 24 y6 (.int .u8 1)) h) fun y7 h=>
 ae (some (y7,h)) fun y8 h=>
 ae (aq (aI y8==some false) (some (x0,h)) h) fun y9 h=>
 ae (aq (aI y8==some false) (fc .i64 y9 h) h) fun y10 h=>
 ae (aq (aI y8==some false) (pu (bin Tryz.prog .geq 3 y10 (.int .i64 14)) h) h) fun y11 h=>
 ae (match y8 with | .bool t=>some (if t then (.bool true) else y11,h)|_=>none) fun y12 h=>
 (match y12 with
 | .bool true=>
 ae (pu (bU [(.string ⟨#[]⟩),.nilFunc,.nilFunc,.nilFunc,.nilFunc] []) h) fun y13 h=>
 ae (bw 5 y2 y13 h) fun _ h=>
 ae (some ((.bool false),h)) fun y3_1 h=>
 ar Tryz.prog Tryz.f35.results.toList (aJ 17 (up (bs [x0]) [(2,y2),(3,y3_1),(4,y4),(5,y5),(6,y6),(7,y7),(8,y8),(9,y9),(10,y10),(11,y11),(12,y12),(13,y13)])) h
 | .bool false=>
 ae (some (x0,h)) fun y14 h=>
 ae (pu (idxA 14 5 y4 y14) h) fun y15 h=>
 ae (bD 5 y15 h) fun y16 h=>
 ae (bw 5 y2 y16 h) fun _ h=>
 ae (some ((.bool true),h)) fun y3_1 h=>
 ar Tryz.prog Tryz.f35.results.toList (aJ 17 (up (bs [x0]) [(2,y2),(3,y3_1),(4,y4),(5,y5),(6,y6),(7,y7),(8,y8),(9,y9),(10,y10),(11,y11),(12,y12),(14,y14),(15,y15),(16,y16)])) h
 |_=>none)
theorem t35_eq (C:au) (x0:Value) (h:aj):bf Tryz.prog C Tryz.f35 [x0] h=t35 C x0 h:=
 (aL Tryz.prog C Tryz.f35 [x0] h (by kernel_rfl)).trans (by kernel_rfl)
noncomputable def t46 (_C:au) (x0:Value) (h:aj):Out:=
 ae (some ((.bool false),h)) fun _y2 h=>
 ae (some (x0,h)) fun y3 h=>
 ae (pu (bin Tryz.prog .geq 3 y3 (.int .i64 0)) h) fun y4 h=>
 ae (some (y4,h)) fun y5 h=>
 ae (aq (aI y5==some true) (some (x0,h)) h) fun y6 h=>
 ae (aq (aI y5==some true) (pu (bin Tryz.prog .lss 3 y6 (.int .i64 16)) h) h) fun y7 h=>
 ae (match y5 with | .bool t=>some (if t then y7 else (.bool false),h)|_=>none) fun y8 h=>
 ae (some (y8,h)) fun y2_1 h=>
 some (y2_1,h)
theorem t46_eq (C:au) (x0:Value) (h:aj):bf Tryz.prog C Tryz.f46 [x0] h=t46 C x0 h:=
 (aL Tryz.prog C Tryz.f46 [x0] h (by kernel_rfl)).trans (by kernel_rfl)
noncomputable def t95 (C:au) (x0:Value) (h:aj):Out:=
 ae (box x0 h) fun y1 h=>
 ae (some ((.bool false),h)) fun _y2 h=>
 ae (pu (aA y1 4) h) fun y3 h=>
 ae (aN y3 h) fun y4 h=>
 ae (C 46 [y4] h) fun y5 h=>
 ae (some (y5,h)) fun y6 h=>
 ae (aq (aI y6==some true) (pu (aA y1 5) h) h) fun y7 h=>
 ae (aq (aI y6==some true) (aN y7 h) h) fun y8 h=>
 ae (aq (aI y6==some true) (C 46 [y8] h) h) fun y9 h=>
 ae (match y6 with | .bool t=>some (if t then y9 else (.bool false),h)|_=>none) fun y10 h=>
 ae (some (y10,h)) fun y11 h=>
 ae (aq (aI y11==some true) (pu (aA y1 6) h) h) fun y12 h=>
 ae (aq (aI y11==some true) (aN y12 h) h) fun y13 h=>
 ae (aq (aI y11==some true) (C 125 [y13] h) h) fun y14 h=>
 ae (match y11 with | .bool t=>some (if t then y14 else (.bool false),h)|_=>none) fun y15 h=>
 ae (some (y15,h)) fun y2_1 h=>
 some (y2_1,h)
theorem t95_eq (C:au) (x0:Value) (h:aj):bf Tryz.prog C Tryz.f95 [x0] h=t95 C x0 h:=
 (aL Tryz.prog C Tryz.f95 [x0] h (by kernel_rfl)).trans (by kernel_rfl)
noncomputable def t96 (_C:au) (x0:Value) (h:aj):Out:=
 ae (box x0 h) fun y1 h=>
 ae (cL Zl h) fun y2 h=>
 ae (pu (aA y1 3) h) fun y3 h=>
 ae (aN y3 h) fun y4 h=>
 ae (pu (aA y1 4) h) fun y5 h=>
 ae (aN y5 h) fun y6 h=>
 ae (pu (aA y1 6) h) fun y7 h=>
 ae (aN y7 h) fun y8 h=>
 ae (pu (bU Zl [(3,1,y4),(4,1,y6),(6,1,y8)]) h) fun y9 h=>
 ae (bw 116 y2 y9 h) fun _ h=>
 ar Tryz.prog Tryz.f96.results.toList (aJ 10 (up (bs [x0]) [(1,y1),(2,y2),(3,y3),(4,y4),(5,y5),(6,y6),(7,y7),(8,y8),(9,y9)])) h
theorem t96_eq (C:au) (x0:Value) (h:aj):bf Tryz.prog C Tryz.f96 [x0] h=t96 C x0 h:=
 (aL Tryz.prog C Tryz.f96 [x0] h (by kernel_rfl)).trans (by kernel_rfl)
noncomputable def t99 (_C:au) (x0:Value) (h:aj):Out:=
 ae (box x0 h) fun y1 h=>
 ae (cL Zl h) fun y2 h=>
 ae (pu (aA y1 3) h) fun y3 h=>
 ae (aN y3 h) fun y4 h=>
 ae (pu (aA y1 5) h) fun y5 h=>
 ae (aN y5 h) fun y6 h=>
 ae (pu (aA y1 6) h) fun y7 h=>
 ae (aN y7 h) fun y8 h=>
 ae (pu (bU Zl [(3,1,y4),(5,1,y6),(6,1,y8)]) h) fun y9 h=>
 ae (bw 116 y2 y9 h) fun _ h=>
 ar Tryz.prog Tryz.f99.results.toList (aJ 10 (up (bs [x0]) [(1,y1),(2,y2),(3,y3),(4,y4),(5,y5),(6,y6),(7,y7),(8,y8),(9,y9)])) h
theorem t99_eq (C:au) (x0:Value) (h:aj):bf Tryz.prog C Tryz.f99 [x0] h=t99 C x0 h:=
 (aL Tryz.prog C Tryz.f99 [x0] h (by kernel_rfl)).trans (by kernel_rfl)
noncomputable def t102 (_C:au) (x0:Value) (h:aj):Out:=
 ae (box x0 h) fun _y1 h=>
 ae (some ((.bool false),h)) fun _y2 h=>
 ae (some ((.bool true),h)) fun y2_1 h=>
 some (y2_1,h)
theorem t102_eq (C:au) (x0:Value) (h:aj):bf Tryz.prog C Tryz.f102 [x0] h=t102 C x0 h:=
 (aL Tryz.prog C Tryz.f102 [x0] h (by kernel_rfl)).trans (by kernel_rfl)
noncomputable def t103 (_C:au) (x0:Value) (h:aj):Out:=
 ae (box x0 h) fun y1 h=>
 ae (cL Zl h) fun y2 h=>
 ae (pu (aA y1 44) h) fun y3 h=>
 ae (bD 32 y3 h) fun y4 h=>
 ae (pu (bU Zl [(44,32,y4)]) h) fun y5 h=>
 ae (bw 116 y2 y5 h) fun _ h=>
 ar Tryz.prog Tryz.f103.results.toList (aJ 6 (up (bs [x0]) [(1,y1),(2,y2),(3,y3),(4,y4),(5,y5)])) h
theorem t103_eq (C:au) (x0:Value) (h:aj):bf Tryz.prog C Tryz.f103 [x0] h=t103 C x0 h:=
 (aL Tryz.prog C Tryz.f103 [x0] h (by kernel_rfl)).trans (by kernel_rfl)
noncomputable def t106 (C:au) (x0:Value) (h:aj):Out:=
 ae (box x0 h) fun y1 h=>
 ae (some ((.bool false),h)) fun _y2 h=>
 ae (pu (aA y1 76) h) fun y3 h=>
 ae (bD 37 y3 h) fun y4 h=>
 ae (C 131 [y4] h) fun y5 h=>
 ae (pu (bin Tryz.prog .eql 35 y5 (.int .i64 0)) h) fun y6 h=>
 ae (some (y6,h)) fun y7 h=>
 ae (aq (aI y7==some true) (pu (aA y1 113) h) h) fun y8 h=>
 ae (aq (aI y7==some true) (pu (aA y8 0) h) h) fun y9 h=>
 ae (aq (aI y7==some true) (aN y9 h) h) fun y10 h=>
 ae (aq (aI y7==some true) (pu (bin Tryz.prog .geq 3 y10 (.int .i64 0)) h) h) fun y11 h=>
 ae (match y7 with | .bool t=>some (if t then y11 else (.bool false),h)|_=>none) fun y12 h=>
 ae (some (y12,h)) fun y13 h=>
 ae (aq (aI y13==some true) (pu (aA y1 113) h) h) fun y14 h=>
 ae (aq (aI y13==some true) (pu (aA y14 0) h) h) fun y15 h=>
 ae (aq (aI y13==some true) (aN y15 h) h) fun y16 h=>
 ae (aq (aI y13==some true) (pu (aA y1 76) h) h) fun y17 h=>
 ae (aq (aI y13==some true) (pu (aA y17 2) h) h) fun y18 h=>
 ae (aq (aI y13==some true) (aN y18 h) h) fun y19 h=>
 ae (aq (aI y13==some true) (pu (bin Tryz.prog .lss 3 y16 y19) h) h) fun y20 h=>
 ae (match y13 with | .bool t=>some (if t then y20 else (.bool false),h)|_=>none) fun y21 h=>
 ae (some (y21,h)) fun y22 h=>
 ae (aq (aI y22==some true) (pu (aA y1 113) h) h) fun y23 h=>
 ae (aq (aI y22==some true) (pu (aA y23 1) h) h) fun y24 h=>
 ae (aq (aI y22==some true) (aN y24 h) h) fun y25 h=>
 ae (aq (aI y22==some true) (pu (bG y25) h) h) fun cV h=>
 ae (aq (aI y22==some true) (pu (bin Tryz.prog .leq 3 cV (.int .i64 8192)) h) h) fun dn h=>
 ae (match y22 with | .bool t=>some (if t then dn else (.bool false),h)|_=>none) fun y28 h=>
 ae (some (y28,h)) fun y2_1 h=>
 some (y2_1,h)
theorem t106_eq (C:au) (x0:Value) (h:aj):bf Tryz.prog C Tryz.f106 [x0] h=t106 C x0 h:=
 (aL Tryz.prog C Tryz.f106 [x0] h (by kernel_rfl)).trans (by kernel_rfl)
noncomputable def t107 (_C:au) (x0:Value) (h:aj):Out:=
 ae (box x0 h) fun y1 h=>
 ae (cL Zl h) fun y2 h=>
 ae (pu (aA y1 44) h) fun y3 h=>
 ae (bD 32 y3 h) fun y4 h=>
 ae (pu (aA y1 76) h) fun y5 h=>
 ae (bD 37 y5 h) fun y6 h=>
 ae (pu (aA y1 113) h) fun y7 h=>
 ae (bD 2 y7 h) fun y8 h=>
 ae (pu (bU Zl [(44,32,y4),(76,37,y6),(113,2,y8)]) h) fun y9 h=>
 ae (bw 116 y2 y9 h) fun _ h=>
 ar Tryz.prog Tryz.f107.results.toList (aJ 10 (up (bs [x0]) [(1,y1),(2,y2),(3,y3),(4,y4),(5,y5),(6,y6),(7,y7),(8,y8),(9,y9)])) h
theorem t107_eq (C:au) (x0:Value) (h:aj):bf Tryz.prog C Tryz.f107 [x0] h=t107 C x0 h:=
 (aL Tryz.prog C Tryz.f107 [x0] h (by kernel_rfl)).trans (by kernel_rfl)
noncomputable def t111 (C:au) (x0:Value) (h:aj):Out:=
 ae (box x0 h) fun y1 h=>
 ae (some ((.bool false),h)) fun _y2 h=>
 ae (pu (aA y1 7) h) fun y3 h=>
 ae (aN y3 h) fun y4 h=>
 ae (pu (bG y4) h) fun y5 h=>
 ae (pu (bin Tryz.prog .leq 3 y5 (.int .i64 34)) h) fun y6 h=>
 ae (some (y6,h)) fun y7 h=>
 ae (aq (aI y7==some true) (pu (aA y1 8) h) h) fun y8 h=>
 ae (aq (aI y7==some true) (aN y8 h) h) fun y9 h=>
 ae (aq (aI y7==some true) (pu (bG y9) h) h) fun y10 h=>
 ae (aq (aI y7==some true) (pu (bin Tryz.prog .leq 3 y10 (.int .i64 34)) h) h) fun y11 h=>
 ae (match y7 with | .bool t=>some (if t then y11 else (.bool false),h)|_=>none) fun y12 h=>
 ae (some (y12,h)) fun y13 h=>
 ae (aq (aI y13==some true) (pu (aA y1 9) h) h) fun y14 h=>
 ae (aq (aI y13==some true) (aN y14 h) h) fun y15 h=>
 ae (aq (aI y13==some true) (pu (bin Tryz.prog .geq 3 y15 (.int .i64 0)) h) h) fun y16 h=>
 ae (match y13 with | .bool t=>some (if t then y16 else (.bool false),h)|_=>none) fun y17 h=>
 ae (some (y17,h)) fun y18 h=>
 ae (aq (aI y18==some true) (pu (aA y1 9) h) h) fun y19 h=>
 ae (aq (aI y18==some true) (aN y19 h) h) fun y20 h=>
 ae (aq (aI y18==some true) (pu (bin Tryz.prog .leq 3 y20 (.int .i64 1048576)) h) h) fun y21 h=>
 ae (match y18 with | .bool t=>some (if t then y21 else (.bool false),h)|_=>none) fun y22 h=>
 ae (some (y22,h)) fun y23 h=>
 ae (aq (aI y23==some true) (pu (aA y1 42) h) h) fun y24 h=>
 ae (aq (aI y23==some true) (aN y24 h) h) fun y25 h=>
 ae (aq (aI y23==some true) (pu (bG y25) h) h) fun cV h=>
 ae (aq (aI y23==some true) (pu (bin Tryz.prog .leq 3 cV (.int .i64 64)) h) h) fun dn h=>
 ae (match y23 with | .bool t=>some (if t then dn else (.bool false),h)|_=>none) fun y28 h=>
 ae (some (y28,h)) fun y29 h=>
 ae (aq (aI y29==some true) (pu (aA y1 42) h) h) fun y30 h=>
 ae (aq (aI y29==some true) (aN y30 h) h) fun y31 h=>
 ae (aq (aI y29==some true) (C 136 [y31,(.func (.func 137) #[] #[])] h) h) fun y32 h=>
 ae (aq (aI y29==some true) (pu (unA .not y32) h) h) fun y33 h=>
 ae (match y29 with | .bool t=>some (if t then y33 else (.bool false),h)|_=>none) fun y34 h=>
 ae (some (y34,h)) fun y2_1 h=>
 some (y2_1,h)
theorem t111_eq (C:au) (x0:Value) (h:aj):bf Tryz.prog C Tryz.f111 [x0] h=t111 C x0 h:=
 (aL Tryz.prog C Tryz.f111 [x0] h (by kernel_rfl)).trans (by kernel_rfl)
noncomputable def t112 (_C:au) (x0:Value) (h:aj):Out:=
 ae (box x0 h) fun y1 h=>
 ae (cL Zl h) fun y2 h=>
 ae (pu (aA y1 7) h) fun y3 h=>
 ae (aN y3 h) fun y4 h=>
 ae (pu (aA y1 8) h) fun y5 h=>
 ae (aN y5 h) fun y6 h=>
 ae (pu (aA y1 9) h) fun y7 h=>
 ae (aN y7 h) fun y8 h=>
 ae (pu (aA y1 10) h) fun y9 h=>
 ae (bD 32 y9 h) fun y10 h=>
 ae (pu (bU Zl [(7,1,y4),(8,1,y6),(9,1,y8),(10,32,y10)]) h) fun y11 h=>
 ae (bw 116 y2 y11 h) fun _ h=>
 ar Tryz.prog Tryz.f112.results.toList (aJ 12 (up (bs [x0]) [(1,y1),(2,y2),(3,y3),(4,y4),(5,y5),(6,y6),(7,y7),(8,y8),(9,y9),(10,y10),(11,y11)])) h
theorem t112_eq (C:au) (x0:Value) (h:aj):bf Tryz.prog C Tryz.f112 [x0] h=t112 C x0 h:=
 (aL Tryz.prog C Tryz.f112 [x0] h (by kernel_rfl)).trans (by kernel_rfl)
noncomputable def t115 (_C:au) (x0:Value) (h:aj):Out:=
 ae (box x0 h) fun y1 h=>
 ae (cL Zl h) fun y2 h=>
 ae (pu (aA y1 7) h) fun y3 h=>
 ae (aN y3 h) fun y4 h=>
 ae (pu (aA y1 8) h) fun y5 h=>
 ae (aN y5 h) fun y6 h=>
 ae (pu (aA y1 43) h) fun y7 h=>
 ae (aN y7 h) fun y8 h=>
 ae (pu (aA y1 42) h) fun y9 h=>
 ae (aN y9 h) fun y10 h=>
 ae (pu (bU Zl [(7,1,y4),(8,1,y6),(43,1,y8),(42,1,y10)]) h) fun y11 h=>
 ae (bw 116 y2 y11 h) fun _ h=>
 ar Tryz.prog Tryz.f115.results.toList (aJ 12 (up (bs [x0]) [(1,y1),(2,y2),(3,y3),(4,y4),(5,y5),(6,y6),(7,y7),(8,y8),(9,y9),(10,y10),(11,y11)])) h
theorem t115_eq (C:au) (x0:Value) (h:aj):bf Tryz.prog C Tryz.f115 [x0] h=t115 C x0 h:=
 (aL Tryz.prog C Tryz.f115 [x0] h (by kernel_rfl)).trans (by kernel_rfl)
noncomputable def t118 (_C:au) (x0:Value) (h:aj):Out:=
 ae (box x0 h) fun y1 h=>
 ae (some ((.bool false),h)) fun _y2 h=>
 ae (pu (aA y1 115) h) fun y3 h=>
 ae (aN y3 h) fun y4 h=>
 ae (pu (bin Tryz.prog .geq 35 y4 (.int .i64 0)) h) fun y5 h=>
 ae (some (y5,h)) fun y6 h=>
 ae (aq (aI y6==some true) (pu (aA y1 115) h) h) fun y7 h=>
 ae (aq (aI y6==some true) (aN y7 h) h) fun y8 h=>
 ae (aq (aI y6==some true) (pu (bin Tryz.prog .leq 35 y8 (.int .i64 999)) h) h) fun y9 h=>
 ae (match y6 with | .bool t=>some (if t then y9 else (.bool false),h)|_=>none) fun y10 h=>
 ae (some (y10,h)) fun y2_1 h=>
 some (y2_1,h)
theorem t118_eq (C:au) (x0:Value) (h:aj):bf Tryz.prog C Tryz.f118 [x0] h=t118 C x0 h:=
 (aL Tryz.prog C Tryz.f118 [x0] h (by kernel_rfl)).trans (by kernel_rfl)
noncomputable def t119 (_C:au) (x0:Value) (h:aj):Out:=
 ae (box x0 h) fun y1 h=>
 ae (cL Zl h) fun y2 h=>
 ae (pu (aA y1 44) h) fun y3 h=>
 ae (bD 32 y3 h) fun y4 h=>
 ae (pu (aA y1 115) h) fun y5 h=>
 ae (aN y5 h) fun y6 h=>
 ae (pu (bU Zl [(44,32,y4),(115,1,y6)]) h) fun y7 h=>
 ae (bw 116 y2 y7 h) fun _ h=>
 ar Tryz.prog Tryz.f119.results.toList (aJ 8 (up (bs [x0]) [(1,y1),(2,y2),(3,y3),(4,y4),(5,y5),(6,y6),(7,y7)])) h
theorem t119_eq (C:au) (x0:Value) (h:aj):bf Tryz.prog C Tryz.f119 [x0] h=t119 C x0 h:=
 (aL Tryz.prog C Tryz.f119 [x0] h (by kernel_rfl)).trans (by kernel_rfl)
noncomputable def t125 (C:au) (x0:Value) (h:aj):Out:=
 ae (some ((.bool false),h)) fun _y2 h=>
 ae (some (x0,h)) fun y3 h=>
 ae (pu (bG y3) h) fun y4 h=>
 ae (pu (bin Tryz.prog .geq 3 y4 (.int .i64 1)) h) fun y5 h=>
 ae (some (y5,h)) fun y6 h=>
 ae (aq (aI y6==some true) (some (x0,h)) h) fun y7 h=>
 ae (aq (aI y6==some true) (pu (bG y7) h) h) fun y8 h=>
 ae (aq (aI y6==some true) (pu (bin Tryz.prog .leq 3 y8 (.int .i64 16)) h) h) fun y9 h=>
 ae (match y6 with | .bool t=>some (if t then y9 else (.bool false),h)|_=>none) fun y10 h=>
 ae (some (y10,h)) fun y11 h=>
 ae (aq (aI y11==some true) (some (x0,h)) h) fun y12 h=>
 ae (aq (aI y11==some true) (C 145 [y12,(.func (.func 146) #[] #[])] h) h) fun y13 h=>
 ae (aq (aI y11==some true) (pu (unA .not y13) h) h) fun y14 h=>
 ae (match y11 with | .bool t=>some (if t then y14 else (.bool false),h)|_=>none) fun y15 h=>
 ae (some (y15,h)) fun y2_1 h=>
 some (y2_1,h)
theorem t125_eq (C:au) (x0:Value) (h:aj):bf Tryz.prog C Tryz.f125 [x0] h=t125 C x0 h:=
 (aL Tryz.prog C Tryz.f125 [x0] h (by kernel_rfl)).trans (by kernel_rfl)
noncomputable def t131 (C:au) (x0:Value) (h:aj):Out:=
 ae (box x0 h) fun y1 h=>
 ae (some ((.int .i64 0),h)) fun _y2 h=>
 ae (pu (aA y1 0) h) fun y3 h=>
 ae (aN y3 h) fun y4 h=>
 ae (pu (aA y1 1) h) fun y5 h=>
 ae (aN y5 h) fun y6 h=>
 ae (pu (aA y1 2) h) fun y7 h=>
 ae (aN y7 h) fun y8 h=>
 ae (C 148 [y4,y6,y8] h) fun y9 h=>
 ae (pu (unA .not y9) h) fun y10 h=>
 ae (some (y10,h)) fun y11 h=>
 ae (aq (aI y11==some false) (pu (aA y1 3) h) h) fun y12 h=>
 ae (aq (aI y11==some false) (aN y12 h) h) fun y13 h=>
 ae (aq (aI y11==some false) (pu (bin Tryz.prog .lss 3 y13 (.int .i64 0)) h) h) fun y14 h=>
 ae (match y11 with | .bool t=>some (if t then (.bool true) else y14,h)|_=>none) fun y15 h=>
 ae (some (y15,h)) fun y16 h=>
 ae (aq (aI y16==some false) (pu (aA y1 3) h) h) fun y17 h=>
 ae (aq (aI y16==some false) (aN y17 h) h) fun y18 h=>
 ae (aq (aI y16==some false) (pu (bin Tryz.prog .gtr 3 y18 (.int .i64 8192)) h) h) fun y19 h=>
 ae (match y16 with | .bool t=>some (if t then (.bool true) else y19,h)|_=>none) fun y20 h=>
 ae (some (y20,h)) fun y21 h=>
 ae (aq (aI y21==some false) (pu (aA y1 36) h) h) fun y22 h=>
 ae (aq (aI y21==some false) (aN y22 h) h) fun y23 h=>
 ae (aq (aI y21==some false) (pu (bG y23) h) h) fun y24 h=>
 ae (aq (aI y21==some false) (pu (aA y1 2) h) h) fun y25 h=>
 ae (aq (aI y21==some false) (aN y25 h) h) fun cV h=>
 ae (aq (aI y21==some false) (pu (bin Tryz.prog .neq 3 y24 cV) h) h) fun dn h=>
 ae (match y21 with | .bool t=>some (if t then (.bool true) else dn,h)|_=>none) fun y28 h=>
 (match y28 with
 | .bool true=>
 ae (some ((.int .i64 2),h)) fun y2_1 h=>
 some (y2_1,h)
 | .bool false=>
 ae (some ((.int .i64 0),h)) fun y2_1 h=>
 some (y2_1,h)
 |_=>none)
theorem t131_eq (C:au) (x0:Value) (h:aj):bf Tryz.prog C Tryz.f131 [x0] h=t131 C x0 h:=
 (aL Tryz.prog C Tryz.f131 [x0] h (by kernel_rfl)).trans (by kernel_rfl)
noncomputable def t136 (C:au) (x0 x1:Value) (h:aj):Out:=
 ae (some ((.bool false),h)) fun _y4 h=>
 ae (some (x0,h)) fun y5 h=>
 ae (some (x1,h)) fun y6 h=>
 ae (C 150 [y5,y6] h) fun y7 h=>
 ae (pu (bin Tryz.prog .geq 3 y7 (.int .i64 0)) h) fun y8 h=>
 ae (some (y8,h)) fun y4_1 h=>
 some (y4_1,h)
theorem t136_eq (C:au) (x0 x1:Value) (h:aj):bf Tryz.prog C Tryz.f136 [x0,x1] h=t136 C x0 x1 h:=
 (aL Tryz.prog C Tryz.f136 [x0,x1] h (by kernel_rfl)).trans (by kernel_rfl)
noncomputable def t137 (C:au) (x0:Value) (h:aj):Out:=
 ae (box x0 h) fun y1 h=>
 ae (some ((.bool false),h)) fun _y2 h=>
 ae (bD 39 y1 h) fun y3 h=>
 ae (C 138 [y3] h) fun y4 h=>
 ae (pu (unA .not y4) h) fun y5 h=>
 ae (some (y5,h)) fun y2_1 h=>
 some (y2_1,h)
theorem t137_eq (C:au) (x0:Value) (h:aj):bf Tryz.prog C Tryz.f137 [x0] h=t137 C x0 h:=
 (aL Tryz.prog C Tryz.f137 [x0] h (by kernel_rfl)).trans (by kernel_rfl)
noncomputable def t138 (C:au) (x0:Value) (h:aj):Out:=
 ae (box x0 h) fun y1 h=>
 ae (some ((.bool false),h)) fun _y2 h=>
 ae (pu (aA y1 0) h) fun y3 h=>
 ae (aN y3 h) fun y4 h=>
 ae (pu (bin Tryz.prog .eql 59 y4 (.int .u8 1)) h) fun y6 h=>
 ae (some (y6,h)) fun y5 h=>
 (match y5 with
 | .bool true=>
 ae (bD 39 y1 h) fun y7 h=>
 ae (pu (aA y1 0) h) fun y8 h=>
 ae (aN y8 h) fun y9 h=>
 ae (pu (aA y1 33) h) fun y10 h=>
 ae (aN y10 h) fun y11 h=>
 ae (pu (aA y1 34) h) fun y12 h=>
 ae (aN y12 h) fun y13 h=>
 ae (pu (bU [(.int .u8 0),(.int .u8 0),(.int .u8 0),(.int .u8 0),(.int .u8 0),(.int .u8 0),(.int .u8 0),(.int .u8 0),(.int .u8 0),(.int .u8 0),(.int .u8 0),(.int .u8 0),(.int .u8 0),(.int .u8 0),(.int .u8 0),(.int .u8 0),(.int .u8 0),(.int .u8 0),(.int .u8 0),(.int .u8 0),(.int .u8 0),(.int .u8 0),(.int .u8 0),(.int .u8 0),(.int .u8 0),(.int .u8 0),(.int .u8 0),(.int .u8 0),(.int .u8 0),(.int .u8 0),(.int .u8 0),(.int .u8 0),(.int .u8 0),(.int .i64 0),(.int .u64 0),(.int .u64 0),(.bool false),(.int .i64 0),(.int .i64 0)] [(0,1,y9),(33,1,y11),(34,1,y13)]) h) fun y14 h=>
 ae (pu (bin Tryz.prog .eql 61 y7 y14) h) fun y15 h=>
 ae (some (y15,h)) fun y16 h=>
 ae (aq (aI y16==some true) (bD 39 y1 h) h) fun y17 h=>
 ae (aq (aI y16==some true) (C 151 [y17] h) h) fun y18 h=>
 ae (match y16 with | .bool t=>some (if t then y18 else (.bool false),h)|_=>none) fun y19 h=>
 ae (some (y19,h)) fun y2_1 h=>
 some (y2_1,h)
 | .bool false=>
 ae (pu (bin Tryz.prog .eql 59 y4 (.int .u8 2)) h) fun y21 h=>
 ae (some (y21,h)) fun y20 h=>
 (match y20 with
 | .bool true=>
 ae (bD 39 y1 h) fun y22 h=>
 ae (pu (aA y1 0) h) fun y23 h=>
 ae (aN y23 h) fun y24 h=>
 ae (pu (aA y1 1) h) fun y25 h=>
 ae (bD 32 y25 h) fun cV h=>
 ae (pu (bU [(.int .u8 0),(.int .u8 0),(.int .u8 0),(.int .u8 0),(.int .u8 0),(.int .u8 0),(.int .u8 0),(.int .u8 0),(.int .u8 0),(.int .u8 0),(.int .u8 0),(.int .u8 0),(.int .u8 0),(.int .u8 0),(.int .u8 0),(.int .u8 0),(.int .u8 0),(.int .u8 0),(.int .u8 0),(.int .u8 0),(.int .u8 0),(.int .u8 0),(.int .u8 0),(.int .u8 0),(.int .u8 0),(.int .u8 0),(.int .u8 0),(.int .u8 0),(.int .u8 0),(.int .u8 0),(.int .u8 0),(.int .u8 0),(.int .u8 0),(.int .i64 0),(.int .u64 0),(.int .u64 0),(.bool false),(.int .i64 0),(.int .i64 0)] [(0,1,y24),(1,32,cV)]) h) fun dn h=>
 ae (pu (bin Tryz.prog .eql 61 y22 dn) h) fun y28 h=>
 ae (some (y28,h)) fun y2_1 h=>
 some (y2_1,h)
 | .bool false=>
 ae (pu (bin Tryz.prog .eql 59 y4 (.int .u8 3)) h) fun y30 h=>
 ae (some (y30,h)) fun y29 h=>
 (match y29 with
 | .bool true=>
 ae (bD 39 y1 h) fun y31 h=>
 ae (C 151 [y31] h) fun y32 h=>
 ae (some (y32,h)) fun y33 h=>
 ae (aq (aI y33==some true) (pu (aA y1 35) h) h) fun y34 h=>
 ae (aq (aI y33==some true) (aN y34 h) h) fun y35 h=>
 ae (aq (aI y33==some true) (pu (bin Tryz.prog .geq 25 y35 (.int .u64 1)) h) h) fun y36 h=>
 ae (match y33 with | .bool t=>some (if t then y36 else (.bool false),h)|_=>none) fun y37 h=>
 ae (some (y37,h)) fun y38 h=>
 ae (aq (aI y38==some true) (pu (aA y1 37) h) h) fun y39 h=>
 ae (aq (aI y38==some true) (aN y39 h) h) fun y40 h=>
 ae (aq (aI y38==some true) (pu (bin Tryz.prog .leq 3 (.int .i64 1) y40) h) h) fun y41 h=>
 ae (match y38 with | .bool t=>some (if t then y41 else (.bool false),h)|_=>none) fun y42 h=>
 ae (some (y42,h)) fun y43 h=>
 ae (aq (aI y43==some true) (pu (aA y1 37) h) h) fun y44 h=>
 ae (aq (aI y43==some true) (aN y44 h) h) fun y45 h=>
 ae (aq (aI y43==some true) (pu (aA y1 38) h) h) fun y46 h=>
 ae (aq (aI y43==some true) (aN y46 h) h) fun y47 h=>
 ae (aq (aI y43==some true) (pu (bin Tryz.prog .leq 3 y45 y47) h) h) fun y48 h=>
 ae (match y43 with | .bool t=>some (if t then y48 else (.bool false),h)|_=>none) fun y49 h=>
 ae (some (y49,h)) fun y50 h=>
 ae (aq (aI y50==some true) (pu (aA y1 38) h) h) fun y51 h=>
 ae (aq (aI y50==some true) (aN y51 h) h) fun y52 h=>
 ae (aq (aI y50==some true) (pu (bin Tryz.prog .leq 3 y52 (.int .i64 255)) h) h) fun eJ h=>
 ae (match y50 with | .bool t=>some (if t then eJ else (.bool false),h)|_=>none) fun eN h=>
 ae (some (eN,h)) fun y2_1 h=>
 some (y2_1,h)
 | .bool false=>
 ae (some ((.bool false),h)) fun y2_1 h=>
 some (y2_1,h)
 |_=>none)
 |_=>none)
 |_=>none)
theorem t138_eq (C:au) (x0:Value) (h:aj):bf Tryz.prog C Tryz.f138 [x0] h=t138 C x0 h:=
 (aL Tryz.prog C Tryz.f138 [x0] h (by kernel_rfl)).trans (by kernel_rfl)
noncomputable def t145 (C:au) (x0 x1:Value) (h:aj):Out:=
 ae (some ((.bool false),h)) fun _y4 h=>
 ae (some (x0,h)) fun y5 h=>
 ae (some (x1,h)) fun y6 h=>
 ae (C 157 [y5,y6] h) fun y7 h=>
 ae (pu (bin Tryz.prog .geq 3 y7 (.int .i64 0)) h) fun y8 h=>
 ae (some (y8,h)) fun y4_1 h=>
 some (y4_1,h)
theorem t145_eq (C:au) (x0 x1:Value) (h:aj):bf Tryz.prog C Tryz.f145 [x0,x1] h=t145 C x0 x1 h:=
 (aL Tryz.prog C Tryz.f145 [x0,x1] h (by kernel_rfl)).trans (by kernel_rfl)
noncomputable def t146 (C:au) (x0:Value) (h:aj):Out:=
 ae (box x0 h) fun y1 h=>
 ae (some ((.bool false),h)) fun _y2 h=>
 ae (bD 2 y1 h) fun y3 h=>
 ae (C 147 [y3] h) fun y4 h=>
 ae (pu (unA .not y4) h) fun y5 h=>
 ae (some (y5,h)) fun y2_1 h=>
 some (y2_1,h)
theorem t146_eq (C:au) (x0:Value) (h:aj):bf Tryz.prog C Tryz.f146 [x0] h=t146 C x0 h:=
 (aL Tryz.prog C Tryz.f146 [x0] h (by kernel_rfl)).trans (by kernel_rfl)
noncomputable def t147 (_C:au) (x0:Value) (h:aj):Out:=
 ae (box x0 h) fun y1 h=>
 ae (some ((.bool false),h)) fun _y2 h=>
 ae (pu (aA y1 1) h) fun y3 h=>
 ae (aN y3 h) fun y4 h=>
 ae (pu (bin Tryz.prog .leq 56 y4 (.int .u8 4)) h) fun y5 h=>
 ae (some (y5,h)) fun y6 h=>
 ae (aq (aI y6==some true) (pu (aA y1 0) h) h) fun y7 h=>
 ae (aq (aI y6==some true) (aN y7 h) h) fun y8 h=>
 ae (aq (aI y6==some true) (pu (bin Tryz.prog .eql 25 y8 (.int .u64 0)) h) h) fun y9 h=>
 ae (aq (aI y6==some true) (pu (aA y1 1) h) h) fun y10 h=>
 ae (aq (aI y6==some true) (aN y10 h) h) fun y11 h=>
 ae (aq (aI y6==some true) (pu (bin Tryz.prog .eql 56 y11 (.int .u8 0)) h) h) fun y12 h=>
 ae (aq (aI y6==some true) (pu (bin Tryz.prog .eql 4 y9 y12) h) h) fun y13 h=>
 ae (match y6 with | .bool t=>some (if t then y13 else (.bool false),h)|_=>none) fun y14 h=>
 ae (some (y14,h)) fun y2_1 h=>
 some (y2_1,h)
theorem t147_eq (C:au) (x0:Value) (h:aj):bf Tryz.prog C Tryz.f147 [x0] h=t147 C x0 h:=
 (aL Tryz.prog C Tryz.f147 [x0] h (by kernel_rfl)).trans (by kernel_rfl)
noncomputable def t148 (_C:au) (x0 x1 x2:Value) (h:aj):Out:=
 ae (some ((.bool false),h)) fun _y6 h=>
 ae (some (x0,h)) fun y7 h=>
 ae (pu (bin Tryz.prog .leq 3 (.int .i64 1) y7) h) fun y8 h=>
 ae (some (y8,h)) fun y9 h=>
 ae (aq (aI y9==some true) (some (x0,h)) h) fun y10 h=>
 ae (aq (aI y9==some true) (some (x1,h)) h) fun y11 h=>
 ae (aq (aI y9==some true) (pu (bin Tryz.prog .leq 3 y10 y11) h) h) fun y12 h=>
 ae (match y9 with | .bool t=>some (if t then y12 else (.bool false),h)|_=>none) fun y13 h=>
 ae (some (y13,h)) fun y14 h=>
 ae (aq (aI y14==some true) (some (x1,h)) h) fun y15 h=>
 ae (aq (aI y14==some true) (some (x2,h)) h) fun y16 h=>
 ae (aq (aI y14==some true) (pu (bin Tryz.prog .leq 3 y15 y16) h) h) fun y17 h=>
 ae (match y14 with | .bool t=>some (if t then y17 else (.bool false),h)|_=>none) fun y18 h=>
 ae (some (y18,h)) fun y19 h=>
 ae (aq (aI y19==some true) (some (x2,h)) h) fun y20 h=>
 ae (aq (aI y19==some true) (pu (bin Tryz.prog .leq 3 y20 (.int .i64 255)) h) h) fun y21 h=>
 ae (match y19 with | .bool t=>some (if t then y21 else (.bool false),h)|_=>none) fun y22 h=>
 ae (some (y22,h)) fun y6_1 h=>
 some (y6_1,h)
theorem t148_eq (C:au) (x0 x1 x2:Value) (h:aj):bf Tryz.prog C Tryz.f148 [x0,x1,x2] h=t148 C x0 x1 x2 h:=
 (aL Tryz.prog C Tryz.f148 [x0,x1,x2] h (by kernel_rfl)).trans (by kernel_rfl)
noncomputable def k150_1 (C:au) (e:Env) (h:aj):Out:=aT Tryz.prog C (partOf Tryz.f150 [1,1]) e h (ar Tryz.prog Tryz.f150.results.toList) (ar Tryz.prog Tryz.f150.results.toList) (fun _ _ _=>none)
noncomputable def b150_3 (C:au) (i:Nat) (e:Env) (h:aj):Out:=if i=0 then (k150_1 C) e h else (fun _ _ _=>none) i e h
noncomputable def t150 (C:au) (x0 x1:Value) (h:aj):Out:=
 ae (some ((.int .i64 0),h)) fun y4 h=>
 ae (some (x0,h)) fun y6 h=>
 ae (pu (bG y6) h) fun y7 h=>
 ae (some ((.int .i64 0),h)) fun y8 h=>
 dX (iter (aM Tryz.prog C (partOf Tryz.f150 [1,0,1,0,0])) rounds (aJ 19 (up (bs [x0,x1]) [(4,y4),(6,y6),(7,y7),(8,y8)])) h) (ar Tryz.prog Tryz.f150.results.toList) (b150_3 C)
noncomputable def t150k150_1 (_C:au) (_x:Nat→Value) (h:aj):Out:=
 ae (some ((.int .i64 (-1)),h)) fun y4 h=>
 some (y4,h)
noncomputable def t150l150_1010 (C:au) (x:Nat→Value) (h:aj):Option (Ex×Env×aj):=
 ae (pu (bin Tryz.prog .lss 3 (x 8) (x 7)) h) fun y9 h=>
 (match y9 with
 | .bool true=>
 ae (some ((x 8),h)) fun y10 h=>
 ae (some (y10,h)) fun y5 h=>
 ae (some ((x 1),h)) fun y11 h=>
 ae (some ((x 0),h)) fun y12 h=>
 ae (some (y5,h)) fun y13 h=>
 ae (pu (bB 39 y12 y13) h) fun y14 h=>
 ae (bD 39 y14 h) fun y15 h=>
 ae (callA Tryz.prog C y11 [y15] h) fun y16 h=>
 (match y16 with
 | .bool true=>
 ae (some (y5,h)) fun y17 h=>
 ae (some (y17,h)) fun y4 h=>
 some (.ret,(aJ 19 (up x [(4,y4),(5,y5),(9,y9),(10,y10),(11,y11),(12,y12),(13,y13),(14,y14),(15,y15),(16,y16),(17,y17)])),h)
 | .bool false=>
 ae (pu (bin Tryz.prog .add 3 (x 8) (.int .i64 1)) h) fun y18 h=>
 ae (some (y18,h)) fun y8 h=>
 some (.normal,(aJ 19 (up x [(5,y5),(8,y8),(9,y9),(10,y10),(11,y11),(12,y12),(13,y13),(14,y14),(15,y15),(16,y16),(18,y18)])),h)
 |_=>none)
 | .bool false=>
 some (.exit 0,(aJ 19 (up x [(9,y9)])),h)
 |_=>none)
theorem t150_eq (C:au) (x0 x1:Value) (h:aj):bf Tryz.prog C Tryz.f150 [x0,x1] h=t150 C x0 x1 h:=
 (aL Tryz.prog C Tryz.f150 [x0,x1] h (by kernel_rfl)).trans (by kernel_rfl)
theorem t150k150_1_eq (C:au) (x:Nat→Value) (h:aj):k150_1 C (aJ 19 x) h=t150k150_1 C x h:=
 bg (b:=(partOf Tryz.f150 [1,1])) (kE:=(ar Tryz.prog Tryz.f150.results.toList)) (rE:=(ar Tryz.prog Tryz.f150.results.toList)) (xE:=(fun _ _ _=>none)) (T:=t150k150_1 C) (fun x h=>by kernel_rfl) x h
theorem t150l150_1010_eq (C:au) (x:Nat→Value) (h:aj):aM Tryz.prog C (partOf Tryz.f150 [1,0,1,0,0]) (aJ 19 x) h=t150l150_1010 C x h:=
 bn (T:=t150l150_1010 C) (fun x h=>by kernel_rfl) x h
noncomputable def t151 (_C:au) (x0:Value) (h:aj):Out:=
 ae (box x0 h) fun y1 h=>
 ae (some ((.bool false),h)) fun _y2 h=>
 ae (pu (aA y1 33) h) fun y3 h=>
 ae (aN y3 h) fun y4 h=>
 ae (pu (bin Tryz.prog .geq 3 y4 (.int .i64 0)) h) fun y5 h=>
 ae (some (y5,h)) fun y6 h=>
 ae (aq (aI y6==some true) (pu (aA y1 33) h) h) fun y7 h=>
 ae (aq (aI y6==some true) (aN y7 h) h) fun y8 h=>
 ae (aq (aI y6==some true) (pu (bin Tryz.prog .lss 3 y8 (.int .i64 16)) h) h) fun y9 h=>
 ae (match y6 with | .bool t=>some (if t then y9 else (.bool false),h)|_=>none) fun y10 h=>
 ae (some (y10,h)) fun y11 h=>
 ae (aq (aI y11==some true) (pu (aA y1 34) h) h) fun y12 h=>
 ae (aq (aI y11==some true) (aN y12 h) h) fun y13 h=>
 ae (aq (aI y11==some true) (pu (bin Tryz.prog .geq 25 y13 (.int .u64 1)) h) h) fun y14 h=>
 ae (match y11 with | .bool t=>some (if t then y14 else (.bool false),h)|_=>none) fun y15 h=>
 ae (some (y15,h)) fun y2_1 h=>
 some (y2_1,h)
theorem t151_eq (C:au) (x0:Value) (h:aj):bf Tryz.prog C Tryz.f151 [x0] h=t151 C x0 h:=
 (aL Tryz.prog C Tryz.f151 [x0] h (by kernel_rfl)).trans (by kernel_rfl)
noncomputable def k157_1 (C:au) (e:Env) (h:aj):Out:=aT Tryz.prog C (partOf Tryz.f157 [1,1]) e h (ar Tryz.prog Tryz.f157.results.toList) (ar Tryz.prog Tryz.f157.results.toList) (fun _ _ _=>none)
noncomputable def b157_3 (C:au) (i:Nat) (e:Env) (h:aj):Out:=if i=0 then (k157_1 C) e h else (fun _ _ _=>none) i e h
noncomputable def t157 (C:au) (x0 x1:Value) (h:aj):Out:=
 ae (some ((.int .i64 0),h)) fun y4 h=>
 ae (some (x0,h)) fun y6 h=>
 ae (pu (bG y6) h) fun y7 h=>
 ae (some ((.int .i64 0),h)) fun y8 h=>
 dX (iter (aM Tryz.prog C (partOf Tryz.f157 [1,0,1,0,0])) rounds (aJ 19 (up (bs [x0,x1]) [(4,y4),(6,y6),(7,y7),(8,y8)])) h) (ar Tryz.prog Tryz.f157.results.toList) (b157_3 C)
noncomputable def t157k157_1 (_C:au) (_x:Nat→Value) (h:aj):Out:=
 ae (some ((.int .i64 (-1)),h)) fun y4 h=>
 some (y4,h)
noncomputable def t157l157_1010 (C:au) (x:Nat→Value) (h:aj):Option (Ex×Env×aj):=
 ae (pu (bin Tryz.prog .lss 3 (x 8) (x 7)) h) fun y9 h=>
 (match y9 with
 | .bool true=>
 ae (some ((x 8),h)) fun y10 h=>
 ae (some (y10,h)) fun y5 h=>
 ae (some ((x 1),h)) fun y11 h=>
 ae (some ((x 0),h)) fun y12 h=>
 ae (some (y5,h)) fun y13 h=>
 ae (pu (bB 2 y12 y13) h) fun y14 h=>
 ae (bD 2 y14 h) fun y15 h=>
 ae (callA Tryz.prog C y11 [y15] h) fun y16 h=>
 (match y16 with
 | .bool true=>
 ae (some (y5,h)) fun y17 h=>
 ae (some (y17,h)) fun y4 h=>
 some (.ret,(aJ 19 (up x [(4,y4),(5,y5),(9,y9),(10,y10),(11,y11),(12,y12),(13,y13),(14,y14),(15,y15),(16,y16),(17,y17)])),h)
 | .bool false=>
 ae (pu (bin Tryz.prog .add 3 (x 8) (.int .i64 1)) h) fun y18 h=>
 ae (some (y18,h)) fun y8 h=>
 some (.normal,(aJ 19 (up x [(5,y5),(8,y8),(9,y9),(10,y10),(11,y11),(12,y12),(13,y13),(14,y14),(15,y15),(16,y16),(18,y18)])),h)
 |_=>none)
 | .bool false=>
 some (.exit 0,(aJ 19 (up x [(9,y9)])),h)
 |_=>none)
theorem t157_eq (C:au) (x0 x1:Value) (h:aj):bf Tryz.prog C Tryz.f157 [x0,x1] h=t157 C x0 x1 h:=
 (aL Tryz.prog C Tryz.f157 [x0,x1] h (by kernel_rfl)).trans (by kernel_rfl)
theorem t157k157_1_eq (C:au) (x:Nat→Value) (h:aj):k157_1 C (aJ 19 x) h=t157k157_1 C x h:=
 bg (b:=(partOf Tryz.f157 [1,1])) (kE:=(ar Tryz.prog Tryz.f157.results.toList)) (rE:=(ar Tryz.prog Tryz.f157.results.toList)) (xE:=(fun _ _ _=>none)) (T:=t157k157_1 C) (fun x h=>by kernel_rfl) x h
theorem t157l157_1010_eq (C:au) (x:Nat→Value) (h:aj):aM Tryz.prog C (partOf Tryz.f157 [1,0,1,0,0]) (aJ 19 x) h=t157l157_1010 C x h:=
 bn (T:=t157l157_1010 C) (fun x h=>by kernel_rfl) x h
end Go.Proofs.YtjghlcdidopcpaaGreatDoor

namespace Go.Proofs.YtjghlcdidopcpaaGreatDoor
open Go Go.Abs
noncomputable def t13 (C:au) (x0:Value) (h:aj):Out:=
 ae (cL Zl h) fun y2 h=>
 ae (some ((.int .i64 0),h)) fun _y3 h=>
 ae (some (x0,h)) fun y13 h=>
 ae (C 31 [y13] h) fun y14 h=>
 ae (some (y14,h)) fun y12 h=>
 ae (pu (aG y12 0) h) fun y15 h=>
 ae (pu (aG y12 1) h) fun y16 h=>
 ae (some (y15,h)) fun y4 h=>
 ae (some (y16,h)) fun y5 h=>
 ae (some (y5,h)) fun y18 h=>
 ae (pu (bin Tryz.prog .neq 35 y18 (.int .i64 0)) h) fun y19 h=>
 ae (some (y19,h)) fun y17 h=>
 (match y17 with
 | .bool true=>
 ae (pu (bU Zl []) h) fun y20 h=>
 ae (some (y5,h)) fun y21 h=>
 ae (bw 116 y2 y20 h) fun _ h=>
 ae (some (y21,h)) fun y3_1 h=>
 ar Tryz.prog Tryz.f13.results.toList (aJ 92 (up (bs [x0]) [(2,y2),(3,y3_1),(4,y4),(5,y5),(12,y12),(13,y13),(14,y14),(15,y15),(16,y16),(17,y17),(18,y18),(19,y19),(20,y20),(21,y21)])) h
 | .bool false=>
 ae (some (x0,h)) fun y23 h=>
 ae (pu (bG y23) h) fun y24 h=>
 ae (some (y4,h)) fun y25 h=>
 ae (pu (bin Tryz.prog .lss 3 y24 y25) h) fun cV h=>
 ae (some (cV,h)) fun y22 h=>
 (match y22 with
 | .bool true=>
 ae (pu (bU Zl []) h) fun dn h=>
 ae (bw 116 y2 dn h) fun _ h=>
 ae (some ((.int .i64 4),h)) fun y3_1 h=>
 ar Tryz.prog Tryz.f13.results.toList (aJ 92 (up (bs [x0]) [(2,y2),(3,y3_1),(4,y4),(5,y5),(12,y12),(13,y13),(14,y14),(15,y15),(16,y16),(17,y17),(18,y18),(19,y19),(22,y22),(23,y23),(24,y24),(25,y25),(26,cV),(27,dn)])) h
 | .bool false=>
 ae (some (x0,h)) fun y29 h=>
 ae (pu (bG y29) h) fun y30 h=>
 ae (some (y4,h)) fun y31 h=>
 ae (pu (bin Tryz.prog .gtr 3 y30 y31) h) fun y32 h=>
 ae (some (y32,h)) fun y28 h=>
 (match y28 with
 | .bool true=>
 ae (pu (bU Zl []) h) fun y33 h=>
 ae (bw 116 y2 y33 h) fun _ h=>
 ae (some ((.int .i64 3),h)) fun y3_1 h=>
 ar Tryz.prog Tryz.f13.results.toList (aJ 92 (up (bs [x0]) [(2,y2),(3,y3_1),(4,y4),(5,y5),(12,y12),(13,y13),(14,y14),(15,y15),(16,y16),(17,y17),(18,y18),(19,y19),(22,y22),(23,y23),(24,y24),(25,y25),(26,cV),(28,y28),(29,y29),(30,y30),(31,y31),(32,y32),(33,y33)])) h
 | .bool false=>
 ae (some (x0,h)) fun y34 h=>
 ae (some (y4,h)) fun y35 h=>
 ae (pu (bin Tryz.prog .sub 3 y35 (.int .i64 4)) h) fun y36 h=>
 ae (pu (slR 1 y34 (some y36) none none) h) fun y37 h=>
 ae (C 32 [y37] h) fun y38 h=>
 ae (some (y38,h)) fun y6 h=>
 ae (some (y6,h)) fun y39 h=>
 ae (C 33 [y39] h) fun y40 h=>
 ae (some (x0,h)) fun y41 h=>
 ae (some (y4,h)) fun y42 h=>
 ae (pu (bin Tryz.prog .sub 3 y42 (.int .i64 4)) h) fun y43 h=>
 ae (pu (slR 1 y41 none (some y43) none) h) fun y44 h=>
 ae (C 34 [y44] h) fun y45 h=>
 ae (pu (bin Tryz.prog .neq 50 y40 y45) h) fun y46 h=>
 (match y46 with
 | .bool true=>
 ae (pu (bU Zl []) h) fun y47 h=>
 ae (bw 116 y2 y47 h) fun _ h=>
 ae (some ((.int .i64 20),h)) fun y3_1 h=>
 ar Tryz.prog Tryz.f13.results.toList (aJ 92 (up (bs [x0]) [(2,y2),(3,y3_1),(4,y4),(5,y5),(6,y6),(12,y12),(13,y13),(14,y14),(15,y15),(16,y16),(17,y17),(18,y18),(19,y19),(22,y22),(23,y23),(24,y24),(25,y25),(26,cV),(28,y28),(29,y29),(30,y30),(31,y31),(32,y32),(34,y34),(35,y35),(36,y36),(37,y37),(38,y38),(39,y39),(40,y40),(41,y41),(42,y42),(43,y43),(44,y44),(45,y45),(46,y46),(47,y47)])) h
 | .bool false=>
 ae (some (x0,h)) fun y48 h=>
 ae (pu (bB 1 y48 (.int .i64 3)) h) fun y49 h=>
 ae (aN y49 h) fun y50 h=>
 ae (some (x0,h)) fun y51 h=>
 ae (pu (bB 1 y51 (.int .i64 4)) h) fun y52 h=>
 ae (aN y52 h) fun eJ h=>
 ae (fc .i64 eJ h) fun eN h=>
 ae (some (x0,h)) fun y55 h=>
 ae (pu (bB 1 y55 (.int .i64 5)) h) fun y56 h=>
 ae (aN y56 h) fun y57 h=>
 ae (fc .i64 y57 h) fun y58 h=>
 ae (pu (bU Zl [(0,1,y50),(1,1,eN),(2,1,y58)]) h) fun y59 h=>
 ae (cL Zl h) fun y7 h=>
 ae (bw 116 y7 y59 h) fun _ h=>
 ae (pu (aA y7 0) h) fun y61 h=>
 ae (aN y61 h) fun y62 h=>
 ae (C 35 [y62] h) fun y63 h=>
 ae (some (y63,h)) fun y60 h=>
 ae (pu (aG y60 0) h) fun y64 h=>
 ae (pu (aG y60 1) h) fun y65 h=>
 ae (cL [(.string ⟨#[]⟩),.nilFunc,.nilFunc,.nilFunc,.nilFunc] h) fun y8 h=>
 ae (bw 5 y8 y64 h) fun _ h=>
 ae (some (y65,h)) fun y9 h=>
 ae (some (y9,h)) fun y66 h=>
 ae (pu (unA .not y66) h) fun y67 h=>
 (match y67 with
 | .bool true=>
 ae (pu (bU Zl []) h) fun y68 h=>
 ae (bw 116 y2 y68 h) fun _ h=>
 ae (some ((.int .i64 2),h)) fun y3_1 h=>
 ar Tryz.prog Tryz.f13.results.toList (aJ 92 (up (bs [x0]) [(2,y2),(3,y3_1),(4,y4),(5,y5),(6,y6),(7,y7),(8,y8),(9,y9),(12,y12),(13,y13),(14,y14),(15,y15),(16,y16),(17,y17),(18,y18),(19,y19),(22,y22),(23,y23),(24,y24),(25,y25),(26,cV),(28,y28),(29,y29),(30,y30),(31,y31),(32,y32),(34,y34),(35,y35),(36,y36),(37,y37),(38,y38),(39,y39),(40,y40),(41,y41),(42,y42),(43,y43),(44,y44),(45,y45),(46,y46),(48,y48),(49,y49),(50,y50),(51,y51),(52,y52),(53,eJ),(54,eN),(55,y55),(56,y56),(57,y57),(58,y58),(59,y59),(60,y60),(61,y61),(62,y62),(63,y63),(64,y64),(65,y65),(66,y66),(67,y67),(68,y68)])) h
 | .bool false=>
 ae (some (x0,h)) fun y69 h=>
 ae (some (y4,h)) fun y70 h=>
 ae (pu (bin Tryz.prog .sub 3 y70 (.int .i64 4)) h) fun y71 h=>
 ae (pu (slR 1 y69 (some (.int .i64 10)) (some y71) none) h) fun y72 h=>
 ae (C 32 [y72] h) fun y73 h=>
 ae (some (y73,h)) fun y10 h=>
 ae (pu (aA y8 4) h) fun y74 h=>
 ae (aN y74 h) fun y75 h=>
 ae (some (y10,h)) fun y76 h=>
 ae (callA Tryz.prog C y75 [y76,y7] h) fun y77 h=>
 ae (pu (unA .not y77) h) fun y78 h=>
 ae (some (y78,h)) fun y79 h=>
 ae (aq (aI y79==some false) (some (y10,h)) h) fun y80 h=>
 ae (aq (aI y79==some false) (C 36 [y80] h) h) fun y81 h=>
 ae (aq (aI y79==some false) (pu (bin Tryz.prog .neq 35 y81 (.int .i64 0)) h) h) fun y82 h=>
 ae (match y79 with | .bool t=>some (if t then (.bool true) else y82,h)|_=>none) fun y83 h=>
 (match y83 with
 | .bool true=>
 ae (pu (bU Zl []) h) fun y84 h=>
 ae (bw 116 y2 y84 h) fun _ h=>
 ae (some ((.int .i64 5),h)) fun y3_1 h=>
 ar Tryz.prog Tryz.f13.results.toList (aJ 92 (up (bs [x0]) [(2,y2),(3,y3_1),(4,y4),(5,y5),(6,y6),(7,y7),(8,y8),(9,y9),(10,y10),(12,y12),(13,y13),(14,y14),(15,y15),(16,y16),(17,y17),(18,y18),(19,y19),(22,y22),(23,y23),(24,y24),(25,y25),(26,cV),(28,y28),(29,y29),(30,y30),(31,y31),(32,y32),(34,y34),(35,y35),(36,y36),(37,y37),(38,y38),(39,y39),(40,y40),(41,y41),(42,y42),(43,y43),(44,y44),(45,y45),(46,y46),(48,y48),(49,y49),(50,y50),(51,y51),(52,y52),(53,eJ),(54,eN),(55,y55),(56,y56),(57,y57),(58,y58),(59,y59),(60,y60),(61,y61),(62,y62),(63,y63),(64,y64),(65,y65),(66,y66),(67,y67),(69,y69),(70,y70),(71,y71),(72,y72),(73,y73),(74,y74),(75,y75),(76,y76),(77,y77),(78,y78),(79,y79),(80,y80),(81,y81),(82,y82),(83,y83),(84,y84)])) h
 | .bool false=>
 ae (bD 116 y7 h) fun y85 h=>
 ae (C 19 [y85] h) fun y86 h=>
 ae (some (y86,h)) fun y11 h=>
 ae (some (y11,h)) fun y87 h=>
 ae (pu (bin Tryz.prog .neq 35 y87 (.int .i64 0)) h) fun y88 h=>
 (match y88 with
 | .bool true=>
 ae (pu (bU Zl []) h) fun y89 h=>
 ae (some (y11,h)) fun y90 h=>
 ae (bw 116 y2 y89 h) fun _ h=>
 ae (some (y90,h)) fun y3_1 h=>
 ar Tryz.prog Tryz.f13.results.toList (aJ 92 (up (bs [x0]) [(2,y2),(3,y3_1),(4,y4),(5,y5),(6,y6),(7,y7),(8,y8),(9,y9),(10,y10),(11,y11),(12,y12),(13,y13),(14,y14),(15,y15),(16,y16),(17,y17),(18,y18),(19,y19),(22,y22),(23,y23),(24,y24),(25,y25),(26,cV),(28,y28),(29,y29),(30,y30),(31,y31),(32,y32),(34,y34),(35,y35),(36,y36),(37,y37),(38,y38),(39,y39),(40,y40),(41,y41),(42,y42),(43,y43),(44,y44),(45,y45),(46,y46),(48,y48),(49,y49),(50,y50),(51,y51),(52,y52),(53,eJ),(54,eN),(55,y55),(56,y56),(57,y57),(58,y58),(59,y59),(60,y60),(61,y61),(62,y62),(63,y63),(64,y64),(65,y65),(66,y66),(67,y67),(69,y69),(70,y70),(71,y71),(72,y72),(73,y73),(74,y74),(75,y75),(76,y76),(77,y77),(78,y78),(79,y79),(80,y80),(81,y81),(82,y82),(83,y83),(85,y85),(86,y86),(87,y87),(88,y88),(89,y89),(90,y90)])) h
 | .bool false=>
 ae (bD 116 y7 h) fun y91 h=>
 ae (bw 116 y2 y91 h) fun _ h=>
 ae (some ((.int .i64 0),h)) fun y3_1 h=>
 ar Tryz.prog Tryz.f13.results.toList (aJ 92 (up (bs [x0]) [(2,y2),(3,y3_1),(4,y4),(5,y5),(6,y6),(7,y7),(8,y8),(9,y9),(10,y10),(11,y11),(12,y12),(13,y13),(14,y14),(15,y15),(16,y16),(17,y17),(18,y18),(19,y19),(22,y22),(23,y23),(24,y24),(25,y25),(26,cV),(28,y28),(29,y29),(30,y30),(31,y31),(32,y32),(34,y34),(35,y35),(36,y36),(37,y37),(38,y38),(39,y39),(40,y40),(41,y41),(42,y42),(43,y43),(44,y44),(45,y45),(46,y46),(48,y48),(49,y49),(50,y50),(51,y51),(52,y52),(53,eJ),(54,eN),(55,y55),(56,y56),(57,y57),(58,y58),(59,y59),(60,y60),(61,y61),(62,y62),(63,y63),(64,y64),(65,y65),(66,y66),(67,y67),(69,y69),(70,y70),(71,y71),(72,y72),(73,y73),(74,y74),(75,y75),(76,y76),(77,y77),(78,y78),(79,y79),(80,y80),(81,y81),(82,y82),(83,y83),(85,y85),(86,y86),(87,y87),(88,y88),(91,y91)])) h
 |_=>none)
 |_=>none)
 |_=>none)
 |_=>none)
 |_=>none)
 |_=>none)
 |_=>none)
theorem t13_eq (C:au) (x0:Value) (h:aj):bf Tryz.prog C Tryz.f13 [x0] h=t13 C x0 h:=
 (aL Tryz.prog C Tryz.f13 [x0] h (by kernel_rfl)).trans (by kernel_rfl)
noncomputable def k29_3 (C:au) (e:Env) (h:aj):Out:=aT Tryz.prog C (partOf Tryz.f29 [1,1,1,1]) e h (ar Tryz.prog Tryz.f29.results.toList) (ar Tryz.prog Tryz.f29.results.toList) (fun _ _ _=>none)
noncomputable def b29_4 (C:au) (i:Nat) (e:Env) (h:aj):Out:=if i=0 then (k29_3 C) e h else (fun _ _ _=>none) i e h
noncomputable def t29 (C:au) (x0:Value) (h:aj):Out:=
 ae (some ((.slice none 0 0),h)) fun y2 h=>
 ae (some ((.int .i64 0),h)) fun y3 h=>
 ae (some ((.int .i64 0),h)) fun y4 h=>
 ae (some ((.slice none 0 0),h)) fun y5 h=>
 ae (some ((.int .i64 0),h)) fun y6 h=>
 dX (iter (aM Tryz.prog C (partOf Tryz.f29 [1,1,1,0,0,0])) rounds (aJ 57 (up (bs [x0]) [(2,y2),(3,y3),(4,y4),(5,y5),(6,y6)])) h) (ar Tryz.prog Tryz.f29.results.toList) (b29_4 C)
noncomputable def t29k29_3 (_C:au) (x:Nat→Value) (h:aj):Out:=
 ae (some ((x 5),h)) fun y55 h=>
 ae (some ((x 6),h)) fun y56 h=>
 ae (some (y55,h)) fun y2 h=>
 ae (some (y56,h)) fun y3 h=>
 ae (some ((.int .i64 0),h)) fun y4 h=>
 some (.tuple #[y2,y3,y4],h)
noncomputable def t29l29_11100 (C:au) (x:Nat→Value) (h:aj):Option (Ex×Env×aj):=
 ae (some ((x 0),h)) fun y10 h=>
 ae (pu (bG y10) h) fun y11 h=>
 ae (some ((x 6),h)) fun y12 h=>
 ae (pu (bin Tryz.prog .sub 3 y11 y12) h) fun y13 h=>
 ae (pu (bin Tryz.prog .geq 3 y13 (.int .i64 10)) h) fun y14 h=>
 (match y14 with
 | .bool true=>
 ae (some ((x 0),h)) fun y16 h=>
 ae (some ((x 6),h)) fun y17 h=>
 ae (pu (slR 1 y16 (some y17) none none) h) fun y18 h=>
 ae (C 31 [y18] h) fun y19 h=>
 ae (some (y19,h)) fun y15 h=>
 ae (pu (aG y15 0) h) fun y20 h=>
 ae (pu (aG y15 1) h) fun y21 h=>
 ae (some (y20,h)) fun y7 h=>
 ae (some (y21,h)) fun y8 h=>
 ae (some (y8,h)) fun y22 h=>
 ae (pu (bin Tryz.prog .neq 35 y22 (.int .i64 0)) h) fun y23 h=>
 (match y23 with
 | .bool true=>
 ae (some ((x 5),h)) fun y24 h=>
 ae (some ((x 6),h)) fun y25 h=>
 ae (some (y8,h)) fun cV h=>
 ae (some (y24,h)) fun y2 h=>
 ae (some (y25,h)) fun y3 h=>
 ae (some (cV,h)) fun y4 h=>
 some (.ret,(aJ 57 (up x [(2,y2),(3,y3),(4,y4),(7,y7),(8,y8),(10,y10),(11,y11),(12,y12),(13,y13),(14,y14),(15,y15),(16,y16),(17,y17),(18,y18),(19,y19),(20,y20),(21,y21),(22,y22),(23,y23),(24,y24),(25,y25),(26,cV)])),h)
 | .bool false=>
 ae (some (y7,h)) fun dn h=>
 ae (some ((x 0),h)) fun y28 h=>
 ae (pu (bG y28) h) fun y29 h=>
 ae (some ((x 6),h)) fun y30 h=>
 ae (pu (bin Tryz.prog .sub 3 y29 y30) h) fun y31 h=>
 ae (pu (bin Tryz.prog .gtr 3 dn y31) h) fun y32 h=>
 (match y32 with
 | .bool true=>
 some (.exit 0,(aJ 57 (up x [(7,y7),(8,y8),(10,y10),(11,y11),(12,y12),(13,y13),(14,y14),(15,y15),(16,y16),(17,y17),(18,y18),(19,y19),(20,y20),(21,y21),(22,y22),(23,y23),(27,dn),(28,y28),(29,y29),(30,y30),(31,y31),(32,y32)])),h)
 | .bool false=>
 ae (some ((x 0),h)) fun y34 h=>
 ae (some ((x 6),h)) fun y35 h=>
 ae (some ((x 6),h)) fun y36 h=>
 ae (some (y7,h)) fun y37 h=>
 ae (pu (bin Tryz.prog .add 3 y36 y37) h) fun y38 h=>
 ae (pu (slR 1 y34 (some y35) (some y38) none) h) fun y39 h=>
 ae (C 13 [y39] h) fun y40 h=>
 ae (some (y40,h)) fun y33 h=>
 ae (pu (aG y33 0) h) fun y41 h=>
 ae (pu (aG y33 1) h) fun y42 h=>
 ae (cL Zl h) fun y9 h=>
 ae (bw 116 y9 y41 h) fun _ h=>
 ae (some (y42,h)) fun y8_1 h=>
 ae (some (y8_1,h)) fun y43 h=>
 ae (pu (bin Tryz.prog .neq 35 y43 (.int .i64 0)) h) fun y44 h=>
 (match y44 with
 | .bool true=>
 ae (some ((x 5),h)) fun y45 h=>
 ae (some ((x 6),h)) fun y46 h=>
 ae (some (y8_1,h)) fun y47 h=>
 ae (some (y45,h)) fun y2 h=>
 ae (some (y46,h)) fun y3 h=>
 ae (some (y47,h)) fun y4 h=>
 some (.ret,(aJ 57 (up x [(2,y2),(3,y3),(4,y4),(7,y7),(8,y8_1),(9,y9),(10,y10),(11,y11),(12,y12),(13,y13),(14,y14),(15,y15),(16,y16),(17,y17),(18,y18),(19,y19),(20,y20),(21,y21),(22,y22),(23,y23),(27,dn),(28,y28),(29,y29),(30,y30),(31,y31),(32,y32),(33,y33),(34,y34),(35,y35),(36,y36),(37,y37),(38,y38),(39,y39),(40,y40),(41,y41),(42,y42),(43,y43),(44,y44),(45,y45),(46,y46),(47,y47)])),h)
 | .bool false=>
 ae (some ((x 5),h)) fun y48 h=>
 ae (bD 116 y9 h) fun y49 h=>
 ae (bslR 116 (.agg Zl.toArray) 1 [(0,y49)] h) fun y50 h=>
 ae (cl 116 352 y48 y50 h) fun y51 h=>
 ae (some ((x 6),h)) fun y52 h=>
 ae (some (y7,h)) fun eJ h=>
 ae (pu (bin Tryz.prog .add 3 y52 eJ) h) fun eN h=>
 ae (some (y51,h)) fun y5 h=>
 ae (some (eN,h)) fun y6 h=>
 some (.normal,(aJ 57 (up x [(5,y5),(6,y6),(7,y7),(8,y8_1),(9,y9),(10,y10),(11,y11),(12,y12),(13,y13),(14,y14),(15,y15),(16,y16),(17,y17),(18,y18),(19,y19),(20,y20),(21,y21),(22,y22),(23,y23),(27,dn),(28,y28),(29,y29),(30,y30),(31,y31),(32,y32),(33,y33),(34,y34),(35,y35),(36,y36),(37,y37),(38,y38),(39,y39),(40,y40),(41,y41),(42,y42),(43,y43),(44,y44),(48,y48),(49,y49),(50,y50),(51,y51),(52,y52),(53,eJ),(54,eN)])),h)
 |_=>none)
 |_=>none)
 |_=>none)
 | .bool false=>
 some (.exit 0,(aJ 57 (up x [(10,y10),(11,y11),(12,y12),(13,y13),(14,y14)])),h)
 |_=>none)
theorem t29_eq (C:au) (x0:Value) (h:aj):bf Tryz.prog C Tryz.f29 [x0] h=t29 C x0 h:=
 (aL Tryz.prog C Tryz.f29 [x0] h (by kernel_rfl)).trans (by kernel_rfl)
theorem t29k29_3_eq (C:au) (x:Nat→Value) (h:aj):k29_3 C (aJ 57 x) h=t29k29_3 C x h:=
 bg (b:=(partOf Tryz.f29 [1,1,1,1])) (kE:=(ar Tryz.prog Tryz.f29.results.toList)) (rE:=(ar Tryz.prog Tryz.f29.results.toList)) (xE:=(fun _ _ _=>none)) (T:=t29k29_3 C) (fun x h=>by kernel_rfl) x h
theorem t29l29_11100_eq (C:au) (x:Nat→Value) (h:aj):aM Tryz.prog C (partOf Tryz.f29 [1,1,1,0,0,0]) (aJ 57 x) h=t29l29_11100 C x h:=
 bn (T:=t29l29_11100 C) (fun x h=>by kernel_rfl) x h
noncomputable def t31 (C:au) (x0:Value) (h:aj):Out:=
 ae (some ((.int .i64 0),h)) fun _y2 h=>
 ae (some ((.int .i64 0),h)) fun _y3 h=>
 ae (some (x0,h)) fun y8 h=>
 ae (some (x0,h)) fun y9 h=>
 ae (pu (bG y9) h) fun y10 h=>
 ae (pu (gu false y10 [(.int .i64 10)]) h) fun y11 h=>
 ae (pu (slR 1 y8 none (some y11) none) h) fun y12 h=>
 ae (C 32 [y12] h) fun y13 h=>
 ae (some (y13,h)) fun y4 h=>
 ae (some (y4,h)) fun y14 h=>
 ae (C 72 [y14] h) fun y15 h=>
 ae (some (y4,h)) fun y16 h=>
 ae (C 73 [y16] h) fun y17 h=>
 ae (some (y15,h)) fun y5 h=>
 ae (some (y17,h)) fun y6 h=>
 ae (some (y4,h)) fun y18 h=>
 ae (C 74 [y18,(.int .i64 3)] h) fun _y19 h=>
 ae (some (y4,h)) fun y20 h=>
 ae (C 33 [y20] h) fun y21 h=>
 ae (fc .i64 y21 h) fun y22 h=>
 ae (some (y22,h)) fun y7 h=>
 ae (some (y4,h)) fun y24 h=>
 ae (C 75 [y24] h) fun y25 h=>
 ae (pu (bin Tryz.prog .neq 35 y25 (.int .i64 0)) h) fun cV h=>
 ae (some (cV,h)) fun y23 h=>
 (match y23 with
 | .bool true=>
 ae (some ((.int .i64 0),h)) fun y2_1 h=>
 ae (some ((.int .i64 4),h)) fun y3_1 h=>
 some (.tuple #[y2_1,y3_1],h)
 | .bool false=>
 ae (some (y5,h)) fun y28 h=>
 ae (pu (bin Tryz.prog .neq 65 y28 (.int .u16 21335)) h) fun y29 h=>
 ae (some (y29,h)) fun dn h=>
 (match dn with
 | .bool true=>
 ae (some ((.int .i64 0),h)) fun y2_1 h=>
 ae (some ((.int .i64 5),h)) fun y3_1 h=>
 some (.tuple #[y2_1,y3_1],h)
 | .bool false=>
 ae (some (y6,h)) fun y31 h=>
 ae (pu (bin Tryz.prog .neq 5 y31 (.int .u8 1)) h) fun y32 h=>
 ae (some (y32,h)) fun y30 h=>
 (match y30 with
 | .bool true=>
 ae (some ((.int .i64 0),h)) fun y2_1 h=>
 ae (some ((.int .i64 80),h)) fun y3_1 h=>
 some (.tuple #[y2_1,y3_1],h)
 | .bool false=>
 ae (some (y7,h)) fun y34 h=>
 ae (pu (bin Tryz.prog .gtr 3 y34 (.int .i64 20000)) h) fun y35 h=>
 ae (some (y35,h)) fun y33 h=>
 (match y33 with
 | .bool true=>
 ae (some ((.int .i64 0),h)) fun y2_1 h=>
 ae (some ((.int .i64 3),h)) fun y3_1 h=>
 some (.tuple #[y2_1,y3_1],h)
 | .bool false=>
 ae (some (y7,h)) fun y36 h=>
 ae (pu (bin Tryz.prog .add 3 y36 (.int .i64 14)) h) fun y37 h=>
 ae (some (y37,h)) fun y2_1 h=>
 ae (some ((.int .i64 0),h)) fun y3_1 h=>
 some (.tuple #[y2_1,y3_1],h)
 |_=>none)
 |_=>none)
 |_=>none)
 |_=>none)
theorem t31_eq (C:au) (x0:Value) (h:aj):bf Tryz.prog C Tryz.f31 [x0] h=t31 C x0 h:=
 (aL Tryz.prog C Tryz.f31 [x0] h (by kernel_rfl)).trans (by kernel_rfl)
noncomputable def t98 (C:au) (x0 x1:Value) (h:aj):Out:=
 ae (some ((.bool false),h)) fun _y4 h=>
 ae (some (x1,h)) fun y5 h=>
 ae (some (x1,h)) fun y6 h=>
 ae (some (x0,h)) fun y7 h=>
 ae (C 128 [y7] h) fun y8 h=>
 ae (some (x0,h)) fun y9 h=>
 ae (C 73 [y9] h) fun y10 h=>
 ae (fc .i64 y10 h) fun y11 h=>
 ae (pu (bj y5) h) fun y12 h=>
 ae (pu (aA y12 3) h) fun y13 h=>
 ae (bw 1 y13 y8 h) fun _ h=>
 ae (pu (bj y6) h) fun y14 h=>
 ae (pu (aA y14 4) h) fun y15 h=>
 ae (bw 1 y15 y11 h) fun _ h=>
 ae (some (x1,h)) fun y16 h=>
 ae (some (x0,h)) fun y17 h=>
 ae (C 129 [y17] h) fun y18 h=>
 ae (pu (bj y16) h) fun y19 h=>
 ae (pu (aA y19 6) h) fun y20 h=>
 ae (bw 1 y20 y18 h) fun _ h=>
 ae (some ((.bool true),h)) fun y4_1 h=>
 some (y4_1,h)
theorem t98_eq (C:au) (x0 x1:Value) (h:aj):bf Tryz.prog C Tryz.f98 [x0,x1] h=t98 C x0 x1 h:=
 (aL Tryz.prog C Tryz.f98 [x0,x1] h (by kernel_rfl)).trans (by kernel_rfl)
noncomputable def t101 (C:au) (x0 x1:Value) (h:aj):Out:=
 ae (some ((.bool false),h)) fun _y4 h=>
 ae (some (x1,h)) fun y5 h=>
 ae (some (x1,h)) fun y6 h=>
 ae (some (x0,h)) fun y7 h=>
 ae (C 128 [y7] h) fun y8 h=>
 ae (some (x0,h)) fun y9 h=>
 ae (C 73 [y9] h) fun y10 h=>
 ae (fc .i64 y10 h) fun y11 h=>
 ae (pu (bj y5) h) fun y12 h=>
 ae (pu (aA y12 3) h) fun y13 h=>
 ae (bw 1 y13 y8 h) fun _ h=>
 ae (pu (bj y6) h) fun y14 h=>
 ae (pu (aA y14 5) h) fun y15 h=>
 ae (bw 1 y15 y11 h) fun _ h=>
 ae (some (x1,h)) fun y16 h=>
 ae (some (x0,h)) fun y17 h=>
 ae (C 129 [y17] h) fun y18 h=>
 ae (pu (bj y16) h) fun y19 h=>
 ae (pu (aA y19 6) h) fun y20 h=>
 ae (bw 1 y20 y18 h) fun _ h=>
 ae (some ((.bool true),h)) fun y4_1 h=>
 some (y4_1,h)
theorem t101_eq (C:au) (x0 x1:Value) (h:aj):bf Tryz.prog C Tryz.f101 [x0,x1] h=t101 C x0 x1 h:=
 (aL Tryz.prog C Tryz.f101 [x0,x1] h (by kernel_rfl)).trans (by kernel_rfl)
noncomputable def t105 (C:au) (x0 x1:Value) (h:aj):Out:=
 ae (some ((.bool false),h)) fun _y4 h=>
 ae (some (x1,h)) fun y5 h=>
 ae (some (x0,h)) fun y6 h=>
 ae (C 130 [y6] h) fun y7 h=>
 ae (pu (bj y5) h) fun y8 h=>
 ae (pu (aA y8 44) h) fun y9 h=>
 ae (bw 32 y9 y7 h) fun _ h=>
 ae (some ((.bool true),h)) fun y4_1 h=>
 some (y4_1,h)
theorem t105_eq (C:au) (x0 x1:Value) (h:aj):bf Tryz.prog C Tryz.f105 [x0,x1] h=t105 C x0 x1 h:=
 (aL Tryz.prog C Tryz.f105 [x0,x1] h (by kernel_rfl)).trans (by kernel_rfl)
noncomputable def t109 (C:au) (x0 x1:Value) (h:aj):Out:=
 ae (some ((.bool false),h)) fun _y4 h=>
 ae (some (x1,h)) fun y7 h=>
 ae (some (x0,h)) fun y8 h=>
 ae (C 130 [y8] h) fun y9 h=>
 ae (pu (bj y7) h) fun y10 h=>
 ae (pu (aA y10 44) h) fun y11 h=>
 ae (bw 32 y11 y9 h) fun _ h=>
 ae (some (x0,h)) fun y13 h=>
 ae (C 135 [y13] h) fun y14 h=>
 ae (C 134 [y14] h) fun y15 h=>
 ae (some (y15,h)) fun y12 h=>
 ae (pu (aG y12 0) h) fun y16 h=>
 ae (pu (aG y12 1) h) fun y17 h=>
 ae (cL [(.int .i64 0),(.int .i64 0),(.int .i64 0),(.int .i64 0),(.int .u8 0),(.int .u8 0),(.int .u8 0),(.int .u8 0),(.int .u8 0),(.int .u8 0),(.int .u8 0),(.int .u8 0),(.int .u8 0),(.int .u8 0),(.int .u8 0),(.int .u8 0),(.int .u8 0),(.int .u8 0),(.int .u8 0),(.int .u8 0),(.int .u8 0),(.int .u8 0),(.int .u8 0),(.int .u8 0),(.int .u8 0),(.int .u8 0),(.int .u8 0),(.int .u8 0),(.int .u8 0),(.int .u8 0),(.int .u8 0),(.int .u8 0),(.int .u8 0),(.int .u8 0),(.int .u8 0),(.int .u8 0),(.slice none 0 0)] h) fun y5 h=>
 ae (bw 37 y5 y16 h) fun _ h=>
 ae (some (y17,h)) fun y6 h=>
 ae (some (x1,h)) fun y18 h=>
 ae (bD 37 y5 h) fun y19 h=>
 ae (pu (bj y18) h) fun y20 h=>
 ae (pu (aA y20 76) h) fun y21 h=>
 ae (bw 37 y21 y19 h) fun _ h=>
 ae (some (x1,h)) fun y22 h=>
 ae (some (x0,h)) fun y23 h=>
 ae (C 72 [y23] h) fun y24 h=>
 ae (fc .i64 y24 h) fun y25 h=>
 ae (pu (bj y22) h) fun cV h=>
 ae (pu (aA cV 113) h) fun dn h=>
 ae (pu (aA dn 0) h) fun y28 h=>
 ae (bw 1 y28 y25 h) fun _ h=>
 ae (some (x1,h)) fun y29 h=>
 ae (some (x0,h)) fun y30 h=>
 ae (C 135 [y30] h) fun y31 h=>
 ae (pu (bj y29) h) fun y32 h=>
 ae (pu (aA y32 113) h) fun y33 h=>
 ae (pu (aA y33 1) h) fun y34 h=>
 ae (bw 1 y34 y31 h) fun _ h=>
 ae (some (y6,h)) fun y35 h=>
 ae (pu (bin Tryz.prog .eql 35 y35 (.int .i64 0)) h) fun y36 h=>
 ae (some (y36,h)) fun y4_1 h=>
 some (y4_1,h)
theorem t109_eq (C:au) (x0 x1:Value) (h:aj):bf Tryz.prog C Tryz.f109 [x0,x1] h=t109 C x0 x1 h:=
 (aL Tryz.prog C Tryz.f109 [x0,x1] h (by kernel_rfl)).trans (by kernel_rfl)
noncomputable def t114 (C:au) (x0 x1:Value) (h:aj):Out:=
 ae (some ((.bool false),h)) fun _y4 h=>
 ae (some (x1,h)) fun y5 h=>
 ae (some (x1,h)) fun y6 h=>
 ae (some (x0,h)) fun y7 h=>
 ae (C 135 [y7] h) fun y8 h=>
 ae (some (x0,h)) fun y9 h=>
 ae (C 135 [y9] h) fun y10 h=>
 ae (pu (bj y5) h) fun y11 h=>
 ae (pu (aA y11 7) h) fun y12 h=>
 ae (bw 1 y12 y8 h) fun _ h=>
 ae (pu (bj y6) h) fun y13 h=>
 ae (pu (aA y13 8) h) fun y14 h=>
 ae (bw 1 y14 y10 h) fun _ h=>
 ae (some (x1,h)) fun y15 h=>
 ae (some (x0,h)) fun y16 h=>
 ae (C 33 [y16] h) fun y17 h=>
 ae (fc .i64 y17 h) fun y18 h=>
 ae (pu (bj y15) h) fun y19 h=>
 ae (pu (aA y19 9) h) fun y20 h=>
 ae (bw 1 y20 y18 h) fun _ h=>
 ae (some (x1,h)) fun y21 h=>
 ae (some (x0,h)) fun y22 h=>
 ae (C 130 [y22] h) fun y23 h=>
 ae (pu (bj y21) h) fun y24 h=>
 ae (pu (aA y24 10) h) fun y25 h=>
 ae (bw 32 y25 y23 h) fun _ h=>
 ae (some ((.bool true),h)) fun y4_1 h=>
 some (y4_1,h)
theorem t114_eq (C:au) (x0 x1:Value) (h:aj):bf Tryz.prog C Tryz.f114 [x0,x1] h=t114 C x0 x1 h:=
 (aL Tryz.prog C Tryz.f114 [x0,x1] h (by kernel_rfl)).trans (by kernel_rfl)
noncomputable def k117_4 (C:au) (e:Env) (h:aj):Out:=aT Tryz.prog C (partOf Tryz.f117 [1,1,1,1,1]) e h (ar Tryz.prog Tryz.f117.results.toList) (ar Tryz.prog Tryz.f117.results.toList) (fun _ _ _=>none)
noncomputable def b117_6 (C:au) (i:Nat) (e:Env) (h:aj):Out:=if i=0 then (k117_4 C) e h else (fun _ _ _=>none) i e h
noncomputable def t117 (C:au) (x0 x1:Value) (h:aj):Out:=
 ae (some ((.bool false),h)) fun y4 h=>
 ae (some (x1,h)) fun y8 h=>
 ae (some (x1,h)) fun y9 h=>
 ae (some (x0,h)) fun y10 h=>
 ae (C 135 [y10] h) fun y11 h=>
 ae (some (x0,h)) fun y12 h=>
 ae (C 135 [y12] h) fun y13 h=>
 ae (pu (bj y8) h) fun y14 h=>
 ae (pu (aA y14 7) h) fun y15 h=>
 ae (bw 1 y15 y11 h) fun _ h=>
 ae (pu (bj y9) h) fun y16 h=>
 ae (pu (aA y16 8) h) fun y17 h=>
 ae (bw 1 y17 y13 h) fun _ h=>
 ae (some (x0,h)) fun y18 h=>
 ae (C 73 [y18] h) fun y19 h=>
 ae (some (y19,h)) fun y5 h=>
 ae (some (x1,h)) fun y20 h=>
 ae (some (y5,h)) fun y21 h=>
 ae (pu (bin Tryz.prog .eql 5 y21 (.int .u8 1)) h) fun y22 h=>
 ae (pu (bj y20) h) fun y23 h=>
 ae (pu (aA y23 43) h) fun y24 h=>
 ae (bw 1 y24 y22 h) fun _ h=>
 ae (some (x0,h)) fun y25 h=>
 ae (C 72 [y25] h) fun cV h=>
 ae (some ((.int .u16 0),h)) fun dn h=>
 dX (iter (aM Tryz.prog C (partOf Tryz.f117 [1,1,1,1,0,1,0,0])) rounds (aJ 50 (up (bs [x0,x1]) [(4,y4),(5,y5),(8,y8),(9,y9),(10,y10),(11,y11),(12,y12),(13,y13),(14,y14),(15,y15),(16,y16),(17,y17),(18,y18),(19,y19),(20,y20),(21,y21),(22,y22),(23,y23),(24,y24),(25,y25),(26,cV),(27,dn)])) h) (ar Tryz.prog Tryz.f117.results.toList) (b117_6 C)
noncomputable def t117k117_4 (_C:au) (x:Nat→Value) (h:aj):Out:=
 ae (some ((x 5),h)) fun y48 h=>
 ae (pu (bin Tryz.prog .leq 5 y48 (.int .u8 1)) h) fun y49 h=>
 ae (some (y49,h)) fun y4 h=>
 some (y4,h)
noncomputable def fg (C:au) (x:Nat→Value) (h:aj):Option (Ex×Env×aj):=
 ae (pu (bin Tryz.prog .lss 65 (x 27) (x 26)) h) fun y28 h=>
 (match y28 with
 | .bool true=>
 ae (some ((x 0),h)) fun y30 h=>
 ae (C 74 [y30,(.int .i64 53)] h) fun y31 h=>
 ae (C 140 [y31] h) fun y32 h=>
 ae (some (y32,h)) fun y29 h=>
 ae (pu (aG y29 0) h) fun y33 h=>
 ae (pu (aG y29 1) h) fun y34 h=>
 ae (cL [(.int .u8 0),(.int .u8 0),(.int .u8 0),(.int .u8 0),(.int .u8 0),(.int .u8 0),(.int .u8 0),(.int .u8 0),(.int .u8 0),(.int .u8 0),(.int .u8 0),(.int .u8 0),(.int .u8 0),(.int .u8 0),(.int .u8 0),(.int .u8 0),(.int .u8 0),(.int .u8 0),(.int .u8 0),(.int .u8 0),(.int .u8 0),(.int .u8 0),(.int .u8 0),(.int .u8 0),(.int .u8 0),(.int .u8 0),(.int .u8 0),(.int .u8 0),(.int .u8 0),(.int .u8 0),(.int .u8 0),(.int .u8 0),(.int .u8 0),(.int .i64 0),(.int .u64 0),(.int .u64 0),(.bool false),(.int .i64 0),(.int .i64 0)] h) fun y6 h=>
 ae (bw 39 y6 y33 h) fun _ h=>
 ae (some (y34,h)) fun y7 h=>
 ae (some (y7,h)) fun y35 h=>
 ae (pu (bin Tryz.prog .neq 35 y35 (.int .i64 0)) h) fun y36 h=>
 (match y36 with
 | .bool true=>
 ae (some ((.bool false),h)) fun y4 h=>
 some (.ret,(aJ 50 (up x [(4,y4),(6,y6),(7,y7),(28,y28),(29,y29),(30,y30),(31,y31),(32,y32),(33,y33),(34,y34),(35,y35),(36,y36)])),h)
 | .bool false=>
 ae (some ((x 1),h)) fun y37 h=>
 ae (some ((x 1),h)) fun y38 h=>
 ae (pu (bj y38) h) fun y39 h=>
 ae (pu (aA y39 42) h) fun y40 h=>
 ae (aN y40 h) fun y41 h=>
 ae (bD 39 y6 h) fun y42 h=>
 ae (bslR 39 (.agg #[(.int .u8 0),(.int .u8 0),(.int .u8 0),(.int .u8 0),(.int .u8 0),(.int .u8 0),(.int .u8 0),(.int .u8 0),(.int .u8 0),(.int .u8 0),(.int .u8 0),(.int .u8 0),(.int .u8 0),(.int .u8 0),(.int .u8 0),(.int .u8 0),(.int .u8 0),(.int .u8 0),(.int .u8 0),(.int .u8 0),(.int .u8 0),(.int .u8 0),(.int .u8 0),(.int .u8 0),(.int .u8 0),(.int .u8 0),(.int .u8 0),(.int .u8 0),(.int .u8 0),(.int .u8 0),(.int .u8 0),(.int .u8 0),(.int .u8 0),(.int .i64 0),(.int .u64 0),(.int .u64 0),(.bool false),(.int .i64 0),(.int .i64 0)]) 1 [(0,y42)] h) fun y43 h=>
 ae (cl 39 88 y41 y43 h) fun y44 h=>
 ae (pu (bj y37) h) fun y45 h=>
 ae (pu (aA y45 42) h) fun y46 h=>
 ae (bw 1 y46 y44 h) fun _ h=>
 ae (pu (bin Tryz.prog .add 65 (x 27) (.int .u16 1)) h) fun y47 h=>
 ae (some (y47,h)) fun dn h=>
 some (.normal,(aJ 50 (up x [(6,y6),(7,y7),(27,dn),(28,y28),(29,y29),(30,y30),(31,y31),(32,y32),(33,y33),(34,y34),(35,y35),(36,y36),(37,y37),(38,y38),(39,y39),(40,y40),(41,y41),(42,y42),(43,y43),(44,y44),(45,y45),(46,y46),(47,y47)])),h)
 |_=>none)
 | .bool false=>
 some (.exit 0,(aJ 50 (up x [(28,y28)])),h)
 |_=>none)
theorem t117_eq (C:au) (x0 x1:Value) (h:aj):bf Tryz.prog C Tryz.f117 [x0,x1] h=t117 C x0 x1 h:=
 (aL Tryz.prog C Tryz.f117 [x0,x1] h (by kernel_rfl)).trans (by kernel_rfl)
theorem t117k117_4_eq (C:au) (x:Nat→Value) (h:aj):k117_4 C (aJ 50 x) h=t117k117_4 C x h:=
 bg (b:=(partOf Tryz.f117 [1,1,1,1,1])) (kE:=(ar Tryz.prog Tryz.f117.results.toList)) (rE:=(ar Tryz.prog Tryz.f117.results.toList)) (xE:=(fun _ _ _=>none)) (T:=t117k117_4 C) (fun x h=>by kernel_rfl) x h
theorem t117l117_1111010_eq (C:au) (x:Nat→Value) (h:aj):aM Tryz.prog C (partOf Tryz.f117 [1,1,1,1,0,1,0,0]) (aJ 50 x) h=fg C x h:=
 bn (T:=fg C) (fun x h=>by kernel_rfl) x h
noncomputable def t121 (C:au) (x0 x1:Value) (h:aj):Out:=
 ae (some ((.bool false),h)) fun _y4 h=>
 ae (some (x1,h)) fun y5 h=>
 ae (some (x0,h)) fun y6 h=>
 ae (C 130 [y6] h) fun y7 h=>
 ae (pu (bj y5) h) fun y8 h=>
 ae (pu (aA y8 44) h) fun y9 h=>
 ae (bw 32 y9 y7 h) fun _ h=>
 ae (some (x1,h)) fun y10 h=>
 ae (some (x0,h)) fun y11 h=>
 ae (C 72 [y11] h) fun y12 h=>
 ae (fc .i64 y12 h) fun y13 h=>
 ae (pu (bj y10) h) fun y14 h=>
 ae (pu (aA y14 115) h) fun y15 h=>
 ae (bw 1 y15 y13 h) fun _ h=>
 ae (some ((.bool true),h)) fun y4_1 h=>
 some (y4_1,h)
theorem t121_eq (C:au) (x0 x1:Value) (h:aj):bf Tryz.prog C Tryz.f121 [x0,x1] h=t121 C x0 x1 h:=
 (aL Tryz.prog C Tryz.f121 [x0,x1] h (by kernel_rfl)).trans (by kernel_rfl)
noncomputable def k129_1 (C:au) (e:Env) (h:aj):Out:=aT Tryz.prog C (partOf Tryz.f129 [1,1]) e h (ar Tryz.prog Tryz.f129.results.toList) (ar Tryz.prog Tryz.f129.results.toList) (fun _ _ _=>none)
noncomputable def b129_3 (C:au) (i:Nat) (e:Env) (h:aj):Out:=if i=0 then (k129_1 C) e h else (fun _ _ _=>none) i e h
noncomputable def t129 (C:au) (x0:Value) (h:aj):Out:=
 ae (some ((.slice none 0 0),h)) fun y2 h=>
 ae (some (x0,h)) fun y4 h=>
 ae (C 73 [y4] h) fun y5 h=>
 ae (some ((.int .u8 0),h)) fun y6 h=>
 dX (iter (aM Tryz.prog C (partOf Tryz.f129 [1,0,1,0,0])) rounds (aJ 19 (up (bs [x0]) [(2,y2),(4,y4),(5,y5),(6,y6)])) h) (ar Tryz.prog Tryz.f129.results.toList) (b129_3 C)
noncomputable def t129k129_1 (_C:au) (x:Nat→Value) (h:aj):Out:=
 ae (some ((x 2),h)) fun y18 h=>
 ae (some (y18,h)) fun y2 h=>
 some (y2,h)
noncomputable def t129l129_1010 (C:au) (x:Nat→Value) (h:aj):Option (Ex×Env×aj):=
 ae (pu (bin Tryz.prog .lss 5 (x 6) (x 5)) h) fun y7 h=>
 (match y7 with
 | .bool true=>
 ae (some ((x 0),h)) fun y8 h=>
 ae (C 128 [y8] h) fun y9 h=>
 ae (some (y9,h)) fun y3 h=>
 ae (some ((x 2),h)) fun y10 h=>
 ae (some (y3,h)) fun y11 h=>
 ae (some ((x 0),h)) fun y12 h=>
 ae (C 73 [y12] h) fun y13 h=>
 ae (pu (bU [(.int .u64 0),(.int .u8 0)] [(0,1,y11),(1,1,y13)]) h) fun y14 h=>
 ae (bslR 2 (.agg #[(.int .u64 0),(.int .u8 0)]) 1 [(0,y14)] h) fun y15 h=>
 ae (cl 2 16 y10 y15 h) fun y16 h=>
 ae (some (y16,h)) fun y2 h=>
 ae (pu (bin Tryz.prog .add 5 (x 6) (.int .u8 1)) h) fun y17 h=>
 ae (some (y17,h)) fun y6 h=>
 some (.normal,(aJ 19 (up x [(2,y2),(3,y3),(6,y6),(7,y7),(8,y8),(9,y9),(10,y10),(11,y11),(12,y12),(13,y13),(14,y14),(15,y15),(16,y16),(17,y17)])),h)
 | .bool false=>
 some (.exit 0,(aJ 19 (up x [(7,y7)])),h)
 |_=>none)
theorem t129_eq (C:au) (x0:Value) (h:aj):bf Tryz.prog C Tryz.f129 [x0] h=t129 C x0 h:=
 (aL Tryz.prog C Tryz.f129 [x0] h (by kernel_rfl)).trans (by kernel_rfl)
theorem t129k129_1_eq (C:au) (x:Nat→Value) (h:aj):k129_1 C (aJ 19 x) h=t129k129_1 C x h:=
 bg (b:=(partOf Tryz.f129 [1,1])) (kE:=(ar Tryz.prog Tryz.f129.results.toList)) (rE:=(ar Tryz.prog Tryz.f129.results.toList)) (xE:=(fun _ _ _=>none)) (T:=t129k129_1 C) (fun x h=>by kernel_rfl) x h
theorem t129l129_1010_eq (C:au) (x:Nat→Value) (h:aj):aM Tryz.prog C (partOf Tryz.f129 [1,0,1,0,0]) (aJ 19 x) h=t129l129_1010 C x h:=
 bn (T:=t129l129_1010 C) (fun x h=>by kernel_rfl) x h
noncomputable def t130 (C:au) (x0:Value) (h:aj):Out:=
 ae (cL (List.replicate 32 (.int .u8 0)) h) fun y2 h=>
 ae (pu (eX 32 1 y2 none none none) h) fun y3 h=>
 ae (some (x0,h)) fun y4 h=>
 ae (C 74 [y4,(.int .i64 32)] h) fun y5 h=>
 ae (copyA 1 y3 y5 h) fun y6 h=>
 ae (bD 32 y2 h) fun y7 h=>
 ae (bw 32 y2 y7 h) fun _ h=>
 ar Tryz.prog Tryz.f130.results.toList (aJ 8 (up (bs [x0]) [(2,y2),(3,y3),(4,y4),(5,y5),(6,y6),(7,y7)])) h
theorem t130_eq (C:au) (x0:Value) (h:aj):bf Tryz.prog C Tryz.f130 [x0] h=t130 C x0 h:=
 (aL Tryz.prog C Tryz.f130 [x0] h (by kernel_rfl)).trans (by kernel_rfl)
noncomputable def k134_15 (C:au) (e:Env) (h:aj):Out:=aT Tryz.prog C (partOf Tryz.f134 [1,1,1,1,1,1,1,1,1]) e h (ar Tryz.prog Tryz.f134.results.toList) (ar Tryz.prog Tryz.f134.results.toList) (fun _ _ _=>none)
noncomputable def b134_17 (C:au) (i:Nat) (e:Env) (h:aj):Out:=if i=0 then (k134_15 C) e h else (fun _ _ _=>none) i e h
noncomputable def t134 (C:au) (x0:Value) (h:aj):Out:=
 ae (cL [(.int .i64 0),(.int .i64 0),(.int .i64 0),(.int .i64 0),(.int .u8 0),(.int .u8 0),(.int .u8 0),(.int .u8 0),(.int .u8 0),(.int .u8 0),(.int .u8 0),(.int .u8 0),(.int .u8 0),(.int .u8 0),(.int .u8 0),(.int .u8 0),(.int .u8 0),(.int .u8 0),(.int .u8 0),(.int .u8 0),(.int .u8 0),(.int .u8 0),(.int .u8 0),(.int .u8 0),(.int .u8 0),(.int .u8 0),(.int .u8 0),(.int .u8 0),(.int .u8 0),(.int .u8 0),(.int .u8 0),(.int .u8 0),(.int .u8 0),(.int .u8 0),(.int .u8 0),(.int .u8 0),(.slice none 0 0)] h) fun y2 h=>
 ae (some ((.int .i64 0),h)) fun y3 h=>
 ae (some (x0,h)) fun y9 h=>
 ae (C 32 [y9] h) fun y10 h=>
 ae (some (y10,h)) fun y4 h=>
 ae (some (y4,h)) fun y11 h=>
 ae (C 72 [y11] h) fun y12 h=>
 ae (some (y12,h)) fun y5 h=>
 ae (some (y4,h)) fun y13 h=>
 ae (C 73 [y13] h) fun y14 h=>
 ae (fc .i64 y14 h) fun y15 h=>
 ae (some (y4,h)) fun y16 h=>
 ae (C 73 [y16] h) fun y17 h=>
 ae (fc .i64 y17 h) fun y18 h=>
 ae (some (y4,h)) fun y19 h=>
 ae (C 73 [y19] h) fun y20 h=>
 ae (fc .i64 y20 h) fun y21 h=>
 ae (some (y4,h)) fun y22 h=>
 ae (C 72 [y22] h) fun y23 h=>
 ae (fc .i64 y23 h) fun y24 h=>
 ae (pu (bU [(.int .i64 0),(.int .i64 0),(.int .i64 0),(.int .i64 0),(.int .u8 0),(.int .u8 0),(.int .u8 0),(.int .u8 0),(.int .u8 0),(.int .u8 0),(.int .u8 0),(.int .u8 0),(.int .u8 0),(.int .u8 0),(.int .u8 0),(.int .u8 0),(.int .u8 0),(.int .u8 0),(.int .u8 0),(.int .u8 0),(.int .u8 0),(.int .u8 0),(.int .u8 0),(.int .u8 0),(.int .u8 0),(.int .u8 0),(.int .u8 0),(.int .u8 0),(.int .u8 0),(.int .u8 0),(.int .u8 0),(.int .u8 0),(.int .u8 0),(.int .u8 0),(.int .u8 0),(.int .u8 0),(.slice none 0 0)] [(0,1,y15),(1,1,y18),(2,1,y21),(3,1,y24)]) h) fun y25 h=>
 ae (cL [(.int .i64 0),(.int .i64 0),(.int .i64 0),(.int .i64 0),(.int .u8 0),(.int .u8 0),(.int .u8 0),(.int .u8 0),(.int .u8 0),(.int .u8 0),(.int .u8 0),(.int .u8 0),(.int .u8 0),(.int .u8 0),(.int .u8 0),(.int .u8 0),(.int .u8 0),(.int .u8 0),(.int .u8 0),(.int .u8 0),(.int .u8 0),(.int .u8 0),(.int .u8 0),(.int .u8 0),(.int .u8 0),(.int .u8 0),(.int .u8 0),(.int .u8 0),(.int .u8 0),(.int .u8 0),(.int .u8 0),(.int .u8 0),(.int .u8 0),(.int .u8 0),(.int .u8 0),(.int .u8 0),(.slice none 0 0)] h) fun y6 h=>
 ae (bw 37 y6 y25 h) fun _ h=>
 ae (some (y4,h)) fun cV h=>
 ae (C 75 [cV] h) fun dn h=>
 ae (some (dn,h)) fun y7 h=>
 ae (some (y7,h)) fun y28 h=>
 ae (pu (bin Tryz.prog .neq 35 y28 (.int .i64 0)) h) fun y29 h=>
 (match y29 with
 | .bool true=>
 ae (pu (bU [(.int .i64 0),(.int .i64 0),(.int .i64 0),(.int .i64 0),(.int .u8 0),(.int .u8 0),(.int .u8 0),(.int .u8 0),(.int .u8 0),(.int .u8 0),(.int .u8 0),(.int .u8 0),(.int .u8 0),(.int .u8 0),(.int .u8 0),(.int .u8 0),(.int .u8 0),(.int .u8 0),(.int .u8 0),(.int .u8 0),(.int .u8 0),(.int .u8 0),(.int .u8 0),(.int .u8 0),(.int .u8 0),(.int .u8 0),(.int .u8 0),(.int .u8 0),(.int .u8 0),(.int .u8 0),(.int .u8 0),(.int .u8 0),(.int .u8 0),(.int .u8 0),(.int .u8 0),(.int .u8 0),(.slice none 0 0)] []) h) fun y30 h=>
 ae (some (y7,h)) fun y31 h=>
 ae (bw 37 y2 y30 h) fun _ h=>
 ae (some (y31,h)) fun y3_1 h=>
 ar Tryz.prog Tryz.f134.results.toList (aJ 71 (up (bs [x0]) [(2,y2),(3,y3_1),(4,y4),(5,y5),(6,y6),(7,y7),(9,y9),(10,y10),(11,y11),(12,y12),(13,y13),(14,y14),(15,y15),(16,y16),(17,y17),(18,y18),(19,y19),(20,y20),(21,y21),(22,y22),(23,y23),(24,y24),(25,y25),(26,cV),(27,dn),(28,y28),(29,y29),(30,y30),(31,y31)])) h
 | .bool false=>
 ae (some (y5,h)) fun y32 h=>
 ae (pu (bin Tryz.prog .neq 65 y32 (.int .u16 19713)) h) fun y33 h=>
 (match y33 with
 | .bool true=>
 ae (pu (bU [(.int .i64 0),(.int .i64 0),(.int .i64 0),(.int .i64 0),(.int .u8 0),(.int .u8 0),(.int .u8 0),(.int .u8 0),(.int .u8 0),(.int .u8 0),(.int .u8 0),(.int .u8 0),(.int .u8 0),(.int .u8 0),(.int .u8 0),(.int .u8 0),(.int .u8 0),(.int .u8 0),(.int .u8 0),(.int .u8 0),(.int .u8 0),(.int .u8 0),(.int .u8 0),(.int .u8 0),(.int .u8 0),(.int .u8 0),(.int .u8 0),(.int .u8 0),(.int .u8 0),(.int .u8 0),(.int .u8 0),(.int .u8 0),(.int .u8 0),(.int .u8 0),(.int .u8 0),(.int .u8 0),(.slice none 0 0)] []) h) fun y34 h=>
 ae (bw 37 y2 y34 h) fun _ h=>
 ae (some ((.int .i64 5),h)) fun y3_1 h=>
 ar Tryz.prog Tryz.f134.results.toList (aJ 71 (up (bs [x0]) [(2,y2),(3,y3_1),(4,y4),(5,y5),(6,y6),(7,y7),(9,y9),(10,y10),(11,y11),(12,y12),(13,y13),(14,y14),(15,y15),(16,y16),(17,y17),(18,y18),(19,y19),(20,y20),(21,y21),(22,y22),(23,y23),(24,y24),(25,y25),(26,cV),(27,dn),(28,y28),(29,y29),(32,y32),(33,y33),(34,y34)])) h
 | .bool false=>
 ae (pu (aA y6 0) h) fun y35 h=>
 ae (aN y35 h) fun y36 h=>
 ae (pu (aA y6 1) h) fun y37 h=>
 ae (aN y37 h) fun y38 h=>
 ae (pu (aA y6 2) h) fun y39 h=>
 ae (aN y39 h) fun y40 h=>
 ae (C 148 [y36,y38,y40] h) fun y41 h=>
 ae (pu (unA .not y41) h) fun y42 h=>
 ae (some (y42,h)) fun y43 h=>
 ae (aq (aI y43==some false) (pu (aA y6 3) h) h) fun y44 h=>
 ae (aq (aI y43==some false) (aN y44 h) h) fun y45 h=>
 ae (aq (aI y43==some false) (pu (bin Tryz.prog .gtr 3 y45 (.int .i64 8192)) h) h) fun y46 h=>
 ae (match y43 with | .bool t=>some (if t then (.bool true) else y46,h)|_=>none) fun y47 h=>
 (match y47 with
 | .bool true=>
 ae (pu (bU [(.int .i64 0),(.int .i64 0),(.int .i64 0),(.int .i64 0),(.int .u8 0),(.int .u8 0),(.int .u8 0),(.int .u8 0),(.int .u8 0),(.int .u8 0),(.int .u8 0),(.int .u8 0),(.int .u8 0),(.int .u8 0),(.int .u8 0),(.int .u8 0),(.int .u8 0),(.int .u8 0),(.int .u8 0),(.int .u8 0),(.int .u8 0),(.int .u8 0),(.int .u8 0),(.int .u8 0),(.int .u8 0),(.int .u8 0),(.int .u8 0),(.int .u8 0),(.int .u8 0),(.int .u8 0),(.int .u8 0),(.int .u8 0),(.int .u8 0),(.int .u8 0),(.int .u8 0),(.int .u8 0),(.slice none 0 0)] []) h) fun y48 h=>
 ae (bw 37 y2 y48 h) fun _ h=>
 ae (some ((.int .i64 2),h)) fun y3_1 h=>
 ar Tryz.prog Tryz.f134.results.toList (aJ 71 (up (bs [x0]) [(2,y2),(3,y3_1),(4,y4),(5,y5),(6,y6),(7,y7),(9,y9),(10,y10),(11,y11),(12,y12),(13,y13),(14,y14),(15,y15),(16,y16),(17,y17),(18,y18),(19,y19),(20,y20),(21,y21),(22,y22),(23,y23),(24,y24),(25,y25),(26,cV),(27,dn),(28,y28),(29,y29),(32,y32),(33,y33),(35,y35),(36,y36),(37,y37),(38,y38),(39,y39),(40,y40),(41,y41),(42,y42),(43,y43),(44,y44),(45,y45),(46,y46),(47,y47),(48,y48)])) h
 | .bool false=>
 ae (some (y4,h)) fun y49 h=>
 ae (C 149 [y49] h) fun y50 h=>
 ae (pu (aA y6 4) h) fun y51 h=>
 ae (bw 32 y51 y50 h) fun _ h=>
 ae (pu (aA y6 2) h) fun y52 h=>
 ae (aN y52 h) fun eJ h=>
 ae (some ((.int .i64 0),h)) fun eN h=>
 dX (iter (aM Tryz.prog C (partOf Tryz.f134 [1,1,1,1,1,1,1,1,0,1,0,0])) rounds (aJ 71 (up (bs [x0]) [(2,y2),(3,y3),(4,y4),(5,y5),(6,y6),(7,y7),(9,y9),(10,y10),(11,y11),(12,y12),(13,y13),(14,y14),(15,y15),(16,y16),(17,y17),(18,y18),(19,y19),(20,y20),(21,y21),(22,y22),(23,y23),(24,y24),(25,y25),(26,cV),(27,dn),(28,y28),(29,y29),(32,y32),(33,y33),(35,y35),(36,y36),(37,y37),(38,y38),(39,y39),(40,y40),(41,y41),(42,y42),(43,y43),(44,y44),(45,y45),(46,y46),(47,y47),(49,y49),(50,y50),(51,y51),(52,y52),(53,eJ),(54,eN)])) h) (ar Tryz.prog Tryz.f134.results.toList) (b134_17 C)
 |_=>none)
 |_=>none)
 |_=>none)
noncomputable def t134k134_15 (C:au) (x:Nat→Value) (h:aj):Out:=
 ae (some ((x 4),h)) fun y64 h=>
 ae (C 36 [y64] h) fun y65 h=>
 ae (some (y65,h)) fun y8 h=>
 ae (some (y8,h)) fun y66 h=>
 ae (pu (bin Tryz.prog .neq 35 y66 (.int .i64 0)) h) fun y67 h=>
 (match y67 with
 | .bool true=>
 ae (pu (bU [(.int .i64 0),(.int .i64 0),(.int .i64 0),(.int .i64 0),(.int .u8 0),(.int .u8 0),(.int .u8 0),(.int .u8 0),(.int .u8 0),(.int .u8 0),(.int .u8 0),(.int .u8 0),(.int .u8 0),(.int .u8 0),(.int .u8 0),(.int .u8 0),(.int .u8 0),(.int .u8 0),(.int .u8 0),(.int .u8 0),(.int .u8 0),(.int .u8 0),(.int .u8 0),(.int .u8 0),(.int .u8 0),(.int .u8 0),(.int .u8 0),(.int .u8 0),(.int .u8 0),(.int .u8 0),(.int .u8 0),(.int .u8 0),(.int .u8 0),(.int .u8 0),(.int .u8 0),(.int .u8 0),(.slice none 0 0)] []) h) fun y68 h=>
 ae (some (y8,h)) fun y69 h=>
 ae (bw 37 (x 2) y68 h) fun _ h=>
 ae (some (y69,h)) fun y3 h=>
 ar Tryz.prog Tryz.f134.results.toList (aJ 71 (up x [(3,y3),(8,y8),(64,y64),(65,y65),(66,y66),(67,y67),(68,y68),(69,y69)])) h
 | .bool false=>
 ae (bD 37 (x 6) h) fun y70 h=>
 ae (bw 37 (x 2) y70 h) fun _ h=>
 ae (some ((.int .i64 0),h)) fun y3 h=>
 ar Tryz.prog Tryz.f134.results.toList (aJ 71 (up x [(3,y3),(8,y8),(64,y64),(65,y65),(66,y66),(67,y67),(70,y70)])) h
 |_=>none)
noncomputable def dE (C:au) (x:Nat→Value) (h:aj):Option (Ex×Env×aj):=
 ae (pu (bin Tryz.prog .lss 3 (x 54) (x 53)) h) fun y55 h=>
 (match y55 with
 | .bool true=>
 let g27_0:=h
 ae (pu (aA (x 6) 36) g27_0) fun y56 g27_1=>
 ae (aN y56 g27_1) fun y57 g27_2=>
 ae (some ((x 4),g27_2)) fun y58 g27_3=>
 ae (C 149 [y58] g27_3) fun y59 g27_4=>
 ae (bslR 32 (.agg (List.replicate 32 (.int .u8 0)).toArray) 1 [(0,y59)] g27_4) fun y60 g27_5=>
 ae (cl 32 32 y57 y60 g27_5) fun y61 g27_6=>
 ae (pu (aA (x 6) 36) g27_6) fun y62 g27_7=>
 ae (bw 1 y62 y61 g27_7) fun _ g27_8=>
 (match (dH true (aN y56 g27_4) y57&&true) with
 |true=>
 let h:=g27_8
 ae (pu (bin Tryz.prog .add 3 (x 54) (.int .i64 1)) h) fun y63 h=>
 ae (some (y63,h)) fun eN h=>
 some (.normal,(aJ 71 (up x [(54,eN),(55,y55),(56,y56),(57,y57),(58,y58),(59,y59),(60,y60),(61,y61),(62,y62),(63,y63)])),h)
 |false=>none)
 | .bool false=>
 some (.exit 0,(aJ 71 (up x [(55,y55)])),h)
 |_=>none)
theorem t134_eq (C:au) (x0:Value) (h:aj):bf Tryz.prog C Tryz.f134 [x0] h=t134 C x0 h:=
 (aL Tryz.prog C Tryz.f134 [x0] h (by kernel_rfl)).trans (by kernel_rfl)
theorem t134k134_15_eq (C:au) (x:Nat→Value) (h:aj):k134_15 C (aJ 71 x) h=t134k134_15 C x h:=
 bg (b:=(partOf Tryz.f134 [1,1,1,1,1,1,1,1,1])) (kE:=(ar Tryz.prog Tryz.f134.results.toList)) (rE:=(ar Tryz.prog Tryz.f134.results.toList)) (xE:=(fun _ _ _=>none)) (T:=t134k134_15 C) (fun x h=>by kernel_rfl) x h
theorem t134l134_11111111010_eq (C:au) (x:Nat→Value) (h:aj):aM Tryz.prog C (partOf Tryz.f134 [1,1,1,1,1,1,1,1,0,1,0,0]) (aJ 71 x) h=dE C x h:=
 bn (T:=dE C) (fun x h=>by kernel_rfl) x h
noncomputable def t140 (C:au) (x0:Value) (h:aj):Out:=
 ae (cL [(.int .u8 0),(.int .u8 0),(.int .u8 0),(.int .u8 0),(.int .u8 0),(.int .u8 0),(.int .u8 0),(.int .u8 0),(.int .u8 0),(.int .u8 0),(.int .u8 0),(.int .u8 0),(.int .u8 0),(.int .u8 0),(.int .u8 0),(.int .u8 0),(.int .u8 0),(.int .u8 0),(.int .u8 0),(.int .u8 0),(.int .u8 0),(.int .u8 0),(.int .u8 0),(.int .u8 0),(.int .u8 0),(.int .u8 0),(.int .u8 0),(.int .u8 0),(.int .u8 0),(.int .u8 0),(.int .u8 0),(.int .u8 0),(.int .u8 0),(.int .i64 0),(.int .u64 0),(.int .u64 0),(.bool false),(.int .i64 0),(.int .i64 0)] h) fun y2 h=>
 ae (some ((.int .i64 0),h)) fun _y3 h=>
 ae (some (x0,h)) fun y8 h=>
 ae (pu (bG y8) h) fun y9 h=>
 ae (pu (bin Tryz.prog .lss 3 y9 (.int .i64 53)) h) fun y10 h=>
 ae (some (y10,h)) fun y7 h=>
 (match y7 with
 | .bool true=>
 ae (pu (bU [(.int .u8 0),(.int .u8 0),(.int .u8 0),(.int .u8 0),(.int .u8 0),(.int .u8 0),(.int .u8 0),(.int .u8 0),(.int .u8 0),(.int .u8 0),(.int .u8 0),(.int .u8 0),(.int .u8 0),(.int .u8 0),(.int .u8 0),(.int .u8 0),(.int .u8 0),(.int .u8 0),(.int .u8 0),(.int .u8 0),(.int .u8 0),(.int .u8 0),(.int .u8 0),(.int .u8 0),(.int .u8 0),(.int .u8 0),(.int .u8 0),(.int .u8 0),(.int .u8 0),(.int .u8 0),(.int .u8 0),(.int .u8 0),(.int .u8 0),(.int .i64 0),(.int .u64 0),(.int .u64 0),(.bool false),(.int .i64 0),(.int .i64 0)] []) h) fun y11 h=>
 ae (bw 39 y2 y11 h) fun _ h=>
 ae (some ((.int .i64 4),h)) fun y3_1 h=>
 ar Tryz.prog Tryz.f140.results.toList (aJ 58 (up (bs [x0]) [(2,y2),(3,y3_1),(7,y7),(8,y8),(9,y9),(10,y10),(11,y11)])) h
 | .bool false=>
 ae (some (x0,h)) fun y13 h=>
 ae (pu (bG y13) h) fun y14 h=>
 ae (pu (bin Tryz.prog .gtr 3 y14 (.int .i64 53)) h) fun y15 h=>
 ae (some (y15,h)) fun y12 h=>
 (match y12 with
 | .bool true=>
 ae (pu (bU [(.int .u8 0),(.int .u8 0),(.int .u8 0),(.int .u8 0),(.int .u8 0),(.int .u8 0),(.int .u8 0),(.int .u8 0),(.int .u8 0),(.int .u8 0),(.int .u8 0),(.int .u8 0),(.int .u8 0),(.int .u8 0),(.int .u8 0),(.int .u8 0),(.int .u8 0),(.int .u8 0),(.int .u8 0),(.int .u8 0),(.int .u8 0),(.int .u8 0),(.int .u8 0),(.int .u8 0),(.int .u8 0),(.int .u8 0),(.int .u8 0),(.int .u8 0),(.int .u8 0),(.int .u8 0),(.int .u8 0),(.int .u8 0),(.int .u8 0),(.int .i64 0),(.int .u64 0),(.int .u64 0),(.bool false),(.int .i64 0),(.int .i64 0)] []) h) fun y16 h=>
 ae (bw 39 y2 y16 h) fun _ h=>
 ae (some ((.int .i64 3),h)) fun y3_1 h=>
 ar Tryz.prog Tryz.f140.results.toList (aJ 58 (up (bs [x0]) [(2,y2),(3,y3_1),(7,y7),(8,y8),(9,y9),(10,y10),(12,y12),(13,y13),(14,y14),(15,y15),(16,y16)])) h
 | .bool false=>
 ae (some (x0,h)) fun y17 h=>
 ae (C 32 [y17] h) fun y18 h=>
 ae (some (y18,h)) fun y4 h=>
 ae (some (y4,h)) fun y19 h=>
 ae (C 73 [y19] h) fun y20 h=>
 ae (pu (bU [(.int .u8 0),(.int .u8 0),(.int .u8 0),(.int .u8 0),(.int .u8 0),(.int .u8 0),(.int .u8 0),(.int .u8 0),(.int .u8 0),(.int .u8 0),(.int .u8 0),(.int .u8 0),(.int .u8 0),(.int .u8 0),(.int .u8 0),(.int .u8 0),(.int .u8 0),(.int .u8 0),(.int .u8 0),(.int .u8 0),(.int .u8 0),(.int .u8 0),(.int .u8 0),(.int .u8 0),(.int .u8 0),(.int .u8 0),(.int .u8 0),(.int .u8 0),(.int .u8 0),(.int .u8 0),(.int .u8 0),(.int .u8 0),(.int .u8 0),(.int .i64 0),(.int .u64 0),(.int .u64 0),(.bool false),(.int .i64 0),(.int .i64 0)] [(0,1,y20)]) h) fun y21 h=>
 ae (cL [(.int .u8 0),(.int .u8 0),(.int .u8 0),(.int .u8 0),(.int .u8 0),(.int .u8 0),(.int .u8 0),(.int .u8 0),(.int .u8 0),(.int .u8 0),(.int .u8 0),(.int .u8 0),(.int .u8 0),(.int .u8 0),(.int .u8 0),(.int .u8 0),(.int .u8 0),(.int .u8 0),(.int .u8 0),(.int .u8 0),(.int .u8 0),(.int .u8 0),(.int .u8 0),(.int .u8 0),(.int .u8 0),(.int .u8 0),(.int .u8 0),(.int .u8 0),(.int .u8 0),(.int .u8 0),(.int .u8 0),(.int .u8 0),(.int .u8 0),(.int .i64 0),(.int .u64 0),(.int .u64 0),(.bool false),(.int .i64 0),(.int .i64 0)] h) fun y5 h=>
 ae (bw 39 y5 y21 h) fun _ h=>
 ae (pu (aA y5 1) h) fun y22 h=>
 ae (pu (eX 32 1 y22 none none none) h) fun y23 h=>
 ae (some (y4,h)) fun y24 h=>
 ae (C 74 [y24,(.int .i64 32)] h) fun y25 h=>
 ae (copyA 1 y23 y25 h) fun cV h=>
 ae (some (y4,h)) fun dn h=>
 ae (C 73 [dn] h) fun y28 h=>
 ae (fc .i64 y28 h) fun y29 h=>
 ae (some (y4,h)) fun y30 h=>
 ae (C 128 [y30] h) fun y31 h=>
 ae (some (y4,h)) fun y32 h=>
 ae (C 128 [y32] h) fun y33 h=>
 ae (pu (aA y5 33) h) fun y34 h=>
 ae (bw 1 y34 y29 h) fun _ h=>
 ae (pu (aA y5 34) h) fun y35 h=>
 ae (bw 1 y35 y31 h) fun _ h=>
 ae (pu (aA y5 35) h) fun y36 h=>
 ae (bw 1 y36 y33 h) fun _ h=>
 ae (some (y4,h)) fun y37 h=>
 ae (C 73 [y37] h) fun y38 h=>
 ae (some (y38,h)) fun y6 h=>
 ae (some (y6,h)) fun y39 h=>
 ae (pu (bin Tryz.prog .eql 5 y39 (.int .u8 1)) h) fun y40 h=>
 ae (some (y4,h)) fun y41 h=>
 ae (C 73 [y41] h) fun y42 h=>
 ae (fc .i64 y42 h) fun y43 h=>
 ae (some (y4,h)) fun y44 h=>
 ae (C 73 [y44] h) fun y45 h=>
 ae (fc .i64 y45 h) fun y46 h=>
 ae (pu (aA y5 36) h) fun y47 h=>
 ae (bw 1 y47 y40 h) fun _ h=>
 ae (pu (aA y5 37) h) fun y48 h=>
 ae (bw 1 y48 y43 h) fun _ h=>
 ae (pu (aA y5 38) h) fun y49 h=>
 ae (bw 1 y49 y46 h) fun _ h=>
 ae (some (y6,h)) fun y50 h=>
 ae (pu (bin Tryz.prog .gtr 5 y50 (.int .u8 1)) h) fun y51 h=>
 (match y51 with
 | .bool true=>
 ae (pu (bU [(.int .u8 0),(.int .u8 0),(.int .u8 0),(.int .u8 0),(.int .u8 0),(.int .u8 0),(.int .u8 0),(.int .u8 0),(.int .u8 0),(.int .u8 0),(.int .u8 0),(.int .u8 0),(.int .u8 0),(.int .u8 0),(.int .u8 0),(.int .u8 0),(.int .u8 0),(.int .u8 0),(.int .u8 0),(.int .u8 0),(.int .u8 0),(.int .u8 0),(.int .u8 0),(.int .u8 0),(.int .u8 0),(.int .u8 0),(.int .u8 0),(.int .u8 0),(.int .u8 0),(.int .u8 0),(.int .u8 0),(.int .u8 0),(.int .u8 0),(.int .i64 0),(.int .u64 0),(.int .u64 0),(.bool false),(.int .i64 0),(.int .i64 0)] []) h) fun y52 h=>
 ae (bw 39 y2 y52 h) fun _ h=>
 ae (some ((.int .i64 5),h)) fun y3_1 h=>
 ar Tryz.prog Tryz.f140.results.toList (aJ 58 (up (bs [x0]) [(2,y2),(3,y3_1),(4,y4),(5,y5),(6,y6),(7,y7),(8,y8),(9,y9),(10,y10),(12,y12),(13,y13),(14,y14),(15,y15),(17,y17),(18,y18),(19,y19),(20,y20),(21,y21),(22,y22),(23,y23),(24,y24),(25,y25),(26,cV),(27,dn),(28,y28),(29,y29),(30,y30),(31,y31),(32,y32),(33,y33),(34,y34),(35,y35),(36,y36),(37,y37),(38,y38),(39,y39),(40,y40),(41,y41),(42,y42),(43,y43),(44,y44),(45,y45),(46,y46),(47,y47),(48,y48),(49,y49),(50,y50),(51,y51),(52,y52)])) h
 | .bool false=>
 ae (bD 39 y5 h) fun eJ h=>
 ae (C 138 [eJ] h) fun eN h=>
 ae (pu (unA .not eN) h) fun y55 h=>
 (match y55 with
 | .bool true=>
 ae (pu (bU [(.int .u8 0),(.int .u8 0),(.int .u8 0),(.int .u8 0),(.int .u8 0),(.int .u8 0),(.int .u8 0),(.int .u8 0),(.int .u8 0),(.int .u8 0),(.int .u8 0),(.int .u8 0),(.int .u8 0),(.int .u8 0),(.int .u8 0),(.int .u8 0),(.int .u8 0),(.int .u8 0),(.int .u8 0),(.int .u8 0),(.int .u8 0),(.int .u8 0),(.int .u8 0),(.int .u8 0),(.int .u8 0),(.int .u8 0),(.int .u8 0),(.int .u8 0),(.int .u8 0),(.int .u8 0),(.int .u8 0),(.int .u8 0),(.int .u8 0),(.int .i64 0),(.int .u64 0),(.int .u64 0),(.bool false),(.int .i64 0),(.int .i64 0)] []) h) fun y56 h=>
 ae (bw 39 y2 y56 h) fun _ h=>
 ae (some ((.int .i64 2),h)) fun y3_1 h=>
 ar Tryz.prog Tryz.f140.results.toList (aJ 58 (up (bs [x0]) [(2,y2),(3,y3_1),(4,y4),(5,y5),(6,y6),(7,y7),(8,y8),(9,y9),(10,y10),(12,y12),(13,y13),(14,y14),(15,y15),(17,y17),(18,y18),(19,y19),(20,y20),(21,y21),(22,y22),(23,y23),(24,y24),(25,y25),(26,cV),(27,dn),(28,y28),(29,y29),(30,y30),(31,y31),(32,y32),(33,y33),(34,y34),(35,y35),(36,y36),(37,y37),(38,y38),(39,y39),(40,y40),(41,y41),(42,y42),(43,y43),(44,y44),(45,y45),(46,y46),(47,y47),(48,y48),(49,y49),(50,y50),(51,y51),(53,eJ),(54,eN),(55,y55),(56,y56)])) h
 | .bool false=>
 ae (bD 39 y5 h) fun y57 h=>
 ae (bw 39 y2 y57 h) fun _ h=>
 ae (some ((.int .i64 0),h)) fun y3_1 h=>
 ar Tryz.prog Tryz.f140.results.toList (aJ 58 (up (bs [x0]) [(2,y2),(3,y3_1),(4,y4),(5,y5),(6,y6),(7,y7),(8,y8),(9,y9),(10,y10),(12,y12),(13,y13),(14,y14),(15,y15),(17,y17),(18,y18),(19,y19),(20,y20),(21,y21),(22,y22),(23,y23),(24,y24),(25,y25),(26,cV),(27,dn),(28,y28),(29,y29),(30,y30),(31,y31),(32,y32),(33,y33),(34,y34),(35,y35),(36,y36),(37,y37),(38,y38),(39,y39),(40,y40),(41,y41),(42,y42),(43,y43),(44,y44),(45,y45),(46,y46),(47,y47),(48,y48),(49,y49),(50,y50),(51,y51),(53,eJ),(54,eN),(55,y55),(57,y57)])) h
 |_=>none)
 |_=>none)
 |_=>none)
 |_=>none)
theorem t140_eq (C:au) (x0:Value) (h:aj):bf Tryz.prog C Tryz.f140 [x0] h=t140 C x0 h:=
 (aL Tryz.prog C Tryz.f140 [x0] h (by kernel_rfl)).trans (by kernel_rfl)
end Go.Proofs.YtjghlcdidopcpaaGreatDoor

