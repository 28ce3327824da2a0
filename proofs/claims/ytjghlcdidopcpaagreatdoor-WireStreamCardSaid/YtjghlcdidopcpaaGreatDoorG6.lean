/-
  A part of the proof, spaces and names shortened by a program (a claim may hold 1,500,000 bytes).
  Conditions: as each theorem states.
-/
import Derived.Test.YtjghlcdidopcpaaGreatDoorG5
import Derived.Test.YtjghlcdidopcpaaGreatDoorProg
import Derived.KernelRfl
namespace Go.Proofs.YtjghlcdidopcpaaGreatDoor
open Go Go.Abs
noncomputable def t32 (C:av) (x0:Value) (h:ai):Out:=
 ae (some ((.pointer none),h)) fun _y2 h=>
 ae (some (x0,h)) fun y3 h=>
 ae (C 69 [y3] h) fun y4 h=>
 ae (pu (cQ [(.slice none 0 0),(.int .i64 0)] [(0,1,y4)]) h) fun y5 h=>
 ae (box y5 h) fun y6 h=>
 ae (some (y6,h)) fun y2_1 h=>
 some (y2_1,h)
theorem t32_eq (C:av) (x0:Value) (h:ai):bc Tryz.prog C Tryz.f32 [x0] h=t32 C x0 h:=
 (aE Tryz.prog C Tryz.f32 [x0] h (by kernel_rfl)).trans (by kernel_rfl)
noncomputable def t33 (C:av) (x0:Value) (h:ai):Out:=
 ae (some ((.int .u32 0),h)) fun _y2 h=>
 ae (some (x0,h)) fun y3 h=>
 ae (C 76 [y3,(.int .i64 4)] h) fun y4 h=>
 ae (cvI .u32 y4 h) fun y5 h=>
 ae (some (y5,h)) fun y2_1 h=>
 some (y2_1,h)
theorem t33_eq (C:av) (x0:Value) (h:ai):bc Tryz.prog C Tryz.f33 [x0] h=t33 C x0 h:=
 (aE Tryz.prog C Tryz.f33 [x0] h (by kernel_rfl)).trans (by kernel_rfl)
noncomputable def k34_2 (C:av) (e:Env) (h:ai):Out:=cw Tryz.prog C (partOf Tryz.f34 [1,1,1]) e h (ax Tryz.prog Tryz.f34.results.toList) (ax Tryz.prog Tryz.f34.results.toList) (fun _ _ _=>none)
noncomputable def b34_4 (C:av) (i:Nat) (e:Env) (h:ai):Out:=if i=0 then (k34_2 C) e h else (fun _ _ _=>none) i e h
noncomputable def k34_6 (C:av) (e:Env) (h:ai):Out:=cw Tryz.prog C (partOf Tryz.f34 [1,1,1,1,1]) e h (ax Tryz.prog Tryz.f34.results.toList) (ax Tryz.prog Tryz.f34.results.toList) (fun _ _ _=>none)
noncomputable def b34_8 (C:av) (i:Nat) (e:Env) (h:ai):Out:=if i=4 then (k34_6 C) e h else (fun _ _ _=>none) i e h
noncomputable def k34_11 (C:av) (e:Env) (h:ai):Option (Ex×Env×ai):=cw Tryz.prog C (partOf Tryz.f34 [1,1,0,1,0,0,1,1,1]) e h (fun e h=>some (Ex.normal,e,h)) (fun e h=>some (Ex.ret,e,h)) (fun i e h=>some (Ex.exit i,e,h))
noncomputable def b34_12 (C:av) (i:Nat) (e:Env) (h:ai):Option (Ex×Env×ai):=if i=1 then (k34_11 C) e h else (fun i e h=>some (Ex.exit i,e,h)) i e h
noncomputable def k34_15 (C:av) (e:Env) (h:ai):Option (Ex×Env×ai):=cw Tryz.prog C (partOf Tryz.f34 [1,1,0,1,0,0,1,1,0,0,1,1,1]) e h (k34_11 C) (fun e h=>some (Ex.ret,e,h)) (b34_12 C)
noncomputable def b34_17 (C:av) (i:Nat) (e:Env) (h:ai):Option (Ex×Env×ai):=if i=2 then (k34_15 C) e h else (b34_12 C) i e h
noncomputable def t34 (C:av) (x0:Value) (h:ai):Out:=
 ae (some ((.int .u32 0),h)) fun y2 h=>
 ae (eD (List.replicate 16 (.int .u32 0)) h) fun y3 h=>
 ae (some ((.int .i64 0),h)) fun y9 h=>
 ep (iter (aI Tryz.prog C (partOf Tryz.f34 [1,1,0,1,0,0])) rounds (bu 54 (up (bs [x0]) [(2,y2),(3,y3),(9,y9)])) h) (ax Tryz.prog Tryz.f34.results.toList) (b34_4 C)
noncomputable def t34k34_2 (C:av) (x:Nat→Value) (h:ai):Out:=
 ae (some ((.int .u32 4294967295),h)) fun y6 h=>
 ae (some ((x 0),h)) fun dA h=>
 ae (pu (bC dA) h) fun y28 h=>
 ae (some ((.int .i64 0),h)) fun y29 h=>
 ep (iter (aI Tryz.prog C (partOf Tryz.f34 [1,1,1,1,0,1,0,0])) rounds (bu 54 (up x [(6,y6),(27,dA),(28,y28),(29,y29)])) h) (ax Tryz.prog Tryz.f34.results.toList) (b34_8 C)
noncomputable def t34l34_11010 (C:av) (x:Nat→Value) (h:ai):Option (Ex×Env×ai):=
 ae (pu (bin Tryz.prog .lss 3 (x 9) (.int .i64 16)) h) fun y10 h=>
 (match y10 with
 | .bool true=>
 ae (some ((x 9),h)) fun y11 h=>
 ae (some (y11,h)) fun y4 h=>
 ae (some (y4,h)) fun y12 h=>
 ae (cvI .u32 y12 h) fun y13 h=>
 ae (some (y13,h)) fun y5 h=>
 ae (some ((.int .i64 0),h)) fun y14 h=>
 ep (iter (aI Tryz.prog C (partOf Tryz.f34 [1,1,0,1,0,0,1,1,0,0,1,1,0,1,0,0])) rounds (bu 54 (up x [(4,y4),(5,y5),(10,y10),(11,y11),(12,y12),(13,y13),(14,y14)])) h) (fun e h=>some (Ex.ret,e,h)) (b34_17 C)
 | .bool false=>
 some (.exit 0,(bu 54 (up x [(10,y10)])),h)
 |_=>none)
noncomputable def t34k34_6 (_C:av) (x:Nat→Value) (h:ai):Out:=
 ae (some ((x 6),h)) fun y52 h=>
 ae (pu (unA .xor y52) h) fun y53 h=>
 ae (some (y53,h)) fun y2 h=>
 some (y2,h)
noncomputable def eR (_C:av) (x:Nat→Value) (h:ai):Option (Ex×Env×ai):=
 ae (pu (bin Tryz.prog .lss 3 (x 29) (x 28)) h) fun y30 h=>
 (match y30 with
 | .bool true=>
 ae (pu (bW 1 (x 27) (x 29)) h) fun y31 h=>
 ae (aR y31 h) fun y32 h=>
 ae (some (y32,h)) fun y8 h=>
 ae (some ((x 6),h)) fun y33 h=>
 ae (some (y8,h)) fun y34 h=>
 ae (cvI .u32 y34 h) fun y35 h=>
 ae (pu (bin Tryz.prog .xor 50 y33 y35) h) fun y36 h=>
 ae (some (y36,h)) fun y6 h=>
 ae (some (y6,h)) fun y37 h=>
 ae (pu (bin Tryz.prog .and 50 y37 (.int .u32 15)) h) fun y38 h=>
 ae (pu (idxA 16 1 (x 3) y38) h) fun y39 h=>
 ae (aR y39 h) fun y40 h=>
 ae (some (y6,h)) fun y41 h=>
 ae (pu (bin Tryz.prog .shr 50 y41 (.int .u64 4)) h) fun y42 h=>
 ae (pu (bin Tryz.prog .xor 50 y40 y42) h) fun y43 h=>
 ae (some (y43,h)) fun y6_1 h=>
 ae (some (y6_1,h)) fun y44 h=>
 ae (pu (bin Tryz.prog .and 50 y44 (.int .u32 15)) h) fun y45 h=>
 ae (pu (idxA 16 1 (x 3) y45) h) fun y46 h=>
 ae (aR y46 h) fun y47 h=>
 ae (some (y6_1,h)) fun y48 h=>
 ae (pu (bin Tryz.prog .shr 50 y48 (.int .u64 4)) h) fun y49 h=>
 ae (pu (bin Tryz.prog .xor 50 y47 y49) h) fun y50 h=>
 ae (some (y50,h)) fun y6_2 h=>
 ae (pu (bin Tryz.prog .add 3 (x 29) (.int .i64 1)) h) fun y51 h=>
 ae (some (y51,h)) fun y29 h=>
 some (.normal,(bu 54 (up x [(6,y6_2),(8,y8),(29,y29),(30,y30),(31,y31),(32,y32),(33,y33),(34,y34),(35,y35),(36,y36),(37,y37),(38,y38),(39,y39),(40,y40),(41,y41),(42,y42),(43,y43),(44,y44),(45,y45),(46,y46),(47,y47),(48,y48),(49,y49),(50,y50),(51,y51)])),h)
 | .bool false=>
 some (.exit 4,(bu 54 (up x [(30,y30)])),h)
 |_=>none)
noncomputable def t34k34_11 (_C:av) (x:Nat→Value) (h:ai):Option (Ex×Env×ai):=
 ae (pu (bin Tryz.prog .add 3 (x 9) (.int .i64 1)) h) fun dj h=>
 ae (some (dj,h)) fun y9 h=>
 some (.normal,(bu 54 (up x [(9,y9),(26,dj)])),h)
noncomputable def t34k34_15 (C:av) (x:Nat→Value) (h:ai):Option (Ex×Env×ai):=
 ae (some ((x 4),h)) fun y23 h=>
 ae (some ((x 5),h)) fun y24 h=>
 ae (pu (idxA 16 1 (x 3) y23) h) fun y25 h=>
 ae (cA 1 y25 y24 h) fun _ h=>
 k34_11 C (bu 54 (up x [(23,y23),(24,y24),(25,y25)])) h
noncomputable def dM (_C:av) (x:Nat→Value) (h:ai):Option (Ex×Env×ai):=
 ae (pu (bin Tryz.prog .lss 3 (x 14) (.int .i64 4)) h) fun y15 h=>
 (match y15 with
 | .bool true=>
 ae (some ((x 5),h)) fun y16 h=>
 ae (pu (bin Tryz.prog .shr 50 y16 (.int .u64 1)) h) fun y17 h=>
 ae (some ((x 5),h)) fun y18 h=>
 ae (pu (bin Tryz.prog .and 50 y18 (.int .u32 1)) h) fun y19 h=>
 ae (pu (bin Tryz.prog .mul 50 (.int .u32 2197175160) y19) h) fun y20 h=>
 ae (pu (bin Tryz.prog .xor 50 y17 y20) h) fun y21 h=>
 ae (some (y21,h)) fun y5 h=>
 ae (pu (bin Tryz.prog .add 3 (x 14) (.int .i64 1)) h) fun y22 h=>
 ae (some (y22,h)) fun y14 h=>
 some (.normal,(bu 54 (up x [(5,y5),(14,y14),(15,y15),(16,y16),(17,y17),(18,y18),(19,y19),(20,y20),(21,y21),(22,y22)])),h)
 | .bool false=>
 some (.exit 2,(bu 54 (up x [(15,y15)])),h)
 |_=>none)
theorem t34_eq (C:av) (x0:Value) (h:ai):bc Tryz.prog C Tryz.f34 [x0] h=t34 C x0 h:=
 (aE Tryz.prog C Tryz.f34 [x0] h (by kernel_rfl)).trans (by kernel_rfl)
theorem t34k34_2_eq (C:av) (x:Nat→Value) (h:ai):k34_2 C (bu 54 x) h=t34k34_2 C x h:=
 bM (b:=(partOf Tryz.f34 [1,1,1])) (kE:=(ax Tryz.prog Tryz.f34.results.toList)) (rE:=(ax Tryz.prog Tryz.f34.results.toList)) (xE:=(fun _ _ _=>none)) (T:=t34k34_2 C) (fun x h=>by kernel_rfl) x h
theorem t34l34_11010_eq (C:av) (x:Nat→Value) (h:ai):aI Tryz.prog C (partOf Tryz.f34 [1,1,0,1,0,0]) (bu 54 x) h=t34l34_11010 C x h:=
 bt (T:=t34l34_11010 C) (fun x h=>by kernel_rfl) x h
theorem t34k34_6_eq (C:av) (x:Nat→Value) (h:ai):k34_6 C (bu 54 x) h=t34k34_6 C x h:=
 bM (b:=(partOf Tryz.f34 [1,1,1,1,1])) (kE:=(ax Tryz.prog Tryz.f34.results.toList)) (rE:=(ax Tryz.prog Tryz.f34.results.toList)) (xE:=(fun _ _ _=>none)) (T:=t34k34_6 C) (fun x h=>by kernel_rfl) x h
theorem t34l34_1111010_eq (C:av) (x:Nat→Value) (h:ai):aI Tryz.prog C (partOf Tryz.f34 [1,1,1,1,0,1,0,0]) (bu 54 x) h=eR C x h:=
 bt (T:=eR C) (fun x h=>by kernel_rfl) x h
theorem t34k34_11_eq (C:av) (x:Nat→Value) (h:ai):k34_11 C (bu 54 x) h=t34k34_11 C x h:=
 bM (b:=(partOf Tryz.f34 [1,1,0,1,0,0,1,1,1])) (kE:=(fun e h=>some (Ex.normal,e,h))) (rE:=(fun e h=>some (Ex.ret,e,h))) (xE:=(fun i e h=>some (Ex.exit i,e,h))) (T:=t34k34_11 C) (fun x h=>by kernel_rfl) x h
theorem t34k34_15_eq (C:av) (x:Nat→Value) (h:ai):k34_15 C (bu 54 x) h=t34k34_15 C x h:=
 bM (b:=(partOf Tryz.f34 [1,1,0,1,0,0,1,1,0,0,1,1,1])) (kE:=(k34_11 C)) (rE:=(fun e h=>some (Ex.ret,e,h))) (xE:=(b34_12 C)) (T:=t34k34_15 C) (fun x h=>by kernel_rfl) x h
theorem t34l34_110100110011010_eq (C:av) (x:Nat→Value) (h:ai):aI Tryz.prog C (partOf Tryz.f34 [1,1,0,1,0,0,1,1,0,0,1,1,0,1,0,0]) (bu 54 x) h=dM C x h:=
 bt (T:=dM C) (fun x h=>by kernel_rfl) x h
noncomputable def t36 (C:av) (x0:Value) (h:ai):Out:=
 ae (some ((.int .i64 0),h)) fun _y2 h=>
 ae (some (x0,h)) fun y4 h=>
 ae (C 75 [y4] h) fun y5 h=>
 ae (some (y5,h)) fun y3 h=>
 ae (some (y3,h)) fun y6 h=>
 ae (pu (bin Tryz.prog .neq 35 y6 (.int .i64 0)) h) fun y7 h=>
 (match y7 with
 | .bool true=>
 ae (some (y3,h)) fun y8 h=>
 ae (some (y8,h)) fun y2_1 h=>
 some (y2_1,h)
 | .bool false=>
 ae (some (x0,h)) fun y9 h=>
 ae (pu (aN y9) h) fun y10 h=>
 ae (pu (aB y10 0) h) fun y11 h=>
 ae (aR y11 h) fun y12 h=>
 ae (pu (bC y12) h) fun y13 h=>
 ae (pu (bin Tryz.prog .gtr 3 y13 (.int .i64 0)) h) fun y14 h=>
 (match y14 with
 | .bool true=>
 ae (some ((.int .i64 5),h)) fun y2_1 h=>
 some (y2_1,h)
 | .bool false=>
 ae (some ((.int .i64 0),h)) fun y2_1 h=>
 some (y2_1,h)
 |_=>none)
 |_=>none)
theorem t36_eq (C:av) (x0:Value) (h:ai):bc Tryz.prog C Tryz.f36 [x0] h=t36 C x0 h:=
 (aE Tryz.prog C Tryz.f36 [x0] h (by kernel_rfl)).trans (by kernel_rfl)
noncomputable def t47 (_C:av) (x0:Value) (h:ai):Out:=
 ae (some ((.pointer none),h)) fun _y2 h=>
 ae (some (x0,h)) fun y3 h=>
 ae (pu (eH true (.int .i64 0) [y3]) h) fun y4 h=>
 ae (pu (cQ [(.int .i64 0),(.bool false),(.slice none 0 0)] [(0,1,y4)]) h) fun y5 h=>
 ae (box y5 h) fun y6 h=>
 ae (some (y6,h)) fun y2_1 h=>
 some (y2_1,h)
theorem t47_eq (C:av) (x0:Value) (h:ai):bc Tryz.prog C Tryz.f47 [x0] h=t47 C x0 h:=
 (aE Tryz.prog C Tryz.f47 [x0] h (by kernel_rfl)).trans (by kernel_rfl)
noncomputable def t48 (C:av) (x0:Value) (h:ai):Out:=
 ae (some ((.slice none 0 0),h)) fun _y2 h=>
 ae (some ((.int .i64 0),h)) fun _y3 h=>
 ae (some (x0,h)) fun y5 h=>
 ae (pu (bin Tryz.prog .eql 90 y5 (.pointer none)) h) fun y6 h=>
 ae (some (y6,h)) fun y4 h=>
 (match y4 with
 | .bool true=>
 ae (some ((.slice none 0 0),h)) fun y2_1 h=>
 ae (some ((.int .i64 1),h)) fun y3_1 h=>
 some (.tuple #[y2_1,y3_1],h)
 | .bool false=>
 ae (some (x0,h)) fun y8 h=>
 ae (pu (aN y8) h) fun y9 h=>
 ae (pu (aB y9 1) h) fun y10 h=>
 ae (aR y10 h) fun y11 h=>
 ae (some (y11,h)) fun y7 h=>
 (match y7 with
 | .bool true=>
 ae (some ((.slice none 0 0),h)) fun y2_1 h=>
 ae (some ((.int .i64 3),h)) fun y3_1 h=>
 some (.tuple #[y2_1,y3_1],h)
 | .bool false=>
 ae (some (x0,h)) fun y12 h=>
 ae (pu (aN y12) h) fun y13 h=>
 ae (pu (aB y13 2) h) fun y14 h=>
 ae (aR y14 h) fun y15 h=>
 ae (C 69 [y15] h) fun y16 h=>
 ae (some (y16,h)) fun y2_1 h=>
 ae (some ((.int .i64 0),h)) fun y3_1 h=>
 some (.tuple #[y2_1,y3_1],h)
 |_=>none)
 |_=>none)
theorem t48_eq (C:av) (x0:Value) (h:ai):bc Tryz.prog C Tryz.f48 [x0] h=t48 C x0 h:=
 (aE Tryz.prog C Tryz.f48 [x0] h (by kernel_rfl)).trans (by kernel_rfl)
noncomputable def t49 (C:av) (x0 x1:Value) (h:ai):Out:=
 ae (some (x0,h)) fun y4 h=>
 ae (some (x1,h)) fun y5 h=>
 ae (cvI .u64 y5 h) fun y6 h=>
 ae (C 84 [y4,y6,(.int .i64 2)] h) fun _y7 h=>
 some (.tuple #[],h)
theorem t49_eq (C:av) (x0 x1:Value) (h:ai):bc Tryz.prog C Tryz.f49 [x0,x1] h=t49 C x0 x1 h:=
 (aE Tryz.prog C Tryz.f49 [x0,x1] h (by kernel_rfl)).trans (by kernel_rfl)
noncomputable def t50 (C:av) (x0 x1:Value) (h:ai):Out:=
 ae (some (x0,h)) fun y4 h=>
 ae (some (x1,h)) fun y5 h=>
 ae (cvI .u64 y5 h) fun y6 h=>
 ae (C 84 [y4,y6,(.int .i64 1)] h) fun _y7 h=>
 some (.tuple #[],h)
theorem t50_eq (C:av) (x0 x1:Value) (h:ai):bc Tryz.prog C Tryz.f50 [x0,x1] h=t50 C x0 x1 h:=
 (aE Tryz.prog C Tryz.f50 [x0,x1] h (by kernel_rfl)).trans (by kernel_rfl)
noncomputable def t51 (C:av) (x0 x1:Value) (h:ai):Out:=
 ae (some (x0,h)) fun y4 h=>
 ae (some (x1,h)) fun y5 h=>
 ae (cvI .u64 y5 h) fun y6 h=>
 ae (C 84 [y4,y6,(.int .i64 4)] h) fun _y7 h=>
 some (.tuple #[],h)
theorem t51_eq (C:av) (x0 x1:Value) (h:ai):bc Tryz.prog C Tryz.f51 [x0,x1] h=t51 C x0 x1 h:=
 (aE Tryz.prog C Tryz.f51 [x0,x1] h (by kernel_rfl)).trans (by kernel_rfl)
noncomputable def t52 (C:av) (x0 x1:Value) (h:ai):Out:=
 ae (some (x0,h)) fun y4 h=>
 ae (some (x1,h)) fun y5 h=>
 ae (pu (bC y5) h) fun y6 h=>
 ae (C 85 [y4,y6] h) fun y7 h=>
 (match y7 with
 | .bool true=>
 ae (some (x0,h)) fun y8 h=>
 ae (some (x0,h)) fun y9 h=>
 ae (pu (aN y9) h) fun y10 h=>
 ae (pu (aB y10 2) h) fun y11 h=>
 ae (aR y11 h) fun y12 h=>
 ae (some (x1,h)) fun y13 h=>
 ae (bq 1 1 y12 y13 h) fun y14 h=>
 ae (pu (aN y8) h) fun y15 h=>
 ae (pu (aB y15 2) h) fun y16 h=>
 ae (cA 1 y16 y14 h) fun _ h=>
 some (.tuple #[],h)
 | .bool false=>
 some (.tuple #[],h)
 |_=>none)
theorem t52_eq (C:av) (x0 x1:Value) (h:ai):bc Tryz.prog C Tryz.f52 [x0,x1] h=t52 C x0 x1 h:=
 (aE Tryz.prog C Tryz.f52 [x0,x1] h (by kernel_rfl)).trans (by kernel_rfl)
noncomputable def t72 (C:av) (x0:Value) (h:ai):Out:=
 ae (some ((.int .u16 0),h)) fun _y2 h=>
 ae (some (x0,h)) fun y3 h=>
 ae (C 76 [y3,(.int .i64 2)] h) fun y4 h=>
 ae (cvI .u16 y4 h) fun y5 h=>
 ae (some (y5,h)) fun y2_1 h=>
 some (y2_1,h)
theorem t72_eq (C:av) (x0:Value) (h:ai):bc Tryz.prog C Tryz.f72 [x0] h=t72 C x0 h:=
 (aE Tryz.prog C Tryz.f72 [x0] h (by kernel_rfl)).trans (by kernel_rfl)
noncomputable def t73 (C:av) (x0:Value) (h:ai):Out:=
 ae (some ((.int .u8 0),h)) fun _y2 h=>
 ae (some (x0,h)) fun y3 h=>
 ae (C 76 [y3,(.int .i64 1)] h) fun y4 h=>
 ae (cvI .u8 y4 h) fun y5 h=>
 ae (some (y5,h)) fun y2_1 h=>
 some (y2_1,h)
theorem t73_eq (C:av) (x0:Value) (h:ai):bc Tryz.prog C Tryz.f73 [x0] h=t73 C x0 h:=
 (aE Tryz.prog C Tryz.f73 [x0] h (by kernel_rfl)).trans (by kernel_rfl)
noncomputable def t74 (C:av) (x0 x1:Value) (h:ai):Out:=
 ae (some ((.slice none 0 0),h)) fun _y4 h=>
 ae (some (x0,h)) fun y5 h=>
 ae (some (x1,h)) fun y6 h=>
 ae (C 94 [y5,y6] h) fun y7 h=>
 ae (C 69 [y7] h) fun y8 h=>
 ae (some (y8,h)) fun y4_1 h=>
 some (y4_1,h)
theorem t74_eq (C:av) (x0 x1:Value) (h:ai):bc Tryz.prog C Tryz.f74 [x0,x1] h=t74 C x0 x1 h:=
 (aE Tryz.prog C Tryz.f74 [x0,x1] h (by kernel_rfl)).trans (by kernel_rfl)
noncomputable def t75 (_C:av) (x0:Value) (h:ai):Out:=
 ae (some ((.int .i64 0),h)) fun _y2 h=>
 ae (some (x0,h)) fun y3 h=>
 ae (pu (bin Tryz.prog .eql 68 y3 (.pointer none)) h) fun y4 h=>
 (match y4 with
 | .bool true=>
 ae (some ((.int .i64 1),h)) fun y2_1 h=>
 some (y2_1,h)
 | .bool false=>
 ae (some (x0,h)) fun y5 h=>
 ae (pu (aN y5) h) fun y6 h=>
 ae (pu (aB y6 1) h) fun y7 h=>
 ae (aR y7 h) fun y8 h=>
 ae (some (y8,h)) fun y2_1 h=>
 some (y2_1,h)
 |_=>none)
theorem t75_eq (C:av) (x0:Value) (h:ai):bc Tryz.prog C Tryz.f75 [x0] h=t75 C x0 h:=
 (aE Tryz.prog C Tryz.f75 [x0] h (by kernel_rfl)).trans (by kernel_rfl)
noncomputable def k76_2 (C:av) (e:Env) (h:ai):Out:=cw Tryz.prog C (partOf Tryz.f76 [1,1,1]) e h (ax Tryz.prog Tryz.f76.results.toList) (ax Tryz.prog Tryz.f76.results.toList) (fun _ _ _=>none)
noncomputable def b76_4 (C:av) (i:Nat) (e:Env) (h:ai):Out:=if i=0 then (k76_2 C) e h else (fun _ _ _=>none) i e h
noncomputable def t76 (C:av) (x0 x1:Value) (h:ai):Out:=
 ae (some ((.int .u64 0),h)) fun y4 h=>
 ae (some ((.int .u64 0),h)) fun y5 h=>
 ae (some (x0,h)) fun y8 h=>
 ae (some (x1,h)) fun y9 h=>
 ae (C 94 [y8,y9] h) fun y10 h=>
 ae (pu (bC y10) h) fun y11 h=>
 ae (some ((.int .i64 0),h)) fun y12 h=>
 ep (iter (aI Tryz.prog C (partOf Tryz.f76 [1,1,0,1,0,0])) rounds (bu 23 (up (bs [x0,x1]) [(4,y4),(5,y5),(8,y8),(9,y9),(10,y10),(11,y11),(12,y12)])) h) (ax Tryz.prog Tryz.f76.results.toList) (b76_4 C)
noncomputable def t76k76_2 (_C:av) (x:Nat→Value) (h:ai):Out:=
 ae (some ((x 5),h)) fun y22 h=>
 ae (some (y22,h)) fun y4 h=>
 some (y4,h)
noncomputable def t76l76_11010 (_C:av) (x:Nat→Value) (h:ai):Option (Ex×Env×ai):=
 ae (pu (bin Tryz.prog .lss 3 (x 12) (x 11)) h) fun y13 h=>
 (match y13 with
 | .bool true=>
 ae (pu (bW 1 (x 10) (x 12)) h) fun y14 h=>
 ae (aR y14 h) fun y15 h=>
 ae (some (y15,h)) fun y7 h=>
 ae (some ((x 5),h)) fun y16 h=>
 ae (pu (bin Tryz.prog .shl 25 y16 (.int .u64 8)) h) fun y17 h=>
 ae (some (y7,h)) fun y18 h=>
 ae (cvI .u64 y18 h) fun y19 h=>
 ae (pu (bin Tryz.prog .or 25 y17 y19) h) fun y20 h=>
 ae (some (y20,h)) fun y5 h=>
 ae (pu (bin Tryz.prog .add 3 (x 12) (.int .i64 1)) h) fun y21 h=>
 ae (some (y21,h)) fun y12 h=>
 some (.normal,(bu 23 (up x [(5,y5),(7,y7),(12,y12),(13,y13),(14,y14),(15,y15),(16,y16),(17,y17),(18,y18),(19,y19),(20,y20),(21,y21)])),h)
 | .bool false=>
 some (.exit 0,(bu 23 (up x [(13,y13)])),h)
 |_=>none)
theorem t76_eq (C:av) (x0 x1:Value) (h:ai):bc Tryz.prog C Tryz.f76 [x0,x1] h=t76 C x0 x1 h:=
 (aE Tryz.prog C Tryz.f76 [x0,x1] h (by kernel_rfl)).trans (by kernel_rfl)
theorem t76k76_2_eq (C:av) (x:Nat→Value) (h:ai):k76_2 C (bu 23 x) h=t76k76_2 C x h:=
 bM (b:=(partOf Tryz.f76 [1,1,1])) (kE:=(ax Tryz.prog Tryz.f76.results.toList)) (rE:=(ax Tryz.prog Tryz.f76.results.toList)) (xE:=(fun _ _ _=>none)) (T:=t76k76_2 C) (fun x h=>by kernel_rfl) x h
theorem t76l76_11010_eq (C:av) (x:Nat→Value) (h:ai):aI Tryz.prog C (partOf Tryz.f76 [1,1,0,1,0,0]) (bu 23 x) h=t76l76_11010 C x h:=
 bt (T:=t76l76_11010 C) (fun x h=>by kernel_rfl) x h
noncomputable def b84_2 (_C:av) (i:Nat) (e:Env) (h:ai):Out:=if i=0 then (ax Tryz.prog Tryz.f84.results.toList) e h else (fun _ _ _=>none) i e h
noncomputable def t84 (C:av) (x0 x1 x2:Value) (h:ai):Out:=
 ae (some (x0,h)) fun y7 h=>
 ae (some (x2,h)) fun y8 h=>
 ae (C 85 [y7,y8] h) fun y9 h=>
 (match y9 with
 | .bool true=>
 ae (some (x2,h)) fun y10 h=>
 ae (pu (bin Tryz.prog .sub 3 y10 (.int .i64 1)) h) fun y11 h=>
 ae (some (y11,h)) fun y6 h=>
 ep (iter (aI Tryz.prog C (partOf Tryz.f84 [1,0,1,0,0])) rounds (bu 30 (up (bs [x0,x1,x2]) [(6,y6),(7,y7),(8,y8),(9,y9),(10,y10),(11,y11)])) h) (ax Tryz.prog Tryz.f84.results.toList) (b84_2 C)
 | .bool false=>
 some (.tuple #[],h)
 |_=>none)
noncomputable def t84l84_1010 (_C:av) (x:Nat→Value) (h:ai):Option (Ex×Env×ai):=
 ae (some ((x 6),h)) fun y12 h=>
 ae (pu (bin Tryz.prog .geq 3 y12 (.int .i64 0)) h) fun y13 h=>
 (match y13 with
 | .bool true=>
 ae (some ((x 0),h)) fun y16 h=>
 ae (some ((x 0),h)) fun y17 h=>
 ae (pu (aN y17) h) fun y18 h=>
 ae (pu (aB y18 2) h) fun y19 h=>
 ae (aR y19 h) fun y20 h=>
 ae (some ((x 1),h)) fun y21 h=>
 ae (some ((x 6),h)) fun y22 h=>
 ae (pu (bin Tryz.prog .mul 3 (.int .i64 8) y22) h) fun y23 h=>
 ae (pu (bin Tryz.prog .shr 25 y21 y23) h) fun y24 h=>
 ae (cvI .u8 y24 h) fun y25 h=>
 ae (bslR 1 (.int .u8 0) 1 [(0,y25)] h) fun dj h=>
 ae (bq 1 1 y20 dj h) fun dA h=>
 ae (pu (aN y16) h) fun y28 h=>
 ae (pu (aB y28 2) h) fun y29 h=>
 ae (cA 1 y29 dA h) fun _ h=>
 ae (some ((x 6),h)) fun y14 h=>
 ae (pu (bin Tryz.prog .sub 3 y14 (.int .i64 1)) h) fun y15 h=>
 ae (some (y15,h)) fun y6 h=>
 some (.normal,(bu 30 (up x [(6,y6),(12,y12),(13,y13),(14,y14),(15,y15),(16,y16),(17,y17),(18,y18),(19,y19),(20,y20),(21,y21),(22,y22),(23,y23),(24,y24),(25,y25),(26,dj),(27,dA),(28,y28),(29,y29)])),h)
 | .bool false=>
 some (.exit 0,(bu 30 (up x [(12,y12),(13,y13)])),h)
 |_=>none)
theorem t84_eq (C:av) (x0 x1 x2:Value) (h:ai):bc Tryz.prog C Tryz.f84 [x0,x1,x2] h=t84 C x0 x1 x2 h:=
 (aE Tryz.prog C Tryz.f84 [x0,x1,x2] h (by kernel_rfl)).trans (by kernel_rfl)
theorem t84l84_1010_eq (C:av) (x:Nat→Value) (h:ai):aI Tryz.prog C (partOf Tryz.f84 [1,0,1,0,0]) (bu 30 x) h=t84l84_1010 C x h:=
 bt (T:=t84l84_1010 C) (fun x h=>by kernel_rfl) x h
noncomputable def t85 (_C:av) (x0 x1:Value) (h:ai):Out:=
 ae (some ((.bool false),h)) fun _y4 h=>
 ae (some (x0,h)) fun y5 h=>
 ae (pu (bin Tryz.prog .eql 90 y5 (.pointer none)) h) fun y6 h=>
 ae (some (y6,h)) fun y7 h=>
 ae (aq (aM y7==some false) (some (x0,h)) h) fun y8 h=>
 ae (aq (aM y7==some false) (pu (aN y8) h) h) fun y9 h=>
 ae (aq (aM y7==some false) (pu (aB y9 1) h) h) fun y10 h=>
 ae (aq (aM y7==some false) (aR y10 h) h) fun y11 h=>
 ae (match y7 with | .bool t=>some (if t then (.bool true) else y11,h)|_=>none) fun y12 h=>
 (match y12 with
 | .bool true=>
 ae (some ((.bool false),h)) fun y4_1 h=>
 some (y4_1,h)
 | .bool false=>
 ae (some (x0,h)) fun y13 h=>
 ae (some (x1,h)) fun y14 h=>
 ae (some (x0,h)) fun y15 h=>
 ae (pu (aN y15) h) fun y16 h=>
 ae (pu (aB y16 0) h) fun y17 h=>
 ae (aR y17 h) fun y18 h=>
 ae (some (x0,h)) fun y19 h=>
 ae (pu (aN y19) h) fun y20 h=>
 ae (pu (aB y20 2) h) fun y21 h=>
 ae (aR y21 h) fun y22 h=>
 ae (pu (bC y22) h) fun y23 h=>
 ae (pu (bin Tryz.prog .sub 3 y18 y23) h) fun y24 h=>
 ae (pu (bin Tryz.prog .gtr 3 y14 y24) h) fun y25 h=>
 ae (pu (aN y13) h) fun dj h=>
 ae (pu (aB dj 1) h) fun dA h=>
 ae (cA 1 dA y25 h) fun _ h=>
 ae (some (x0,h)) fun y28 h=>
 ae (pu (aN y28) h) fun y29 h=>
 ae (pu (aB y29 1) h) fun y30 h=>
 ae (aR y30 h) fun y31 h=>
 ae (pu (unA .not y31) h) fun y32 h=>
 ae (some (y32,h)) fun y4_1 h=>
 some (y4_1,h)
 |_=>none)
theorem t85_eq (C:av) (x0 x1:Value) (h:ai):bc Tryz.prog C Tryz.f85 [x0,x1] h=t85 C x0 x1 h:=
 (aE Tryz.prog C Tryz.f85 [x0,x1] h (by kernel_rfl)).trans (by kernel_rfl)
noncomputable def t94 (_C:av) (x0 x1:Value) (h:ai):Out:=
 ae (some ((.slice none 0 0),h)) fun _y4 h=>
 ae (some (x0,h)) fun y6 h=>
 ae (pu (bin Tryz.prog .eql 68 y6 (.pointer none)) h) fun y7 h=>
 ae (some (y7,h)) fun y8 h=>
 ae (aq (aM y8==some false) (some (x0,h)) h) fun y9 h=>
 ae (aq (aM y8==some false) (pu (aN y9) h) h) fun y10 h=>
 ae (aq (aM y8==some false) (pu (aB y10 1) h) h) fun y11 h=>
 ae (aq (aM y8==some false) (aR y11 h) h) fun y12 h=>
 ae (aq (aM y8==some false) (pu (bin Tryz.prog .neq 35 y12 (.int .i64 0)) h) h) fun y13 h=>
 ae (match y8 with | .bool t=>some (if t then (.bool true) else y13,h)|_=>none) fun y14 h=>
 (match y14 with
 | .bool true=>
 ae (some ((.slice none 0 0),h)) fun y4_1 h=>
 some (y4_1,h)
 | .bool false=>
 ae (some (x1,h)) fun y16 h=>
 ae (pu (bin Tryz.prog .lss 3 y16 (.int .i64 0)) h) fun y17 h=>
 ae (some (y17,h)) fun y15 h=>
 (match y15 with
 | .bool true=>
 ae (some (x0,h)) fun y18 h=>
 ae (pu (aN y18) h) fun y19 h=>
 ae (pu (aB y19 1) h) fun y20 h=>
 ae (cA 1 y20 (.int .i64 2) h) fun _ h=>
 ae (some ((.slice none 0 0),h)) fun y4_1 h=>
 some (y4_1,h)
 | .bool false=>
 ae (some (x1,h)) fun y22 h=>
 ae (some (x0,h)) fun y23 h=>
 ae (pu (aN y23) h) fun y24 h=>
 ae (pu (aB y24 0) h) fun y25 h=>
 ae (aR y25 h) fun dj h=>
 ae (pu (bC dj) h) fun dA h=>
 ae (pu (bin Tryz.prog .gtr 3 y22 dA) h) fun y28 h=>
 ae (some (y28,h)) fun y21 h=>
 (match y21 with
 | .bool true=>
 ae (some (x0,h)) fun y29 h=>
 ae (pu (aN y29) h) fun y30 h=>
 ae (pu (aB y30 1) h) fun y31 h=>
 ae (cA 1 y31 (.int .i64 4) h) fun _ h=>
 ae (some ((.slice none 0 0),h)) fun y4_1 h=>
 some (y4_1,h)
 | .bool false=>
 ae (some (x0,h)) fun y32 h=>
 ae (pu (aN y32) h) fun y33 h=>
 ae (pu (aB y33 0) h) fun y34 h=>
 ae (aR y34 h) fun y35 h=>
 ae (some (x1,h)) fun y36 h=>
 ae (pu (slR 1 y35 none (some y36) none) h) fun y37 h=>
 ae (some (y37,h)) fun y5 h=>
 ae (some (x0,h)) fun y38 h=>
 ae (some (x0,h)) fun y39 h=>
 ae (pu (aN y39) h) fun y40 h=>
 ae (pu (aB y40 0) h) fun y41 h=>
 ae (aR y41 h) fun y42 h=>
 ae (some (x1,h)) fun y43 h=>
 ae (pu (slR 1 y42 (some y43) none none) h) fun y44 h=>
 ae (pu (aN y38) h) fun y45 h=>
 ae (pu (aB y45 0) h) fun y46 h=>
 ae (cA 1 y46 y44 h) fun _ h=>
 ae (some (y5,h)) fun y47 h=>
 ae (some (y47,h)) fun y4_1 h=>
 some (y4_1,h)
 |_=>none)
 |_=>none)
 |_=>none)
theorem t94_eq (C:av) (x0 x1:Value) (h:ai):bc Tryz.prog C Tryz.f94 [x0,x1] h=t94 C x0 x1 h:=
 (aE Tryz.prog C Tryz.f94 [x0,x1] h (by kernel_rfl)).trans (by kernel_rfl)
noncomputable def t126 (C:av) (x0 x1:Value) (h:ai):Out:=
 ae (some (x0,h)) fun y4 h=>
 ae (some (x1,h)) fun y5 h=>
 ae (C 84 [y4,y5,(.int .i64 8)] h) fun _y6 h=>
 some (.tuple #[],h)
theorem t126_eq (C:av) (x0 x1:Value) (h:ai):bc Tryz.prog C Tryz.f126 [x0,x1] h=t126 C x0 x1 h:=
 (aE Tryz.prog C Tryz.f126 [x0,x1] h (by kernel_rfl)).trans (by kernel_rfl)
noncomputable def t128 (C:av) (x0:Value) (h:ai):Out:=
 ae (some ((.int .u64 0),h)) fun _y2 h=>
 ae (some (x0,h)) fun y3 h=>
 ae (C 76 [y3,(.int .i64 8)] h) fun y4 h=>
 ae (some (y4,h)) fun y2_1 h=>
 some (y2_1,h)
theorem t128_eq (C:av) (x0:Value) (h:ai):bc Tryz.prog C Tryz.f128 [x0] h=t128 C x0 h:=
 (aE Tryz.prog C Tryz.f128 [x0] h (by kernel_rfl)).trans (by kernel_rfl)
noncomputable def t133 (C:av) (x0 x1:Value) (h:ai):Out:=
 ae (some (x0,h)) fun y4 h=>
 ae (pu (bin Tryz.prog .eql 90 y4 (.pointer none)) h) fun y5 h=>
 (match y5 with
 | .bool true=>
 some (.tuple #[],h)
 | .bool false=>
 ae (some (x1,h)) fun y6 h=>
 ae (pu (bC y6) h) fun y7 h=>
 ae (pu (bin Tryz.prog .gtr 3 y7 (.int .i64 65535)) h) fun y8 h=>
 (match y8 with
 | .bool true=>
 ae (some (x0,h)) fun y9 h=>
 ae (pu (aN y9) h) fun y10 h=>
 ae (pu (aB y10 1) h) fun y11 h=>
 ae (cA 1 y11 (.bool true) h) fun _ h=>
 some (.tuple #[],h)
 | .bool false=>
 ae (some (x0,h)) fun y12 h=>
 ae (some (x1,h)) fun y13 h=>
 ae (pu (bC y13) h) fun y14 h=>
 ae (pu (bin Tryz.prog .add 3 y14 (.int .i64 2)) h) fun y15 h=>
 ae (C 85 [y12,y15] h) fun y16 h=>
 (match y16 with
 | .bool true=>
 ae (some (x0,h)) fun y17 h=>
 ae (some (x0,h)) fun y18 h=>
 ae (pu (aN y18) h) fun y19 h=>
 ae (pu (aB y19 2) h) fun y20 h=>
 ae (aR y20 h) fun y21 h=>
 ae (some (x1,h)) fun y22 h=>
 ae (pu (bC y22) h) fun y23 h=>
 ae (pu (bin Tryz.prog .shr 3 y23 (.int .u64 8)) h) fun y24 h=>
 ae (cvI .u8 y24 h) fun y25 h=>
 ae (some (x1,h)) fun dj h=>
 ae (pu (bC dj) h) fun dA h=>
 ae (cvI .u8 dA h) fun y28 h=>
 ae (bslR 1 (.int .u8 0) 2 [(0,y25),(1,y28)] h) fun y29 h=>
 ae (bq 1 1 y21 y29 h) fun y30 h=>
 ae (pu (aN y17) h) fun y31 h=>
 ae (pu (aB y31 2) h) fun y32 h=>
 ae (cA 1 y32 y30 h) fun _ h=>
 ae (some (x0,h)) fun y33 h=>
 ae (some (x0,h)) fun y34 h=>
 ae (pu (aN y34) h) fun y35 h=>
 ae (pu (aB y35 2) h) fun y36 h=>
 ae (aR y36 h) fun y37 h=>
 ae (some (x1,h)) fun y38 h=>
 ae (bq 1 1 y37 y38 h) fun y39 h=>
 ae (pu (aN y33) h) fun y40 h=>
 ae (pu (aB y40 2) h) fun y41 h=>
 ae (cA 1 y41 y39 h) fun _ h=>
 some (.tuple #[],h)
 | .bool false=>
 some (.tuple #[],h)
 |_=>none)
 |_=>none)
 |_=>none)
theorem t133_eq (C:av) (x0 x1:Value) (h:ai):bc Tryz.prog C Tryz.f133 [x0,x1] h=t133 C x0 x1 h:=
 (aE Tryz.prog C Tryz.f133 [x0,x1] h (by kernel_rfl)).trans (by kernel_rfl)
noncomputable def t135 (C:av) (x0:Value) (h:ai):Out:=
 ae (some ((.slice none 0 0),h)) fun _y2 h=>
 ae (some (x0,h)) fun y5 h=>
 ae (pu (bin Tryz.prog .eql 68 y5 (.pointer none)) h) fun y6 h=>
 ae (some (y6,h)) fun y7 h=>
 ae (aq (aM y7==some false) (some (x0,h)) h) fun y8 h=>
 ae (aq (aM y7==some false) (pu (aN y8) h) h) fun y9 h=>
 ae (aq (aM y7==some false) (pu (aB y9 1) h) h) fun y10 h=>
 ae (aq (aM y7==some false) (aR y10 h) h) fun y11 h=>
 ae (aq (aM y7==some false) (pu (bin Tryz.prog .neq 35 y11 (.int .i64 0)) h) h) fun y12 h=>
 ae (match y7 with | .bool t=>some (if t then (.bool true) else y12,h)|_=>none) fun y13 h=>
 (match y13 with
 | .bool true=>
 ae (some ((.slice none 0 0),h)) fun y2_1 h=>
 some (y2_1,h)
 | .bool false=>
 ae (some (x0,h)) fun y14 h=>
 ae (pu (aN y14) h) fun y15 h=>
 ae (pu (aB y15 0) h) fun y16 h=>
 ae (aR y16 h) fun y17 h=>
 ae (some (y17,h)) fun y3 h=>
 ae (some (x0,h)) fun y18 h=>
 ae (some (x0,h)) fun y19 h=>
 ae (C 76 [y19,(.int .i64 2)] h) fun y20 h=>
 ae (cvI .i64 y20 h) fun y21 h=>
 ae (C 94 [y18,y21] h) fun y22 h=>
 ae (some (y22,h)) fun y4 h=>
 ae (some (x0,h)) fun y23 h=>
 ae (pu (aN y23) h) fun y24 h=>
 ae (pu (aB y24 1) h) fun y25 h=>
 ae (aR y25 h) fun dj h=>
 ae (pu (bin Tryz.prog .neq 35 dj (.int .i64 0)) h) fun dA h=>
 (match dA with
 | .bool true=>
 ae (some (x0,h)) fun y28 h=>
 ae (some (y3,h)) fun y29 h=>
 ae (pu (aN y28) h) fun y30 h=>
 ae (pu (aB y30 0) h) fun y31 h=>
 ae (cA 1 y31 y29 h) fun _ h=>
 ae (some ((.slice none 0 0),h)) fun y2_1 h=>
 some (y2_1,h)
 | .bool false=>
 ae (some (y4,h)) fun y32 h=>
 ae (C 69 [y32] h) fun y33 h=>
 ae (some (y33,h)) fun y2_1 h=>
 some (y2_1,h)
 |_=>none)
 |_=>none)
theorem t135_eq (C:av) (x0:Value) (h:ai):bc Tryz.prog C Tryz.f135 [x0] h=t135 C x0 h:=
 (aE Tryz.prog C Tryz.f135 [x0] h (by kernel_rfl)).trans (by kernel_rfl)
noncomputable def t149 (C:av) (x0:Value) (h:ai):Out:=
 ae (eD (List.replicate 32 (.int .u8 0)) h) fun y2 h=>
 ae (eD (List.replicate 32 (.int .u8 0)) h) fun y3 h=>
 ae (pu (cP 32 1 y3 none none none) h) fun y4 h=>
 ae (some (x0,h)) fun y5 h=>
 ae (C 94 [y5,(.int .i64 32)] h) fun y6 h=>
 ae (copyA 1 y4 y6 h) fun y7 h=>
 ae (cq 32 y3 h) fun y8 h=>
 ae (cA 32 y2 y8 h) fun _ h=>
 ax Tryz.prog Tryz.f149.results.toList (bu 9 (up (bs [x0]) [(2,y2),(3,y3),(4,y4),(5,y5),(6,y6),(7,y7),(8,y8)])) h
theorem t149_eq (C:av) (x0:Value) (h:ai):bc Tryz.prog C Tryz.f149 [x0] h=t149 C x0 h:=
 (aE Tryz.prog C Tryz.f149 [x0] h (by kernel_rfl)).trans (by kernel_rfl)
end Go.Proofs.YtjghlcdidopcpaaGreatDoor

namespace Go.Proofs.YtjghlcdidopcpaaGreatDoor
open Go Go.Abs
noncomputable def t19 (C:av) (x0:Value) (h:ai):Out:=
 ae (box x0 h) fun y1 h=>
 ae (some ((.int .i64 0),h)) fun _y2 h=>
 ae (pu (aB y1 0) h) fun y7 h=>
 ae (aR y7 h) fun y8 h=>
 ae (C 35 [y8] h) fun y9 h=>
 ae (some (y9,h)) fun y6 h=>
 ae (pu (aY y6 0) h) fun y10 h=>
 ae (pu (aY y6 1) h) fun y11 h=>
 ae (eD [(.string ⟨#[]⟩),.nilFunc,.nilFunc,.nilFunc,.nilFunc] h) fun y3 h=>
 ae (cA 5 y3 y10 h) fun _ h=>
 ae (some (y11,h)) fun y4 h=>
 ae (some (y4,h)) fun y12 h=>
 ae (pu (unA .not y12) h) fun y13 h=>
 ae (some (y13,h)) fun y14 h=>
 ae (aq (aM y14==some false) (pu (aB y1 1) h) h) fun y15 h=>
 ae (aq (aM y14==some false) (aR y15 h) h) fun y16 h=>
 ae (aq (aM y14==some false) (C 46 [y16] h) h) fun y17 h=>
 ae (aq (aM y14==some false) (pu (unA .not y17) h) h) fun y18 h=>
 ae (match y14 with | .bool t=>some (if t then (.bool true) else y18,h)|_=>none) fun y19 h=>
 ae (some (y19,h)) fun y20 h=>
 ae (aq (aM y20==some false) (pu (aB y1 2) h) h) fun y21 h=>
 ae (aq (aM y20==some false) (aR y21 h) h) fun y22 h=>
 ae (aq (aM y20==some false) (C 46 [y22] h) h) fun y23 h=>
 ae (aq (aM y20==some false) (pu (unA .not y23) h) h) fun y24 h=>
 ae (match y20 with | .bool t=>some (if t then (.bool true) else y24,h)|_=>none) fun y25 h=>
 ae (some (y25,h)) fun dj h=>
 ae (aq (aM dj==some false) (pu (aB y1 1) h) h) fun dA h=>
 ae (aq (aM dj==some false) (aR dA h) h) fun y28 h=>
 ae (aq (aM dj==some false) (pu (aB y1 2) h) h) fun y29 h=>
 ae (aq (aM dj==some false) (aR y29 h) h) fun y30 h=>
 ae (aq (aM dj==some false) (pu (bin Tryz.prog .eql 3 y28 y30) h) h) fun y31 h=>
 ae (match dj with | .bool t=>some (if t then (.bool true) else y31,h)|_=>none) fun y32 h=>
 ae (some (y32,h)) fun y33 h=>
 ae (aq (aM y33==some false) (pu (aB y3 1) h) h) fun y34 h=>
 ae (aq (aM y33==some false) (aR y34 h) h) fun y35 h=>
 ae (aq (aM y33==some false) (cq 116 y1 h) h) fun y36 h=>
 ae (aq (aM y33==some false) (callA Tryz.prog C y35 [y36] h) h) fun y37 h=>
 ae (aq (aM y33==some false) (pu (unA .not y37) h) h) fun y38 h=>
 ae (match y33 with | .bool t=>some (if t then (.bool true) else y38,h)|_=>none) fun y39 h=>
 (match y39 with
 | .bool true=>
 ae (some ((.int .i64 2),h)) fun y2_1 h=>
 some (y2_1,h)
 | .bool false=>
 ae (pu (aB y3 2) h) fun y40 h=>
 ae (aR y40 h) fun y41 h=>
 ae (cq 116 y1 h) fun y42 h=>
 ae (callA Tryz.prog C y41 [y42] h) fun y43 h=>
 ae (eD [(.int .u8 0),(.int .i64 0),(.int .i64 0),(.int .u64 0),(.int .i64 0),(.int .i64 0),(.slice none 0 0),(.slice none 0 0),(.slice none 0 0),(.int .i64 0),(.int .u8 0),(.int .u8 0),(.int .u8 0),(.int .u8 0),(.int .u8 0),(.int .u8 0),(.int .u8 0),(.int .u8 0),(.int .u8 0),(.int .u8 0),(.int .u8 0),(.int .u8 0),(.int .u8 0),(.int .u8 0),(.int .u8 0),(.int .u8 0),(.int .u8 0),(.int .u8 0),(.int .u8 0),(.int .u8 0),(.int .u8 0),(.int .u8 0),(.int .u8 0),(.int .u8 0),(.int .u8 0),(.int .u8 0),(.int .u8 0),(.int .u8 0),(.int .u8 0),(.int .u8 0),(.int .u8 0),(.int .u8 0),(.slice none 0 0),(.bool false),(.int .u8 0),(.int .u8 0),(.int .u8 0),(.int .u8 0),(.int .u8 0),(.int .u8 0),(.int .u8 0),(.int .u8 0),(.int .u8 0),(.int .u8 0),(.int .u8 0),(.int .u8 0),(.int .u8 0),(.int .u8 0),(.int .u8 0),(.int .u8 0),(.int .u8 0),(.int .u8 0),(.int .u8 0),(.int .u8 0),(.int .u8 0),(.int .u8 0),(.int .u8 0),(.int .u8 0),(.int .u8 0),(.int .u8 0),(.int .u8 0),(.int .u8 0),(.int .u8 0),(.int .u8 0),(.int .u8 0),(.int .u8 0),(.int .i64 0),(.int .i64 0),(.int .i64 0),(.int .i64 0),(.int .u8 0),(.int .u8 0),(.int .u8 0),(.int .u8 0),(.int .u8 0),(.int .u8 0),(.int .u8 0),(.int .u8 0),(.int .u8 0),(.int .u8 0),(.int .u8 0),(.int .u8 0),(.int .u8 0),(.int .u8 0),(.int .u8 0),(.int .u8 0),(.int .u8 0),(.int .u8 0),(.int .u8 0),(.int .u8 0),(.int .u8 0),(.int .u8 0),(.int .u8 0),(.int .u8 0),(.int .u8 0),(.int .u8 0),(.int .u8 0),(.int .u8 0),(.int .u8 0),(.int .u8 0),(.int .u8 0),(.int .u8 0),(.slice none 0 0),(.int .i64 0),(.slice none 0 0),(.int .i64 0)] h) fun y5 h=>
 ae (cA 116 y5 y43 h) fun _ h=>
 let g7_0:=h
 ae (pu (aB y1 0) g7_0) fun y44 g7_1=>
 ae (aR y44 g7_1) fun y45 g7_2=>
 ae (pu (aB y1 1) g7_2) fun y46 g7_3=>
 ae (aR y46 g7_3) fun y47 g7_4=>
 ae (pu (aB y1 2) g7_4) fun y48 g7_5=>
 ae (aR y48 g7_5) fun y49 g7_6=>
 ae (pu (aB y5 0) g7_6) fun y50 g7_7=>
 ae (cA 1 y50 y45 g7_7) fun _ g7_8=>
 ae (pu (aB y5 1) g7_8) fun y51 g7_9=>
 ae (cA 1 y51 y47 g7_9) fun _ g7_10=>
 ae (pu (aB y5 2) g7_10) fun y52 g7_11=>
 ae (cA 1 y52 y49 g7_11) fun _ g7_12=>
 (match (chkR true (aR y46 g7_8) y47&&(chkR true (aR y48 g7_8) y49&&(chkR true (aR y48 g7_10) y49&&true))) with
 |true=>
 let h:=g7_12
 ae (cq 116 y1 h) fun y53 h=>
 ae (cq 116 y5 h) fun y54 h=>
 ae (C 22 [y53,y54] h) fun y55 h=>
 ae (pu (unA .not y55) h) fun y56 h=>
 (match y56 with
 | .bool true=>
 ae (some ((.int .i64 2),h)) fun y2_1 h=>
 some (y2_1,h)
 | .bool false=>
 ae (some ((.int .i64 0),h)) fun y2_1 h=>
 some (y2_1,h)
 |_=>none)
 |false=>none)
 |_=>none)
theorem t19_eq (C:av) (x0:Value) (h:ai):bc Tryz.prog C Tryz.f19 [x0] h=t19 C x0 h:=
 (aE Tryz.prog C Tryz.f19 [x0] h (by kernel_rfl)).trans (by kernel_rfl)
noncomputable def t35 (C:av) (x0:Value) (h:ai):Out:=
 ae (eD [(.string ⟨#[]⟩),.nilFunc,.nilFunc,.nilFunc,.nilFunc] h) fun y2 h=>
 ae (some ((.bool false),h)) fun _y3 h=>
 ae (C 77 [] h) fun y5 h=>
 ae (eD [(.string ⟨#[]⟩),.nilFunc,.nilFunc,.nilFunc,.nilFunc,(.string ⟨#[]⟩),.nilFunc,.nilFunc,.nilFunc,.nilFunc,(.string ⟨#[]⟩),.nilFunc,.nilFunc,.nilFunc,.nilFunc,(.string ⟨#[]⟩),.nilFunc,.nilFunc,.nilFunc,.nilFunc,(.string ⟨#[]⟩),.nilFunc,.nilFunc,.nilFunc,.nilFunc,(.string ⟨#[]⟩),.nilFunc,.nilFunc,.nilFunc,.nilFunc,(.string ⟨#[]⟩),.nilFunc,.nilFunc,.nilFunc,.nilFunc,(.string ⟨#[]⟩),.nilFunc,.nilFunc,.nilFunc,.nilFunc,(.string ⟨#[]⟩),.nilFunc,.nilFunc,.nilFunc,.nilFunc,(.string ⟨#[]⟩),.nilFunc,.nilFunc,.nilFunc,.nilFunc,(.string ⟨#[]⟩),.nilFunc,.nilFunc,.nilFunc,.nilFunc,(.string ⟨#[]⟩),.nilFunc,.nilFunc,.nilFunc,.nilFunc,(.string ⟨#[]⟩),.nilFunc,.nilFunc,.nilFunc,.nilFunc,(.string ⟨#[]⟩),.nilFunc,.nilFunc,.nilFunc,.nilFunc] h) fun y4 h=>
 ae (cA 70 y4 y5 h) fun _ h=>
 ae (some (x0,h)) fun y6 h=>
 ae (pu (bin Tryz.prog .lss 24 y6 (.int .u8 1)) h) fun y7 h=>
 ae (some (y7,h)) fun y8 h=>
 ae (aq (aM y8==some false) (some (x0,h)) h) fun y9 h=>
 ae (aq (aM y8==some false) (cvI .i64 y9 h) h) fun y10 h=>
 ae (aq (aM y8==some false) (pu (bin Tryz.prog .geq 3 y10 (.int .i64 14)) h) h) fun y11 h=>
 ae (match y8 with | .bool t=>some (if t then (.bool true) else y11,h)|_=>none) fun y12 h=>
 (match y12 with
 | .bool true=>
 ae (pu (cQ [(.string ⟨#[]⟩),.nilFunc,.nilFunc,.nilFunc,.nilFunc] []) h) fun y13 h=>
 ae (cA 5 y2 y13 h) fun _ h=>
 ae (some ((.bool false),h)) fun y3_1 h=>
 ax Tryz.prog Tryz.f35.results.toList (bu 17 (up (bs [x0]) [(2,y2),(3,y3_1),(4,y4),(5,y5),(6,y6),(7,y7),(8,y8),(9,y9),(10,y10),(11,y11),(12,y12),(13,y13)])) h
 | .bool false=>
 ae (some (x0,h)) fun y14 h=>
 ae (pu (idxA 14 5 y4 y14) h) fun y15 h=>
 ae (cq 5 y15 h) fun y16 h=>
 ae (cA 5 y2 y16 h) fun _ h=>
 ae (some ((.bool true),h)) fun y3_1 h=>
 ax Tryz.prog Tryz.f35.results.toList (bu 17 (up (bs [x0]) [(2,y2),(3,y3_1),(4,y4),(5,y5),(6,y6),(7,y7),(8,y8),(9,y9),(10,y10),(11,y11),(12,y12),(14,y14),(15,y15),(16,y16)])) h
 |_=>none)
theorem t35_eq (C:av) (x0:Value) (h:ai):bc Tryz.prog C Tryz.f35 [x0] h=t35 C x0 h:=
 (aE Tryz.prog C Tryz.f35 [x0] h (by kernel_rfl)).trans (by kernel_rfl)
noncomputable def t46 (_C:av) (x0:Value) (h:ai):Out:=
 ae (some ((.bool false),h)) fun _y2 h=>
 ae (some (x0,h)) fun y3 h=>
 ae (pu (bin Tryz.prog .geq 3 y3 (.int .i64 0)) h) fun y4 h=>
 ae (some (y4,h)) fun y5 h=>
 ae (aq (aM y5==some true) (some (x0,h)) h) fun y6 h=>
 ae (aq (aM y5==some true) (pu (bin Tryz.prog .lss 3 y6 (.int .i64 16)) h) h) fun y7 h=>
 ae (match y5 with | .bool t=>some (if t then y7 else (.bool false),h)|_=>none) fun y8 h=>
 ae (some (y8,h)) fun y2_1 h=>
 some (y2_1,h)
theorem t46_eq (C:av) (x0:Value) (h:ai):bc Tryz.prog C Tryz.f46 [x0] h=t46 C x0 h:=
 (aE Tryz.prog C Tryz.f46 [x0] h (by kernel_rfl)).trans (by kernel_rfl)
noncomputable def t95 (C:av) (x0:Value) (h:ai):Out:=
 ae (box x0 h) fun y1 h=>
 ae (some ((.bool false),h)) fun _y2 h=>
 ae (pu (aB y1 4) h) fun y3 h=>
 ae (aR y3 h) fun y4 h=>
 ae (C 46 [y4] h) fun y5 h=>
 ae (some (y5,h)) fun y6 h=>
 ae (aq (aM y6==some true) (pu (aB y1 5) h) h) fun y7 h=>
 ae (aq (aM y6==some true) (aR y7 h) h) fun y8 h=>
 ae (aq (aM y6==some true) (C 46 [y8] h) h) fun y9 h=>
 ae (match y6 with | .bool t=>some (if t then y9 else (.bool false),h)|_=>none) fun y10 h=>
 ae (some (y10,h)) fun y11 h=>
 ae (aq (aM y11==some true) (pu (aB y1 6) h) h) fun y12 h=>
 ae (aq (aM y11==some true) (aR y12 h) h) fun y13 h=>
 ae (aq (aM y11==some true) (C 125 [y13] h) h) fun y14 h=>
 ae (match y11 with | .bool t=>some (if t then y14 else (.bool false),h)|_=>none) fun y15 h=>
 ae (some (y15,h)) fun y2_1 h=>
 some (y2_1,h)
theorem t95_eq (C:av) (x0:Value) (h:ai):bc Tryz.prog C Tryz.f95 [x0] h=t95 C x0 h:=
 (aE Tryz.prog C Tryz.f95 [x0] h (by kernel_rfl)).trans (by kernel_rfl)
noncomputable def t96 (_C:av) (x0:Value) (h:ai):Out:=
 ae (box x0 h) fun y1 h=>
 ae (eD [(.int .u8 0),(.int .i64 0),(.int .i64 0),(.int .u64 0),(.int .i64 0),(.int .i64 0),(.slice none 0 0),(.slice none 0 0),(.slice none 0 0),(.int .i64 0),(.int .u8 0),(.int .u8 0),(.int .u8 0),(.int .u8 0),(.int .u8 0),(.int .u8 0),(.int .u8 0),(.int .u8 0),(.int .u8 0),(.int .u8 0),(.int .u8 0),(.int .u8 0),(.int .u8 0),(.int .u8 0),(.int .u8 0),(.int .u8 0),(.int .u8 0),(.int .u8 0),(.int .u8 0),(.int .u8 0),(.int .u8 0),(.int .u8 0),(.int .u8 0),(.int .u8 0),(.int .u8 0),(.int .u8 0),(.int .u8 0),(.int .u8 0),(.int .u8 0),(.int .u8 0),(.int .u8 0),(.int .u8 0),(.slice none 0 0),(.bool false),(.int .u8 0),(.int .u8 0),(.int .u8 0),(.int .u8 0),(.int .u8 0),(.int .u8 0),(.int .u8 0),(.int .u8 0),(.int .u8 0),(.int .u8 0),(.int .u8 0),(.int .u8 0),(.int .u8 0),(.int .u8 0),(.int .u8 0),(.int .u8 0),(.int .u8 0),(.int .u8 0),(.int .u8 0),(.int .u8 0),(.int .u8 0),(.int .u8 0),(.int .u8 0),(.int .u8 0),(.int .u8 0),(.int .u8 0),(.int .u8 0),(.int .u8 0),(.int .u8 0),(.int .u8 0),(.int .u8 0),(.int .u8 0),(.int .i64 0),(.int .i64 0),(.int .i64 0),(.int .i64 0),(.int .u8 0),(.int .u8 0),(.int .u8 0),(.int .u8 0),(.int .u8 0),(.int .u8 0),(.int .u8 0),(.int .u8 0),(.int .u8 0),(.int .u8 0),(.int .u8 0),(.int .u8 0),(.int .u8 0),(.int .u8 0),(.int .u8 0),(.int .u8 0),(.int .u8 0),(.int .u8 0),(.int .u8 0),(.int .u8 0),(.int .u8 0),(.int .u8 0),(.int .u8 0),(.int .u8 0),(.int .u8 0),(.int .u8 0),(.int .u8 0),(.int .u8 0),(.int .u8 0),(.int .u8 0),(.int .u8 0),(.int .u8 0),(.slice none 0 0),(.int .i64 0),(.slice none 0 0),(.int .i64 0)] h) fun y2 h=>
 ae (pu (aB y1 3) h) fun y3 h=>
 ae (aR y3 h) fun y4 h=>
 ae (pu (aB y1 4) h) fun y5 h=>
 ae (aR y5 h) fun y6 h=>
 ae (pu (aB y1 6) h) fun y7 h=>
 ae (aR y7 h) fun y8 h=>
 ae (pu (cQ [(.int .u8 0),(.int .i64 0),(.int .i64 0),(.int .u64 0),(.int .i64 0),(.int .i64 0),(.slice none 0 0),(.slice none 0 0),(.slice none 0 0),(.int .i64 0),(.int .u8 0),(.int .u8 0),(.int .u8 0),(.int .u8 0),(.int .u8 0),(.int .u8 0),(.int .u8 0),(.int .u8 0),(.int .u8 0),(.int .u8 0),(.int .u8 0),(.int .u8 0),(.int .u8 0),(.int .u8 0),(.int .u8 0),(.int .u8 0),(.int .u8 0),(.int .u8 0),(.int .u8 0),(.int .u8 0),(.int .u8 0),(.int .u8 0),(.int .u8 0),(.int .u8 0),(.int .u8 0),(.int .u8 0),(.int .u8 0),(.int .u8 0),(.int .u8 0),(.int .u8 0),(.int .u8 0),(.int .u8 0),(.slice none 0 0),(.bool false),(.int .u8 0),(.int .u8 0),(.int .u8 0),(.int .u8 0),(.int .u8 0),(.int .u8 0),(.int .u8 0),(.int .u8 0),(.int .u8 0),(.int .u8 0),(.int .u8 0),(.int .u8 0),(.int .u8 0),(.int .u8 0),(.int .u8 0),(.int .u8 0),(.int .u8 0),(.int .u8 0),(.int .u8 0),(.int .u8 0),(.int .u8 0),(.int .u8 0),(.int .u8 0),(.int .u8 0),(.int .u8 0),(.int .u8 0),(.int .u8 0),(.int .u8 0),(.int .u8 0),(.int .u8 0),(.int .u8 0),(.int .u8 0),(.int .i64 0),(.int .i64 0),(.int .i64 0),(.int .i64 0),(.int .u8 0),(.int .u8 0),(.int .u8 0),(.int .u8 0),(.int .u8 0),(.int .u8 0),(.int .u8 0),(.int .u8 0),(.int .u8 0),(.int .u8 0),(.int .u8 0),(.int .u8 0),(.int .u8 0),(.int .u8 0),(.int .u8 0),(.int .u8 0),(.int .u8 0),(.int .u8 0),(.int .u8 0),(.int .u8 0),(.int .u8 0),(.int .u8 0),(.int .u8 0),(.int .u8 0),(.int .u8 0),(.int .u8 0),(.int .u8 0),(.int .u8 0),(.int .u8 0),(.int .u8 0),(.int .u8 0),(.int .u8 0),(.slice none 0 0),(.int .i64 0),(.slice none 0 0),(.int .i64 0)] [(3,1,y4),(4,1,y6),(6,1,y8)]) h) fun y9 h=>
 ae (cA 116 y2 y9 h) fun _ h=>
 ax Tryz.prog Tryz.f96.results.toList (bu 10 (up (bs [x0]) [(1,y1),(2,y2),(3,y3),(4,y4),(5,y5),(6,y6),(7,y7),(8,y8),(9,y9)])) h
theorem t96_eq (C:av) (x0:Value) (h:ai):bc Tryz.prog C Tryz.f96 [x0] h=t96 C x0 h:=
 (aE Tryz.prog C Tryz.f96 [x0] h (by kernel_rfl)).trans (by kernel_rfl)
noncomputable def t99 (_C:av) (x0:Value) (h:ai):Out:=
 ae (box x0 h) fun y1 h=>
 ae (eD [(.int .u8 0),(.int .i64 0),(.int .i64 0),(.int .u64 0),(.int .i64 0),(.int .i64 0),(.slice none 0 0),(.slice none 0 0),(.slice none 0 0),(.int .i64 0),(.int .u8 0),(.int .u8 0),(.int .u8 0),(.int .u8 0),(.int .u8 0),(.int .u8 0),(.int .u8 0),(.int .u8 0),(.int .u8 0),(.int .u8 0),(.int .u8 0),(.int .u8 0),(.int .u8 0),(.int .u8 0),(.int .u8 0),(.int .u8 0),(.int .u8 0),(.int .u8 0),(.int .u8 0),(.int .u8 0),(.int .u8 0),(.int .u8 0),(.int .u8 0),(.int .u8 0),(.int .u8 0),(.int .u8 0),(.int .u8 0),(.int .u8 0),(.int .u8 0),(.int .u8 0),(.int .u8 0),(.int .u8 0),(.slice none 0 0),(.bool false),(.int .u8 0),(.int .u8 0),(.int .u8 0),(.int .u8 0),(.int .u8 0),(.int .u8 0),(.int .u8 0),(.int .u8 0),(.int .u8 0),(.int .u8 0),(.int .u8 0),(.int .u8 0),(.int .u8 0),(.int .u8 0),(.int .u8 0),(.int .u8 0),(.int .u8 0),(.int .u8 0),(.int .u8 0),(.int .u8 0),(.int .u8 0),(.int .u8 0),(.int .u8 0),(.int .u8 0),(.int .u8 0),(.int .u8 0),(.int .u8 0),(.int .u8 0),(.int .u8 0),(.int .u8 0),(.int .u8 0),(.int .u8 0),(.int .i64 0),(.int .i64 0),(.int .i64 0),(.int .i64 0),(.int .u8 0),(.int .u8 0),(.int .u8 0),(.int .u8 0),(.int .u8 0),(.int .u8 0),(.int .u8 0),(.int .u8 0),(.int .u8 0),(.int .u8 0),(.int .u8 0),(.int .u8 0),(.int .u8 0),(.int .u8 0),(.int .u8 0),(.int .u8 0),(.int .u8 0),(.int .u8 0),(.int .u8 0),(.int .u8 0),(.int .u8 0),(.int .u8 0),(.int .u8 0),(.int .u8 0),(.int .u8 0),(.int .u8 0),(.int .u8 0),(.int .u8 0),(.int .u8 0),(.int .u8 0),(.int .u8 0),(.int .u8 0),(.slice none 0 0),(.int .i64 0),(.slice none 0 0),(.int .i64 0)] h) fun y2 h=>
 ae (pu (aB y1 3) h) fun y3 h=>
 ae (aR y3 h) fun y4 h=>
 ae (pu (aB y1 5) h) fun y5 h=>
 ae (aR y5 h) fun y6 h=>
 ae (pu (aB y1 6) h) fun y7 h=>
 ae (aR y7 h) fun y8 h=>
 ae (pu (cQ [(.int .u8 0),(.int .i64 0),(.int .i64 0),(.int .u64 0),(.int .i64 0),(.int .i64 0),(.slice none 0 0),(.slice none 0 0),(.slice none 0 0),(.int .i64 0),(.int .u8 0),(.int .u8 0),(.int .u8 0),(.int .u8 0),(.int .u8 0),(.int .u8 0),(.int .u8 0),(.int .u8 0),(.int .u8 0),(.int .u8 0),(.int .u8 0),(.int .u8 0),(.int .u8 0),(.int .u8 0),(.int .u8 0),(.int .u8 0),(.int .u8 0),(.int .u8 0),(.int .u8 0),(.int .u8 0),(.int .u8 0),(.int .u8 0),(.int .u8 0),(.int .u8 0),(.int .u8 0),(.int .u8 0),(.int .u8 0),(.int .u8 0),(.int .u8 0),(.int .u8 0),(.int .u8 0),(.int .u8 0),(.slice none 0 0),(.bool false),(.int .u8 0),(.int .u8 0),(.int .u8 0),(.int .u8 0),(.int .u8 0),(.int .u8 0),(.int .u8 0),(.int .u8 0),(.int .u8 0),(.int .u8 0),(.int .u8 0),(.int .u8 0),(.int .u8 0),(.int .u8 0),(.int .u8 0),(.int .u8 0),(.int .u8 0),(.int .u8 0),(.int .u8 0),(.int .u8 0),(.int .u8 0),(.int .u8 0),(.int .u8 0),(.int .u8 0),(.int .u8 0),(.int .u8 0),(.int .u8 0),(.int .u8 0),(.int .u8 0),(.int .u8 0),(.int .u8 0),(.int .u8 0),(.int .i64 0),(.int .i64 0),(.int .i64 0),(.int .i64 0),(.int .u8 0),(.int .u8 0),(.int .u8 0),(.int .u8 0),(.int .u8 0),(.int .u8 0),(.int .u8 0),(.int .u8 0),(.int .u8 0),(.int .u8 0),(.int .u8 0),(.int .u8 0),(.int .u8 0),(.int .u8 0),(.int .u8 0),(.int .u8 0),(.int .u8 0),(.int .u8 0),(.int .u8 0),(.int .u8 0),(.int .u8 0),(.int .u8 0),(.int .u8 0),(.int .u8 0),(.int .u8 0),(.int .u8 0),(.int .u8 0),(.int .u8 0),(.int .u8 0),(.int .u8 0),(.int .u8 0),(.int .u8 0),(.slice none 0 0),(.int .i64 0),(.slice none 0 0),(.int .i64 0)] [(3,1,y4),(5,1,y6),(6,1,y8)]) h) fun y9 h=>
 ae (cA 116 y2 y9 h) fun _ h=>
 ax Tryz.prog Tryz.f99.results.toList (bu 10 (up (bs [x0]) [(1,y1),(2,y2),(3,y3),(4,y4),(5,y5),(6,y6),(7,y7),(8,y8),(9,y9)])) h
theorem t99_eq (C:av) (x0:Value) (h:ai):bc Tryz.prog C Tryz.f99 [x0] h=t99 C x0 h:=
 (aE Tryz.prog C Tryz.f99 [x0] h (by kernel_rfl)).trans (by kernel_rfl)
noncomputable def t102 (_C:av) (x0:Value) (h:ai):Out:=
 ae (box x0 h) fun _y1 h=>
 ae (some ((.bool false),h)) fun _y2 h=>
 ae (some ((.bool true),h)) fun y2_1 h=>
 some (y2_1,h)
theorem t102_eq (C:av) (x0:Value) (h:ai):bc Tryz.prog C Tryz.f102 [x0] h=t102 C x0 h:=
 (aE Tryz.prog C Tryz.f102 [x0] h (by kernel_rfl)).trans (by kernel_rfl)
noncomputable def t103 (_C:av) (x0:Value) (h:ai):Out:=
 ae (box x0 h) fun y1 h=>
 ae (eD [(.int .u8 0),(.int .i64 0),(.int .i64 0),(.int .u64 0),(.int .i64 0),(.int .i64 0),(.slice none 0 0),(.slice none 0 0),(.slice none 0 0),(.int .i64 0),(.int .u8 0),(.int .u8 0),(.int .u8 0),(.int .u8 0),(.int .u8 0),(.int .u8 0),(.int .u8 0),(.int .u8 0),(.int .u8 0),(.int .u8 0),(.int .u8 0),(.int .u8 0),(.int .u8 0),(.int .u8 0),(.int .u8 0),(.int .u8 0),(.int .u8 0),(.int .u8 0),(.int .u8 0),(.int .u8 0),(.int .u8 0),(.int .u8 0),(.int .u8 0),(.int .u8 0),(.int .u8 0),(.int .u8 0),(.int .u8 0),(.int .u8 0),(.int .u8 0),(.int .u8 0),(.int .u8 0),(.int .u8 0),(.slice none 0 0),(.bool false),(.int .u8 0),(.int .u8 0),(.int .u8 0),(.int .u8 0),(.int .u8 0),(.int .u8 0),(.int .u8 0),(.int .u8 0),(.int .u8 0),(.int .u8 0),(.int .u8 0),(.int .u8 0),(.int .u8 0),(.int .u8 0),(.int .u8 0),(.int .u8 0),(.int .u8 0),(.int .u8 0),(.int .u8 0),(.int .u8 0),(.int .u8 0),(.int .u8 0),(.int .u8 0),(.int .u8 0),(.int .u8 0),(.int .u8 0),(.int .u8 0),(.int .u8 0),(.int .u8 0),(.int .u8 0),(.int .u8 0),(.int .u8 0),(.int .i64 0),(.int .i64 0),(.int .i64 0),(.int .i64 0),(.int .u8 0),(.int .u8 0),(.int .u8 0),(.int .u8 0),(.int .u8 0),(.int .u8 0),(.int .u8 0),(.int .u8 0),(.int .u8 0),(.int .u8 0),(.int .u8 0),(.int .u8 0),(.int .u8 0),(.int .u8 0),(.int .u8 0),(.int .u8 0),(.int .u8 0),(.int .u8 0),(.int .u8 0),(.int .u8 0),(.int .u8 0),(.int .u8 0),(.int .u8 0),(.int .u8 0),(.int .u8 0),(.int .u8 0),(.int .u8 0),(.int .u8 0),(.int .u8 0),(.int .u8 0),(.int .u8 0),(.int .u8 0),(.slice none 0 0),(.int .i64 0),(.slice none 0 0),(.int .i64 0)] h) fun y2 h=>
 ae (pu (aB y1 44) h) fun y3 h=>
 ae (cq 32 y3 h) fun y4 h=>
 ae (pu (cQ [(.int .u8 0),(.int .i64 0),(.int .i64 0),(.int .u64 0),(.int .i64 0),(.int .i64 0),(.slice none 0 0),(.slice none 0 0),(.slice none 0 0),(.int .i64 0),(.int .u8 0),(.int .u8 0),(.int .u8 0),(.int .u8 0),(.int .u8 0),(.int .u8 0),(.int .u8 0),(.int .u8 0),(.int .u8 0),(.int .u8 0),(.int .u8 0),(.int .u8 0),(.int .u8 0),(.int .u8 0),(.int .u8 0),(.int .u8 0),(.int .u8 0),(.int .u8 0),(.int .u8 0),(.int .u8 0),(.int .u8 0),(.int .u8 0),(.int .u8 0),(.int .u8 0),(.int .u8 0),(.int .u8 0),(.int .u8 0),(.int .u8 0),(.int .u8 0),(.int .u8 0),(.int .u8 0),(.int .u8 0),(.slice none 0 0),(.bool false),(.int .u8 0),(.int .u8 0),(.int .u8 0),(.int .u8 0),(.int .u8 0),(.int .u8 0),(.int .u8 0),(.int .u8 0),(.int .u8 0),(.int .u8 0),(.int .u8 0),(.int .u8 0),(.int .u8 0),(.int .u8 0),(.int .u8 0),(.int .u8 0),(.int .u8 0),(.int .u8 0),(.int .u8 0),(.int .u8 0),(.int .u8 0),(.int .u8 0),(.int .u8 0),(.int .u8 0),(.int .u8 0),(.int .u8 0),(.int .u8 0),(.int .u8 0),(.int .u8 0),(.int .u8 0),(.int .u8 0),(.int .u8 0),(.int .i64 0),(.int .i64 0),(.int .i64 0),(.int .i64 0),(.int .u8 0),(.int .u8 0),(.int .u8 0),(.int .u8 0),(.int .u8 0),(.int .u8 0),(.int .u8 0),(.int .u8 0),(.int .u8 0),(.int .u8 0),(.int .u8 0),(.int .u8 0),(.int .u8 0),(.int .u8 0),(.int .u8 0),(.int .u8 0),(.int .u8 0),(.int .u8 0),(.int .u8 0),(.int .u8 0),(.int .u8 0),(.int .u8 0),(.int .u8 0),(.int .u8 0),(.int .u8 0),(.int .u8 0),(.int .u8 0),(.int .u8 0),(.int .u8 0),(.int .u8 0),(.int .u8 0),(.int .u8 0),(.slice none 0 0),(.int .i64 0),(.slice none 0 0),(.int .i64 0)] [(44,32,y4)]) h) fun y5 h=>
 ae (cA 116 y2 y5 h) fun _ h=>
 ax Tryz.prog Tryz.f103.results.toList (bu 6 (up (bs [x0]) [(1,y1),(2,y2),(3,y3),(4,y4),(5,y5)])) h
theorem t103_eq (C:av) (x0:Value) (h:ai):bc Tryz.prog C Tryz.f103 [x0] h=t103 C x0 h:=
 (aE Tryz.prog C Tryz.f103 [x0] h (by kernel_rfl)).trans (by kernel_rfl)
noncomputable def t106 (C:av) (x0:Value) (h:ai):Out:=
 ae (box x0 h) fun y1 h=>
 ae (some ((.bool false),h)) fun _y2 h=>
 ae (pu (aB y1 76) h) fun y3 h=>
 ae (cq 37 y3 h) fun y4 h=>
 ae (C 131 [y4] h) fun y5 h=>
 ae (pu (bin Tryz.prog .eql 35 y5 (.int .i64 0)) h) fun y6 h=>
 ae (some (y6,h)) fun y7 h=>
 ae (aq (aM y7==some true) (pu (aB y1 113) h) h) fun y8 h=>
 ae (aq (aM y7==some true) (pu (aB y8 0) h) h) fun y9 h=>
 ae (aq (aM y7==some true) (aR y9 h) h) fun y10 h=>
 ae (aq (aM y7==some true) (pu (bin Tryz.prog .geq 3 y10 (.int .i64 0)) h) h) fun y11 h=>
 ae (match y7 with | .bool t=>some (if t then y11 else (.bool false),h)|_=>none) fun y12 h=>
 ae (some (y12,h)) fun y13 h=>
 ae (aq (aM y13==some true) (pu (aB y1 113) h) h) fun y14 h=>
 ae (aq (aM y13==some true) (pu (aB y14 0) h) h) fun y15 h=>
 ae (aq (aM y13==some true) (aR y15 h) h) fun y16 h=>
 ae (aq (aM y13==some true) (pu (aB y1 76) h) h) fun y17 h=>
 ae (aq (aM y13==some true) (pu (aB y17 2) h) h) fun y18 h=>
 ae (aq (aM y13==some true) (aR y18 h) h) fun y19 h=>
 ae (aq (aM y13==some true) (pu (bin Tryz.prog .lss 3 y16 y19) h) h) fun y20 h=>
 ae (match y13 with | .bool t=>some (if t then y20 else (.bool false),h)|_=>none) fun y21 h=>
 ae (some (y21,h)) fun y22 h=>
 ae (aq (aM y22==some true) (pu (aB y1 113) h) h) fun y23 h=>
 ae (aq (aM y22==some true) (pu (aB y23 1) h) h) fun y24 h=>
 ae (aq (aM y22==some true) (aR y24 h) h) fun y25 h=>
 ae (aq (aM y22==some true) (pu (bC y25) h) h) fun dj h=>
 ae (aq (aM y22==some true) (pu (bin Tryz.prog .leq 3 dj (.int .i64 8192)) h) h) fun dA h=>
 ae (match y22 with | .bool t=>some (if t then dA else (.bool false),h)|_=>none) fun y28 h=>
 ae (some (y28,h)) fun y2_1 h=>
 some (y2_1,h)
theorem t106_eq (C:av) (x0:Value) (h:ai):bc Tryz.prog C Tryz.f106 [x0] h=t106 C x0 h:=
 (aE Tryz.prog C Tryz.f106 [x0] h (by kernel_rfl)).trans (by kernel_rfl)
noncomputable def t107 (_C:av) (x0:Value) (h:ai):Out:=
 ae (box x0 h) fun y1 h=>
 ae (eD [(.int .u8 0),(.int .i64 0),(.int .i64 0),(.int .u64 0),(.int .i64 0),(.int .i64 0),(.slice none 0 0),(.slice none 0 0),(.slice none 0 0),(.int .i64 0),(.int .u8 0),(.int .u8 0),(.int .u8 0),(.int .u8 0),(.int .u8 0),(.int .u8 0),(.int .u8 0),(.int .u8 0),(.int .u8 0),(.int .u8 0),(.int .u8 0),(.int .u8 0),(.int .u8 0),(.int .u8 0),(.int .u8 0),(.int .u8 0),(.int .u8 0),(.int .u8 0),(.int .u8 0),(.int .u8 0),(.int .u8 0),(.int .u8 0),(.int .u8 0),(.int .u8 0),(.int .u8 0),(.int .u8 0),(.int .u8 0),(.int .u8 0),(.int .u8 0),(.int .u8 0),(.int .u8 0),(.int .u8 0),(.slice none 0 0),(.bool false),(.int .u8 0),(.int .u8 0),(.int .u8 0),(.int .u8 0),(.int .u8 0),(.int .u8 0),(.int .u8 0),(.int .u8 0),(.int .u8 0),(.int .u8 0),(.int .u8 0),(.int .u8 0),(.int .u8 0),(.int .u8 0),(.int .u8 0),(.int .u8 0),(.int .u8 0),(.int .u8 0),(.int .u8 0),(.int .u8 0),(.int .u8 0),(.int .u8 0),(.int .u8 0),(.int .u8 0),(.int .u8 0),(.int .u8 0),(.int .u8 0),(.int .u8 0),(.int .u8 0),(.int .u8 0),(.int .u8 0),(.int .u8 0),(.int .i64 0),(.int .i64 0),(.int .i64 0),(.int .i64 0),(.int .u8 0),(.int .u8 0),(.int .u8 0),(.int .u8 0),(.int .u8 0),(.int .u8 0),(.int .u8 0),(.int .u8 0),(.int .u8 0),(.int .u8 0),(.int .u8 0),(.int .u8 0),(.int .u8 0),(.int .u8 0),(.int .u8 0),(.int .u8 0),(.int .u8 0),(.int .u8 0),(.int .u8 0),(.int .u8 0),(.int .u8 0),(.int .u8 0),(.int .u8 0),(.int .u8 0),(.int .u8 0),(.int .u8 0),(.int .u8 0),(.int .u8 0),(.int .u8 0),(.int .u8 0),(.int .u8 0),(.int .u8 0),(.slice none 0 0),(.int .i64 0),(.slice none 0 0),(.int .i64 0)] h) fun y2 h=>
 ae (pu (aB y1 44) h) fun y3 h=>
 ae (cq 32 y3 h) fun y4 h=>
 ae (pu (aB y1 76) h) fun y5 h=>
 ae (cq 37 y5 h) fun y6 h=>
 ae (pu (aB y1 113) h) fun y7 h=>
 ae (cq 2 y7 h) fun y8 h=>
 ae (pu (cQ [(.int .u8 0),(.int .i64 0),(.int .i64 0),(.int .u64 0),(.int .i64 0),(.int .i64 0),(.slice none 0 0),(.slice none 0 0),(.slice none 0 0),(.int .i64 0),(.int .u8 0),(.int .u8 0),(.int .u8 0),(.int .u8 0),(.int .u8 0),(.int .u8 0),(.int .u8 0),(.int .u8 0),(.int .u8 0),(.int .u8 0),(.int .u8 0),(.int .u8 0),(.int .u8 0),(.int .u8 0),(.int .u8 0),(.int .u8 0),(.int .u8 0),(.int .u8 0),(.int .u8 0),(.int .u8 0),(.int .u8 0),(.int .u8 0),(.int .u8 0),(.int .u8 0),(.int .u8 0),(.int .u8 0),(.int .u8 0),(.int .u8 0),(.int .u8 0),(.int .u8 0),(.int .u8 0),(.int .u8 0),(.slice none 0 0),(.bool false),(.int .u8 0),(.int .u8 0),(.int .u8 0),(.int .u8 0),(.int .u8 0),(.int .u8 0),(.int .u8 0),(.int .u8 0),(.int .u8 0),(.int .u8 0),(.int .u8 0),(.int .u8 0),(.int .u8 0),(.int .u8 0),(.int .u8 0),(.int .u8 0),(.int .u8 0),(.int .u8 0),(.int .u8 0),(.int .u8 0),(.int .u8 0),(.int .u8 0),(.int .u8 0),(.int .u8 0),(.int .u8 0),(.int .u8 0),(.int .u8 0),(.int .u8 0),(.int .u8 0),(.int .u8 0),(.int .u8 0),(.int .u8 0),(.int .i64 0),(.int .i64 0),(.int .i64 0),(.int .i64 0),(.int .u8 0),(.int .u8 0),(.int .u8 0),(.int .u8 0),(.int .u8 0),(.int .u8 0),(.int .u8 0),(.int .u8 0),(.int .u8 0),(.int .u8 0),(.int .u8 0),(.int .u8 0),(.int .u8 0),(.int .u8 0),(.int .u8 0),(.int .u8 0),(.int .u8 0),(.int .u8 0),(.int .u8 0),(.int .u8 0),(.int .u8 0),(.int .u8 0),(.int .u8 0),(.int .u8 0),(.int .u8 0),(.int .u8 0),(.int .u8 0),(.int .u8 0),(.int .u8 0),(.int .u8 0),(.int .u8 0),(.int .u8 0),(.slice none 0 0),(.int .i64 0),(.slice none 0 0),(.int .i64 0)] [(44,32,y4),(76,37,y6),(113,2,y8)]) h) fun y9 h=>
 ae (cA 116 y2 y9 h) fun _ h=>
 ax Tryz.prog Tryz.f107.results.toList (bu 10 (up (bs [x0]) [(1,y1),(2,y2),(3,y3),(4,y4),(5,y5),(6,y6),(7,y7),(8,y8),(9,y9)])) h
theorem t107_eq (C:av) (x0:Value) (h:ai):bc Tryz.prog C Tryz.f107 [x0] h=t107 C x0 h:=
 (aE Tryz.prog C Tryz.f107 [x0] h (by kernel_rfl)).trans (by kernel_rfl)
noncomputable def t111 (C:av) (x0:Value) (h:ai):Out:=
 ae (box x0 h) fun y1 h=>
 ae (some ((.bool false),h)) fun _y2 h=>
 ae (pu (aB y1 7) h) fun y3 h=>
 ae (aR y3 h) fun y4 h=>
 ae (pu (bC y4) h) fun y5 h=>
 ae (pu (bin Tryz.prog .leq 3 y5 (.int .i64 34)) h) fun y6 h=>
 ae (some (y6,h)) fun y7 h=>
 ae (aq (aM y7==some true) (pu (aB y1 8) h) h) fun y8 h=>
 ae (aq (aM y7==some true) (aR y8 h) h) fun y9 h=>
 ae (aq (aM y7==some true) (pu (bC y9) h) h) fun y10 h=>
 ae (aq (aM y7==some true) (pu (bin Tryz.prog .leq 3 y10 (.int .i64 34)) h) h) fun y11 h=>
 ae (match y7 with | .bool t=>some (if t then y11 else (.bool false),h)|_=>none) fun y12 h=>
 ae (some (y12,h)) fun y13 h=>
 ae (aq (aM y13==some true) (pu (aB y1 9) h) h) fun y14 h=>
 ae (aq (aM y13==some true) (aR y14 h) h) fun y15 h=>
 ae (aq (aM y13==some true) (pu (bin Tryz.prog .geq 3 y15 (.int .i64 0)) h) h) fun y16 h=>
 ae (match y13 with | .bool t=>some (if t then y16 else (.bool false),h)|_=>none) fun y17 h=>
 ae (some (y17,h)) fun y18 h=>
 ae (aq (aM y18==some true) (pu (aB y1 9) h) h) fun y19 h=>
 ae (aq (aM y18==some true) (aR y19 h) h) fun y20 h=>
 ae (aq (aM y18==some true) (pu (bin Tryz.prog .leq 3 y20 (.int .i64 1048576)) h) h) fun y21 h=>
 ae (match y18 with | .bool t=>some (if t then y21 else (.bool false),h)|_=>none) fun y22 h=>
 ae (some (y22,h)) fun y23 h=>
 ae (aq (aM y23==some true) (pu (aB y1 42) h) h) fun y24 h=>
 ae (aq (aM y23==some true) (aR y24 h) h) fun y25 h=>
 ae (aq (aM y23==some true) (pu (bC y25) h) h) fun dj h=>
 ae (aq (aM y23==some true) (pu (bin Tryz.prog .leq 3 dj (.int .i64 64)) h) h) fun dA h=>
 ae (match y23 with | .bool t=>some (if t then dA else (.bool false),h)|_=>none) fun y28 h=>
 ae (some (y28,h)) fun y29 h=>
 ae (aq (aM y29==some true) (pu (aB y1 42) h) h) fun y30 h=>
 ae (aq (aM y29==some true) (aR y30 h) h) fun y31 h=>
 ae (aq (aM y29==some true) (C 136 [y31,(.func (.func 137) #[] #[])] h) h) fun y32 h=>
 ae (aq (aM y29==some true) (pu (unA .not y32) h) h) fun y33 h=>
 ae (match y29 with | .bool t=>some (if t then y33 else (.bool false),h)|_=>none) fun y34 h=>
 ae (some (y34,h)) fun y2_1 h=>
 some (y2_1,h)
theorem t111_eq (C:av) (x0:Value) (h:ai):bc Tryz.prog C Tryz.f111 [x0] h=t111 C x0 h:=
 (aE Tryz.prog C Tryz.f111 [x0] h (by kernel_rfl)).trans (by kernel_rfl)
noncomputable def t112 (_C:av) (x0:Value) (h:ai):Out:=
 ae (box x0 h) fun y1 h=>
 ae (eD [(.int .u8 0),(.int .i64 0),(.int .i64 0),(.int .u64 0),(.int .i64 0),(.int .i64 0),(.slice none 0 0),(.slice none 0 0),(.slice none 0 0),(.int .i64 0),(.int .u8 0),(.int .u8 0),(.int .u8 0),(.int .u8 0),(.int .u8 0),(.int .u8 0),(.int .u8 0),(.int .u8 0),(.int .u8 0),(.int .u8 0),(.int .u8 0),(.int .u8 0),(.int .u8 0),(.int .u8 0),(.int .u8 0),(.int .u8 0),(.int .u8 0),(.int .u8 0),(.int .u8 0),(.int .u8 0),(.int .u8 0),(.int .u8 0),(.int .u8 0),(.int .u8 0),(.int .u8 0),(.int .u8 0),(.int .u8 0),(.int .u8 0),(.int .u8 0),(.int .u8 0),(.int .u8 0),(.int .u8 0),(.slice none 0 0),(.bool false),(.int .u8 0),(.int .u8 0),(.int .u8 0),(.int .u8 0),(.int .u8 0),(.int .u8 0),(.int .u8 0),(.int .u8 0),(.int .u8 0),(.int .u8 0),(.int .u8 0),(.int .u8 0),(.int .u8 0),(.int .u8 0),(.int .u8 0),(.int .u8 0),(.int .u8 0),(.int .u8 0),(.int .u8 0),(.int .u8 0),(.int .u8 0),(.int .u8 0),(.int .u8 0),(.int .u8 0),(.int .u8 0),(.int .u8 0),(.int .u8 0),(.int .u8 0),(.int .u8 0),(.int .u8 0),(.int .u8 0),(.int .u8 0),(.int .i64 0),(.int .i64 0),(.int .i64 0),(.int .i64 0),(.int .u8 0),(.int .u8 0),(.int .u8 0),(.int .u8 0),(.int .u8 0),(.int .u8 0),(.int .u8 0),(.int .u8 0),(.int .u8 0),(.int .u8 0),(.int .u8 0),(.int .u8 0),(.int .u8 0),(.int .u8 0),(.int .u8 0),(.int .u8 0),(.int .u8 0),(.int .u8 0),(.int .u8 0),(.int .u8 0),(.int .u8 0),(.int .u8 0),(.int .u8 0),(.int .u8 0),(.int .u8 0),(.int .u8 0),(.int .u8 0),(.int .u8 0),(.int .u8 0),(.int .u8 0),(.int .u8 0),(.int .u8 0),(.slice none 0 0),(.int .i64 0),(.slice none 0 0),(.int .i64 0)] h) fun y2 h=>
 ae (pu (aB y1 7) h) fun y3 h=>
 ae (aR y3 h) fun y4 h=>
 ae (pu (aB y1 8) h) fun y5 h=>
 ae (aR y5 h) fun y6 h=>
 ae (pu (aB y1 9) h) fun y7 h=>
 ae (aR y7 h) fun y8 h=>
 ae (pu (aB y1 10) h) fun y9 h=>
 ae (cq 32 y9 h) fun y10 h=>
 ae (pu (cQ [(.int .u8 0),(.int .i64 0),(.int .i64 0),(.int .u64 0),(.int .i64 0),(.int .i64 0),(.slice none 0 0),(.slice none 0 0),(.slice none 0 0),(.int .i64 0),(.int .u8 0),(.int .u8 0),(.int .u8 0),(.int .u8 0),(.int .u8 0),(.int .u8 0),(.int .u8 0),(.int .u8 0),(.int .u8 0),(.int .u8 0),(.int .u8 0),(.int .u8 0),(.int .u8 0),(.int .u8 0),(.int .u8 0),(.int .u8 0),(.int .u8 0),(.int .u8 0),(.int .u8 0),(.int .u8 0),(.int .u8 0),(.int .u8 0),(.int .u8 0),(.int .u8 0),(.int .u8 0),(.int .u8 0),(.int .u8 0),(.int .u8 0),(.int .u8 0),(.int .u8 0),(.int .u8 0),(.int .u8 0),(.slice none 0 0),(.bool false),(.int .u8 0),(.int .u8 0),(.int .u8 0),(.int .u8 0),(.int .u8 0),(.int .u8 0),(.int .u8 0),(.int .u8 0),(.int .u8 0),(.int .u8 0),(.int .u8 0),(.int .u8 0),(.int .u8 0),(.int .u8 0),(.int .u8 0),(.int .u8 0),(.int .u8 0),(.int .u8 0),(.int .u8 0),(.int .u8 0),(.int .u8 0),(.int .u8 0),(.int .u8 0),(.int .u8 0),(.int .u8 0),(.int .u8 0),(.int .u8 0),(.int .u8 0),(.int .u8 0),(.int .u8 0),(.int .u8 0),(.int .u8 0),(.int .i64 0),(.int .i64 0),(.int .i64 0),(.int .i64 0),(.int .u8 0),(.int .u8 0),(.int .u8 0),(.int .u8 0),(.int .u8 0),(.int .u8 0),(.int .u8 0),(.int .u8 0),(.int .u8 0),(.int .u8 0),(.int .u8 0),(.int .u8 0),(.int .u8 0),(.int .u8 0),(.int .u8 0),(.int .u8 0),(.int .u8 0),(.int .u8 0),(.int .u8 0),(.int .u8 0),(.int .u8 0),(.int .u8 0),(.int .u8 0),(.int .u8 0),(.int .u8 0),(.int .u8 0),(.int .u8 0),(.int .u8 0),(.int .u8 0),(.int .u8 0),(.int .u8 0),(.int .u8 0),(.slice none 0 0),(.int .i64 0),(.slice none 0 0),(.int .i64 0)] [(7,1,y4),(8,1,y6),(9,1,y8),(10,32,y10)]) h) fun y11 h=>
 ae (cA 116 y2 y11 h) fun _ h=>
 ax Tryz.prog Tryz.f112.results.toList (bu 12 (up (bs [x0]) [(1,y1),(2,y2),(3,y3),(4,y4),(5,y5),(6,y6),(7,y7),(8,y8),(9,y9),(10,y10),(11,y11)])) h
theorem t112_eq (C:av) (x0:Value) (h:ai):bc Tryz.prog C Tryz.f112 [x0] h=t112 C x0 h:=
 (aE Tryz.prog C Tryz.f112 [x0] h (by kernel_rfl)).trans (by kernel_rfl)
noncomputable def t115 (_C:av) (x0:Value) (h:ai):Out:=
 ae (box x0 h) fun y1 h=>
 ae (eD [(.int .u8 0),(.int .i64 0),(.int .i64 0),(.int .u64 0),(.int .i64 0),(.int .i64 0),(.slice none 0 0),(.slice none 0 0),(.slice none 0 0),(.int .i64 0),(.int .u8 0),(.int .u8 0),(.int .u8 0),(.int .u8 0),(.int .u8 0),(.int .u8 0),(.int .u8 0),(.int .u8 0),(.int .u8 0),(.int .u8 0),(.int .u8 0),(.int .u8 0),(.int .u8 0),(.int .u8 0),(.int .u8 0),(.int .u8 0),(.int .u8 0),(.int .u8 0),(.int .u8 0),(.int .u8 0),(.int .u8 0),(.int .u8 0),(.int .u8 0),(.int .u8 0),(.int .u8 0),(.int .u8 0),(.int .u8 0),(.int .u8 0),(.int .u8 0),(.int .u8 0),(.int .u8 0),(.int .u8 0),(.slice none 0 0),(.bool false),(.int .u8 0),(.int .u8 0),(.int .u8 0),(.int .u8 0),(.int .u8 0),(.int .u8 0),(.int .u8 0),(.int .u8 0),(.int .u8 0),(.int .u8 0),(.int .u8 0),(.int .u8 0),(.int .u8 0),(.int .u8 0),(.int .u8 0),(.int .u8 0),(.int .u8 0),(.int .u8 0),(.int .u8 0),(.int .u8 0),(.int .u8 0),(.int .u8 0),(.int .u8 0),(.int .u8 0),(.int .u8 0),(.int .u8 0),(.int .u8 0),(.int .u8 0),(.int .u8 0),(.int .u8 0),(.int .u8 0),(.int .u8 0),(.int .i64 0),(.int .i64 0),(.int .i64 0),(.int .i64 0),(.int .u8 0),(.int .u8 0),(.int .u8 0),(.int .u8 0),(.int .u8 0),(.int .u8 0),(.int .u8 0),(.int .u8 0),(.int .u8 0),(.int .u8 0),(.int .u8 0),(.int .u8 0),(.int .u8 0),(.int .u8 0),(.int .u8 0),(.int .u8 0),(.int .u8 0),(.int .u8 0),(.int .u8 0),(.int .u8 0),(.int .u8 0),(.int .u8 0),(.int .u8 0),(.int .u8 0),(.int .u8 0),(.int .u8 0),(.int .u8 0),(.int .u8 0),(.int .u8 0),(.int .u8 0),(.int .u8 0),(.int .u8 0),(.slice none 0 0),(.int .i64 0),(.slice none 0 0),(.int .i64 0)] h) fun y2 h=>
 ae (pu (aB y1 7) h) fun y3 h=>
 ae (aR y3 h) fun y4 h=>
 ae (pu (aB y1 8) h) fun y5 h=>
 ae (aR y5 h) fun y6 h=>
 ae (pu (aB y1 43) h) fun y7 h=>
 ae (aR y7 h) fun y8 h=>
 ae (pu (aB y1 42) h) fun y9 h=>
 ae (aR y9 h) fun y10 h=>
 ae (pu (cQ [(.int .u8 0),(.int .i64 0),(.int .i64 0),(.int .u64 0),(.int .i64 0),(.int .i64 0),(.slice none 0 0),(.slice none 0 0),(.slice none 0 0),(.int .i64 0),(.int .u8 0),(.int .u8 0),(.int .u8 0),(.int .u8 0),(.int .u8 0),(.int .u8 0),(.int .u8 0),(.int .u8 0),(.int .u8 0),(.int .u8 0),(.int .u8 0),(.int .u8 0),(.int .u8 0),(.int .u8 0),(.int .u8 0),(.int .u8 0),(.int .u8 0),(.int .u8 0),(.int .u8 0),(.int .u8 0),(.int .u8 0),(.int .u8 0),(.int .u8 0),(.int .u8 0),(.int .u8 0),(.int .u8 0),(.int .u8 0),(.int .u8 0),(.int .u8 0),(.int .u8 0),(.int .u8 0),(.int .u8 0),(.slice none 0 0),(.bool false),(.int .u8 0),(.int .u8 0),(.int .u8 0),(.int .u8 0),(.int .u8 0),(.int .u8 0),(.int .u8 0),(.int .u8 0),(.int .u8 0),(.int .u8 0),(.int .u8 0),(.int .u8 0),(.int .u8 0),(.int .u8 0),(.int .u8 0),(.int .u8 0),(.int .u8 0),(.int .u8 0),(.int .u8 0),(.int .u8 0),(.int .u8 0),(.int .u8 0),(.int .u8 0),(.int .u8 0),(.int .u8 0),(.int .u8 0),(.int .u8 0),(.int .u8 0),(.int .u8 0),(.int .u8 0),(.int .u8 0),(.int .u8 0),(.int .i64 0),(.int .i64 0),(.int .i64 0),(.int .i64 0),(.int .u8 0),(.int .u8 0),(.int .u8 0),(.int .u8 0),(.int .u8 0),(.int .u8 0),(.int .u8 0),(.int .u8 0),(.int .u8 0),(.int .u8 0),(.int .u8 0),(.int .u8 0),(.int .u8 0),(.int .u8 0),(.int .u8 0),(.int .u8 0),(.int .u8 0),(.int .u8 0),(.int .u8 0),(.int .u8 0),(.int .u8 0),(.int .u8 0),(.int .u8 0),(.int .u8 0),(.int .u8 0),(.int .u8 0),(.int .u8 0),(.int .u8 0),(.int .u8 0),(.int .u8 0),(.int .u8 0),(.int .u8 0),(.slice none 0 0),(.int .i64 0),(.slice none 0 0),(.int .i64 0)] [(7,1,y4),(8,1,y6),(43,1,y8),(42,1,y10)]) h) fun y11 h=>
 ae (cA 116 y2 y11 h) fun _ h=>
 ax Tryz.prog Tryz.f115.results.toList (bu 12 (up (bs [x0]) [(1,y1),(2,y2),(3,y3),(4,y4),(5,y5),(6,y6),(7,y7),(8,y8),(9,y9),(10,y10),(11,y11)])) h
theorem t115_eq (C:av) (x0:Value) (h:ai):bc Tryz.prog C Tryz.f115 [x0] h=t115 C x0 h:=
 (aE Tryz.prog C Tryz.f115 [x0] h (by kernel_rfl)).trans (by kernel_rfl)
noncomputable def t118 (_C:av) (x0:Value) (h:ai):Out:=
 ae (box x0 h) fun y1 h=>
 ae (some ((.bool false),h)) fun _y2 h=>
 ae (pu (aB y1 115) h) fun y3 h=>
 ae (aR y3 h) fun y4 h=>
 ae (pu (bin Tryz.prog .geq 35 y4 (.int .i64 0)) h) fun y5 h=>
 ae (some (y5,h)) fun y6 h=>
 ae (aq (aM y6==some true) (pu (aB y1 115) h) h) fun y7 h=>
 ae (aq (aM y6==some true) (aR y7 h) h) fun y8 h=>
 ae (aq (aM y6==some true) (pu (bin Tryz.prog .leq 35 y8 (.int .i64 999)) h) h) fun y9 h=>
 ae (match y6 with | .bool t=>some (if t then y9 else (.bool false),h)|_=>none) fun y10 h=>
 ae (some (y10,h)) fun y2_1 h=>
 some (y2_1,h)
theorem t118_eq (C:av) (x0:Value) (h:ai):bc Tryz.prog C Tryz.f118 [x0] h=t118 C x0 h:=
 (aE Tryz.prog C Tryz.f118 [x0] h (by kernel_rfl)).trans (by kernel_rfl)
noncomputable def t119 (_C:av) (x0:Value) (h:ai):Out:=
 ae (box x0 h) fun y1 h=>
 ae (eD [(.int .u8 0),(.int .i64 0),(.int .i64 0),(.int .u64 0),(.int .i64 0),(.int .i64 0),(.slice none 0 0),(.slice none 0 0),(.slice none 0 0),(.int .i64 0),(.int .u8 0),(.int .u8 0),(.int .u8 0),(.int .u8 0),(.int .u8 0),(.int .u8 0),(.int .u8 0),(.int .u8 0),(.int .u8 0),(.int .u8 0),(.int .u8 0),(.int .u8 0),(.int .u8 0),(.int .u8 0),(.int .u8 0),(.int .u8 0),(.int .u8 0),(.int .u8 0),(.int .u8 0),(.int .u8 0),(.int .u8 0),(.int .u8 0),(.int .u8 0),(.int .u8 0),(.int .u8 0),(.int .u8 0),(.int .u8 0),(.int .u8 0),(.int .u8 0),(.int .u8 0),(.int .u8 0),(.int .u8 0),(.slice none 0 0),(.bool false),(.int .u8 0),(.int .u8 0),(.int .u8 0),(.int .u8 0),(.int .u8 0),(.int .u8 0),(.int .u8 0),(.int .u8 0),(.int .u8 0),(.int .u8 0),(.int .u8 0),(.int .u8 0),(.int .u8 0),(.int .u8 0),(.int .u8 0),(.int .u8 0),(.int .u8 0),(.int .u8 0),(.int .u8 0),(.int .u8 0),(.int .u8 0),(.int .u8 0),(.int .u8 0),(.int .u8 0),(.int .u8 0),(.int .u8 0),(.int .u8 0),(.int .u8 0),(.int .u8 0),(.int .u8 0),(.int .u8 0),(.int .u8 0),(.int .i64 0),(.int .i64 0),(.int .i64 0),(.int .i64 0),(.int .u8 0),(.int .u8 0),(.int .u8 0),(.int .u8 0),(.int .u8 0),(.int .u8 0),(.int .u8 0),(.int .u8 0),(.int .u8 0),(.int .u8 0),(.int .u8 0),(.int .u8 0),(.int .u8 0),(.int .u8 0),(.int .u8 0),(.int .u8 0),(.int .u8 0),(.int .u8 0),(.int .u8 0),(.int .u8 0),(.int .u8 0),(.int .u8 0),(.int .u8 0),(.int .u8 0),(.int .u8 0),(.int .u8 0),(.int .u8 0),(.int .u8 0),(.int .u8 0),(.int .u8 0),(.int .u8 0),(.int .u8 0),(.slice none 0 0),(.int .i64 0),(.slice none 0 0),(.int .i64 0)] h) fun y2 h=>
 ae (pu (aB y1 44) h) fun y3 h=>
 ae (cq 32 y3 h) fun y4 h=>
 ae (pu (aB y1 115) h) fun y5 h=>
 ae (aR y5 h) fun y6 h=>
 ae (pu (cQ [(.int .u8 0),(.int .i64 0),(.int .i64 0),(.int .u64 0),(.int .i64 0),(.int .i64 0),(.slice none 0 0),(.slice none 0 0),(.slice none 0 0),(.int .i64 0),(.int .u8 0),(.int .u8 0),(.int .u8 0),(.int .u8 0),(.int .u8 0),(.int .u8 0),(.int .u8 0),(.int .u8 0),(.int .u8 0),(.int .u8 0),(.int .u8 0),(.int .u8 0),(.int .u8 0),(.int .u8 0),(.int .u8 0),(.int .u8 0),(.int .u8 0),(.int .u8 0),(.int .u8 0),(.int .u8 0),(.int .u8 0),(.int .u8 0),(.int .u8 0),(.int .u8 0),(.int .u8 0),(.int .u8 0),(.int .u8 0),(.int .u8 0),(.int .u8 0),(.int .u8 0),(.int .u8 0),(.int .u8 0),(.slice none 0 0),(.bool false),(.int .u8 0),(.int .u8 0),(.int .u8 0),(.int .u8 0),(.int .u8 0),(.int .u8 0),(.int .u8 0),(.int .u8 0),(.int .u8 0),(.int .u8 0),(.int .u8 0),(.int .u8 0),(.int .u8 0),(.int .u8 0),(.int .u8 0),(.int .u8 0),(.int .u8 0),(.int .u8 0),(.int .u8 0),(.int .u8 0),(.int .u8 0),(.int .u8 0),(.int .u8 0),(.int .u8 0),(.int .u8 0),(.int .u8 0),(.int .u8 0),(.int .u8 0),(.int .u8 0),(.int .u8 0),(.int .u8 0),(.int .u8 0),(.int .i64 0),(.int .i64 0),(.int .i64 0),(.int .i64 0),(.int .u8 0),(.int .u8 0),(.int .u8 0),(.int .u8 0),(.int .u8 0),(.int .u8 0),(.int .u8 0),(.int .u8 0),(.int .u8 0),(.int .u8 0),(.int .u8 0),(.int .u8 0),(.int .u8 0),(.int .u8 0),(.int .u8 0),(.int .u8 0),(.int .u8 0),(.int .u8 0),(.int .u8 0),(.int .u8 0),(.int .u8 0),(.int .u8 0),(.int .u8 0),(.int .u8 0),(.int .u8 0),(.int .u8 0),(.int .u8 0),(.int .u8 0),(.int .u8 0),(.int .u8 0),(.int .u8 0),(.int .u8 0),(.slice none 0 0),(.int .i64 0),(.slice none 0 0),(.int .i64 0)] [(44,32,y4),(115,1,y6)]) h) fun y7 h=>
 ae (cA 116 y2 y7 h) fun _ h=>
 ax Tryz.prog Tryz.f119.results.toList (bu 8 (up (bs [x0]) [(1,y1),(2,y2),(3,y3),(4,y4),(5,y5),(6,y6),(7,y7)])) h
theorem t119_eq (C:av) (x0:Value) (h:ai):bc Tryz.prog C Tryz.f119 [x0] h=t119 C x0 h:=
 (aE Tryz.prog C Tryz.f119 [x0] h (by kernel_rfl)).trans (by kernel_rfl)
noncomputable def t125 (C:av) (x0:Value) (h:ai):Out:=
 ae (some ((.bool false),h)) fun _y2 h=>
 ae (some (x0,h)) fun y3 h=>
 ae (pu (bC y3) h) fun y4 h=>
 ae (pu (bin Tryz.prog .geq 3 y4 (.int .i64 1)) h) fun y5 h=>
 ae (some (y5,h)) fun y6 h=>
 ae (aq (aM y6==some true) (some (x0,h)) h) fun y7 h=>
 ae (aq (aM y6==some true) (pu (bC y7) h) h) fun y8 h=>
 ae (aq (aM y6==some true) (pu (bin Tryz.prog .leq 3 y8 (.int .i64 16)) h) h) fun y9 h=>
 ae (match y6 with | .bool t=>some (if t then y9 else (.bool false),h)|_=>none) fun y10 h=>
 ae (some (y10,h)) fun y11 h=>
 ae (aq (aM y11==some true) (some (x0,h)) h) fun y12 h=>
 ae (aq (aM y11==some true) (C 145 [y12,(.func (.func 146) #[] #[])] h) h) fun y13 h=>
 ae (aq (aM y11==some true) (pu (unA .not y13) h) h) fun y14 h=>
 ae (match y11 with | .bool t=>some (if t then y14 else (.bool false),h)|_=>none) fun y15 h=>
 ae (some (y15,h)) fun y2_1 h=>
 some (y2_1,h)
theorem t125_eq (C:av) (x0:Value) (h:ai):bc Tryz.prog C Tryz.f125 [x0] h=t125 C x0 h:=
 (aE Tryz.prog C Tryz.f125 [x0] h (by kernel_rfl)).trans (by kernel_rfl)
noncomputable def t131 (C:av) (x0:Value) (h:ai):Out:=
 ae (box x0 h) fun y1 h=>
 ae (some ((.int .i64 0),h)) fun _y2 h=>
 ae (pu (aB y1 0) h) fun y3 h=>
 ae (aR y3 h) fun y4 h=>
 ae (pu (aB y1 1) h) fun y5 h=>
 ae (aR y5 h) fun y6 h=>
 ae (pu (aB y1 2) h) fun y7 h=>
 ae (aR y7 h) fun y8 h=>
 ae (C 148 [y4,y6,y8] h) fun y9 h=>
 ae (pu (unA .not y9) h) fun y10 h=>
 ae (some (y10,h)) fun y11 h=>
 ae (aq (aM y11==some false) (pu (aB y1 3) h) h) fun y12 h=>
 ae (aq (aM y11==some false) (aR y12 h) h) fun y13 h=>
 ae (aq (aM y11==some false) (pu (bin Tryz.prog .lss 3 y13 (.int .i64 0)) h) h) fun y14 h=>
 ae (match y11 with | .bool t=>some (if t then (.bool true) else y14,h)|_=>none) fun y15 h=>
 ae (some (y15,h)) fun y16 h=>
 ae (aq (aM y16==some false) (pu (aB y1 3) h) h) fun y17 h=>
 ae (aq (aM y16==some false) (aR y17 h) h) fun y18 h=>
 ae (aq (aM y16==some false) (pu (bin Tryz.prog .gtr 3 y18 (.int .i64 8192)) h) h) fun y19 h=>
 ae (match y16 with | .bool t=>some (if t then (.bool true) else y19,h)|_=>none) fun y20 h=>
 ae (some (y20,h)) fun y21 h=>
 ae (aq (aM y21==some false) (pu (aB y1 36) h) h) fun y22 h=>
 ae (aq (aM y21==some false) (aR y22 h) h) fun y23 h=>
 ae (aq (aM y21==some false) (pu (bC y23) h) h) fun y24 h=>
 ae (aq (aM y21==some false) (pu (aB y1 2) h) h) fun y25 h=>
 ae (aq (aM y21==some false) (aR y25 h) h) fun dj h=>
 ae (aq (aM y21==some false) (pu (bin Tryz.prog .neq 3 y24 dj) h) h) fun dA h=>
 ae (match y21 with | .bool t=>some (if t then (.bool true) else dA,h)|_=>none) fun y28 h=>
 (match y28 with
 | .bool true=>
 ae (some ((.int .i64 2),h)) fun y2_1 h=>
 some (y2_1,h)
 | .bool false=>
 ae (some ((.int .i64 0),h)) fun y2_1 h=>
 some (y2_1,h)
 |_=>none)
theorem t131_eq (C:av) (x0:Value) (h:ai):bc Tryz.prog C Tryz.f131 [x0] h=t131 C x0 h:=
 (aE Tryz.prog C Tryz.f131 [x0] h (by kernel_rfl)).trans (by kernel_rfl)
noncomputable def t136 (C:av) (x0 x1:Value) (h:ai):Out:=
 ae (some ((.bool false),h)) fun _y4 h=>
 ae (some (x0,h)) fun y5 h=>
 ae (some (x1,h)) fun y6 h=>
 ae (C 150 [y5,y6] h) fun y7 h=>
 ae (pu (bin Tryz.prog .geq 3 y7 (.int .i64 0)) h) fun y8 h=>
 ae (some (y8,h)) fun y4_1 h=>
 some (y4_1,h)
theorem t136_eq (C:av) (x0 x1:Value) (h:ai):bc Tryz.prog C Tryz.f136 [x0,x1] h=t136 C x0 x1 h:=
 (aE Tryz.prog C Tryz.f136 [x0,x1] h (by kernel_rfl)).trans (by kernel_rfl)
noncomputable def t137 (C:av) (x0:Value) (h:ai):Out:=
 ae (box x0 h) fun y1 h=>
 ae (some ((.bool false),h)) fun _y2 h=>
 ae (cq 39 y1 h) fun y3 h=>
 ae (C 138 [y3] h) fun y4 h=>
 ae (pu (unA .not y4) h) fun y5 h=>
 ae (some (y5,h)) fun y2_1 h=>
 some (y2_1,h)
theorem t137_eq (C:av) (x0:Value) (h:ai):bc Tryz.prog C Tryz.f137 [x0] h=t137 C x0 h:=
 (aE Tryz.prog C Tryz.f137 [x0] h (by kernel_rfl)).trans (by kernel_rfl)
noncomputable def t138 (C:av) (x0:Value) (h:ai):Out:=
 ae (box x0 h) fun y1 h=>
 ae (some ((.bool false),h)) fun _y2 h=>
 ae (pu (aB y1 0) h) fun y3 h=>
 ae (aR y3 h) fun y4 h=>
 ae (pu (bin Tryz.prog .eql 59 y4 (.int .u8 1)) h) fun y6 h=>
 ae (some (y6,h)) fun y5 h=>
 (match y5 with
 | .bool true=>
 ae (cq 39 y1 h) fun y7 h=>
 ae (pu (aB y1 0) h) fun y8 h=>
 ae (aR y8 h) fun y9 h=>
 ae (pu (aB y1 33) h) fun y10 h=>
 ae (aR y10 h) fun y11 h=>
 ae (pu (aB y1 34) h) fun y12 h=>
 ae (aR y12 h) fun y13 h=>
 ae (pu (cQ [(.int .u8 0),(.int .u8 0),(.int .u8 0),(.int .u8 0),(.int .u8 0),(.int .u8 0),(.int .u8 0),(.int .u8 0),(.int .u8 0),(.int .u8 0),(.int .u8 0),(.int .u8 0),(.int .u8 0),(.int .u8 0),(.int .u8 0),(.int .u8 0),(.int .u8 0),(.int .u8 0),(.int .u8 0),(.int .u8 0),(.int .u8 0),(.int .u8 0),(.int .u8 0),(.int .u8 0),(.int .u8 0),(.int .u8 0),(.int .u8 0),(.int .u8 0),(.int .u8 0),(.int .u8 0),(.int .u8 0),(.int .u8 0),(.int .u8 0),(.int .i64 0),(.int .u64 0),(.int .u64 0),(.bool false),(.int .i64 0),(.int .i64 0)] [(0,1,y9),(33,1,y11),(34,1,y13)]) h) fun y14 h=>
 ae (pu (bin Tryz.prog .eql 61 y7 y14) h) fun y15 h=>
 ae (some (y15,h)) fun y16 h=>
 ae (aq (aM y16==some true) (cq 39 y1 h) h) fun y17 h=>
 ae (aq (aM y16==some true) (C 151 [y17] h) h) fun y18 h=>
 ae (match y16 with | .bool t=>some (if t then y18 else (.bool false),h)|_=>none) fun y19 h=>
 ae (some (y19,h)) fun y2_1 h=>
 some (y2_1,h)
 | .bool false=>
 ae (pu (bin Tryz.prog .eql 59 y4 (.int .u8 2)) h) fun y21 h=>
 ae (some (y21,h)) fun y20 h=>
 (match y20 with
 | .bool true=>
 ae (cq 39 y1 h) fun y22 h=>
 ae (pu (aB y1 0) h) fun y23 h=>
 ae (aR y23 h) fun y24 h=>
 ae (pu (aB y1 1) h) fun y25 h=>
 ae (cq 32 y25 h) fun dj h=>
 ae (pu (cQ [(.int .u8 0),(.int .u8 0),(.int .u8 0),(.int .u8 0),(.int .u8 0),(.int .u8 0),(.int .u8 0),(.int .u8 0),(.int .u8 0),(.int .u8 0),(.int .u8 0),(.int .u8 0),(.int .u8 0),(.int .u8 0),(.int .u8 0),(.int .u8 0),(.int .u8 0),(.int .u8 0),(.int .u8 0),(.int .u8 0),(.int .u8 0),(.int .u8 0),(.int .u8 0),(.int .u8 0),(.int .u8 0),(.int .u8 0),(.int .u8 0),(.int .u8 0),(.int .u8 0),(.int .u8 0),(.int .u8 0),(.int .u8 0),(.int .u8 0),(.int .i64 0),(.int .u64 0),(.int .u64 0),(.bool false),(.int .i64 0),(.int .i64 0)] [(0,1,y24),(1,32,dj)]) h) fun dA h=>
 ae (pu (bin Tryz.prog .eql 61 y22 dA) h) fun y28 h=>
 ae (some (y28,h)) fun y2_1 h=>
 some (y2_1,h)
 | .bool false=>
 ae (pu (bin Tryz.prog .eql 59 y4 (.int .u8 3)) h) fun y30 h=>
 ae (some (y30,h)) fun y29 h=>
 (match y29 with
 | .bool true=>
 ae (cq 39 y1 h) fun y31 h=>
 ae (C 151 [y31] h) fun y32 h=>
 ae (some (y32,h)) fun y33 h=>
 ae (aq (aM y33==some true) (pu (aB y1 35) h) h) fun y34 h=>
 ae (aq (aM y33==some true) (aR y34 h) h) fun y35 h=>
 ae (aq (aM y33==some true) (pu (bin Tryz.prog .geq 25 y35 (.int .u64 1)) h) h) fun y36 h=>
 ae (match y33 with | .bool t=>some (if t then y36 else (.bool false),h)|_=>none) fun y37 h=>
 ae (some (y37,h)) fun y38 h=>
 ae (aq (aM y38==some true) (pu (aB y1 37) h) h) fun y39 h=>
 ae (aq (aM y38==some true) (aR y39 h) h) fun y40 h=>
 ae (aq (aM y38==some true) (pu (bin Tryz.prog .leq 3 (.int .i64 1) y40) h) h) fun y41 h=>
 ae (match y38 with | .bool t=>some (if t then y41 else (.bool false),h)|_=>none) fun y42 h=>
 ae (some (y42,h)) fun y43 h=>
 ae (aq (aM y43==some true) (pu (aB y1 37) h) h) fun y44 h=>
 ae (aq (aM y43==some true) (aR y44 h) h) fun y45 h=>
 ae (aq (aM y43==some true) (pu (aB y1 38) h) h) fun y46 h=>
 ae (aq (aM y43==some true) (aR y46 h) h) fun y47 h=>
 ae (aq (aM y43==some true) (pu (bin Tryz.prog .leq 3 y45 y47) h) h) fun y48 h=>
 ae (match y43 with | .bool t=>some (if t then y48 else (.bool false),h)|_=>none) fun y49 h=>
 ae (some (y49,h)) fun y50 h=>
 ae (aq (aM y50==some true) (pu (aB y1 38) h) h) fun y51 h=>
 ae (aq (aM y50==some true) (aR y51 h) h) fun y52 h=>
 ae (aq (aM y50==some true) (pu (bin Tryz.prog .leq 3 y52 (.int .i64 255)) h) h) fun y53 h=>
 ae (match y50 with | .bool t=>some (if t then y53 else (.bool false),h)|_=>none) fun y54 h=>
 ae (some (y54,h)) fun y2_1 h=>
 some (y2_1,h)
 | .bool false=>
 ae (some ((.bool false),h)) fun y2_1 h=>
 some (y2_1,h)
 |_=>none)
 |_=>none)
 |_=>none)
theorem t138_eq (C:av) (x0:Value) (h:ai):bc Tryz.prog C Tryz.f138 [x0] h=t138 C x0 h:=
 (aE Tryz.prog C Tryz.f138 [x0] h (by kernel_rfl)).trans (by kernel_rfl)
noncomputable def t145 (C:av) (x0 x1:Value) (h:ai):Out:=
 ae (some ((.bool false),h)) fun _y4 h=>
 ae (some (x0,h)) fun y5 h=>
 ae (some (x1,h)) fun y6 h=>
 ae (C 157 [y5,y6] h) fun y7 h=>
 ae (pu (bin Tryz.prog .geq 3 y7 (.int .i64 0)) h) fun y8 h=>
 ae (some (y8,h)) fun y4_1 h=>
 some (y4_1,h)
theorem t145_eq (C:av) (x0 x1:Value) (h:ai):bc Tryz.prog C Tryz.f145 [x0,x1] h=t145 C x0 x1 h:=
 (aE Tryz.prog C Tryz.f145 [x0,x1] h (by kernel_rfl)).trans (by kernel_rfl)
noncomputable def t146 (C:av) (x0:Value) (h:ai):Out:=
 ae (box x0 h) fun y1 h=>
 ae (some ((.bool false),h)) fun _y2 h=>
 ae (cq 2 y1 h) fun y3 h=>
 ae (C 147 [y3] h) fun y4 h=>
 ae (pu (unA .not y4) h) fun y5 h=>
 ae (some (y5,h)) fun y2_1 h=>
 some (y2_1,h)
theorem t146_eq (C:av) (x0:Value) (h:ai):bc Tryz.prog C Tryz.f146 [x0] h=t146 C x0 h:=
 (aE Tryz.prog C Tryz.f146 [x0] h (by kernel_rfl)).trans (by kernel_rfl)
noncomputable def t147 (_C:av) (x0:Value) (h:ai):Out:=
 ae (box x0 h) fun y1 h=>
 ae (some ((.bool false),h)) fun _y2 h=>
 ae (pu (aB y1 1) h) fun y3 h=>
 ae (aR y3 h) fun y4 h=>
 ae (pu (bin Tryz.prog .leq 56 y4 (.int .u8 4)) h) fun y5 h=>
 ae (some (y5,h)) fun y6 h=>
 ae (aq (aM y6==some true) (pu (aB y1 0) h) h) fun y7 h=>
 ae (aq (aM y6==some true) (aR y7 h) h) fun y8 h=>
 ae (aq (aM y6==some true) (pu (bin Tryz.prog .eql 25 y8 (.int .u64 0)) h) h) fun y9 h=>
 ae (aq (aM y6==some true) (pu (aB y1 1) h) h) fun y10 h=>
 ae (aq (aM y6==some true) (aR y10 h) h) fun y11 h=>
 ae (aq (aM y6==some true) (pu (bin Tryz.prog .eql 56 y11 (.int .u8 0)) h) h) fun y12 h=>
 ae (aq (aM y6==some true) (pu (bin Tryz.prog .eql 4 y9 y12) h) h) fun y13 h=>
 ae (match y6 with | .bool t=>some (if t then y13 else (.bool false),h)|_=>none) fun y14 h=>
 ae (some (y14,h)) fun y2_1 h=>
 some (y2_1,h)
theorem t147_eq (C:av) (x0:Value) (h:ai):bc Tryz.prog C Tryz.f147 [x0] h=t147 C x0 h:=
 (aE Tryz.prog C Tryz.f147 [x0] h (by kernel_rfl)).trans (by kernel_rfl)
noncomputable def t148 (_C:av) (x0 x1 x2:Value) (h:ai):Out:=
 ae (some ((.bool false),h)) fun _y6 h=>
 ae (some (x0,h)) fun y7 h=>
 ae (pu (bin Tryz.prog .leq 3 (.int .i64 1) y7) h) fun y8 h=>
 ae (some (y8,h)) fun y9 h=>
 ae (aq (aM y9==some true) (some (x0,h)) h) fun y10 h=>
 ae (aq (aM y9==some true) (some (x1,h)) h) fun y11 h=>
 ae (aq (aM y9==some true) (pu (bin Tryz.prog .leq 3 y10 y11) h) h) fun y12 h=>
 ae (match y9 with | .bool t=>some (if t then y12 else (.bool false),h)|_=>none) fun y13 h=>
 ae (some (y13,h)) fun y14 h=>
 ae (aq (aM y14==some true) (some (x1,h)) h) fun y15 h=>
 ae (aq (aM y14==some true) (some (x2,h)) h) fun y16 h=>
 ae (aq (aM y14==some true) (pu (bin Tryz.prog .leq 3 y15 y16) h) h) fun y17 h=>
 ae (match y14 with | .bool t=>some (if t then y17 else (.bool false),h)|_=>none) fun y18 h=>
 ae (some (y18,h)) fun y19 h=>
 ae (aq (aM y19==some true) (some (x2,h)) h) fun y20 h=>
 ae (aq (aM y19==some true) (pu (bin Tryz.prog .leq 3 y20 (.int .i64 255)) h) h) fun y21 h=>
 ae (match y19 with | .bool t=>some (if t then y21 else (.bool false),h)|_=>none) fun y22 h=>
 ae (some (y22,h)) fun y6_1 h=>
 some (y6_1,h)
theorem t148_eq (C:av) (x0 x1 x2:Value) (h:ai):bc Tryz.prog C Tryz.f148 [x0,x1,x2] h=t148 C x0 x1 x2 h:=
 (aE Tryz.prog C Tryz.f148 [x0,x1,x2] h (by kernel_rfl)).trans (by kernel_rfl)
noncomputable def k150_1 (C:av) (e:Env) (h:ai):Out:=cw Tryz.prog C (partOf Tryz.f150 [1,1]) e h (ax Tryz.prog Tryz.f150.results.toList) (ax Tryz.prog Tryz.f150.results.toList) (fun _ _ _=>none)
noncomputable def b150_3 (C:av) (i:Nat) (e:Env) (h:ai):Out:=if i=0 then (k150_1 C) e h else (fun _ _ _=>none) i e h
noncomputable def t150 (C:av) (x0 x1:Value) (h:ai):Out:=
 ae (some ((.int .i64 0),h)) fun y4 h=>
 ae (some (x0,h)) fun y6 h=>
 ae (pu (bC y6) h) fun y7 h=>
 ae (some ((.int .i64 0),h)) fun y8 h=>
 ep (iter (aI Tryz.prog C (partOf Tryz.f150 [1,0,1,0,0])) rounds (bu 19 (up (bs [x0,x1]) [(4,y4),(6,y6),(7,y7),(8,y8)])) h) (ax Tryz.prog Tryz.f150.results.toList) (b150_3 C)
noncomputable def t150k150_1 (_C:av) (_x:Nat→Value) (h:ai):Out:=
 ae (some ((.int .i64 (-1)),h)) fun y4 h=>
 some (y4,h)
noncomputable def t150l150_1010 (C:av) (x:Nat→Value) (h:ai):Option (Ex×Env×ai):=
 ae (pu (bin Tryz.prog .lss 3 (x 8) (x 7)) h) fun y9 h=>
 (match y9 with
 | .bool true=>
 ae (some ((x 8),h)) fun y10 h=>
 ae (some (y10,h)) fun y5 h=>
 ae (some ((x 1),h)) fun y11 h=>
 ae (some ((x 0),h)) fun y12 h=>
 ae (some (y5,h)) fun y13 h=>
 ae (pu (bW 39 y12 y13) h) fun y14 h=>
 ae (cq 39 y14 h) fun y15 h=>
 ae (callA Tryz.prog C y11 [y15] h) fun y16 h=>
 (match y16 with
 | .bool true=>
 ae (some (y5,h)) fun y17 h=>
 ae (some (y17,h)) fun y4 h=>
 some (.ret,(bu 19 (up x [(4,y4),(5,y5),(9,y9),(10,y10),(11,y11),(12,y12),(13,y13),(14,y14),(15,y15),(16,y16),(17,y17)])),h)
 | .bool false=>
 ae (pu (bin Tryz.prog .add 3 (x 8) (.int .i64 1)) h) fun y18 h=>
 ae (some (y18,h)) fun y8 h=>
 some (.normal,(bu 19 (up x [(5,y5),(8,y8),(9,y9),(10,y10),(11,y11),(12,y12),(13,y13),(14,y14),(15,y15),(16,y16),(18,y18)])),h)
 |_=>none)
 | .bool false=>
 some (.exit 0,(bu 19 (up x [(9,y9)])),h)
 |_=>none)
theorem t150_eq (C:av) (x0 x1:Value) (h:ai):bc Tryz.prog C Tryz.f150 [x0,x1] h=t150 C x0 x1 h:=
 (aE Tryz.prog C Tryz.f150 [x0,x1] h (by kernel_rfl)).trans (by kernel_rfl)
theorem t150k150_1_eq (C:av) (x:Nat→Value) (h:ai):k150_1 C (bu 19 x) h=t150k150_1 C x h:=
 bM (b:=(partOf Tryz.f150 [1,1])) (kE:=(ax Tryz.prog Tryz.f150.results.toList)) (rE:=(ax Tryz.prog Tryz.f150.results.toList)) (xE:=(fun _ _ _=>none)) (T:=t150k150_1 C) (fun x h=>by kernel_rfl) x h
theorem t150l150_1010_eq (C:av) (x:Nat→Value) (h:ai):aI Tryz.prog C (partOf Tryz.f150 [1,0,1,0,0]) (bu 19 x) h=t150l150_1010 C x h:=
 bt (T:=t150l150_1010 C) (fun x h=>by kernel_rfl) x h
noncomputable def t151 (_C:av) (x0:Value) (h:ai):Out:=
 ae (box x0 h) fun y1 h=>
 ae (some ((.bool false),h)) fun _y2 h=>
 ae (pu (aB y1 33) h) fun y3 h=>
 ae (aR y3 h) fun y4 h=>
 ae (pu (bin Tryz.prog .geq 3 y4 (.int .i64 0)) h) fun y5 h=>
 ae (some (y5,h)) fun y6 h=>
 ae (aq (aM y6==some true) (pu (aB y1 33) h) h) fun y7 h=>
 ae (aq (aM y6==some true) (aR y7 h) h) fun y8 h=>
 ae (aq (aM y6==some true) (pu (bin Tryz.prog .lss 3 y8 (.int .i64 16)) h) h) fun y9 h=>
 ae (match y6 with | .bool t=>some (if t then y9 else (.bool false),h)|_=>none) fun y10 h=>
 ae (some (y10,h)) fun y11 h=>
 ae (aq (aM y11==some true) (pu (aB y1 34) h) h) fun y12 h=>
 ae (aq (aM y11==some true) (aR y12 h) h) fun y13 h=>
 ae (aq (aM y11==some true) (pu (bin Tryz.prog .geq 25 y13 (.int .u64 1)) h) h) fun y14 h=>
 ae (match y11 with | .bool t=>some (if t then y14 else (.bool false),h)|_=>none) fun y15 h=>
 ae (some (y15,h)) fun y2_1 h=>
 some (y2_1,h)
theorem t151_eq (C:av) (x0:Value) (h:ai):bc Tryz.prog C Tryz.f151 [x0] h=t151 C x0 h:=
 (aE Tryz.prog C Tryz.f151 [x0] h (by kernel_rfl)).trans (by kernel_rfl)
noncomputable def k157_1 (C:av) (e:Env) (h:ai):Out:=cw Tryz.prog C (partOf Tryz.f157 [1,1]) e h (ax Tryz.prog Tryz.f157.results.toList) (ax Tryz.prog Tryz.f157.results.toList) (fun _ _ _=>none)
noncomputable def b157_3 (C:av) (i:Nat) (e:Env) (h:ai):Out:=if i=0 then (k157_1 C) e h else (fun _ _ _=>none) i e h
noncomputable def t157 (C:av) (x0 x1:Value) (h:ai):Out:=
 ae (some ((.int .i64 0),h)) fun y4 h=>
 ae (some (x0,h)) fun y6 h=>
 ae (pu (bC y6) h) fun y7 h=>
 ae (some ((.int .i64 0),h)) fun y8 h=>
 ep (iter (aI Tryz.prog C (partOf Tryz.f157 [1,0,1,0,0])) rounds (bu 19 (up (bs [x0,x1]) [(4,y4),(6,y6),(7,y7),(8,y8)])) h) (ax Tryz.prog Tryz.f157.results.toList) (b157_3 C)
noncomputable def t157k157_1 (_C:av) (_x:Nat→Value) (h:ai):Out:=
 ae (some ((.int .i64 (-1)),h)) fun y4 h=>
 some (y4,h)
noncomputable def t157l157_1010 (C:av) (x:Nat→Value) (h:ai):Option (Ex×Env×ai):=
 ae (pu (bin Tryz.prog .lss 3 (x 8) (x 7)) h) fun y9 h=>
 (match y9 with
 | .bool true=>
 ae (some ((x 8),h)) fun y10 h=>
 ae (some (y10,h)) fun y5 h=>
 ae (some ((x 1),h)) fun y11 h=>
 ae (some ((x 0),h)) fun y12 h=>
 ae (some (y5,h)) fun y13 h=>
 ae (pu (bW 2 y12 y13) h) fun y14 h=>
 ae (cq 2 y14 h) fun y15 h=>
 ae (callA Tryz.prog C y11 [y15] h) fun y16 h=>
 (match y16 with
 | .bool true=>
 ae (some (y5,h)) fun y17 h=>
 ae (some (y17,h)) fun y4 h=>
 some (.ret,(bu 19 (up x [(4,y4),(5,y5),(9,y9),(10,y10),(11,y11),(12,y12),(13,y13),(14,y14),(15,y15),(16,y16),(17,y17)])),h)
 | .bool false=>
 ae (pu (bin Tryz.prog .add 3 (x 8) (.int .i64 1)) h) fun y18 h=>
 ae (some (y18,h)) fun y8 h=>
 some (.normal,(bu 19 (up x [(5,y5),(8,y8),(9,y9),(10,y10),(11,y11),(12,y12),(13,y13),(14,y14),(15,y15),(16,y16),(18,y18)])),h)
 |_=>none)
 | .bool false=>
 some (.exit 0,(bu 19 (up x [(9,y9)])),h)
 |_=>none)
theorem t157_eq (C:av) (x0 x1:Value) (h:ai):bc Tryz.prog C Tryz.f157 [x0,x1] h=t157 C x0 x1 h:=
 (aE Tryz.prog C Tryz.f157 [x0,x1] h (by kernel_rfl)).trans (by kernel_rfl)
theorem t157k157_1_eq (C:av) (x:Nat→Value) (h:ai):k157_1 C (bu 19 x) h=t157k157_1 C x h:=
 bM (b:=(partOf Tryz.f157 [1,1])) (kE:=(ax Tryz.prog Tryz.f157.results.toList)) (rE:=(ax Tryz.prog Tryz.f157.results.toList)) (xE:=(fun _ _ _=>none)) (T:=t157k157_1 C) (fun x h=>by kernel_rfl) x h
theorem t157l157_1010_eq (C:av) (x:Nat→Value) (h:ai):aI Tryz.prog C (partOf Tryz.f157 [1,0,1,0,0]) (bu 19 x) h=t157l157_1010 C x h:=
 bt (T:=t157l157_1010 C) (fun x h=>by kernel_rfl) x h
end Go.Proofs.YtjghlcdidopcpaaGreatDoor

