/-
  A part of the proof, spaces and names shortened by a program (a claim may hold 1,500,000 bytes).
  Conditions: as each theorem states.
-/
import Derived.Test.YtjghlcdidopcpaaGreatDoorG5
import Derived.Test.YtjghlcdidopcpaaGreatDoorProg
import Derived.KernelRfl
namespace Go.Proofs.YtjghlcdidopcpaaGreatDoor
open Go Go.Abs
noncomputable def k34_2 (C:av) (e:Env) (h:ak):Out:=br Tryz.prog C (partOf Tryz.f34 [1,1,1]) e h (ax Tryz.prog Tryz.f34.results.toList) (ax Tryz.prog Tryz.f34.results.toList) (fun _ _ _=>none)
noncomputable def b34_4 (C:av) (i:Nat) (e:Env) (h:ak):Out:=if i=0 then (k34_2 C) e h else (fun _ _ _=>none) i e h
noncomputable def k34_6 (C:av) (e:Env) (h:ak):Out:=br Tryz.prog C (partOf Tryz.f34 [1,1,1,1,1]) e h (ax Tryz.prog Tryz.f34.results.toList) (ax Tryz.prog Tryz.f34.results.toList) (fun _ _ _=>none)
noncomputable def b34_8 (C:av) (i:Nat) (e:Env) (h:ak):Out:=if i=4 then (k34_6 C) e h else (fun _ _ _=>none) i e h
noncomputable def k34_11 (C:av) (e:Env) (h:ak):Option (Ex×Env×ak):=br Tryz.prog C (partOf Tryz.f34 [1,1,0,1,0,0,1,1,1]) e h (fun e h=>some (Ex.normal,e,h)) (fun e h=>some (Ex.ret,e,h)) (fun i e h=>some (Ex.exit i,e,h))
noncomputable def b34_12 (C:av) (i:Nat) (e:Env) (h:ak):Option (Ex×Env×ak):=if i=1 then (k34_11 C) e h else (fun i e h=>some (Ex.exit i,e,h)) i e h
noncomputable def k34_15 (C:av) (e:Env) (h:ak):Option (Ex×Env×ak):=br Tryz.prog C (partOf Tryz.f34 [1,1,0,1,0,0,1,1,0,0,1,1,1]) e h (k34_11 C) (fun e h=>some (Ex.ret,e,h)) (b34_12 C)
noncomputable def b34_17 (C:av) (i:Nat) (e:Env) (h:ak):Option (Ex×Env×ak):=if i=2 then (k34_15 C) e h else (b34_12 C) i e h
noncomputable def t34 (C:av) (x0:Value) (h:ak):Out:=
 ae (some ((.int .u32 0),h)) fun y2 h=>
 ae (fz (List.replicate 16 (.int .u32 0)) h) fun y3 h=>
 ae (some ((.int .i64 0),h)) fun y9 h=>
 ei (iter (aL Tryz.prog C (partOf Tryz.f34 [1,1,0,1,0,0])) rounds (aX 54 (up (bs [x0]) [(2,y2),(3,y3),(9,y9)])) h) (ax Tryz.prog Tryz.f34.results.toList) (b34_4 C)
noncomputable def t34k34_2 (C:av) (x:Nat→Value) (h:ak):Out:=
 ae (some ((.int .u32 4294967295),h)) fun y6 h=>
 ae (some ((x 0),h)) fun y27 h=>
 ae (pu (bE y27) h) fun y28 h=>
 ae (some ((.int .i64 0),h)) fun y29 h=>
 ei (iter (aL Tryz.prog C (partOf Tryz.f34 [1,1,1,1,0,1,0,0])) rounds (aX 54 (up x [(6,y6),(27,y27),(28,y28),(29,y29)])) h) (ax Tryz.prog Tryz.f34.results.toList) (b34_8 C)
noncomputable def t34l34_11010 (C:av) (x:Nat→Value) (h:ak):Option (Ex×Env×ak):=
 ae (pu (bin Tryz.prog .lss 3 (x 9) (.int .i64 16)) h) fun y10 h=>
 (match y10 with
 | .bool true=>
 ae (some ((x 9),h)) fun y11 h=>
 ae (some (y11,h)) fun y4 h=>
 ae (some (y4,h)) fun y12 h=>
 ae (dU .u32 y12 h) fun y13 h=>
 ae (some (y13,h)) fun y5 h=>
 ae (some ((.int .i64 0),h)) fun y14 h=>
 ei (iter (aL Tryz.prog C (partOf Tryz.f34 [1,1,0,1,0,0,1,1,0,0,1,1,0,1,0,0])) rounds (aX 54 (up x [(4,y4),(5,y5),(10,y10),(11,y11),(12,y12),(13,y13),(14,y14)])) h) (fun e h=>some (Ex.ret,e,h)) (b34_17 C)
 | .bool false=>
 some (.exit 0,(aX 54 (up x [(10,y10)])),h)
 |_=>none)
noncomputable def t34k34_6 (_C:av) (x:Nat→Value) (h:ak):Out:=
 ae (some ((x 6),h)) fun y52 h=>
 ae (pu (unA .xor y52) h) fun y53 h=>
 ae (some (y53,h)) fun y2 h=>
 some (y2,h)
noncomputable def eB (_C:av) (x:Nat→Value) (h:ak):Option (Ex×Env×ak):=
 ae (pu (bin Tryz.prog .lss 3 (x 29) (x 28)) h) fun y30 h=>
 (match y30 with
 | .bool true=>
 ae (pu (cD 1 (x 27) (x 29)) h) fun y31 h=>
 ae (aK y31 h) fun y32 h=>
 ae (some (y32,h)) fun y8 h=>
 ae (some ((x 6),h)) fun y33 h=>
 ae (some (y8,h)) fun y34 h=>
 ae (dU .u32 y34 h) fun y35 h=>
 ae (pu (bin Tryz.prog .xor 50 y33 y35) h) fun y36 h=>
 ae (some (y36,h)) fun y6 h=>
 ae (some (y6,h)) fun y37 h=>
 ae (pu (bin Tryz.prog .and 50 y37 (.int .u32 15)) h) fun y38 h=>
 ae (pu (idxA 16 1 (x 3) y38) h) fun y39 h=>
 ae (aK y39 h) fun y40 h=>
 ae (some (y6,h)) fun y41 h=>
 ae (pu (bin Tryz.prog .shr 50 y41 (.int .u64 4)) h) fun y42 h=>
 ae (pu (bin Tryz.prog .xor 50 y40 y42) h) fun y43 h=>
 ae (some (y43,h)) fun y6_1 h=>
 ae (some (y6_1,h)) fun y44 h=>
 ae (pu (bin Tryz.prog .and 50 y44 (.int .u32 15)) h) fun y45 h=>
 ae (pu (idxA 16 1 (x 3) y45) h) fun y46 h=>
 ae (aK y46 h) fun y47 h=>
 ae (some (y6_1,h)) fun y48 h=>
 ae (pu (bin Tryz.prog .shr 50 y48 (.int .u64 4)) h) fun y49 h=>
 ae (pu (bin Tryz.prog .xor 50 y47 y49) h) fun y50 h=>
 ae (some (y50,h)) fun y6_2 h=>
 ae (pu (bin Tryz.prog .add 3 (x 29) (.int .i64 1)) h) fun y51 h=>
 ae (some (y51,h)) fun y29 h=>
 some (.normal,(aX 54 (up x [(6,y6_2),(8,y8),(29,y29),(30,y30),(31,y31),(32,y32),(33,y33),(34,y34),(35,y35),(36,y36),(37,y37),(38,y38),(39,y39),(40,y40),(41,y41),(42,y42),(43,y43),(44,y44),(45,y45),(46,y46),(47,y47),(48,y48),(49,y49),(50,y50),(51,y51)])),h)
 | .bool false=>
 some (.exit 4,(aX 54 (up x [(30,y30)])),h)
 |_=>none)
noncomputable def t34k34_11 (_C:av) (x:Nat→Value) (h:ak):Option (Ex×Env×ak):=
 ae (pu (bin Tryz.prog .add 3 (x 9) (.int .i64 1)) h) fun y26 h=>
 ae (some (y26,h)) fun y9 h=>
 some (.normal,(aX 54 (up x [(9,y9),(26,y26)])),h)
noncomputable def t34k34_15 (C:av) (x:Nat→Value) (h:ak):Option (Ex×Env×ak):=
 ae (some ((x 4),h)) fun y23 h=>
 ae (some ((x 5),h)) fun y24 h=>
 ae (pu (idxA 16 1 (x 3) y23) h) fun y25 h=>
 ae (dH 1 y25 y24 h) fun _ h=>
 k34_11 C (aX 54 (up x [(23,y23),(24,y24),(25,y25)])) h
noncomputable def dM (_C:av) (x:Nat→Value) (h:ak):Option (Ex×Env×ak):=
 ae (pu (bin Tryz.prog .lss 3 (x 14) (.int .i64 4)) h) fun y15 h=>
 (match y15 with
 | .bool true=>
 ae (some ((x 5),h)) fun y16 h=>
 ae (pu (bin Tryz.prog .shr 50 y16 (.int .u64 1)) h) fun y17 h=>
 ae (some ((x 5),h)) fun y18 h=>
 ae (pu (bin Tryz.prog .and 50 y18 (.int .u32 1)) h) fun y19 h=>
 ae (pu (bin Tryz.prog .mul 50 (.int .u32 2197175160) y19) h) fun y20 h=>
 ae (pu (bin Tryz.prog .xor 50 y17 y20) h) fun y21 h=>
 ae (some (y21,h)) fun y5 h=>
 ae (pu (bin Tryz.prog .add 3 (x 14) (.int .i64 1)) h) fun y22 h=>
 ae (some (y22,h)) fun y14 h=>
 some (.normal,(aX 54 (up x [(5,y5),(14,y14),(15,y15),(16,y16),(17,y17),(18,y18),(19,y19),(20,y20),(21,y21),(22,y22)])),h)
 | .bool false=>
 some (.exit 2,(aX 54 (up x [(15,y15)])),h)
 |_=>none)
theorem t34_eq (C:av) (x0:Value) (h:ak):aY Tryz.prog C Tryz.f34 [x0] h=t34 C x0 h:=
 (aI Tryz.prog C Tryz.f34 [x0] h (by kernel_rfl)).trans (by kernel_rfl)
theorem t34k34_2_eq (C:av) (x:Nat→Value) (h:ak):k34_2 C (aX 54 x) h=t34k34_2 C x h:=
 bq (b:=(partOf Tryz.f34 [1,1,1])) (kE:=(ax Tryz.prog Tryz.f34.results.toList)) (rE:=(ax Tryz.prog Tryz.f34.results.toList)) (xE:=(fun _ _ _=>none)) (T:=t34k34_2 C) (fun x h=>by kernel_rfl) x h
theorem t34l34_11010_eq (C:av) (x:Nat→Value) (h:ak):aL Tryz.prog C (partOf Tryz.f34 [1,1,0,1,0,0]) (aX 54 x) h=t34l34_11010 C x h:=
 bn (T:=t34l34_11010 C) (fun x h=>by kernel_rfl) x h
theorem t34k34_6_eq (C:av) (x:Nat→Value) (h:ak):k34_6 C (aX 54 x) h=t34k34_6 C x h:=
 bq (b:=(partOf Tryz.f34 [1,1,1,1,1])) (kE:=(ax Tryz.prog Tryz.f34.results.toList)) (rE:=(ax Tryz.prog Tryz.f34.results.toList)) (xE:=(fun _ _ _=>none)) (T:=t34k34_6 C) (fun x h=>by kernel_rfl) x h
theorem t34l34_1111010_eq (C:av) (x:Nat→Value) (h:ak):aL Tryz.prog C (partOf Tryz.f34 [1,1,1,1,0,1,0,0]) (aX 54 x) h=eB C x h:=
 bn (T:=eB C) (fun x h=>by kernel_rfl) x h
theorem t34k34_11_eq (C:av) (x:Nat→Value) (h:ak):k34_11 C (aX 54 x) h=t34k34_11 C x h:=
 bq (b:=(partOf Tryz.f34 [1,1,0,1,0,0,1,1,1])) (kE:=(fun e h=>some (Ex.normal,e,h))) (rE:=(fun e h=>some (Ex.ret,e,h))) (xE:=(fun i e h=>some (Ex.exit i,e,h))) (T:=t34k34_11 C) (fun x h=>by kernel_rfl) x h
theorem t34k34_15_eq (C:av) (x:Nat→Value) (h:ak):k34_15 C (aX 54 x) h=t34k34_15 C x h:=
 bq (b:=(partOf Tryz.f34 [1,1,0,1,0,0,1,1,0,0,1,1,1])) (kE:=(k34_11 C)) (rE:=(fun e h=>some (Ex.ret,e,h))) (xE:=(b34_12 C)) (T:=t34k34_15 C) (fun x h=>by kernel_rfl) x h
theorem t34l34_110100110011010_eq (C:av) (x:Nat→Value) (h:ak):aL Tryz.prog C (partOf Tryz.f34 [1,1,0,1,0,0,1,1,0,0,1,1,0,1,0,0]) (aX 54 x) h=dM C x h:=
 bn (T:=dM C) (fun x h=>by kernel_rfl) x h
noncomputable def k39_2 (C:av) (e:Env) (h:ak):Out:=br Tryz.prog C (partOf Tryz.f39 [1,1,1]) e h (ax Tryz.prog Tryz.f39.results.toList) (ax Tryz.prog Tryz.f39.results.toList) (fun _ _ _=>none)
noncomputable def b39_4 (C:av) (i:Nat) (e:Env) (h:ak):Out:=if i=0 then (k39_2 C) e h else (fun _ _ _=>none) i e h
noncomputable def k39_8 (C:av) (e:Env) (h:ak):Option (Ex×Env×ak):=br Tryz.prog C (partOf Tryz.f39 [1,1,0,1,0,0,1,1]) e h (fun e h=>some (Ex.normal,e,h)) (fun e h=>some (Ex.ret,e,h)) (fun i e h=>some (Ex.exit i,e,h))
noncomputable def b39_9 (C:av) (i:Nat) (e:Env) (h:ak):Option (Ex×Env×ak):=if i=1 then (k39_8 C) e h else (fun i e h=>some (Ex.exit i,e,h)) i e h
noncomputable def b39_12 (C:av) (i:Nat) (e:Env) (h:ak):Option (Ex×Env×ak):=if i=2 then (k39_8 C) e h else (b39_9 C) i e h
noncomputable def t39 (C:av) (x0:Value) (h:ak):Out:=
 ae (some ((.int .u32 0),h)) fun y2 h=>
 ae (some ((.int .u32 4294967295),h)) fun y3 h=>
 ae (some ((.int .i64 0),h)) fun y4 h=>
 ei (iter (aL Tryz.prog C (partOf Tryz.f39 [1,1,0,1,0,0])) rounds (aX 33 (up (bs [x0]) [(2,y2),(3,y3),(4,y4)])) h) (ax Tryz.prog Tryz.f39.results.toList) (b39_4 C)
noncomputable def t39k39_2 (_C:av) (x:Nat→Value) (h:ak):Out:=
 ae (some ((x 3),h)) fun y31 h=>
 ae (pu (unA .xor y31) h) fun y32 h=>
 ae (some (y32,h)) fun y2 h=>
 some (y2,h)
noncomputable def t39l39_11010 (C:av) (x:Nat→Value) (h:ak):Option (Ex×Env×ak):=
 ae (some ((x 4),h)) fun y6 h=>
 ae (some ((x 0),h)) fun y7 h=>
 ae (pu (bE y7) h) fun y8 h=>
 ae (pu (bin Tryz.prog .lss 3 y6 y8) h) fun y9 h=>
 (match y9 with
 | .bool true=>
 ae (some ((x 3),h)) fun y12 h=>
 ae (some ((x 0),h)) fun y13 h=>
 ae (some ((x 4),h)) fun y14 h=>
 ae (pu (cD 1 y13 y14) h) fun y15 h=>
 ae (aK y15 h) fun y16 h=>
 ae (dU .u32 y16 h) fun y17 h=>
 ae (pu (bin Tryz.prog .xor 50 y12 y17) h) fun y18 h=>
 ae (some (y18,h)) fun y3 h=>
 ae (some ((.int .i64 0),h)) fun y5 h=>
 ei (iter (aL Tryz.prog C (partOf Tryz.f39 [1,1,0,1,0,0,1,0,0,1,1,0,0])) rounds (aX 33 (up x [(3,y3),(5,y5),(6,y6),(7,y7),(8,y8),(9,y9),(12,y12),(13,y13),(14,y14),(15,y15),(16,y16),(17,y17),(18,y18)])) h) (fun e h=>some (Ex.ret,e,h)) (b39_12 C)
 | .bool false=>
 some (.exit 0,(aX 33 (up x [(6,y6),(7,y7),(8,y8),(9,y9)])),h)
 |_=>none)
noncomputable def t39k39_8 (_C:av) (x:Nat→Value) (h:ak):Option (Ex×Env×ak):=
 ae (some ((x 4),h)) fun y10 h=>
 ae (pu (bin Tryz.prog .add 3 y10 (.int .i64 1)) h) fun y11 h=>
 ae (some (y11,h)) fun y4 h=>
 some (.normal,(aX 33 (up x [(4,y4),(10,y10),(11,y11)])),h)
noncomputable def eU (_C:av) (x:Nat→Value) (h:ak):Option (Ex×Env×ak):=
 ae (some ((x 5),h)) fun y19 h=>
 ae (pu (bin Tryz.prog .lss 3 y19 (.int .i64 8)) h) fun y20 h=>
 (match y20 with
 | .bool true=>
 ae (some ((x 3),h)) fun y23 h=>
 ae (pu (bin Tryz.prog .and 50 y23 (.int .u32 1)) h) fun y24 h=>
 ae (pu (bin Tryz.prog .eql 50 y24 (.int .u32 1)) h) fun y25 h=>
 (match y25 with
 | .bool true=>
 ae (some ((x 3),h)) fun y26 h=>
 ae (pu (bin Tryz.prog .shr 50 y26 (.int .u64 1)) h) fun y27 h=>
 ae (pu (bin Tryz.prog .xor 50 y27 (.int .u32 2197175160)) h) fun y28 h=>
 ae (some (y28,h)) fun y3 h=>
 ae (some ((x 5),h)) fun y21 h=>
 ae (pu (bin Tryz.prog .add 3 y21 (.int .i64 1)) h) fun y22 h=>
 ae (some (y22,h)) fun y5 h=>
 some (.normal,(aX 33 (up x [(3,y3),(5,y5),(19,y19),(20,y20),(21,y21),(22,y22),(23,y23),(24,y24),(25,y25),(26,y26),(27,y27),(28,y28)])),h)
 | .bool false=>
 ae (some ((x 3),h)) fun y29 h=>
 ae (pu (bin Tryz.prog .shr 50 y29 (.int .u64 1)) h) fun y30 h=>
 ae (some (y30,h)) fun y3 h=>
 ae (some ((x 5),h)) fun y21 h=>
 ae (pu (bin Tryz.prog .add 3 y21 (.int .i64 1)) h) fun y22 h=>
 ae (some (y22,h)) fun y5 h=>
 some (.normal,(aX 33 (up x [(3,y3),(5,y5),(19,y19),(20,y20),(21,y21),(22,y22),(23,y23),(24,y24),(25,y25),(29,y29),(30,y30)])),h)
 |_=>none)
 | .bool false=>
 some (.exit 2,(aX 33 (up x [(19,y19),(20,y20)])),h)
 |_=>none)
theorem t39_eq (C:av) (x0:Value) (h:ak):aY Tryz.prog C Tryz.f39 [x0] h=t39 C x0 h:=
 (aI Tryz.prog C Tryz.f39 [x0] h (by kernel_rfl)).trans (by kernel_rfl)
theorem t39k39_2_eq (C:av) (x:Nat→Value) (h:ak):k39_2 C (aX 33 x) h=t39k39_2 C x h:=
 bq (b:=(partOf Tryz.f39 [1,1,1])) (kE:=(ax Tryz.prog Tryz.f39.results.toList)) (rE:=(ax Tryz.prog Tryz.f39.results.toList)) (xE:=(fun _ _ _=>none)) (T:=t39k39_2 C) (fun x h=>by kernel_rfl) x h
theorem t39l39_11010_eq (C:av) (x:Nat→Value) (h:ak):aL Tryz.prog C (partOf Tryz.f39 [1,1,0,1,0,0]) (aX 33 x) h=t39l39_11010 C x h:=
 bn (T:=t39l39_11010 C) (fun x h=>by kernel_rfl) x h
theorem t39k39_8_eq (C:av) (x:Nat→Value) (h:ak):k39_8 C (aX 33 x) h=t39k39_8 C x h:=
 bq (b:=(partOf Tryz.f39 [1,1,0,1,0,0,1,1])) (kE:=(fun e h=>some (Ex.normal,e,h))) (rE:=(fun e h=>some (Ex.ret,e,h))) (xE:=(fun i e h=>some (Ex.exit i,e,h))) (T:=t39k39_8 C) (fun x h=>by kernel_rfl) x h
theorem t39l39_110100100110_eq (C:av) (x:Nat→Value) (h:ak):aL Tryz.prog C (partOf Tryz.f39 [1,1,0,1,0,0,1,0,0,1,1,0,0]) (aX 33 x) h=eU C x h:=
 bn (T:=eU C) (fun x h=>by kernel_rfl) x h
noncomputable def t47 (_C:av) (x0:Value) (h:ak):Out:=
 ae (some ((.pointer none),h)) fun _y2 h=>
 ae (some (x0,h)) fun y3 h=>
 ae (pu (fI true (.int .i64 0) [y3]) h) fun y4 h=>
 ae (pu (fq [(.int .i64 0),(.bool false),(.slice none 0 0)] [(0,1,y4)]) h) fun y5 h=>
 ae (box y5 h) fun y6 h=>
 ae (some (y6,h)) fun y2_1 h=>
 some (y2_1,h)
theorem t47_eq (C:av) (x0:Value) (h:ak):aY Tryz.prog C Tryz.f47 [x0] h=t47 C x0 h:=
 (aI Tryz.prog C Tryz.f47 [x0] h (by kernel_rfl)).trans (by kernel_rfl)
noncomputable def t48 (C:av) (x0:Value) (h:ak):Out:=
 ae (some ((.slice none 0 0),h)) fun _y2 h=>
 ae (some ((.int .i64 0),h)) fun _y3 h=>
 ae (some (x0,h)) fun y5 h=>
 ae (pu (bin Tryz.prog .eql 90 y5 (.pointer none)) h) fun y6 h=>
 ae (some (y6,h)) fun y4 h=>
 (match y4 with
 | .bool true=>
 ae (some ((.slice none 0 0),h)) fun y2_1 h=>
 ae (some ((.int .i64 1),h)) fun y3_1 h=>
 some (.tuple #[y2_1,y3_1],h)
 | .bool false=>
 ae (some (x0,h)) fun y8 h=>
 ae (pu (bZ y8) h) fun y9 h=>
 ae (pu (az y9 1) h) fun y10 h=>
 ae (aK y10 h) fun y11 h=>
 ae (some (y11,h)) fun y7 h=>
 (match y7 with
 | .bool true=>
 ae (some ((.slice none 0 0),h)) fun y2_1 h=>
 ae (some ((.int .i64 3),h)) fun y3_1 h=>
 some (.tuple #[y2_1,y3_1],h)
 | .bool false=>
 ae (some (x0,h)) fun y12 h=>
 ae (pu (bZ y12) h) fun y13 h=>
 ae (pu (az y13 2) h) fun y14 h=>
 ae (aK y14 h) fun y15 h=>
 ae (C 69 [y15] h) fun y16 h=>
 ae (some (y16,h)) fun y2_1 h=>
 ae (some ((.int .i64 0),h)) fun y3_1 h=>
 some (.tuple #[y2_1,y3_1],h)
 |_=>none)
 |_=>none)
theorem t48_eq (C:av) (x0:Value) (h:ak):aY Tryz.prog C Tryz.f48 [x0] h=t48 C x0 h:=
 (aI Tryz.prog C Tryz.f48 [x0] h (by kernel_rfl)).trans (by kernel_rfl)
noncomputable def t49 (C:av) (x0 x1:Value) (h:ak):Out:=
 ae (some (x0,h)) fun y4 h=>
 ae (some (x1,h)) fun y5 h=>
 ae (dU .u64 y5 h) fun y6 h=>
 ae (C 84 [y4,y6,(.int .i64 2)] h) fun _y7 h=>
 some (.tuple #[],h)
theorem t49_eq (C:av) (x0 x1:Value) (h:ak):aY Tryz.prog C Tryz.f49 [x0,x1] h=t49 C x0 x1 h:=
 (aI Tryz.prog C Tryz.f49 [x0,x1] h (by kernel_rfl)).trans (by kernel_rfl)
noncomputable def t50 (C:av) (x0 x1:Value) (h:ak):Out:=
 ae (some (x0,h)) fun y4 h=>
 ae (some (x1,h)) fun y5 h=>
 ae (dU .u64 y5 h) fun y6 h=>
 ae (C 84 [y4,y6,(.int .i64 1)] h) fun _y7 h=>
 some (.tuple #[],h)
theorem t50_eq (C:av) (x0 x1:Value) (h:ak):aY Tryz.prog C Tryz.f50 [x0,x1] h=t50 C x0 x1 h:=
 (aI Tryz.prog C Tryz.f50 [x0,x1] h (by kernel_rfl)).trans (by kernel_rfl)
noncomputable def t51 (C:av) (x0 x1:Value) (h:ak):Out:=
 ae (some (x0,h)) fun y4 h=>
 ae (some (x1,h)) fun y5 h=>
 ae (dU .u64 y5 h) fun y6 h=>
 ae (C 84 [y4,y6,(.int .i64 4)] h) fun _y7 h=>
 some (.tuple #[],h)
theorem t51_eq (C:av) (x0 x1:Value) (h:ak):aY Tryz.prog C Tryz.f51 [x0,x1] h=t51 C x0 x1 h:=
 (aI Tryz.prog C Tryz.f51 [x0,x1] h (by kernel_rfl)).trans (by kernel_rfl)
noncomputable def t52 (C:av) (x0 x1:Value) (h:ak):Out:=
 ae (some (x0,h)) fun y4 h=>
 ae (some (x1,h)) fun y5 h=>
 ae (pu (bE y5) h) fun y6 h=>
 ae (C 85 [y4,y6] h) fun y7 h=>
 (match y7 with
 | .bool true=>
 ae (some (x0,h)) fun y8 h=>
 ae (some (x0,h)) fun y9 h=>
 ae (pu (bZ y9) h) fun y10 h=>
 ae (pu (az y10 2) h) fun y11 h=>
 ae (aK y11 h) fun y12 h=>
 ae (some (x1,h)) fun y13 h=>
 ae (aO 1 1 y12 y13 h) fun y14 h=>
 ae (pu (bZ y8) h) fun y15 h=>
 ae (pu (az y15 2) h) fun y16 h=>
 ae (dH 1 y16 y14 h) fun _ h=>
 some (.tuple #[],h)
 | .bool false=>
 some (.tuple #[],h)
 |_=>none)
theorem t52_eq (C:av) (x0 x1:Value) (h:ak):aY Tryz.prog C Tryz.f52 [x0,x1] h=t52 C x0 x1 h:=
 (aI Tryz.prog C Tryz.f52 [x0,x1] h (by kernel_rfl)).trans (by kernel_rfl)
noncomputable def k58_2 (C:av) (e:Env) (h:ak):Out:=br Tryz.prog C (partOf Tryz.f58 [1,1,1]) e h (ax Tryz.prog Tryz.f58.results.toList) (ax Tryz.prog Tryz.f58.results.toList) (fun _ _ _=>none)
noncomputable def b58_4 (C:av) (i:Nat) (e:Env) (h:ak):Out:=if i=0 then (k58_2 C) e h else (fun _ _ _=>none) i e h
noncomputable def t58 (C:av) (x0 x1:Value) (h:ak):Out:=
 ae (some ((.slice none 0 0),h)) fun y4 h=>
 ae (dD 1 (.int .u8 0) 0 [] h) fun y7 h=>
 ae (some (y7,h)) fun y5 h=>
 ae (some (x1,h)) fun y8 h=>
 ae (pu (bin Tryz.prog .sub 3 y8 (.int .i64 1)) h) fun y9 h=>
 ae (some (y9,h)) fun y6 h=>
 ei (iter (aL Tryz.prog C (partOf Tryz.f58 [1,1,0,1,0,0])) rounds (aX 24 (up (bs [x0,x1]) [(4,y4),(5,y5),(6,y6),(7,y7),(8,y8),(9,y9)])) h) (ax Tryz.prog Tryz.f58.results.toList) (b58_4 C)
noncomputable def t58k58_2 (_C:av) (x:Nat→Value) (h:ak):Out:=
 ae (some ((x 5),h)) fun y23 h=>
 ae (some (y23,h)) fun y4 h=>
 some (y4,h)
noncomputable def t58l58_11010 (_C:av) (x:Nat→Value) (h:ak):Option (Ex×Env×ak):=
 ae (some ((x 6),h)) fun y10 h=>
 ae (pu (bin Tryz.prog .geq 3 y10 (.int .i64 0)) h) fun y11 h=>
 (match y11 with
 | .bool true=>
 ae (some ((x 5),h)) fun y14 h=>
 ae (some ((x 0),h)) fun y15 h=>
 ae (some ((x 6),h)) fun y16 h=>
 ae (dU .u64 y16 h) fun y17 h=>
 ae (pu (bin Tryz.prog .mul 51 (.int .u64 8) y17) h) fun y18 h=>
 ae (pu (bin Tryz.prog .shr 25 y15 y18) h) fun y19 h=>
 ae (dU .u8 y19 h) fun y20 h=>
 ae (dD 1 (.int .u8 0) 1 [(0,y20)] h) fun y21 h=>
 ae (aO 1 1 y14 y21 h) fun y22 h=>
 ae (some (y22,h)) fun y5 h=>
 ae (some ((x 6),h)) fun y12 h=>
 ae (pu (bin Tryz.prog .sub 3 y12 (.int .i64 1)) h) fun y13 h=>
 ae (some (y13,h)) fun y6 h=>
 some (.normal,(aX 24 (up x [(5,y5),(6,y6),(10,y10),(11,y11),(12,y12),(13,y13),(14,y14),(15,y15),(16,y16),(17,y17),(18,y18),(19,y19),(20,y20),(21,y21),(22,y22)])),h)
 | .bool false=>
 some (.exit 0,(aX 24 (up x [(10,y10),(11,y11)])),h)
 |_=>none)
theorem t58_eq (C:av) (x0 x1:Value) (h:ak):aY Tryz.prog C Tryz.f58 [x0,x1] h=t58 C x0 x1 h:=
 (aI Tryz.prog C Tryz.f58 [x0,x1] h (by kernel_rfl)).trans (by kernel_rfl)
theorem t58k58_2_eq (C:av) (x:Nat→Value) (h:ak):k58_2 C (aX 24 x) h=t58k58_2 C x h:=
 bq (b:=(partOf Tryz.f58 [1,1,1])) (kE:=(ax Tryz.prog Tryz.f58.results.toList)) (rE:=(ax Tryz.prog Tryz.f58.results.toList)) (xE:=(fun _ _ _=>none)) (T:=t58k58_2 C) (fun x h=>by kernel_rfl) x h
theorem t58l58_11010_eq (C:av) (x:Nat→Value) (h:ak):aL Tryz.prog C (partOf Tryz.f58 [1,1,0,1,0,0]) (aX 24 x) h=t58l58_11010 C x h:=
 bn (T:=t58l58_11010 C) (fun x h=>by kernel_rfl) x h
noncomputable def b84_2 (_C:av) (i:Nat) (e:Env) (h:ak):Out:=if i=0 then (ax Tryz.prog Tryz.f84.results.toList) e h else (fun _ _ _=>none) i e h
noncomputable def t84 (C:av) (x0 x1 x2:Value) (h:ak):Out:=
 ae (some (x0,h)) fun y7 h=>
 ae (some (x2,h)) fun y8 h=>
 ae (C 85 [y7,y8] h) fun y9 h=>
 (match y9 with
 | .bool true=>
 ae (some (x2,h)) fun y10 h=>
 ae (pu (bin Tryz.prog .sub 3 y10 (.int .i64 1)) h) fun y11 h=>
 ae (some (y11,h)) fun y6 h=>
 ei (iter (aL Tryz.prog C (partOf Tryz.f84 [1,0,1,0,0])) rounds (aX 30 (up (bs [x0,x1,x2]) [(6,y6),(7,y7),(8,y8),(9,y9),(10,y10),(11,y11)])) h) (ax Tryz.prog Tryz.f84.results.toList) (b84_2 C)
 | .bool false=>
 some (.tuple #[],h)
 |_=>none)
noncomputable def t84l84_1010 (_C:av) (x:Nat→Value) (h:ak):Option (Ex×Env×ak):=
 ae (some ((x 6),h)) fun y12 h=>
 ae (pu (bin Tryz.prog .geq 3 y12 (.int .i64 0)) h) fun y13 h=>
 (match y13 with
 | .bool true=>
 ae (some ((x 0),h)) fun y16 h=>
 ae (some ((x 0),h)) fun y17 h=>
 ae (pu (bZ y17) h) fun y18 h=>
 ae (pu (az y18 2) h) fun y19 h=>
 ae (aK y19 h) fun y20 h=>
 ae (some ((x 1),h)) fun y21 h=>
 ae (some ((x 6),h)) fun y22 h=>
 ae (pu (bin Tryz.prog .mul 3 (.int .i64 8) y22) h) fun y23 h=>
 ae (pu (bin Tryz.prog .shr 25 y21 y23) h) fun y24 h=>
 ae (dU .u8 y24 h) fun y25 h=>
 ae (dD 1 (.int .u8 0) 1 [(0,y25)] h) fun y26 h=>
 ae (aO 1 1 y20 y26 h) fun y27 h=>
 ae (pu (bZ y16) h) fun y28 h=>
 ae (pu (az y28 2) h) fun y29 h=>
 ae (dH 1 y29 y27 h) fun _ h=>
 ae (some ((x 6),h)) fun y14 h=>
 ae (pu (bin Tryz.prog .sub 3 y14 (.int .i64 1)) h) fun y15 h=>
 ae (some (y15,h)) fun y6 h=>
 some (.normal,(aX 30 (up x [(6,y6),(12,y12),(13,y13),(14,y14),(15,y15),(16,y16),(17,y17),(18,y18),(19,y19),(20,y20),(21,y21),(22,y22),(23,y23),(24,y24),(25,y25),(26,y26),(27,y27),(28,y28),(29,y29)])),h)
 | .bool false=>
 some (.exit 0,(aX 30 (up x [(12,y12),(13,y13)])),h)
 |_=>none)
theorem t84_eq (C:av) (x0 x1 x2:Value) (h:ak):aY Tryz.prog C Tryz.f84 [x0,x1,x2] h=t84 C x0 x1 x2 h:=
 (aI Tryz.prog C Tryz.f84 [x0,x1,x2] h (by kernel_rfl)).trans (by kernel_rfl)
theorem t84l84_1010_eq (C:av) (x:Nat→Value) (h:ak):aL Tryz.prog C (partOf Tryz.f84 [1,0,1,0,0]) (aX 30 x) h=t84l84_1010 C x h:=
 bn (T:=t84l84_1010 C) (fun x h=>by kernel_rfl) x h
noncomputable def t85 (_C:av) (x0 x1:Value) (h:ak):Out:=
 ae (some ((.bool false),h)) fun _y4 h=>
 ae (some (x0,h)) fun y5 h=>
 ae (pu (bin Tryz.prog .eql 90 y5 (.pointer none)) h) fun y6 h=>
 ae (some (y6,h)) fun y7 h=>
 ae (al (aH y7==some false) (some (x0,h)) h) fun y8 h=>
 ae (al (aH y7==some false) (pu (bZ y8) h) h) fun y9 h=>
 ae (al (aH y7==some false) (pu (az y9 1) h) h) fun y10 h=>
 ae (al (aH y7==some false) (aK y10 h) h) fun y11 h=>
 ae (match y7 with | .bool t=>some (if t then (.bool true) else y11,h)|_=>none) fun y12 h=>
 (match y12 with
 | .bool true=>
 ae (some ((.bool false),h)) fun y4_1 h=>
 some (y4_1,h)
 | .bool false=>
 ae (some (x0,h)) fun y13 h=>
 ae (some (x1,h)) fun y14 h=>
 ae (some (x0,h)) fun y15 h=>
 ae (pu (bZ y15) h) fun y16 h=>
 ae (pu (az y16 0) h) fun y17 h=>
 ae (aK y17 h) fun y18 h=>
 ae (some (x0,h)) fun y19 h=>
 ae (pu (bZ y19) h) fun y20 h=>
 ae (pu (az y20 2) h) fun y21 h=>
 ae (aK y21 h) fun y22 h=>
 ae (pu (bE y22) h) fun y23 h=>
 ae (pu (bin Tryz.prog .sub 3 y18 y23) h) fun y24 h=>
 ae (pu (bin Tryz.prog .gtr 3 y14 y24) h) fun y25 h=>
 ae (pu (bZ y13) h) fun y26 h=>
 ae (pu (az y26 1) h) fun y27 h=>
 ae (dH 1 y27 y25 h) fun _ h=>
 ae (some (x0,h)) fun y28 h=>
 ae (pu (bZ y28) h) fun y29 h=>
 ae (pu (az y29 1) h) fun y30 h=>
 ae (aK y30 h) fun y31 h=>
 ae (pu (unA .not y31) h) fun y32 h=>
 ae (some (y32,h)) fun y4_1 h=>
 some (y4_1,h)
 |_=>none)
theorem t85_eq (C:av) (x0 x1:Value) (h:ak):aY Tryz.prog C Tryz.f85 [x0,x1] h=t85 C x0 x1 h:=
 (aI Tryz.prog C Tryz.f85 [x0,x1] h (by kernel_rfl)).trans (by kernel_rfl)
noncomputable def t126 (C:av) (x0 x1:Value) (h:ak):Out:=
 ae (some (x0,h)) fun y4 h=>
 ae (some (x1,h)) fun y5 h=>
 ae (C 84 [y4,y5,(.int .i64 8)] h) fun _y6 h=>
 some (.tuple #[],h)
theorem t126_eq (C:av) (x0 x1:Value) (h:ak):aY Tryz.prog C Tryz.f126 [x0,x1] h=t126 C x0 x1 h:=
 (aI Tryz.prog C Tryz.f126 [x0,x1] h (by kernel_rfl)).trans (by kernel_rfl)
noncomputable def t133 (C:av) (x0 x1:Value) (h:ak):Out:=
 ae (some (x0,h)) fun y4 h=>
 ae (pu (bin Tryz.prog .eql 90 y4 (.pointer none)) h) fun y5 h=>
 (match y5 with
 | .bool true=>
 some (.tuple #[],h)
 | .bool false=>
 ae (some (x1,h)) fun y6 h=>
 ae (pu (bE y6) h) fun y7 h=>
 ae (pu (bin Tryz.prog .gtr 3 y7 (.int .i64 65535)) h) fun y8 h=>
 (match y8 with
 | .bool true=>
 ae (some (x0,h)) fun y9 h=>
 ae (pu (bZ y9) h) fun y10 h=>
 ae (pu (az y10 1) h) fun y11 h=>
 ae (dH 1 y11 (.bool true) h) fun _ h=>
 some (.tuple #[],h)
 | .bool false=>
 ae (some (x0,h)) fun y12 h=>
 ae (some (x1,h)) fun y13 h=>
 ae (pu (bE y13) h) fun y14 h=>
 ae (pu (bin Tryz.prog .add 3 y14 (.int .i64 2)) h) fun y15 h=>
 ae (C 85 [y12,y15] h) fun y16 h=>
 (match y16 with
 | .bool true=>
 ae (some (x0,h)) fun y17 h=>
 ae (some (x0,h)) fun y18 h=>
 ae (pu (bZ y18) h) fun y19 h=>
 ae (pu (az y19 2) h) fun y20 h=>
 ae (aK y20 h) fun y21 h=>
 ae (some (x1,h)) fun y22 h=>
 ae (pu (bE y22) h) fun y23 h=>
 ae (pu (bin Tryz.prog .shr 3 y23 (.int .u64 8)) h) fun y24 h=>
 ae (dU .u8 y24 h) fun y25 h=>
 ae (some (x1,h)) fun y26 h=>
 ae (pu (bE y26) h) fun y27 h=>
 ae (dU .u8 y27 h) fun y28 h=>
 ae (dD 1 (.int .u8 0) 2 [(0,y25),(1,y28)] h) fun y29 h=>
 ae (aO 1 1 y21 y29 h) fun y30 h=>
 ae (pu (bZ y17) h) fun y31 h=>
 ae (pu (az y31 2) h) fun y32 h=>
 ae (dH 1 y32 y30 h) fun _ h=>
 ae (some (x0,h)) fun y33 h=>
 ae (some (x0,h)) fun y34 h=>
 ae (pu (bZ y34) h) fun y35 h=>
 ae (pu (az y35 2) h) fun y36 h=>
 ae (aK y36 h) fun y37 h=>
 ae (some (x1,h)) fun y38 h=>
 ae (aO 1 1 y37 y38 h) fun y39 h=>
 ae (pu (bZ y33) h) fun y40 h=>
 ae (pu (az y40 2) h) fun y41 h=>
 ae (dH 1 y41 y39 h) fun _ h=>
 some (.tuple #[],h)
 | .bool false=>
 some (.tuple #[],h)
 |_=>none)
 |_=>none)
 |_=>none)
theorem t133_eq (C:av) (x0 x1:Value) (h:ak):aY Tryz.prog C Tryz.f133 [x0,x1] h=t133 C x0 x1 h:=
 (aI Tryz.prog C Tryz.f133 [x0,x1] h (by kernel_rfl)).trans (by kernel_rfl)
end Go.Proofs.YtjghlcdidopcpaaGreatDoor

namespace Go.Proofs.YtjghlcdidopcpaaGreatDoor
open Go Go.Abs
noncomputable def t19 (C:av) (x0:Value) (h:ak):Out:=
 ae (box x0 h) fun y1 h=>
 ae (some ((.int .i64 0),h)) fun _y2 h=>
 ae (pu (az y1 0) h) fun y7 h=>
 ae (aK y7 h) fun y8 h=>
 ae (C 35 [y8] h) fun y9 h=>
 ae (some (y9,h)) fun y6 h=>
 ae (pu (aV y6 0) h) fun y10 h=>
 ae (pu (aV y6 1) h) fun y11 h=>
 ae (fz [(.string ⟨#[]⟩),.nilFunc,.nilFunc,.nilFunc,.nilFunc] h) fun y3 h=>
 ae (dH 5 y3 y10 h) fun _ h=>
 ae (some (y11,h)) fun y4 h=>
 ae (some (y4,h)) fun y12 h=>
 ae (pu (unA .not y12) h) fun y13 h=>
 ae (some (y13,h)) fun y14 h=>
 ae (al (aH y14==some false) (pu (az y1 1) h) h) fun y15 h=>
 ae (al (aH y14==some false) (aK y15 h) h) fun y16 h=>
 ae (al (aH y14==some false) (C 46 [y16] h) h) fun y17 h=>
 ae (al (aH y14==some false) (pu (unA .not y17) h) h) fun y18 h=>
 ae (match y14 with | .bool t=>some (if t then (.bool true) else y18,h)|_=>none) fun y19 h=>
 ae (some (y19,h)) fun y20 h=>
 ae (al (aH y20==some false) (pu (az y1 2) h) h) fun y21 h=>
 ae (al (aH y20==some false) (aK y21 h) h) fun y22 h=>
 ae (al (aH y20==some false) (C 46 [y22] h) h) fun y23 h=>
 ae (al (aH y20==some false) (pu (unA .not y23) h) h) fun y24 h=>
 ae (match y20 with | .bool t=>some (if t then (.bool true) else y24,h)|_=>none) fun y25 h=>
 ae (some (y25,h)) fun y26 h=>
 ae (al (aH y26==some false) (pu (az y1 1) h) h) fun y27 h=>
 ae (al (aH y26==some false) (aK y27 h) h) fun y28 h=>
 ae (al (aH y26==some false) (pu (az y1 2) h) h) fun y29 h=>
 ae (al (aH y26==some false) (aK y29 h) h) fun y30 h=>
 ae (al (aH y26==some false) (pu (bin Tryz.prog .eql 3 y28 y30) h) h) fun y31 h=>
 ae (match y26 with | .bool t=>some (if t then (.bool true) else y31,h)|_=>none) fun y32 h=>
 ae (some (y32,h)) fun y33 h=>
 ae (al (aH y33==some false) (pu (az y3 1) h) h) fun y34 h=>
 ae (al (aH y33==some false) (aK y34 h) h) fun y35 h=>
 ae (al (aH y33==some false) (bP 116 y1 h) h) fun y36 h=>
 ae (al (aH y33==some false) (callA Tryz.prog C y35 [y36] h) h) fun y37 h=>
 ae (al (aH y33==some false) (pu (unA .not y37) h) h) fun y38 h=>
 ae (match y33 with | .bool t=>some (if t then (.bool true) else y38,h)|_=>none) fun y39 h=>
 (match y39 with
 | .bool true=>
 ae (some ((.int .i64 2),h)) fun y2_1 h=>
 some (y2_1,h)
 | .bool false=>
 ae (pu (az y3 2) h) fun y40 h=>
 ae (aK y40 h) fun y41 h=>
 ae (bP 116 y1 h) fun y42 h=>
 ae (callA Tryz.prog C y41 [y42] h) fun y43 h=>
 ae (fz Zl h) fun y5 h=>
 ae (dH 116 y5 y43 h) fun _ h=>
 let g7_0:=h
 ae (pu (az y1 0) g7_0) fun y44 g7_1=>
 ae (aK y44 g7_1) fun y45 g7_2=>
 ae (pu (az y1 1) g7_2) fun y46 g7_3=>
 ae (aK y46 g7_3) fun y47 g7_4=>
 ae (pu (az y1 2) g7_4) fun y48 g7_5=>
 ae (aK y48 g7_5) fun y49 g7_6=>
 ae (pu (az y5 0) g7_6) fun y50 g7_7=>
 ae (dH 1 y50 y45 g7_7) fun _ g7_8=>
 ae (pu (az y5 1) g7_8) fun y51 g7_9=>
 ae (dH 1 y51 y47 g7_9) fun _ g7_10=>
 ae (pu (az y5 2) g7_10) fun y52 g7_11=>
 ae (dH 1 y52 y49 g7_11) fun _ g7_12=>
 (match (cF true (aK y46 g7_8) y47&&(cF true (aK y48 g7_8) y49&&(cF true (aK y48 g7_10) y49&&true))) with
 |true=>
 let h:=g7_12
 ae (bP 116 y1 h) fun y53 h=>
 ae (bP 116 y5 h) fun y54 h=>
 ae (C 22 [y53,y54] h) fun y55 h=>
 ae (pu (unA .not y55) h) fun y56 h=>
 (match y56 with
 | .bool true=>
 ae (some ((.int .i64 2),h)) fun y2_1 h=>
 some (y2_1,h)
 | .bool false=>
 ae (some ((.int .i64 0),h)) fun y2_1 h=>
 some (y2_1,h)
 |_=>none)
 |false=>none)
 |_=>none)
theorem t19_eq (C:av) (x0:Value) (h:ak):aY Tryz.prog C Tryz.f19 [x0] h=t19 C x0 h:=
 (aI Tryz.prog C Tryz.f19 [x0] h (by kernel_rfl)).trans (by kernel_rfl)
noncomputable def t35 (C:av) (x0:Value) (h:ak):Out:=
 ae (fz [(.string ⟨#[]⟩),.nilFunc,.nilFunc,.nilFunc,.nilFunc] h) fun y2 h=>
 ae (some ((.bool false),h)) fun _y3 h=>
 ae (C 77 [] h) fun y5 h=>
 ae (fz [(.string ⟨#[]⟩),.nilFunc,.nilFunc,.nilFunc,.nilFunc,(.string ⟨#[]⟩),.nilFunc,.nilFunc,.nilFunc,.nilFunc,(.string ⟨#[]⟩),.nilFunc,.nilFunc,.nilFunc,.nilFunc,(.string ⟨#[]⟩),.nilFunc,.nilFunc,.nilFunc,.nilFunc,(.string ⟨#[]⟩),.nilFunc,.nilFunc,.nilFunc,.nilFunc,(.string ⟨#[]⟩),.nilFunc,.nilFunc,.nilFunc,.nilFunc,(.string ⟨#[]⟩),.nilFunc,.nilFunc,.nilFunc,.nilFunc,(.string ⟨#[]⟩),.nilFunc,.nilFunc,.nilFunc,.nilFunc,(.string ⟨#[]⟩),.nilFunc,.nilFunc,.nilFunc,.nilFunc,(.string ⟨#[]⟩),.nilFunc,.nilFunc,.nilFunc,.nilFunc,(.string ⟨#[]⟩),.nilFunc,.nilFunc,.nilFunc,.nilFunc,(.string ⟨#[]⟩),.nilFunc,.nilFunc,.nilFunc,.nilFunc,(.string ⟨#[]⟩),.nilFunc,.nilFunc,.nilFunc,.nilFunc,(.string ⟨#[]⟩),.nilFunc,.nilFunc,.nilFunc,.nilFunc] h) fun y4 h=>
 ae (dH 70 y4 y5 h) fun _ h=>
 ae (some (x0,h)) fun y6 h=>
 ae (pu (bin Tryz.prog .lss 24 y6 (.int .u8 1)) h) fun y7 h=>
 ae (some (y7,h)) fun y8 h=>
 ae (al (aH y8==some false) (some (x0,h)) h) fun y9 h=>
 ae (al (aH y8==some false) (dU .i64 y9 h) h) fun y10 h=>
 ae (al (aH y8==some false) (pu (bin Tryz.prog .geq 3 y10 (.int .i64 14)) h) h) fun y11 h=>
 ae (match y8 with | .bool t=>some (if t then (.bool true) else y11,h)|_=>none) fun y12 h=>
 (match y12 with
 | .bool true=>
 ae (pu (fq [(.string ⟨#[]⟩),.nilFunc,.nilFunc,.nilFunc,.nilFunc] []) h) fun y13 h=>
 ae (dH 5 y2 y13 h) fun _ h=>
 ae (some ((.bool false),h)) fun y3_1 h=>
 ax Tryz.prog Tryz.f35.results.toList (aX 17 (up (bs [x0]) [(2,y2),(3,y3_1),(4,y4),(5,y5),(6,y6),(7,y7),(8,y8),(9,y9),(10,y10),(11,y11),(12,y12),(13,y13)])) h
 | .bool false=>
 ae (some (x0,h)) fun y14 h=>
 ae (pu (idxA 14 5 y4 y14) h) fun y15 h=>
 ae (bP 5 y15 h) fun y16 h=>
 ae (dH 5 y2 y16 h) fun _ h=>
 ae (some ((.bool true),h)) fun y3_1 h=>
 ax Tryz.prog Tryz.f35.results.toList (aX 17 (up (bs [x0]) [(2,y2),(3,y3_1),(4,y4),(5,y5),(6,y6),(7,y7),(8,y8),(9,y9),(10,y10),(11,y11),(12,y12),(14,y14),(15,y15),(16,y16)])) h
 |_=>none)
theorem t35_eq (C:av) (x0:Value) (h:ak):aY Tryz.prog C Tryz.f35 [x0] h=t35 C x0 h:=
 (aI Tryz.prog C Tryz.f35 [x0] h (by kernel_rfl)).trans (by kernel_rfl)
noncomputable def t46 (_C:av) (x0:Value) (h:ak):Out:=
 ae (some ((.bool false),h)) fun _y2 h=>
 ae (some (x0,h)) fun y3 h=>
 ae (pu (bin Tryz.prog .geq 3 y3 (.int .i64 0)) h) fun y4 h=>
 ae (some (y4,h)) fun y5 h=>
 ae (al (aH y5==some true) (some (x0,h)) h) fun y6 h=>
 ae (al (aH y5==some true) (pu (bin Tryz.prog .lss 3 y6 (.int .i64 16)) h) h) fun y7 h=>
 ae (match y5 with | .bool t=>some (if t then y7 else (.bool false),h)|_=>none) fun y8 h=>
 ae (some (y8,h)) fun y2_1 h=>
 some (y2_1,h)
theorem t46_eq (C:av) (x0:Value) (h:ak):aY Tryz.prog C Tryz.f46 [x0] h=t46 C x0 h:=
 (aI Tryz.prog C Tryz.f46 [x0] h (by kernel_rfl)).trans (by kernel_rfl)
noncomputable def t95 (C:av) (x0:Value) (h:ak):Out:=
 ae (box x0 h) fun y1 h=>
 ae (some ((.bool false),h)) fun _y2 h=>
 ae (pu (az y1 4) h) fun y3 h=>
 ae (aK y3 h) fun y4 h=>
 ae (C 46 [y4] h) fun y5 h=>
 ae (some (y5,h)) fun y6 h=>
 ae (al (aH y6==some true) (pu (az y1 5) h) h) fun y7 h=>
 ae (al (aH y6==some true) (aK y7 h) h) fun y8 h=>
 ae (al (aH y6==some true) (C 46 [y8] h) h) fun y9 h=>
 ae (match y6 with | .bool t=>some (if t then y9 else (.bool false),h)|_=>none) fun y10 h=>
 ae (some (y10,h)) fun y11 h=>
 ae (al (aH y11==some true) (pu (az y1 6) h) h) fun y12 h=>
 ae (al (aH y11==some true) (aK y12 h) h) fun y13 h=>
 ae (al (aH y11==some true) (C 125 [y13] h) h) fun y14 h=>
 ae (match y11 with | .bool t=>some (if t then y14 else (.bool false),h)|_=>none) fun y15 h=>
 ae (some (y15,h)) fun y2_1 h=>
 some (y2_1,h)
theorem t95_eq (C:av) (x0:Value) (h:ak):aY Tryz.prog C Tryz.f95 [x0] h=t95 C x0 h:=
 (aI Tryz.prog C Tryz.f95 [x0] h (by kernel_rfl)).trans (by kernel_rfl)
noncomputable def t96 (_C:av) (x0:Value) (h:ak):Out:=
 ae (box x0 h) fun y1 h=>
 ae (fz Zl h) fun y2 h=>
 ae (pu (az y1 3) h) fun y3 h=>
 ae (aK y3 h) fun y4 h=>
 ae (pu (az y1 4) h) fun y5 h=>
 ae (aK y5 h) fun y6 h=>
 ae (pu (az y1 6) h) fun y7 h=>
 ae (aK y7 h) fun y8 h=>
 ae (pu (fq Zl [(3,1,y4),(4,1,y6),(6,1,y8)]) h) fun y9 h=>
 ae (dH 116 y2 y9 h) fun _ h=>
 ax Tryz.prog Tryz.f96.results.toList (aX 10 (up (bs [x0]) [(1,y1),(2,y2),(3,y3),(4,y4),(5,y5),(6,y6),(7,y7),(8,y8),(9,y9)])) h
theorem t96_eq (C:av) (x0:Value) (h:ak):aY Tryz.prog C Tryz.f96 [x0] h=t96 C x0 h:=
 (aI Tryz.prog C Tryz.f96 [x0] h (by kernel_rfl)).trans (by kernel_rfl)
noncomputable def t99 (_C:av) (x0:Value) (h:ak):Out:=
 ae (box x0 h) fun y1 h=>
 ae (fz Zl h) fun y2 h=>
 ae (pu (az y1 3) h) fun y3 h=>
 ae (aK y3 h) fun y4 h=>
 ae (pu (az y1 5) h) fun y5 h=>
 ae (aK y5 h) fun y6 h=>
 ae (pu (az y1 6) h) fun y7 h=>
 ae (aK y7 h) fun y8 h=>
 ae (pu (fq Zl [(3,1,y4),(5,1,y6),(6,1,y8)]) h) fun y9 h=>
 ae (dH 116 y2 y9 h) fun _ h=>
 ax Tryz.prog Tryz.f99.results.toList (aX 10 (up (bs [x0]) [(1,y1),(2,y2),(3,y3),(4,y4),(5,y5),(6,y6),(7,y7),(8,y8),(9,y9)])) h
theorem t99_eq (C:av) (x0:Value) (h:ak):aY Tryz.prog C Tryz.f99 [x0] h=t99 C x0 h:=
 (aI Tryz.prog C Tryz.f99 [x0] h (by kernel_rfl)).trans (by kernel_rfl)
noncomputable def t102 (_C:av) (x0:Value) (h:ak):Out:=
 ae (box x0 h) fun _y1 h=>
 ae (some ((.bool false),h)) fun _y2 h=>
 ae (some ((.bool true),h)) fun y2_1 h=>
 some (y2_1,h)
theorem t102_eq (C:av) (x0:Value) (h:ak):aY Tryz.prog C Tryz.f102 [x0] h=t102 C x0 h:=
 (aI Tryz.prog C Tryz.f102 [x0] h (by kernel_rfl)).trans (by kernel_rfl)
noncomputable def t103 (_C:av) (x0:Value) (h:ak):Out:=
 ae (box x0 h) fun y1 h=>
 ae (fz Zl h) fun y2 h=>
 ae (pu (az y1 44) h) fun y3 h=>
 ae (bP 32 y3 h) fun y4 h=>
 ae (pu (fq Zl [(44,32,y4)]) h) fun y5 h=>
 ae (dH 116 y2 y5 h) fun _ h=>
 ax Tryz.prog Tryz.f103.results.toList (aX 6 (up (bs [x0]) [(1,y1),(2,y2),(3,y3),(4,y4),(5,y5)])) h
theorem t103_eq (C:av) (x0:Value) (h:ak):aY Tryz.prog C Tryz.f103 [x0] h=t103 C x0 h:=
 (aI Tryz.prog C Tryz.f103 [x0] h (by kernel_rfl)).trans (by kernel_rfl)
noncomputable def t106 (C:av) (x0:Value) (h:ak):Out:=
 ae (box x0 h) fun y1 h=>
 ae (some ((.bool false),h)) fun _y2 h=>
 ae (pu (az y1 76) h) fun y3 h=>
 ae (bP 37 y3 h) fun y4 h=>
 ae (C 131 [y4] h) fun y5 h=>
 ae (pu (bin Tryz.prog .eql 35 y5 (.int .i64 0)) h) fun y6 h=>
 ae (some (y6,h)) fun y7 h=>
 ae (al (aH y7==some true) (pu (az y1 113) h) h) fun y8 h=>
 ae (al (aH y7==some true) (pu (az y8 0) h) h) fun y9 h=>
 ae (al (aH y7==some true) (aK y9 h) h) fun y10 h=>
 ae (al (aH y7==some true) (pu (bin Tryz.prog .geq 3 y10 (.int .i64 0)) h) h) fun y11 h=>
 ae (match y7 with | .bool t=>some (if t then y11 else (.bool false),h)|_=>none) fun y12 h=>
 ae (some (y12,h)) fun y13 h=>
 ae (al (aH y13==some true) (pu (az y1 113) h) h) fun y14 h=>
 ae (al (aH y13==some true) (pu (az y14 0) h) h) fun y15 h=>
 ae (al (aH y13==some true) (aK y15 h) h) fun y16 h=>
 ae (al (aH y13==some true) (pu (az y1 76) h) h) fun y17 h=>
 ae (al (aH y13==some true) (pu (az y17 2) h) h) fun y18 h=>
 ae (al (aH y13==some true) (aK y18 h) h) fun y19 h=>
 ae (al (aH y13==some true) (pu (bin Tryz.prog .lss 3 y16 y19) h) h) fun y20 h=>
 ae (match y13 with | .bool t=>some (if t then y20 else (.bool false),h)|_=>none) fun y21 h=>
 ae (some (y21,h)) fun y22 h=>
 ae (al (aH y22==some true) (pu (az y1 113) h) h) fun y23 h=>
 ae (al (aH y22==some true) (pu (az y23 1) h) h) fun y24 h=>
 ae (al (aH y22==some true) (aK y24 h) h) fun y25 h=>
 ae (al (aH y22==some true) (pu (bE y25) h) h) fun y26 h=>
 ae (al (aH y22==some true) (pu (bin Tryz.prog .leq 3 y26 (.int .i64 8192)) h) h) fun y27 h=>
 ae (match y22 with | .bool t=>some (if t then y27 else (.bool false),h)|_=>none) fun y28 h=>
 ae (some (y28,h)) fun y2_1 h=>
 some (y2_1,h)
theorem t106_eq (C:av) (x0:Value) (h:ak):aY Tryz.prog C Tryz.f106 [x0] h=t106 C x0 h:=
 (aI Tryz.prog C Tryz.f106 [x0] h (by kernel_rfl)).trans (by kernel_rfl)
noncomputable def t107 (_C:av) (x0:Value) (h:ak):Out:=
 ae (box x0 h) fun y1 h=>
 ae (fz Zl h) fun y2 h=>
 ae (pu (az y1 44) h) fun y3 h=>
 ae (bP 32 y3 h) fun y4 h=>
 ae (pu (az y1 76) h) fun y5 h=>
 ae (bP 37 y5 h) fun y6 h=>
 ae (pu (az y1 113) h) fun y7 h=>
 ae (bP 2 y7 h) fun y8 h=>
 ae (pu (fq Zl [(44,32,y4),(76,37,y6),(113,2,y8)]) h) fun y9 h=>
 ae (dH 116 y2 y9 h) fun _ h=>
 ax Tryz.prog Tryz.f107.results.toList (aX 10 (up (bs [x0]) [(1,y1),(2,y2),(3,y3),(4,y4),(5,y5),(6,y6),(7,y7),(8,y8),(9,y9)])) h
theorem t107_eq (C:av) (x0:Value) (h:ak):aY Tryz.prog C Tryz.f107 [x0] h=t107 C x0 h:=
 (aI Tryz.prog C Tryz.f107 [x0] h (by kernel_rfl)).trans (by kernel_rfl)
noncomputable def t111 (C:av) (x0:Value) (h:ak):Out:=
 ae (box x0 h) fun y1 h=>
 ae (some ((.bool false),h)) fun _y2 h=>
 ae (pu (az y1 7) h) fun y3 h=>
 ae (aK y3 h) fun y4 h=>
 ae (pu (bE y4) h) fun y5 h=>
 ae (pu (bin Tryz.prog .leq 3 y5 (.int .i64 34)) h) fun y6 h=>
 ae (some (y6,h)) fun y7 h=>
 ae (al (aH y7==some true) (pu (az y1 8) h) h) fun y8 h=>
 ae (al (aH y7==some true) (aK y8 h) h) fun y9 h=>
 ae (al (aH y7==some true) (pu (bE y9) h) h) fun y10 h=>
 ae (al (aH y7==some true) (pu (bin Tryz.prog .leq 3 y10 (.int .i64 34)) h) h) fun y11 h=>
 ae (match y7 with | .bool t=>some (if t then y11 else (.bool false),h)|_=>none) fun y12 h=>
 ae (some (y12,h)) fun y13 h=>
 ae (al (aH y13==some true) (pu (az y1 9) h) h) fun y14 h=>
 ae (al (aH y13==some true) (aK y14 h) h) fun y15 h=>
 ae (al (aH y13==some true) (pu (bin Tryz.prog .geq 3 y15 (.int .i64 0)) h) h) fun y16 h=>
 ae (match y13 with | .bool t=>some (if t then y16 else (.bool false),h)|_=>none) fun y17 h=>
 ae (some (y17,h)) fun y18 h=>
 ae (al (aH y18==some true) (pu (az y1 9) h) h) fun y19 h=>
 ae (al (aH y18==some true) (aK y19 h) h) fun y20 h=>
 ae (al (aH y18==some true) (pu (bin Tryz.prog .leq 3 y20 (.int .i64 1048576)) h) h) fun y21 h=>
 ae (match y18 with | .bool t=>some (if t then y21 else (.bool false),h)|_=>none) fun y22 h=>
 ae (some (y22,h)) fun y23 h=>
 ae (al (aH y23==some true) (pu (az y1 42) h) h) fun y24 h=>
 ae (al (aH y23==some true) (aK y24 h) h) fun y25 h=>
 ae (al (aH y23==some true) (pu (bE y25) h) h) fun y26 h=>
 ae (al (aH y23==some true) (pu (bin Tryz.prog .leq 3 y26 (.int .i64 64)) h) h) fun y27 h=>
 ae (match y23 with | .bool t=>some (if t then y27 else (.bool false),h)|_=>none) fun y28 h=>
 ae (some (y28,h)) fun y29 h=>
 ae (al (aH y29==some true) (pu (az y1 42) h) h) fun y30 h=>
 ae (al (aH y29==some true) (aK y30 h) h) fun y31 h=>
 ae (al (aH y29==some true) (C 136 [y31,(.func (.func 137) #[] #[])] h) h) fun y32 h=>
 ae (al (aH y29==some true) (pu (unA .not y32) h) h) fun y33 h=>
 ae (match y29 with | .bool t=>some (if t then y33 else (.bool false),h)|_=>none) fun y34 h=>
 ae (some (y34,h)) fun y2_1 h=>
 some (y2_1,h)
theorem t111_eq (C:av) (x0:Value) (h:ak):aY Tryz.prog C Tryz.f111 [x0] h=t111 C x0 h:=
 (aI Tryz.prog C Tryz.f111 [x0] h (by kernel_rfl)).trans (by kernel_rfl)
noncomputable def t112 (_C:av) (x0:Value) (h:ak):Out:=
 ae (box x0 h) fun y1 h=>
 ae (fz Zl h) fun y2 h=>
 ae (pu (az y1 7) h) fun y3 h=>
 ae (aK y3 h) fun y4 h=>
 ae (pu (az y1 8) h) fun y5 h=>
 ae (aK y5 h) fun y6 h=>
 ae (pu (az y1 9) h) fun y7 h=>
 ae (aK y7 h) fun y8 h=>
 ae (pu (az y1 10) h) fun y9 h=>
 ae (bP 32 y9 h) fun y10 h=>
 ae (pu (fq Zl [(7,1,y4),(8,1,y6),(9,1,y8),(10,32,y10)]) h) fun y11 h=>
 ae (dH 116 y2 y11 h) fun _ h=>
 ax Tryz.prog Tryz.f112.results.toList (aX 12 (up (bs [x0]) [(1,y1),(2,y2),(3,y3),(4,y4),(5,y5),(6,y6),(7,y7),(8,y8),(9,y9),(10,y10),(11,y11)])) h
theorem t112_eq (C:av) (x0:Value) (h:ak):aY Tryz.prog C Tryz.f112 [x0] h=t112 C x0 h:=
 (aI Tryz.prog C Tryz.f112 [x0] h (by kernel_rfl)).trans (by kernel_rfl)
noncomputable def t115 (_C:av) (x0:Value) (h:ak):Out:=
 ae (box x0 h) fun y1 h=>
 ae (fz Zl h) fun y2 h=>
 ae (pu (az y1 7) h) fun y3 h=>
 ae (aK y3 h) fun y4 h=>
 ae (pu (az y1 8) h) fun y5 h=>
 ae (aK y5 h) fun y6 h=>
 ae (pu (az y1 43) h) fun y7 h=>
 ae (aK y7 h) fun y8 h=>
 ae (pu (az y1 42) h) fun y9 h=>
 ae (aK y9 h) fun y10 h=>
 ae (pu (fq Zl [(7,1,y4),(8,1,y6),(43,1,y8),(42,1,y10)]) h) fun y11 h=>
 ae (dH 116 y2 y11 h) fun _ h=>
 ax Tryz.prog Tryz.f115.results.toList (aX 12 (up (bs [x0]) [(1,y1),(2,y2),(3,y3),(4,y4),(5,y5),(6,y6),(7,y7),(8,y8),(9,y9),(10,y10),(11,y11)])) h
theorem t115_eq (C:av) (x0:Value) (h:ak):aY Tryz.prog C Tryz.f115 [x0] h=t115 C x0 h:=
 (aI Tryz.prog C Tryz.f115 [x0] h (by kernel_rfl)).trans (by kernel_rfl)
noncomputable def t118 (_C:av) (x0:Value) (h:ak):Out:=
 ae (box x0 h) fun y1 h=>
 ae (some ((.bool false),h)) fun _y2 h=>
 ae (pu (az y1 115) h) fun y3 h=>
 ae (aK y3 h) fun y4 h=>
 ae (pu (bin Tryz.prog .geq 35 y4 (.int .i64 0)) h) fun y5 h=>
 ae (some (y5,h)) fun y6 h=>
 ae (al (aH y6==some true) (pu (az y1 115) h) h) fun y7 h=>
 ae (al (aH y6==some true) (aK y7 h) h) fun y8 h=>
 ae (al (aH y6==some true) (pu (bin Tryz.prog .leq 35 y8 (.int .i64 999)) h) h) fun y9 h=>
 ae (match y6 with | .bool t=>some (if t then y9 else (.bool false),h)|_=>none) fun y10 h=>
 ae (some (y10,h)) fun y2_1 h=>
 some (y2_1,h)
theorem t118_eq (C:av) (x0:Value) (h:ak):aY Tryz.prog C Tryz.f118 [x0] h=t118 C x0 h:=
 (aI Tryz.prog C Tryz.f118 [x0] h (by kernel_rfl)).trans (by kernel_rfl)
noncomputable def t119 (_C:av) (x0:Value) (h:ak):Out:=
 ae (box x0 h) fun y1 h=>
 ae (fz Zl h) fun y2 h=>
 ae (pu (az y1 44) h) fun y3 h=>
 ae (bP 32 y3 h) fun y4 h=>
 ae (pu (az y1 115) h) fun y5 h=>
 ae (aK y5 h) fun y6 h=>
 ae (pu (fq Zl [(44,32,y4),(115,1,y6)]) h) fun y7 h=>
 ae (dH 116 y2 y7 h) fun _ h=>
 ax Tryz.prog Tryz.f119.results.toList (aX 8 (up (bs [x0]) [(1,y1),(2,y2),(3,y3),(4,y4),(5,y5),(6,y6),(7,y7)])) h
theorem t119_eq (C:av) (x0:Value) (h:ak):aY Tryz.prog C Tryz.f119 [x0] h=t119 C x0 h:=
 (aI Tryz.prog C Tryz.f119 [x0] h (by kernel_rfl)).trans (by kernel_rfl)
noncomputable def t125 (C:av) (x0:Value) (h:ak):Out:=
 ae (some ((.bool false),h)) fun _y2 h=>
 ae (some (x0,h)) fun y3 h=>
 ae (pu (bE y3) h) fun y4 h=>
 ae (pu (bin Tryz.prog .geq 3 y4 (.int .i64 1)) h) fun y5 h=>
 ae (some (y5,h)) fun y6 h=>
 ae (al (aH y6==some true) (some (x0,h)) h) fun y7 h=>
 ae (al (aH y6==some true) (pu (bE y7) h) h) fun y8 h=>
 ae (al (aH y6==some true) (pu (bin Tryz.prog .leq 3 y8 (.int .i64 16)) h) h) fun y9 h=>
 ae (match y6 with | .bool t=>some (if t then y9 else (.bool false),h)|_=>none) fun y10 h=>
 ae (some (y10,h)) fun y11 h=>
 ae (al (aH y11==some true) (some (x0,h)) h) fun y12 h=>
 ae (al (aH y11==some true) (C 145 [y12,(.func (.func 146) #[] #[])] h) h) fun y13 h=>
 ae (al (aH y11==some true) (pu (unA .not y13) h) h) fun y14 h=>
 ae (match y11 with | .bool t=>some (if t then y14 else (.bool false),h)|_=>none) fun y15 h=>
 ae (some (y15,h)) fun y2_1 h=>
 some (y2_1,h)
theorem t125_eq (C:av) (x0:Value) (h:ak):aY Tryz.prog C Tryz.f125 [x0] h=t125 C x0 h:=
 (aI Tryz.prog C Tryz.f125 [x0] h (by kernel_rfl)).trans (by kernel_rfl)
noncomputable def t131 (C:av) (x0:Value) (h:ak):Out:=
 ae (box x0 h) fun y1 h=>
 ae (some ((.int .i64 0),h)) fun _y2 h=>
 ae (pu (az y1 0) h) fun y3 h=>
 ae (aK y3 h) fun y4 h=>
 ae (pu (az y1 1) h) fun y5 h=>
 ae (aK y5 h) fun y6 h=>
 ae (pu (az y1 2) h) fun y7 h=>
 ae (aK y7 h) fun y8 h=>
 ae (C 148 [y4,y6,y8] h) fun y9 h=>
 ae (pu (unA .not y9) h) fun y10 h=>
 ae (some (y10,h)) fun y11 h=>
 ae (al (aH y11==some false) (pu (az y1 3) h) h) fun y12 h=>
 ae (al (aH y11==some false) (aK y12 h) h) fun y13 h=>
 ae (al (aH y11==some false) (pu (bin Tryz.prog .lss 3 y13 (.int .i64 0)) h) h) fun y14 h=>
 ae (match y11 with | .bool t=>some (if t then (.bool true) else y14,h)|_=>none) fun y15 h=>
 ae (some (y15,h)) fun y16 h=>
 ae (al (aH y16==some false) (pu (az y1 3) h) h) fun y17 h=>
 ae (al (aH y16==some false) (aK y17 h) h) fun y18 h=>
 ae (al (aH y16==some false) (pu (bin Tryz.prog .gtr 3 y18 (.int .i64 8192)) h) h) fun y19 h=>
 ae (match y16 with | .bool t=>some (if t then (.bool true) else y19,h)|_=>none) fun y20 h=>
 ae (some (y20,h)) fun y21 h=>
 ae (al (aH y21==some false) (pu (az y1 36) h) h) fun y22 h=>
 ae (al (aH y21==some false) (aK y22 h) h) fun y23 h=>
 ae (al (aH y21==some false) (pu (bE y23) h) h) fun y24 h=>
 ae (al (aH y21==some false) (pu (az y1 2) h) h) fun y25 h=>
 ae (al (aH y21==some false) (aK y25 h) h) fun y26 h=>
 ae (al (aH y21==some false) (pu (bin Tryz.prog .neq 3 y24 y26) h) h) fun y27 h=>
 ae (match y21 with | .bool t=>some (if t then (.bool true) else y27,h)|_=>none) fun y28 h=>
 (match y28 with
 | .bool true=>
 ae (some ((.int .i64 2),h)) fun y2_1 h=>
 some (y2_1,h)
 | .bool false=>
 ae (some ((.int .i64 0),h)) fun y2_1 h=>
 some (y2_1,h)
 |_=>none)
theorem t131_eq (C:av) (x0:Value) (h:ak):aY Tryz.prog C Tryz.f131 [x0] h=t131 C x0 h:=
 (aI Tryz.prog C Tryz.f131 [x0] h (by kernel_rfl)).trans (by kernel_rfl)
noncomputable def t136 (C:av) (x0 x1:Value) (h:ak):Out:=
 ae (some ((.bool false),h)) fun _y4 h=>
 ae (some (x0,h)) fun y5 h=>
 ae (some (x1,h)) fun y6 h=>
 ae (C 150 [y5,y6] h) fun y7 h=>
 ae (pu (bin Tryz.prog .geq 3 y7 (.int .i64 0)) h) fun y8 h=>
 ae (some (y8,h)) fun y4_1 h=>
 some (y4_1,h)
theorem t136_eq (C:av) (x0 x1:Value) (h:ak):aY Tryz.prog C Tryz.f136 [x0,x1] h=t136 C x0 x1 h:=
 (aI Tryz.prog C Tryz.f136 [x0,x1] h (by kernel_rfl)).trans (by kernel_rfl)
noncomputable def t137 (C:av) (x0:Value) (h:ak):Out:=
 ae (box x0 h) fun y1 h=>
 ae (some ((.bool false),h)) fun _y2 h=>
 ae (bP 39 y1 h) fun y3 h=>
 ae (C 138 [y3] h) fun y4 h=>
 ae (pu (unA .not y4) h) fun y5 h=>
 ae (some (y5,h)) fun y2_1 h=>
 some (y2_1,h)
theorem t137_eq (C:av) (x0:Value) (h:ak):aY Tryz.prog C Tryz.f137 [x0] h=t137 C x0 h:=
 (aI Tryz.prog C Tryz.f137 [x0] h (by kernel_rfl)).trans (by kernel_rfl)
noncomputable def t138 (C:av) (x0:Value) (h:ak):Out:=
 ae (box x0 h) fun y1 h=>
 ae (some ((.bool false),h)) fun _y2 h=>
 ae (pu (az y1 0) h) fun y3 h=>
 ae (aK y3 h) fun y4 h=>
 ae (pu (bin Tryz.prog .eql 59 y4 (.int .u8 1)) h) fun y6 h=>
 ae (some (y6,h)) fun y5 h=>
 (match y5 with
 | .bool true=>
 ae (bP 39 y1 h) fun y7 h=>
 ae (pu (az y1 0) h) fun y8 h=>
 ae (aK y8 h) fun y9 h=>
 ae (pu (az y1 33) h) fun y10 h=>
 ae (aK y10 h) fun y11 h=>
 ae (pu (az y1 34) h) fun y12 h=>
 ae (aK y12 h) fun y13 h=>
 ae (pu (fq [(.int .u8 0),(.int .u8 0),(.int .u8 0),(.int .u8 0),(.int .u8 0),(.int .u8 0),(.int .u8 0),(.int .u8 0),(.int .u8 0),(.int .u8 0),(.int .u8 0),(.int .u8 0),(.int .u8 0),(.int .u8 0),(.int .u8 0),(.int .u8 0),(.int .u8 0),(.int .u8 0),(.int .u8 0),(.int .u8 0),(.int .u8 0),(.int .u8 0),(.int .u8 0),(.int .u8 0),(.int .u8 0),(.int .u8 0),(.int .u8 0),(.int .u8 0),(.int .u8 0),(.int .u8 0),(.int .u8 0),(.int .u8 0),(.int .u8 0),(.int .i64 0),(.int .u64 0),(.int .u64 0),(.bool false),(.int .i64 0),(.int .i64 0)] [(0,1,y9),(33,1,y11),(34,1,y13)]) h) fun y14 h=>
 ae (pu (bin Tryz.prog .eql 61 y7 y14) h) fun y15 h=>
 ae (some (y15,h)) fun y16 h=>
 ae (al (aH y16==some true) (bP 39 y1 h) h) fun y17 h=>
 ae (al (aH y16==some true) (C 151 [y17] h) h) fun y18 h=>
 ae (match y16 with | .bool t=>some (if t then y18 else (.bool false),h)|_=>none) fun y19 h=>
 ae (some (y19,h)) fun y2_1 h=>
 some (y2_1,h)
 | .bool false=>
 ae (pu (bin Tryz.prog .eql 59 y4 (.int .u8 2)) h) fun y21 h=>
 ae (some (y21,h)) fun y20 h=>
 (match y20 with
 | .bool true=>
 ae (bP 39 y1 h) fun y22 h=>
 ae (pu (az y1 0) h) fun y23 h=>
 ae (aK y23 h) fun y24 h=>
 ae (pu (az y1 1) h) fun y25 h=>
 ae (bP 32 y25 h) fun y26 h=>
 ae (pu (fq [(.int .u8 0),(.int .u8 0),(.int .u8 0),(.int .u8 0),(.int .u8 0),(.int .u8 0),(.int .u8 0),(.int .u8 0),(.int .u8 0),(.int .u8 0),(.int .u8 0),(.int .u8 0),(.int .u8 0),(.int .u8 0),(.int .u8 0),(.int .u8 0),(.int .u8 0),(.int .u8 0),(.int .u8 0),(.int .u8 0),(.int .u8 0),(.int .u8 0),(.int .u8 0),(.int .u8 0),(.int .u8 0),(.int .u8 0),(.int .u8 0),(.int .u8 0),(.int .u8 0),(.int .u8 0),(.int .u8 0),(.int .u8 0),(.int .u8 0),(.int .i64 0),(.int .u64 0),(.int .u64 0),(.bool false),(.int .i64 0),(.int .i64 0)] [(0,1,y24),(1,32,y26)]) h) fun y27 h=>
 ae (pu (bin Tryz.prog .eql 61 y22 y27) h) fun y28 h=>
 ae (some (y28,h)) fun y2_1 h=>
 some (y2_1,h)
 | .bool false=>
 ae (pu (bin Tryz.prog .eql 59 y4 (.int .u8 3)) h) fun y30 h=>
 ae (some (y30,h)) fun y29 h=>
 (match y29 with
 | .bool true=>
 ae (bP 39 y1 h) fun y31 h=>
 ae (C 151 [y31] h) fun y32 h=>
 ae (some (y32,h)) fun y33 h=>
 ae (al (aH y33==some true) (pu (az y1 35) h) h) fun y34 h=>
 ae (al (aH y33==some true) (aK y34 h) h) fun y35 h=>
 ae (al (aH y33==some true) (pu (bin Tryz.prog .geq 25 y35 (.int .u64 1)) h) h) fun y36 h=>
 ae (match y33 with | .bool t=>some (if t then y36 else (.bool false),h)|_=>none) fun y37 h=>
 ae (some (y37,h)) fun y38 h=>
 ae (al (aH y38==some true) (pu (az y1 37) h) h) fun y39 h=>
 ae (al (aH y38==some true) (aK y39 h) h) fun y40 h=>
 ae (al (aH y38==some true) (pu (bin Tryz.prog .leq 3 (.int .i64 1) y40) h) h) fun y41 h=>
 ae (match y38 with | .bool t=>some (if t then y41 else (.bool false),h)|_=>none) fun y42 h=>
 ae (some (y42,h)) fun y43 h=>
 ae (al (aH y43==some true) (pu (az y1 37) h) h) fun y44 h=>
 ae (al (aH y43==some true) (aK y44 h) h) fun y45 h=>
 ae (al (aH y43==some true) (pu (az y1 38) h) h) fun y46 h=>
 ae (al (aH y43==some true) (aK y46 h) h) fun y47 h=>
 ae (al (aH y43==some true) (pu (bin Tryz.prog .leq 3 y45 y47) h) h) fun y48 h=>
 ae (match y43 with | .bool t=>some (if t then y48 else (.bool false),h)|_=>none) fun y49 h=>
 ae (some (y49,h)) fun y50 h=>
 ae (al (aH y50==some true) (pu (az y1 38) h) h) fun y51 h=>
 ae (al (aH y50==some true) (aK y51 h) h) fun y52 h=>
 ae (al (aH y50==some true) (pu (bin Tryz.prog .leq 3 y52 (.int .i64 255)) h) h) fun y53 h=>
 ae (match y50 with | .bool t=>some (if t then y53 else (.bool false),h)|_=>none) fun y54 h=>
 ae (some (y54,h)) fun y2_1 h=>
 some (y2_1,h)
 | .bool false=>
 ae (some ((.bool false),h)) fun y2_1 h=>
 some (y2_1,h)
 |_=>none)
 |_=>none)
 |_=>none)
theorem t138_eq (C:av) (x0:Value) (h:ak):aY Tryz.prog C Tryz.f138 [x0] h=t138 C x0 h:=
 (aI Tryz.prog C Tryz.f138 [x0] h (by kernel_rfl)).trans (by kernel_rfl)
noncomputable def t145 (C:av) (x0 x1:Value) (h:ak):Out:=
 ae (some ((.bool false),h)) fun _y4 h=>
 ae (some (x0,h)) fun y5 h=>
 ae (some (x1,h)) fun y6 h=>
 ae (C 157 [y5,y6] h) fun y7 h=>
 ae (pu (bin Tryz.prog .geq 3 y7 (.int .i64 0)) h) fun y8 h=>
 ae (some (y8,h)) fun y4_1 h=>
 some (y4_1,h)
theorem t145_eq (C:av) (x0 x1:Value) (h:ak):aY Tryz.prog C Tryz.f145 [x0,x1] h=t145 C x0 x1 h:=
 (aI Tryz.prog C Tryz.f145 [x0,x1] h (by kernel_rfl)).trans (by kernel_rfl)
noncomputable def t146 (C:av) (x0:Value) (h:ak):Out:=
 ae (box x0 h) fun y1 h=>
 ae (some ((.bool false),h)) fun _y2 h=>
 ae (bP 2 y1 h) fun y3 h=>
 ae (C 147 [y3] h) fun y4 h=>
 ae (pu (unA .not y4) h) fun y5 h=>
 ae (some (y5,h)) fun y2_1 h=>
 some (y2_1,h)
theorem t146_eq (C:av) (x0:Value) (h:ak):aY Tryz.prog C Tryz.f146 [x0] h=t146 C x0 h:=
 (aI Tryz.prog C Tryz.f146 [x0] h (by kernel_rfl)).trans (by kernel_rfl)
noncomputable def t147 (_C:av) (x0:Value) (h:ak):Out:=
 ae (box x0 h) fun y1 h=>
 ae (some ((.bool false),h)) fun _y2 h=>
 ae (pu (az y1 1) h) fun y3 h=>
 ae (aK y3 h) fun y4 h=>
 ae (pu (bin Tryz.prog .leq 56 y4 (.int .u8 4)) h) fun y5 h=>
 ae (some (y5,h)) fun y6 h=>
 ae (al (aH y6==some true) (pu (az y1 0) h) h) fun y7 h=>
 ae (al (aH y6==some true) (aK y7 h) h) fun y8 h=>
 ae (al (aH y6==some true) (pu (bin Tryz.prog .eql 25 y8 (.int .u64 0)) h) h) fun y9 h=>
 ae (al (aH y6==some true) (pu (az y1 1) h) h) fun y10 h=>
 ae (al (aH y6==some true) (aK y10 h) h) fun y11 h=>
 ae (al (aH y6==some true) (pu (bin Tryz.prog .eql 56 y11 (.int .u8 0)) h) h) fun y12 h=>
 ae (al (aH y6==some true) (pu (bin Tryz.prog .eql 4 y9 y12) h) h) fun y13 h=>
 ae (match y6 with | .bool t=>some (if t then y13 else (.bool false),h)|_=>none) fun y14 h=>
 ae (some (y14,h)) fun y2_1 h=>
 some (y2_1,h)
theorem t147_eq (C:av) (x0:Value) (h:ak):aY Tryz.prog C Tryz.f147 [x0] h=t147 C x0 h:=
 (aI Tryz.prog C Tryz.f147 [x0] h (by kernel_rfl)).trans (by kernel_rfl)
noncomputable def t148 (_C:av) (x0 x1 x2:Value) (h:ak):Out:=
 ae (some ((.bool false),h)) fun _y6 h=>
 ae (some (x0,h)) fun y7 h=>
 ae (pu (bin Tryz.prog .leq 3 (.int .i64 1) y7) h) fun y8 h=>
 ae (some (y8,h)) fun y9 h=>
 ae (al (aH y9==some true) (some (x0,h)) h) fun y10 h=>
 ae (al (aH y9==some true) (some (x1,h)) h) fun y11 h=>
 ae (al (aH y9==some true) (pu (bin Tryz.prog .leq 3 y10 y11) h) h) fun y12 h=>
 ae (match y9 with | .bool t=>some (if t then y12 else (.bool false),h)|_=>none) fun y13 h=>
 ae (some (y13,h)) fun y14 h=>
 ae (al (aH y14==some true) (some (x1,h)) h) fun y15 h=>
 ae (al (aH y14==some true) (some (x2,h)) h) fun y16 h=>
 ae (al (aH y14==some true) (pu (bin Tryz.prog .leq 3 y15 y16) h) h) fun y17 h=>
 ae (match y14 with | .bool t=>some (if t then y17 else (.bool false),h)|_=>none) fun y18 h=>
 ae (some (y18,h)) fun y19 h=>
 ae (al (aH y19==some true) (some (x2,h)) h) fun y20 h=>
 ae (al (aH y19==some true) (pu (bin Tryz.prog .leq 3 y20 (.int .i64 255)) h) h) fun y21 h=>
 ae (match y19 with | .bool t=>some (if t then y21 else (.bool false),h)|_=>none) fun y22 h=>
 ae (some (y22,h)) fun y6_1 h=>
 some (y6_1,h)
theorem t148_eq (C:av) (x0 x1 x2:Value) (h:ak):aY Tryz.prog C Tryz.f148 [x0,x1,x2] h=t148 C x0 x1 x2 h:=
 (aI Tryz.prog C Tryz.f148 [x0,x1,x2] h (by kernel_rfl)).trans (by kernel_rfl)
noncomputable def k150_1 (C:av) (e:Env) (h:ak):Out:=br Tryz.prog C (partOf Tryz.f150 [1,1]) e h (ax Tryz.prog Tryz.f150.results.toList) (ax Tryz.prog Tryz.f150.results.toList) (fun _ _ _=>none)
noncomputable def b150_3 (C:av) (i:Nat) (e:Env) (h:ak):Out:=if i=0 then (k150_1 C) e h else (fun _ _ _=>none) i e h
noncomputable def t150 (C:av) (x0 x1:Value) (h:ak):Out:=
 ae (some ((.int .i64 0),h)) fun y4 h=>
 ae (some (x0,h)) fun y6 h=>
 ae (pu (bE y6) h) fun y7 h=>
 ae (some ((.int .i64 0),h)) fun y8 h=>
 ei (iter (aL Tryz.prog C (partOf Tryz.f150 [1,0,1,0,0])) rounds (aX 19 (up (bs [x0,x1]) [(4,y4),(6,y6),(7,y7),(8,y8)])) h) (ax Tryz.prog Tryz.f150.results.toList) (b150_3 C)
noncomputable def t150k150_1 (_C:av) (_x:Nat→Value) (h:ak):Out:=
 ae (some ((.int .i64 (-1)),h)) fun y4 h=>
 some (y4,h)
noncomputable def t150l150_1010 (C:av) (x:Nat→Value) (h:ak):Option (Ex×Env×ak):=
 ae (pu (bin Tryz.prog .lss 3 (x 8) (x 7)) h) fun y9 h=>
 (match y9 with
 | .bool true=>
 ae (some ((x 8),h)) fun y10 h=>
 ae (some (y10,h)) fun y5 h=>
 ae (some ((x 1),h)) fun y11 h=>
 ae (some ((x 0),h)) fun y12 h=>
 ae (some (y5,h)) fun y13 h=>
 ae (pu (cD 39 y12 y13) h) fun y14 h=>
 ae (bP 39 y14 h) fun y15 h=>
 ae (callA Tryz.prog C y11 [y15] h) fun y16 h=>
 (match y16 with
 | .bool true=>
 ae (some (y5,h)) fun y17 h=>
 ae (some (y17,h)) fun y4 h=>
 some (.ret,(aX 19 (up x [(4,y4),(5,y5),(9,y9),(10,y10),(11,y11),(12,y12),(13,y13),(14,y14),(15,y15),(16,y16),(17,y17)])),h)
 | .bool false=>
 ae (pu (bin Tryz.prog .add 3 (x 8) (.int .i64 1)) h) fun y18 h=>
 ae (some (y18,h)) fun y8 h=>
 some (.normal,(aX 19 (up x [(5,y5),(8,y8),(9,y9),(10,y10),(11,y11),(12,y12),(13,y13),(14,y14),(15,y15),(16,y16),(18,y18)])),h)
 |_=>none)
 | .bool false=>
 some (.exit 0,(aX 19 (up x [(9,y9)])),h)
 |_=>none)
theorem t150_eq (C:av) (x0 x1:Value) (h:ak):aY Tryz.prog C Tryz.f150 [x0,x1] h=t150 C x0 x1 h:=
 (aI Tryz.prog C Tryz.f150 [x0,x1] h (by kernel_rfl)).trans (by kernel_rfl)
theorem t150k150_1_eq (C:av) (x:Nat→Value) (h:ak):k150_1 C (aX 19 x) h=t150k150_1 C x h:=
 bq (b:=(partOf Tryz.f150 [1,1])) (kE:=(ax Tryz.prog Tryz.f150.results.toList)) (rE:=(ax Tryz.prog Tryz.f150.results.toList)) (xE:=(fun _ _ _=>none)) (T:=t150k150_1 C) (fun x h=>by kernel_rfl) x h
theorem t150l150_1010_eq (C:av) (x:Nat→Value) (h:ak):aL Tryz.prog C (partOf Tryz.f150 [1,0,1,0,0]) (aX 19 x) h=t150l150_1010 C x h:=
 bn (T:=t150l150_1010 C) (fun x h=>by kernel_rfl) x h
noncomputable def t151 (_C:av) (x0:Value) (h:ak):Out:=
 ae (box x0 h) fun y1 h=>
 ae (some ((.bool false),h)) fun _y2 h=>
 ae (pu (az y1 33) h) fun y3 h=>
 ae (aK y3 h) fun y4 h=>
 ae (pu (bin Tryz.prog .geq 3 y4 (.int .i64 0)) h) fun y5 h=>
 ae (some (y5,h)) fun y6 h=>
 ae (al (aH y6==some true) (pu (az y1 33) h) h) fun y7 h=>
 ae (al (aH y6==some true) (aK y7 h) h) fun y8 h=>
 ae (al (aH y6==some true) (pu (bin Tryz.prog .lss 3 y8 (.int .i64 16)) h) h) fun y9 h=>
 ae (match y6 with | .bool t=>some (if t then y9 else (.bool false),h)|_=>none) fun y10 h=>
 ae (some (y10,h)) fun y11 h=>
 ae (al (aH y11==some true) (pu (az y1 34) h) h) fun y12 h=>
 ae (al (aH y11==some true) (aK y12 h) h) fun y13 h=>
 ae (al (aH y11==some true) (pu (bin Tryz.prog .geq 25 y13 (.int .u64 1)) h) h) fun y14 h=>
 ae (match y11 with | .bool t=>some (if t then y14 else (.bool false),h)|_=>none) fun y15 h=>
 ae (some (y15,h)) fun y2_1 h=>
 some (y2_1,h)
theorem t151_eq (C:av) (x0:Value) (h:ak):aY Tryz.prog C Tryz.f151 [x0] h=t151 C x0 h:=
 (aI Tryz.prog C Tryz.f151 [x0] h (by kernel_rfl)).trans (by kernel_rfl)
noncomputable def k157_1 (C:av) (e:Env) (h:ak):Out:=br Tryz.prog C (partOf Tryz.f157 [1,1]) e h (ax Tryz.prog Tryz.f157.results.toList) (ax Tryz.prog Tryz.f157.results.toList) (fun _ _ _=>none)
noncomputable def b157_3 (C:av) (i:Nat) (e:Env) (h:ak):Out:=if i=0 then (k157_1 C) e h else (fun _ _ _=>none) i e h
noncomputable def t157 (C:av) (x0 x1:Value) (h:ak):Out:=
 ae (some ((.int .i64 0),h)) fun y4 h=>
 ae (some (x0,h)) fun y6 h=>
 ae (pu (bE y6) h) fun y7 h=>
 ae (some ((.int .i64 0),h)) fun y8 h=>
 ei (iter (aL Tryz.prog C (partOf Tryz.f157 [1,0,1,0,0])) rounds (aX 19 (up (bs [x0,x1]) [(4,y4),(6,y6),(7,y7),(8,y8)])) h) (ax Tryz.prog Tryz.f157.results.toList) (b157_3 C)
noncomputable def t157k157_1 (_C:av) (_x:Nat→Value) (h:ak):Out:=
 ae (some ((.int .i64 (-1)),h)) fun y4 h=>
 some (y4,h)
noncomputable def t157l157_1010 (C:av) (x:Nat→Value) (h:ak):Option (Ex×Env×ak):=
 ae (pu (bin Tryz.prog .lss 3 (x 8) (x 7)) h) fun y9 h=>
 (match y9 with
 | .bool true=>
 ae (some ((x 8),h)) fun y10 h=>
 ae (some (y10,h)) fun y5 h=>
 ae (some ((x 1),h)) fun y11 h=>
 ae (some ((x 0),h)) fun y12 h=>
 ae (some (y5,h)) fun y13 h=>
 ae (pu (cD 2 y12 y13) h) fun y14 h=>
 ae (bP 2 y14 h) fun y15 h=>
 ae (callA Tryz.prog C y11 [y15] h) fun y16 h=>
 (match y16 with
 | .bool true=>
 ae (some (y5,h)) fun y17 h=>
 ae (some (y17,h)) fun y4 h=>
 some (.ret,(aX 19 (up x [(4,y4),(5,y5),(9,y9),(10,y10),(11,y11),(12,y12),(13,y13),(14,y14),(15,y15),(16,y16),(17,y17)])),h)
 | .bool false=>
 ae (pu (bin Tryz.prog .add 3 (x 8) (.int .i64 1)) h) fun y18 h=>
 ae (some (y18,h)) fun y8 h=>
 some (.normal,(aX 19 (up x [(5,y5),(8,y8),(9,y9),(10,y10),(11,y11),(12,y12),(13,y13),(14,y14),(15,y15),(16,y16),(18,y18)])),h)
 |_=>none)
 | .bool false=>
 some (.exit 0,(aX 19 (up x [(9,y9)])),h)
 |_=>none)
theorem t157_eq (C:av) (x0 x1:Value) (h:ak):aY Tryz.prog C Tryz.f157 [x0,x1] h=t157 C x0 x1 h:=
 (aI Tryz.prog C Tryz.f157 [x0,x1] h (by kernel_rfl)).trans (by kernel_rfl)
theorem t157k157_1_eq (C:av) (x:Nat→Value) (h:ak):k157_1 C (aX 19 x) h=t157k157_1 C x h:=
 bq (b:=(partOf Tryz.f157 [1,1])) (kE:=(ax Tryz.prog Tryz.f157.results.toList)) (rE:=(ax Tryz.prog Tryz.f157.results.toList)) (xE:=(fun _ _ _=>none)) (T:=t157k157_1 C) (fun x h=>by kernel_rfl) x h
theorem t157l157_1010_eq (C:av) (x:Nat→Value) (h:ak):aL Tryz.prog C (partOf Tryz.f157 [1,0,1,0,0]) (aX 19 x) h=t157l157_1010 C x h:=
 bn (T:=t157l157_1010 C) (fun x h=>by kernel_rfl) x h
end Go.Proofs.YtjghlcdidopcpaaGreatDoor

namespace Go.Proofs.YtjghlcdidopcpaaGreatDoor
open Go Go.Abs
noncomputable def t21 (C:av) (x0:Value) (h:ak):Out:=
 ae (box x0 h) fun y1 h=>
 ae (some ((.slice none 0 0),h)) fun _y2 h=>
 ae (some ((.int .i64 0),h)) fun _y3 h=>
 ae (bP 116 y1 h) fun y13 h=>
 ae (C 19 [y13] h) fun y14 h=>
 ae (some (y14,h)) fun y4 h=>
 ae (some (y4,h)) fun y15 h=>
 ae (pu (bin Tryz.prog .neq 35 y15 (.int .i64 0)) h) fun y16 h=>
 (match y16 with
 | .bool true=>
 ae (some (y4,h)) fun y17 h=>
 ae (some ((.slice none 0 0),h)) fun y2_1 h=>
 ae (some (y17,h)) fun y3_1 h=>
 some (.tuple #[y2_1,y3_1],h)
 | .bool false=>
 ae (pu (az y1 0) h) fun y19 h=>
 ae (aK y19 h) fun y20 h=>
 ae (C 35 [y20] h) fun y21 h=>
 ae (some (y21,h)) fun y18 h=>
 ae (pu (aV y18 0) h) fun y22 h=>
 ae (pu (aV y18 1) h) fun y23 h=>
 ae (fz [(.string ⟨#[]⟩),.nilFunc,.nilFunc,.nilFunc,.nilFunc] h) fun y5 h=>
 ae (dH 5 y5 y22 h) fun _ h=>
 ae (some (y23,h)) fun _y6 h=>
 ae (C 47 [(.int .i64 20000)] h) fun y24 h=>
 ae (some (y24,h)) fun y7 h=>
 ae (pu (az y5 3) h) fun y25 h=>
 ae (aK y25 h) fun y26 h=>
 ae (some (y7,h)) fun y27 h=>
 ae (bP 116 y1 h) fun y28 h=>
 ae (callA Tryz.prog C y26 [y27,y28] h) fun _y29 h=>
 ae (some (y7,h)) fun y31 h=>
 ae (C 48 [y31] h) fun y32 h=>
 ae (some (y32,h)) fun y30 h=>
 ae (pu (aV y30 0) h) fun y33 h=>
 ae (pu (aV y30 1) h) fun y34 h=>
 ae (some (y33,h)) fun y8 h=>
 ae (some (y34,h)) fun _y9 h=>
 ae (some (y8,h)) fun y35 h=>
 ae (pu (bE y35) h) fun y36 h=>
 ae (pu (bin Tryz.prog .add 3 y36 (.int .i64 14)) h) fun y37 h=>
 ae (C 47 [y37] h) fun y38 h=>
 ae (some (y38,h)) fun y10 h=>
 ae (some (y10,h)) fun y39 h=>
 ae (C 49 [y39,(.int .u16 21335)] h) fun _y40 h=>
 ae (some (y10,h)) fun y41 h=>
 ae (C 50 [y41,(.int .u8 1)] h) fun _y42 h=>
 ae (some (y10,h)) fun y43 h=>
 ae (pu (az y1 0) h) fun y44 h=>
 ae (aK y44 h) fun y45 h=>
 ae (C 50 [y43,y45] h) fun _y46 h=>
 ae (some (y10,h)) fun y47 h=>
 ae (pu (az y1 1) h) fun y48 h=>
 ae (aK y48 h) fun y49 h=>
 ae (dU .u8 y49 h) fun y50 h=>
 ae (C 50 [y47,y50] h) fun _y51 h=>
 ae (some (y10,h)) fun y52 h=>
 ae (pu (az y1 2) h) fun y53 h=>
 ae (aK y53 h) fun y54 h=>
 ae (dU .u8 y54 h) fun y55 h=>
 ae (C 50 [y52,y55] h) fun _y56 h=>
 ae (some (y10,h)) fun y57 h=>
 ae (some (y8,h)) fun y58 h=>
 ae (pu (bE y58) h) fun y59 h=>
 ae (dU .u32 y59 h) fun y60 h=>
 ae (C 51 [y57,y60] h) fun _y61 h=>
 ae (some (y10,h)) fun y62 h=>
 ae (some (y8,h)) fun y63 h=>
 ae (C 52 [y62,y63] h) fun _y64 h=>
 ae (some (y10,h)) fun y66 h=>
 ae (C 48 [y66] h) fun y67 h=>
 ae (some (y67,h)) fun y65 h=>
 ae (pu (aV y65 0) h) fun y68 h=>
 ae (pu (aV y65 1) h) fun y69 h=>
 ae (some (y68,h)) fun y11 h=>
 ae (some (y69,h)) fun _y12 h=>
 ae (some (y10,h)) fun y70 h=>
 ae (some (y11,h)) fun y71 h=>
 ae (C 34 [y71] h) fun y72 h=>
 ae (C 51 [y70,y72] h) fun _y73 h=>
 ae (some (y10,h)) fun y74 h=>
 ae (C 48 [y74] h) fun y75 h=>
 ae (pu (aV y75 0) h) fun y76 h=>
 ae (pu (aV y75 1) h) fun y77 h=>
 ae (some (y76,h)) fun y2_1 h=>
 ae (some (y77,h)) fun y3_1 h=>
 some (.tuple #[y2_1,y3_1],h)
 |_=>none)
theorem t21_eq (C:av) (x0:Value) (h:ak):aY Tryz.prog C Tryz.f21 [x0] h=t21 C x0 h:=
 (aI Tryz.prog C Tryz.f21 [x0] h (by kernel_rfl)).trans (by kernel_rfl)
noncomputable def t24 (C:av) (x0:Value) (h:ak):Out:=
 ae (box x0 h) fun y1 h=>
 ae (some ((.int .i64 0),h)) fun _y2 h=>
 ae (some ((.int .i64 0),h)) fun _y3 h=>
 ae (bP 116 y1 h) fun y7 h=>
 ae (C 21 [y7] h) fun y8 h=>
 ae (some (y8,h)) fun y6 h=>
 ae (pu (aV y6 0) h) fun y9 h=>
 ae (pu (aV y6 1) h) fun y10 h=>
 ae (some (y9,h)) fun y4 h=>
 ae (some (y10,h)) fun y5 h=>
 ae (some (y4,h)) fun y11 h=>
 ae (pu (bE y11) h) fun y12 h=>
 ae (some (y5,h)) fun y13 h=>
 ae (some (y12,h)) fun y2_1 h=>
 ae (some (y13,h)) fun y3_1 h=>
 some (.tuple #[y2_1,y3_1],h)
theorem t24_eq (C:av) (x0:Value) (h:ak):aY Tryz.prog C Tryz.f24 [x0] h=t24 C x0 h:=
 (aI Tryz.prog C Tryz.f24 [x0] h (by kernel_rfl)).trans (by kernel_rfl)
noncomputable def t97 (C:av) (x0 x1:Value) (h:ak):Out:=
 ae (box x1 h) fun y3 h=>
 ae (some (x0,h)) fun y4 h=>
 ae (pu (az y3 3) h) fun y5 h=>
 ae (aK y5 h) fun y6 h=>
 ae (C 126 [y4,y6] h) fun _y7 h=>
 ae (some (x0,h)) fun y8 h=>
 ae (pu (az y3 4) h) fun y9 h=>
 ae (aK y9 h) fun y10 h=>
 ae (dU .u8 y10 h) fun y11 h=>
 ae (C 50 [y8,y11] h) fun _y12 h=>
 ae (some (x0,h)) fun y13 h=>
 ae (pu (az y3 6) h) fun y14 h=>
 ae (aK y14 h) fun y15 h=>
 ae (C 127 [y13,y15] h) fun _y16 h=>
 some (.tuple #[],h)
theorem t97_eq (C:av) (x0 x1:Value) (h:ak):aY Tryz.prog C Tryz.f97 [x0,x1] h=t97 C x0 x1 h:=
 (aI Tryz.prog C Tryz.f97 [x0,x1] h (by kernel_rfl)).trans (by kernel_rfl)
noncomputable def t100 (C:av) (x0 x1:Value) (h:ak):Out:=
 ae (box x1 h) fun y3 h=>
 ae (some (x0,h)) fun y4 h=>
 ae (pu (az y3 3) h) fun y5 h=>
 ae (aK y5 h) fun y6 h=>
 ae (C 126 [y4,y6] h) fun _y7 h=>
 ae (some (x0,h)) fun y8 h=>
 ae (pu (az y3 5) h) fun y9 h=>
 ae (aK y9 h) fun y10 h=>
 ae (dU .u8 y10 h) fun y11 h=>
 ae (C 50 [y8,y11] h) fun _y12 h=>
 ae (some (x0,h)) fun y13 h=>
 ae (pu (az y3 6) h) fun y14 h=>
 ae (aK y14 h) fun y15 h=>
 ae (C 127 [y13,y15] h) fun _y16 h=>
 some (.tuple #[],h)
theorem t100_eq (C:av) (x0 x1:Value) (h:ak):aY Tryz.prog C Tryz.f100 [x0,x1] h=t100 C x0 x1 h:=
 (aI Tryz.prog C Tryz.f100 [x0,x1] h (by kernel_rfl)).trans (by kernel_rfl)
noncomputable def t104 (C:av) (x0 x1:Value) (h:ak):Out:=
 ae (box x1 h) fun y3 h=>
 ae (some (x0,h)) fun y4 h=>
 ae (pu (az y3 44) h) fun y5 h=>
 ae (pu (bY 32 1 y5 none none none) h) fun y6 h=>
 ae (C 52 [y4,y6] h) fun _y7 h=>
 some (.tuple #[],h)
theorem t104_eq (C:av) (x0 x1:Value) (h:ak):aY Tryz.prog C Tryz.f104 [x0,x1] h=t104 C x0 x1 h:=
 (aI Tryz.prog C Tryz.f104 [x0,x1] h (by kernel_rfl)).trans (by kernel_rfl)
noncomputable def t108 (C:av) (x0 x1:Value) (h:ak):Out:=
 ae (box x1 h) fun y3 h=>
 ae (pu (az y3 76) h) fun y7 h=>
 ae (bP 37 y7 h) fun y8 h=>
 ae (C 132 [y8] h) fun y9 h=>
 ae (some (y9,h)) fun y6 h=>
 ae (pu (aV y6 0) h) fun y10 h=>
 ae (pu (aV y6 1) h) fun y11 h=>
 ae (some (y10,h)) fun y4 h=>
 ae (some (y11,h)) fun _y5 h=>
 ae (some (x0,h)) fun y12 h=>
 ae (pu (az y3 44) h) fun y13 h=>
 ae (pu (bY 32 1 y13 none none none) h) fun y14 h=>
 ae (C 52 [y12,y14] h) fun _y15 h=>
 ae (some (x0,h)) fun y16 h=>
 ae (some (y4,h)) fun y17 h=>
 ae (C 133 [y16,y17] h) fun _y18 h=>
 ae (some (x0,h)) fun y19 h=>
 ae (pu (az y3 113) h) fun y20 h=>
 ae (pu (az y20 0) h) fun y21 h=>
 ae (aK y21 h) fun y22 h=>
 ae (dU .u16 y22 h) fun y23 h=>
 ae (C 49 [y19,y23] h) fun _y24 h=>
 ae (some (x0,h)) fun y25 h=>
 ae (pu (az y3 113) h) fun y26 h=>
 ae (pu (az y26 1) h) fun y27 h=>
 ae (aK y27 h) fun y28 h=>
 ae (C 133 [y25,y28] h) fun _y29 h=>
 some (.tuple #[],h)
theorem t108_eq (C:av) (x0 x1:Value) (h:ak):aY Tryz.prog C Tryz.f108 [x0,x1] h=t108 C x0 x1 h:=
 (aI Tryz.prog C Tryz.f108 [x0,x1] h (by kernel_rfl)).trans (by kernel_rfl)
noncomputable def t113 (C:av) (x0 x1:Value) (h:ak):Out:=
 ae (box x1 h) fun y3 h=>
 ae (some (x0,h)) fun y4 h=>
 ae (pu (az y3 7) h) fun y5 h=>
 ae (aK y5 h) fun y6 h=>
 ae (C 133 [y4,y6] h) fun _y7 h=>
 ae (some (x0,h)) fun y8 h=>
 ae (pu (az y3 8) h) fun y9 h=>
 ae (aK y9 h) fun y10 h=>
 ae (C 133 [y8,y10] h) fun _y11 h=>
 ae (some (x0,h)) fun y12 h=>
 ae (pu (az y3 9) h) fun y13 h=>
 ae (aK y13 h) fun y14 h=>
 ae (dU .u32 y14 h) fun y15 h=>
 ae (C 51 [y12,y15] h) fun _y16 h=>
 ae (some (x0,h)) fun y17 h=>
 ae (pu (az y3 10) h) fun y18 h=>
 ae (pu (bY 32 1 y18 none none none) h) fun y19 h=>
 ae (C 52 [y17,y19] h) fun _y20 h=>
 some (.tuple #[],h)
theorem t113_eq (C:av) (x0 x1:Value) (h:ak):aY Tryz.prog C Tryz.f113 [x0,x1] h=t113 C x0 x1 h:=
 (aI Tryz.prog C Tryz.f113 [x0,x1] h (by kernel_rfl)).trans (by kernel_rfl)
noncomputable def b116_7 (_C:av) (i:Nat) (e:Env) (h:ak):Out:=if i=0 then (ax Tryz.prog Tryz.f116.results.toList) e h else (fun _ _ _=>none) i e h
noncomputable def t116 (C:av) (x0 x1:Value) (h:ak):Out:=
 ae (box x1 h) fun y3 h=>
 ae (some (x0,h)) fun y8 h=>
 ae (pu (az y3 7) h) fun y9 h=>
 ae (aK y9 h) fun y10 h=>
 ae (C 133 [y8,y10] h) fun y11 h=>
 ae (some (x0,h)) fun y12 h=>
 ae (pu (az y3 8) h) fun y13 h=>
 ae (aK y13 h) fun y14 h=>
 ae (C 133 [y12,y14] h) fun y15 h=>
 ae (pu (az y3 43) h) fun y16 h=>
 ae (aK y16 h) fun y17 h=>
 (match y17 with
 | .bool true=>
 ae (some (x0,h)) fun y18 h=>
 ae (C 50 [y18,(.int .u8 1)] h) fun y19 h=>
 ae (some (x0,h)) fun y22 h=>
 ae (pu (az y3 42) h) fun y23 h=>
 ae (aK y23 h) fun y24 h=>
 ae (pu (bE y24) h) fun y25 h=>
 ae (dU .u16 y25 h) fun y26 h=>
 ae (C 49 [y22,y26] h) fun y27 h=>
 ae (pu (az y3 42) h) fun y28 h=>
 ae (aK y28 h) fun y29 h=>
 ae (pu (bE y29) h) fun y30 h=>
 ae (some ((.int .i64 0),h)) fun y31 h=>
 ei (iter (aL Tryz.prog C (partOf Tryz.f116 [1,1,1,1,1,1,0,0])) rounds (aX 44 (up (bs [x0,x1]) [(3,y3),(8,y8),(9,y9),(10,y10),(11,y11),(12,y12),(13,y13),(14,y14),(15,y15),(16,y16),(17,y17),(18,y18),(19,y19),(22,y22),(23,y23),(24,y24),(25,y25),(26,y26),(27,y27),(28,y28),(29,y29),(30,y30),(31,y31)])) h) (ax Tryz.prog Tryz.f116.results.toList) (b116_7 C)
 | .bool false=>
 ae (some (x0,h)) fun y20 h=>
 ae (C 50 [y20,(.int .u8 0)] h) fun y21 h=>
 ae (some (x0,h)) fun y22 h=>
 ae (pu (az y3 42) h) fun y23 h=>
 ae (aK y23 h) fun y24 h=>
 ae (pu (bE y24) h) fun y25 h=>
 ae (dU .u16 y25 h) fun y26 h=>
 ae (C 49 [y22,y26] h) fun y27 h=>
 ae (pu (az y3 42) h) fun y28 h=>
 ae (aK y28 h) fun y29 h=>
 ae (pu (bE y29) h) fun y30 h=>
 ae (some ((.int .i64 0),h)) fun y31 h=>
 ei (iter (aL Tryz.prog C (partOf Tryz.f116 [1,1,1,1,1,1,0,0])) rounds (aX 44 (up (bs [x0,x1]) [(3,y3),(8,y8),(9,y9),(10,y10),(11,y11),(12,y12),(13,y13),(14,y14),(15,y15),(16,y16),(17,y17),(20,y20),(21,y21),(22,y22),(23,y23),(24,y24),(25,y25),(26,y26),(27,y27),(28,y28),(29,y29),(30,y30),(31,y31)])) h) (ax Tryz.prog Tryz.f116.results.toList) (b116_7 C)
 |_=>none)
noncomputable def eR (C:av) (x:Nat→Value) (h:ak):Option (Ex×Env×ak):=
 ae (pu (bin Tryz.prog .lss 3 (x 31) (x 30)) h) fun y32 h=>
 (match y32 with
 | .bool true=>
 ae (pu (cD 39 (x 29) (x 31)) h) fun y33 h=>
 ae (bP 39 y33 h) fun y34 h=>
 ae (fz [(.int .u8 0),(.int .u8 0),(.int .u8 0),(.int .u8 0),(.int .u8 0),(.int .u8 0),(.int .u8 0),(.int .u8 0),(.int .u8 0),(.int .u8 0),(.int .u8 0),(.int .u8 0),(.int .u8 0),(.int .u8 0),(.int .u8 0),(.int .u8 0),(.int .u8 0),(.int .u8 0),(.int .u8 0),(.int .u8 0),(.int .u8 0),(.int .u8 0),(.int .u8 0),(.int .u8 0),(.int .u8 0),(.int .u8 0),(.int .u8 0),(.int .u8 0),(.int .u8 0),(.int .u8 0),(.int .u8 0),(.int .u8 0),(.int .u8 0),(.int .i64 0),(.int .u64 0),(.int .u64 0),(.bool false),(.int .i64 0),(.int .i64 0)] h) fun y5 h=>
 ae (dH 39 y5 y34 h) fun _ h=>
 ae (bP 39 y5 h) fun y36 h=>
 ae (C 139 [y36] h) fun y37 h=>
 ae (some (y37,h)) fun y35 h=>
 ae (pu (aV y35 0) h) fun y38 h=>
 ae (pu (aV y35 1) h) fun y39 h=>
 ae (some (y38,h)) fun y6 h=>
 ae (some (y39,h)) fun y7 h=>
 ae (some ((x 0),h)) fun y40 h=>
 ae (some (y6,h)) fun y41 h=>
 ae (C 52 [y40,y41] h) fun y42 h=>
 ae (pu (bin Tryz.prog .add 3 (x 31) (.int .i64 1)) h) fun y43 h=>
 ae (some (y43,h)) fun y31 h=>
 some (.normal,(aX 44 (up x [(5,y5),(6,y6),(7,y7),(31,y31),(32,y32),(33,y33),(34,y34),(35,y35),(36,y36),(37,y37),(38,y38),(39,y39),(40,y40),(41,y41),(42,y42),(43,y43)])),h)
 | .bool false=>
 some (.exit 0,(aX 44 (up x [(32,y32)])),h)
 |_=>none)
theorem t116_eq (C:av) (x0 x1:Value) (h:ak):aY Tryz.prog C Tryz.f116 [x0,x1] h=t116 C x0 x1 h:=
 (aI Tryz.prog C Tryz.f116 [x0,x1] h (by kernel_rfl)).trans (by kernel_rfl)
theorem t116l116_1111110_eq (C:av) (x:Nat→Value) (h:ak):aL Tryz.prog C (partOf Tryz.f116 [1,1,1,1,1,1,0,0]) (aX 44 x) h=eR C x h:=
 bn (T:=eR C) (fun x h=>by kernel_rfl) x h
noncomputable def t120 (C:av) (x0 x1:Value) (h:ak):Out:=
 ae (box x1 h) fun y3 h=>
 ae (some (x0,h)) fun y4 h=>
 ae (pu (az y3 44) h) fun y5 h=>
 ae (pu (bY 32 1 y5 none none none) h) fun y6 h=>
 ae (C 52 [y4,y6] h) fun _y7 h=>
 ae (some (x0,h)) fun y8 h=>
 ae (pu (az y3 115) h) fun y9 h=>
 ae (aK y9 h) fun y10 h=>
 ae (dU .u16 y10 h) fun y11 h=>
 ae (C 49 [y8,y11] h) fun _y12 h=>
 some (.tuple #[],h)
theorem t120_eq (C:av) (x0 x1:Value) (h:ak):aY Tryz.prog C Tryz.f120 [x0,x1] h=t120 C x0 x1 h:=
 (aI Tryz.prog C Tryz.f120 [x0,x1] h (by kernel_rfl)).trans (by kernel_rfl)
noncomputable def b127_2 (_C:av) (i:Nat) (e:Env) (h:ak):Out:=if i=0 then (ax Tryz.prog Tryz.f127.results.toList) e h else (fun _ _ _=>none) i e h
noncomputable def t127 (C:av) (x0 x1:Value) (h:ak):Out:=
 ae (some (x0,h)) fun y6 h=>
 ae (some (x1,h)) fun y7 h=>
 ae (pu (bE y7) h) fun y8 h=>
 ae (dU .u8 y8 h) fun y9 h=>
 ae (C 50 [y6,y9] h) fun y10 h=>
 ae (some (x1,h)) fun y11 h=>
 ae (pu (bE y11) h) fun y12 h=>
 ae (some ((.int .i64 0),h)) fun y13 h=>
 ei (iter (aL Tryz.prog C (partOf Tryz.f127 [1,1,0,0])) rounds (aX 26 (up (bs [x0,x1]) [(6,y6),(7,y7),(8,y8),(9,y9),(10,y10),(11,y11),(12,y12),(13,y13)])) h) (ax Tryz.prog Tryz.f127.results.toList) (b127_2 C)
noncomputable def t127l127_110 (C:av) (x:Nat→Value) (h:ak):Option (Ex×Env×ak):=
 ae (pu (bin Tryz.prog .lss 3 (x 13) (x 12)) h) fun y14 h=>
 (match y14 with
 | .bool true=>
 ae (pu (cD 2 (x 11) (x 13)) h) fun y15 h=>
 ae (bP 2 y15 h) fun y16 h=>
 ae (fz [(.int .u64 0),(.int .u8 0)] h) fun y5 h=>
 ae (dH 2 y5 y16 h) fun _ h=>
 ae (some ((x 0),h)) fun y17 h=>
 ae (pu (az y5 0) h) fun y18 h=>
 ae (aK y18 h) fun y19 h=>
 ae (C 126 [y17,y19] h) fun y20 h=>
 ae (some ((x 0),h)) fun y21 h=>
 ae (pu (az y5 1) h) fun y22 h=>
 ae (aK y22 h) fun y23 h=>
 ae (C 50 [y21,y23] h) fun y24 h=>
 ae (pu (bin Tryz.prog .add 3 (x 13) (.int .i64 1)) h) fun y25 h=>
 ae (some (y25,h)) fun y13 h=>
 some (.normal,(aX 26 (up x [(5,y5),(13,y13),(14,y14),(15,y15),(16,y16),(17,y17),(18,y18),(19,y19),(20,y20),(21,y21),(22,y22),(23,y23),(24,y24),(25,y25)])),h)
 | .bool false=>
 some (.exit 0,(aX 26 (up x [(14,y14)])),h)
 |_=>none)
theorem t127_eq (C:av) (x0 x1:Value) (h:ak):aY Tryz.prog C Tryz.f127 [x0,x1] h=t127 C x0 x1 h:=
 (aI Tryz.prog C Tryz.f127 [x0,x1] h (by kernel_rfl)).trans (by kernel_rfl)
theorem t127l127_110_eq (C:av) (x:Nat→Value) (h:ak):aL Tryz.prog C (partOf Tryz.f127 [1,1,0,0]) (aX 26 x) h=t127l127_110 C x h:=
 bn (T:=t127l127_110 C) (fun x h=>by kernel_rfl) x h
noncomputable def k132_12 (C:av) (e:Env) (h:ak):Out:=br Tryz.prog C (partOf Tryz.f132 [1,1,1,1,1,1,1,1,1,1]) e h (ax Tryz.prog Tryz.f132.results.toList) (ax Tryz.prog Tryz.f132.results.toList) (fun _ _ _=>none)
noncomputable def b132_14 (C:av) (i:Nat) (e:Env) (h:ak):Out:=if i=0 then (k132_12 C) e h else (fun _ _ _=>none) i e h
noncomputable def t132 (C:av) (x0:Value) (h:ak):Out:=
 ae (box x0 h) fun y1 h=>
 ae (some ((.slice none 0 0),h)) fun y2 h=>
 ae (some ((.int .i64 0),h)) fun y3 h=>
 ae (bP 37 y1 h) fun y8 h=>
 ae (C 131 [y8] h) fun y9 h=>
 ae (some (y9,h)) fun y4 h=>
 ae (some (y4,h)) fun y10 h=>
 ae (pu (bin Tryz.prog .neq 35 y10 (.int .i64 0)) h) fun y11 h=>
 (match y11 with
 | .bool true=>
 ae (some (y4,h)) fun y12 h=>
 ae (some ((.slice none 0 0),h)) fun y2_1 h=>
 ae (some (y12,h)) fun y3_1 h=>
 some (.tuple #[y2_1,y3_1],h)
 | .bool false=>
 ae (pu (az y1 2) h) fun y13 h=>
 ae (aK y13 h) fun y14 h=>
 ae (pu (bin Tryz.prog .mul 3 (.int .i64 32) y14) h) fun y15 h=>
 ae (pu (bin Tryz.prog .add 3 (.int .i64 39) y15) h) fun y16 h=>
 ae (C 47 [y16] h) fun y17 h=>
 ae (some (y17,h)) fun y5 h=>
 ae (some (y5,h)) fun y18 h=>
 ae (C 49 [y18,(.int .u16 19713)] h) fun y19 h=>
 ae (some (y5,h)) fun y20 h=>
 ae (pu (az y1 0) h) fun y21 h=>
 ae (aK y21 h) fun y22 h=>
 ae (dU .u8 y22 h) fun y23 h=>
 ae (C 50 [y20,y23] h) fun y24 h=>
 ae (some (y5,h)) fun y25 h=>
 ae (pu (az y1 1) h) fun y26 h=>
 ae (aK y26 h) fun y27 h=>
 ae (dU .u8 y27 h) fun y28 h=>
 ae (C 50 [y25,y28] h) fun y29 h=>
 ae (some (y5,h)) fun y30 h=>
 ae (pu (az y1 2) h) fun y31 h=>
 ae (aK y31 h) fun y32 h=>
 ae (dU .u8 y32 h) fun y33 h=>
 ae (C 50 [y30,y33] h) fun y34 h=>
 ae (some (y5,h)) fun y35 h=>
 ae (pu (az y1 3) h) fun y36 h=>
 ae (aK y36 h) fun y37 h=>
 ae (dU .u16 y37 h) fun y38 h=>
 ae (C 49 [y35,y38] h) fun y39 h=>
 ae (some (y5,h)) fun y40 h=>
 ae (pu (az y1 4) h) fun y41 h=>
 ae (pu (bY 32 1 y41 none none none) h) fun y42 h=>
 ae (C 52 [y40,y42] h) fun y43 h=>
 ae (pu (az y1 36) h) fun y44 h=>
 ae (aK y44 h) fun y45 h=>
 ae (pu (bE y45) h) fun y46 h=>
 ae (some ((.int .i64 0),h)) fun y47 h=>
 ei (iter (aL Tryz.prog C (partOf Tryz.f132 [1,1,1,1,1,1,1,1,1,0,1,0,0])) rounds (aX 59 (up (bs [x0]) [(1,y1),(2,y2),(3,y3),(4,y4),(5,y5),(8,y8),(9,y9),(10,y10),(11,y11),(13,y13),(14,y14),(15,y15),(16,y16),(17,y17),(18,y18),(19,y19),(20,y20),(21,y21),(22,y22),(23,y23),(24,y24),(25,y25),(26,y26),(27,y27),(28,y28),(29,y29),(30,y30),(31,y31),(32,y32),(33,y33),(34,y34),(35,y35),(36,y36),(37,y37),(38,y38),(39,y39),(40,y40),(41,y41),(42,y42),(43,y43),(44,y44),(45,y45),(46,y46),(47,y47)])) h) (ax Tryz.prog Tryz.f132.results.toList) (b132_14 C)
 |_=>none)
noncomputable def t132k132_12 (C:av) (x:Nat→Value) (h:ak):Out:=
 ae (some ((x 5),h)) fun y55 h=>
 ae (C 48 [y55] h) fun y56 h=>
 ae (pu (aV y56 0) h) fun y57 h=>
 ae (pu (aV y56 1) h) fun y58 h=>
 ae (some (y57,h)) fun y2 h=>
 ae (some (y58,h)) fun y3 h=>
 some (.tuple #[y2,y3],h)
noncomputable def dc (C:av) (x:Nat→Value) (h:ak):Option (Ex×Env×ak):=
 ae (pu (bin Tryz.prog .lss 3 (x 47) (x 46)) h) fun y48 h=>
 (match y48 with
 | .bool true=>
 ae (pu (cD 32 (x 45) (x 47)) h) fun y49 h=>
 ae (bP 32 y49 h) fun y50 h=>
 ae (fz (List.replicate 32 (.int .u8 0)) h) fun y7 h=>
 ae (dH 32 y7 y50 h) fun _ h=>
 ae (some ((x 5),h)) fun y51 h=>
 ae (pu (bY 32 1 y7 none none none) h) fun y52 h=>
 ae (C 52 [y51,y52] h) fun y53 h=>
 ae (pu (bin Tryz.prog .add 3 (x 47) (.int .i64 1)) h) fun y54 h=>
 ae (some (y54,h)) fun y47 h=>
 some (.normal,(aX 59 (up x [(7,y7),(47,y47),(48,y48),(49,y49),(50,y50),(51,y51),(52,y52),(53,y53),(54,y54)])),h)
 | .bool false=>
 some (.exit 0,(aX 59 (up x [(48,y48)])),h)
 |_=>none)
theorem t132_eq (C:av) (x0:Value) (h:ak):aY Tryz.prog C Tryz.f132 [x0] h=t132 C x0 h:=
 (aI Tryz.prog C Tryz.f132 [x0] h (by kernel_rfl)).trans (by kernel_rfl)
theorem t132k132_12_eq (C:av) (x:Nat→Value) (h:ak):k132_12 C (aX 59 x) h=t132k132_12 C x h:=
 bq (b:=(partOf Tryz.f132 [1,1,1,1,1,1,1,1,1,1])) (kE:=(ax Tryz.prog Tryz.f132.results.toList)) (rE:=(ax Tryz.prog Tryz.f132.results.toList)) (xE:=(fun _ _ _=>none)) (T:=t132k132_12 C) (fun x h=>by kernel_rfl) x h
theorem t132l132_111111111010_eq (C:av) (x:Nat→Value) (h:ak):aL Tryz.prog C (partOf Tryz.f132 [1,1,1,1,1,1,1,1,1,0,1,0,0]) (aX 59 x) h=dc C x h:=
 bn (T:=dc C) (fun x h=>by kernel_rfl) x h
noncomputable def t139 (C:av) (x0:Value) (h:ak):Out:=
 ae (box x0 h) fun y1 h=>
 ae (some ((.slice none 0 0),h)) fun _y2 h=>
 ae (some ((.int .i64 0),h)) fun _y3 h=>
 ae (bP 39 y1 h) fun y7 h=>
 ae (C 138 [y7] h) fun y8 h=>
 ae (pu (unA .not y8) h) fun y9 h=>
 (match y9 with
 | .bool true=>
 ae (some ((.slice none 0 0),h)) fun y2_1 h=>
 ae (some ((.int .i64 2),h)) fun y3_1 h=>
 some (.tuple #[y2_1,y3_1],h)
 | .bool false=>
 ae (C 47 [(.int .i64 53)] h) fun y10 h=>
 ae (some (y10,h)) fun y4 h=>
 ae (some (y4,h)) fun y11 h=>
 ae (pu (az y1 0) h) fun y12 h=>
 ae (aK y12 h) fun y13 h=>
 ae (C 50 [y11,y13] h) fun _y14 h=>
 ae (some (y4,h)) fun y15 h=>
 ae (pu (az y1 1) h) fun y16 h=>
 ae (pu (bY 32 1 y16 none none none) h) fun y17 h=>
 ae (C 52 [y15,y17] h) fun _y18 h=>
 ae (some (y4,h)) fun y19 h=>
 ae (pu (az y1 33) h) fun y20 h=>
 ae (aK y20 h) fun y21 h=>
 ae (dU .u8 y21 h) fun y22 h=>
 ae (C 50 [y19,y22] h) fun _y23 h=>
 ae (some (y4,h)) fun y24 h=>
 ae (pu (az y1 34) h) fun y25 h=>
 ae (aK y25 h) fun y26 h=>
 ae (C 126 [y24,y26] h) fun _y27 h=>
 ae (some (y4,h)) fun y28 h=>
 ae (pu (az y1 35) h) fun y29 h=>
 ae (aK y29 h) fun y30 h=>
 ae (C 126 [y28,y30] h) fun _y31 h=>
 ae (some (y4,h)) fun y32 h=>
 ae (C 50 [y32,(.int .u8 0)] h) fun _y33 h=>
 ae (some (y4,h)) fun y34 h=>
 ae (pu (az y1 37) h) fun y35 h=>
 ae (aK y35 h) fun y36 h=>
 ae (dU .u8 y36 h) fun y37 h=>
 ae (C 50 [y34,y37] h) fun _y38 h=>
 ae (some (y4,h)) fun y39 h=>
 ae (pu (az y1 38) h) fun y40 h=>
 ae (aK y40 h) fun y41 h=>
 ae (dU .u8 y41 h) fun y42 h=>
 ae (C 50 [y39,y42] h) fun _y43 h=>
 ae (some (y4,h)) fun y45 h=>
 ae (C 48 [y45] h) fun y46 h=>
 ae (some (y46,h)) fun y44 h=>
 ae (pu (aV y44 0) h) fun y47 h=>
 ae (pu (aV y44 1) h) fun y48 h=>
 ae (some (y47,h)) fun y5 h=>
 ae (some (y48,h)) fun y6 h=>
 ae (pu (az y1 36) h) fun y49 h=>
 ae (aK y49 h) fun y50 h=>
 (match y50 with
 | .bool true=>
 ae (some (y5,h)) fun y51 h=>
 ae (some (y5,h)) fun y52 h=>
 ae (pu (bE y52) h) fun y53 h=>
 ae (pu (bin Tryz.prog .sub 3 y53 (.int .i64 3)) h) fun y54 h=>
 ae (pu (cD 1 y51 y54) h) fun y55 h=>
 ae (dH 1 y55 (.int .u8 1) h) fun _ h=>
 ae (some (y5,h)) fun y56 h=>
 ae (some (y6,h)) fun y57 h=>
 ae (some (y56,h)) fun y2_1 h=>
 ae (some (y57,h)) fun y3_1 h=>
 some (.tuple #[y2_1,y3_1],h)
 | .bool false=>
 ae (some (y5,h)) fun y56 h=>
 ae (some (y6,h)) fun y57 h=>
 ae (some (y56,h)) fun y2_1 h=>
 ae (some (y57,h)) fun y3_1 h=>
 some (.tuple #[y2_1,y3_1],h)
 |_=>none)
 |_=>none)
theorem t139_eq (C:av) (x0:Value) (h:ak):aY Tryz.prog C Tryz.f139 [x0] h=t139 C x0 h:=
 (aI Tryz.prog C Tryz.f139 [x0] h (by kernel_rfl)).trans (by kernel_rfl)
end Go.Proofs.YtjghlcdidopcpaaGreatDoor

namespace Go.Proofs.YtjghlcdidopcpaaGreatDoor
open Go Go.Abs
end Go.Proofs.YtjghlcdidopcpaaGreatDoor

namespace Go.Proofs.YtjghlcdidopcpaaGreatDoor
open Go Go.Abs
noncomputable def t59 (_C:av) (x0:Value) (h:ak):Out:=
 ae (some ((.bool false),h)) fun _y2 h=>
 ae (some (x0,h)) fun y3 h=>
 ae (pu (bin Tryz.prog .geq 3 y3 (.int .i64 0)) h) fun y4 h=>
 ae (some (y4,h)) fun y5 h=>
 ae (al (aH y5==some true) (some (x0,h)) h) fun y6 h=>
 ae (al (aH y5==some true) (pu (bin Tryz.prog .leq 3 y6 (.int .i64 15)) h) h) fun y7 h=>
 ae (match y5 with | .bool t=>some (if t then y7 else (.bool false),h)|_=>none) fun y8 h=>
 ae (some (y8,h)) fun y2_1 h=>
 some (y2_1,h)
theorem t59_eq (C:av) (x0:Value) (h:ak):aY Tryz.prog C Tryz.f59 [x0] h=t59 C x0 h:=
 (aI Tryz.prog C Tryz.f59 [x0] h (by kernel_rfl)).trans (by kernel_rfl)
noncomputable def k61_4 (C:av) (e:Env) (h:ak):Out:=br Tryz.prog C (partOf Tryz.f61 [1,1,1]) e h (ax Tryz.prog Tryz.f61.results.toList) (ax Tryz.prog Tryz.f61.results.toList) (fun _ _ _=>none)
noncomputable def b61_6 (C:av) (i:Nat) (e:Env) (h:ak):Out:=if i=0 then (k61_4 C) e h else (fun _ _ _=>none) i e h
noncomputable def t61 (C:av) (x0:Value) (h:ak):Out:=
 ae (some ((.bool false),h)) fun y2 h=>
 ae (some (x0,h)) fun y4 h=>
 ae (pu (bE y4) h) fun y5 h=>
 ae (pu (bin Tryz.prog .lss 3 y5 (.int .i64 1)) h) fun y6 h=>
 ae (some (y6,h)) fun y7 h=>
 ae (al (aH y7==some false) (some (x0,h)) h) fun y8 h=>
 ae (al (aH y7==some false) (pu (bE y8) h) h) fun y9 h=>
 ae (al (aH y7==some false) (pu (bin Tryz.prog .gtr 3 y9 (.int .i64 16)) h) h) fun y10 h=>
 ae (match y7 with | .bool t=>some (if t then (.bool true) else y10,h)|_=>none) fun y11 h=>
 (match y11 with
 | .bool true=>
 ae (some ((.bool false),h)) fun y2_1 h=>
 some (y2_1,h)
 | .bool false=>
 ae (some ((.int .i64 0),h)) fun y3 h=>
 ei (iter (aL Tryz.prog C (partOf Tryz.f61 [1,1,0,1,0,0])) rounds (aX 24 (up (bs [x0]) [(2,y2),(3,y3),(4,y4),(5,y5),(6,y6),(7,y7),(8,y8),(9,y9),(10,y10),(11,y11)])) h) (ax Tryz.prog Tryz.f61.results.toList) (b61_6 C)
 |_=>none)
noncomputable def t61k61_4 (_C:av) (_x:Nat→Value) (h:ak):Out:=
 ae (some ((.bool true),h)) fun y2 h=>
 some (y2,h)
noncomputable def t61l61_11010 (C:av) (x:Nat→Value) (h:ak):Option (Ex×Env×ak):=
 ae (some ((x 3),h)) fun y12 h=>
 ae (some ((x 0),h)) fun y13 h=>
 ae (pu (bE y13) h) fun y14 h=>
 ae (pu (bin Tryz.prog .lss 3 y12 y14) h) fun y15 h=>
 (match y15 with
 | .bool true=>
 ae (some ((x 0),h)) fun y18 h=>
 ae (some ((x 3),h)) fun y19 h=>
 ae (pu (cD 2 y18 y19) h) fun y20 h=>
 ae (bP 2 y20 h) fun y21 h=>
 ae (C 91 [y21] h) fun y22 h=>
 ae (pu (unA .not y22) h) fun y23 h=>
 (match y23 with
 | .bool true=>
 ae (some ((.bool false),h)) fun y2 h=>
 some (.ret,(aX 24 (up x [(2,y2),(12,y12),(13,y13),(14,y14),(15,y15),(18,y18),(19,y19),(20,y20),(21,y21),(22,y22),(23,y23)])),h)
 | .bool false=>
 ae (some ((x 3),h)) fun y16 h=>
 ae (pu (bin Tryz.prog .add 3 y16 (.int .i64 1)) h) fun y17 h=>
 ae (some (y17,h)) fun y3 h=>
 some (.normal,(aX 24 (up x [(3,y3),(12,y12),(13,y13),(14,y14),(15,y15),(16,y16),(17,y17),(18,y18),(19,y19),(20,y20),(21,y21),(22,y22),(23,y23)])),h)
 |_=>none)
 | .bool false=>
 some (.exit 0,(aX 24 (up x [(12,y12),(13,y13),(14,y14),(15,y15)])),h)
 |_=>none)
theorem t61_eq (C:av) (x0:Value) (h:ak):aY Tryz.prog C Tryz.f61 [x0] h=t61 C x0 h:=
 (aI Tryz.prog C Tryz.f61 [x0] h (by kernel_rfl)).trans (by kernel_rfl)
theorem t61k61_4_eq (C:av) (x:Nat→Value) (h:ak):k61_4 C (aX 24 x) h=t61k61_4 C x h:=
 bq (b:=(partOf Tryz.f61 [1,1,1])) (kE:=(ax Tryz.prog Tryz.f61.results.toList)) (rE:=(ax Tryz.prog Tryz.f61.results.toList)) (xE:=(fun _ _ _=>none)) (T:=t61k61_4 C) (fun x h=>by kernel_rfl) x h
theorem t61l61_11010_eq (C:av) (x:Nat→Value) (h:ak):aL Tryz.prog C (partOf Tryz.f61 [1,1,0,1,0,0]) (aX 24 x) h=t61l61_11010 C x h:=
 bn (T:=t61l61_11010 C) (fun x h=>by kernel_rfl) x h
noncomputable def t62 (_C:av) (x0:Value) (h:ak):Out:=
 ae (box x0 h) fun y1 h=>
 ae (some ((.bool false),h)) fun _y2 h=>
 ae (pu (az y1 33) h) fun y5 h=>
 ae (aK y5 h) fun y6 h=>
 ae (pu (bin Tryz.prog .geq 3 y6 (.int .i64 0)) h) fun y7 h=>
 ae (some (y7,h)) fun y8 h=>
 ae (al (aH y8==some true) (pu (az y1 33) h) h) fun y9 h=>
 ae (al (aH y8==some true) (aK y9 h) h) fun y10 h=>
 ae (al (aH y8==some true) (pu (bin Tryz.prog .leq 3 y10 (.int .i64 15)) h) h) fun y11 h=>
 ae (match y8 with | .bool t=>some (if t then y11 else (.bool false),h)|_=>none) fun y12 h=>
 ae (some (y12,h)) fun y13 h=>
 ae (al (aH y13==some true) (pu (az y1 34) h) h) fun y14 h=>
 ae (al (aH y13==some true) (aK y14 h) h) fun y15 h=>
 ae (al (aH y13==some true) (pu (bin Tryz.prog .geq 25 y15 (.int .u64 1)) h) h) fun y16 h=>
 ae (match y13 with | .bool t=>some (if t then y16 else (.bool false),h)|_=>none) fun y17 h=>
 ae (some (y17,h)) fun y3 h=>
 ae (pu (az y1 35) h) fun y18 h=>
 ae (aK y18 h) fun y19 h=>
 ae (pu (bin Tryz.prog .eql 25 y19 (.int .u64 0)) h) fun y20 h=>
 ae (some (y20,h)) fun y21 h=>
 ae (al (aH y21==some true) (pu (az y1 36) h) h) fun y22 h=>
 ae (al (aH y21==some true) (aK y22 h) h) fun y23 h=>
 ae (al (aH y21==some true) (pu (unA .not y23) h) h) fun y24 h=>
 ae (match y21 with | .bool t=>some (if t then y24 else (.bool false),h)|_=>none) fun y25 h=>
 ae (some (y25,h)) fun y26 h=>
 ae (al (aH y26==some true) (pu (az y1 37) h) h) fun y27 h=>
 ae (al (aH y26==some true) (aK y27 h) h) fun y28 h=>
 ae (al (aH y26==some true) (pu (bin Tryz.prog .eql 3 y28 (.int .i64 0)) h) h) fun y29 h=>
 ae (match y26 with | .bool t=>some (if t then y29 else (.bool false),h)|_=>none) fun y30 h=>
 ae (some (y30,h)) fun y31 h=>
 ae (al (aH y31==some true) (pu (az y1 38) h) h) fun y32 h=>
 ae (al (aH y31==some true) (aK y32 h) h) fun y33 h=>
 ae (al (aH y31==some true) (pu (bin Tryz.prog .eql 3 y33 (.int .i64 0)) h) h) fun y34 h=>
 ae (match y31 with | .bool t=>some (if t then y34 else (.bool false),h)|_=>none) fun y35 h=>
 ae (some (y35,h)) fun y4 h=>
 ae (pu (az y1 0) h) fun y36 h=>
 ae (aK y36 h) fun y37 h=>
 ae (pu (bin Tryz.prog .eql 59 y37 (.int .u8 1)) h) fun y39 h=>
 ae (some (y39,h)) fun y38 h=>
 (match y38 with
 | .bool true=>
 ae (some (y3,h)) fun y40 h=>
 ae (some (y40,h)) fun y41 h=>
 ae (al (aH y41==some true) (some (y4,h)) h) fun y42 h=>
 ae (match y41 with | .bool t=>some (if t then y42 else (.bool false),h)|_=>none) fun y43 h=>
 ae (some (y43,h)) fun y44 h=>
 ae (al (aH y44==some true) (pu (az y1 1) h) h) fun y45 h=>
 ae (al (aH y44==some true) (bP 32 y45 h) h) fun y46 h=>
 ae (al (aH y44==some true) (bP 32 (ptr 0 0) h) h) fun y47 h=>
 ae (al (aH y44==some true) (pu (bin Tryz.prog .eql 28 y46 y47) h) h) fun y48 h=>
 ae (match y44 with | .bool t=>some (if t then y48 else (.bool false),h)|_=>none) fun y49 h=>
 ae (some (y49,h)) fun y2_1 h=>
 some (y2_1,h)
 | .bool false=>
 ae (pu (bin Tryz.prog .eql 59 y37 (.int .u8 2)) h) fun y51 h=>
 ae (some (y51,h)) fun y50 h=>
 (match y50 with
 | .bool true=>
 ae (some (y4,h)) fun y52 h=>
 ae (some (y52,h)) fun y53 h=>
 ae (al (aH y53==some true) (pu (az y1 33) h) h) fun y54 h=>
 ae (al (aH y53==some true) (aK y54 h) h) fun y55 h=>
 ae (al (aH y53==some true) (pu (bin Tryz.prog .eql 3 y55 (.int .i64 0)) h) h) fun y56 h=>
 ae (match y53 with | .bool t=>some (if t then y56 else (.bool false),h)|_=>none) fun y57 h=>
 ae (some (y57,h)) fun y58 h=>
 ae (al (aH y58==some true) (pu (az y1 34) h) h) fun y59 h=>
 ae (al (aH y58==some true) (aK y59 h) h) fun y60 h=>
 ae (al (aH y58==some true) (pu (bin Tryz.prog .eql 25 y60 (.int .u64 0)) h) h) fun y61 h=>
 ae (match y58 with | .bool t=>some (if t then y61 else (.bool false),h)|_=>none) fun y62 h=>
 ae (some (y62,h)) fun y2_1 h=>
 some (y2_1,h)
 | .bool false=>
 ae (pu (bin Tryz.prog .eql 59 y37 (.int .u8 3)) h) fun y64 h=>
 ae (some (y64,h)) fun y63 h=>
 (match y63 with
 | .bool true=>
 ae (some (y3,h)) fun y65 h=>
 ae (some (y65,h)) fun y66 h=>
 ae (al (aH y66==some true) (pu (az y1 35) h) h) fun y67 h=>
 ae (al (aH y66==some true) (aK y67 h) h) fun y68 h=>
 ae (al (aH y66==some true) (pu (bin Tryz.prog .geq 25 y68 (.int .u64 1)) h) h) fun y69 h=>
 ae (match y66 with | .bool t=>some (if t then y69 else (.bool false),h)|_=>none) fun y70 h=>
 ae (some (y70,h)) fun y71 h=>
 ae (al (aH y71==some true) (pu (az y1 37) h) h) fun y72 h=>
 ae (al (aH y71==some true) (aK y72 h) h) fun y73 h=>
 ae (al (aH y71==some true) (pu (bin Tryz.prog .leq 3 (.int .i64 1) y73) h) h) fun y74 h=>
 ae (match y71 with | .bool t=>some (if t then y74 else (.bool false),h)|_=>none) fun y75 h=>
 ae (some (y75,h)) fun y76 h=>
 ae (al (aH y76==some true) (pu (az y1 37) h) h) fun y77 h=>
 ae (al (aH y76==some true) (aK y77 h) h) fun y78 h=>
 ae (al (aH y76==some true) (pu (az y1 38) h) h) fun y79 h=>
 ae (al (aH y76==some true) (aK y79 h) h) fun y80 h=>
 ae (al (aH y76==some true) (pu (bin Tryz.prog .leq 3 y78 y80) h) h) fun y81 h=>
 ae (match y76 with | .bool t=>some (if t then y81 else (.bool false),h)|_=>none) fun y82 h=>
 ae (some (y82,h)) fun y83 h=>
 ae (al (aH y83==some true) (pu (az y1 38) h) h) fun y84 h=>
 ae (al (aH y83==some true) (aK y84 h) h) fun y85 h=>
 ae (al (aH y83==some true) (pu (bin Tryz.prog .leq 3 y85 (.int .i64 255)) h) h) fun y86 h=>
 ae (match y83 with | .bool t=>some (if t then y86 else (.bool false),h)|_=>none) fun y87 h=>
 ae (some (y87,h)) fun y2_1 h=>
 some (y2_1,h)
 | .bool false=>
 ae (some ((.bool false),h)) fun y2_1 h=>
 some (y2_1,h)
 |_=>none)
 |_=>none)
 |_=>none)
theorem t62_eq (C:av) (x0:Value) (h:ak):aY Tryz.prog C Tryz.f62 [x0] h=t62 C x0 h:=
 (aI Tryz.prog C Tryz.f62 [x0] h (by kernel_rfl)).trans (by kernel_rfl)
noncomputable def t63 (C:av) (x0:Value) (h:ak):Out:=
 ae (box x0 h) fun y1 h=>
 ae (some ((.bool false),h)) fun _y2 h=>
 ae (pu (az y1 0) h) fun y3 h=>
 ae (aK y3 h) fun y4 h=>
 ae (pu (az y1 1) h) fun y5 h=>
 ae (aK y5 h) fun y6 h=>
 ae (pu (az y1 2) h) fun y7 h=>
 ae (aK y7 h) fun y8 h=>
 ae (C 92 [y4,y6,y8] h) fun y9 h=>
 ae (some (y9,h)) fun y10 h=>
 ae (al (aH y10==some true) (pu (az y1 3) h) h) fun y11 h=>
 ae (al (aH y10==some true) (aK y11 h) h) fun y12 h=>
 ae (al (aH y10==some true) (pu (bin Tryz.prog .geq 3 y12 (.int .i64 0)) h) h) fun y13 h=>
 ae (match y10 with | .bool t=>some (if t then y13 else (.bool false),h)|_=>none) fun y14 h=>
 ae (some (y14,h)) fun y15 h=>
 ae (al (aH y15==some true) (pu (az y1 3) h) h) fun y16 h=>
 ae (al (aH y15==some true) (aK y16 h) h) fun y17 h=>
 ae (al (aH y15==some true) (pu (bin Tryz.prog .leq 3 y17 (.int .i64 8192)) h) h) fun y18 h=>
 ae (match y15 with | .bool t=>some (if t then y18 else (.bool false),h)|_=>none) fun y19 h=>
 ae (some (y19,h)) fun y20 h=>
 ae (al (aH y20==some true) (pu (az y1 36) h) h) fun y21 h=>
 ae (al (aH y20==some true) (aK y21 h) h) fun y22 h=>
 ae (al (aH y20==some true) (pu (bE y22) h) h) fun y23 h=>
 ae (al (aH y20==some true) (pu (az y1 2) h) h) fun y24 h=>
 ae (al (aH y20==some true) (aK y24 h) h) fun y25 h=>
 ae (al (aH y20==some true) (pu (bin Tryz.prog .eql 3 y23 y25) h) h) fun y26 h=>
 ae (match y20 with | .bool t=>some (if t then y26 else (.bool false),h)|_=>none) fun y27 h=>
 ae (some (y27,h)) fun y2_1 h=>
 some (y2_1,h)
theorem t63_eq (C:av) (x0:Value) (h:ak):aY Tryz.prog C Tryz.f63 [x0] h=t63 C x0 h:=
 (aI Tryz.prog C Tryz.f63 [x0] h (by kernel_rfl)).trans (by kernel_rfl)
noncomputable def t90 (_C:av) (x0:Value) (h:ak):Out:=
 ae (some ((.bool false),h)) fun _y2 h=>
 ae (some ((.bool false),h)) fun _y3 h=>
 ae (some ((.bool false),h)) fun _y4 h=>
 ae (some ((.bool false),h)) fun _y5 h=>
 ae (some ((.bool false),h)) fun _y6 h=>
 ae (some (x0,h)) fun y7 h=>
 ae (pu (bin Tryz.prog .leq 24 y7 (.int .u8 3)) h) fun y8 h=>
 ae (some (x0,h)) fun y9 h=>
 ae (pu (bin Tryz.prog .eql 24 y9 (.int .u8 4)) h) fun y10 h=>
 ae (some (y10,h)) fun y11 h=>
 ae (al (aH y11==some false) (some (x0,h)) h) fun y12 h=>
 ae (al (aH y11==some false) (pu (bin Tryz.prog .eql 24 y12 (.int .u8 5)) h) h) fun y13 h=>
 ae (match y11 with | .bool t=>some (if t then (.bool true) else y13,h)|_=>none) fun y14 h=>
 ae (some (x0,h)) fun y15 h=>
 ae (pu (bin Tryz.prog .eql 24 y15 (.int .u8 5)) h) fun y16 h=>
 ae (some (x0,h)) fun y17 h=>
 ae (pu (bin Tryz.prog .geq 24 y17 (.int .u8 6)) h) fun y18 h=>
 ae (some (x0,h)) fun y19 h=>
 ae (pu (bin Tryz.prog .eql 24 y19 (.int .u8 8)) h) fun y20 h=>
 ae (some (y20,h)) fun y21 h=>
 ae (al (aH y21==some false) (some (x0,h)) h) fun y22 h=>
 ae (al (aH y21==some false) (pu (bin Tryz.prog .eql 24 y22 (.int .u8 10)) h) h) fun y23 h=>
 ae (match y21 with | .bool t=>some (if t then (.bool true) else y23,h)|_=>none) fun y24 h=>
 ae (some (y8,h)) fun y2_1 h=>
 ae (some (y14,h)) fun y3_1 h=>
 ae (some (y16,h)) fun y4_1 h=>
 ae (some (y18,h)) fun y5_1 h=>
 ae (some (y24,h)) fun y6_1 h=>
 some (.tuple #[y2_1,y3_1,y4_1,y5_1,y6_1],h)
theorem t90_eq (C:av) (x0:Value) (h:ak):aY Tryz.prog C Tryz.f90 [x0] h=t90 C x0 h:=
 (aI Tryz.prog C Tryz.f90 [x0] h (by kernel_rfl)).trans (by kernel_rfl)
noncomputable def t91 (_C:av) (x0:Value) (h:ak):Out:=
 ae (box x0 h) fun y1 h=>
 ae (some ((.bool false),h)) fun _y2 h=>
 ae (pu (az y1 1) h) fun y3 h=>
 ae (aK y3 h) fun y4 h=>
 ae (pu (bin Tryz.prog .leq 56 y4 (.int .u8 4)) h) fun y5 h=>
 ae (some (y5,h)) fun y6 h=>
 ae (al (aH y6==some true) (pu (az y1 0) h) h) fun y7 h=>
 ae (al (aH y6==some true) (aK y7 h) h) fun y8 h=>
 ae (al (aH y6==some true) (pu (bin Tryz.prog .eql 25 y8 (.int .u64 0)) h) h) fun y9 h=>
 ae (al (aH y6==some true) (pu (az y1 1) h) h) fun y10 h=>
 ae (al (aH y6==some true) (aK y10 h) h) fun y11 h=>
 ae (al (aH y6==some true) (pu (bin Tryz.prog .eql 56 y11 (.int .u8 0)) h) h) fun y12 h=>
 ae (al (aH y6==some true) (pu (bin Tryz.prog .eql 4 y9 y12) h) h) fun y13 h=>
 ae (match y6 with | .bool t=>some (if t then y13 else (.bool false),h)|_=>none) fun y14 h=>
 ae (some (y14,h)) fun y2_1 h=>
 some (y2_1,h)
theorem t91_eq (C:av) (x0:Value) (h:ak):aY Tryz.prog C Tryz.f91 [x0] h=t91 C x0 h:=
 (aI Tryz.prog C Tryz.f91 [x0] h (by kernel_rfl)).trans (by kernel_rfl)
noncomputable def t92 (_C:av) (x0 x1 x2:Value) (h:ak):Out:=
 ae (some ((.bool false),h)) fun _y6 h=>
 ae (some (x0,h)) fun y7 h=>
 ae (pu (bin Tryz.prog .leq 3 (.int .i64 1) y7) h) fun y8 h=>
 ae (some (y8,h)) fun y9 h=>
 ae (al (aH y9==some true) (some (x0,h)) h) fun y10 h=>
 ae (al (aH y9==some true) (some (x1,h)) h) fun y11 h=>
 ae (al (aH y9==some true) (pu (bin Tryz.prog .leq 3 y10 y11) h) h) fun y12 h=>
 ae (match y9 with | .bool t=>some (if t then y12 else (.bool false),h)|_=>none) fun y13 h=>
 ae (some (y13,h)) fun y14 h=>
 ae (al (aH y14==some true) (some (x1,h)) h) fun y15 h=>
 ae (al (aH y14==some true) (some (x2,h)) h) fun y16 h=>
 ae (al (aH y14==some true) (pu (bin Tryz.prog .leq 3 y15 y16) h) h) fun y17 h=>
 ae (match y14 with | .bool t=>some (if t then y17 else (.bool false),h)|_=>none) fun y18 h=>
 ae (some (y18,h)) fun y19 h=>
 ae (al (aH y19==some true) (some (x2,h)) h) fun y20 h=>
 ae (al (aH y19==some true) (pu (bin Tryz.prog .leq 3 y20 (.int .i64 255)) h) h) fun y21 h=>
 ae (match y19 with | .bool t=>some (if t then y21 else (.bool false),h)|_=>none) fun y22 h=>
 ae (some (y22,h)) fun y6_1 h=>
 some (y6_1,h)
theorem t92_eq (C:av) (x0 x1 x2:Value) (h:ak):aY Tryz.prog C Tryz.f92 [x0,x1,x2] h=t92 C x0 x1 x2 h:=
 (aI Tryz.prog C Tryz.f92 [x0,x1,x2] h (by kernel_rfl)).trans (by kernel_rfl)
end Go.Proofs.YtjghlcdidopcpaaGreatDoor

namespace Go.Proofs.YtjghlcdidopcpaaGreatDoor
open Go Go.Abs
noncomputable def k60s0 (C:av) (e:Env) (h:ak):Out:=br Tryz.prog C (partOf Tryz.f60 []) e h (ax Tryz.prog Tryz.f60.results.toList) (ax Tryz.prog Tryz.f60.results.toList) (fun _ _ _=>none)
noncomputable def k60s1 (C:av) (e:Env) (h:ak):Out:=br Tryz.prog C (partOf Tryz.f60 [1]) e h (ax Tryz.prog Tryz.f60.results.toList) (ax Tryz.prog Tryz.f60.results.toList) (fun _ _ _=>none)
noncomputable def k60s2 (C:av) (e:Env) (h:ak):Out:=br Tryz.prog C (partOf Tryz.f60 [1,1]) e h (ax Tryz.prog Tryz.f60.results.toList) (ax Tryz.prog Tryz.f60.results.toList) (fun _ _ _=>none)
noncomputable def k60s3 (C:av) (e:Env) (h:ak):Out:=br Tryz.prog C (partOf Tryz.f60 [1,1,1]) e h (ax Tryz.prog Tryz.f60.results.toList) (ax Tryz.prog Tryz.f60.results.toList) (fun _ _ _=>none)
noncomputable def k60s4 (C:av) (e:Env) (h:ak):Out:=br Tryz.prog C (partOf Tryz.f60 [1,1,1,1]) e h (ax Tryz.prog Tryz.f60.results.toList) (ax Tryz.prog Tryz.f60.results.toList) (fun _ _ _=>none)
noncomputable def k60s5 (C:av) (e:Env) (h:ak):Out:=br Tryz.prog C (partOf Tryz.f60 [1,1,1,1,1]) e h (ax Tryz.prog Tryz.f60.results.toList) (ax Tryz.prog Tryz.f60.results.toList) (fun _ _ _=>none)
noncomputable def k60s6 (C:av) (e:Env) (h:ak):Out:=br Tryz.prog C (partOf Tryz.f60 [1,1,1,1,1,1]) e h (ax Tryz.prog Tryz.f60.results.toList) (ax Tryz.prog Tryz.f60.results.toList) (fun _ _ _=>none)
noncomputable def k60s7 (C:av) (e:Env) (h:ak):Out:=br Tryz.prog C (partOf Tryz.f60 [1,1,1,1,1,1,1]) e h (ax Tryz.prog Tryz.f60.results.toList) (ax Tryz.prog Tryz.f60.results.toList) (fun _ _ _=>none)
noncomputable def k60s8 (C:av) (e:Env) (h:ak):Out:=br Tryz.prog C (partOf Tryz.f60 [1,1,1,1,1,1,1,1]) e h (ax Tryz.prog Tryz.f60.results.toList) (ax Tryz.prog Tryz.f60.results.toList) (fun _ _ _=>none)
noncomputable def k60s9 (C:av) (e:Env) (h:ak):Out:=br Tryz.prog C (partOf Tryz.f60 [1,1,1,1,1,1,1,1,1]) e h (ax Tryz.prog Tryz.f60.results.toList) (ax Tryz.prog Tryz.f60.results.toList) (fun _ _ _=>none)
noncomputable def k60s10 (C:av) (e:Env) (h:ak):Out:=br Tryz.prog C (partOf Tryz.f60 [1,1,1,1,1,1,1,1,1,1]) e h (ax Tryz.prog Tryz.f60.results.toList) (ax Tryz.prog Tryz.f60.results.toList) (fun _ _ _=>none)
noncomputable def t60s0 (C:av) (x:Nat→Value) (h:ak):Out:=
 ae (box (x 0) h) fun y1 h=>
 ae (fz Zl h) fun y2 h=>
 k60s1 C (aX 82 (up x [(1,y1),(2,y2)])) h
theorem t60s0_eq (C:av) (x:Nat→Value) (h:ak):k60s0 C (aX 82 x) h=t60s0 C x h:=
 cH (a:=partOf Tryz.f60 [0]) (c:=partOf Tryz.f60 [1]) (by kernel_rfl) (k60s1 C) rfl (T:=t60s0 C) (fun x h=>by kernel_rfl) x h
noncomputable def t60s1 (C:av) (x:Nat→Value) (h:ak):Out:=
 ae (pu (az (x 1) 0) h) fun y9 h=>
 ae (aK y9 h) fun y10 h=>
 ae (pu (az (x 1) 1) h) fun y11 h=>
 ae (aK y11 h) fun y12 h=>
 ae (pu (az (x 1) 2) h) fun y13 h=>
 ae (aK y13 h) fun y14 h=>
 ae (pu (fq Zl [(0,1,y10),(1,1,y12),(2,1,y14)]) h) fun y15 h=>
 ae (fz Zl h) fun y3 h=>
 ae (dH 116 y3 y15 h) fun _ h=>
 k60s2 C (aX 82 (up x [(3,y3),(9,y9),(10,y10),(11,y11),(12,y12),(13,y13),(14,y14),(15,y15)])) h
theorem t60s1_eq (C:av) (x:Nat→Value) (h:ak):k60s1 C (aX 82 x) h=t60s1 C x h:=
 cH (a:=partOf Tryz.f60 [1,0]) (c:=partOf Tryz.f60 [1,1]) (by kernel_rfl) (k60s2 C) rfl (T:=t60s1 C) (fun x h=>by kernel_rfl) x h
noncomputable def t60s2 (C:av) (x:Nat→Value) (h:ak):Out:=
 ae (pu (az (x 1) 0) h) fun y17 h=>
 ae (aK y17 h) fun y18 h=>
 ae (C 90 [y18] h) fun y19 h=>
 ae (some (y19,h)) fun y16 h=>
 ae (pu (aV y16 0) h) fun y20 h=>
 ae (pu (aV y16 1) h) fun y21 h=>
 ae (pu (aV y16 2) h) fun y22 h=>
 ae (pu (aV y16 3) h) fun y23 h=>
 ae (pu (aV y16 4) h) fun y24 h=>
 ae (some (y20,h)) fun y4 h=>
 ae (some (y21,h)) fun y5 h=>
 ae (some (y22,h)) fun y6 h=>
 ae (some (y23,h)) fun y7 h=>
 ae (some (y24,h)) fun y8 h=>
 k60s3 C (aX 82 (up x [(4,y4),(5,y5),(6,y6),(7,y7),(8,y8),(16,y16),(17,y17),(18,y18),(19,y19),(20,y20),(21,y21),(22,y22),(23,y23),(24,y24)])) h
theorem t60s2_eq (C:av) (x:Nat→Value) (h:ak):k60s2 C (aX 82 x) h=t60s2 C x h:=
 cH (a:=partOf Tryz.f60 [1,1,0]) (c:=partOf Tryz.f60 [1,1,1]) (by kernel_rfl) (k60s3 C) rfl (T:=t60s2 C) (fun x h=>by kernel_rfl) x h
noncomputable def t60s3 (C:av) (x:Nat→Value) (h:ak):Out:=
 ae (some ((x 4),h)) fun y25 h=>
 (match y25 with
 | .bool true=>
 let g2_0:=h
 ae (pu (az (x 1) 3) g2_0) fun y26 g2_1=>
 ae (aK y26 g2_1) fun y27 g2_2=>
 ae (pu (az (x 1) 6) g2_2) fun y28 g2_3=>
 ae (aK y28 g2_3) fun y29 g2_4=>
 ae (pu (az (x 3) 3) g2_4) fun y30 g2_5=>
 ae (dH 1 y30 y27 g2_5) fun _ g2_6=>
 ae (pu (az (x 3) 6) g2_6) fun y31 g2_7=>
 ae (dH 1 y31 y29 g2_7) fun _ g2_8=>
 (match (cF true (aK y28 g2_6) y29&&true) with
 |true=>
 let h:=g2_8
 ae (pu (az (x 1) 0) h) fun y32 h=>
 ae (aK y32 h) fun y33 h=>
 ae (pu (bin Tryz.prog .eql 24 y33 (.int .u8 3)) h) fun y34 h=>
 (match y34 with
 | .bool true=>
 ae (pu (az (x 1) 5) h) fun y35 h=>
 ae (aK y35 h) fun y36 h=>
 ae (pu (az (x 3) 5) h) fun y37 h=>
 ae (dH 1 y37 y36 h) fun _ h=>
 k60s4 C (aX 82 (up x [(25,y25),(26,y26),(27,y27),(28,y28),(29,y29),(30,y30),(31,y31),(32,y32),(33,y33),(34,y34),(35,y35),(36,y36),(37,y37)])) h
 | .bool false=>
 ae (pu (az (x 1) 4) h) fun y38 h=>
 ae (aK y38 h) fun y39 h=>
 ae (pu (az (x 3) 4) h) fun y40 h=>
 ae (dH 1 y40 y39 h) fun _ h=>
 k60s4 C (aX 82 (up x [(25,y25),(26,y26),(27,y27),(28,y28),(29,y29),(30,y30),(31,y31),(32,y32),(33,y33),(34,y34),(38,y38),(39,y39),(40,y40)])) h
 |_=>none)
 |false=>none)
 | .bool false=>
 k60s4 C (aX 82 (up x [(25,y25)])) h
 |_=>none)
theorem t60s3_eq (C:av) (x:Nat→Value) (h:ak):k60s3 C (aX 82 x) h=t60s3 C x h:=
 cH (a:=partOf Tryz.f60 [1,1,1,0]) (c:=partOf Tryz.f60 [1,1,1,1]) (by kernel_rfl) (k60s4 C) rfl (T:=t60s3 C) (fun x h=>by kernel_rfl) x h
noncomputable def t60s4 (C:av) (x:Nat→Value) (h:ak):Out:=
 ae (some ((x 5),h)) fun y41 h=>
 (match y41 with
 | .bool true=>
 let g1_0:=h
 ae (pu (az (x 1) 7) g1_0) fun y42 g1_1=>
 ae (aK y42 g1_1) fun y43 g1_2=>
 ae (pu (az (x 1) 8) g1_2) fun y44 g1_3=>
 ae (aK y44 g1_3) fun y45 g1_4=>
 ae (pu (az (x 3) 7) g1_4) fun y46 g1_5=>
 ae (dH 1 y46 y43 g1_5) fun _ g1_6=>
 ae (pu (az (x 3) 8) g1_6) fun y47 g1_7=>
 ae (dH 1 y47 y45 g1_7) fun _ g1_8=>
 (match (cF true (aK y44 g1_6) y45&&true) with
 |true=>
 let h:=g1_8
 k60s5 C (aX 82 (up x [(41,y41),(42,y42),(43,y43),(44,y44),(45,y45),(46,y46),(47,y47)])) h
 |false=>none)
 | .bool false=>
 k60s5 C (aX 82 (up x [(41,y41)])) h
 |_=>none)
theorem t60s4_eq (C:av) (x:Nat→Value) (h:ak):k60s4 C (aX 82 x) h=t60s4 C x h:=
 cH (a:=partOf Tryz.f60 [1,1,1,1,0]) (c:=partOf Tryz.f60 [1,1,1,1,1]) (by kernel_rfl) (k60s5 C) rfl (T:=t60s4 C) (fun x h=>by kernel_rfl) x h
noncomputable def t60s5 (C:av) (x:Nat→Value) (h:ak):Out:=
 ae (some ((x 6),h)) fun y48 h=>
 (match y48 with
 | .bool true=>
 let g1_0:=h
 ae (pu (az (x 1) 42) g1_0) fun y49 g1_1=>
 ae (aK y49 g1_1) fun y50 g1_2=>
 ae (pu (az (x 1) 43) g1_2) fun y51 g1_3=>
 ae (aK y51 g1_3) fun y52 g1_4=>
 ae (pu (az (x 3) 42) g1_4) fun y53 g1_5=>
 ae (dH 1 y53 y50 g1_5) fun _ g1_6=>
 ae (pu (az (x 3) 43) g1_6) fun y54 g1_7=>
 ae (dH 1 y54 y52 g1_7) fun _ g1_8=>
 (match (cF true (aK y51 g1_6) y52&&true) with
 |true=>
 let h:=g1_8
 k60s6 C (aX 82 (up x [(48,y48),(49,y49),(50,y50),(51,y51),(52,y52),(53,y53),(54,y54)])) h
 |false=>none)
 | .bool false=>
 k60s6 C (aX 82 (up x [(48,y48)])) h
 |_=>none)
theorem t60s5_eq (C:av) (x:Nat→Value) (h:ak):k60s5 C (aX 82 x) h=t60s5 C x h:=
 cH (a:=partOf Tryz.f60 [1,1,1,1,1,0]) (c:=partOf Tryz.f60 [1,1,1,1,1,1]) (by kernel_rfl) (k60s6 C) rfl (T:=t60s5 C) (fun x h=>by kernel_rfl) x h
noncomputable def t60s6 (C:av) (x:Nat→Value) (h:ak):Out:=
 ae (pu (az (x 1) 0) h) fun y55 h=>
 ae (aK y55 h) fun y56 h=>
 ae (pu (bin Tryz.prog .eql 24 y56 (.int .u8 4)) h) fun y57 h=>
 (match y57 with
 | .bool true=>
 let g1_0:=h
 ae (pu (az (x 1) 9) g1_0) fun y58 g1_1=>
 ae (aK y58 g1_1) fun y59 g1_2=>
 ae (pu (az (x 1) 10) g1_2) fun y60 g1_3=>
 ae (bP 32 y60 g1_3) fun y61 g1_4=>
 ae (pu (az (x 3) 9) g1_4) fun y62 g1_5=>
 ae (dH 1 y62 y59 g1_5) fun _ g1_6=>
 ae (pu (az (x 3) 10) g1_6) fun y63 g1_7=>
 ae (dH 32 y63 y61 g1_7) fun _ g1_8=>
 (match (cF true (bP 32 y60 g1_6) y61&&true) with
 |true=>
 let h:=g1_8
 k60s7 C (aX 82 (up x [(55,y55),(56,y56),(57,y57),(58,y58),(59,y59),(60,y60),(61,y61),(62,y62),(63,y63)])) h
 |false=>none)
 | .bool false=>
 k60s7 C (aX 82 (up x [(55,y55),(56,y56),(57,y57)])) h
 |_=>none)
theorem t60s6_eq (C:av) (x:Nat→Value) (h:ak):k60s6 C (aX 82 x) h=t60s6 C x h:=
 cH (a:=partOf Tryz.f60 [1,1,1,1,1,1,0]) (c:=partOf Tryz.f60 [1,1,1,1,1,1,1]) (by kernel_rfl) (k60s7 C) rfl (T:=t60s6 C) (fun x h=>by kernel_rfl) x h
noncomputable def t60s7 (C:av) (x:Nat→Value) (h:ak):Out:=
 ae (some ((x 7),h)) fun y64 h=>
 (match y64 with
 | .bool true=>
 ae (pu (az (x 1) 44) h) fun y65 h=>
 ae (bP 32 y65 h) fun y66 h=>
 ae (pu (az (x 3) 44) h) fun y67 h=>
 ae (dH 32 y67 y66 h) fun _ h=>
 k60s8 C (aX 82 (up x [(64,y64),(65,y65),(66,y66),(67,y67)])) h
 | .bool false=>
 k60s8 C (aX 82 (up x [(64,y64)])) h
 |_=>none)
theorem t60s7_eq (C:av) (x:Nat→Value) (h:ak):k60s7 C (aX 82 x) h=t60s7 C x h:=
 cH (a:=partOf Tryz.f60 [1,1,1,1,1,1,1,0]) (c:=partOf Tryz.f60 [1,1,1,1,1,1,1,1]) (by kernel_rfl) (k60s8 C) rfl (T:=t60s7 C) (fun x h=>by kernel_rfl) x h
noncomputable def t60s8 (C:av) (x:Nat→Value) (h:ak):Out:=
 ae (some ((x 8),h)) fun y68 h=>
 (match y68 with
 | .bool true=>
 let g1_0:=h
 ae (pu (az (x 1) 76) g1_0) fun y69 g1_1=>
 ae (bP 37 y69 g1_1) fun y70 g1_2=>
 ae (pu (az (x 1) 113) g1_2) fun y71 g1_3=>
 ae (bP 2 y71 g1_3) fun y72 g1_4=>
 ae (pu (az (x 3) 76) g1_4) fun y73 g1_5=>
 ae (dH 37 y73 y70 g1_5) fun _ g1_6=>
 ae (pu (az (x 3) 113) g1_6) fun y74 g1_7=>
 ae (dH 2 y74 y72 g1_7) fun _ g1_8=>
 (match (cF true (bP 2 y71 g1_6) y72&&true) with
 |true=>
 let h:=g1_8
 k60s9 C (aX 82 (up x [(68,y68),(69,y69),(70,y70),(71,y71),(72,y72),(73,y73),(74,y74)])) h
 |false=>none)
 | .bool false=>
 k60s9 C (aX 82 (up x [(68,y68)])) h
 |_=>none)
theorem t60s8_eq (C:av) (x:Nat→Value) (h:ak):k60s8 C (aX 82 x) h=t60s8 C x h:=
 cH (a:=partOf Tryz.f60 [1,1,1,1,1,1,1,1,0]) (c:=partOf Tryz.f60 [1,1,1,1,1,1,1,1,1]) (by kernel_rfl) (k60s9 C) rfl (T:=t60s8 C) (fun x h=>by kernel_rfl) x h
noncomputable def t60s9 (C:av) (x:Nat→Value) (h:ak):Out:=
 ae (pu (az (x 1) 0) h) fun y75 h=>
 ae (aK y75 h) fun y76 h=>
 ae (pu (bin Tryz.prog .eql 24 y76 (.int .u8 11)) h) fun y77 h=>
 (match y77 with
 | .bool true=>
 ae (pu (az (x 1) 115) h) fun y78 h=>
 ae (aK y78 h) fun y79 h=>
 ae (pu (az (x 3) 115) h) fun y80 h=>
 ae (dH 1 y80 y79 h) fun _ h=>
 k60s10 C (aX 82 (up x [(75,y75),(76,y76),(77,y77),(78,y78),(79,y79),(80,y80)])) h
 | .bool false=>
 k60s10 C (aX 82 (up x [(75,y75),(76,y76),(77,y77)])) h
 |_=>none)
theorem t60s9_eq (C:av) (x:Nat→Value) (h:ak):k60s9 C (aX 82 x) h=t60s9 C x h:=
 cH (a:=partOf Tryz.f60 [1,1,1,1,1,1,1,1,1,0]) (c:=partOf Tryz.f60 [1,1,1,1,1,1,1,1,1,1]) (by kernel_rfl) (k60s10 C) rfl (T:=t60s9 C) (fun x h=>by kernel_rfl) x h
noncomputable def t60s10 (_C:av) (x:Nat→Value) (h:ak):Out:=
 ae (bP 116 (x 3) h) fun y81 h=>
 ae (dH 116 (x 2) y81 h) fun _ h=>
 ax Tryz.prog Tryz.f60.results.toList (aX 82 (up x [(81,y81)])) h
theorem t60s10_eq (C:av) (x:Nat→Value) (h:ak):k60s10 C (aX 82 x) h=t60s10 C x h:=
 bq (b:=partOf Tryz.f60 [1,1,1,1,1,1,1,1,1,1]) (kE:=(ax Tryz.prog Tryz.f60.results.toList)) (rE:=(ax Tryz.prog Tryz.f60.results.toList)) (xE:=(fun _ _ _=>none)) (T:=t60s10 C) (fun x h=>by kernel_rfl) x h
theorem t60_eq (C:av) (x0:Value) (h:ak):aY Tryz.prog C Tryz.f60 [x0] h=k60s0 C (aX 82 (bs [x0])) h:=by kernel_rfl
end Go.Proofs.YtjghlcdidopcpaaGreatDoor

