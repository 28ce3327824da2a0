/-
  A part of the proof, spaces and names shortened by a program (a claim may hold 1,500,000 bytes).
  Conditions: as each theorem states.
-/
import Derived.Test.YtcmfgmhadeeieaaG5
import Derived.Test.YtcmfgmhadeeieaaProg
import Derived.KernelRfl
namespace Go.Proofs.Ytcmfgmhadeeieaa
open Go Go.Abs
noncomputable def t60 (_C:ak) (x0:Value) (h:af):Out:=
 ad (some ((.pointer none),h)) fun _y2 h=>
 ad (some (x0,h)) fun y3 h=>
 ad (pu (dC true (.int .i64 0) [y3]) h) fun y4 h=>
 ad (pu (ff [(.int .i64 0),(.bool false),(.slice none 0 0)] [(0,1,y4)]) h) fun y5 h=>
 ad (box y5 h) fun y6 h=>
 ad (some (y6,h)) fun y2_1 h=>
 some (y2_1,h)
theorem t60_eq (C:ak) (x0:Value) (h:af):bk Try.prog C Try.f60 [x0] h=t60 C x0 h:=
 (aN Try.prog C Try.f60 [x0] h (by kernel_rfl)).trans (by kernel_rfl)
noncomputable def t61 (C:ak) (x0 x1:Value) (h:af):Out:=
 ad (some (x0,h)) fun y4 h=>
 ad (some (x1,h)) fun y5 h=>
 ad (cvI .u64 y5 h) fun y6 h=>
 ad (C 93 [y4,y6,(.int .i64 4)] h) fun _y7 h=>
 some (.tuple #[],h)
theorem t61_eq (C:ak) (x0 x1:Value) (h:af):bk Try.prog C Try.f61 [x0,x1] h=t61 C x0 x1 h:=
 (aN Try.prog C Try.f61 [x0,x1] h (by kernel_rfl)).trans (by kernel_rfl)
noncomputable def t62 (C:ak) (x0 x1:Value) (h:af):Out:=
 ad (some (x0,h)) fun y4 h=>
 ad (some (x1,h)) fun y5 h=>
 ad (C 93 [y4,y5,(.int .i64 8)] h) fun _y6 h=>
 some (.tuple #[],h)
theorem t62_eq (C:ak) (x0 x1:Value) (h:af):bk Try.prog C Try.f62 [x0,x1] h=t62 C x0 x1 h:=
 (aN Try.prog C Try.f62 [x0,x1] h (by kernel_rfl)).trans (by kernel_rfl)
noncomputable def t63 (C:ak) (x0 x1:Value) (h:af):Out:=
 ad (some (x0,h)) fun y4 h=>
 ad (some (x1,h)) fun y5 h=>
 ad (cvI .u64 y5 h) fun y6 h=>
 ad (C 93 [y4,y6,(.int .i64 1)] h) fun _y7 h=>
 some (.tuple #[],h)
theorem t63_eq (C:ak) (x0 x1:Value) (h:af):bk Try.prog C Try.f63 [x0,x1] h=t63 C x0 x1 h:=
 (aN Try.prog C Try.f63 [x0,x1] h (by kernel_rfl)).trans (by kernel_rfl)
noncomputable def t85 (C:ak) (x0:Value) (h:af):Out:=
 ad (some ((.int .u32 0),h)) fun _y2 h=>
 ad (some (x0,h)) fun y3 h=>
 ad (C 106 [y3,(.int .i64 4)] h) fun y4 h=>
 ad (cvI .u32 y4 h) fun y5 h=>
 ad (some (y5,h)) fun y2_1 h=>
 some (y2_1,h)
theorem t85_eq (C:ak) (x0:Value) (h:af):bk Try.prog C Try.f85 [x0] h=t85 C x0 h:=
 (aN Try.prog C Try.f85 [x0] h (by kernel_rfl)).trans (by kernel_rfl)
noncomputable def t86 (C:ak) (x0:Value) (h:af):Out:=
 ad (some ((.int .u64 0),h)) fun _y2 h=>
 ad (some (x0,h)) fun y3 h=>
 ad (C 106 [y3,(.int .i64 8)] h) fun y4 h=>
 ad (some (y4,h)) fun y2_1 h=>
 some (y2_1,h)
theorem t86_eq (C:ak) (x0:Value) (h:af):bk Try.prog C Try.f86 [x0] h=t86 C x0 h:=
 (aN Try.prog C Try.f86 [x0] h (by kernel_rfl)).trans (by kernel_rfl)
noncomputable def t87 (C:ak) (x0:Value) (h:af):Out:=
 ad (some ((.int .u8 0),h)) fun _y2 h=>
 ad (some (x0,h)) fun y3 h=>
 ad (C 106 [y3,(.int .i64 1)] h) fun y4 h=>
 ad (cvI .u8 y4 h) fun y5 h=>
 ad (some (y5,h)) fun y2_1 h=>
 some (y2_1,h)
theorem t87_eq (C:ak) (x0:Value) (h:af):bk Try.prog C Try.f87 [x0] h=t87 C x0 h:=
 (aN Try.prog C Try.f87 [x0] h (by kernel_rfl)).trans (by kernel_rfl)
noncomputable def t88 (C:ak) (x0:Value) (h:af):Out:=
 ad (some ((.int .u16 0),h)) fun _y2 h=>
 ad (some (x0,h)) fun y3 h=>
 ad (C 106 [y3,(.int .i64 2)] h) fun y4 h=>
 ad (cvI .u16 y4 h) fun y5 h=>
 ad (some (y5,h)) fun y2_1 h=>
 some (y2_1,h)
theorem t88_eq (C:ak) (x0:Value) (h:af):bk Try.prog C Try.f88 [x0] h=t88 C x0 h:=
 (aN Try.prog C Try.f88 [x0] h (by kernel_rfl)).trans (by kernel_rfl)
noncomputable def t89 (C:ak) (x0 x1:Value) (h:af):Out:=
 ad (some ((.slice none 0 0),h)) fun _y4 h=>
 ad (some (x0,h)) fun y5 h=>
 ad (some (x1,h)) fun y6 h=>
 ad (C 108 [y5,y6] h) fun y7 h=>
 ad (C 107 [y7] h) fun y8 h=>
 ad (some (y8,h)) fun y4_1 h=>
 some (y4_1,h)
theorem t89_eq (C:ak) (x0 x1:Value) (h:af):bk Try.prog C Try.f89 [x0,x1] h=t89 C x0 x1 h:=
 (aN Try.prog C Try.f89 [x0,x1] h (by kernel_rfl)).trans (by kernel_rfl)
noncomputable def t90 (_C:ak) (x0:Value) (h:af):Out:=
 ad (some ((.int .i64 0),h)) fun _y2 h=>
 ad (some (x0,h)) fun y3 h=>
 ad (pu (bin Try.prog .eql 134 y3 (.pointer none)) h) fun y4 h=>
 (match y4 with
 | .bool true=>
 ad (some ((.int .i64 1),h)) fun y2_1 h=>
 some (y2_1,h)
 | .bool false=>
 ad (some (x0,h)) fun y5 h=>
 ad (pu (aC y5) h) fun y6 h=>
 ad (pu (aI y6 1) h) fun y7 h=>
 ad (aV y7 h) fun y8 h=>
 ad (some (y8,h)) fun y2_1 h=>
 some (y2_1,h)
 |_=>none)
theorem t90_eq (C:ak) (x0:Value) (h:af):bk Try.prog C Try.f90 [x0] h=t90 C x0 h:=
 (aN Try.prog C Try.f90 [x0] h (by kernel_rfl)).trans (by kernel_rfl)
noncomputable def t91 (C:ak) (x0 x1:Value) (h:af):Out:=
 ad (some (x0,h)) fun y4 h=>
 ad (some (x1,h)) fun y5 h=>
 ad (cvI .u64 y5 h) fun y6 h=>
 ad (C 93 [y4,y6,(.int .i64 2)] h) fun _y7 h=>
 some (.tuple #[],h)
theorem t91_eq (C:ak) (x0 x1:Value) (h:af):bk Try.prog C Try.f91 [x0,x1] h=t91 C x0 x1 h:=
 (aN Try.prog C Try.f91 [x0,x1] h (by kernel_rfl)).trans (by kernel_rfl)
noncomputable def t92 (C:ak) (x0 x1:Value) (h:af):Out:=
 ad (some (x0,h)) fun y4 h=>
 ad (pu (bin Try.prog .eql 110 y4 (.pointer none)) h) fun y5 h=>
 (match y5 with
 | .bool true=>
 some (.tuple #[],h)
 | .bool false=>
 ad (some (x1,h)) fun y6 h=>
 ad (pu (cK y6) h) fun y7 h=>
 ad (pu (bin Try.prog .gtr 3 y7 (.int .i64 65535)) h) fun y8 h=>
 (match y8 with
 | .bool true=>
 ad (some (x0,h)) fun y9 h=>
 ad (pu (aC y9) h) fun bH h=>
 ad (pu (aI bH 1) h) fun bQ h=>
 ad (bK 1 bQ (.bool true) h) fun _ h=>
 some (.tuple #[],h)
 | .bool false=>
 ad (some (x0,h)) fun y12 h=>
 ad (some (x1,h)) fun y13 h=>
 ad (pu (cK y13) h) fun y14 h=>
 ad (pu (bin Try.prog .add 3 y14 (.int .i64 2)) h) fun y15 h=>
 ad (C 109 [y12,y15] h) fun y16 h=>
 (match y16 with
 | .bool true=>
 ad (some (x0,h)) fun y17 h=>
 ad (some (x0,h)) fun y18 h=>
 ad (pu (aC y18) h) fun y19 h=>
 ad (pu (aI y19 2) h) fun y20 h=>
 ad (aV y20 h) fun y21 h=>
 ad (some (x1,h)) fun y22 h=>
 ad (pu (cK y22) h) fun y23 h=>
 ad (pu (bin Try.prog .shr 3 y23 (.int .u64 8)) h) fun y24 h=>
 ad (cvI .u8 y24 h) fun y25 h=>
 ad (some (x1,h)) fun y26 h=>
 ad (pu (cK y26) h) fun y27 h=>
 ad (cvI .u8 y27 h) fun y28 h=>
 ad (dY 1 (.int .u8 0) 2 [(0,y25),(1,y28)] h) fun y29 h=>
 ad (bt 1 1 y21 y29 h) fun y30 h=>
 ad (pu (aC y17) h) fun y31 h=>
 ad (pu (aI y31 2) h) fun y32 h=>
 ad (bK 1 y32 y30 h) fun _ h=>
 ad (some (x0,h)) fun y33 h=>
 ad (some (x0,h)) fun y34 h=>
 ad (pu (aC y34) h) fun y35 h=>
 ad (pu (aI y35 2) h) fun y36 h=>
 ad (aV y36 h) fun y37 h=>
 ad (some (x1,h)) fun y38 h=>
 ad (bt 1 1 y37 y38 h) fun y39 h=>
 ad (pu (aC y33) h) fun y40 h=>
 ad (pu (aI y40 2) h) fun y41 h=>
 ad (bK 1 y41 y39 h) fun _ h=>
 some (.tuple #[],h)
 | .bool false=>
 some (.tuple #[],h)
 |_=>none)
 |_=>none)
 |_=>none)
theorem t92_eq (C:ak) (x0 x1:Value) (h:af):bk Try.prog C Try.f92 [x0,x1] h=t92 C x0 x1 h:=
 (aN Try.prog C Try.f92 [x0,x1] h (by kernel_rfl)).trans (by kernel_rfl)
noncomputable def b93_2 (_C:ak) (i:Nat) (e:Env) (h:af):Out:=if i=0 then (al Try.prog Try.f93.results.toList) e h else (fun _ _ _=>none) i e h
noncomputable def t93 (C:ak) (x0 x1 x2:Value) (h:af):Out:=
 ad (some (x0,h)) fun y7 h=>
 ad (some (x2,h)) fun y8 h=>
 ad (C 109 [y7,y8] h) fun y9 h=>
 (match y9 with
 | .bool true=>
 ad (some (x2,h)) fun bH h=>
 ad (pu (bin Try.prog .sub 3 bH (.int .i64 1)) h) fun bQ h=>
 ad (some (bQ,h)) fun y6 h=>
 dI (iter (aL Try.prog C (partOf Try.f93 [1,0,1,0,0])) rounds (aZ 30 (up (bs [x0,x1,x2]) [(6,y6),(7,y7),(8,y8),(9,y9),(10,bH),(11,bQ)])) h) (al Try.prog Try.f93.results.toList) (b93_2 C)
 | .bool false=>
 some (.tuple #[],h)
 |_=>none)
noncomputable def t93l93_1010 (_C:ak) (x:Nat→Value) (h:af):Option (Ex×Env×af):=
 ad (some ((x 6),h)) fun y12 h=>
 ad (pu (bin Try.prog .geq 3 y12 (.int .i64 0)) h) fun y13 h=>
 (match y13 with
 | .bool true=>
 ad (some ((x 0),h)) fun y16 h=>
 ad (some ((x 0),h)) fun y17 h=>
 ad (pu (aC y17) h) fun y18 h=>
 ad (pu (aI y18 2) h) fun y19 h=>
 ad (aV y19 h) fun y20 h=>
 ad (some ((x 1),h)) fun y21 h=>
 ad (some ((x 6),h)) fun y22 h=>
 ad (pu (bin Try.prog .mul 3 (.int .i64 8) y22) h) fun y23 h=>
 ad (pu (bin Try.prog .shr 58 y21 y23) h) fun y24 h=>
 ad (cvI .u8 y24 h) fun y25 h=>
 ad (dY 1 (.int .u8 0) 1 [(0,y25)] h) fun y26 h=>
 ad (bt 1 1 y20 y26 h) fun y27 h=>
 ad (pu (aC y16) h) fun y28 h=>
 ad (pu (aI y28 2) h) fun y29 h=>
 ad (bK 1 y29 y27 h) fun _ h=>
 ad (some ((x 6),h)) fun y14 h=>
 ad (pu (bin Try.prog .sub 3 y14 (.int .i64 1)) h) fun y15 h=>
 ad (some (y15,h)) fun y6 h=>
 some (.normal,(aZ 30 (up x [(6,y6),(12,y12),(13,y13),(14,y14),(15,y15),(16,y16),(17,y17),(18,y18),(19,y19),(20,y20),(21,y21),(22,y22),(23,y23),(24,y24),(25,y25),(26,y26),(27,y27),(28,y28),(29,y29)])),h)
 | .bool false=>
 some (.exit 0,(aZ 30 (up x [(12,y12),(13,y13)])),h)
 |_=>none)
theorem t93_eq (C:ak) (x0 x1 x2:Value) (h:af):bk Try.prog C Try.f93 [x0,x1,x2] h=t93 C x0 x1 x2 h:=
 (aN Try.prog C Try.f93 [x0,x1,x2] h (by kernel_rfl)).trans (by kernel_rfl)
theorem t93l93_1010_eq (C:ak) (x:Nat→Value) (h:af):aL Try.prog C (partOf Try.f93 [1,0,1,0,0]) (aZ 30 x) h=t93l93_1010 C x h:=
 bg (T:=t93l93_1010 C) (fun x h=>by kernel_rfl) x h
noncomputable def t94 (C:ak) (x0:Value) (h:af):Out:=
 ad (some ((.slice none 0 0),h)) fun _y2 h=>
 ad (some ((.int .i64 0),h)) fun _y3 h=>
 ad (some (x0,h)) fun y5 h=>
 ad (pu (bin Try.prog .eql 110 y5 (.pointer none)) h) fun y6 h=>
 ad (some (y6,h)) fun y4 h=>
 (match y4 with
 | .bool true=>
 ad (some ((.slice none 0 0),h)) fun y2_1 h=>
 ad (some ((.int .i64 1),h)) fun y3_1 h=>
 some (.tuple #[y2_1,y3_1],h)
 | .bool false=>
 ad (some (x0,h)) fun y8 h=>
 ad (pu (aC y8) h) fun y9 h=>
 ad (pu (aI y9 1) h) fun bH h=>
 ad (aV bH h) fun bQ h=>
 ad (some (bQ,h)) fun y7 h=>
 (match y7 with
 | .bool true=>
 ad (some ((.slice none 0 0),h)) fun y2_1 h=>
 ad (some ((.int .i64 3),h)) fun y3_1 h=>
 some (.tuple #[y2_1,y3_1],h)
 | .bool false=>
 ad (some (x0,h)) fun y12 h=>
 ad (pu (aC y12) h) fun y13 h=>
 ad (pu (aI y13 2) h) fun y14 h=>
 ad (aV y14 h) fun y15 h=>
 ad (C 107 [y15] h) fun y16 h=>
 ad (some (y16,h)) fun y2_1 h=>
 ad (some ((.int .i64 0),h)) fun y3_1 h=>
 some (.tuple #[y2_1,y3_1],h)
 |_=>none)
 |_=>none)
theorem t94_eq (C:ak) (x0:Value) (h:af):bk Try.prog C Try.f94 [x0] h=t94 C x0 h:=
 (aN Try.prog C Try.f94 [x0] h (by kernel_rfl)).trans (by kernel_rfl)
noncomputable def k95_2 (C:ak) (e:Env) (h:af):Out:=cF Try.prog C (partOf Try.f95 [1,1,1]) e h (al Try.prog Try.f95.results.toList) (al Try.prog Try.f95.results.toList) (fun _ _ _=>none)
noncomputable def b95_4 (C:ak) (i:Nat) (e:Env) (h:af):Out:=if i=0 then (k95_2 C) e h else (fun _ _ _=>none) i e h
noncomputable def k95_6 (C:ak) (e:Env) (h:af):Out:=cF Try.prog C (partOf Try.f95 [1,1,1,1,1]) e h (al Try.prog Try.f95.results.toList) (al Try.prog Try.f95.results.toList) (fun _ _ _=>none)
noncomputable def b95_8 (C:ak) (i:Nat) (e:Env) (h:af):Out:=if i=4 then (k95_6 C) e h else (fun _ _ _=>none) i e h
noncomputable def k95_11 (C:ak) (e:Env) (h:af):Option (Ex×Env×af):=cF Try.prog C (partOf Try.f95 [1,1,0,1,0,0,1,1,1]) e h (fun e h=>some (Ex.normal,e,h)) (fun e h=>some (Ex.ret,e,h)) (fun i e h=>some (Ex.exit i,e,h))
noncomputable def b95_12 (C:ak) (i:Nat) (e:Env) (h:af):Option (Ex×Env×af):=if i=1 then (k95_11 C) e h else (fun i e h=>some (Ex.exit i,e,h)) i e h
noncomputable def k95_15 (C:ak) (e:Env) (h:af):Option (Ex×Env×af):=cF Try.prog C (partOf Try.f95 [1,1,0,1,0,0,1,1,0,0,1,1,1]) e h (k95_11 C) (fun e h=>some (Ex.ret,e,h)) (b95_12 C)
noncomputable def b95_17 (C:ak) (i:Nat) (e:Env) (h:af):Option (Ex×Env×af):=if i=2 then (k95_15 C) e h else (b95_12 C) i e h
noncomputable def t95 (C:ak) (x0:Value) (h:af):Out:=
 ad (some ((.int .u32 0),h)) fun y2 h=>
 ad (dp (List.replicate 16 (.int .u32 0)) h) fun y3 h=>
 ad (some ((.int .i64 0),h)) fun y9 h=>
 dI (iter (aL Try.prog C (partOf Try.f95 [1,1,0,1,0,0])) rounds (aZ 54 (up (bs [x0]) [(2,y2),(3,y3),(9,y9)])) h) (al Try.prog Try.f95.results.toList) (b95_4 C)
noncomputable def t95k95_2 (C:ak) (x:Nat→Value) (h:af):Out:=
 ad (some ((.int .u32 4294967295),h)) fun y6 h=>
 ad (some ((x 0),h)) fun y27 h=>
 ad (pu (cK y27) h) fun y28 h=>
 ad (some ((.int .i64 0),h)) fun y29 h=>
 dI (iter (aL Try.prog C (partOf Try.f95 [1,1,1,1,0,1,0,0])) rounds (aZ 54 (up x [(6,y6),(27,y27),(28,y28),(29,y29)])) h) (al Try.prog Try.f95.results.toList) (b95_8 C)
noncomputable def t95l95_11010 (C:ak) (x:Nat→Value) (h:af):Option (Ex×Env×af):=
 ad (pu (bin Try.prog .lss 3 (x 9) (.int .i64 16)) h) fun bH h=>
 (match bH with
 | .bool true=>
 ad (some ((x 9),h)) fun bQ h=>
 ad (some (bQ,h)) fun y4 h=>
 ad (some (y4,h)) fun y12 h=>
 ad (cvI .u32 y12 h) fun y13 h=>
 ad (some (y13,h)) fun y5 h=>
 ad (some ((.int .i64 0),h)) fun y14 h=>
 dI (iter (aL Try.prog C (partOf Try.f95 [1,1,0,1,0,0,1,1,0,0,1,1,0,1,0,0])) rounds (aZ 54 (up x [(4,y4),(5,y5),(10,bH),(11,bQ),(12,y12),(13,y13),(14,y14)])) h) (fun e h=>some (Ex.ret,e,h)) (b95_17 C)
 | .bool false=>
 some (.exit 0,(aZ 54 (up x [(10,bH)])),h)
 |_=>none)
noncomputable def t95k95_6 (_C:ak) (x:Nat→Value) (h:af):Out:=
 ad (some ((x 6),h)) fun y52 h=>
 ad (pu (unA .xor y52) h) fun y53 h=>
 ad (some (y53,h)) fun y2 h=>
 some (y2,h)
noncomputable def fZ (_C:ak) (x:Nat→Value) (h:af):Option (Ex×Env×af):=
 ad (pu (bin Try.prog .lss 3 (x 29) (x 28)) h) fun y30 h=>
 (match y30 with
 | .bool true=>
 ad (pu (bV 1 (x 27) (x 29)) h) fun y31 h=>
 ad (aV y31 h) fun y32 h=>
 ad (some (y32,h)) fun y8 h=>
 ad (some ((x 6),h)) fun y33 h=>
 ad (some (y8,h)) fun y34 h=>
 ad (cvI .u32 y34 h) fun y35 h=>
 ad (pu (bin Try.prog .xor 113 y33 y35) h) fun y36 h=>
 ad (some (y36,h)) fun y6 h=>
 ad (some (y6,h)) fun y37 h=>
 ad (pu (bin Try.prog .and 113 y37 (.int .u32 15)) h) fun y38 h=>
 ad (pu (idxA 16 1 (x 3) y38) h) fun y39 h=>
 ad (aV y39 h) fun y40 h=>
 ad (some (y6,h)) fun y41 h=>
 ad (pu (bin Try.prog .shr 113 y41 (.int .u64 4)) h) fun y42 h=>
 ad (pu (bin Try.prog .xor 113 y40 y42) h) fun y43 h=>
 ad (some (y43,h)) fun y6_1 h=>
 ad (some (y6_1,h)) fun y44 h=>
 ad (pu (bin Try.prog .and 113 y44 (.int .u32 15)) h) fun y45 h=>
 ad (pu (idxA 16 1 (x 3) y45) h) fun y46 h=>
 ad (aV y46 h) fun y47 h=>
 ad (some (y6_1,h)) fun y48 h=>
 ad (pu (bin Try.prog .shr 113 y48 (.int .u64 4)) h) fun y49 h=>
 ad (pu (bin Try.prog .xor 113 y47 y49) h) fun y50 h=>
 ad (some (y50,h)) fun y6_2 h=>
 ad (pu (bin Try.prog .add 3 (x 29) (.int .i64 1)) h) fun y51 h=>
 ad (some (y51,h)) fun y29 h=>
 some (.normal,(aZ 54 (up x [(6,y6_2),(8,y8),(29,y29),(30,y30),(31,y31),(32,y32),(33,y33),(34,y34),(35,y35),(36,y36),(37,y37),(38,y38),(39,y39),(40,y40),(41,y41),(42,y42),(43,y43),(44,y44),(45,y45),(46,y46),(47,y47),(48,y48),(49,y49),(50,y50),(51,y51)])),h)
 | .bool false=>
 some (.exit 4,(aZ 54 (up x [(30,y30)])),h)
 |_=>none)
noncomputable def t95k95_11 (_C:ak) (x:Nat→Value) (h:af):Option (Ex×Env×af):=
 ad (pu (bin Try.prog .add 3 (x 9) (.int .i64 1)) h) fun y26 h=>
 ad (some (y26,h)) fun y9 h=>
 some (.normal,(aZ 54 (up x [(9,y9),(26,y26)])),h)
noncomputable def t95k95_15 (C:ak) (x:Nat→Value) (h:af):Option (Ex×Env×af):=
 ad (some ((x 4),h)) fun y23 h=>
 ad (some ((x 5),h)) fun y24 h=>
 ad (pu (idxA 16 1 (x 3) y23) h) fun y25 h=>
 ad (bK 1 y25 y24 h) fun _ h=>
 k95_11 C (aZ 54 (up x [(23,y23),(24,y24),(25,y25)])) h
noncomputable def fz (_C:ak) (x:Nat→Value) (h:af):Option (Ex×Env×af):=
 ad (pu (bin Try.prog .lss 3 (x 14) (.int .i64 4)) h) fun y15 h=>
 (match y15 with
 | .bool true=>
 ad (some ((x 5),h)) fun y16 h=>
 ad (pu (bin Try.prog .shr 113 y16 (.int .u64 1)) h) fun y17 h=>
 ad (some ((x 5),h)) fun y18 h=>
 ad (pu (bin Try.prog .and 113 y18 (.int .u32 1)) h) fun y19 h=>
 ad (pu (bin Try.prog .mul 113 (.int .u32 2197175160) y19) h) fun y20 h=>
 ad (pu (bin Try.prog .xor 113 y17 y20) h) fun y21 h=>
 ad (some (y21,h)) fun y5 h=>
 ad (pu (bin Try.prog .add 3 (x 14) (.int .i64 1)) h) fun y22 h=>
 ad (some (y22,h)) fun y14 h=>
 some (.normal,(aZ 54 (up x [(5,y5),(14,y14),(15,y15),(16,y16),(17,y17),(18,y18),(19,y19),(20,y20),(21,y21),(22,y22)])),h)
 | .bool false=>
 some (.exit 2,(aZ 54 (up x [(15,y15)])),h)
 |_=>none)
theorem t95_eq (C:ak) (x0:Value) (h:af):bk Try.prog C Try.f95 [x0] h=t95 C x0 h:=
 (aN Try.prog C Try.f95 [x0] h (by kernel_rfl)).trans (by kernel_rfl)
theorem t95k95_2_eq (C:ak) (x:Nat→Value) (h:af):k95_2 C (aZ 54 x) h=t95k95_2 C x h:=
 bo (b:=(partOf Try.f95 [1,1,1])) (kE:=(al Try.prog Try.f95.results.toList)) (rE:=(al Try.prog Try.f95.results.toList)) (xE:=(fun _ _ _=>none)) (T:=t95k95_2 C) (fun x h=>by kernel_rfl) x h
theorem t95l95_11010_eq (C:ak) (x:Nat→Value) (h:af):aL Try.prog C (partOf Try.f95 [1,1,0,1,0,0]) (aZ 54 x) h=t95l95_11010 C x h:=
 bg (T:=t95l95_11010 C) (fun x h=>by kernel_rfl) x h
theorem t95k95_6_eq (C:ak) (x:Nat→Value) (h:af):k95_6 C (aZ 54 x) h=t95k95_6 C x h:=
 bo (b:=(partOf Try.f95 [1,1,1,1,1])) (kE:=(al Try.prog Try.f95.results.toList)) (rE:=(al Try.prog Try.f95.results.toList)) (xE:=(fun _ _ _=>none)) (T:=t95k95_6 C) (fun x h=>by kernel_rfl) x h
theorem t95l95_1111010_eq (C:ak) (x:Nat→Value) (h:af):aL Try.prog C (partOf Try.f95 [1,1,1,1,0,1,0,0]) (aZ 54 x) h=fZ C x h:=
 bg (T:=fZ C) (fun x h=>by kernel_rfl) x h
theorem t95k95_11_eq (C:ak) (x:Nat→Value) (h:af):k95_11 C (aZ 54 x) h=t95k95_11 C x h:=
 bo (b:=(partOf Try.f95 [1,1,0,1,0,0,1,1,1])) (kE:=(fun e h=>some (Ex.normal,e,h))) (rE:=(fun e h=>some (Ex.ret,e,h))) (xE:=(fun i e h=>some (Ex.exit i,e,h))) (T:=t95k95_11 C) (fun x h=>by kernel_rfl) x h
theorem t95k95_15_eq (C:ak) (x:Nat→Value) (h:af):k95_15 C (aZ 54 x) h=t95k95_15 C x h:=
 bo (b:=(partOf Try.f95 [1,1,0,1,0,0,1,1,0,0,1,1,1])) (kE:=(k95_11 C)) (rE:=(fun e h=>some (Ex.ret,e,h))) (xE:=(b95_12 C)) (T:=t95k95_15 C) (fun x h=>by kernel_rfl) x h
theorem t95l95_110100110011010_eq (C:ak) (x:Nat→Value) (h:af):aL Try.prog C (partOf Try.f95 [1,1,0,1,0,0,1,1,0,0,1,1,0,1,0,0]) (aZ 54 x) h=fz C x h:=
 bg (T:=fz C) (fun x h=>by kernel_rfl) x h
noncomputable def t105 (C:ak) (x0:Value) (h:af):Out:=
 ad (some ((.pointer none),h)) fun _y2 h=>
 ad (some (x0,h)) fun y3 h=>
 ad (C 107 [y3] h) fun y4 h=>
 ad (pu (ff [(.slice none 0 0),(.int .i64 0)] [(0,1,y4)]) h) fun y5 h=>
 ad (box y5 h) fun y6 h=>
 ad (some (y6,h)) fun y2_1 h=>
 some (y2_1,h)
theorem t105_eq (C:ak) (x0:Value) (h:af):bk Try.prog C Try.f105 [x0] h=t105 C x0 h:=
 (aN Try.prog C Try.f105 [x0] h (by kernel_rfl)).trans (by kernel_rfl)
noncomputable def k106_2 (C:ak) (e:Env) (h:af):Out:=cF Try.prog C (partOf Try.f106 [1,1,1]) e h (al Try.prog Try.f106.results.toList) (al Try.prog Try.f106.results.toList) (fun _ _ _=>none)
noncomputable def b106_4 (C:ak) (i:Nat) (e:Env) (h:af):Out:=if i=0 then (k106_2 C) e h else (fun _ _ _=>none) i e h
noncomputable def t106 (C:ak) (x0 x1:Value) (h:af):Out:=
 ad (some ((.int .u64 0),h)) fun y4 h=>
 ad (some ((.int .u64 0),h)) fun y5 h=>
 ad (some (x0,h)) fun y8 h=>
 ad (some (x1,h)) fun y9 h=>
 ad (C 108 [y8,y9] h) fun bH h=>
 ad (pu (cK bH) h) fun bQ h=>
 ad (some ((.int .i64 0),h)) fun y12 h=>
 dI (iter (aL Try.prog C (partOf Try.f106 [1,1,0,1,0,0])) rounds (aZ 23 (up (bs [x0,x1]) [(4,y4),(5,y5),(8,y8),(9,y9),(10,bH),(11,bQ),(12,y12)])) h) (al Try.prog Try.f106.results.toList) (b106_4 C)
noncomputable def t106k106_2 (_C:ak) (x:Nat→Value) (h:af):Out:=
 ad (some ((x 5),h)) fun y22 h=>
 ad (some (y22,h)) fun y4 h=>
 some (y4,h)
noncomputable def t106l106_11010 (_C:ak) (x:Nat→Value) (h:af):Option (Ex×Env×af):=
 ad (pu (bin Try.prog .lss 3 (x 12) (x 11)) h) fun y13 h=>
 (match y13 with
 | .bool true=>
 ad (pu (bV 1 (x 10) (x 12)) h) fun y14 h=>
 ad (aV y14 h) fun y15 h=>
 ad (some (y15,h)) fun y7 h=>
 ad (some ((x 5),h)) fun y16 h=>
 ad (pu (bin Try.prog .shl 58 y16 (.int .u64 8)) h) fun y17 h=>
 ad (some (y7,h)) fun y18 h=>
 ad (cvI .u64 y18 h) fun y19 h=>
 ad (pu (bin Try.prog .or 58 y17 y19) h) fun y20 h=>
 ad (some (y20,h)) fun y5 h=>
 ad (pu (bin Try.prog .add 3 (x 12) (.int .i64 1)) h) fun y21 h=>
 ad (some (y21,h)) fun y12 h=>
 some (.normal,(aZ 23 (up x [(5,y5),(7,y7),(12,y12),(13,y13),(14,y14),(15,y15),(16,y16),(17,y17),(18,y18),(19,y19),(20,y20),(21,y21)])),h)
 | .bool false=>
 some (.exit 0,(aZ 23 (up x [(13,y13)])),h)
 |_=>none)
theorem t106_eq (C:ak) (x0 x1:Value) (h:af):bk Try.prog C Try.f106 [x0,x1] h=t106 C x0 x1 h:=
 (aN Try.prog C Try.f106 [x0,x1] h (by kernel_rfl)).trans (by kernel_rfl)
theorem t106k106_2_eq (C:ak) (x:Nat→Value) (h:af):k106_2 C (aZ 23 x) h=t106k106_2 C x h:=
 bo (b:=(partOf Try.f106 [1,1,1])) (kE:=(al Try.prog Try.f106.results.toList)) (rE:=(al Try.prog Try.f106.results.toList)) (xE:=(fun _ _ _=>none)) (T:=t106k106_2 C) (fun x h=>by kernel_rfl) x h
theorem t106l106_11010_eq (C:ak) (x:Nat→Value) (h:af):aL Try.prog C (partOf Try.f106 [1,1,0,1,0,0]) (aZ 23 x) h=t106l106_11010 C x h:=
 bg (T:=t106l106_11010 C) (fun x h=>by kernel_rfl) x h
noncomputable def t107 (_C:ak) (x0:Value) (h:af):Out:=
 ad (some ((.slice none 0 0),h)) fun _y2 h=>
 ad (some (x0,h)) fun y3 h=>
 ad (pu (bin Try.prog .eql 32 y3 (.slice none 0 0)) h) fun y4 h=>
 (match y4 with
 | .bool true=>
 ad (some ((.slice none 0 0),h)) fun y2_1 h=>
 some (y2_1,h)
 | .bool false=>
 ad (dY 1 (.int .u8 0) 0 [] h) fun y5 h=>
 ad (some (x0,h)) fun y6 h=>
 ad (bt 1 1 y5 y6 h) fun y7 h=>
 ad (some (y7,h)) fun y2_1 h=>
 some (y2_1,h)
 |_=>none)
theorem t107_eq (C:ak) (x0:Value) (h:af):bk Try.prog C Try.f107 [x0] h=t107 C x0 h:=
 (aN Try.prog C Try.f107 [x0] h (by kernel_rfl)).trans (by kernel_rfl)
noncomputable def t108 (_C:ak) (x0 x1:Value) (h:af):Out:=
 ad (some ((.slice none 0 0),h)) fun _y4 h=>
 ad (some (x0,h)) fun y6 h=>
 ad (pu (bin Try.prog .eql 134 y6 (.pointer none)) h) fun y7 h=>
 ad (some (y7,h)) fun y8 h=>
 ad (ah (aO y8==some false) (some (x0,h)) h) fun y9 h=>
 ad (ah (aO y8==some false) (pu (aC y9) h) h) fun bH h=>
 ad (ah (aO y8==some false) (pu (aI bH 1) h) h) fun bQ h=>
 ad (ah (aO y8==some false) (aV bQ h) h) fun y12 h=>
 ad (ah (aO y8==some false) (pu (bin Try.prog .neq 28 y12 (.int .i64 0)) h) h) fun y13 h=>
 ad (match y8 with | .bool t=>some (if t then (.bool true) else y13,h)|_=>none) fun y14 h=>
 (match y14 with
 | .bool true=>
 ad (some ((.slice none 0 0),h)) fun y4_1 h=>
 some (y4_1,h)
 | .bool false=>
 ad (some (x1,h)) fun y16 h=>
 ad (pu (bin Try.prog .lss 3 y16 (.int .i64 0)) h) fun y17 h=>
 ad (some (y17,h)) fun y15 h=>
 (match y15 with
 | .bool true=>
 ad (some (x0,h)) fun y18 h=>
 ad (pu (aC y18) h) fun y19 h=>
 ad (pu (aI y19 1) h) fun y20 h=>
 ad (bK 1 y20 (.int .i64 2) h) fun _ h=>
 ad (some ((.slice none 0 0),h)) fun y4_1 h=>
 some (y4_1,h)
 | .bool false=>
 ad (some (x1,h)) fun y22 h=>
 ad (some (x0,h)) fun y23 h=>
 ad (pu (aC y23) h) fun y24 h=>
 ad (pu (aI y24 0) h) fun y25 h=>
 ad (aV y25 h) fun y26 h=>
 ad (pu (cK y26) h) fun y27 h=>
 ad (pu (bin Try.prog .gtr 3 y22 y27) h) fun y28 h=>
 ad (some (y28,h)) fun y21 h=>
 (match y21 with
 | .bool true=>
 ad (some (x0,h)) fun y29 h=>
 ad (pu (aC y29) h) fun y30 h=>
 ad (pu (aI y30 1) h) fun y31 h=>
 ad (bK 1 y31 (.int .i64 4) h) fun _ h=>
 ad (some ((.slice none 0 0),h)) fun y4_1 h=>
 some (y4_1,h)
 | .bool false=>
 ad (some (x0,h)) fun y32 h=>
 ad (pu (aC y32) h) fun y33 h=>
 ad (pu (aI y33 0) h) fun y34 h=>
 ad (aV y34 h) fun y35 h=>
 ad (some (x1,h)) fun y36 h=>
 ad (pu (slR 1 y35 none (some y36) none) h) fun y37 h=>
 ad (some (y37,h)) fun y5 h=>
 ad (some (x0,h)) fun y38 h=>
 ad (some (x0,h)) fun y39 h=>
 ad (pu (aC y39) h) fun y40 h=>
 ad (pu (aI y40 0) h) fun y41 h=>
 ad (aV y41 h) fun y42 h=>
 ad (some (x1,h)) fun y43 h=>
 ad (pu (slR 1 y42 (some y43) none none) h) fun y44 h=>
 ad (pu (aC y38) h) fun y45 h=>
 ad (pu (aI y45 0) h) fun y46 h=>
 ad (bK 1 y46 y44 h) fun _ h=>
 ad (some (y5,h)) fun y47 h=>
 ad (some (y47,h)) fun y4_1 h=>
 some (y4_1,h)
 |_=>none)
 |_=>none)
 |_=>none)
theorem t108_eq (C:ak) (x0 x1:Value) (h:af):bk Try.prog C Try.f108 [x0,x1] h=t108 C x0 x1 h:=
 (aN Try.prog C Try.f108 [x0,x1] h (by kernel_rfl)).trans (by kernel_rfl)
noncomputable def t109 (_C:ak) (x0 x1:Value) (h:af):Out:=
 ad (some ((.bool false),h)) fun _y4 h=>
 ad (some (x0,h)) fun y5 h=>
 ad (pu (bin Try.prog .eql 110 y5 (.pointer none)) h) fun y6 h=>
 ad (some (y6,h)) fun y7 h=>
 ad (ah (aO y7==some false) (some (x0,h)) h) fun y8 h=>
 ad (ah (aO y7==some false) (pu (aC y8) h) h) fun y9 h=>
 ad (ah (aO y7==some false) (pu (aI y9 1) h) h) fun bH h=>
 ad (ah (aO y7==some false) (aV bH h) h) fun bQ h=>
 ad (match y7 with | .bool t=>some (if t then (.bool true) else bQ,h)|_=>none) fun y12 h=>
 (match y12 with
 | .bool true=>
 ad (some ((.bool false),h)) fun y4_1 h=>
 some (y4_1,h)
 | .bool false=>
 ad (some (x0,h)) fun y13 h=>
 ad (some (x1,h)) fun y14 h=>
 ad (some (x0,h)) fun y15 h=>
 ad (pu (aC y15) h) fun y16 h=>
 ad (pu (aI y16 0) h) fun y17 h=>
 ad (aV y17 h) fun y18 h=>
 ad (some (x0,h)) fun y19 h=>
 ad (pu (aC y19) h) fun y20 h=>
 ad (pu (aI y20 2) h) fun y21 h=>
 ad (aV y21 h) fun y22 h=>
 ad (pu (cK y22) h) fun y23 h=>
 ad (pu (bin Try.prog .sub 3 y18 y23) h) fun y24 h=>
 ad (pu (bin Try.prog .gtr 3 y14 y24) h) fun y25 h=>
 ad (pu (aC y13) h) fun y26 h=>
 ad (pu (aI y26 1) h) fun y27 h=>
 ad (bK 1 y27 y25 h) fun _ h=>
 ad (some (x0,h)) fun y28 h=>
 ad (pu (aC y28) h) fun y29 h=>
 ad (pu (aI y29 1) h) fun y30 h=>
 ad (aV y30 h) fun y31 h=>
 ad (pu (unA .not y31) h) fun y32 h=>
 ad (some (y32,h)) fun y4_1 h=>
 some (y4_1,h)
 |_=>none)
theorem t109_eq (C:ak) (x0 x1:Value) (h:af):bk Try.prog C Try.f109 [x0,x1] h=t109 C x0 x1 h:=
 (aN Try.prog C Try.f109 [x0,x1] h (by kernel_rfl)).trans (by kernel_rfl)
end Go.Proofs.Ytcmfgmhadeeieaa

namespace Go.Proofs.Ytcmfgmhadeeieaa
open Go Go.Abs
noncomputable def t15 (_C:ak) (x0:Value) (h:af):Out:=
 ad (some ((.int .i64 0),h)) fun _y2 h=>
 ad (some (x0,h)) fun y3 h=>
 ad (pu (bin Try.prog .leq 3 y3 (.int .i64 106)) h) fun y4 h=>
 (match y4 with
 | .bool true=>
 ad (some ((.int .i64 1),h)) fun y2_1 h=>
 some (y2_1,h)
 | .bool false=>
 ad (some (x0,h)) fun y5 h=>
 ad (pu (bin Try.prog .sub 3 y5 (.int .i64 1)) h) fun y6 h=>
 ad (pu (bin Try.prog .quo 3 y6 (.int .i64 106)) h) fun y7 h=>
 ad (pu (bin Try.prog .add 3 y7 (.int .i64 1)) h) fun y8 h=>
 ad (some (y8,h)) fun y2_1 h=>
 some (y2_1,h)
 |_=>none)
theorem t15_eq (C:ak) (x0:Value) (h:af):bk Try.prog C Try.f15 [x0] h=t15 C x0 h:=
 (aN Try.prog C Try.f15 [x0] h (by kernel_rfl)).trans (by kernel_rfl)
noncomputable def t18 (_C:ak) (x0:Value) (h:af):Out:=
 ad (some ((.pointer none),h)) fun _y2 h=>
 ad (some ((.int .i64 0),h)) fun _y3 h=>
 ad (some (x0,h)) fun y4 h=>
 ad (pu (bin Try.prog .lss 3 y4 (.int .i64 4)) h) fun y5 h=>
 ad (some (y5,h)) fun y6 h=>
 ad (ah (aO y6==some false) (some (x0,h)) h) fun y7 h=>
 ad (ah (aO y6==some false) (pu (bin Try.prog .gtr 3 y7 (.int .i64 4096)) h) h) fun y8 h=>
 ad (match y6 with | .bool t=>some (if t then (.bool true) else y8,h)|_=>none) fun y9 h=>
 (match y9 with
 | .bool true=>
 ad (some ((.pointer none),h)) fun y2_1 h=>
 ad (some ((.int .i64 2),h)) fun y3_1 h=>
 some (.tuple #[y2_1,y3_1],h)
 | .bool false=>
 ad (some (x0,h)) fun bH h=>
 ad (mkR 128 128 (.agg (List.replicate 128 (.int .u8 0)).toArray) bH bH h) fun bQ h=>
 ad (pu (ff [(.slice none 0 0),(.bool false),(.bool false),(.int .i64 0),(.int .i64 0),(.int .i64 0)] [(0,1,bQ)]) h) fun y12 h=>
 ad (box y12 h) fun y13 h=>
 ad (some (y13,h)) fun y2_1 h=>
 ad (some ((.int .i64 0),h)) fun y3_1 h=>
 some (.tuple #[y2_1,y3_1],h)
 |_=>none)
theorem t18_eq (C:ak) (x0:Value) (h:af):bk Try.prog C Try.f18 [x0] h=t18 C x0 h:=
 (aN Try.prog C Try.f18 [x0] h (by kernel_rfl)).trans (by kernel_rfl)
noncomputable def t19 (C:ak) (x0 x1 x2:Value) (h:af):Out:=
 ad (some ((.int .i64 0),h)) fun _y6 h=>
 ad (some (x0,h)) fun y8 h=>
 ad (some (x1,h)) fun y9 h=>
 ad (C 53 [y8,y9] h) fun bH h=>
 ad (some (bH,h)) fun y7 h=>
 ad (some (y7,h)) fun bQ h=>
 ad (pu (bin Try.prog .neq 28 bQ (.int .i64 0)) h) fun y12 h=>
 (match y12 with
 | .bool true=>
 ad (some (y7,h)) fun y13 h=>
 ad (some (y13,h)) fun y6_1 h=>
 some (y6_1,h)
 | .bool false=>
 ad (some (x2,h)) fun y14 h=>
 ad (pu (cK y14) h) fun y15 h=>
 ad (pu (bin Try.prog .neq 3 y15 (.int .i64 128)) h) fun y16 h=>
 (match y16 with
 | .bool true=>
 ad (some ((.int .i64 10),h)) fun y6_1 h=>
 some (y6_1,h)
 | .bool false=>
 ad (some (x0,h)) fun y17 h=>
 ad (pu (aC y17) h) fun y18 h=>
 ad (pu (aI y18 2) h) fun y19 h=>
 ad (aV y19 h) fun y20 h=>
 ad (pu (unA .not y20) h) fun y21 h=>
 (match y21 with
 | .bool true=>
 ad (some (x0,h)) fun y22 h=>
 ad (pu (aC y22) h) fun y23 h=>
 ad (pu (aI y23 0) h) fun y24 h=>
 ad (aV y24 h) fun y25 h=>
 ad (some (x1,h)) fun y26 h=>
 ad (pu (bV 128 y25 y26) h) fun y27 h=>
 ad (pu (eg 128 1 y27 none none none) h) fun y28 h=>
 ad (some (x2,h)) fun y29 h=>
 ad (copyA 1 y28 y29 h) fun _y30 h=>
 ad (some ((.int .i64 0),h)) fun y6_1 h=>
 some (y6_1,h)
 | .bool false=>
 ad (some (x0,h)) fun y31 h=>
 ad (pu (aC y31) h) fun y32 h=>
 ad (pu (aI y32 3) h) fun y33 h=>
 ad (aV y33 h) fun y34 h=>
 ad (pu (bin Try.prog .eql 3 y34 (.int .i64 0)) h) fun y35 h=>
 (match y35 with
 | .bool true=>
 ad (some (x0,h)) fun y36 h=>
 ad (pu (aC y36) h) fun y37 h=>
 ad (pu (aI y37 0) h) fun y38 h=>
 ad (aV y38 h) fun y39 h=>
 ad (some (x1,h)) fun y40 h=>
 ad (pu (bV 128 y39 y40) h) fun y41 h=>
 ad (pu (eg 128 1 y41 none none none) h) fun y42 h=>
 ad (some (x2,h)) fun y43 h=>
 ad (some (x0,h)) fun y44 h=>
 ad (pu (aC y44) h) fun y45 h=>
 ad (pu (aI y45 4) h) fun y46 h=>
 ad (aV y46 h) fun y47 h=>
 ad (pu (slR 1 y43 none (some y47) none) h) fun y48 h=>
 ad (copyA 1 y42 y48 h) fun _y49 h=>
 ad (some (x0,h)) fun y50 h=>
 ad (C 32 [y50] h) fun _y51 h=>
 ad (some ((.int .i64 9),h)) fun y6_1 h=>
 some (y6_1,h)
 | .bool false=>
 ad (some (x0,h)) fun y52 h=>
 ad (pu (aC y52) h) fun y53 h=>
 ad (pu (aI y53 3) h) fun y54 h=>
 ad (aV y54 h) fun y55 h=>
 ad (pu (bin Try.prog .sub 3 y55 (.int .i64 1)) h) fun y56 h=>
 ad (pu (aC y52) h) fun y57 h=>
 ad (pu (aI y57 3) h) fun y58 h=>
 ad (bK 1 y58 y56 h) fun _ h=>
 ad (some (x0,h)) fun y59 h=>
 ad (pu (aC y59) h) fun y60 h=>
 ad (pu (aI y60 0) h) fun y61 h=>
 ad (aV y61 h) fun y62 h=>
 ad (some (x1,h)) fun y63 h=>
 ad (pu (bV 128 y62 y63) h) fun y64 h=>
 ad (pu (eg 128 1 y64 none none none) h) fun y65 h=>
 ad (some (x2,h)) fun y66 h=>
 ad (copyA 1 y65 y66 h) fun _y67 h=>
 ad (some ((.int .i64 0),h)) fun y6_1 h=>
 some (y6_1,h)
 |_=>none)
 |_=>none)
 |_=>none)
 |_=>none)
theorem t19_eq (C:ak) (x0 x1 x2:Value) (h:af):bk Try.prog C Try.f19 [x0,x1,x2] h=t19 C x0 x1 x2 h:=
 (aN Try.prog C Try.f19 [x0,x1,x2] h (by kernel_rfl)).trans (by kernel_rfl)
noncomputable def t20 (C:ak) (x0 x1:Value) (h:af):Out:=
 ad (some ((.slice none 0 0),h)) fun _y4 h=>
 ad (some ((.int .i64 0),h)) fun _y5 h=>
 ad (some (x0,h)) fun y8 h=>
 ad (some (x1,h)) fun y9 h=>
 ad (C 53 [y8,y9] h) fun bH h=>
 ad (some (bH,h)) fun y6 h=>
 ad (some (y6,h)) fun bQ h=>
 ad (pu (bin Try.prog .neq 28 bQ (.int .i64 0)) h) fun y12 h=>
 (match y12 with
 | .bool true=>
 ad (some (y6,h)) fun y13 h=>
 ad (some ((.slice none 0 0),h)) fun y4_1 h=>
 ad (some (y13,h)) fun y5_1 h=>
 some (.tuple #[y4_1,y5_1],h)
 | .bool false=>
 ad (some (x0,h)) fun y14 h=>
 ad (pu (aC y14) h) fun y15 h=>
 ad (pu (aI y15 0) h) fun y16 h=>
 ad (aV y16 h) fun y17 h=>
 ad (some (x1,h)) fun y18 h=>
 ad (pu (bV 128 y17 y18) h) fun y19 h=>
 ad (bD 128 y19 h) fun y20 h=>
 ad (dp (List.replicate 128 (.int .u8 0)) h) fun y7 h=>
 ad (bK 128 y7 y20 h) fun _ h=>
 ad (pu (eg 128 1 y7 none none none) h) fun y21 h=>
 ad (some (y21,h)) fun y4_1 h=>
 ad (some ((.int .i64 0),h)) fun y5_1 h=>
 some (.tuple #[y4_1,y5_1],h)
 |_=>none)
theorem t20_eq (C:ak) (x0 x1:Value) (h:af):bk Try.prog C Try.f20 [x0,x1] h=t20 C x0 x1 h:=
 (aN Try.prog C Try.f20 [x0,x1] h (by kernel_rfl)).trans (by kernel_rfl)
noncomputable def t22 (C:ak) (x0:Value) (h:af):Out:=
 ad (some ((.int .i64 0),h)) fun _y2 h=>
 ad (some (x0,h)) fun y3 h=>
 ad (C 58 [y3] h) fun y4 h=>
 ad (pu (bin Try.prog .neq 28 y4 (.int .i64 0)) h) fun y5 h=>
 (match y5 with
 | .bool true=>
 ad (some ((.int .i64 0),h)) fun y2_1 h=>
 some (y2_1,h)
 | .bool false=>
 ad (some (x0,h)) fun y6 h=>
 ad (pu (aC y6) h) fun y7 h=>
 ad (pu (aI y7 0) h) fun y8 h=>
 ad (aV y8 h) fun y9 h=>
 ad (C 55 [y9] h) fun bH h=>
 ad (some (bH,h)) fun y2_1 h=>
 some (y2_1,h)
 |_=>none)
theorem t22_eq (C:ak) (x0:Value) (h:af):bk Try.prog C Try.f22 [x0] h=t22 C x0 h:=
 (aN Try.prog C Try.f22 [x0] h (by kernel_rfl)).trans (by kernel_rfl)
noncomputable def k25_5 (C:ak) (e:Env) (h:af):Out:=cF Try.prog C (partOf Try.f25 [1,1,1,1]) e h (al Try.prog Try.f25.results.toList) (al Try.prog Try.f25.results.toList) (fun _ _ _=>none)
noncomputable def b25_7 (C:ak) (i:Nat) (e:Env) (h:af):Out:=if i=0 then (k25_5 C) e h else (fun _ _ _=>none) i e h
noncomputable def t25 (C:ak) (x0:Value) (h:af):Out:=
 ad (some ((.slice none 0 0),h)) fun y2 h=>
 ad (some (x0,h)) fun y5 h=>
 ad (pu (bin Try.prog .eql 27 y5 (.pointer none)) h) fun y6 h=>
 (match y6 with
 | .bool true=>
 ad (some ((.slice none 0 0),h)) fun y2_1 h=>
 some (y2_1,h)
 | .bool false=>
 ad (some (x0,h)) fun y7 h=>
 ad (pu (aC y7) h) fun y8 h=>
 ad (pu (aI y8 0) h) fun y9 h=>
 ad (aV y9 h) fun bH h=>
 ad (pu (cK bH) h) fun bQ h=>
 ad (pu (bin Try.prog .mul 3 bQ (.int .i64 128)) h) fun y12 h=>
 ad (mkR 1 1 (.int .u8 0) (.int .i64 0) y12 h) fun y13 h=>
 ad (some (y13,h)) fun y3 h=>
 ad (some (x0,h)) fun y14 h=>
 ad (pu (aC y14) h) fun y15 h=>
 ad (pu (aI y15 0) h) fun y16 h=>
 ad (aV y16 h) fun y17 h=>
 ad (pu (cK y17) h) fun y18 h=>
 ad (some ((.int .i64 0),h)) fun y19 h=>
 dI (iter (aL Try.prog C (partOf Try.f25 [1,1,1,0,1,0,0])) rounds (aZ 33 (up (bs [x0]) [(2,y2),(3,y3),(5,y5),(6,y6),(7,y7),(8,y8),(9,y9),(10,bH),(11,bQ),(12,y12),(13,y13),(14,y14),(15,y15),(16,y16),(17,y17),(18,y18),(19,y19)])) h) (al Try.prog Try.f25.results.toList) (b25_7 C)
 |_=>none)
noncomputable def t25k25_5 (_C:ak) (x:Nat→Value) (h:af):Out:=
 ad (some ((x 3),h)) fun y32 h=>
 ad (some (y32,h)) fun y2 h=>
 some (y2,h)
noncomputable def t25l25_111010 (_C:ak) (x:Nat→Value) (h:af):Option (Ex×Env×af):=
 ad (pu (bin Try.prog .lss 3 (x 19) (x 18)) h) fun y20 h=>
 (match y20 with
 | .bool true=>
 ad (some ((x 19),h)) fun y21 h=>
 ad (some (y21,h)) fun y4 h=>
 ad (some ((x 3),h)) fun y22 h=>
 ad (some ((x 0),h)) fun y23 h=>
 ad (pu (aC y23) h) fun y24 h=>
 ad (pu (aI y24 0) h) fun y25 h=>
 ad (aV y25 h) fun y26 h=>
 ad (some (y4,h)) fun y27 h=>
 ad (pu (bV 128 y26 y27) h) fun y28 h=>
 ad (pu (eg 128 1 y28 none none none) h) fun y29 h=>
 ad (bt 1 1 y22 y29 h) fun y30 h=>
 ad (some (y30,h)) fun y3 h=>
 ad (pu (bin Try.prog .add 3 (x 19) (.int .i64 1)) h) fun y31 h=>
 ad (some (y31,h)) fun y19 h=>
 some (.normal,(aZ 33 (up x [(3,y3),(4,y4),(19,y19),(20,y20),(21,y21),(22,y22),(23,y23),(24,y24),(25,y25),(26,y26),(27,y27),(28,y28),(29,y29),(30,y30),(31,y31)])),h)
 | .bool false=>
 some (.exit 0,(aZ 33 (up x [(20,y20)])),h)
 |_=>none)
theorem t25_eq (C:ak) (x0:Value) (h:af):bk Try.prog C Try.f25 [x0] h=t25 C x0 h:=
 (aN Try.prog C Try.f25 [x0] h (by kernel_rfl)).trans (by kernel_rfl)
theorem t25k25_5_eq (C:ak) (x:Nat→Value) (h:af):k25_5 C (aZ 33 x) h=t25k25_5 C x h:=
 bo (b:=(partOf Try.f25 [1,1,1,1])) (kE:=(al Try.prog Try.f25.results.toList)) (rE:=(al Try.prog Try.f25.results.toList)) (xE:=(fun _ _ _=>none)) (T:=t25k25_5 C) (fun x h=>by kernel_rfl) x h
theorem t25l25_111010_eq (C:ak) (x:Nat→Value) (h:af):aL Try.prog C (partOf Try.f25 [1,1,1,0,1,0,0]) (aZ 33 x) h=t25l25_111010 C x h:=
 bg (T:=t25l25_111010 C) (fun x h=>by kernel_rfl) x h
noncomputable def t26 (C:ak) (x0:Value) (h:af):Out:=
 ad (some ((.int .i64 0),h)) fun _y2 h=>
 ad (some (x0,h)) fun y3 h=>
 ad (C 58 [y3] h) fun y4 h=>
 ad (pu (bin Try.prog .neq 28 y4 (.int .i64 0)) h) fun y5 h=>
 ad (some (y5,h)) fun y6 h=>
 ad (ah (aO y6==some false) (some (x0,h)) h) fun y7 h=>
 ad (ah (aO y6==some false) (pu (aC y7) h) h) fun y8 h=>
 ad (ah (aO y6==some false) (pu (aI y8 6) h) h) fun y9 h=>
 ad (ah (aO y6==some false) (aV y9 h) h) fun bH h=>
 ad (ah (aO y6==some false) (pu (unA .not bH) h) h) fun bQ h=>
 ad (match y6 with | .bool t=>some (if t then (.bool true) else bQ,h)|_=>none) fun y12 h=>
 (match y12 with
 | .bool true=>
 ad (some ((.int .i64 0),h)) fun y2_1 h=>
 some (y2_1,h)
 | .bool false=>
 let g5_0:=h
 ad (some (x0,g5_0)) fun y13 g5_1=>
 ad (pu (aC y13) g5_1) fun y14 g5_2=>
 ad (pu (aI y14 0) g5_2) fun y15 g5_3=>
 ad (aV y15 g5_3) fun y16 g5_4=>
 ad (C 55 [y16] g5_4) fun y17 g5_5=>
 ad (some (x0,g5_5)) fun y18 g5_6=>
 ad (pu (aC y18) g5_6) fun y19 g5_7=>
 ad (pu (aI y19 7) g5_7) fun y20 g5_8=>
 ad (aV y20 g5_8) fun y21 g5_9=>
 ad (pu (bin Try.prog .sub 3 y17 y21) g5_9) fun y22 g5_10=>
 ad (some (y22,g5_10)) fun y2_1 g5_11=>
 (match (bU true (aV y20 g5_4) y21&&true) with
 |true=>
 let h:=g5_11
 some (y2_1,h)
 |false=>none)
 |_=>none)
theorem t26_eq (C:ak) (x0:Value) (h:af):bk Try.prog C Try.f26 [x0] h=t26 C x0 h:=
 (aN Try.prog C Try.f26 [x0] h (by kernel_rfl)).trans (by kernel_rfl)
noncomputable def t31 (_C:ak) (x0 x1 x2 x3:Value) (h:af):Out:=
 ad (some ((.int .i64 0),h)) fun _y8 h=>
 ad (some (x0,h)) fun bH h=>
 ad (pu (bin Try.prog .eql 27 bH (.pointer none)) h) fun bQ h=>
 ad (some (bQ,h)) fun y9 h=>
 (match y9 with
 | .bool true=>
 ad (some ((.int .i64 1),h)) fun y8_1 h=>
 some (y8_1,h)
 | .bool false=>
 ad (some (x1,h)) fun y13 h=>
 ad (pu (bin Try.prog .lss 3 y13 (.int .i64 0)) h) fun y14 h=>
 ad (some (y14,h)) fun y15 h=>
 ad (ah (aO y15==some false) (some (x1,h)) h) fun y16 h=>
 ad (ah (aO y15==some false) (some (x0,h)) h) fun y17 h=>
 ad (ah (aO y15==some false) (pu (aC y17) h) h) fun y18 h=>
 ad (ah (aO y15==some false) (pu (aI y18 0) h) h) fun y19 h=>
 ad (ah (aO y15==some false) (aV y19 h) h) fun y20 h=>
 ad (ah (aO y15==some false) (pu (cK y20) h) h) fun y21 h=>
 ad (ah (aO y15==some false) (pu (bin Try.prog .geq 3 y16 y21) h) h) fun y22 h=>
 ad (match y15 with | .bool t=>some (if t then (.bool true) else y22,h)|_=>none) fun y23 h=>
 ad (some (y23,h)) fun y24 h=>
 ad (ah (aO y24==some false) (some (x2,h)) h) fun y25 h=>
 ad (ah (aO y24==some false) (pu (bin Try.prog .lss 3 y25 (.int .i64 0)) h) h) fun y26 h=>
 ad (match y24 with | .bool t=>some (if t then (.bool true) else y26,h)|_=>none) fun y27 h=>
 ad (some (y27,h)) fun y28 h=>
 ad (ah (aO y28==some false) (some (x2,h)) h) fun y29 h=>
 ad (ah (aO y28==some false) (pu (bin Try.prog .geq 3 y29 (.int .i64 128)) h) h) fun y30 h=>
 ad (match y28 with | .bool t=>some (if t then (.bool true) else y30,h)|_=>none) fun y31 h=>
 ad (some (y31,h)) fun y12 h=>
 (match y12 with
 | .bool true=>
 ad (some ((.int .i64 2),h)) fun y8_1 h=>
 some (y8_1,h)
 | .bool false=>
 ad (some (x0,h)) fun y32 h=>
 ad (pu (aC y32) h) fun y33 h=>
 ad (pu (aI y33 0) h) fun y34 h=>
 ad (aV y34 h) fun y35 h=>
 ad (some (x1,h)) fun y36 h=>
 ad (some (x2,h)) fun y37 h=>
 ad (pu (bV 128 y35 y36) h) fun y38 h=>
 ad (pu (idxA 128 1 y38 y37) h) fun y39 h=>
 ad (aV y39 h) fun y40 h=>
 ad (some (x3,h)) fun y41 h=>
 ad (pu (bin Try.prog .xor 5 y40 y41) h) fun y42 h=>
 ad (pu (bV 128 y35 y36) h) fun y43 h=>
 ad (pu (idxA 128 1 y43 y37) h) fun y44 h=>
 ad (bK 1 y44 y42 h) fun _ h=>
 ad (some ((.int .i64 0),h)) fun y8_1 h=>
 some (y8_1,h)
 |_=>none)
 |_=>none)
theorem t31_eq (C:ak) (x0 x1 x2 x3:Value) (h:af):bk Try.prog C Try.f31 [x0,x1,x2,x3] h=t31 C x0 x1 x2 x3 h:=
 (aN Try.prog C Try.f31 [x0,x1,x2,x3] h (by kernel_rfl)).trans (by kernel_rfl)
noncomputable def t32 (_C:ak) (x0:Value) (h:af):Out:=
 ad (some (x0,h)) fun y2 h=>
 ad (pu (bin Try.prog .eql 27 y2 (.pointer none)) h) fun y3 h=>
 ad (some (y3,h)) fun y4 h=>
 ad (ah (aO y4==some false) (some (x0,h)) h) fun y5 h=>
 ad (ah (aO y4==some false) (pu (aC y5) h) h) fun y6 h=>
 ad (ah (aO y4==some false) (pu (aI y6 1) h) h) fun y7 h=>
 ad (ah (aO y4==some false) (aV y7 h) h) fun y8 h=>
 ad (match y4 with | .bool t=>some (if t then (.bool true) else y8,h)|_=>none) fun y9 h=>
 (match y9 with
 | .bool true=>
 some (.tuple #[],h)
 | .bool false=>
 ad (some (x0,h)) fun bH h=>
 ad (some (x0,h)) fun bQ h=>
 ad (pu (aC bH) h) fun y12 h=>
 ad (pu (aI y12 1) h) fun y13 h=>
 ad (bK 1 y13 (.bool true) h) fun _ h=>
 ad (pu (aC bQ) h) fun y14 h=>
 ad (pu (aI y14 2) h) fun y15 h=>
 ad (bK 1 y15 (.bool false) h) fun _ h=>
 ad (some (x0,h)) fun y16 h=>
 ad (pu (aC y16) h) fun y17 h=>
 ad (pu (aI y17 5) h) fun y18 h=>
 ad (aV y18 h) fun y19 h=>
 ad (pu (bin Try.prog .add 3 y19 (.int .i64 1)) h) fun y20 h=>
 ad (pu (aC y16) h) fun y21 h=>
 ad (pu (aI y21 5) h) fun y22 h=>
 ad (bK 1 y22 y20 h) fun _ h=>
 some (.tuple #[],h)
 |_=>none)
theorem t32_eq (C:ak) (x0:Value) (h:af):bk Try.prog C Try.f32 [x0] h=t32 C x0 h:=
 (aN Try.prog C Try.f32 [x0] h (by kernel_rfl)).trans (by kernel_rfl)
noncomputable def t33 (_C:ak) (x0:Value) (h:af):Out:=
 ad (some (x0,h)) fun y2 h=>
 ad (pu (bin Try.prog .neq 27 y2 (.pointer none)) h) fun y3 h=>
 (match y3 with
 | .bool true=>
 ad (some (x0,h)) fun y4 h=>
 ad (some (x0,h)) fun y5 h=>
 ad (pu (aC y4) h) fun y6 h=>
 ad (pu (aI y6 1) h) fun y7 h=>
 ad (bK 1 y7 (.bool false) h) fun _ h=>
 ad (pu (aC y5) h) fun y8 h=>
 ad (pu (aI y8 2) h) fun y9 h=>
 ad (bK 1 y9 (.bool false) h) fun _ h=>
 some (.tuple #[],h)
 | .bool false=>
 some (.tuple #[],h)
 |_=>none)
theorem t33_eq (C:ak) (x0:Value) (h:af):bk Try.prog C Try.f33 [x0] h=t33 C x0 h:=
 (aN Try.prog C Try.f33 [x0] h (by kernel_rfl)).trans (by kernel_rfl)
noncomputable def t36 (_C:ak) (x0:Value) (h:af):Out:=
 ad (some ((.bool false),h)) fun _y2 h=>
 ad (some (x0,h)) fun y3 h=>
 ad (pu (bin Try.prog .neq 27 y3 (.pointer none)) h) fun y4 h=>
 ad (some (y4,h)) fun y5 h=>
 ad (ah (aO y5==some true) (some (x0,h)) h) fun y6 h=>
 ad (ah (aO y5==some true) (pu (aC y6) h) h) fun y7 h=>
 ad (ah (aO y5==some true) (pu (aI y7 1) h) h) fun y8 h=>
 ad (ah (aO y5==some true) (aV y8 h) h) fun y9 h=>
 ad (match y5 with | .bool t=>some (if t then y9 else (.bool false),h)|_=>none) fun bH h=>
 ad (some (bH,h)) fun y2_1 h=>
 some (y2_1,h)
theorem t36_eq (C:ak) (x0:Value) (h:af):bk Try.prog C Try.f36 [x0] h=t36 C x0 h:=
 (aN Try.prog C Try.f36 [x0] h (by kernel_rfl)).trans (by kernel_rfl)
noncomputable def t48 (_C:ak) (x0 x1 x2:Value) (h:af):Out:=
 ad (some ((.int .i64 0),h)) fun _y6 h=>
 ad (some (x0,h)) fun y8 h=>
 ad (pu (bin Try.prog .eql 27 y8 (.pointer none)) h) fun y9 h=>
 ad (some (y9,h)) fun y7 h=>
 (match y7 with
 | .bool true=>
 ad (some ((.int .i64 1),h)) fun y6_1 h=>
 some (y6_1,h)
 | .bool false=>
 ad (some (x0,h)) fun bQ h=>
 ad (pu (aC bQ) h) fun y12 h=>
 ad (pu (aI y12 1) h) fun y13 h=>
 ad (aV y13 h) fun y14 h=>
 ad (some (y14,h)) fun bH h=>
 (match bH with
 | .bool true=>
 ad (some ((.int .i64 9),h)) fun y6_1 h=>
 some (y6_1,h)
 | .bool false=>
 ad (some (x1,h)) fun y16 h=>
 ad (pu (bin Try.prog .lss 3 y16 (.int .i64 0)) h) fun y17 h=>
 ad (some (y17,h)) fun y18 h=>
 ad (ah (aO y18==some false) (some (x2,h)) h) fun y19 h=>
 ad (ah (aO y18==some false) (pu (bin Try.prog .lss 3 y19 (.int .i64 0)) h) h) fun y20 h=>
 ad (match y18 with | .bool t=>some (if t then (.bool true) else y20,h)|_=>none) fun y21 h=>
 ad (some (y21,h)) fun y22 h=>
 ad (ah (aO y22==some false) (some (x2,h)) h) fun y23 h=>
 ad (ah (aO y22==some false) (pu (bin Try.prog .gtr 3 y23 (.int .i64 128)) h) h) fun y24 h=>
 ad (match y22 with | .bool t=>some (if t then (.bool true) else y24,h)|_=>none) fun y25 h=>
 ad (some (y25,h)) fun y15 h=>
 (match y15 with
 | .bool true=>
 ad (some ((.int .i64 2),h)) fun y6_1 h=>
 some (y6_1,h)
 | .bool false=>
 ad (some (x0,h)) fun y26 h=>
 ad (some (x0,h)) fun y27 h=>
 ad (some (x0,h)) fun y28 h=>
 ad (some (x1,h)) fun y29 h=>
 ad (some (x2,h)) fun y30 h=>
 ad (pu (aC y26) h) fun y31 h=>
 ad (pu (aI y31 2) h) fun y32 h=>
 ad (bK 1 y32 (.bool true) h) fun _ h=>
 ad (pu (aC y27) h) fun y33 h=>
 ad (pu (aI y33 3) h) fun y34 h=>
 ad (bK 1 y34 y29 h) fun _ h=>
 ad (pu (aC y28) h) fun y35 h=>
 ad (pu (aI y35 4) h) fun y36 h=>
 ad (bK 1 y36 y30 h) fun _ h=>
 ad (some ((.int .i64 0),h)) fun y6_1 h=>
 some (y6_1,h)
 |_=>none)
 |_=>none)
 |_=>none)
theorem t48_eq (C:ak) (x0 x1 x2:Value) (h:af):bk Try.prog C Try.f48 [x0,x1,x2] h=t48 C x0 x1 x2 h:=
 (aN Try.prog C Try.f48 [x0,x1,x2] h (by kernel_rfl)).trans (by kernel_rfl)
noncomputable def t50 (_C:ak) (x0:Value) (h:af):Out:=
 ad (some ((.int .i64 0),h)) fun _y2 h=>
 ad (some (x0,h)) fun y3 h=>
 ad (pu (bin Try.prog .eql 27 y3 (.pointer none)) h) fun y4 h=>
 (match y4 with
 | .bool true=>
 ad (some ((.int .i64 0),h)) fun y2_1 h=>
 some (y2_1,h)
 | .bool false=>
 ad (some (x0,h)) fun y5 h=>
 ad (pu (aC y5) h) fun y6 h=>
 ad (pu (aI y6 0) h) fun y7 h=>
 ad (aV y7 h) fun y8 h=>
 ad (pu (cK y8) h) fun y9 h=>
 ad (some (y9,h)) fun y2_1 h=>
 some (y2_1,h)
 |_=>none)
theorem t50_eq (C:ak) (x0:Value) (h:af):bk Try.prog C Try.f50 [x0] h=t50 C x0 h:=
 (aN Try.prog C Try.f50 [x0] h (by kernel_rfl)).trans (by kernel_rfl)
noncomputable def t53 (_C:ak) (x0 x1:Value) (h:af):Out:=
 ad (some ((.int .i64 0),h)) fun _y4 h=>
 ad (some (x0,h)) fun y6 h=>
 ad (pu (bin Try.prog .eql 27 y6 (.pointer none)) h) fun y7 h=>
 ad (some (y7,h)) fun y5 h=>
 (match y5 with
 | .bool true=>
 ad (some ((.int .i64 1),h)) fun y4_1 h=>
 some (y4_1,h)
 | .bool false=>
 ad (some (x0,h)) fun y9 h=>
 ad (pu (aC y9) h) fun bH h=>
 ad (pu (aI bH 1) h) fun bQ h=>
 ad (aV bQ h) fun y12 h=>
 ad (some (y12,h)) fun y8 h=>
 (match y8 with
 | .bool true=>
 ad (some ((.int .i64 9),h)) fun y4_1 h=>
 some (y4_1,h)
 | .bool false=>
 ad (some (x1,h)) fun y14 h=>
 ad (pu (bin Try.prog .lss 3 y14 (.int .i64 0)) h) fun y15 h=>
 ad (some (y15,h)) fun y16 h=>
 ad (ah (aO y16==some false) (some (x1,h)) h) fun y17 h=>
 ad (ah (aO y16==some false) (some (x0,h)) h) fun y18 h=>
 ad (ah (aO y16==some false) (pu (aC y18) h) h) fun y19 h=>
 ad (ah (aO y16==some false) (pu (aI y19 0) h) h) fun y20 h=>
 ad (ah (aO y16==some false) (aV y20 h) h) fun y21 h=>
 ad (ah (aO y16==some false) (pu (cK y21) h) h) fun y22 h=>
 ad (ah (aO y16==some false) (pu (bin Try.prog .geq 3 y17 y22) h) h) fun y23 h=>
 ad (match y16 with | .bool t=>some (if t then (.bool true) else y23,h)|_=>none) fun y24 h=>
 ad (some (y24,h)) fun y13 h=>
 (match y13 with
 | .bool true=>
 ad (some ((.int .i64 2),h)) fun y4_1 h=>
 some (y4_1,h)
 | .bool false=>
 ad (some ((.int .i64 0),h)) fun y4_1 h=>
 some (y4_1,h)
 |_=>none)
 |_=>none)
 |_=>none)
theorem t53_eq (C:ak) (x0 x1:Value) (h:af):bk Try.prog C Try.f53 [x0,x1] h=t53 C x0 x1 h:=
 (aN Try.prog C Try.f53 [x0,x1] h (by kernel_rfl)).trans (by kernel_rfl)
noncomputable def t54 (C:ak) (x0 x1:Value) (h:af):Out:=
 ad (some ((.int .u64 0),h)) fun _y4 h=>
 ad (some ((.int .i64 0),h)) fun _y5 h=>
 ad (some ((.bool false),h)) fun _y6 h=>
 ad (some (x0,h)) fun bQ h=>
 ad (some (x1,h)) fun y12 h=>
 ad (C 84 [bQ,y12] h) fun y13 h=>
 ad (some (y13,h)) fun bH h=>
 ad (pu (aA bH 0) h) fun y14 h=>
 ad (pu (aA bH 1) h) fun y15 h=>
 ad (some (y14,h)) fun y7 h=>
 ad (some (y15,h)) fun y8 h=>
 ad (some (y7,h)) fun y16 h=>
 ad (C 85 [y16] h) fun y17 h=>
 ad (some (y17,h)) fun y9 h=>
 ad (some (y7,h)) fun y18 h=>
 ad (C 86 [y18] h) fun y19 h=>
 ad (some (y7,h)) fun y20 h=>
 ad (C 87 [y20] h) fun y21 h=>
 ad (cvI .i64 y21 h) fun y22 h=>
 ad (some (y19,h)) fun y4_1 h=>
 ad (some (y22,h)) fun y5_1 h=>
 ad (some (y4_1,h)) fun y23 h=>
 ad (some (y5_1,h)) fun y24 h=>
 ad (some (y8,h)) fun y25 h=>
 ad (some (y25,h)) fun y26 h=>
 ad (ah (aO y26==some true) (some (y9,h)) h) fun y27 h=>
 ad (ah (aO y26==some true) (pu (bin Try.prog .eql 113 y27 (.int .u32 1398034252)) h) h) fun y28 h=>
 ad (match y26 with | .bool t=>some (if t then y28 else (.bool false),h)|_=>none) fun y29 h=>
 ad (some (y29,h)) fun y30 h=>
 ad (ah (aO y30==some true) (some (y5_1,h)) h) fun y31 h=>
 ad (ah (aO y30==some true) (pu (bin Try.prog .leq 3 y31 (.int .i64 1)) h) h) fun y32 h=>
 ad (match y30 with | .bool t=>some (if t then y32 else (.bool false),h)|_=>none) fun y33 h=>
 ad (some (y23,h)) fun y4_2 h=>
 ad (some (y24,h)) fun y5_2 h=>
 ad (some (y33,h)) fun y6_1 h=>
 some (.tuple #[y4_2,y5_2,y6_1],h)
theorem t54_eq (C:ak) (x0 x1:Value) (h:af):bk Try.prog C Try.f54 [x0,x1] h=t54 C x0 x1 h:=
 (aN Try.prog C Try.f54 [x0,x1] h (by kernel_rfl)).trans (by kernel_rfl)
noncomputable def t55 (_C:ak) (x0:Value) (h:af):Out:=
 ad (some ((.int .i64 0),h)) fun _y2 h=>
 ad (some (x0,h)) fun y3 h=>
 ad (pu (aC y3) h) fun y4 h=>
 ad (pu (aI y4 0) h) fun y5 h=>
 ad (aV y5 h) fun y6 h=>
 ad (pu (cK y6) h) fun y7 h=>
 ad (pu (bin Try.prog .sub 3 y7 (.int .i64 2)) h) fun y8 h=>
 ad (pu (bin Try.prog .quo 3 y8 (.int .i64 2)) h) fun y9 h=>
 ad (some (y9,h)) fun y2_1 h=>
 some (y2_1,h)
theorem t55_eq (C:ak) (x0:Value) (h:af):bk Try.prog C Try.f55 [x0] h=t55 C x0 h:=
 (aN Try.prog C Try.f55 [x0] h (by kernel_rfl)).trans (by kernel_rfl)
noncomputable def t56 (C:ak) (x0 x1 x2:Value) (h:af):Out:=
 ad (dp [(.int .u64 0),(.int .i64 0),(.int .i64 0),(.slice none 0 0)] h) fun y6 h=>
 ad (some ((.bool false),h)) fun _y7 h=>
 ad (some (x0,h)) fun y14 h=>
 ad (some (x1,h)) fun y15 h=>
 ad (some (x0,h)) fun y16 h=>
 ad (C 55 [y16] h) fun y17 h=>
 ad (pu (bin Try.prog .mul 3 y15 y17) h) fun y18 h=>
 ad (pu (bin Try.prog .add 3 (.int .i64 2) y18) h) fun y19 h=>
 ad (some (x2,h)) fun y20 h=>
 ad (pu (bin Try.prog .add 3 y19 y20) h) fun y21 h=>
 ad (C 84 [y14,y21] h) fun y22 h=>
 ad (some (y22,h)) fun y13 h=>
 ad (pu (aA y13 0) h) fun y23 h=>
 ad (pu (aA y13 1) h) fun y24 h=>
 ad (some (y23,h)) fun y8 h=>
 ad (some (y24,h)) fun y9 h=>
 ad (some (y8,h)) fun y25 h=>
 ad (C 86 [y25] h) fun y26 h=>
 ad (pu (ff [(.int .u64 0),(.int .i64 0),(.int .i64 0),(.slice none 0 0)] [(0,1,y26)]) h) fun y27 h=>
 ad (dp [(.int .u64 0),(.int .i64 0),(.int .i64 0),(.slice none 0 0)] h) fun bH h=>
 ad (bK 4 bH y27 h) fun _ h=>
 ad (some (y8,h)) fun y28 h=>
 ad (C 85 [y28] h) fun y29 h=>
 ad (cvI .i64 y29 h) fun y30 h=>
 ad (some (y30,h)) fun bQ h=>
 ad (some (y8,h)) fun y31 h=>
 ad (C 88 [y31] h) fun y32 h=>
 ad (cvI .i64 y32 h) fun y33 h=>
 ad (some (y8,h)) fun y34 h=>
 ad (C 88 [y34] h) fun y35 h=>
 ad (cvI .i64 y35 h) fun y36 h=>
 ad (pu (aI bH 1) h) fun y37 h=>
 ad (bK 1 y37 y33 h) fun _ h=>
 ad (pu (aI bH 2) h) fun y38 h=>
 ad (bK 1 y38 y36 h) fun _ h=>
 ad (some (y8,h)) fun y39 h=>
 ad (some (y8,h)) fun y40 h=>
 ad (C 88 [y40] h) fun y41 h=>
 ad (cvI .i64 y41 h) fun y42 h=>
 ad (C 89 [y39,y42] h) fun y43 h=>
 ad (pu (aI bH 3) h) fun y44 h=>
 ad (bK 1 y44 y43 h) fun _ h=>
 ad (some (y9,h)) fun y45 h=>
 ad (some (y45,h)) fun y46 h=>
 ad (ah (aO y46==some true) (some (bQ,h)) h) fun y47 h=>
 ad (ah (aO y46==some true) (some (x2,h)) h) fun y48 h=>
 ad (ah (aO y46==some true) (pu (bin Try.prog .eql 3 y47 y48) h) h) fun y49 h=>
 ad (match y46 with | .bool t=>some (if t then y49 else (.bool false),h)|_=>none) fun y50 h=>
 ad (some (y50,h)) fun y51 h=>
 ad (ah (aO y51==some true) (pu (aI bH 2) h) h) fun y52 h=>
 ad (ah (aO y51==some true) (aV y52 h) h) fun y53 h=>
 ad (ah (aO y51==some true) (pu (bin Try.prog .geq 3 y53 (.int .i64 1)) h) h) fun y54 h=>
 ad (match y51 with | .bool t=>some (if t then y54 else (.bool false),h)|_=>none) fun y55 h=>
 ad (some (y55,h)) fun y56 h=>
 ad (ah (aO y56==some true) (pu (aI bH 1) h) h) fun y57 h=>
 ad (ah (aO y56==some true) (aV y57 h) h) fun y58 h=>
 ad (ah (aO y56==some true) (pu (aI bH 2) h) h) fun y59 h=>
 ad (ah (aO y56==some true) (aV y59 h) h) fun y60 h=>
 ad (ah (aO y56==some true) (pu (bin Try.prog .lss 3 y58 y60) h) h) fun y61 h=>
 ad (match y56 with | .bool t=>some (if t then y61 else (.bool false),h)|_=>none) fun y62 h=>
 ad (some (y62,h)) fun y63 h=>
 ad (ah (aO y63==some true) (some (y8,h)) h) fun y64 h=>
 ad (ah (aO y63==some true) (C 90 [y64] h) h) fun y65 h=>
 ad (ah (aO y63==some true) (pu (bin Try.prog .eql 28 y65 (.int .i64 0)) h) h) fun y66 h=>
 ad (match y63 with | .bool t=>some (if t then y66 else (.bool false),h)|_=>none) fun y67 h=>
 ad (some (y67,h)) fun y12 h=>
 ad (bD 4 bH h) fun y68 h=>
 ad (some (y12,h)) fun y69 h=>
 ad (bK 4 y6 y68 h) fun _ h=>
 ad (some (y69,h)) fun y7_1 h=>
 al Try.prog Try.f56.results.toList (aZ 70 (up (bs [x0,x1,x2]) [(6,y6),(7,y7_1),(8,y8),(9,y9),(10,bH),(11,bQ),(12,y12),(13,y13),(14,y14),(15,y15),(16,y16),(17,y17),(18,y18),(19,y19),(20,y20),(21,y21),(22,y22),(23,y23),(24,y24),(25,y25),(26,y26),(27,y27),(28,y28),(29,y29),(30,y30),(31,y31),(32,y32),(33,y33),(34,y34),(35,y35),(36,y36),(37,y37),(38,y38),(39,y39),(40,y40),(41,y41),(42,y42),(43,y43),(44,y44),(45,y45),(46,y46),(47,y47),(48,y48),(49,y49),(50,y50),(51,y51),(52,y52),(53,y53),(54,y54),(55,y55),(56,y56),(57,y57),(58,y58),(59,y59),(60,y60),(61,y61),(62,y62),(63,y63),(64,y64),(65,y65),(66,y66),(67,y67),(68,y68),(69,y69)])) h
theorem t56_eq (C:ak) (x0 x1 x2:Value) (h:af):bk Try.prog C Try.f56 [x0,x1,x2] h=t56 C x0 x1 x2 h:=
 (aN Try.prog C Try.f56 [x0,x1,x2] h (by kernel_rfl)).trans (by kernel_rfl)
noncomputable def k57_7 (C:ak) (e:Env) (h:af):Out:=cF Try.prog C (partOf Try.f57 [1,1,1,1,1,1]) e h (al Try.prog Try.f57.results.toList) (al Try.prog Try.f57.results.toList) (fun _ _ _=>none)
noncomputable def b57_9 (C:ak) (i:Nat) (e:Env) (h:af):Out:=if i=0 then (k57_7 C) e h else (fun _ _ _=>none) i e h
noncomputable def t57 (C:ak) (x0 x1:Value) (h:af):Out:=
 ad (some ((.slice none 0 0),h)) fun y4 h=>
 ad (some ((.int .i64 0),h)) fun y5 h=>
 ad (some (x0,h)) fun y12 h=>
 ad (pu (aC y12) h) fun y13 h=>
 ad (pu (aI y13 0) h) fun y14 h=>
 ad (aV y14 h) fun y15 h=>
 ad (C 55 [y15] h) fun y16 h=>
 ad (some (y16,h)) fun y6 h=>
 ad (some (x0,h)) fun y17 h=>
 ad (pu (aC y17) h) fun y18 h=>
 ad (pu (aI y18 2) h) fun y19 h=>
 ad (aV y19 h) fun y20 h=>
 ad (pu (bin Try.prog .lss 3 y20 (.int .i64 0)) h) fun y21 h=>
 ad (some (y21,h)) fun y22 h=>
 ad (ah (aO y22==some false) (some (x1,h)) h) fun y23 h=>
 ad (ah (aO y22==some false) (pu (bin Try.prog .lss 3 y23 (.int .i64 0)) h) h) fun y24 h=>
 ad (match y22 with | .bool t=>some (if t then (.bool true) else y24,h)|_=>none) fun y25 h=>
 ad (some (y25,h)) fun y26 h=>
 ad (ah (aO y26==some false) (some (x1,h)) h) fun y27 h=>
 ad (ah (aO y26==some false) (some (y6,h)) h) fun y28 h=>
 ad (ah (aO y26==some false) (pu (bin Try.prog .geq 3 y27 y28) h) h) fun y29 h=>
 ad (match y26 with | .bool t=>some (if t then (.bool true) else y29,h)|_=>none) fun y30 h=>
 (match y30 with
 | .bool true=>
 ad (some ((.slice none 0 0),h)) fun y4_1 h=>
 ad (some ((.int .i64 0),h)) fun y5_1 h=>
 some (.tuple #[y4_1,y5_1],h)
 | .bool false=>
 ad (some ((.slice none 0 0),h)) fun y7 h=>
 ad (some ((.int .i64 1),h)) fun y8 h=>
 ad (some ((.int .i64 0),h)) fun y9 h=>
 dI (iter (aL Try.prog C (partOf Try.f57 [1,1,1,1,1,0,1,0,0])) rounds (aZ 89 (up (bs [x0,x1]) [(4,y4),(5,y5),(6,y6),(7,y7),(8,y8),(9,y9),(12,y12),(13,y13),(14,y14),(15,y15),(16,y16),(17,y17),(18,y18),(19,y19),(20,y20),(21,y21),(22,y22),(23,y23),(24,y24),(25,y25),(26,y26),(27,y27),(28,y28),(29,y29),(30,y30)])) h) (al Try.prog Try.f57.results.toList) (b57_9 C)
 |_=>none)
noncomputable def t57k57_7 (_C:ak) (x:Nat→Value) (h:af):Out:=
 ad (some ((x 7),h)) fun y87 h=>
 ad (some ((x 8),h)) fun y88 h=>
 ad (some (y87,h)) fun y4 h=>
 ad (some (y88,h)) fun y5 h=>
 some (.tuple #[y4,y5],h)
noncomputable def gT (C:ak) (x:Nat→Value) (h:af):Option (Ex×Env×af):=
 ad (some ((x 9),h)) fun y31 h=>
 ad (some ((x 8),h)) fun y32 h=>
 ad (pu (bin Try.prog .lss 3 y31 y32) h) fun y33 h=>
 (match y33 with
 | .bool true=>
 ad (some ((x 1),h)) fun y36 h=>
 ad (some ((x 9),h)) fun y37 h=>
 ad (pu (bin Try.prog .add 3 y36 y37) h) fun y38 h=>
 ad (some ((x 6),h)) fun y39 h=>
 ad (pu (bin Try.prog .geq 3 y38 y39) h) fun y40 h=>
 (match y40 with
 | .bool true=>
 ad (some ((.slice none 0 0),h)) fun y4 h=>
 ad (some ((.int .i64 0),h)) fun y5 h=>
 some (.ret,(aZ 89 (up x [(4,y4),(5,y5),(31,y31),(32,y32),(33,y33),(36,y36),(37,y37),(38,y38),(39,y39),(40,y40)])),h)
 | .bool false=>
 ad (some ((x 0),h)) fun y42 h=>
 ad (pu (aC y42) h) fun y43 h=>
 ad (pu (aI y43 0) h) fun y44 h=>
 ad (aV y44 h) fun y45 h=>
 ad (some ((x 0),h)) fun y46 h=>
 ad (pu (aC y46) h) fun y47 h=>
 ad (pu (aI y47 3) h) fun y48 h=>
 ad (aV y48 h) fun y49 h=>
 ad (some ((x 1),h)) fun y50 h=>
 ad (some ((x 9),h)) fun y51 h=>
 ad (pu (bin Try.prog .add 3 y50 y51) h) fun y52 h=>
 ad (C 56 [y45,y49,y52] h) fun y53 h=>
 ad (some (y53,h)) fun y41 h=>
 ad (pu (aA y41 0) h) fun y54 h=>
 ad (pu (aA y41 1) h) fun y55 h=>
 ad (dp [(.int .u64 0),(.int .i64 0),(.int .i64 0),(.slice none 0 0)] h) fun bH h=>
 ad (bK 4 bH y54 h) fun _ h=>
 ad (some (y55,h)) fun bQ h=>
 ad (some ((x 9),h)) fun y56 h=>
 ad (pu (bin Try.prog .eql 3 y56 (.int .i64 0)) h) fun y57 h=>
 (match y57 with
 | .bool true=>
 ad (pu (aI bH 2) h) fun y58 h=>
 ad (aV y58 h) fun y59 h=>
 ad (some (y59,h)) fun y8 h=>
 ad (some (bQ,h)) fun y60 h=>
 ad (pu (unA .not y60) h) fun y61 h=>
 ad (some (y61,h)) fun y62 h=>
 ad (ah (aO y62==some false) (pu (aI bH 0) h) h) fun y63 h=>
 ad (ah (aO y62==some false) (aV y63 h) h) fun y64 h=>
 ad (ah (aO y62==some false) (some ((x 0),h)) h) fun y65 h=>
 ad (ah (aO y62==some false) (pu (aC y65) h) h) fun y66 h=>
 ad (ah (aO y62==some false) (pu (aI y66 4) h) h) fun y67 h=>
 ad (ah (aO y62==some false) (aV y67 h) h) fun y68 h=>
 ad (ah (aO y62==some false) (pu (bin Try.prog .neq 58 y64 y68) h) h) fun y69 h=>
 ad (match y62 with | .bool t=>some (if t then (.bool true) else y69,h)|_=>none) fun y70 h=>
 ad (some (y70,h)) fun y71 h=>
 ad (ah (aO y71==some false) (pu (aI bH 1) h) h) fun y72 h=>
 ad (ah (aO y71==some false) (aV y72 h) h) fun y73 h=>
 ad (ah (aO y71==some false) (some ((x 9),h)) h) fun y74 h=>
 ad (ah (aO y71==some false) (pu (bin Try.prog .neq 3 y73 y74) h) h) fun y75 h=>
 ad (match y71 with | .bool t=>some (if t then (.bool true) else y75,h)|_=>none) fun y76 h=>
 ad (some (y76,h)) fun y77 h=>
 ad (ah (aO y77==some false) (pu (aI bH 2) h) h) fun y78 h=>
 ad (ah (aO y77==some false) (aV y78 h) h) fun y79 h=>
 ad (ah (aO y77==some false) (some (y8,h)) h) fun y80 h=>
 ad (ah (aO y77==some false) (pu (bin Try.prog .neq 3 y79 y80) h) h) fun y81 h=>
 ad (match y77 with | .bool t=>some (if t then (.bool true) else y81,h)|_=>none) fun y82 h=>
 (match y82 with
 | .bool true=>
 ad (some ((.slice none 0 0),h)) fun y4 h=>
 ad (some ((.int .i64 0),h)) fun y5 h=>
 some (.ret,(aZ 89 (up x [(4,y4),(5,y5),(8,y8),(10,bH),(11,bQ),(31,y31),(32,y32),(33,y33),(36,y36),(37,y37),(38,y38),(39,y39),(40,y40),(41,y41),(42,y42),(43,y43),(44,y44),(45,y45),(46,y46),(47,y47),(48,y48),(49,y49),(50,y50),(51,y51),(52,y52),(53,y53),(54,y54),(55,y55),(56,y56),(57,y57),(58,y58),(59,y59),(60,y60),(61,y61),(62,y62),(63,y63),(64,y64),(65,y65),(66,y66),(67,y67),(68,y68),(69,y69),(70,y70),(71,y71),(72,y72),(73,y73),(74,y74),(75,y75),(76,y76),(77,y77),(78,y78),(79,y79),(80,y80),(81,y81),(82,y82)])),h)
 | .bool false=>
 ad (some ((x 7),h)) fun y83 h=>
 ad (pu (aI bH 3) h) fun y84 h=>
 ad (aV y84 h) fun y85 h=>
 ad (bt 1 1 y83 y85 h) fun y86 h=>
 ad (some (y86,h)) fun y7 h=>
 ad (some ((x 9),h)) fun y34 h=>
 ad (pu (bin Try.prog .add 3 y34 (.int .i64 1)) h) fun y35 h=>
 ad (some (y35,h)) fun y9 h=>
 some (.normal,(aZ 89 (up x [(7,y7),(8,y8),(9,y9),(10,bH),(11,bQ),(31,y31),(32,y32),(33,y33),(34,y34),(35,y35),(36,y36),(37,y37),(38,y38),(39,y39),(40,y40),(41,y41),(42,y42),(43,y43),(44,y44),(45,y45),(46,y46),(47,y47),(48,y48),(49,y49),(50,y50),(51,y51),(52,y52),(53,y53),(54,y54),(55,y55),(56,y56),(57,y57),(58,y58),(59,y59),(60,y60),(61,y61),(62,y62),(63,y63),(64,y64),(65,y65),(66,y66),(67,y67),(68,y68),(69,y69),(70,y70),(71,y71),(72,y72),(73,y73),(74,y74),(75,y75),(76,y76),(77,y77),(78,y78),(79,y79),(80,y80),(81,y81),(82,y82),(83,y83),(84,y84),(85,y85),(86,y86)])),h)
 |_=>none)
 | .bool false=>
 ad (some (bQ,h)) fun y60 h=>
 ad (pu (unA .not y60) h) fun y61 h=>
 ad (some (y61,h)) fun y62 h=>
 ad (ah (aO y62==some false) (pu (aI bH 0) h) h) fun y63 h=>
 ad (ah (aO y62==some false) (aV y63 h) h) fun y64 h=>
 ad (ah (aO y62==some false) (some ((x 0),h)) h) fun y65 h=>
 ad (ah (aO y62==some false) (pu (aC y65) h) h) fun y66 h=>
 ad (ah (aO y62==some false) (pu (aI y66 4) h) h) fun y67 h=>
 ad (ah (aO y62==some false) (aV y67 h) h) fun y68 h=>
 ad (ah (aO y62==some false) (pu (bin Try.prog .neq 58 y64 y68) h) h) fun y69 h=>
 ad (match y62 with | .bool t=>some (if t then (.bool true) else y69,h)|_=>none) fun y70 h=>
 ad (some (y70,h)) fun y71 h=>
 ad (ah (aO y71==some false) (pu (aI bH 1) h) h) fun y72 h=>
 ad (ah (aO y71==some false) (aV y72 h) h) fun y73 h=>
 ad (ah (aO y71==some false) (some ((x 9),h)) h) fun y74 h=>
 ad (ah (aO y71==some false) (pu (bin Try.prog .neq 3 y73 y74) h) h) fun y75 h=>
 ad (match y71 with | .bool t=>some (if t then (.bool true) else y75,h)|_=>none) fun y76 h=>
 ad (some (y76,h)) fun y77 h=>
 ad (ah (aO y77==some false) (pu (aI bH 2) h) h) fun y78 h=>
 ad (ah (aO y77==some false) (aV y78 h) h) fun y79 h=>
 ad (ah (aO y77==some false) (some ((x 8),h)) h) fun y80 h=>
 ad (ah (aO y77==some false) (pu (bin Try.prog .neq 3 y79 y80) h) h) fun y81 h=>
 ad (match y77 with | .bool t=>some (if t then (.bool true) else y81,h)|_=>none) fun y82 h=>
 (match y82 with
 | .bool true=>
 ad (some ((.slice none 0 0),h)) fun y4 h=>
 ad (some ((.int .i64 0),h)) fun y5 h=>
 some (.ret,(aZ 89 (up x [(4,y4),(5,y5),(10,bH),(11,bQ),(31,y31),(32,y32),(33,y33),(36,y36),(37,y37),(38,y38),(39,y39),(40,y40),(41,y41),(42,y42),(43,y43),(44,y44),(45,y45),(46,y46),(47,y47),(48,y48),(49,y49),(50,y50),(51,y51),(52,y52),(53,y53),(54,y54),(55,y55),(56,y56),(57,y57),(60,y60),(61,y61),(62,y62),(63,y63),(64,y64),(65,y65),(66,y66),(67,y67),(68,y68),(69,y69),(70,y70),(71,y71),(72,y72),(73,y73),(74,y74),(75,y75),(76,y76),(77,y77),(78,y78),(79,y79),(80,y80),(81,y81),(82,y82)])),h)
 | .bool false=>
 ad (some ((x 7),h)) fun y83 h=>
 ad (pu (aI bH 3) h) fun y84 h=>
 ad (aV y84 h) fun y85 h=>
 ad (bt 1 1 y83 y85 h) fun y86 h=>
 ad (some (y86,h)) fun y7 h=>
 ad (some ((x 9),h)) fun y34 h=>
 ad (pu (bin Try.prog .add 3 y34 (.int .i64 1)) h) fun y35 h=>
 ad (some (y35,h)) fun y9 h=>
 some (.normal,(aZ 89 (up x [(7,y7),(9,y9),(10,bH),(11,bQ),(31,y31),(32,y32),(33,y33),(34,y34),(35,y35),(36,y36),(37,y37),(38,y38),(39,y39),(40,y40),(41,y41),(42,y42),(43,y43),(44,y44),(45,y45),(46,y46),(47,y47),(48,y48),(49,y49),(50,y50),(51,y51),(52,y52),(53,y53),(54,y54),(55,y55),(56,y56),(57,y57),(60,y60),(61,y61),(62,y62),(63,y63),(64,y64),(65,y65),(66,y66),(67,y67),(68,y68),(69,y69),(70,y70),(71,y71),(72,y72),(73,y73),(74,y74),(75,y75),(76,y76),(77,y77),(78,y78),(79,y79),(80,y80),(81,y81),(82,y82),(83,y83),(84,y84),(85,y85),(86,y86)])),h)
 |_=>none)
 |_=>none)
 |_=>none)
 | .bool false=>
 some (.exit 0,(aZ 89 (up x [(31,y31),(32,y32),(33,y33)])),h)
 |_=>none)
theorem t57_eq (C:ak) (x0 x1:Value) (h:af):bk Try.prog C Try.f57 [x0,x1] h=t57 C x0 x1 h:=
 (aN Try.prog C Try.f57 [x0,x1] h (by kernel_rfl)).trans (by kernel_rfl)
theorem t57k57_7_eq (C:ak) (x:Nat→Value) (h:af):k57_7 C (aZ 89 x) h=t57k57_7 C x h:=
 bo (b:=(partOf Try.f57 [1,1,1,1,1,1])) (kE:=(al Try.prog Try.f57.results.toList)) (rE:=(al Try.prog Try.f57.results.toList)) (xE:=(fun _ _ _=>none)) (T:=t57k57_7 C) (fun x h=>by kernel_rfl) x h
theorem t57l57_11111010_eq (C:ak) (x:Nat→Value) (h:af):aL Try.prog C (partOf Try.f57 [1,1,1,1,1,0,1,0,0]) (aZ 89 x) h=gT C x h:=
 bg (T:=gT C) (fun x h=>by kernel_rfl) x h
noncomputable def t58 (_C:ak) (x0:Value) (h:af):Out:=
 ad (some ((.int .i64 0),h)) fun _y2 h=>
 ad (some (x0,h)) fun y4 h=>
 ad (pu (bin Try.prog .eql 38 y4 (.pointer none)) h) fun y5 h=>
 ad (some (y5,h)) fun y3 h=>
 (match y3 with
 | .bool true=>
 ad (some ((.int .i64 1),h)) fun y2_1 h=>
 some (y2_1,h)
 | .bool false=>
 ad (some (x0,h)) fun y7 h=>
 ad (pu (aC y7) h) fun y8 h=>
 ad (pu (aI y8 0) h) fun y9 h=>
 ad (aV y9 h) fun bH h=>
 ad (pu (aC bH) h) fun bQ h=>
 ad (pu (aI bQ 1) h) fun y12 h=>
 ad (aV y12 h) fun y13 h=>
 ad (some (y13,h)) fun y14 h=>
 ad (ah (aO y14==some false) (some (x0,h)) h) fun y15 h=>
 ad (ah (aO y14==some false) (pu (aC y15) h) h) fun y16 h=>
 ad (ah (aO y14==some false) (pu (aI y16 0) h) h) fun y17 h=>
 ad (ah (aO y14==some false) (aV y17 h) h) fun y18 h=>
 ad (ah (aO y14==some false) (pu (aC y18) h) h) fun y19 h=>
 ad (ah (aO y14==some false) (pu (aI y19 5) h) h) fun y20 h=>
 ad (ah (aO y14==some false) (aV y20 h) h) fun y21 h=>
 ad (ah (aO y14==some false) (some (x0,h)) h) fun y22 h=>
 ad (ah (aO y14==some false) (pu (aC y22) h) h) fun y23 h=>
 ad (ah (aO y14==some false) (pu (aI y23 1) h) h) fun y24 h=>
 ad (ah (aO y14==some false) (aV y24 h) h) fun y25 h=>
 ad (ah (aO y14==some false) (pu (bin Try.prog .neq 3 y21 y25) h) h) fun y26 h=>
 ad (match y14 with | .bool t=>some (if t then (.bool true) else y26,h)|_=>none) fun y27 h=>
 ad (some (y27,h)) fun y6 h=>
 (match y6 with
 | .bool true=>
 ad (some ((.int .i64 9),h)) fun y2_1 h=>
 some (y2_1,h)
 | .bool false=>
 ad (some ((.int .i64 0),h)) fun y2_1 h=>
 some (y2_1,h)
 |_=>none)
 |_=>none)
theorem t58_eq (C:ak) (x0:Value) (h:af):bk Try.prog C Try.f58 [x0] h=t58 C x0 h:=
 (aN Try.prog C Try.f58 [x0] h (by kernel_rfl)).trans (by kernel_rfl)
noncomputable def t64 (C:ak) (x0:Value) (h:af):Out:=
 ad (some ((.slice none 0 0),h)) fun _y2 h=>
 ad (some (x0,h)) fun y8 h=>
 ad (C 94 [y8] h) fun y9 h=>
 ad (some (y9,h)) fun y7 h=>
 ad (pu (aA y7 0) h) fun bH h=>
 ad (pu (aA y7 1) h) fun bQ h=>
 ad (some (bH,h)) fun y3 h=>
 ad (some (bQ,h)) fun _y4 h=>
 ad (mkR 1 1 (.int .u8 0) (.int .i64 128) (.int .i64 128) h) fun y12 h=>
 ad (some (y12,h)) fun y5 h=>
 ad (some (y5,h)) fun y13 h=>
 ad (pu (slR 1 y13 (some (.int .i64 4)) none none) h) fun y14 h=>
 ad (some (y3,h)) fun y15 h=>
 ad (copyA 1 y14 y15 h) fun _y16 h=>
 ad (some (y5,h)) fun y17 h=>
 ad (pu (slR 1 y17 (some (.int .i64 4)) none none) h) fun y18 h=>
 ad (C 95 [y18] h) fun y19 h=>
 ad (some (y19,h)) fun y6 h=>
 ad (some (y5,h)) fun y20 h=>
 ad (some (y5,h)) fun y21 h=>
 ad (some (y5,h)) fun y22 h=>
 ad (some (y5,h)) fun y23 h=>
 ad (some (y6,h)) fun y24 h=>
 ad (pu (bin Try.prog .shr 113 y24 (.int .u64 24)) h) fun y25 h=>
 ad (cvI .u8 y25 h) fun y26 h=>
 ad (some (y6,h)) fun y27 h=>
 ad (pu (bin Try.prog .shr 113 y27 (.int .u64 16)) h) fun y28 h=>
 ad (cvI .u8 y28 h) fun y29 h=>
 ad (some (y6,h)) fun y30 h=>
 ad (pu (bin Try.prog .shr 113 y30 (.int .u64 8)) h) fun y31 h=>
 ad (cvI .u8 y31 h) fun y32 h=>
 ad (some (y6,h)) fun y33 h=>
 ad (cvI .u8 y33 h) fun y34 h=>
 ad (pu (bV 1 y20 (.int .i64 0)) h) fun y35 h=>
 ad (bK 1 y35 y26 h) fun _ h=>
 ad (pu (bV 1 y21 (.int .i64 1)) h) fun y36 h=>
 ad (bK 1 y36 y29 h) fun _ h=>
 ad (pu (bV 1 y22 (.int .i64 2)) h) fun y37 h=>
 ad (bK 1 y37 y32 h) fun _ h=>
 ad (pu (bV 1 y23 (.int .i64 3)) h) fun y38 h=>
 ad (bK 1 y38 y34 h) fun _ h=>
 ad (some (y5,h)) fun y39 h=>
 ad (some (y39,h)) fun y2_1 h=>
 some (y2_1,h)
theorem t64_eq (C:ak) (x0:Value) (h:af):bk Try.prog C Try.f64 [x0] h=t64 C x0 h:=
 (aN Try.prog C Try.f64 [x0] h (by kernel_rfl)).trans (by kernel_rfl)
noncomputable def t81 (_C:ak) (x0:Value) (h:af):Out:=
 ad (some ((.int .i64 0),h)) fun _y2 h=>
 ad (some (x0,h)) fun y3 h=>
 ad (pu (bin Try.prog .eql 27 y3 (.pointer none)) h) fun y4 h=>
 (match y4 with
 | .bool true=>
 ad (some ((.int .i64 1),h)) fun y2_1 h=>
 some (y2_1,h)
 | .bool false=>
 ad (some (x0,h)) fun y5 h=>
 ad (pu (aC y5) h) fun y6 h=>
 ad (pu (aI y6 0) h) fun y7 h=>
 ad (aV y7 h) fun y8 h=>
 ad (clrR (.agg (List.replicate 128 (.int .u8 0)).toArray) 128 y8 h) fun _ h=>
 ad (some ((.int .i64 0),h)) fun y2_1 h=>
 some (y2_1,h)
 |_=>none)
theorem t81_eq (C:ak) (x0:Value) (h:af):bk Try.prog C Try.f81 [x0] h=t81 C x0 h:=
 (aN Try.prog C Try.f81 [x0] h (by kernel_rfl)).trans (by kernel_rfl)
noncomputable def t84 (C:ak) (x0 x1:Value) (h:af):Out:=
 ad (some ((.pointer none),h)) fun _y4 h=>
 ad (some ((.bool false),h)) fun _y5 h=>
 ad (some (x0,h)) fun y8 h=>
 ad (pu (aC y8) h) fun y9 h=>
 ad (pu (aI y9 0) h) fun bH h=>
 ad (aV bH h) fun bQ h=>
 ad (some (x1,h)) fun y12 h=>
 ad (pu (bV 128 bQ y12) h) fun y13 h=>
 ad (pu (eg 128 1 y13 none none none) h) fun y14 h=>
 ad (C 105 [y14] h) fun y15 h=>
 ad (some (y15,h)) fun y6 h=>
 ad (some (y6,h)) fun y16 h=>
 ad (C 85 [y16] h) fun y17 h=>
 ad (some (y17,h)) fun y7 h=>
 ad (some (y6,h)) fun y18 h=>
 ad (some (y7,h)) fun y19 h=>
 ad (some (x0,h)) fun y20 h=>
 ad (pu (aC y20) h) fun y21 h=>
 ad (pu (aI y21 0) h) fun y22 h=>
 ad (aV y22 h) fun y23 h=>
 ad (some (x1,h)) fun y24 h=>
 ad (pu (bV 128 y23 y24) h) fun y25 h=>
 ad (pu (eg 128 1 y25 (some (.int .i64 4)) none none) h) fun y26 h=>
 ad (C 95 [y26] h) fun y27 h=>
 ad (pu (bin Try.prog .eql 113 y19 y27) h) fun y28 h=>
 ad (some (y18,h)) fun y4_1 h=>
 ad (some (y28,h)) fun y5_1 h=>
 some (.tuple #[y4_1,y5_1],h)
theorem t84_eq (C:ak) (x0 x1:Value) (h:af):bk Try.prog C Try.f84 [x0,x1] h=t84 C x0 x1 h:=
 (aN Try.prog C Try.f84 [x0,x1] h (by kernel_rfl)).trans (by kernel_rfl)
end Go.Proofs.Ytcmfgmhadeeieaa

namespace Go.Proofs.Ytcmfgmhadeeieaa
open Go Go.Abs
noncomputable def k21_7 (C:ak) (e:Env) (h:af):Out:=cF Try.prog C (partOf Try.f21 [1,1,1,1,1]) e h (al Try.prog Try.f21.results.toList) (al Try.prog Try.f21.results.toList) (fun _ _ _=>none)
noncomputable def b21_9 (C:ak) (i:Nat) (e:Env) (h:af):Out:=if i=0 then (k21_7 C) e h else (fun _ _ _=>none) i e h
noncomputable def k21_11 (C:ak) (e:Env) (h:af):Out:=cF Try.prog C (partOf Try.f21 [1,1,1,1,1,1,1]) e h (al Try.prog Try.f21.results.toList) (al Try.prog Try.f21.results.toList) (fun _ _ _=>none)
noncomputable def b21_13 (C:ak) (i:Nat) (e:Env) (h:af):Out:=if i=4 then (k21_11 C) e h else (fun _ _ _=>none) i e h
noncomputable def k21_16 (C:ak) (e:Env) (h:af):Option (Ex×Env×af):=cF Try.prog C (partOf Try.f21 [1,1,1,1,0,1,0,0,1,1,1]) e h (fun e h=>some (Ex.normal,e,h)) (fun e h=>some (Ex.ret,e,h)) (fun i e h=>some (Ex.exit i,e,h))
noncomputable def b21_17 (C:ak) (i:Nat) (e:Env) (h:af):Option (Ex×Env×af):=if i=1 then (k21_16 C) e h else (fun i e h=>some (Ex.exit i,e,h)) i e h
noncomputable def b21_25 (C:ak) (i:Nat) (e:Env) (h:af):Option (Ex×Env×af):=if i=2 then (k21_16 C) e h else (b21_17 C) i e h
noncomputable def t21 (C:ak) (x0:Value) (h:af):Out:=
 ad (some ((.pointer none),h)) fun y2 h=>
 ad (some ((.slice none 0 0),h)) fun y3 h=>
 ad (some ((.int .i64 0),h)) fun y4 h=>
 ad (some (x0,h)) fun y18 h=>
 ad (C 53 [y18,(.int .i64 0)] h) fun y19 h=>
 ad (some (y19,h)) fun y5 h=>
 ad (some (y5,h)) fun y20 h=>
 ad (pu (bin Try.prog .neq 28 y20 (.int .i64 0)) h) fun y21 h=>
 (match y21 with
 | .bool true=>
 ad (some (y5,h)) fun y22 h=>
 ad (some ((.pointer none),h)) fun y2_1 h=>
 ad (some ((.slice none 0 0),h)) fun y3_1 h=>
 ad (some (y22,h)) fun y4_1 h=>
 some (.tuple #[y2_1,y3_1,y4_1],h)
 | .bool false=>
 ad (some (x0,h)) fun y23 h=>
 ad (pu (aC y23) h) fun y24 h=>
 ad (pu (aI y24 5) h) fun y25 h=>
 ad (aV y25 h) fun y26 h=>
 ad (pu (bin Try.prog .add 3 y26 (.int .i64 1)) h) fun y27 h=>
 ad (pu (aC y23) h) fun y28 h=>
 ad (pu (aI y28 5) h) fun y29 h=>
 ad (bK 1 y29 y27 h) fun _ h=>
 ad (some (x0,h)) fun y30 h=>
 ad (some (x0,h)) fun y31 h=>
 ad (pu (aC y31) h) fun y32 h=>
 ad (pu (aI y32 5) h) fun y33 h=>
 ad (aV y33 h) fun y34 h=>
 ad (pu (ff [(.pointer none),(.int .i64 0),(.int .i64 0),(.int .i64 0),(.int .u64 0),(.int .u64 0),(.bool false),(.int .i64 0)] [(0,1,y30),(1,1,y34),(2,1,(.int .i64 (-1)))]) h) fun y35 h=>
 ad (box y35 h) fun y36 h=>
 ad (some (y36,h)) fun y6 h=>
 ad (some ((.int .i64 0),h)) fun y37 h=>
 dI (iter (aL Try.prog C (partOf Try.f21 [1,1,1,1,0,1,0,0])) rounds (aZ 131 (up (bs [x0]) [(2,y2),(3,y3),(4,y4),(5,y5),(6,y6),(18,y18),(19,y19),(20,y20),(21,y21),(23,y23),(24,y24),(25,y25),(26,y26),(27,y27),(28,y28),(29,y29),(30,y30),(31,y31),(32,y32),(33,y33),(34,y34),(35,y35),(36,y36),(37,y37)])) h) (al Try.prog Try.f21.results.toList) (b21_9 C)
 |_=>none)
noncomputable def t21k21_7 (C:ak) (x:Nat→Value) (h:af):Out:=
 ad (some ((.slice none 0 0),h)) fun y14 h=>
 ad (some ((.int .i64 0),h)) fun y15 h=>
 dI (iter (aL Try.prog C (partOf Try.f21 [1,1,1,1,1,1,0,1,0,0])) rounds (aZ 131 (up x [(14,y14),(15,y15)])) h) (al Try.prog Try.f21.results.toList) (b21_13 C)
noncomputable def fj (C:ak) (x:Nat→Value) (h:af):Option (Ex×Env×af):=
 ad (pu (bin Try.prog .lss 3 (x 37) (.int .i64 2)) h) fun y38 h=>
 (match y38 with
 | .bool true=>
 ad (some ((x 37),h)) fun y39 h=>
 ad (some (y39,h)) fun y7 h=>
 ad (some ((x 0),h)) fun y41 h=>
 ad (some (y7,h)) fun y42 h=>
 ad (C 54 [y41,y42] h) fun y43 h=>
 ad (some (y43,h)) fun y40 h=>
 ad (pu (aA y40 0) h) fun y44 h=>
 ad (pu (aA y40 1) h) fun y45 h=>
 ad (pu (aA y40 2) h) fun y46 h=>
 ad (some (y44,h)) fun y8 h=>
 ad (some (y45,h)) fun y9 h=>
 ad (some (y46,h)) fun bH h=>
 ad (some (bH,h)) fun y47 h=>
 (match y47 with
 | .bool true=>
 ad (some ((x 6),h)) fun y48 h=>
 ad (pu (aC y48) h) fun y49 h=>
 ad (pu (aI y49 2) h) fun y50 h=>
 ad (aV y50 h) fun y51 h=>
 ad (pu (bin Try.prog .lss 3 y51 (.int .i64 0)) h) fun y52 h=>
 ad (some (y52,h)) fun y53 h=>
 ad (ah (aO y53==some false) (some (y8,h)) h) fun y54 h=>
 ad (ah (aO y53==some false) (some ((x 6),h)) h) fun y55 h=>
 ad (ah (aO y53==some false) (pu (aC y55) h) h) fun y56 h=>
 ad (ah (aO y53==some false) (pu (aI y56 4) h) h) fun y57 h=>
 ad (ah (aO y53==some false) (aV y57 h) h) fun y58 h=>
 ad (ah (aO y53==some false) (pu (bin Try.prog .gtr 58 y54 y58) h) h) fun y59 h=>
 ad (match y53 with | .bool t=>some (if t then (.bool true) else y59,h)|_=>none) fun y60 h=>
 (match y60 with
 | .bool true=>
 ad (some ((x 6),h)) fun y61 h=>
 ad (some ((x 6),h)) fun y62 h=>
 ad (some ((x 6),h)) fun y63 h=>
 ad (some (y7,h)) fun y64 h=>
 ad (some (y8,h)) fun y65 h=>
 ad (some (y9,h)) fun y66 h=>
 ad (pu (aC y61) h) fun y67 h=>
 ad (pu (aI y67 2) h) fun y68 h=>
 ad (bK 1 y68 y64 h) fun _ h=>
 ad (pu (aC y62) h) fun y69 h=>
 ad (pu (aI y69 4) h) fun y70 h=>
 ad (bK 1 y70 y65 h) fun _ h=>
 ad (pu (aC y63) h) fun y71 h=>
 ad (pu (aI y71 3) h) fun y72 h=>
 ad (bK 1 y72 y66 h) fun _ h=>
 ad (some ((x 6),h)) fun y73 h=>
 ad (some ((x 6),h)) fun y74 h=>
 ad (pu (aC y74) h) fun y75 h=>
 ad (pu (aI y75 5) h) fun y76 h=>
 ad (aV y76 h) fun y77 h=>
 ad (some (y8,h)) fun y78 h=>
 ad (pu (dC true y77 [y78]) h) fun y79 h=>
 ad (pu (aC y73) h) fun y80 h=>
 ad (pu (aI y80 5) h) fun y81 h=>
 ad (bK 1 y81 y79 h) fun _ h=>
 ad (some ((x 0),h)) fun y82 h=>
 ad (C 55 [y82] h) fun y83 h=>
 ad (some ((.int .i64 0),h)) fun y84 h=>
 dI (iter (aL Try.prog C (partOf Try.f21 [1,1,1,1,0,1,0,0,1,1,0,0,1,1,1,0,0])) rounds (aZ 131 (up x [(7,y7),(8,y8),(9,y9),(10,bH),(38,y38),(39,y39),(40,y40),(41,y41),(42,y42),(43,y43),(44,y44),(45,y45),(46,y46),(47,y47),(48,y48),(49,y49),(50,y50),(51,y51),(52,y52),(53,y53),(54,y54),(55,y55),(56,y56),(57,y57),(58,y58),(59,y59),(60,y60),(61,y61),(62,y62),(63,y63),(64,y64),(65,y65),(66,y66),(67,y67),(68,y68),(69,y69),(70,y70),(71,y71),(72,y72),(73,y73),(74,y74),(75,y75),(76,y76),(77,y77),(78,y78),(79,y79),(80,y80),(81,y81),(82,y82),(83,y83),(84,y84)])) h) (fun e h=>some (Ex.ret,e,h)) (b21_25 C)
 | .bool false=>
 ad (some ((x 6),h)) fun y73 h=>
 ad (some ((x 6),h)) fun y74 h=>
 ad (pu (aC y74) h) fun y75 h=>
 ad (pu (aI y75 5) h) fun y76 h=>
 ad (aV y76 h) fun y77 h=>
 ad (some (y8,h)) fun y78 h=>
 ad (pu (dC true y77 [y78]) h) fun y79 h=>
 ad (pu (aC y73) h) fun y80 h=>
 ad (pu (aI y80 5) h) fun y81 h=>
 ad (bK 1 y81 y79 h) fun _ h=>
 ad (some ((x 0),h)) fun y82 h=>
 ad (C 55 [y82] h) fun y83 h=>
 ad (some ((.int .i64 0),h)) fun y84 h=>
 dI (iter (aL Try.prog C (partOf Try.f21 [1,1,1,1,0,1,0,0,1,1,0,0,1,1,1,0,0])) rounds (aZ 131 (up x [(7,y7),(8,y8),(9,y9),(10,bH),(38,y38),(39,y39),(40,y40),(41,y41),(42,y42),(43,y43),(44,y44),(45,y45),(46,y46),(47,y47),(48,y48),(49,y49),(50,y50),(51,y51),(52,y52),(53,y53),(54,y54),(55,y55),(56,y56),(57,y57),(58,y58),(59,y59),(60,y60),(73,y73),(74,y74),(75,y75),(76,y76),(77,y77),(78,y78),(79,y79),(80,y80),(81,y81),(82,y82),(83,y83),(84,y84)])) h) (fun e h=>some (Ex.ret,e,h)) (b21_25 C)
 |_=>none)
 | .bool false=>
 ad (some ((x 0),h)) fun y82 h=>
 ad (C 55 [y82] h) fun y83 h=>
 ad (some ((.int .i64 0),h)) fun y84 h=>
 dI (iter (aL Try.prog C (partOf Try.f21 [1,1,1,1,0,1,0,0,1,1,0,0,1,1,1,0,0])) rounds (aZ 131 (up x [(7,y7),(8,y8),(9,y9),(10,bH),(38,y38),(39,y39),(40,y40),(41,y41),(42,y42),(43,y43),(44,y44),(45,y45),(46,y46),(47,y47),(82,y82),(83,y83),(84,y84)])) h) (fun e h=>some (Ex.ret,e,h)) (b21_25 C)
 |_=>none)
 | .bool false=>
 some (.exit 0,(aZ 131 (up x [(38,y38)])),h)
 |_=>none)
noncomputable def t21k21_11 (_C:ak) (x:Nat→Value) (h:af):Out:=
 ad (some ((x 6),h)) fun y129 h=>
 ad (some ((x 14),h)) fun y130 h=>
 ad (some (y129,h)) fun y2 h=>
 ad (some (y130,h)) fun y3 h=>
 ad (some ((.int .i64 0),h)) fun y4 h=>
 some (.tuple #[y2,y3,y4],h)
noncomputable def gE (C:ak) (x:Nat→Value) (h:af):Option (Ex×Env×af):=
 ad (some ((x 15),h)) fun y107 h=>
 ad (some ((x 0),h)) fun y108 h=>
 ad (C 55 [y108] h) fun y109 h=>
 ad (pu (bin Try.prog .lss 3 y107 y109) h) fun y110 h=>
 (match y110 with
 | .bool true=>
 ad (some ((x 6),h)) fun y112 h=>
 ad (some ((x 15),h)) fun y113 h=>
 ad (C 57 [y112,y113] h) fun y114 h=>
 ad (some (y114,h)) fun y111 h=>
 ad (pu (aA y111 0) h) fun y115 h=>
 ad (pu (aA y111 1) h) fun y116 h=>
 ad (some (y115,h)) fun y16 h=>
 ad (some (y116,h)) fun y17 h=>
 ad (some (y17,h)) fun y117 h=>
 ad (pu (bin Try.prog .gtr 3 y117 (.int .i64 0)) h) fun y118 h=>
 (match y118 with
 | .bool true=>
 ad (some ((x 14),h)) fun y119 h=>
 ad (some ((x 15),h)) fun y120 h=>
 ad (some (y16,h)) fun y121 h=>
 ad (pu (ff [(.int .i64 0),(.slice none 0 0)] [(0,1,y120),(1,1,y121)]) h) fun y122 h=>
 ad (dY 2 (.agg #[(.int .i64 0),(.slice none 0 0)]) 1 [(0,y122)] h) fun y123 h=>
 ad (bt 2 32 y119 y123 h) fun y124 h=>
 ad (some (y124,h)) fun y14 h=>
 ad (some ((x 15),h)) fun y125 h=>
 ad (some (y17,h)) fun y126 h=>
 ad (pu (dC true y126 [(.int .i64 1)]) h) fun y127 h=>
 ad (pu (bin Try.prog .add 3 y125 y127) h) fun y128 h=>
 ad (some (y128,h)) fun y15 h=>
 some (.normal,(aZ 131 (up x [(14,y14),(15,y15),(16,y16),(17,y17),(107,y107),(108,y108),(109,y109),(110,y110),(111,y111),(112,y112),(113,y113),(114,y114),(115,y115),(116,y116),(117,y117),(118,y118),(119,y119),(120,y120),(121,y121),(122,y122),(123,y123),(124,y124),(125,y125),(126,y126),(127,y127),(128,y128)])),h)
 | .bool false=>
 ad (some ((x 15),h)) fun y125 h=>
 ad (some (y17,h)) fun y126 h=>
 ad (pu (dC true y126 [(.int .i64 1)]) h) fun y127 h=>
 ad (pu (bin Try.prog .add 3 y125 y127) h) fun y128 h=>
 ad (some (y128,h)) fun y15 h=>
 some (.normal,(aZ 131 (up x [(15,y15),(16,y16),(17,y17),(107,y107),(108,y108),(109,y109),(110,y110),(111,y111),(112,y112),(113,y113),(114,y114),(115,y115),(116,y116),(117,y117),(118,y118),(125,y125),(126,y126),(127,y127),(128,y128)])),h)
 |_=>none)
 | .bool false=>
 some (.exit 4,(aZ 131 (up x [(107,y107),(108,y108),(109,y109),(110,y110)])),h)
 |_=>none)
noncomputable def t21k21_16 (_C:ak) (x:Nat→Value) (h:af):Option (Ex×Env×af):=
 ad (pu (bin Try.prog .add 3 (x 37) (.int .i64 1)) h) fun y106 h=>
 ad (some (y106,h)) fun y37 h=>
 some (.normal,(aZ 131 (up x [(37,y37),(106,y106)])),h)
noncomputable def dZ (C:ak) (x:Nat→Value) (h:af):Option (Ex×Env×af):=
 ad (pu (bin Try.prog .lss 3 (x 84) (x 83)) h) fun y85 h=>
 (match y85 with
 | .bool true=>
 ad (some ((x 84),h)) fun y86 h=>
 ad (some (y86,h)) fun bQ h=>
 ad (some ((x 0),h)) fun y88 h=>
 ad (some ((x 7),h)) fun y89 h=>
 ad (some (bQ,h)) fun y90 h=>
 ad (C 56 [y88,y89,y90] h) fun y91 h=>
 ad (some (y91,h)) fun y87 h=>
 ad (pu (aA y87 0) h) fun y92 h=>
 ad (pu (aA y87 1) h) fun y93 h=>
 ad (dp [(.int .u64 0),(.int .i64 0),(.int .i64 0),(.slice none 0 0)] h) fun y12 h=>
 ad (bK 4 y12 y92 h) fun _ h=>
 ad (some (y93,h)) fun y13 h=>
 ad (some (y13,h)) fun y94 h=>
 (match y94 with
 | .bool true=>
 ad (some ((x 6),h)) fun y95 h=>
 ad (some ((x 6),h)) fun y96 h=>
 ad (pu (aC y96) h) fun y97 h=>
 ad (pu (aI y97 5) h) fun y98 h=>
 ad (aV y98 h) fun y99 h=>
 ad (pu (aI y12 0) h) fun y100 h=>
 ad (aV y100 h) fun y101 h=>
 ad (pu (dC true y99 [y101]) h) fun y102 h=>
 ad (pu (aC y95) h) fun y103 h=>
 ad (pu (aI y103 5) h) fun y104 h=>
 ad (bK 1 y104 y102 h) fun _ h=>
 ad (pu (bin Try.prog .add 3 (x 84) (.int .i64 1)) h) fun y105 h=>
 ad (some (y105,h)) fun y84 h=>
 some (.normal,(aZ 131 (up x [(11,bQ),(12,y12),(13,y13),(84,y84),(85,y85),(86,y86),(87,y87),(88,y88),(89,y89),(90,y90),(91,y91),(92,y92),(93,y93),(94,y94),(95,y95),(96,y96),(97,y97),(98,y98),(99,y99),(100,y100),(101,y101),(102,y102),(103,y103),(104,y104),(105,y105)])),h)
 | .bool false=>
 ad (pu (bin Try.prog .add 3 (x 84) (.int .i64 1)) h) fun y105 h=>
 ad (some (y105,h)) fun y84 h=>
 some (.normal,(aZ 131 (up x [(11,bQ),(12,y12),(13,y13),(84,y84),(85,y85),(86,y86),(87,y87),(88,y88),(89,y89),(90,y90),(91,y91),(92,y92),(93,y93),(94,y94),(105,y105)])),h)
 |_=>none)
 | .bool false=>
 some (.exit 2,(aZ 131 (up x [(85,y85)])),h)
 |_=>none)
theorem t21_eq (C:ak) (x0:Value) (h:af):bk Try.prog C Try.f21 [x0] h=t21 C x0 h:=
 (aN Try.prog C Try.f21 [x0] h (by kernel_rfl)).trans (by kernel_rfl)
theorem t21k21_7_eq (C:ak) (x:Nat→Value) (h:af):k21_7 C (aZ 131 x) h=t21k21_7 C x h:=
 bo (b:=(partOf Try.f21 [1,1,1,1,1])) (kE:=(al Try.prog Try.f21.results.toList)) (rE:=(al Try.prog Try.f21.results.toList)) (xE:=(fun _ _ _=>none)) (T:=t21k21_7 C) (fun x h=>by kernel_rfl) x h
theorem t21l21_1111010_eq (C:ak) (x:Nat→Value) (h:af):aL Try.prog C (partOf Try.f21 [1,1,1,1,0,1,0,0]) (aZ 131 x) h=fj C x h:=
 bg (T:=fj C) (fun x h=>by kernel_rfl) x h
theorem t21k21_11_eq (C:ak) (x:Nat→Value) (h:af):k21_11 C (aZ 131 x) h=t21k21_11 C x h:=
 bo (b:=(partOf Try.f21 [1,1,1,1,1,1,1])) (kE:=(al Try.prog Try.f21.results.toList)) (rE:=(al Try.prog Try.f21.results.toList)) (xE:=(fun _ _ _=>none)) (T:=t21k21_11 C) (fun x h=>by kernel_rfl) x h
theorem t21l21_111111010_eq (C:ak) (x:Nat→Value) (h:af):aL Try.prog C (partOf Try.f21 [1,1,1,1,1,1,0,1,0,0]) (aZ 131 x) h=gE C x h:=
 bg (T:=gE C) (fun x h=>by kernel_rfl) x h
theorem t21k21_16_eq (C:ak) (x:Nat→Value) (h:af):k21_16 C (aZ 131 x) h=t21k21_16 C x h:=
 bo (b:=(partOf Try.f21 [1,1,1,1,0,1,0,0,1,1,1])) (kE:=(fun e h=>some (Ex.normal,e,h))) (rE:=(fun e h=>some (Ex.ret,e,h))) (xE:=(fun i e h=>some (Ex.exit i,e,h))) (T:=t21k21_16 C) (fun x h=>by kernel_rfl) x h
theorem t21l21_1111010011001110_eq (C:ak) (x:Nat→Value) (h:af):aL Try.prog C (partOf Try.f21 [1,1,1,1,0,1,0,0,1,1,0,0,1,1,1,0,0]) (aZ 131 x) h=dZ C x h:=
 bg (T:=dZ C) (fun x h=>by kernel_rfl) x h
noncomputable def k23_6 (C:ak) (e:Env) (h:af):Out:=cF Try.prog C (partOf Try.f23 [1,1,1,1]) e h (al Try.prog Try.f23.results.toList) (al Try.prog Try.f23.results.toList) (fun _ _ _=>none)
noncomputable def b23_8 (C:ak) (i:Nat) (e:Env) (h:af):Out:=if i=0 then (k23_6 C) e h else (fun _ _ _=>none) i e h
noncomputable def k23_16 (C:ak) (e:Env) (h:af):Out:=cF Try.prog C (partOf Try.f23 [1,1,1,1,1,1,1,1,1]) e h (al Try.prog Try.f23.results.toList) (al Try.prog Try.f23.results.toList) (fun _ _ _=>none)
noncomputable def b23_18 (C:ak) (i:Nat) (e:Env) (h:af):Out:=if i=2 then (k23_16 C) e h else (fun _ _ _=>none) i e h
noncomputable def t23 (C:ak) (x0 x1:Value) (h:af):Out:=
 ad (some ((.slice none 0 0),h)) fun y4 h=>
 ad (some ((.int .i64 0),h)) fun y5 h=>
 ad (some (x0,h)) fun y21 h=>
 ad (C 58 [y21] h) fun y22 h=>
 ad (some (y22,h)) fun y6 h=>
 ad (some (y6,h)) fun y23 h=>
 ad (pu (bin Try.prog .neq 28 y23 (.int .i64 0)) h) fun y24 h=>
 (match y24 with
 | .bool true=>
 ad (some (y6,h)) fun y25 h=>
 ad (some ((.slice none 0 0),h)) fun y4_1 h=>
 ad (some (y25,h)) fun y5_1 h=>
 some (.tuple #[y4_1,y5_1],h)
 | .bool false=>
 ad (some ((.int .i64 0),h)) fun y7 h=>
 ad (some ((.bool false),h)) fun y8 h=>
 ad (some (x1,h)) fun y26 h=>
 ad (pu (cK y26) h) fun y27 h=>
 ad (some ((.int .i64 0),h)) fun y28 h=>
 dI (iter (aL Try.prog C (partOf Try.f23 [1,1,1,0,1,0,0])) rounds (aZ 151 (up (bs [x0,x1]) [(4,y4),(5,y5),(6,y6),(7,y7),(8,y8),(21,y21),(22,y22),(23,y23),(24,y24),(26,y26),(27,y27),(28,y28)])) h) (al Try.prog Try.f23.results.toList) (b23_8 C)
 |_=>none)
noncomputable def t23k23_6 (C:ak) (x:Nat→Value) (h:af):Out:=
 ad (some ((x 8),h)) fun y52 h=>
 ad (some (y52,h)) fun y53 h=>
 ad (ah (aO y53==some false) (some ((x 0),h)) h) fun y54 h=>
 ad (ah (aO y53==some false) (pu (aC y54) h) h) fun y55 h=>
 ad (ah (aO y53==some false) (pu (aI y55 5) h) h) fun y56 h=>
 ad (ah (aO y53==some false) (aV y56 h) h) fun y57 h=>
 ad (ah (aO y53==some false) (pu (bin Try.prog .eql 58 y57 (.int .u64 18446744073709551615)) h) h) fun y58 h=>
 ad (match y53 with | .bool t=>some (if t then (.bool true) else y58,h)|_=>none) fun y59 h=>
 (match y59 with
 | .bool true=>
 ad (some ((.slice none 0 0),h)) fun y4 h=>
 ad (some ((.int .i64 8),h)) fun y5 h=>
 some (.tuple #[y4,y5],h)
 | .bool false=>
 ad (some ((x 0),h)) fun y60 h=>
 ad (pu (aC y60) h) fun y61 h=>
 ad (pu (aI y61 5) h) fun y62 h=>
 ad (aV y62 h) fun y63 h=>
 ad (pu (bin Try.prog .add 58 y63 (.int .u64 1)) h) fun y64 h=>
 ad (some ((.int .i64 0),h)) fun bQ h=>
 ad (some ((.int .i64 0),h)) fun y12 h=>
 ad (some (y64,h)) fun y13 h=>
 ad (some ((x 0),h)) fun y65 h=>
 ad (pu (aC y65) h) fun y66 h=>
 ad (pu (aI y66 2) h) fun y67 h=>
 ad (aV y67 h) fun y68 h=>
 ad (pu (bin Try.prog .geq 3 y68 (.int .i64 0)) h) fun y69 h=>
 (match y69 with
 | .bool true=>
 ad (some ((x 0),h)) fun y70 h=>
 ad (pu (aC y70) h) fun y71 h=>
 ad (pu (aI y71 3) h) fun y72 h=>
 ad (aV y72 h) fun y73 h=>
 ad (pu (bin Try.prog .sub 3 (.int .i64 1) y73) h) fun y74 h=>
 ad (some ((x 0),h)) fun y75 h=>
 ad (pu (aC y75) h) fun y76 h=>
 ad (pu (aI y76 2) h) fun y77 h=>
 ad (aV y77 h) fun y78 h=>
 ad (pu (bin Try.prog .sub 3 (.int .i64 1) y78) h) fun y79 h=>
 ad (some (y74,h)) fun y11_1 h=>
 ad (some (y79,h)) fun y12_1 h=>
 ad (dY 1 (.int .i64 0) 0 [] h) fun y80 h=>
 ad (some ((.int .i64 0),h)) fun y14 h=>
 ad (some (y80,h)) fun y15 h=>
 ad (some ((x 1),h)) fun y81 h=>
 ad (pu (cK y81) h) fun y82 h=>
 ad (some ((.int .i64 0),h)) fun y83 h=>
 dI (iter (aL Try.prog C (partOf Try.f23 [1,1,1,1,1,1,1,1,0,1,0,0])) rounds (aZ 151 (up x [(11,y11_1),(12,y12_1),(13,y13),(14,y14),(15,y15),(52,y52),(53,y53),(54,y54),(55,y55),(56,y56),(57,y57),(58,y58),(59,y59),(60,y60),(61,y61),(62,y62),(63,y63),(64,y64),(65,y65),(66,y66),(67,y67),(68,y68),(69,y69),(70,y70),(71,y71),(72,y72),(73,y73),(74,y74),(75,y75),(76,y76),(77,y77),(78,y78),(79,y79),(80,y80),(81,y81),(82,y82),(83,y83)])) h) (al Try.prog Try.f23.results.toList) (b23_18 C)
 | .bool false=>
 ad (dY 1 (.int .i64 0) 0 [] h) fun y80 h=>
 ad (some ((.int .i64 0),h)) fun y14 h=>
 ad (some (y80,h)) fun y15 h=>
 ad (some ((x 1),h)) fun y81 h=>
 ad (pu (cK y81) h) fun y82 h=>
 ad (some ((.int .i64 0),h)) fun y83 h=>
 dI (iter (aL Try.prog C (partOf Try.f23 [1,1,1,1,1,1,1,1,0,1,0,0])) rounds (aZ 151 (up x [(11,bQ),(12,y12),(13,y13),(14,y14),(15,y15),(52,y52),(53,y53),(54,y54),(55,y55),(56,y56),(57,y57),(58,y58),(59,y59),(60,y60),(61,y61),(62,y62),(63,y63),(64,y64),(65,y65),(66,y66),(67,y67),(68,y68),(69,y69),(80,y80),(81,y81),(82,y82),(83,y83)])) h) (al Try.prog Try.f23.results.toList) (b23_18 C)
 |_=>none)
 |_=>none)
noncomputable def t23l23_111010 (C:ak) (x:Nat→Value) (h:af):Option (Ex×Env×af):=
 ad (pu (bin Try.prog .lss 3 (x 28) (x 27)) h) fun y29 h=>
 (match y29 with
 | .bool true=>
 ad (pu (bV 1 (x 26) (x 28)) h) fun y30 h=>
 ad (aV y30 h) fun y31 h=>
 ad (some (y31,h)) fun bH h=>
 ad (some (bH,h)) fun y32 h=>
 ad (pu (cK y32) h) fun y33 h=>
 ad (pu (bin Try.prog .gtr 3 y33 (.int .i64 20000)) h) fun y34 h=>
 (match y34 with
 | .bool true=>
 ad (some ((.slice none 0 0),h)) fun y4 h=>
 ad (some ((.int .i64 3),h)) fun y5 h=>
 some (.ret,(aZ 151 (up x [(4,y4),(5,y5),(10,bH),(29,y29),(30,y30),(31,y31),(32,y32),(33,y33),(34,y34)])),h)
 | .bool false=>
 ad (some ((x 7),h)) fun y35 h=>
 ad (some (bH,h)) fun y36 h=>
 ad (pu (cK y36) h) fun y37 h=>
 ad (C 15 [y37] h) fun y38 h=>
 ad (pu (bin Try.prog .add 3 y35 y38) h) fun y39 h=>
 ad (pu (dC false y39 [(.int .i64 4096)]) h) fun y40 h=>
 ad (some (y40,h)) fun y7 h=>
 ad (some ((x 8),h)) fun y41 h=>
 ad (some (y41,h)) fun y42 h=>
 ad (ah (aO y42==some false) (some (y7,h)) h) fun y43 h=>
 ad (ah (aO y42==some false) (some ((x 0),h)) h) fun y44 h=>
 ad (ah (aO y42==some false) (pu (aC y44) h) h) fun y45 h=>
 ad (ah (aO y42==some false) (pu (aI y45 0) h) h) fun y46 h=>
 ad (ah (aO y42==some false) (aV y46 h) h) fun y47 h=>
 ad (ah (aO y42==some false) (C 55 [y47] h) h) fun y48 h=>
 ad (ah (aO y42==some false) (pu (bin Try.prog .gtr 3 y43 y48) h) h) fun y49 h=>
 ad (match y42 with | .bool t=>some (if t then (.bool true) else y49,h)|_=>none) fun y50 h=>
 ad (some (y50,h)) fun y8 h=>
 ad (pu (bin Try.prog .add 3 (x 28) (.int .i64 1)) h) fun y51 h=>
 ad (some (y51,h)) fun y28 h=>
 some (.normal,(aZ 151 (up x [(7,y7),(8,y8),(10,bH),(28,y28),(29,y29),(30,y30),(31,y31),(32,y32),(33,y33),(34,y34),(35,y35),(36,y36),(37,y37),(38,y38),(39,y39),(40,y40),(41,y41),(42,y42),(43,y43),(44,y44),(45,y45),(46,y46),(47,y47),(48,y48),(49,y49),(50,y50),(51,y51)])),h)
 |_=>none)
 | .bool false=>
 some (.exit 0,(aZ 151 (up x [(29,y29)])),h)
 |_=>none)
noncomputable def t23k23_16 (C:ak) (x:Nat→Value) (h:af):Out:=
 ad (C 60 [(.int .i64 124)] h) fun y106 h=>
 ad (some (y106,h)) fun y19 h=>
 ad (some (y19,h)) fun y107 h=>
 ad (C 61 [y107,(.int .u32 1398034252)] h) fun _y108 h=>
 ad (some (y19,h)) fun y109 h=>
 ad (some ((x 13),h)) fun y110 h=>
 ad (C 62 [y109,y110] h) fun _y111 h=>
 ad (some (y19,h)) fun y112 h=>
 ad (some ((x 11),h)) fun y113 h=>
 ad (cvI .u8 y113 h) fun y114 h=>
 ad (C 63 [y112,y114] h) fun _y115 h=>
 let g34_0:=h
 ad (some ((x 0),g34_0)) fun y116 g34_1=>
 ad (pu (aC y116) g34_1) fun y117 g34_2=>
 ad (pu (aI y117 0) g34_2) fun y118 g34_3=>
 ad (aV y118 g34_3) fun y119 g34_4=>
 ad (some ((x 12),g34_4)) fun y120 g34_5=>
 ad (some (y19,g34_5)) fun y121 g34_6=>
 ad (C 64 [y121] g34_6) fun y122 g34_7=>
 ad (C 19 [y119,y120,y122] g34_7) fun y123 g34_8=>
 ad (some (y123,g34_8)) fun y20 g34_9=>
 (match (bU true (aV y118 g34_7) y119&&true) with
 |true=>
 let h:=g34_9
 ad (some (y20,h)) fun y124 h=>
 ad (pu (bin Try.prog .neq 28 y124 (.int .i64 0)) h) fun y125 h=>
 (match y125 with
 | .bool true=>
 ad (some (y20,h)) fun y126 h=>
 ad (some ((.slice none 0 0),h)) fun y4 h=>
 ad (some (y126,h)) fun y5 h=>
 some (.tuple #[y4,y5],h)
 | .bool false=>
 ad (some ((x 0),h)) fun y127 h=>
 ad (some ((x 0),h)) fun y128 h=>
 ad (some ((x 0),h)) fun y129 h=>
 ad (some ((x 0),h)) fun y130 h=>
 ad (some ((x 0),h)) fun y131 h=>
 ad (some ((x 0),h)) fun y132 h=>
 ad (some ((x 12),h)) fun y133 h=>
 ad (some ((x 11),h)) fun y134 h=>
 ad (some ((x 13),h)) fun y135 h=>
 ad (some ((x 13),h)) fun y136 h=>
 ad (some ((x 14),h)) fun y137 h=>
 ad (pu (aC y127) h) fun y138 h=>
 ad (pu (aI y138 2) h) fun y139 h=>
 ad (bK 1 y139 y133 h) fun _ h=>
 ad (pu (aC y128) h) fun y140 h=>
 ad (pu (aI y140 3) h) fun y141 h=>
 ad (bK 1 y141 y134 h) fun _ h=>
 ad (pu (aC y129) h) fun y142 h=>
 ad (pu (aI y142 4) h) fun y143 h=>
 ad (bK 1 y143 y135 h) fun _ h=>
 ad (pu (aC y130) h) fun y144 h=>
 ad (pu (aI y144 5) h) fun y145 h=>
 ad (bK 1 y145 y136 h) fun _ h=>
 ad (pu (aC y131) h) fun y146 h=>
 ad (pu (aI y146 6) h) fun y147 h=>
 ad (bK 1 y147 (.bool true) h) fun _ h=>
 ad (pu (aC y132) h) fun y148 h=>
 ad (pu (aI y148 7) h) fun y149 h=>
 ad (bK 1 y149 y137 h) fun _ h=>
 ad (some ((x 15),h)) fun y150 h=>
 ad (some (y150,h)) fun y4 h=>
 ad (some ((.int .i64 0),h)) fun y5 h=>
 some (.tuple #[y4,y5],h)
 |_=>none)
 |false=>none)
noncomputable def fu (C:ak) (x:Nat→Value) (h:af):Option (Ex×Env×af):=
 ad (pu (bin Try.prog .lss 3 (x 83) (x 82)) h) fun y84 h=>
 (match y84 with
 | .bool true=>
 ad (pu (bV 1 (x 81) (x 83)) h) fun y85 h=>
 ad (aV y85 h) fun y86 h=>
 ad (some (y86,h)) fun y17 h=>
 ad (some ((x 0),h)) fun y87 h=>
 ad (some ((x 11),h)) fun y88 h=>
 ad (some ((x 13),h)) fun y89 h=>
 ad (some ((x 14),h)) fun y90 h=>
 ad (some (y17,h)) fun y91 h=>
 ad (C 59 [y87,y88,y89,y90,y91] h) fun y92 h=>
 ad (some (y92,h)) fun y18 h=>
 ad (some (y18,h)) fun y93 h=>
 ad (pu (bin Try.prog .neq 28 y93 (.int .i64 0)) h) fun y94 h=>
 (match y94 with
 | .bool true=>
 ad (some (y18,h)) fun y95 h=>
 ad (some ((.slice none 0 0),h)) fun y4 h=>
 ad (some (y95,h)) fun y5 h=>
 some (.ret,(aZ 151 (up x [(4,y4),(5,y5),(17,y17),(18,y18),(84,y84),(85,y85),(86,y86),(87,y87),(88,y88),(89,y89),(90,y90),(91,y91),(92,y92),(93,y93),(94,y94),(95,y95)])),h)
 | .bool false=>
 ad (some ((x 15),h)) fun y96 h=>
 ad (some ((x 14),h)) fun y97 h=>
 ad (dY 1 (.int .i64 0) 1 [(0,y97)] h) fun y98 h=>
 ad (bt 1 8 y96 y98 h) fun y99 h=>
 ad (some (y99,h)) fun y15 h=>
 ad (some ((x 14),h)) fun y100 h=>
 ad (some (y17,h)) fun y101 h=>
 ad (pu (cK y101) h) fun y102 h=>
 ad (C 15 [y102] h) fun y103 h=>
 ad (pu (bin Try.prog .add 3 y100 y103) h) fun y104 h=>
 ad (some (y104,h)) fun y14 h=>
 ad (pu (bin Try.prog .add 3 (x 83) (.int .i64 1)) h) fun y105 h=>
 ad (some (y105,h)) fun y83 h=>
 some (.normal,(aZ 151 (up x [(14,y14),(15,y15),(17,y17),(18,y18),(83,y83),(84,y84),(85,y85),(86,y86),(87,y87),(88,y88),(89,y89),(90,y90),(91,y91),(92,y92),(93,y93),(94,y94),(96,y96),(97,y97),(98,y98),(99,y99),(100,y100),(101,y101),(102,y102),(103,y103),(104,y104),(105,y105)])),h)
 |_=>none)
 | .bool false=>
 some (.exit 2,(aZ 151 (up x [(84,y84)])),h)
 |_=>none)
theorem t23_eq (C:ak) (x0 x1:Value) (h:af):bk Try.prog C Try.f23 [x0,x1] h=t23 C x0 x1 h:=
 (aN Try.prog C Try.f23 [x0,x1] h (by kernel_rfl)).trans (by kernel_rfl)
theorem t23k23_6_eq (C:ak) (x:Nat→Value) (h:af):k23_6 C (aZ 151 x) h=t23k23_6 C x h:=
 bo (b:=(partOf Try.f23 [1,1,1,1])) (kE:=(al Try.prog Try.f23.results.toList)) (rE:=(al Try.prog Try.f23.results.toList)) (xE:=(fun _ _ _=>none)) (T:=t23k23_6 C) (fun x h=>by kernel_rfl) x h
theorem t23l23_111010_eq (C:ak) (x:Nat→Value) (h:af):aL Try.prog C (partOf Try.f23 [1,1,1,0,1,0,0]) (aZ 151 x) h=t23l23_111010 C x h:=
 bg (T:=t23l23_111010 C) (fun x h=>by kernel_rfl) x h
theorem t23k23_16_eq (C:ak) (x:Nat→Value) (h:af):k23_16 C (aZ 151 x) h=t23k23_16 C x h:=
 bo (b:=(partOf Try.f23 [1,1,1,1,1,1,1,1,1])) (kE:=(al Try.prog Try.f23.results.toList)) (rE:=(al Try.prog Try.f23.results.toList)) (xE:=(fun _ _ _=>none)) (T:=t23k23_16 C) (fun x h=>by kernel_rfl) x h
theorem t23l23_11111111010_eq (C:ak) (x:Nat→Value) (h:af):aL Try.prog C (partOf Try.f23 [1,1,1,1,1,1,1,1,0,1,0,0]) (aZ 151 x) h=fu C x h:=
 bg (T:=fu C) (fun x h=>by kernel_rfl) x h
noncomputable def t27 (C:ak) (x0 x1:Value) (h:af):Out:=
 ad (some ((.int .i64 0),h)) fun _y4 h=>
 ad (some ((.int .i64 0),h)) fun _y5 h=>
 ad (some (x0,h)) fun y9 h=>
 ad (C 58 [y9] h) fun bH h=>
 ad (some (bH,h)) fun y6 h=>
 ad (some (y6,h)) fun bQ h=>
 ad (pu (bin Try.prog .neq 28 bQ (.int .i64 0)) h) fun y12 h=>
 (match y12 with
 | .bool true=>
 ad (some (y6,h)) fun y13 h=>
 ad (some ((.int .i64 0),h)) fun y4_1 h=>
 ad (some (y13,h)) fun y5_1 h=>
 some (.tuple #[y4_1,y5_1],h)
 | .bool false=>
 ad (some (x0,h)) fun y15 h=>
 ad (pu (aC y15) h) fun y16 h=>
 ad (pu (aI y16 6) h) fun y17 h=>
 ad (aV y17 h) fun y18 h=>
 ad (pu (unA .not y18) h) fun y19 h=>
 ad (some (y19,h)) fun y14 h=>
 (match y14 with
 | .bool true=>
 ad (some ((.int .i64 0),h)) fun y4_1 h=>
 ad (some ((.int .i64 30),h)) fun y5_1 h=>
 some (.tuple #[y4_1,y5_1],h)
 | .bool false=>
 ad (some (x1,h)) fun y21 h=>
 ad (pu (cK y21) h) fun y22 h=>
 ad (pu (bin Try.prog .gtr 3 y22 (.int .i64 20000)) h) fun y23 h=>
 ad (some (y23,h)) fun y20 h=>
 (match y20 with
 | .bool true=>
 ad (some ((.int .i64 0),h)) fun y4_1 h=>
 ad (some ((.int .i64 3),h)) fun y5_1 h=>
 some (.tuple #[y4_1,y5_1],h)
 | .bool false=>
 ad (some (x1,h)) fun y25 h=>
 ad (pu (cK y25) h) fun y26 h=>
 ad (C 15 [y26] h) fun y27 h=>
 ad (some (x0,h)) fun y28 h=>
 ad (C 26 [y28] h) fun y29 h=>
 ad (pu (bin Try.prog .gtr 3 y27 y29) h) fun y30 h=>
 ad (some (y30,h)) fun y24 h=>
 (match y24 with
 | .bool true=>
 ad (some ((.int .i64 0),h)) fun y4_1 h=>
 ad (some ((.int .i64 8),h)) fun y5_1 h=>
 some (.tuple #[y4_1,y5_1],h)
 | .bool false=>
 ad (some (x0,h)) fun y31 h=>
 ad (pu (aC y31) h) fun y32 h=>
 ad (pu (aI y32 7) h) fun y33 h=>
 ad (aV y33 h) fun y34 h=>
 ad (some (y34,h)) fun y7 h=>
 ad (some (x0,h)) fun y35 h=>
 ad (some (x0,h)) fun y36 h=>
 ad (pu (aC y36) h) fun y37 h=>
 ad (pu (aI y37 3) h) fun y38 h=>
 ad (aV y38 h) fun y39 h=>
 ad (some (x0,h)) fun y40 h=>
 ad (pu (aC y40) h) fun y41 h=>
 ad (pu (aI y41 4) h) fun y42 h=>
 ad (aV y42 h) fun y43 h=>
 ad (some (y7,h)) fun y44 h=>
 ad (some (x1,h)) fun y45 h=>
 ad (C 59 [y35,y39,y43,y44,y45] h) fun y46 h=>
 ad (some (y46,h)) fun y8 h=>
 ad (some (y8,h)) fun y47 h=>
 ad (pu (bin Try.prog .neq 28 y47 (.int .i64 0)) h) fun y48 h=>
 (match y48 with
 | .bool true=>
 ad (some (y8,h)) fun y49 h=>
 ad (some ((.int .i64 0),h)) fun y4_1 h=>
 ad (some (y49,h)) fun y5_1 h=>
 some (.tuple #[y4_1,y5_1],h)
 | .bool false=>
 let g19_0:=h
 ad (some (x0,g19_0)) fun y50 g19_1=>
 ad (pu (aC y50) g19_1) fun y51 g19_2=>
 ad (pu (aI y51 7) g19_2) fun y52 g19_3=>
 ad (aV y52 g19_3) fun y53 g19_4=>
 ad (some (x1,g19_4)) fun y54 g19_5=>
 ad (pu (cK y54) g19_5) fun y55 g19_6=>
 ad (C 15 [y55] g19_6) fun y56 g19_7=>
 ad (pu (bin Try.prog .add 3 y53 y56) g19_7) fun y57 g19_8=>
 ad (pu (aC y50) g19_8) fun y58 g19_9=>
 ad (pu (aI y58 7) g19_9) fun y59 g19_10=>
 ad (bK 1 y59 y57 g19_10) fun _ g19_11=>
 (match (bU true (aV y52 g19_7) y53&&true) with
 |true=>
 let h:=g19_11
 ad (some (y7,h)) fun y60 h=>
 ad (some (y60,h)) fun y4_1 h=>
 ad (some ((.int .i64 0),h)) fun y5_1 h=>
 some (.tuple #[y4_1,y5_1],h)
 |false=>none)
 |_=>none)
 |_=>none)
 |_=>none)
 |_=>none)
 |_=>none)
theorem t27_eq (C:ak) (x0 x1:Value) (h:af):bk Try.prog C Try.f27 [x0,x1] h=t27 C x0 x1 h:=
 (aN Try.prog C Try.f27 [x0,x1] h (by kernel_rfl)).trans (by kernel_rfl)
noncomputable def t28 (C:ak) (x0 x1:Value) (h:af):Out:=
 ad (some ((.slice none 0 0),h)) fun _y4 h=>
 ad (some ((.int .i64 0),h)) fun _y5 h=>
 ad (some (x0,h)) fun y9 h=>
 ad (C 58 [y9] h) fun bH h=>
 ad (some (bH,h)) fun y6 h=>
 ad (some (y6,h)) fun bQ h=>
 ad (pu (bin Try.prog .neq 28 bQ (.int .i64 0)) h) fun y12 h=>
 (match y12 with
 | .bool true=>
 ad (some (y6,h)) fun y13 h=>
 ad (some ((.slice none 0 0),h)) fun y4_1 h=>
 ad (some (y13,h)) fun y5_1 h=>
 some (.tuple #[y4_1,y5_1],h)
 | .bool false=>
 ad (some (x0,h)) fun y15 h=>
 ad (some (x1,h)) fun y16 h=>
 ad (C 57 [y15,y16] h) fun y17 h=>
 ad (some (y17,h)) fun y14 h=>
 ad (pu (aA y14 0) h) fun y18 h=>
 ad (pu (aA y14 1) h) fun y19 h=>
 ad (some (y18,h)) fun y7 h=>
 ad (some (y19,h)) fun y8 h=>
 ad (some (y8,h)) fun y20 h=>
 ad (pu (bin Try.prog .eql 3 y20 (.int .i64 0)) h) fun y21 h=>
 (match y21 with
 | .bool true=>
 ad (some ((.slice none 0 0),h)) fun y4_1 h=>
 ad (some ((.int .i64 6),h)) fun y5_1 h=>
 some (.tuple #[y4_1,y5_1],h)
 | .bool false=>
 ad (some (y7,h)) fun y22 h=>
 ad (some (y22,h)) fun y4_1 h=>
 ad (some ((.int .i64 0),h)) fun y5_1 h=>
 some (.tuple #[y4_1,y5_1],h)
 |_=>none)
 |_=>none)
theorem t28_eq (C:ak) (x0 x1:Value) (h:af):bk Try.prog C Try.f28 [x0,x1] h=t28 C x0 x1 h:=
 (aN Try.prog C Try.f28 [x0,x1] h (by kernel_rfl)).trans (by kernel_rfl)
noncomputable def k59_2 (C:ak) (e:Env) (h:af):Out:=cF Try.prog C (partOf Try.f59 [1,1,1]) e h (al Try.prog Try.f59.results.toList) (al Try.prog Try.f59.results.toList) (fun _ _ _=>none)
noncomputable def b59_4 (C:ak) (i:Nat) (e:Env) (h:af):Out:=if i=0 then (k59_2 C) e h else (fun _ _ _=>none) i e h
noncomputable def t59 (C:ak) (x0 x1 x2 x3 x4:Value) (h:af):Out:=
 ad (some ((.int .i64 0),h)) fun bH h=>
 ad (some (x4,h)) fun y16 h=>
 ad (pu (cK y16) h) fun y17 h=>
 ad (C 15 [y17] h) fun y18 h=>
 ad (some (y18,h)) fun bQ h=>
 ad (some (bQ,h)) fun y19 h=>
 ad (some ((.int .i64 0),h)) fun y20 h=>
 dI (iter (aL Try.prog C (partOf Try.f59 [1,1,0,1,0,0])) rounds (aZ 77 (up (bs [x0,x1,x2,x3,x4]) [(10,bH),(11,bQ),(16,y16),(17,y17),(18,y18),(19,y19),(20,y20)])) h) (al Try.prog Try.f59.results.toList) (b59_4 C)
noncomputable def t59k59_2 (_C:ak) (_x:Nat→Value) (h:af):Out:=
 ad (some ((.int .i64 0),h)) fun bH h=>
 some (bH,h)
noncomputable def t59l59_11010 (C:ak) (x:Nat→Value) (h:af):Option (Ex×Env×af):=
 ad (pu (bin Try.prog .lss 3 (x 20) (x 19)) h) fun y21 h=>
 (match y21 with
 | .bool true=>
 ad (some ((x 20),h)) fun y22 h=>
 ad (some (y22,h)) fun y12 h=>
 ad (some ((x 4),h)) fun y23 h=>
 ad (some (y12,h)) fun y24 h=>
 ad (pu (bin Try.prog .mul 3 y24 (.int .i64 106)) h) fun y25 h=>
 ad (some ((x 4),h)) fun y26 h=>
 ad (pu (cK y26) h) fun y27 h=>
 ad (some (y12,h)) fun y28 h=>
 ad (pu (bin Try.prog .add 3 y28 (.int .i64 1)) h) fun y29 h=>
 ad (pu (bin Try.prog .mul 3 y29 (.int .i64 106)) h) fun y30 h=>
 ad (pu (dC false y27 [y30]) h) fun y31 h=>
 ad (pu (slR 1 y23 (some y25) (some y31) none) h) fun y32 h=>
 ad (some (y32,h)) fun y13 h=>
 ad (C 60 [(.int .i64 124)] h) fun y33 h=>
 ad (some (y33,h)) fun y14 h=>
 ad (some (y14,h)) fun y34 h=>
 ad (some ((x 2),h)) fun y35 h=>
 ad (C 62 [y34,y35] h) fun y36 h=>
 ad (some (y14,h)) fun y37 h=>
 ad (some ((x 3),h)) fun y38 h=>
 ad (some (y12,h)) fun y39 h=>
 ad (pu (bin Try.prog .add 3 y38 y39) h) fun y40 h=>
 ad (cvI .u32 y40 h) fun y41 h=>
 ad (C 61 [y37,y41] h) fun y42 h=>
 ad (some (y14,h)) fun y43 h=>
 ad (some (y12,h)) fun y44 h=>
 ad (cvI .u16 y44 h) fun y45 h=>
 ad (C 91 [y43,y45] h) fun y46 h=>
 ad (some (y14,h)) fun y47 h=>
 ad (some ((x 11),h)) fun y48 h=>
 ad (cvI .u16 y48 h) fun y49 h=>
 ad (C 91 [y47,y49] h) fun y50 h=>
 ad (some (y14,h)) fun y51 h=>
 ad (some (y13,h)) fun y52 h=>
 ad (C 92 [y51,y52] h) fun y53 h=>
 let g19_0:=h
 ad (some ((x 0),g19_0)) fun y54 g19_1=>
 ad (pu (aC y54) g19_1) fun y55 g19_2=>
 ad (pu (aI y55 0) g19_2) fun y56 g19_3=>
 ad (aV y56 g19_3) fun y57 g19_4=>
 ad (some ((x 1),g19_4)) fun y58 g19_5=>
 ad (some ((x 0),g19_5)) fun y59 g19_6=>
 ad (pu (aC y59) g19_6) fun y60 g19_7=>
 ad (pu (aI y60 0) g19_7) fun y61 g19_8=>
 ad (aV y61 g19_8) fun y62 g19_9=>
 ad (C 55 [y62] g19_9) fun y63 g19_10=>
 ad (pu (bin Try.prog .mul 3 y58 y63) g19_10) fun y64 g19_11=>
 ad (pu (bin Try.prog .add 3 (.int .i64 2) y64) g19_11) fun y65 g19_12=>
 ad (some ((x 3),g19_12)) fun y66 g19_13=>
 ad (pu (bin Try.prog .add 3 y65 y66) g19_13) fun y67 g19_14=>
 ad (some (y12,g19_14)) fun y68 g19_15=>
 ad (pu (bin Try.prog .add 3 y67 y68) g19_15) fun y69 g19_16=>
 ad (some (y14,g19_16)) fun y70 g19_17=>
 ad (C 64 [y70] g19_17) fun y71 g19_18=>
 ad (C 19 [y57,y69,y71] g19_18) fun y72 g19_19=>
 ad (some (y72,g19_19)) fun y15 g19_20=>
 (match (bU true (aV y56 g19_10) y57&&(bU true (aV y56 g19_18) y57&&true)) with
 |true=>
 let h:=g19_20
 ad (some (y15,h)) fun y73 h=>
 ad (pu (bin Try.prog .neq 28 y73 (.int .i64 0)) h) fun y74 h=>
 (match y74 with
 | .bool true=>
 ad (some (y15,h)) fun y75 h=>
 ad (some (y75,h)) fun bH h=>
 some (.ret,(aZ 77 (up x [(10,bH),(12,y12),(13,y13),(14,y14),(15,y15),(21,y21),(22,y22),(23,y23),(24,y24),(25,y25),(26,y26),(27,y27),(28,y28),(29,y29),(30,y30),(31,y31),(32,y32),(33,y33),(34,y34),(35,y35),(36,y36),(37,y37),(38,y38),(39,y39),(40,y40),(41,y41),(42,y42),(43,y43),(44,y44),(45,y45),(46,y46),(47,y47),(48,y48),(49,y49),(50,y50),(51,y51),(52,y52),(53,y53),(54,y54),(55,y55),(56,y56),(57,y57),(58,y58),(59,y59),(60,y60),(61,y61),(62,y62),(63,y63),(64,y64),(65,y65),(66,y66),(67,y67),(68,y68),(69,y69),(70,y70),(71,y71),(72,y72),(73,y73),(74,y74),(75,y75)])),h)
 | .bool false=>
 ad (pu (bin Try.prog .add 3 (x 20) (.int .i64 1)) h) fun y76 h=>
 ad (some (y76,h)) fun y20 h=>
 some (.normal,(aZ 77 (up x [(12,y12),(13,y13),(14,y14),(15,y15),(20,y20),(21,y21),(22,y22),(23,y23),(24,y24),(25,y25),(26,y26),(27,y27),(28,y28),(29,y29),(30,y30),(31,y31),(32,y32),(33,y33),(34,y34),(35,y35),(36,y36),(37,y37),(38,y38),(39,y39),(40,y40),(41,y41),(42,y42),(43,y43),(44,y44),(45,y45),(46,y46),(47,y47),(48,y48),(49,y49),(50,y50),(51,y51),(52,y52),(53,y53),(54,y54),(55,y55),(56,y56),(57,y57),(58,y58),(59,y59),(60,y60),(61,y61),(62,y62),(63,y63),(64,y64),(65,y65),(66,y66),(67,y67),(68,y68),(69,y69),(70,y70),(71,y71),(72,y72),(73,y73),(74,y74),(76,y76)])),h)
 |_=>none)
 |false=>none)
 | .bool false=>
 some (.exit 0,(aZ 77 (up x [(21,y21)])),h)
 |_=>none)
theorem t59_eq (C:ak) (x0 x1 x2 x3 x4:Value) (h:af):bk Try.prog C Try.f59 [x0,x1,x2,x3,x4] h=t59 C x0 x1 x2 x3 x4 h:=
 (aN Try.prog C Try.f59 [x0,x1,x2,x3,x4] h (by kernel_rfl)).trans (by kernel_rfl)
theorem t59k59_2_eq (C:ak) (x:Nat→Value) (h:af):k59_2 C (aZ 77 x) h=t59k59_2 C x h:=
 bo (b:=(partOf Try.f59 [1,1,1])) (kE:=(al Try.prog Try.f59.results.toList)) (rE:=(al Try.prog Try.f59.results.toList)) (xE:=(fun _ _ _=>none)) (T:=t59k59_2 C) (fun x h=>by kernel_rfl) x h
theorem t59l59_11010_eq (C:ak) (x:Nat→Value) (h:af):aL Try.prog C (partOf Try.f59 [1,1,0,1,0,0]) (aZ 77 x) h=t59l59_11010 C x h:=
 bg (T:=t59l59_11010 C) (fun x h=>by kernel_rfl) x h
noncomputable def t3 (C:ak) (x0:Value) (h:af):Out:=
 ad (some ((.bool false),h)) fun _y2 h=>
 ad (some (x0,h)) fun y4 h=>
 ad (pu (bin Try.prog .gtr 3 y4 (.int .i64 16777216)) h) fun y5 h=>
 (match y5 with
 | .bool true=>
 ad (C 14 [] h) fun y6 h=>
 ad (some (y6,h)) fun y2_1 h=>
 some (y2_1,h)
 | .bool false=>
 ad (some (x0,h)) fun y7 h=>
 ad (C 15 [y7] h) fun y8 h=>
 ad (some (y8,h)) fun y3 h=>
 ad (some (y3,h)) fun y9 h=>
 ad (pu (bin Try.prog .geq 3 y9 (.int .i64 1)) h) fun bH h=>
 ad (some (bH,h)) fun bQ h=>
 ad (ah (aO bQ==some true) (some (y3,h)) h) fun y12 h=>
 ad (ah (aO bQ==some true) (some (x0,h)) h) fun y13 h=>
 ad (ah (aO bQ==some true) (C 16 [y13] h) h) fun y14 h=>
 ad (ah (aO bQ==some true) (pu (bin Try.prog .eql 3 y12 y14) h) h) fun y15 h=>
 ad (match bQ with | .bool t=>some (if t then y15 else (.bool false),h)|_=>none) fun y16 h=>
 ad (some (y16,h)) fun y17 h=>
 ad (ah (aO y17==some true) (some (x0,h)) h) fun y18 h=>
 ad (ah (aO y17==some true) (pu (bin Try.prog .leq 3 y18 (.int .i64 106)) h) h) fun y19 h=>
 ad (ah (aO y17==some true) (some (y19,h)) h) fun y20 h=>
 ad (ah (aO y20==some false) (some (y3,h)) h) fun y21 h=>
 ad (ah (aO y20==some false) (pu (bin Try.prog .mul 3 (.int .i64 106) y21) h) h) fun y22 h=>
 ad (ah (aO y20==some false) (some (x0,h)) h) fun y23 h=>
 ad (ah (aO y20==some false) (pu (bin Try.prog .geq 3 y22 y23) h) h) fun y24 h=>
 ad (ah (aO y20==some false) (some (y24,h)) h) fun y25 h=>
 ad (ah (aO y25==some true) (some (y3,h)) h) fun y26 h=>
 ad (ah (aO y25==some true) (pu (bin Try.prog .sub 3 y26 (.int .i64 1)) h) h) fun y27 h=>
 ad (ah (aO y25==some true) (pu (bin Try.prog .mul 3 (.int .i64 106) y27) h) h) fun y28 h=>
 ad (ah (aO y25==some true) (some (x0,h)) h) fun y29 h=>
 ad (ah (aO y25==some true) (pu (bin Try.prog .lss 3 y28 y29) h) h) fun y30 h=>
 ad (ah (aO y20==some false) (match y25 with | .bool t=>some (if t then y30 else (.bool false),h)|_=>none) h) fun y31 h=>
 ad (ah (aO y17==some true) (match y20 with | .bool t=>some (if t then (.bool true) else y31,h)|_=>none) h) fun y32 h=>
 ad (match y17 with | .bool t=>some (if t then y32 else (.bool false),h)|_=>none) fun y33 h=>
 ad (some (y33,h)) fun y34 h=>
 ad (ah (aO y34==some true) (C 14 [] h) h) fun y35 h=>
 ad (match y34 with | .bool t=>some (if t then y35 else (.bool false),h)|_=>none) fun y36 h=>
 ad (some (y36,h)) fun y2_1 h=>
 some (y2_1,h)
 |_=>none)
theorem t3_eq (C:ak) (x0:Value) (h:af):bk Try.prog C Try.f3 [x0] h=t3 C x0 h:=
 (aN Try.prog C Try.f3 [x0] h (by kernel_rfl)).trans (by kernel_rfl)
noncomputable def k16_2 (C:ak) (e:Env) (h:af):Out:=cF Try.prog C (partOf Try.f16 [1,1,1]) e h (al Try.prog Try.f16.results.toList) (al Try.prog Try.f16.results.toList) (fun _ _ _=>none)
noncomputable def b16_4 (C:ak) (i:Nat) (e:Env) (h:af):Out:=if i=0 then (k16_2 C) e h else (fun _ _ _=>none) i e h
noncomputable def t16 (C:ak) (x0:Value) (h:af):Out:=
 ad (some ((.int .i64 0),h)) fun y2 h=>
 ad (some ((.int .i64 1),h)) fun y3 h=>
 ad (some (x0,h)) fun y5 h=>
 ad (some (y5,h)) fun y4 h=>
 dI (iter (aL Try.prog C (partOf Try.f16 [1,1,0,1,0,0])) rounds (aZ 13 (up (bs [x0]) [(2,y2),(3,y3),(4,y4),(5,y5)])) h) (al Try.prog Try.f16.results.toList) (b16_4 C)
noncomputable def t16k16_2 (_C:ak) (x:Nat→Value) (h:af):Out:=
 ad (some ((x 3),h)) fun y12 h=>
 ad (some (y12,h)) fun y2 h=>
 some (y2,h)
noncomputable def t16l16_11010 (_C:ak) (x:Nat→Value) (h:af):Option (Ex×Env×af):=
 ad (some ((x 4),h)) fun y6 h=>
 ad (pu (bin Try.prog .gtr 3 y6 (.int .i64 106)) h) fun y7 h=>
 (match y7 with
 | .bool true=>
 ad (some ((x 3),h)) fun bH h=>
 ad (pu (bin Try.prog .add 3 bH (.int .i64 1)) h) fun bQ h=>
 ad (some (bQ,h)) fun y3 h=>
 ad (some ((x 4),h)) fun y8 h=>
 ad (pu (bin Try.prog .sub 3 y8 (.int .i64 106)) h) fun y9 h=>
 ad (some (y9,h)) fun y4 h=>
 some (.normal,(aZ 13 (up x [(3,y3),(4,y4),(6,y6),(7,y7),(8,y8),(9,y9),(10,bH),(11,bQ)])),h)
 | .bool false=>
 some (.exit 0,(aZ 13 (up x [(6,y6),(7,y7)])),h)
 |_=>none)
theorem t16_eq (C:ak) (x0:Value) (h:af):bk Try.prog C Try.f16 [x0] h=t16 C x0 h:=
 (aN Try.prog C Try.f16 [x0] h (by kernel_rfl)).trans (by kernel_rfl)
theorem t16k16_2_eq (C:ak) (x:Nat→Value) (h:af):k16_2 C (aZ 13 x) h=t16k16_2 C x h:=
 bo (b:=(partOf Try.f16 [1,1,1])) (kE:=(al Try.prog Try.f16.results.toList)) (rE:=(al Try.prog Try.f16.results.toList)) (xE:=(fun _ _ _=>none)) (T:=t16k16_2 C) (fun x h=>by kernel_rfl) x h
theorem t16l16_11010_eq (C:ak) (x:Nat→Value) (h:af):aL Try.prog C (partOf Try.f16 [1,1,0,1,0,0]) (aZ 13 x) h=t16l16_11010 C x h:=
 bg (T:=t16l16_11010 C) (fun x h=>by kernel_rfl) x h
end Go.Proofs.Ytcmfgmhadeeieaa

