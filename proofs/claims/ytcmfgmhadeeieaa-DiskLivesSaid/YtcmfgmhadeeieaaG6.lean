/-
  A part of the proof, spaces and names shortened by a program (a claim may hold 1,500,000 bytes).
  Conditions: as each theorem states.
-/
import Derived.Test.YtcmfgmhadeeieaaG5
import Derived.Test.YtcmfgmhadeeieaaProg
import Derived.KernelRfl
namespace Go.Proofs.Ytcmfgmhadeeieaa
open Go Go.Abs
noncomputable def t60 (_C:al) (x0:Value) (h:ah):Out:=
 ae (some ((.pointer none),h)) fun _y2 h=>
 ae (some (x0,h)) fun y3 h=>
 ae (pu (dA true (.int .i64 0) [y3]) h) fun y4 h=>
 ae (pu (fU [(.int .i64 0),(.bool false),(.slice none 0 0)] [(0,1,y4)]) h) fun y5 h=>
 ae (box y5 h) fun y6 h=>
 ae (some (y6,h)) fun y2_1 h=>
 some (y2_1,h)
theorem t60_eq (C:al) (x0:Value) (h:ah):bw Try.prog C Try.f60 [x0] h=t60 C x0 h:=
 (aK Try.prog C Try.f60 [x0] h (by kernel_rfl)).trans (by kernel_rfl)
noncomputable def t61 (C:al) (x0 x1:Value) (h:ah):Out:=
 ae (some (x0,h)) fun y4 h=>
 ae (some (x1,h)) fun y5 h=>
 ae (cvI .u64 y5 h) fun y6 h=>
 ae (C 93 [y4,y6,(.int .i64 4)] h) fun _y7 h=>
 some (.tuple #[],h)
theorem t61_eq (C:al) (x0 x1:Value) (h:ah):bw Try.prog C Try.f61 [x0,x1] h=t61 C x0 x1 h:=
 (aK Try.prog C Try.f61 [x0,x1] h (by kernel_rfl)).trans (by kernel_rfl)
noncomputable def t62 (C:al) (x0 x1:Value) (h:ah):Out:=
 ae (some (x0,h)) fun y4 h=>
 ae (some (x1,h)) fun y5 h=>
 ae (C 93 [y4,y5,(.int .i64 8)] h) fun _y6 h=>
 some (.tuple #[],h)
theorem t62_eq (C:al) (x0 x1:Value) (h:ah):bw Try.prog C Try.f62 [x0,x1] h=t62 C x0 x1 h:=
 (aK Try.prog C Try.f62 [x0,x1] h (by kernel_rfl)).trans (by kernel_rfl)
noncomputable def t63 (C:al) (x0 x1:Value) (h:ah):Out:=
 ae (some (x0,h)) fun y4 h=>
 ae (some (x1,h)) fun y5 h=>
 ae (cvI .u64 y5 h) fun y6 h=>
 ae (C 93 [y4,y6,(.int .i64 1)] h) fun _y7 h=>
 some (.tuple #[],h)
theorem t63_eq (C:al) (x0 x1:Value) (h:ah):bw Try.prog C Try.f63 [x0,x1] h=t63 C x0 x1 h:=
 (aK Try.prog C Try.f63 [x0,x1] h (by kernel_rfl)).trans (by kernel_rfl)
noncomputable def t85 (C:al) (x0:Value) (h:ah):Out:=
 ae (some ((.int .u32 0),h)) fun _y2 h=>
 ae (some (x0,h)) fun y3 h=>
 ae (C 106 [y3,(.int .i64 4)] h) fun y4 h=>
 ae (cvI .u32 y4 h) fun y5 h=>
 ae (some (y5,h)) fun y2_1 h=>
 some (y2_1,h)
theorem t85_eq (C:al) (x0:Value) (h:ah):bw Try.prog C Try.f85 [x0] h=t85 C x0 h:=
 (aK Try.prog C Try.f85 [x0] h (by kernel_rfl)).trans (by kernel_rfl)
noncomputable def t86 (C:al) (x0:Value) (h:ah):Out:=
 ae (some ((.int .u64 0),h)) fun _y2 h=>
 ae (some (x0,h)) fun y3 h=>
 ae (C 106 [y3,(.int .i64 8)] h) fun y4 h=>
 ae (some (y4,h)) fun y2_1 h=>
 some (y2_1,h)
theorem t86_eq (C:al) (x0:Value) (h:ah):bw Try.prog C Try.f86 [x0] h=t86 C x0 h:=
 (aK Try.prog C Try.f86 [x0] h (by kernel_rfl)).trans (by kernel_rfl)
noncomputable def t87 (C:al) (x0:Value) (h:ah):Out:=
 ae (some ((.int .u8 0),h)) fun _y2 h=>
 ae (some (x0,h)) fun y3 h=>
 ae (C 106 [y3,(.int .i64 1)] h) fun y4 h=>
 ae (cvI .u8 y4 h) fun y5 h=>
 ae (some (y5,h)) fun y2_1 h=>
 some (y2_1,h)
theorem t87_eq (C:al) (x0:Value) (h:ah):bw Try.prog C Try.f87 [x0] h=t87 C x0 h:=
 (aK Try.prog C Try.f87 [x0] h (by kernel_rfl)).trans (by kernel_rfl)
noncomputable def t88 (C:al) (x0:Value) (h:ah):Out:=
 ae (some ((.int .u16 0),h)) fun _y2 h=>
 ae (some (x0,h)) fun y3 h=>
 ae (C 106 [y3,(.int .i64 2)] h) fun y4 h=>
 ae (cvI .u16 y4 h) fun y5 h=>
 ae (some (y5,h)) fun y2_1 h=>
 some (y2_1,h)
theorem t88_eq (C:al) (x0:Value) (h:ah):bw Try.prog C Try.f88 [x0] h=t88 C x0 h:=
 (aK Try.prog C Try.f88 [x0] h (by kernel_rfl)).trans (by kernel_rfl)
noncomputable def t89 (C:al) (x0 x1:Value) (h:ah):Out:=
 ae (some ((.slice none 0 0),h)) fun _y4 h=>
 ae (some (x0,h)) fun y5 h=>
 ae (some (x1,h)) fun y6 h=>
 ae (C 108 [y5,y6] h) fun y7 h=>
 ae (C 107 [y7] h) fun y8 h=>
 ae (some (y8,h)) fun y4_1 h=>
 some (y4_1,h)
theorem t89_eq (C:al) (x0 x1:Value) (h:ah):bw Try.prog C Try.f89 [x0,x1] h=t89 C x0 x1 h:=
 (aK Try.prog C Try.f89 [x0,x1] h (by kernel_rfl)).trans (by kernel_rfl)
noncomputable def t90 (_C:al) (x0:Value) (h:ah):Out:=
 ae (some ((.int .i64 0),h)) fun _y2 h=>
 ae (some (x0,h)) fun y3 h=>
 ae (pu (bin Try.prog .eql 134 y3 (.pointer none)) h) fun y4 h=>
 (match y4 with
 | .bool true=>
 ae (some ((.int .i64 1),h)) fun y2_1 h=>
 some (y2_1,h)
 | .bool false=>
 ae (some (x0,h)) fun y5 h=>
 ae (pu (aB y5) h) fun y6 h=>
 ae (pu (aL y6 1) h) fun y7 h=>
 ae (ba y7 h) fun y8 h=>
 ae (some (y8,h)) fun y2_1 h=>
 some (y2_1,h)
 |_=>none)
theorem t90_eq (C:al) (x0:Value) (h:ah):bw Try.prog C Try.f90 [x0] h=t90 C x0 h:=
 (aK Try.prog C Try.f90 [x0] h (by kernel_rfl)).trans (by kernel_rfl)
noncomputable def t91 (C:al) (x0 x1:Value) (h:ah):Out:=
 ae (some (x0,h)) fun y4 h=>
 ae (some (x1,h)) fun y5 h=>
 ae (cvI .u64 y5 h) fun y6 h=>
 ae (C 93 [y4,y6,(.int .i64 2)] h) fun _y7 h=>
 some (.tuple #[],h)
theorem t91_eq (C:al) (x0 x1:Value) (h:ah):bw Try.prog C Try.f91 [x0,x1] h=t91 C x0 x1 h:=
 (aK Try.prog C Try.f91 [x0,x1] h (by kernel_rfl)).trans (by kernel_rfl)
noncomputable def t92 (C:al) (x0 x1:Value) (h:ah):Out:=
 ae (some (x0,h)) fun y4 h=>
 ae (pu (bin Try.prog .eql 110 y4 (.pointer none)) h) fun y5 h=>
 (match y5 with
 | .bool true=>
 some (.tuple #[],h)
 | .bool false=>
 ae (some (x1,h)) fun y6 h=>
 ae (pu (cH y6) h) fun y7 h=>
 ae (pu (bin Try.prog .gtr 3 y7 (.int .i64 65535)) h) fun y8 h=>
 (match y8 with
 | .bool true=>
 ae (some (x0,h)) fun y9 h=>
 ae (pu (aB y9) h) fun bM h=>
 ae (pu (aL bM 1) h) fun bY h=>
 ae (cf 1 bY (.bool true) h) fun _ h=>
 some (.tuple #[],h)
 | .bool false=>
 ae (some (x0,h)) fun bX h=>
 ae (some (x1,h)) fun bR h=>
 ae (pu (cH bR) h) fun bQ h=>
 ae (pu (bin Try.prog .add 3 bQ (.int .i64 2)) h) fun y15 h=>
 ae (C 109 [bX,y15] h) fun y16 h=>
 (match y16 with
 | .bool true=>
 ae (some (x0,h)) fun y17 h=>
 ae (some (x0,h)) fun cG h=>
 ae (pu (aB cG) h) fun cK h=>
 ae (pu (aL cK 2) h) fun y20 h=>
 ae (ba y20 h) fun y21 h=>
 ae (some (x1,h)) fun y22 h=>
 ae (pu (cH y22) h) fun de h=>
 ae (pu (bin Try.prog .shr 3 de (.int .u64 8)) h) fun y24 h=>
 ae (cvI .u8 y24 h) fun y25 h=>
 ae (some (x1,h)) fun y26 h=>
 ae (pu (cH y26) h) fun y27 h=>
 ae (cvI .u8 y27 h) fun y28 h=>
 ae (cX 1 (.int .u8 0) 2 [(0,y25),(1,y28)] h) fun y29 h=>
 ae (bo 1 1 y21 y29 h) fun y30 h=>
 ae (pu (aB y17) h) fun y31 h=>
 ae (pu (aL y31 2) h) fun y32 h=>
 ae (cf 1 y32 y30 h) fun _ h=>
 ae (some (x0,h)) fun y33 h=>
 ae (some (x0,h)) fun y34 h=>
 ae (pu (aB y34) h) fun y35 h=>
 ae (pu (aL y35 2) h) fun y36 h=>
 ae (ba y36 h) fun y37 h=>
 ae (some (x1,h)) fun y38 h=>
 ae (bo 1 1 y37 y38 h) fun y39 h=>
 ae (pu (aB y33) h) fun y40 h=>
 ae (pu (aL y40 2) h) fun y41 h=>
 ae (cf 1 y41 y39 h) fun _ h=>
 some (.tuple #[],h)
 | .bool false=>
 some (.tuple #[],h)
 |_=>none)
 |_=>none)
 |_=>none)
theorem t92_eq (C:al) (x0 x1:Value) (h:ah):bw Try.prog C Try.f92 [x0,x1] h=t92 C x0 x1 h:=
 (aK Try.prog C Try.f92 [x0,x1] h (by kernel_rfl)).trans (by kernel_rfl)
noncomputable def b93_2 (_C:al) (i:Nat) (e:Env) (h:ah):Out:=if i=0 then (au Try.prog Try.f93.results.toList) e h else (fun _ _ _=>none) i e h
noncomputable def t93 (C:al) (x0 x1 x2:Value) (h:ah):Out:=
 ae (some (x0,h)) fun y7 h=>
 ae (some (x2,h)) fun y8 h=>
 ae (C 109 [y7,y8] h) fun y9 h=>
 (match y9 with
 | .bool true=>
 ae (some (x2,h)) fun bM h=>
 ae (pu (bin Try.prog .sub 3 bM (.int .i64 1)) h) fun bY h=>
 ae (some (bY,h)) fun y6 h=>
 dD (iter (aI Try.prog C (partOf Try.f93 [1,0,1,0,0])) rounds (aY 30 (up (bs [x0,x1,x2]) [(6,y6),(7,y7),(8,y8),(9,y9),(10,bM),(11,bY)])) h) (au Try.prog Try.f93.results.toList) (b93_2 C)
 | .bool false=>
 some (.tuple #[],h)
 |_=>none)
noncomputable def t93l93_1010 (_C:al) (x:Nat→Value) (h:ah):Option (Ex×Env×ah):=
 ae (some ((x 6),h)) fun bX h=>
 ae (pu (bin Try.prog .geq 3 bX (.int .i64 0)) h) fun bR h=>
 (match bR with
 | .bool true=>
 ae (some ((x 0),h)) fun y16 h=>
 ae (some ((x 0),h)) fun y17 h=>
 ae (pu (aB y17) h) fun cG h=>
 ae (pu (aL cG 2) h) fun cK h=>
 ae (ba cK h) fun y20 h=>
 ae (some ((x 1),h)) fun y21 h=>
 ae (some ((x 6),h)) fun y22 h=>
 ae (pu (bin Try.prog .mul 3 (.int .i64 8) y22) h) fun de h=>
 ae (pu (bin Try.prog .shr 58 y21 de) h) fun y24 h=>
 ae (cvI .u8 y24 h) fun y25 h=>
 ae (cX 1 (.int .u8 0) 1 [(0,y25)] h) fun y26 h=>
 ae (bo 1 1 y20 y26 h) fun y27 h=>
 ae (pu (aB y16) h) fun y28 h=>
 ae (pu (aL y28 2) h) fun y29 h=>
 ae (cf 1 y29 y27 h) fun _ h=>
 ae (some ((x 6),h)) fun bQ h=>
 ae (pu (bin Try.prog .sub 3 bQ (.int .i64 1)) h) fun y15 h=>
 ae (some (y15,h)) fun y6 h=>
 some (.normal,(aY 30 (up x [(6,y6),(12,bX),(13,bR),(14,bQ),(15,y15),(16,y16),(17,y17),(18,cG),(19,cK),(20,y20),(21,y21),(22,y22),(23,de),(24,y24),(25,y25),(26,y26),(27,y27),(28,y28),(29,y29)])),h)
 | .bool false=>
 some (.exit 0,(aY 30 (up x [(12,bX),(13,bR)])),h)
 |_=>none)
theorem t93_eq (C:al) (x0 x1 x2:Value) (h:ah):bw Try.prog C Try.f93 [x0,x1,x2] h=t93 C x0 x1 x2 h:=
 (aK Try.prog C Try.f93 [x0,x1,x2] h (by kernel_rfl)).trans (by kernel_rfl)
theorem t93l93_1010_eq (C:al) (x:Nat→Value) (h:ah):aI Try.prog C (partOf Try.f93 [1,0,1,0,0]) (aY 30 x) h=t93l93_1010 C x h:=
 bj (T:=t93l93_1010 C) (fun x h=>by kernel_rfl) x h
noncomputable def t94 (C:al) (x0:Value) (h:ah):Out:=
 ae (some ((.slice none 0 0),h)) fun _y2 h=>
 ae (some ((.int .i64 0),h)) fun _y3 h=>
 ae (some (x0,h)) fun y5 h=>
 ae (pu (bin Try.prog .eql 110 y5 (.pointer none)) h) fun y6 h=>
 ae (some (y6,h)) fun y4 h=>
 (match y4 with
 | .bool true=>
 ae (some ((.slice none 0 0),h)) fun y2_1 h=>
 ae (some ((.int .i64 1),h)) fun y3_1 h=>
 some (.tuple #[y2_1,y3_1],h)
 | .bool false=>
 ae (some (x0,h)) fun y8 h=>
 ae (pu (aB y8) h) fun y9 h=>
 ae (pu (aL y9 1) h) fun bM h=>
 ae (ba bM h) fun bY h=>
 ae (some (bY,h)) fun y7 h=>
 (match y7 with
 | .bool true=>
 ae (some ((.slice none 0 0),h)) fun y2_1 h=>
 ae (some ((.int .i64 3),h)) fun y3_1 h=>
 some (.tuple #[y2_1,y3_1],h)
 | .bool false=>
 ae (some (x0,h)) fun bX h=>
 ae (pu (aB bX) h) fun bR h=>
 ae (pu (aL bR 2) h) fun bQ h=>
 ae (ba bQ h) fun y15 h=>
 ae (C 107 [y15] h) fun y16 h=>
 ae (some (y16,h)) fun y2_1 h=>
 ae (some ((.int .i64 0),h)) fun y3_1 h=>
 some (.tuple #[y2_1,y3_1],h)
 |_=>none)
 |_=>none)
theorem t94_eq (C:al) (x0:Value) (h:ah):bw Try.prog C Try.f94 [x0] h=t94 C x0 h:=
 (aK Try.prog C Try.f94 [x0] h (by kernel_rfl)).trans (by kernel_rfl)
noncomputable def k95_2 (C:al) (e:Env) (h:ah):Out:=cB Try.prog C (partOf Try.f95 [1,1,1]) e h (au Try.prog Try.f95.results.toList) (au Try.prog Try.f95.results.toList) (fun _ _ _=>none)
noncomputable def b95_4 (C:al) (i:Nat) (e:Env) (h:ah):Out:=if i=0 then (k95_2 C) e h else (fun _ _ _=>none) i e h
noncomputable def k95_6 (C:al) (e:Env) (h:ah):Out:=cB Try.prog C (partOf Try.f95 [1,1,1,1,1]) e h (au Try.prog Try.f95.results.toList) (au Try.prog Try.f95.results.toList) (fun _ _ _=>none)
noncomputable def b95_8 (C:al) (i:Nat) (e:Env) (h:ah):Out:=if i=4 then (k95_6 C) e h else (fun _ _ _=>none) i e h
noncomputable def k95_11 (C:al) (e:Env) (h:ah):Option (Ex×Env×ah):=cB Try.prog C (partOf Try.f95 [1,1,0,1,0,0,1,1,1]) e h (fun e h=>some (Ex.normal,e,h)) (fun e h=>some (Ex.ret,e,h)) (fun i e h=>some (Ex.exit i,e,h))
noncomputable def b95_12 (C:al) (i:Nat) (e:Env) (h:ah):Option (Ex×Env×ah):=if i=1 then (k95_11 C) e h else (fun i e h=>some (Ex.exit i,e,h)) i e h
noncomputable def k95_15 (C:al) (e:Env) (h:ah):Option (Ex×Env×ah):=cB Try.prog C (partOf Try.f95 [1,1,0,1,0,0,1,1,0,0,1,1,1]) e h (k95_11 C) (fun e h=>some (Ex.ret,e,h)) (b95_12 C)
noncomputable def b95_17 (C:al) (i:Nat) (e:Env) (h:ah):Option (Ex×Env×ah):=if i=2 then (k95_15 C) e h else (b95_12 C) i e h
noncomputable def t95 (C:al) (x0:Value) (h:ah):Out:=
 ae (some ((.int .u32 0),h)) fun y2 h=>
 ae (dB (List.replicate 16 (.int .u32 0)) h) fun y3 h=>
 ae (some ((.int .i64 0),h)) fun y9 h=>
 dD (iter (aI Try.prog C (partOf Try.f95 [1,1,0,1,0,0])) rounds (aY 54 (up (bs [x0]) [(2,y2),(3,y3),(9,y9)])) h) (au Try.prog Try.f95.results.toList) (b95_4 C)
noncomputable def t95k95_2 (C:al) (x:Nat→Value) (h:ah):Out:=
 ae (some ((.int .u32 4294967295),h)) fun y6 h=>
 ae (some ((x 0),h)) fun y27 h=>
 ae (pu (cH y27) h) fun y28 h=>
 ae (some ((.int .i64 0),h)) fun y29 h=>
 dD (iter (aI Try.prog C (partOf Try.f95 [1,1,1,1,0,1,0,0])) rounds (aY 54 (up x [(6,y6),(27,y27),(28,y28),(29,y29)])) h) (au Try.prog Try.f95.results.toList) (b95_8 C)
noncomputable def t95l95_11010 (C:al) (x:Nat→Value) (h:ah):Option (Ex×Env×ah):=
 ae (pu (bin Try.prog .lss 3 (x 9) (.int .i64 16)) h) fun bM h=>
 (match bM with
 | .bool true=>
 ae (some ((x 9),h)) fun bY h=>
 ae (some (bY,h)) fun y4 h=>
 ae (some (y4,h)) fun bX h=>
 ae (cvI .u32 bX h) fun bR h=>
 ae (some (bR,h)) fun y5 h=>
 ae (some ((.int .i64 0),h)) fun bQ h=>
 dD (iter (aI Try.prog C (partOf Try.f95 [1,1,0,1,0,0,1,1,0,0,1,1,0,1,0,0])) rounds (aY 54 (up x [(4,y4),(5,y5),(10,bM),(11,bY),(12,bX),(13,bR),(14,bQ)])) h) (fun e h=>some (Ex.ret,e,h)) (b95_17 C)
 | .bool false=>
 some (.exit 0,(aY 54 (up x [(10,bM)])),h)
 |_=>none)
noncomputable def t95k95_6 (_C:al) (x:Nat→Value) (h:ah):Out:=
 ae (some ((x 6),h)) fun y52 h=>
 ae (pu (unA .xor y52) h) fun y53 h=>
 ae (some (y53,h)) fun y2 h=>
 some (y2,h)
noncomputable def fY (_C:al) (x:Nat→Value) (h:ah):Option (Ex×Env×ah):=
 ae (pu (bin Try.prog .lss 3 (x 29) (x 28)) h) fun y30 h=>
 (match y30 with
 | .bool true=>
 ae (pu (cd 1 (x 27) (x 29)) h) fun y31 h=>
 ae (ba y31 h) fun y32 h=>
 ae (some (y32,h)) fun y8 h=>
 ae (some ((x 6),h)) fun y33 h=>
 ae (some (y8,h)) fun y34 h=>
 ae (cvI .u32 y34 h) fun y35 h=>
 ae (pu (bin Try.prog .xor 113 y33 y35) h) fun y36 h=>
 ae (some (y36,h)) fun y6 h=>
 ae (some (y6,h)) fun y37 h=>
 ae (pu (bin Try.prog .and 113 y37 (.int .u32 15)) h) fun y38 h=>
 ae (pu (idxA 16 1 (x 3) y38) h) fun y39 h=>
 ae (ba y39 h) fun y40 h=>
 ae (some (y6,h)) fun y41 h=>
 ae (pu (bin Try.prog .shr 113 y41 (.int .u64 4)) h) fun y42 h=>
 ae (pu (bin Try.prog .xor 113 y40 y42) h) fun y43 h=>
 ae (some (y43,h)) fun y6_1 h=>
 ae (some (y6_1,h)) fun y44 h=>
 ae (pu (bin Try.prog .and 113 y44 (.int .u32 15)) h) fun y45 h=>
 ae (pu (idxA 16 1 (x 3) y45) h) fun y46 h=>
 ae (ba y46 h) fun y47 h=>
 ae (some (y6_1,h)) fun y48 h=>
 ae (pu (bin Try.prog .shr 113 y48 (.int .u64 4)) h) fun y49 h=>
 ae (pu (bin Try.prog .xor 113 y47 y49) h) fun y50 h=>
 ae (some (y50,h)) fun y6_2 h=>
 ae (pu (bin Try.prog .add 3 (x 29) (.int .i64 1)) h) fun y51 h=>
 ae (some (y51,h)) fun y29 h=>
 some (.normal,(aY 54 (up x [(6,y6_2),(8,y8),(29,y29),(30,y30),(31,y31),(32,y32),(33,y33),(34,y34),(35,y35),(36,y36),(37,y37),(38,y38),(39,y39),(40,y40),(41,y41),(42,y42),(43,y43),(44,y44),(45,y45),(46,y46),(47,y47),(48,y48),(49,y49),(50,y50),(51,y51)])),h)
 | .bool false=>
 some (.exit 4,(aY 54 (up x [(30,y30)])),h)
 |_=>none)
noncomputable def t95k95_11 (_C:al) (x:Nat→Value) (h:ah):Option (Ex×Env×ah):=
 ae (pu (bin Try.prog .add 3 (x 9) (.int .i64 1)) h) fun y26 h=>
 ae (some (y26,h)) fun y9 h=>
 some (.normal,(aY 54 (up x [(9,y9),(26,y26)])),h)
noncomputable def t95k95_15 (C:al) (x:Nat→Value) (h:ah):Option (Ex×Env×ah):=
 ae (some ((x 4),h)) fun de h=>
 ae (some ((x 5),h)) fun y24 h=>
 ae (pu (idxA 16 1 (x 3) de) h) fun y25 h=>
 ae (cf 1 y25 y24 h) fun _ h=>
 k95_11 C (aY 54 (up x [(23,de),(24,y24),(25,y25)])) h
noncomputable def fB (_C:al) (x:Nat→Value) (h:ah):Option (Ex×Env×ah):=
 ae (pu (bin Try.prog .lss 3 (x 14) (.int .i64 4)) h) fun y15 h=>
 (match y15 with
 | .bool true=>
 ae (some ((x 5),h)) fun y16 h=>
 ae (pu (bin Try.prog .shr 113 y16 (.int .u64 1)) h) fun y17 h=>
 ae (some ((x 5),h)) fun cG h=>
 ae (pu (bin Try.prog .and 113 cG (.int .u32 1)) h) fun cK h=>
 ae (pu (bin Try.prog .mul 113 (.int .u32 2197175160) cK) h) fun y20 h=>
 ae (pu (bin Try.prog .xor 113 y17 y20) h) fun y21 h=>
 ae (some (y21,h)) fun y5 h=>
 ae (pu (bin Try.prog .add 3 (x 14) (.int .i64 1)) h) fun y22 h=>
 ae (some (y22,h)) fun bQ h=>
 some (.normal,(aY 54 (up x [(5,y5),(14,bQ),(15,y15),(16,y16),(17,y17),(18,cG),(19,cK),(20,y20),(21,y21),(22,y22)])),h)
 | .bool false=>
 some (.exit 2,(aY 54 (up x [(15,y15)])),h)
 |_=>none)
theorem t95_eq (C:al) (x0:Value) (h:ah):bw Try.prog C Try.f95 [x0] h=t95 C x0 h:=
 (aK Try.prog C Try.f95 [x0] h (by kernel_rfl)).trans (by kernel_rfl)
theorem t95k95_2_eq (C:al) (x:Nat→Value) (h:ah):k95_2 C (aY 54 x) h=t95k95_2 C x h:=
 bt (b:=(partOf Try.f95 [1,1,1])) (kE:=(au Try.prog Try.f95.results.toList)) (rE:=(au Try.prog Try.f95.results.toList)) (xE:=(fun _ _ _=>none)) (T:=t95k95_2 C) (fun x h=>by kernel_rfl) x h
theorem t95l95_11010_eq (C:al) (x:Nat→Value) (h:ah):aI Try.prog C (partOf Try.f95 [1,1,0,1,0,0]) (aY 54 x) h=t95l95_11010 C x h:=
 bj (T:=t95l95_11010 C) (fun x h=>by kernel_rfl) x h
theorem t95k95_6_eq (C:al) (x:Nat→Value) (h:ah):k95_6 C (aY 54 x) h=t95k95_6 C x h:=
 bt (b:=(partOf Try.f95 [1,1,1,1,1])) (kE:=(au Try.prog Try.f95.results.toList)) (rE:=(au Try.prog Try.f95.results.toList)) (xE:=(fun _ _ _=>none)) (T:=t95k95_6 C) (fun x h=>by kernel_rfl) x h
theorem t95l95_1111010_eq (C:al) (x:Nat→Value) (h:ah):aI Try.prog C (partOf Try.f95 [1,1,1,1,0,1,0,0]) (aY 54 x) h=fY C x h:=
 bj (T:=fY C) (fun x h=>by kernel_rfl) x h
theorem t95k95_11_eq (C:al) (x:Nat→Value) (h:ah):k95_11 C (aY 54 x) h=t95k95_11 C x h:=
 bt (b:=(partOf Try.f95 [1,1,0,1,0,0,1,1,1])) (kE:=(fun e h=>some (Ex.normal,e,h))) (rE:=(fun e h=>some (Ex.ret,e,h))) (xE:=(fun i e h=>some (Ex.exit i,e,h))) (T:=t95k95_11 C) (fun x h=>by kernel_rfl) x h
theorem t95k95_15_eq (C:al) (x:Nat→Value) (h:ah):k95_15 C (aY 54 x) h=t95k95_15 C x h:=
 bt (b:=(partOf Try.f95 [1,1,0,1,0,0,1,1,0,0,1,1,1])) (kE:=(k95_11 C)) (rE:=(fun e h=>some (Ex.ret,e,h))) (xE:=(b95_12 C)) (T:=t95k95_15 C) (fun x h=>by kernel_rfl) x h
theorem t95l95_110100110011010_eq (C:al) (x:Nat→Value) (h:ah):aI Try.prog C (partOf Try.f95 [1,1,0,1,0,0,1,1,0,0,1,1,0,1,0,0]) (aY 54 x) h=fB C x h:=
 bj (T:=fB C) (fun x h=>by kernel_rfl) x h
noncomputable def t105 (C:al) (x0:Value) (h:ah):Out:=
 ae (some ((.pointer none),h)) fun _y2 h=>
 ae (some (x0,h)) fun y3 h=>
 ae (C 107 [y3] h) fun y4 h=>
 ae (pu (fU [(.slice none 0 0),(.int .i64 0)] [(0,1,y4)]) h) fun y5 h=>
 ae (box y5 h) fun y6 h=>
 ae (some (y6,h)) fun y2_1 h=>
 some (y2_1,h)
theorem t105_eq (C:al) (x0:Value) (h:ah):bw Try.prog C Try.f105 [x0] h=t105 C x0 h:=
 (aK Try.prog C Try.f105 [x0] h (by kernel_rfl)).trans (by kernel_rfl)
noncomputable def k106_2 (C:al) (e:Env) (h:ah):Out:=cB Try.prog C (partOf Try.f106 [1,1,1]) e h (au Try.prog Try.f106.results.toList) (au Try.prog Try.f106.results.toList) (fun _ _ _=>none)
noncomputable def b106_4 (C:al) (i:Nat) (e:Env) (h:ah):Out:=if i=0 then (k106_2 C) e h else (fun _ _ _=>none) i e h
noncomputable def t106 (C:al) (x0 x1:Value) (h:ah):Out:=
 ae (some ((.int .u64 0),h)) fun y4 h=>
 ae (some ((.int .u64 0),h)) fun y5 h=>
 ae (some (x0,h)) fun y8 h=>
 ae (some (x1,h)) fun y9 h=>
 ae (C 108 [y8,y9] h) fun bM h=>
 ae (pu (cH bM) h) fun bY h=>
 ae (some ((.int .i64 0),h)) fun bX h=>
 dD (iter (aI Try.prog C (partOf Try.f106 [1,1,0,1,0,0])) rounds (aY 23 (up (bs [x0,x1]) [(4,y4),(5,y5),(8,y8),(9,y9),(10,bM),(11,bY),(12,bX)])) h) (au Try.prog Try.f106.results.toList) (b106_4 C)
noncomputable def t106k106_2 (_C:al) (x:Nat→Value) (h:ah):Out:=
 ae (some ((x 5),h)) fun y22 h=>
 ae (some (y22,h)) fun y4 h=>
 some (y4,h)
noncomputable def t106l106_11010 (_C:al) (x:Nat→Value) (h:ah):Option (Ex×Env×ah):=
 ae (pu (bin Try.prog .lss 3 (x 12) (x 11)) h) fun bR h=>
 (match bR with
 | .bool true=>
 ae (pu (cd 1 (x 10) (x 12)) h) fun bQ h=>
 ae (ba bQ h) fun y15 h=>
 ae (some (y15,h)) fun y7 h=>
 ae (some ((x 5),h)) fun y16 h=>
 ae (pu (bin Try.prog .shl 58 y16 (.int .u64 8)) h) fun y17 h=>
 ae (some (y7,h)) fun cG h=>
 ae (cvI .u64 cG h) fun cK h=>
 ae (pu (bin Try.prog .or 58 y17 cK) h) fun y20 h=>
 ae (some (y20,h)) fun y5 h=>
 ae (pu (bin Try.prog .add 3 (x 12) (.int .i64 1)) h) fun y21 h=>
 ae (some (y21,h)) fun bX h=>
 some (.normal,(aY 23 (up x [(5,y5),(7,y7),(12,bX),(13,bR),(14,bQ),(15,y15),(16,y16),(17,y17),(18,cG),(19,cK),(20,y20),(21,y21)])),h)
 | .bool false=>
 some (.exit 0,(aY 23 (up x [(13,bR)])),h)
 |_=>none)
theorem t106_eq (C:al) (x0 x1:Value) (h:ah):bw Try.prog C Try.f106 [x0,x1] h=t106 C x0 x1 h:=
 (aK Try.prog C Try.f106 [x0,x1] h (by kernel_rfl)).trans (by kernel_rfl)
theorem t106k106_2_eq (C:al) (x:Nat→Value) (h:ah):k106_2 C (aY 23 x) h=t106k106_2 C x h:=
 bt (b:=(partOf Try.f106 [1,1,1])) (kE:=(au Try.prog Try.f106.results.toList)) (rE:=(au Try.prog Try.f106.results.toList)) (xE:=(fun _ _ _=>none)) (T:=t106k106_2 C) (fun x h=>by kernel_rfl) x h
theorem t106l106_11010_eq (C:al) (x:Nat→Value) (h:ah):aI Try.prog C (partOf Try.f106 [1,1,0,1,0,0]) (aY 23 x) h=t106l106_11010 C x h:=
 bj (T:=t106l106_11010 C) (fun x h=>by kernel_rfl) x h
noncomputable def t107 (_C:al) (x0:Value) (h:ah):Out:=
 ae (some ((.slice none 0 0),h)) fun _y2 h=>
 ae (some (x0,h)) fun y3 h=>
 ae (pu (bin Try.prog .eql 32 y3 (.slice none 0 0)) h) fun y4 h=>
 (match y4 with
 | .bool true=>
 ae (some ((.slice none 0 0),h)) fun y2_1 h=>
 some (y2_1,h)
 | .bool false=>
 ae (cX 1 (.int .u8 0) 0 [] h) fun y5 h=>
 ae (some (x0,h)) fun y6 h=>
 ae (bo 1 1 y5 y6 h) fun y7 h=>
 ae (some (y7,h)) fun y2_1 h=>
 some (y2_1,h)
 |_=>none)
theorem t107_eq (C:al) (x0:Value) (h:ah):bw Try.prog C Try.f107 [x0] h=t107 C x0 h:=
 (aK Try.prog C Try.f107 [x0] h (by kernel_rfl)).trans (by kernel_rfl)
noncomputable def t108 (_C:al) (x0 x1:Value) (h:ah):Out:=
 ae (some ((.slice none 0 0),h)) fun _y4 h=>
 ae (some (x0,h)) fun y6 h=>
 ae (pu (bin Try.prog .eql 134 y6 (.pointer none)) h) fun y7 h=>
 ae (some (y7,h)) fun y8 h=>
 ae (ao (aZ y8==some false) (some (x0,h)) h) fun y9 h=>
 ae (ao (aZ y8==some false) (pu (aB y9) h) h) fun bM h=>
 ae (ao (aZ y8==some false) (pu (aL bM 1) h) h) fun bY h=>
 ae (ao (aZ y8==some false) (ba bY h) h) fun bX h=>
 ae (ao (aZ y8==some false) (pu (bin Try.prog .neq 28 bX (.int .i64 0)) h) h) fun bR h=>
 ae (match y8 with | .bool t=>some (if t then (.bool true) else bR,h)|_=>none) fun bQ h=>
 (match bQ with
 | .bool true=>
 ae (some ((.slice none 0 0),h)) fun y4_1 h=>
 some (y4_1,h)
 | .bool false=>
 ae (some (x1,h)) fun y16 h=>
 ae (pu (bin Try.prog .lss 3 y16 (.int .i64 0)) h) fun y17 h=>
 ae (some (y17,h)) fun y15 h=>
 (match y15 with
 | .bool true=>
 ae (some (x0,h)) fun cG h=>
 ae (pu (aB cG) h) fun cK h=>
 ae (pu (aL cK 1) h) fun y20 h=>
 ae (cf 1 y20 (.int .i64 2) h) fun _ h=>
 ae (some ((.slice none 0 0),h)) fun y4_1 h=>
 some (y4_1,h)
 | .bool false=>
 ae (some (x1,h)) fun y22 h=>
 ae (some (x0,h)) fun de h=>
 ae (pu (aB de) h) fun y24 h=>
 ae (pu (aL y24 0) h) fun y25 h=>
 ae (ba y25 h) fun y26 h=>
 ae (pu (cH y26) h) fun y27 h=>
 ae (pu (bin Try.prog .gtr 3 y22 y27) h) fun y28 h=>
 ae (some (y28,h)) fun y21 h=>
 (match y21 with
 | .bool true=>
 ae (some (x0,h)) fun y29 h=>
 ae (pu (aB y29) h) fun y30 h=>
 ae (pu (aL y30 1) h) fun y31 h=>
 ae (cf 1 y31 (.int .i64 4) h) fun _ h=>
 ae (some ((.slice none 0 0),h)) fun y4_1 h=>
 some (y4_1,h)
 | .bool false=>
 ae (some (x0,h)) fun y32 h=>
 ae (pu (aB y32) h) fun y33 h=>
 ae (pu (aL y33 0) h) fun y34 h=>
 ae (ba y34 h) fun y35 h=>
 ae (some (x1,h)) fun y36 h=>
 ae (pu (slR 1 y35 none (some y36) none) h) fun y37 h=>
 ae (some (y37,h)) fun y5 h=>
 ae (some (x0,h)) fun y38 h=>
 ae (some (x0,h)) fun y39 h=>
 ae (pu (aB y39) h) fun y40 h=>
 ae (pu (aL y40 0) h) fun y41 h=>
 ae (ba y41 h) fun y42 h=>
 ae (some (x1,h)) fun y43 h=>
 ae (pu (slR 1 y42 (some y43) none none) h) fun y44 h=>
 ae (pu (aB y38) h) fun y45 h=>
 ae (pu (aL y45 0) h) fun y46 h=>
 ae (cf 1 y46 y44 h) fun _ h=>
 ae (some (y5,h)) fun y47 h=>
 ae (some (y47,h)) fun y4_1 h=>
 some (y4_1,h)
 |_=>none)
 |_=>none)
 |_=>none)
theorem t108_eq (C:al) (x0 x1:Value) (h:ah):bw Try.prog C Try.f108 [x0,x1] h=t108 C x0 x1 h:=
 (aK Try.prog C Try.f108 [x0,x1] h (by kernel_rfl)).trans (by kernel_rfl)
noncomputable def t109 (_C:al) (x0 x1:Value) (h:ah):Out:=
 ae (some ((.bool false),h)) fun _y4 h=>
 ae (some (x0,h)) fun y5 h=>
 ae (pu (bin Try.prog .eql 110 y5 (.pointer none)) h) fun y6 h=>
 ae (some (y6,h)) fun y7 h=>
 ae (ao (aZ y7==some false) (some (x0,h)) h) fun y8 h=>
 ae (ao (aZ y7==some false) (pu (aB y8) h) h) fun y9 h=>
 ae (ao (aZ y7==some false) (pu (aL y9 1) h) h) fun bM h=>
 ae (ao (aZ y7==some false) (ba bM h) h) fun bY h=>
 ae (match y7 with | .bool t=>some (if t then (.bool true) else bY,h)|_=>none) fun bX h=>
 (match bX with
 | .bool true=>
 ae (some ((.bool false),h)) fun y4_1 h=>
 some (y4_1,h)
 | .bool false=>
 ae (some (x0,h)) fun bR h=>
 ae (some (x1,h)) fun bQ h=>
 ae (some (x0,h)) fun y15 h=>
 ae (pu (aB y15) h) fun y16 h=>
 ae (pu (aL y16 0) h) fun y17 h=>
 ae (ba y17 h) fun cG h=>
 ae (some (x0,h)) fun cK h=>
 ae (pu (aB cK) h) fun y20 h=>
 ae (pu (aL y20 2) h) fun y21 h=>
 ae (ba y21 h) fun y22 h=>
 ae (pu (cH y22) h) fun de h=>
 ae (pu (bin Try.prog .sub 3 cG de) h) fun y24 h=>
 ae (pu (bin Try.prog .gtr 3 bQ y24) h) fun y25 h=>
 ae (pu (aB bR) h) fun y26 h=>
 ae (pu (aL y26 1) h) fun y27 h=>
 ae (cf 1 y27 y25 h) fun _ h=>
 ae (some (x0,h)) fun y28 h=>
 ae (pu (aB y28) h) fun y29 h=>
 ae (pu (aL y29 1) h) fun y30 h=>
 ae (ba y30 h) fun y31 h=>
 ae (pu (unA .not y31) h) fun y32 h=>
 ae (some (y32,h)) fun y4_1 h=>
 some (y4_1,h)
 |_=>none)
theorem t109_eq (C:al) (x0 x1:Value) (h:ah):bw Try.prog C Try.f109 [x0,x1] h=t109 C x0 x1 h:=
 (aK Try.prog C Try.f109 [x0,x1] h (by kernel_rfl)).trans (by kernel_rfl)
end Go.Proofs.Ytcmfgmhadeeieaa

namespace Go.Proofs.Ytcmfgmhadeeieaa
open Go Go.Abs
noncomputable def t15 (_C:al) (x0:Value) (h:ah):Out:=
 ae (some ((.int .i64 0),h)) fun _y2 h=>
 ae (some (x0,h)) fun y3 h=>
 ae (pu (bin Try.prog .leq 3 y3 (.int .i64 106)) h) fun y4 h=>
 (match y4 with
 | .bool true=>
 ae (some ((.int .i64 1),h)) fun y2_1 h=>
 some (y2_1,h)
 | .bool false=>
 ae (some (x0,h)) fun y5 h=>
 ae (pu (bin Try.prog .sub 3 y5 (.int .i64 1)) h) fun y6 h=>
 ae (pu (bin Try.prog .quo 3 y6 (.int .i64 106)) h) fun y7 h=>
 ae (pu (bin Try.prog .add 3 y7 (.int .i64 1)) h) fun y8 h=>
 ae (some (y8,h)) fun y2_1 h=>
 some (y2_1,h)
 |_=>none)
theorem t15_eq (C:al) (x0:Value) (h:ah):bw Try.prog C Try.f15 [x0] h=t15 C x0 h:=
 (aK Try.prog C Try.f15 [x0] h (by kernel_rfl)).trans (by kernel_rfl)
noncomputable def t18 (_C:al) (x0:Value) (h:ah):Out:=
 ae (some ((.pointer none),h)) fun _y2 h=>
 ae (some ((.int .i64 0),h)) fun _y3 h=>
 ae (some (x0,h)) fun y4 h=>
 ae (pu (bin Try.prog .lss 3 y4 (.int .i64 4)) h) fun y5 h=>
 ae (some (y5,h)) fun y6 h=>
 ae (ao (aZ y6==some false) (some (x0,h)) h) fun y7 h=>
 ae (ao (aZ y6==some false) (pu (bin Try.prog .gtr 3 y7 (.int .i64 4096)) h) h) fun y8 h=>
 ae (match y6 with | .bool t=>some (if t then (.bool true) else y8,h)|_=>none) fun y9 h=>
 (match y9 with
 | .bool true=>
 ae (some ((.pointer none),h)) fun y2_1 h=>
 ae (some ((.int .i64 2),h)) fun y3_1 h=>
 some (.tuple #[y2_1,y3_1],h)
 | .bool false=>
 ae (some (x0,h)) fun bM h=>
 ae (mkR 128 128 (.agg (List.replicate 128 (.int .u8 0)).toArray) bM bM h) fun bY h=>
 ae (pu (fU [(.slice none 0 0),(.bool false),(.bool false),(.int .i64 0),(.int .i64 0),(.int .i64 0)] [(0,1,bY)]) h) fun bX h=>
 ae (box bX h) fun bR h=>
 ae (some (bR,h)) fun y2_1 h=>
 ae (some ((.int .i64 0),h)) fun y3_1 h=>
 some (.tuple #[y2_1,y3_1],h)
 |_=>none)
theorem t18_eq (C:al) (x0:Value) (h:ah):bw Try.prog C Try.f18 [x0] h=t18 C x0 h:=
 (aK Try.prog C Try.f18 [x0] h (by kernel_rfl)).trans (by kernel_rfl)
noncomputable def t19 (C:al) (x0 x1 x2:Value) (h:ah):Out:=
 ae (some ((.int .i64 0),h)) fun _y6 h=>
 ae (some (x0,h)) fun y8 h=>
 ae (some (x1,h)) fun y9 h=>
 ae (C 53 [y8,y9] h) fun bM h=>
 ae (some (bM,h)) fun y7 h=>
 ae (some (y7,h)) fun bY h=>
 ae (pu (bin Try.prog .neq 28 bY (.int .i64 0)) h) fun bX h=>
 (match bX with
 | .bool true=>
 ae (some (y7,h)) fun bR h=>
 ae (some (bR,h)) fun y6_1 h=>
 some (y6_1,h)
 | .bool false=>
 ae (some (x2,h)) fun bQ h=>
 ae (pu (cH bQ) h) fun y15 h=>
 ae (pu (bin Try.prog .neq 3 y15 (.int .i64 128)) h) fun y16 h=>
 (match y16 with
 | .bool true=>
 ae (some ((.int .i64 10),h)) fun y6_1 h=>
 some (y6_1,h)
 | .bool false=>
 ae (some (x0,h)) fun y17 h=>
 ae (pu (aB y17) h) fun cG h=>
 ae (pu (aL cG 2) h) fun cK h=>
 ae (ba cK h) fun y20 h=>
 ae (pu (unA .not y20) h) fun y21 h=>
 (match y21 with
 | .bool true=>
 ae (some (x0,h)) fun y22 h=>
 ae (pu (aB y22) h) fun de h=>
 ae (pu (aL de 0) h) fun y24 h=>
 ae (ba y24 h) fun y25 h=>
 ae (some (x1,h)) fun y26 h=>
 ae (pu (cd 128 y25 y26) h) fun y27 h=>
 ae (pu (eh 128 1 y27 none none none) h) fun y28 h=>
 ae (some (x2,h)) fun y29 h=>
 ae (copyA 1 y28 y29 h) fun _y30 h=>
 ae (some ((.int .i64 0),h)) fun y6_1 h=>
 some (y6_1,h)
 | .bool false=>
 ae (some (x0,h)) fun y31 h=>
 ae (pu (aB y31) h) fun y32 h=>
 ae (pu (aL y32 3) h) fun y33 h=>
 ae (ba y33 h) fun y34 h=>
 ae (pu (bin Try.prog .eql 3 y34 (.int .i64 0)) h) fun y35 h=>
 (match y35 with
 | .bool true=>
 ae (some (x0,h)) fun y36 h=>
 ae (pu (aB y36) h) fun y37 h=>
 ae (pu (aL y37 0) h) fun y38 h=>
 ae (ba y38 h) fun y39 h=>
 ae (some (x1,h)) fun y40 h=>
 ae (pu (cd 128 y39 y40) h) fun y41 h=>
 ae (pu (eh 128 1 y41 none none none) h) fun y42 h=>
 ae (some (x2,h)) fun y43 h=>
 ae (some (x0,h)) fun y44 h=>
 ae (pu (aB y44) h) fun y45 h=>
 ae (pu (aL y45 4) h) fun y46 h=>
 ae (ba y46 h) fun y47 h=>
 ae (pu (slR 1 y43 none (some y47) none) h) fun y48 h=>
 ae (copyA 1 y42 y48 h) fun _y49 h=>
 ae (some (x0,h)) fun y50 h=>
 ae (C 32 [y50] h) fun _y51 h=>
 ae (some ((.int .i64 9),h)) fun y6_1 h=>
 some (y6_1,h)
 | .bool false=>
 ae (some (x0,h)) fun y52 h=>
 ae (pu (aB y52) h) fun y53 h=>
 ae (pu (aL y53 3) h) fun y54 h=>
 ae (ba y54 h) fun y55 h=>
 ae (pu (bin Try.prog .sub 3 y55 (.int .i64 1)) h) fun y56 h=>
 ae (pu (aB y52) h) fun y57 h=>
 ae (pu (aL y57 3) h) fun y58 h=>
 ae (cf 1 y58 y56 h) fun _ h=>
 ae (some (x0,h)) fun y59 h=>
 ae (pu (aB y59) h) fun y60 h=>
 ae (pu (aL y60 0) h) fun y61 h=>
 ae (ba y61 h) fun y62 h=>
 ae (some (x1,h)) fun y63 h=>
 ae (pu (cd 128 y62 y63) h) fun y64 h=>
 ae (pu (eh 128 1 y64 none none none) h) fun y65 h=>
 ae (some (x2,h)) fun y66 h=>
 ae (copyA 1 y65 y66 h) fun _y67 h=>
 ae (some ((.int .i64 0),h)) fun y6_1 h=>
 some (y6_1,h)
 |_=>none)
 |_=>none)
 |_=>none)
 |_=>none)
theorem t19_eq (C:al) (x0 x1 x2:Value) (h:ah):bw Try.prog C Try.f19 [x0,x1,x2] h=t19 C x0 x1 x2 h:=
 (aK Try.prog C Try.f19 [x0,x1,x2] h (by kernel_rfl)).trans (by kernel_rfl)
noncomputable def t20 (C:al) (x0 x1:Value) (h:ah):Out:=
 ae (some ((.slice none 0 0),h)) fun _y4 h=>
 ae (some ((.int .i64 0),h)) fun _y5 h=>
 ae (some (x0,h)) fun y8 h=>
 ae (some (x1,h)) fun y9 h=>
 ae (C 53 [y8,y9] h) fun bM h=>
 ae (some (bM,h)) fun y6 h=>
 ae (some (y6,h)) fun bY h=>
 ae (pu (bin Try.prog .neq 28 bY (.int .i64 0)) h) fun bX h=>
 (match bX with
 | .bool true=>
 ae (some (y6,h)) fun bR h=>
 ae (some ((.slice none 0 0),h)) fun y4_1 h=>
 ae (some (bR,h)) fun y5_1 h=>
 some (.tuple #[y4_1,y5_1],h)
 | .bool false=>
 ae (some (x0,h)) fun bQ h=>
 ae (pu (aB bQ) h) fun y15 h=>
 ae (pu (aL y15 0) h) fun y16 h=>
 ae (ba y16 h) fun y17 h=>
 ae (some (x1,h)) fun cG h=>
 ae (pu (cd 128 y17 cG) h) fun cK h=>
 ae (ch 128 cK h) fun y20 h=>
 ae (dB (List.replicate 128 (.int .u8 0)) h) fun y7 h=>
 ae (cf 128 y7 y20 h) fun _ h=>
 ae (pu (eh 128 1 y7 none none none) h) fun y21 h=>
 ae (some (y21,h)) fun y4_1 h=>
 ae (some ((.int .i64 0),h)) fun y5_1 h=>
 some (.tuple #[y4_1,y5_1],h)
 |_=>none)
theorem t20_eq (C:al) (x0 x1:Value) (h:ah):bw Try.prog C Try.f20 [x0,x1] h=t20 C x0 x1 h:=
 (aK Try.prog C Try.f20 [x0,x1] h (by kernel_rfl)).trans (by kernel_rfl)
noncomputable def t22 (C:al) (x0:Value) (h:ah):Out:=
 ae (some ((.int .i64 0),h)) fun _y2 h=>
 ae (some (x0,h)) fun y3 h=>
 ae (C 58 [y3] h) fun y4 h=>
 ae (pu (bin Try.prog .neq 28 y4 (.int .i64 0)) h) fun y5 h=>
 (match y5 with
 | .bool true=>
 ae (some ((.int .i64 0),h)) fun y2_1 h=>
 some (y2_1,h)
 | .bool false=>
 ae (some (x0,h)) fun y6 h=>
 ae (pu (aB y6) h) fun y7 h=>
 ae (pu (aL y7 0) h) fun y8 h=>
 ae (ba y8 h) fun y9 h=>
 ae (C 55 [y9] h) fun bM h=>
 ae (some (bM,h)) fun y2_1 h=>
 some (y2_1,h)
 |_=>none)
theorem t22_eq (C:al) (x0:Value) (h:ah):bw Try.prog C Try.f22 [x0] h=t22 C x0 h:=
 (aK Try.prog C Try.f22 [x0] h (by kernel_rfl)).trans (by kernel_rfl)
noncomputable def k25_5 (C:al) (e:Env) (h:ah):Out:=cB Try.prog C (partOf Try.f25 [1,1,1,1]) e h (au Try.prog Try.f25.results.toList) (au Try.prog Try.f25.results.toList) (fun _ _ _=>none)
noncomputable def b25_7 (C:al) (i:Nat) (e:Env) (h:ah):Out:=if i=0 then (k25_5 C) e h else (fun _ _ _=>none) i e h
noncomputable def t25 (C:al) (x0:Value) (h:ah):Out:=
 ae (some ((.slice none 0 0),h)) fun y2 h=>
 ae (some (x0,h)) fun y5 h=>
 ae (pu (bin Try.prog .eql 27 y5 (.pointer none)) h) fun y6 h=>
 (match y6 with
 | .bool true=>
 ae (some ((.slice none 0 0),h)) fun y2_1 h=>
 some (y2_1,h)
 | .bool false=>
 ae (some (x0,h)) fun y7 h=>
 ae (pu (aB y7) h) fun y8 h=>
 ae (pu (aL y8 0) h) fun y9 h=>
 ae (ba y9 h) fun bM h=>
 ae (pu (cH bM) h) fun bY h=>
 ae (pu (bin Try.prog .mul 3 bY (.int .i64 128)) h) fun bX h=>
 ae (mkR 1 1 (.int .u8 0) (.int .i64 0) bX h) fun bR h=>
 ae (some (bR,h)) fun y3 h=>
 ae (some (x0,h)) fun bQ h=>
 ae (pu (aB bQ) h) fun y15 h=>
 ae (pu (aL y15 0) h) fun y16 h=>
 ae (ba y16 h) fun y17 h=>
 ae (pu (cH y17) h) fun cG h=>
 ae (some ((.int .i64 0),h)) fun cK h=>
 dD (iter (aI Try.prog C (partOf Try.f25 [1,1,1,0,1,0,0])) rounds (aY 33 (up (bs [x0]) [(2,y2),(3,y3),(5,y5),(6,y6),(7,y7),(8,y8),(9,y9),(10,bM),(11,bY),(12,bX),(13,bR),(14,bQ),(15,y15),(16,y16),(17,y17),(18,cG),(19,cK)])) h) (au Try.prog Try.f25.results.toList) (b25_7 C)
 |_=>none)
noncomputable def t25k25_5 (_C:al) (x:Nat→Value) (h:ah):Out:=
 ae (some ((x 3),h)) fun y32 h=>
 ae (some (y32,h)) fun y2 h=>
 some (y2,h)
noncomputable def t25l25_111010 (_C:al) (x:Nat→Value) (h:ah):Option (Ex×Env×ah):=
 ae (pu (bin Try.prog .lss 3 (x 19) (x 18)) h) fun y20 h=>
 (match y20 with
 | .bool true=>
 ae (some ((x 19),h)) fun y21 h=>
 ae (some (y21,h)) fun y4 h=>
 ae (some ((x 3),h)) fun y22 h=>
 ae (some ((x 0),h)) fun de h=>
 ae (pu (aB de) h) fun y24 h=>
 ae (pu (aL y24 0) h) fun y25 h=>
 ae (ba y25 h) fun y26 h=>
 ae (some (y4,h)) fun y27 h=>
 ae (pu (cd 128 y26 y27) h) fun y28 h=>
 ae (pu (eh 128 1 y28 none none none) h) fun y29 h=>
 ae (bo 1 1 y22 y29 h) fun y30 h=>
 ae (some (y30,h)) fun y3 h=>
 ae (pu (bin Try.prog .add 3 (x 19) (.int .i64 1)) h) fun y31 h=>
 ae (some (y31,h)) fun cK h=>
 some (.normal,(aY 33 (up x [(3,y3),(4,y4),(19,cK),(20,y20),(21,y21),(22,y22),(23,de),(24,y24),(25,y25),(26,y26),(27,y27),(28,y28),(29,y29),(30,y30),(31,y31)])),h)
 | .bool false=>
 some (.exit 0,(aY 33 (up x [(20,y20)])),h)
 |_=>none)
theorem t25_eq (C:al) (x0:Value) (h:ah):bw Try.prog C Try.f25 [x0] h=t25 C x0 h:=
 (aK Try.prog C Try.f25 [x0] h (by kernel_rfl)).trans (by kernel_rfl)
theorem t25k25_5_eq (C:al) (x:Nat→Value) (h:ah):k25_5 C (aY 33 x) h=t25k25_5 C x h:=
 bt (b:=(partOf Try.f25 [1,1,1,1])) (kE:=(au Try.prog Try.f25.results.toList)) (rE:=(au Try.prog Try.f25.results.toList)) (xE:=(fun _ _ _=>none)) (T:=t25k25_5 C) (fun x h=>by kernel_rfl) x h
theorem t25l25_111010_eq (C:al) (x:Nat→Value) (h:ah):aI Try.prog C (partOf Try.f25 [1,1,1,0,1,0,0]) (aY 33 x) h=t25l25_111010 C x h:=
 bj (T:=t25l25_111010 C) (fun x h=>by kernel_rfl) x h
noncomputable def t26 (C:al) (x0:Value) (h:ah):Out:=
 ae (some ((.int .i64 0),h)) fun _y2 h=>
 ae (some (x0,h)) fun y3 h=>
 ae (C 58 [y3] h) fun y4 h=>
 ae (pu (bin Try.prog .neq 28 y4 (.int .i64 0)) h) fun y5 h=>
 ae (some (y5,h)) fun y6 h=>
 ae (ao (aZ y6==some false) (some (x0,h)) h) fun y7 h=>
 ae (ao (aZ y6==some false) (pu (aB y7) h) h) fun y8 h=>
 ae (ao (aZ y6==some false) (pu (aL y8 6) h) h) fun y9 h=>
 ae (ao (aZ y6==some false) (ba y9 h) h) fun bM h=>
 ae (ao (aZ y6==some false) (pu (unA .not bM) h) h) fun bY h=>
 ae (match y6 with | .bool t=>some (if t then (.bool true) else bY,h)|_=>none) fun bX h=>
 (match bX with
 | .bool true=>
 ae (some ((.int .i64 0),h)) fun y2_1 h=>
 some (y2_1,h)
 | .bool false=>
 let g5_0:=h
 ae (some (x0,g5_0)) fun bR g5_1=>
 ae (pu (aB bR) g5_1) fun bQ g5_2=>
 ae (pu (aL bQ 0) g5_2) fun y15 g5_3=>
 ae (ba y15 g5_3) fun y16 g5_4=>
 ae (C 55 [y16] g5_4) fun y17 g5_5=>
 ae (some (x0,g5_5)) fun cG g5_6=>
 ae (pu (aB cG) g5_6) fun cK g5_7=>
 ae (pu (aL cK 7) g5_7) fun y20 g5_8=>
 ae (ba y20 g5_8) fun y21 g5_9=>
 ae (pu (bin Try.prog .sub 3 y17 y21) g5_9) fun y22 g5_10=>
 ae (some (y22,g5_10)) fun y2_1 g5_11=>
 (match (cE true (ba y20 g5_4) y21&&true) with
 |true=>
 let h:=g5_11
 some (y2_1,h)
 |false=>none)
 |_=>none)
theorem t26_eq (C:al) (x0:Value) (h:ah):bw Try.prog C Try.f26 [x0] h=t26 C x0 h:=
 (aK Try.prog C Try.f26 [x0] h (by kernel_rfl)).trans (by kernel_rfl)
noncomputable def t32 (_C:al) (x0:Value) (h:ah):Out:=
 ae (some (x0,h)) fun y2 h=>
 ae (pu (bin Try.prog .eql 27 y2 (.pointer none)) h) fun y3 h=>
 ae (some (y3,h)) fun y4 h=>
 ae (ao (aZ y4==some false) (some (x0,h)) h) fun y5 h=>
 ae (ao (aZ y4==some false) (pu (aB y5) h) h) fun y6 h=>
 ae (ao (aZ y4==some false) (pu (aL y6 1) h) h) fun y7 h=>
 ae (ao (aZ y4==some false) (ba y7 h) h) fun y8 h=>
 ae (match y4 with | .bool t=>some (if t then (.bool true) else y8,h)|_=>none) fun y9 h=>
 (match y9 with
 | .bool true=>
 some (.tuple #[],h)
 | .bool false=>
 ae (some (x0,h)) fun bM h=>
 ae (some (x0,h)) fun bY h=>
 ae (pu (aB bM) h) fun bX h=>
 ae (pu (aL bX 1) h) fun bR h=>
 ae (cf 1 bR (.bool true) h) fun _ h=>
 ae (pu (aB bY) h) fun bQ h=>
 ae (pu (aL bQ 2) h) fun y15 h=>
 ae (cf 1 y15 (.bool false) h) fun _ h=>
 ae (some (x0,h)) fun y16 h=>
 ae (pu (aB y16) h) fun y17 h=>
 ae (pu (aL y17 5) h) fun cG h=>
 ae (ba cG h) fun cK h=>
 ae (pu (bin Try.prog .add 3 cK (.int .i64 1)) h) fun y20 h=>
 ae (pu (aB y16) h) fun y21 h=>
 ae (pu (aL y21 5) h) fun y22 h=>
 ae (cf 1 y22 y20 h) fun _ h=>
 some (.tuple #[],h)
 |_=>none)
theorem t32_eq (C:al) (x0:Value) (h:ah):bw Try.prog C Try.f32 [x0] h=t32 C x0 h:=
 (aK Try.prog C Try.f32 [x0] h (by kernel_rfl)).trans (by kernel_rfl)
noncomputable def t33 (_C:al) (x0:Value) (h:ah):Out:=
 ae (some (x0,h)) fun y2 h=>
 ae (pu (bin Try.prog .neq 27 y2 (.pointer none)) h) fun y3 h=>
 (match y3 with
 | .bool true=>
 ae (some (x0,h)) fun y4 h=>
 ae (some (x0,h)) fun y5 h=>
 ae (pu (aB y4) h) fun y6 h=>
 ae (pu (aL y6 1) h) fun y7 h=>
 ae (cf 1 y7 (.bool false) h) fun _ h=>
 ae (pu (aB y5) h) fun y8 h=>
 ae (pu (aL y8 2) h) fun y9 h=>
 ae (cf 1 y9 (.bool false) h) fun _ h=>
 some (.tuple #[],h)
 | .bool false=>
 some (.tuple #[],h)
 |_=>none)
theorem t33_eq (C:al) (x0:Value) (h:ah):bw Try.prog C Try.f33 [x0] h=t33 C x0 h:=
 (aK Try.prog C Try.f33 [x0] h (by kernel_rfl)).trans (by kernel_rfl)
noncomputable def t36 (_C:al) (x0:Value) (h:ah):Out:=
 ae (some ((.bool false),h)) fun _y2 h=>
 ae (some (x0,h)) fun y3 h=>
 ae (pu (bin Try.prog .neq 27 y3 (.pointer none)) h) fun y4 h=>
 ae (some (y4,h)) fun y5 h=>
 ae (ao (aZ y5==some true) (some (x0,h)) h) fun y6 h=>
 ae (ao (aZ y5==some true) (pu (aB y6) h) h) fun y7 h=>
 ae (ao (aZ y5==some true) (pu (aL y7 1) h) h) fun y8 h=>
 ae (ao (aZ y5==some true) (ba y8 h) h) fun y9 h=>
 ae (match y5 with | .bool t=>some (if t then y9 else (.bool false),h)|_=>none) fun bM h=>
 ae (some (bM,h)) fun y2_1 h=>
 some (y2_1,h)
theorem t36_eq (C:al) (x0:Value) (h:ah):bw Try.prog C Try.f36 [x0] h=t36 C x0 h:=
 (aK Try.prog C Try.f36 [x0] h (by kernel_rfl)).trans (by kernel_rfl)
noncomputable def t48 (_C:al) (x0 x1 x2:Value) (h:ah):Out:=
 ae (some ((.int .i64 0),h)) fun _y6 h=>
 ae (some (x0,h)) fun y8 h=>
 ae (pu (bin Try.prog .eql 27 y8 (.pointer none)) h) fun y9 h=>
 ae (some (y9,h)) fun y7 h=>
 (match y7 with
 | .bool true=>
 ae (some ((.int .i64 1),h)) fun y6_1 h=>
 some (y6_1,h)
 | .bool false=>
 ae (some (x0,h)) fun bY h=>
 ae (pu (aB bY) h) fun bX h=>
 ae (pu (aL bX 1) h) fun bR h=>
 ae (ba bR h) fun bQ h=>
 ae (some (bQ,h)) fun bM h=>
 (match bM with
 | .bool true=>
 ae (some ((.int .i64 9),h)) fun y6_1 h=>
 some (y6_1,h)
 | .bool false=>
 ae (some (x1,h)) fun y16 h=>
 ae (pu (bin Try.prog .lss 3 y16 (.int .i64 0)) h) fun y17 h=>
 ae (some (y17,h)) fun cG h=>
 ae (ao (aZ cG==some false) (some (x2,h)) h) fun cK h=>
 ae (ao (aZ cG==some false) (pu (bin Try.prog .lss 3 cK (.int .i64 0)) h) h) fun y20 h=>
 ae (match cG with | .bool t=>some (if t then (.bool true) else y20,h)|_=>none) fun y21 h=>
 ae (some (y21,h)) fun y22 h=>
 ae (ao (aZ y22==some false) (some (x2,h)) h) fun de h=>
 ae (ao (aZ y22==some false) (pu (bin Try.prog .gtr 3 de (.int .i64 128)) h) h) fun y24 h=>
 ae (match y22 with | .bool t=>some (if t then (.bool true) else y24,h)|_=>none) fun y25 h=>
 ae (some (y25,h)) fun y15 h=>
 (match y15 with
 | .bool true=>
 ae (some ((.int .i64 2),h)) fun y6_1 h=>
 some (y6_1,h)
 | .bool false=>
 ae (some (x0,h)) fun y26 h=>
 ae (some (x0,h)) fun y27 h=>
 ae (some (x0,h)) fun y28 h=>
 ae (some (x1,h)) fun y29 h=>
 ae (some (x2,h)) fun y30 h=>
 ae (pu (aB y26) h) fun y31 h=>
 ae (pu (aL y31 2) h) fun y32 h=>
 ae (cf 1 y32 (.bool true) h) fun _ h=>
 ae (pu (aB y27) h) fun y33 h=>
 ae (pu (aL y33 3) h) fun y34 h=>
 ae (cf 1 y34 y29 h) fun _ h=>
 ae (pu (aB y28) h) fun y35 h=>
 ae (pu (aL y35 4) h) fun y36 h=>
 ae (cf 1 y36 y30 h) fun _ h=>
 ae (some ((.int .i64 0),h)) fun y6_1 h=>
 some (y6_1,h)
 |_=>none)
 |_=>none)
 |_=>none)
theorem t48_eq (C:al) (x0 x1 x2:Value) (h:ah):bw Try.prog C Try.f48 [x0,x1,x2] h=t48 C x0 x1 x2 h:=
 (aK Try.prog C Try.f48 [x0,x1,x2] h (by kernel_rfl)).trans (by kernel_rfl)
noncomputable def t50 (_C:al) (x0:Value) (h:ah):Out:=
 ae (some ((.int .i64 0),h)) fun _y2 h=>
 ae (some (x0,h)) fun y3 h=>
 ae (pu (bin Try.prog .eql 27 y3 (.pointer none)) h) fun y4 h=>
 (match y4 with
 | .bool true=>
 ae (some ((.int .i64 0),h)) fun y2_1 h=>
 some (y2_1,h)
 | .bool false=>
 ae (some (x0,h)) fun y5 h=>
 ae (pu (aB y5) h) fun y6 h=>
 ae (pu (aL y6 0) h) fun y7 h=>
 ae (ba y7 h) fun y8 h=>
 ae (pu (cH y8) h) fun y9 h=>
 ae (some (y9,h)) fun y2_1 h=>
 some (y2_1,h)
 |_=>none)
theorem t50_eq (C:al) (x0:Value) (h:ah):bw Try.prog C Try.f50 [x0] h=t50 C x0 h:=
 (aK Try.prog C Try.f50 [x0] h (by kernel_rfl)).trans (by kernel_rfl)
noncomputable def t53 (_C:al) (x0 x1:Value) (h:ah):Out:=
 ae (some ((.int .i64 0),h)) fun _y4 h=>
 ae (some (x0,h)) fun y6 h=>
 ae (pu (bin Try.prog .eql 27 y6 (.pointer none)) h) fun y7 h=>
 ae (some (y7,h)) fun y5 h=>
 (match y5 with
 | .bool true=>
 ae (some ((.int .i64 1),h)) fun y4_1 h=>
 some (y4_1,h)
 | .bool false=>
 ae (some (x0,h)) fun y9 h=>
 ae (pu (aB y9) h) fun bM h=>
 ae (pu (aL bM 1) h) fun bY h=>
 ae (ba bY h) fun bX h=>
 ae (some (bX,h)) fun y8 h=>
 (match y8 with
 | .bool true=>
 ae (some ((.int .i64 9),h)) fun y4_1 h=>
 some (y4_1,h)
 | .bool false=>
 ae (some (x1,h)) fun bQ h=>
 ae (pu (bin Try.prog .lss 3 bQ (.int .i64 0)) h) fun y15 h=>
 ae (some (y15,h)) fun y16 h=>
 ae (ao (aZ y16==some false) (some (x1,h)) h) fun y17 h=>
 ae (ao (aZ y16==some false) (some (x0,h)) h) fun cG h=>
 ae (ao (aZ y16==some false) (pu (aB cG) h) h) fun cK h=>
 ae (ao (aZ y16==some false) (pu (aL cK 0) h) h) fun y20 h=>
 ae (ao (aZ y16==some false) (ba y20 h) h) fun y21 h=>
 ae (ao (aZ y16==some false) (pu (cH y21) h) h) fun y22 h=>
 ae (ao (aZ y16==some false) (pu (bin Try.prog .geq 3 y17 y22) h) h) fun de h=>
 ae (match y16 with | .bool t=>some (if t then (.bool true) else de,h)|_=>none) fun y24 h=>
 ae (some (y24,h)) fun bR h=>
 (match bR with
 | .bool true=>
 ae (some ((.int .i64 2),h)) fun y4_1 h=>
 some (y4_1,h)
 | .bool false=>
 ae (some ((.int .i64 0),h)) fun y4_1 h=>
 some (y4_1,h)
 |_=>none)
 |_=>none)
 |_=>none)
theorem t53_eq (C:al) (x0 x1:Value) (h:ah):bw Try.prog C Try.f53 [x0,x1] h=t53 C x0 x1 h:=
 (aK Try.prog C Try.f53 [x0,x1] h (by kernel_rfl)).trans (by kernel_rfl)
noncomputable def t54 (C:al) (x0 x1:Value) (h:ah):Out:=
 ae (some ((.int .u64 0),h)) fun _y4 h=>
 ae (some ((.int .i64 0),h)) fun _y5 h=>
 ae (some ((.bool false),h)) fun _y6 h=>
 ae (some (x0,h)) fun bY h=>
 ae (some (x1,h)) fun bX h=>
 ae (C 84 [bY,bX] h) fun bR h=>
 ae (some (bR,h)) fun bM h=>
 ae (pu (aD bM 0) h) fun bQ h=>
 ae (pu (aD bM 1) h) fun y15 h=>
 ae (some (bQ,h)) fun y7 h=>
 ae (some (y15,h)) fun y8 h=>
 ae (some (y7,h)) fun y16 h=>
 ae (C 85 [y16] h) fun y17 h=>
 ae (some (y17,h)) fun y9 h=>
 ae (some (y7,h)) fun cG h=>
 ae (C 86 [cG] h) fun cK h=>
 ae (some (y7,h)) fun y20 h=>
 ae (C 87 [y20] h) fun y21 h=>
 ae (cvI .i64 y21 h) fun y22 h=>
 ae (some (cK,h)) fun y4_1 h=>
 ae (some (y22,h)) fun y5_1 h=>
 ae (some (y4_1,h)) fun de h=>
 ae (some (y5_1,h)) fun y24 h=>
 ae (some (y8,h)) fun y25 h=>
 ae (some (y25,h)) fun y26 h=>
 ae (ao (aZ y26==some true) (some (y9,h)) h) fun y27 h=>
 ae (ao (aZ y26==some true) (pu (bin Try.prog .eql 113 y27 (.int .u32 1398034252)) h) h) fun y28 h=>
 ae (match y26 with | .bool t=>some (if t then y28 else (.bool false),h)|_=>none) fun y29 h=>
 ae (some (y29,h)) fun y30 h=>
 ae (ao (aZ y30==some true) (some (y5_1,h)) h) fun y31 h=>
 ae (ao (aZ y30==some true) (pu (bin Try.prog .leq 3 y31 (.int .i64 1)) h) h) fun y32 h=>
 ae (match y30 with | .bool t=>some (if t then y32 else (.bool false),h)|_=>none) fun y33 h=>
 ae (some (de,h)) fun y4_2 h=>
 ae (some (y24,h)) fun y5_2 h=>
 ae (some (y33,h)) fun y6_1 h=>
 some (.tuple #[y4_2,y5_2,y6_1],h)
theorem t54_eq (C:al) (x0 x1:Value) (h:ah):bw Try.prog C Try.f54 [x0,x1] h=t54 C x0 x1 h:=
 (aK Try.prog C Try.f54 [x0,x1] h (by kernel_rfl)).trans (by kernel_rfl)
noncomputable def t55 (_C:al) (x0:Value) (h:ah):Out:=
 ae (some ((.int .i64 0),h)) fun _y2 h=>
 ae (some (x0,h)) fun y3 h=>
 ae (pu (aB y3) h) fun y4 h=>
 ae (pu (aL y4 0) h) fun y5 h=>
 ae (ba y5 h) fun y6 h=>
 ae (pu (cH y6) h) fun y7 h=>
 ae (pu (bin Try.prog .sub 3 y7 (.int .i64 2)) h) fun y8 h=>
 ae (pu (bin Try.prog .quo 3 y8 (.int .i64 2)) h) fun y9 h=>
 ae (some (y9,h)) fun y2_1 h=>
 some (y2_1,h)
theorem t55_eq (C:al) (x0:Value) (h:ah):bw Try.prog C Try.f55 [x0] h=t55 C x0 h:=
 (aK Try.prog C Try.f55 [x0] h (by kernel_rfl)).trans (by kernel_rfl)
noncomputable def t56 (C:al) (x0 x1 x2:Value) (h:ah):Out:=
 ae (dB [(.int .u64 0),(.int .i64 0),(.int .i64 0),(.slice none 0 0)] h) fun y6 h=>
 ae (some ((.bool false),h)) fun _y7 h=>
 ae (some (x0,h)) fun bQ h=>
 ae (some (x1,h)) fun y15 h=>
 ae (some (x0,h)) fun y16 h=>
 ae (C 55 [y16] h) fun y17 h=>
 ae (pu (bin Try.prog .mul 3 y15 y17) h) fun cG h=>
 ae (pu (bin Try.prog .add 3 (.int .i64 2) cG) h) fun cK h=>
 ae (some (x2,h)) fun y20 h=>
 ae (pu (bin Try.prog .add 3 cK y20) h) fun y21 h=>
 ae (C 84 [bQ,y21] h) fun y22 h=>
 ae (some (y22,h)) fun bR h=>
 ae (pu (aD bR 0) h) fun de h=>
 ae (pu (aD bR 1) h) fun y24 h=>
 ae (some (de,h)) fun y8 h=>
 ae (some (y24,h)) fun y9 h=>
 ae (some (y8,h)) fun y25 h=>
 ae (C 86 [y25] h) fun y26 h=>
 ae (pu (fU [(.int .u64 0),(.int .i64 0),(.int .i64 0),(.slice none 0 0)] [(0,1,y26)]) h) fun y27 h=>
 ae (dB [(.int .u64 0),(.int .i64 0),(.int .i64 0),(.slice none 0 0)] h) fun bM h=>
 ae (cf 4 bM y27 h) fun _ h=>
 ae (some (y8,h)) fun y28 h=>
 ae (C 85 [y28] h) fun y29 h=>
 ae (cvI .i64 y29 h) fun y30 h=>
 ae (some (y30,h)) fun bY h=>
 ae (some (y8,h)) fun y31 h=>
 ae (C 88 [y31] h) fun y32 h=>
 ae (cvI .i64 y32 h) fun y33 h=>
 ae (some (y8,h)) fun y34 h=>
 ae (C 88 [y34] h) fun y35 h=>
 ae (cvI .i64 y35 h) fun y36 h=>
 ae (pu (aL bM 1) h) fun y37 h=>
 ae (cf 1 y37 y33 h) fun _ h=>
 ae (pu (aL bM 2) h) fun y38 h=>
 ae (cf 1 y38 y36 h) fun _ h=>
 ae (some (y8,h)) fun y39 h=>
 ae (some (y8,h)) fun y40 h=>
 ae (C 88 [y40] h) fun y41 h=>
 ae (cvI .i64 y41 h) fun y42 h=>
 ae (C 89 [y39,y42] h) fun y43 h=>
 ae (pu (aL bM 3) h) fun y44 h=>
 ae (cf 1 y44 y43 h) fun _ h=>
 ae (some (y9,h)) fun y45 h=>
 ae (some (y45,h)) fun y46 h=>
 ae (ao (aZ y46==some true) (some (bY,h)) h) fun y47 h=>
 ae (ao (aZ y46==some true) (some (x2,h)) h) fun y48 h=>
 ae (ao (aZ y46==some true) (pu (bin Try.prog .eql 3 y47 y48) h) h) fun y49 h=>
 ae (match y46 with | .bool t=>some (if t then y49 else (.bool false),h)|_=>none) fun y50 h=>
 ae (some (y50,h)) fun y51 h=>
 ae (ao (aZ y51==some true) (pu (aL bM 2) h) h) fun y52 h=>
 ae (ao (aZ y51==some true) (ba y52 h) h) fun y53 h=>
 ae (ao (aZ y51==some true) (pu (bin Try.prog .geq 3 y53 (.int .i64 1)) h) h) fun y54 h=>
 ae (match y51 with | .bool t=>some (if t then y54 else (.bool false),h)|_=>none) fun y55 h=>
 ae (some (y55,h)) fun y56 h=>
 ae (ao (aZ y56==some true) (pu (aL bM 1) h) h) fun y57 h=>
 ae (ao (aZ y56==some true) (ba y57 h) h) fun y58 h=>
 ae (ao (aZ y56==some true) (pu (aL bM 2) h) h) fun y59 h=>
 ae (ao (aZ y56==some true) (ba y59 h) h) fun y60 h=>
 ae (ao (aZ y56==some true) (pu (bin Try.prog .lss 3 y58 y60) h) h) fun y61 h=>
 ae (match y56 with | .bool t=>some (if t then y61 else (.bool false),h)|_=>none) fun y62 h=>
 ae (some (y62,h)) fun y63 h=>
 ae (ao (aZ y63==some true) (some (y8,h)) h) fun y64 h=>
 ae (ao (aZ y63==some true) (C 90 [y64] h) h) fun y65 h=>
 ae (ao (aZ y63==some true) (pu (bin Try.prog .eql 28 y65 (.int .i64 0)) h) h) fun y66 h=>
 ae (match y63 with | .bool t=>some (if t then y66 else (.bool false),h)|_=>none) fun y67 h=>
 ae (some (y67,h)) fun bX h=>
 ae (ch 4 bM h) fun y68 h=>
 ae (some (bX,h)) fun y69 h=>
 ae (cf 4 y6 y68 h) fun _ h=>
 ae (some (y69,h)) fun y7_1 h=>
 au Try.prog Try.f56.results.toList (aY 70 (up (bs [x0,x1,x2]) [(6,y6),(7,y7_1),(8,y8),(9,y9),(10,bM),(11,bY),(12,bX),(13,bR),(14,bQ),(15,y15),(16,y16),(17,y17),(18,cG),(19,cK),(20,y20),(21,y21),(22,y22),(23,de),(24,y24),(25,y25),(26,y26),(27,y27),(28,y28),(29,y29),(30,y30),(31,y31),(32,y32),(33,y33),(34,y34),(35,y35),(36,y36),(37,y37),(38,y38),(39,y39),(40,y40),(41,y41),(42,y42),(43,y43),(44,y44),(45,y45),(46,y46),(47,y47),(48,y48),(49,y49),(50,y50),(51,y51),(52,y52),(53,y53),(54,y54),(55,y55),(56,y56),(57,y57),(58,y58),(59,y59),(60,y60),(61,y61),(62,y62),(63,y63),(64,y64),(65,y65),(66,y66),(67,y67),(68,y68),(69,y69)])) h
theorem t56_eq (C:al) (x0 x1 x2:Value) (h:ah):bw Try.prog C Try.f56 [x0,x1,x2] h=t56 C x0 x1 x2 h:=
 (aK Try.prog C Try.f56 [x0,x1,x2] h (by kernel_rfl)).trans (by kernel_rfl)
noncomputable def k57_7 (C:al) (e:Env) (h:ah):Out:=cB Try.prog C (partOf Try.f57 [1,1,1,1,1,1]) e h (au Try.prog Try.f57.results.toList) (au Try.prog Try.f57.results.toList) (fun _ _ _=>none)
noncomputable def b57_9 (C:al) (i:Nat) (e:Env) (h:ah):Out:=if i=0 then (k57_7 C) e h else (fun _ _ _=>none) i e h
noncomputable def t57 (C:al) (x0 x1:Value) (h:ah):Out:=
 ae (some ((.slice none 0 0),h)) fun y4 h=>
 ae (some ((.int .i64 0),h)) fun y5 h=>
 ae (some (x0,h)) fun bX h=>
 ae (pu (aB bX) h) fun bR h=>
 ae (pu (aL bR 0) h) fun bQ h=>
 ae (ba bQ h) fun y15 h=>
 ae (C 55 [y15] h) fun y16 h=>
 ae (some (y16,h)) fun y6 h=>
 ae (some (x0,h)) fun y17 h=>
 ae (pu (aB y17) h) fun cG h=>
 ae (pu (aL cG 2) h) fun cK h=>
 ae (ba cK h) fun y20 h=>
 ae (pu (bin Try.prog .lss 3 y20 (.int .i64 0)) h) fun y21 h=>
 ae (some (y21,h)) fun y22 h=>
 ae (ao (aZ y22==some false) (some (x1,h)) h) fun de h=>
 ae (ao (aZ y22==some false) (pu (bin Try.prog .lss 3 de (.int .i64 0)) h) h) fun y24 h=>
 ae (match y22 with | .bool t=>some (if t then (.bool true) else y24,h)|_=>none) fun y25 h=>
 ae (some (y25,h)) fun y26 h=>
 ae (ao (aZ y26==some false) (some (x1,h)) h) fun y27 h=>
 ae (ao (aZ y26==some false) (some (y6,h)) h) fun y28 h=>
 ae (ao (aZ y26==some false) (pu (bin Try.prog .geq 3 y27 y28) h) h) fun y29 h=>
 ae (match y26 with | .bool t=>some (if t then (.bool true) else y29,h)|_=>none) fun y30 h=>
 (match y30 with
 | .bool true=>
 ae (some ((.slice none 0 0),h)) fun y4_1 h=>
 ae (some ((.int .i64 0),h)) fun y5_1 h=>
 some (.tuple #[y4_1,y5_1],h)
 | .bool false=>
 ae (some ((.slice none 0 0),h)) fun y7 h=>
 ae (some ((.int .i64 1),h)) fun y8 h=>
 ae (some ((.int .i64 0),h)) fun y9 h=>
 dD (iter (aI Try.prog C (partOf Try.f57 [1,1,1,1,1,0,1,0,0])) rounds (aY 89 (up (bs [x0,x1]) [(4,y4),(5,y5),(6,y6),(7,y7),(8,y8),(9,y9),(12,bX),(13,bR),(14,bQ),(15,y15),(16,y16),(17,y17),(18,cG),(19,cK),(20,y20),(21,y21),(22,y22),(23,de),(24,y24),(25,y25),(26,y26),(27,y27),(28,y28),(29,y29),(30,y30)])) h) (au Try.prog Try.f57.results.toList) (b57_9 C)
 |_=>none)
noncomputable def t57k57_7 (_C:al) (x:Nat→Value) (h:ah):Out:=
 ae (some ((x 7),h)) fun y87 h=>
 ae (some ((x 8),h)) fun y88 h=>
 ae (some (y87,h)) fun y4 h=>
 ae (some (y88,h)) fun y5 h=>
 some (.tuple #[y4,y5],h)
noncomputable def hU (C:al) (x:Nat→Value) (h:ah):Option (Ex×Env×ah):=
 ae (some ((x 9),h)) fun y31 h=>
 ae (some ((x 8),h)) fun y32 h=>
 ae (pu (bin Try.prog .lss 3 y31 y32) h) fun y33 h=>
 (match y33 with
 | .bool true=>
 ae (some ((x 1),h)) fun y36 h=>
 ae (some ((x 9),h)) fun y37 h=>
 ae (pu (bin Try.prog .add 3 y36 y37) h) fun y38 h=>
 ae (some ((x 6),h)) fun y39 h=>
 ae (pu (bin Try.prog .geq 3 y38 y39) h) fun y40 h=>
 (match y40 with
 | .bool true=>
 ae (some ((.slice none 0 0),h)) fun y4 h=>
 ae (some ((.int .i64 0),h)) fun y5 h=>
 some (.ret,(aY 89 (up x [(4,y4),(5,y5),(31,y31),(32,y32),(33,y33),(36,y36),(37,y37),(38,y38),(39,y39),(40,y40)])),h)
 | .bool false=>
 ae (some ((x 0),h)) fun y42 h=>
 ae (pu (aB y42) h) fun y43 h=>
 ae (pu (aL y43 0) h) fun y44 h=>
 ae (ba y44 h) fun y45 h=>
 ae (some ((x 0),h)) fun y46 h=>
 ae (pu (aB y46) h) fun y47 h=>
 ae (pu (aL y47 3) h) fun y48 h=>
 ae (ba y48 h) fun y49 h=>
 ae (some ((x 1),h)) fun y50 h=>
 ae (some ((x 9),h)) fun y51 h=>
 ae (pu (bin Try.prog .add 3 y50 y51) h) fun y52 h=>
 ae (C 56 [y45,y49,y52] h) fun y53 h=>
 ae (some (y53,h)) fun y41 h=>
 ae (pu (aD y41 0) h) fun y54 h=>
 ae (pu (aD y41 1) h) fun y55 h=>
 ae (dB [(.int .u64 0),(.int .i64 0),(.int .i64 0),(.slice none 0 0)] h) fun bM h=>
 ae (cf 4 bM y54 h) fun _ h=>
 ae (some (y55,h)) fun bY h=>
 ae (some ((x 9),h)) fun y56 h=>
 ae (pu (bin Try.prog .eql 3 y56 (.int .i64 0)) h) fun y57 h=>
 (match y57 with
 | .bool true=>
 ae (pu (aL bM 2) h) fun y58 h=>
 ae (ba y58 h) fun y59 h=>
 ae (some (y59,h)) fun y8 h=>
 ae (some (bY,h)) fun y60 h=>
 ae (pu (unA .not y60) h) fun y61 h=>
 ae (some (y61,h)) fun y62 h=>
 ae (ao (aZ y62==some false) (pu (aL bM 0) h) h) fun y63 h=>
 ae (ao (aZ y62==some false) (ba y63 h) h) fun y64 h=>
 ae (ao (aZ y62==some false) (some ((x 0),h)) h) fun y65 h=>
 ae (ao (aZ y62==some false) (pu (aB y65) h) h) fun y66 h=>
 ae (ao (aZ y62==some false) (pu (aL y66 4) h) h) fun y67 h=>
 ae (ao (aZ y62==some false) (ba y67 h) h) fun y68 h=>
 ae (ao (aZ y62==some false) (pu (bin Try.prog .neq 58 y64 y68) h) h) fun y69 h=>
 ae (match y62 with | .bool t=>some (if t then (.bool true) else y69,h)|_=>none) fun y70 h=>
 ae (some (y70,h)) fun y71 h=>
 ae (ao (aZ y71==some false) (pu (aL bM 1) h) h) fun y72 h=>
 ae (ao (aZ y71==some false) (ba y72 h) h) fun y73 h=>
 ae (ao (aZ y71==some false) (some ((x 9),h)) h) fun y74 h=>
 ae (ao (aZ y71==some false) (pu (bin Try.prog .neq 3 y73 y74) h) h) fun y75 h=>
 ae (match y71 with | .bool t=>some (if t then (.bool true) else y75,h)|_=>none) fun y76 h=>
 ae (some (y76,h)) fun y77 h=>
 ae (ao (aZ y77==some false) (pu (aL bM 2) h) h) fun y78 h=>
 ae (ao (aZ y77==some false) (ba y78 h) h) fun y79 h=>
 ae (ao (aZ y77==some false) (some (y8,h)) h) fun y80 h=>
 ae (ao (aZ y77==some false) (pu (bin Try.prog .neq 3 y79 y80) h) h) fun y81 h=>
 ae (match y77 with | .bool t=>some (if t then (.bool true) else y81,h)|_=>none) fun y82 h=>
 (match y82 with
 | .bool true=>
 ae (some ((.slice none 0 0),h)) fun y4 h=>
 ae (some ((.int .i64 0),h)) fun y5 h=>
 some (.ret,(aY 89 (up x [(4,y4),(5,y5),(8,y8),(10,bM),(11,bY),(31,y31),(32,y32),(33,y33),(36,y36),(37,y37),(38,y38),(39,y39),(40,y40),(41,y41),(42,y42),(43,y43),(44,y44),(45,y45),(46,y46),(47,y47),(48,y48),(49,y49),(50,y50),(51,y51),(52,y52),(53,y53),(54,y54),(55,y55),(56,y56),(57,y57),(58,y58),(59,y59),(60,y60),(61,y61),(62,y62),(63,y63),(64,y64),(65,y65),(66,y66),(67,y67),(68,y68),(69,y69),(70,y70),(71,y71),(72,y72),(73,y73),(74,y74),(75,y75),(76,y76),(77,y77),(78,y78),(79,y79),(80,y80),(81,y81),(82,y82)])),h)
 | .bool false=>
 ae (some ((x 7),h)) fun y83 h=>
 ae (pu (aL bM 3) h) fun y84 h=>
 ae (ba y84 h) fun y85 h=>
 ae (bo 1 1 y83 y85 h) fun y86 h=>
 ae (some (y86,h)) fun y7 h=>
 ae (some ((x 9),h)) fun y34 h=>
 ae (pu (bin Try.prog .add 3 y34 (.int .i64 1)) h) fun y35 h=>
 ae (some (y35,h)) fun y9 h=>
 some (.normal,(aY 89 (up x [(7,y7),(8,y8),(9,y9),(10,bM),(11,bY),(31,y31),(32,y32),(33,y33),(34,y34),(35,y35),(36,y36),(37,y37),(38,y38),(39,y39),(40,y40),(41,y41),(42,y42),(43,y43),(44,y44),(45,y45),(46,y46),(47,y47),(48,y48),(49,y49),(50,y50),(51,y51),(52,y52),(53,y53),(54,y54),(55,y55),(56,y56),(57,y57),(58,y58),(59,y59),(60,y60),(61,y61),(62,y62),(63,y63),(64,y64),(65,y65),(66,y66),(67,y67),(68,y68),(69,y69),(70,y70),(71,y71),(72,y72),(73,y73),(74,y74),(75,y75),(76,y76),(77,y77),(78,y78),(79,y79),(80,y80),(81,y81),(82,y82),(83,y83),(84,y84),(85,y85),(86,y86)])),h)
 |_=>none)
 | .bool false=>
 ae (some (bY,h)) fun y60 h=>
 ae (pu (unA .not y60) h) fun y61 h=>
 ae (some (y61,h)) fun y62 h=>
 ae (ao (aZ y62==some false) (pu (aL bM 0) h) h) fun y63 h=>
 ae (ao (aZ y62==some false) (ba y63 h) h) fun y64 h=>
 ae (ao (aZ y62==some false) (some ((x 0),h)) h) fun y65 h=>
 ae (ao (aZ y62==some false) (pu (aB y65) h) h) fun y66 h=>
 ae (ao (aZ y62==some false) (pu (aL y66 4) h) h) fun y67 h=>
 ae (ao (aZ y62==some false) (ba y67 h) h) fun y68 h=>
 ae (ao (aZ y62==some false) (pu (bin Try.prog .neq 58 y64 y68) h) h) fun y69 h=>
 ae (match y62 with | .bool t=>some (if t then (.bool true) else y69,h)|_=>none) fun y70 h=>
 ae (some (y70,h)) fun y71 h=>
 ae (ao (aZ y71==some false) (pu (aL bM 1) h) h) fun y72 h=>
 ae (ao (aZ y71==some false) (ba y72 h) h) fun y73 h=>
 ae (ao (aZ y71==some false) (some ((x 9),h)) h) fun y74 h=>
 ae (ao (aZ y71==some false) (pu (bin Try.prog .neq 3 y73 y74) h) h) fun y75 h=>
 ae (match y71 with | .bool t=>some (if t then (.bool true) else y75,h)|_=>none) fun y76 h=>
 ae (some (y76,h)) fun y77 h=>
 ae (ao (aZ y77==some false) (pu (aL bM 2) h) h) fun y78 h=>
 ae (ao (aZ y77==some false) (ba y78 h) h) fun y79 h=>
 ae (ao (aZ y77==some false) (some ((x 8),h)) h) fun y80 h=>
 ae (ao (aZ y77==some false) (pu (bin Try.prog .neq 3 y79 y80) h) h) fun y81 h=>
 ae (match y77 with | .bool t=>some (if t then (.bool true) else y81,h)|_=>none) fun y82 h=>
 (match y82 with
 | .bool true=>
 ae (some ((.slice none 0 0),h)) fun y4 h=>
 ae (some ((.int .i64 0),h)) fun y5 h=>
 some (.ret,(aY 89 (up x [(4,y4),(5,y5),(10,bM),(11,bY),(31,y31),(32,y32),(33,y33),(36,y36),(37,y37),(38,y38),(39,y39),(40,y40),(41,y41),(42,y42),(43,y43),(44,y44),(45,y45),(46,y46),(47,y47),(48,y48),(49,y49),(50,y50),(51,y51),(52,y52),(53,y53),(54,y54),(55,y55),(56,y56),(57,y57),(60,y60),(61,y61),(62,y62),(63,y63),(64,y64),(65,y65),(66,y66),(67,y67),(68,y68),(69,y69),(70,y70),(71,y71),(72,y72),(73,y73),(74,y74),(75,y75),(76,y76),(77,y77),(78,y78),(79,y79),(80,y80),(81,y81),(82,y82)])),h)
 | .bool false=>
 ae (some ((x 7),h)) fun y83 h=>
 ae (pu (aL bM 3) h) fun y84 h=>
 ae (ba y84 h) fun y85 h=>
 ae (bo 1 1 y83 y85 h) fun y86 h=>
 ae (some (y86,h)) fun y7 h=>
 ae (some ((x 9),h)) fun y34 h=>
 ae (pu (bin Try.prog .add 3 y34 (.int .i64 1)) h) fun y35 h=>
 ae (some (y35,h)) fun y9 h=>
 some (.normal,(aY 89 (up x [(7,y7),(9,y9),(10,bM),(11,bY),(31,y31),(32,y32),(33,y33),(34,y34),(35,y35),(36,y36),(37,y37),(38,y38),(39,y39),(40,y40),(41,y41),(42,y42),(43,y43),(44,y44),(45,y45),(46,y46),(47,y47),(48,y48),(49,y49),(50,y50),(51,y51),(52,y52),(53,y53),(54,y54),(55,y55),(56,y56),(57,y57),(60,y60),(61,y61),(62,y62),(63,y63),(64,y64),(65,y65),(66,y66),(67,y67),(68,y68),(69,y69),(70,y70),(71,y71),(72,y72),(73,y73),(74,y74),(75,y75),(76,y76),(77,y77),(78,y78),(79,y79),(80,y80),(81,y81),(82,y82),(83,y83),(84,y84),(85,y85),(86,y86)])),h)
 |_=>none)
 |_=>none)
 |_=>none)
 | .bool false=>
 some (.exit 0,(aY 89 (up x [(31,y31),(32,y32),(33,y33)])),h)
 |_=>none)
theorem t57_eq (C:al) (x0 x1:Value) (h:ah):bw Try.prog C Try.f57 [x0,x1] h=t57 C x0 x1 h:=
 (aK Try.prog C Try.f57 [x0,x1] h (by kernel_rfl)).trans (by kernel_rfl)
theorem t57k57_7_eq (C:al) (x:Nat→Value) (h:ah):k57_7 C (aY 89 x) h=t57k57_7 C x h:=
 bt (b:=(partOf Try.f57 [1,1,1,1,1,1])) (kE:=(au Try.prog Try.f57.results.toList)) (rE:=(au Try.prog Try.f57.results.toList)) (xE:=(fun _ _ _=>none)) (T:=t57k57_7 C) (fun x h=>by kernel_rfl) x h
theorem t57l57_11111010_eq (C:al) (x:Nat→Value) (h:ah):aI Try.prog C (partOf Try.f57 [1,1,1,1,1,0,1,0,0]) (aY 89 x) h=hU C x h:=
 bj (T:=hU C) (fun x h=>by kernel_rfl) x h
noncomputable def t58 (_C:al) (x0:Value) (h:ah):Out:=
 ae (some ((.int .i64 0),h)) fun _y2 h=>
 ae (some (x0,h)) fun y4 h=>
 ae (pu (bin Try.prog .eql 38 y4 (.pointer none)) h) fun y5 h=>
 ae (some (y5,h)) fun y3 h=>
 (match y3 with
 | .bool true=>
 ae (some ((.int .i64 1),h)) fun y2_1 h=>
 some (y2_1,h)
 | .bool false=>
 ae (some (x0,h)) fun y7 h=>
 ae (pu (aB y7) h) fun y8 h=>
 ae (pu (aL y8 0) h) fun y9 h=>
 ae (ba y9 h) fun bM h=>
 ae (pu (aB bM) h) fun bY h=>
 ae (pu (aL bY 1) h) fun bX h=>
 ae (ba bX h) fun bR h=>
 ae (some (bR,h)) fun bQ h=>
 ae (ao (aZ bQ==some false) (some (x0,h)) h) fun y15 h=>
 ae (ao (aZ bQ==some false) (pu (aB y15) h) h) fun y16 h=>
 ae (ao (aZ bQ==some false) (pu (aL y16 0) h) h) fun y17 h=>
 ae (ao (aZ bQ==some false) (ba y17 h) h) fun cG h=>
 ae (ao (aZ bQ==some false) (pu (aB cG) h) h) fun cK h=>
 ae (ao (aZ bQ==some false) (pu (aL cK 5) h) h) fun y20 h=>
 ae (ao (aZ bQ==some false) (ba y20 h) h) fun y21 h=>
 ae (ao (aZ bQ==some false) (some (x0,h)) h) fun y22 h=>
 ae (ao (aZ bQ==some false) (pu (aB y22) h) h) fun de h=>
 ae (ao (aZ bQ==some false) (pu (aL de 1) h) h) fun y24 h=>
 ae (ao (aZ bQ==some false) (ba y24 h) h) fun y25 h=>
 ae (ao (aZ bQ==some false) (pu (bin Try.prog .neq 3 y21 y25) h) h) fun y26 h=>
 ae (match bQ with | .bool t=>some (if t then (.bool true) else y26,h)|_=>none) fun y27 h=>
 ae (some (y27,h)) fun y6 h=>
 (match y6 with
 | .bool true=>
 ae (some ((.int .i64 9),h)) fun y2_1 h=>
 some (y2_1,h)
 | .bool false=>
 ae (some ((.int .i64 0),h)) fun y2_1 h=>
 some (y2_1,h)
 |_=>none)
 |_=>none)
theorem t58_eq (C:al) (x0:Value) (h:ah):bw Try.prog C Try.f58 [x0] h=t58 C x0 h:=
 (aK Try.prog C Try.f58 [x0] h (by kernel_rfl)).trans (by kernel_rfl)
noncomputable def t64 (C:al) (x0:Value) (h:ah):Out:=
 ae (some ((.slice none 0 0),h)) fun _y2 h=>
 ae (some (x0,h)) fun y8 h=>
 ae (C 94 [y8] h) fun y9 h=>
 ae (some (y9,h)) fun y7 h=>
 ae (pu (aD y7 0) h) fun bM h=>
 ae (pu (aD y7 1) h) fun bY h=>
 ae (some (bM,h)) fun y3 h=>
 ae (some (bY,h)) fun _y4 h=>
 ae (mkR 1 1 (.int .u8 0) (.int .i64 128) (.int .i64 128) h) fun bX h=>
 ae (some (bX,h)) fun y5 h=>
 ae (some (y5,h)) fun bR h=>
 ae (pu (slR 1 bR (some (.int .i64 4)) none none) h) fun bQ h=>
 ae (some (y3,h)) fun y15 h=>
 ae (copyA 1 bQ y15 h) fun _y16 h=>
 ae (some (y5,h)) fun y17 h=>
 ae (pu (slR 1 y17 (some (.int .i64 4)) none none) h) fun cG h=>
 ae (C 95 [cG] h) fun cK h=>
 ae (some (cK,h)) fun y6 h=>
 ae (some (y5,h)) fun y20 h=>
 ae (some (y5,h)) fun y21 h=>
 ae (some (y5,h)) fun y22 h=>
 ae (some (y5,h)) fun de h=>
 ae (some (y6,h)) fun y24 h=>
 ae (pu (bin Try.prog .shr 113 y24 (.int .u64 24)) h) fun y25 h=>
 ae (cvI .u8 y25 h) fun y26 h=>
 ae (some (y6,h)) fun y27 h=>
 ae (pu (bin Try.prog .shr 113 y27 (.int .u64 16)) h) fun y28 h=>
 ae (cvI .u8 y28 h) fun y29 h=>
 ae (some (y6,h)) fun y30 h=>
 ae (pu (bin Try.prog .shr 113 y30 (.int .u64 8)) h) fun y31 h=>
 ae (cvI .u8 y31 h) fun y32 h=>
 ae (some (y6,h)) fun y33 h=>
 ae (cvI .u8 y33 h) fun y34 h=>
 ae (pu (cd 1 y20 (.int .i64 0)) h) fun y35 h=>
 ae (cf 1 y35 y26 h) fun _ h=>
 ae (pu (cd 1 y21 (.int .i64 1)) h) fun y36 h=>
 ae (cf 1 y36 y29 h) fun _ h=>
 ae (pu (cd 1 y22 (.int .i64 2)) h) fun y37 h=>
 ae (cf 1 y37 y32 h) fun _ h=>
 ae (pu (cd 1 de (.int .i64 3)) h) fun y38 h=>
 ae (cf 1 y38 y34 h) fun _ h=>
 ae (some (y5,h)) fun y39 h=>
 ae (some (y39,h)) fun y2_1 h=>
 some (y2_1,h)
theorem t64_eq (C:al) (x0:Value) (h:ah):bw Try.prog C Try.f64 [x0] h=t64 C x0 h:=
 (aK Try.prog C Try.f64 [x0] h (by kernel_rfl)).trans (by kernel_rfl)
noncomputable def t84 (C:al) (x0 x1:Value) (h:ah):Out:=
 ae (some ((.pointer none),h)) fun _y4 h=>
 ae (some ((.bool false),h)) fun _y5 h=>
 ae (some (x0,h)) fun y8 h=>
 ae (pu (aB y8) h) fun y9 h=>
 ae (pu (aL y9 0) h) fun bM h=>
 ae (ba bM h) fun bY h=>
 ae (some (x1,h)) fun bX h=>
 ae (pu (cd 128 bY bX) h) fun bR h=>
 ae (pu (eh 128 1 bR none none none) h) fun bQ h=>
 ae (C 105 [bQ] h) fun y15 h=>
 ae (some (y15,h)) fun y6 h=>
 ae (some (y6,h)) fun y16 h=>
 ae (C 85 [y16] h) fun y17 h=>
 ae (some (y17,h)) fun y7 h=>
 ae (some (y6,h)) fun cG h=>
 ae (some (y7,h)) fun cK h=>
 ae (some (x0,h)) fun y20 h=>
 ae (pu (aB y20) h) fun y21 h=>
 ae (pu (aL y21 0) h) fun y22 h=>
 ae (ba y22 h) fun de h=>
 ae (some (x1,h)) fun y24 h=>
 ae (pu (cd 128 de y24) h) fun y25 h=>
 ae (pu (eh 128 1 y25 (some (.int .i64 4)) none none) h) fun y26 h=>
 ae (C 95 [y26] h) fun y27 h=>
 ae (pu (bin Try.prog .eql 113 cK y27) h) fun y28 h=>
 ae (some (cG,h)) fun y4_1 h=>
 ae (some (y28,h)) fun y5_1 h=>
 some (.tuple #[y4_1,y5_1],h)
theorem t84_eq (C:al) (x0 x1:Value) (h:ah):bw Try.prog C Try.f84 [x0,x1] h=t84 C x0 x1 h:=
 (aK Try.prog C Try.f84 [x0,x1] h (by kernel_rfl)).trans (by kernel_rfl)
end Go.Proofs.Ytcmfgmhadeeieaa

namespace Go.Proofs.Ytcmfgmhadeeieaa
open Go Go.Abs
noncomputable def k21_7 (C:al) (e:Env) (h:ah):Out:=cB Try.prog C (partOf Try.f21 [1,1,1,1,1]) e h (au Try.prog Try.f21.results.toList) (au Try.prog Try.f21.results.toList) (fun _ _ _=>none)
noncomputable def b21_9 (C:al) (i:Nat) (e:Env) (h:ah):Out:=if i=0 then (k21_7 C) e h else (fun _ _ _=>none) i e h
noncomputable def k21_11 (C:al) (e:Env) (h:ah):Out:=cB Try.prog C (partOf Try.f21 [1,1,1,1,1,1,1]) e h (au Try.prog Try.f21.results.toList) (au Try.prog Try.f21.results.toList) (fun _ _ _=>none)
noncomputable def b21_13 (C:al) (i:Nat) (e:Env) (h:ah):Out:=if i=4 then (k21_11 C) e h else (fun _ _ _=>none) i e h
noncomputable def k21_16 (C:al) (e:Env) (h:ah):Option (Ex×Env×ah):=cB Try.prog C (partOf Try.f21 [1,1,1,1,0,1,0,0,1,1,1]) e h (fun e h=>some (Ex.normal,e,h)) (fun e h=>some (Ex.ret,e,h)) (fun i e h=>some (Ex.exit i,e,h))
noncomputable def b21_17 (C:al) (i:Nat) (e:Env) (h:ah):Option (Ex×Env×ah):=if i=1 then (k21_16 C) e h else (fun i e h=>some (Ex.exit i,e,h)) i e h
noncomputable def b21_25 (C:al) (i:Nat) (e:Env) (h:ah):Option (Ex×Env×ah):=if i=2 then (k21_16 C) e h else (b21_17 C) i e h
noncomputable def t21 (C:al) (x0:Value) (h:ah):Out:=
 ae (some ((.pointer none),h)) fun y2 h=>
 ae (some ((.slice none 0 0),h)) fun y3 h=>
 ae (some ((.int .i64 0),h)) fun y4 h=>
 ae (some (x0,h)) fun cG h=>
 ae (C 53 [cG,(.int .i64 0)] h) fun cK h=>
 ae (some (cK,h)) fun y5 h=>
 ae (some (y5,h)) fun y20 h=>
 ae (pu (bin Try.prog .neq 28 y20 (.int .i64 0)) h) fun y21 h=>
 (match y21 with
 | .bool true=>
 ae (some (y5,h)) fun y22 h=>
 ae (some ((.pointer none),h)) fun y2_1 h=>
 ae (some ((.slice none 0 0),h)) fun y3_1 h=>
 ae (some (y22,h)) fun y4_1 h=>
 some (.tuple #[y2_1,y3_1,y4_1],h)
 | .bool false=>
 ae (some (x0,h)) fun de h=>
 ae (pu (aB de) h) fun y24 h=>
 ae (pu (aL y24 5) h) fun y25 h=>
 ae (ba y25 h) fun y26 h=>
 ae (pu (bin Try.prog .add 3 y26 (.int .i64 1)) h) fun y27 h=>
 ae (pu (aB de) h) fun y28 h=>
 ae (pu (aL y28 5) h) fun y29 h=>
 ae (cf 1 y29 y27 h) fun _ h=>
 ae (some (x0,h)) fun y30 h=>
 ae (some (x0,h)) fun y31 h=>
 ae (pu (aB y31) h) fun y32 h=>
 ae (pu (aL y32 5) h) fun y33 h=>
 ae (ba y33 h) fun y34 h=>
 ae (pu (fU [(.pointer none),(.int .i64 0),(.int .i64 0),(.int .i64 0),(.int .u64 0),(.int .u64 0),(.bool false),(.int .i64 0)] [(0,1,y30),(1,1,y34),(2,1,(.int .i64 (-1)))]) h) fun y35 h=>
 ae (box y35 h) fun y36 h=>
 ae (some (y36,h)) fun y6 h=>
 ae (some ((.int .i64 0),h)) fun y37 h=>
 dD (iter (aI Try.prog C (partOf Try.f21 [1,1,1,1,0,1,0,0])) rounds (aY 131 (up (bs [x0]) [(2,y2),(3,y3),(4,y4),(5,y5),(6,y6),(18,cG),(19,cK),(20,y20),(21,y21),(23,de),(24,y24),(25,y25),(26,y26),(27,y27),(28,y28),(29,y29),(30,y30),(31,y31),(32,y32),(33,y33),(34,y34),(35,y35),(36,y36),(37,y37)])) h) (au Try.prog Try.f21.results.toList) (b21_9 C)
 |_=>none)
noncomputable def t21k21_7 (C:al) (x:Nat→Value) (h:ah):Out:=
 ae (some ((.slice none 0 0),h)) fun bQ h=>
 ae (some ((.int .i64 0),h)) fun y15 h=>
 dD (iter (aI Try.prog C (partOf Try.f21 [1,1,1,1,1,1,0,1,0,0])) rounds (aY 131 (up x [(14,bQ),(15,y15)])) h) (au Try.prog Try.f21.results.toList) (b21_13 C)
noncomputable def fq (C:al) (x:Nat→Value) (h:ah):Option (Ex×Env×ah):=
 ae (pu (bin Try.prog .lss 3 (x 37) (.int .i64 2)) h) fun y38 h=>
 (match y38 with
 | .bool true=>
 ae (some ((x 37),h)) fun y39 h=>
 ae (some (y39,h)) fun y7 h=>
 ae (some ((x 0),h)) fun y41 h=>
 ae (some (y7,h)) fun y42 h=>
 ae (C 54 [y41,y42] h) fun y43 h=>
 ae (some (y43,h)) fun y40 h=>
 ae (pu (aD y40 0) h) fun y44 h=>
 ae (pu (aD y40 1) h) fun y45 h=>
 ae (pu (aD y40 2) h) fun y46 h=>
 ae (some (y44,h)) fun y8 h=>
 ae (some (y45,h)) fun y9 h=>
 ae (some (y46,h)) fun bM h=>
 ae (some (bM,h)) fun y47 h=>
 (match y47 with
 | .bool true=>
 ae (some ((x 6),h)) fun y48 h=>
 ae (pu (aB y48) h) fun y49 h=>
 ae (pu (aL y49 2) h) fun y50 h=>
 ae (ba y50 h) fun y51 h=>
 ae (pu (bin Try.prog .lss 3 y51 (.int .i64 0)) h) fun y52 h=>
 ae (some (y52,h)) fun y53 h=>
 ae (ao (aZ y53==some false) (some (y8,h)) h) fun y54 h=>
 ae (ao (aZ y53==some false) (some ((x 6),h)) h) fun y55 h=>
 ae (ao (aZ y53==some false) (pu (aB y55) h) h) fun y56 h=>
 ae (ao (aZ y53==some false) (pu (aL y56 4) h) h) fun y57 h=>
 ae (ao (aZ y53==some false) (ba y57 h) h) fun y58 h=>
 ae (ao (aZ y53==some false) (pu (bin Try.prog .gtr 58 y54 y58) h) h) fun y59 h=>
 ae (match y53 with | .bool t=>some (if t then (.bool true) else y59,h)|_=>none) fun y60 h=>
 (match y60 with
 | .bool true=>
 ae (some ((x 6),h)) fun y61 h=>
 ae (some ((x 6),h)) fun y62 h=>
 ae (some ((x 6),h)) fun y63 h=>
 ae (some (y7,h)) fun y64 h=>
 ae (some (y8,h)) fun y65 h=>
 ae (some (y9,h)) fun y66 h=>
 ae (pu (aB y61) h) fun y67 h=>
 ae (pu (aL y67 2) h) fun y68 h=>
 ae (cf 1 y68 y64 h) fun _ h=>
 ae (pu (aB y62) h) fun y69 h=>
 ae (pu (aL y69 4) h) fun y70 h=>
 ae (cf 1 y70 y65 h) fun _ h=>
 ae (pu (aB y63) h) fun y71 h=>
 ae (pu (aL y71 3) h) fun y72 h=>
 ae (cf 1 y72 y66 h) fun _ h=>
 ae (some ((x 6),h)) fun y73 h=>
 ae (some ((x 6),h)) fun y74 h=>
 ae (pu (aB y74) h) fun y75 h=>
 ae (pu (aL y75 5) h) fun y76 h=>
 ae (ba y76 h) fun y77 h=>
 ae (some (y8,h)) fun y78 h=>
 ae (pu (dA true y77 [y78]) h) fun y79 h=>
 ae (pu (aB y73) h) fun y80 h=>
 ae (pu (aL y80 5) h) fun y81 h=>
 ae (cf 1 y81 y79 h) fun _ h=>
 ae (some ((x 0),h)) fun y82 h=>
 ae (C 55 [y82] h) fun y83 h=>
 ae (some ((.int .i64 0),h)) fun y84 h=>
 dD (iter (aI Try.prog C (partOf Try.f21 [1,1,1,1,0,1,0,0,1,1,0,0,1,1,1,0,0])) rounds (aY 131 (up x [(7,y7),(8,y8),(9,y9),(10,bM),(38,y38),(39,y39),(40,y40),(41,y41),(42,y42),(43,y43),(44,y44),(45,y45),(46,y46),(47,y47),(48,y48),(49,y49),(50,y50),(51,y51),(52,y52),(53,y53),(54,y54),(55,y55),(56,y56),(57,y57),(58,y58),(59,y59),(60,y60),(61,y61),(62,y62),(63,y63),(64,y64),(65,y65),(66,y66),(67,y67),(68,y68),(69,y69),(70,y70),(71,y71),(72,y72),(73,y73),(74,y74),(75,y75),(76,y76),(77,y77),(78,y78),(79,y79),(80,y80),(81,y81),(82,y82),(83,y83),(84,y84)])) h) (fun e h=>some (Ex.ret,e,h)) (b21_25 C)
 | .bool false=>
 ae (some ((x 6),h)) fun y73 h=>
 ae (some ((x 6),h)) fun y74 h=>
 ae (pu (aB y74) h) fun y75 h=>
 ae (pu (aL y75 5) h) fun y76 h=>
 ae (ba y76 h) fun y77 h=>
 ae (some (y8,h)) fun y78 h=>
 ae (pu (dA true y77 [y78]) h) fun y79 h=>
 ae (pu (aB y73) h) fun y80 h=>
 ae (pu (aL y80 5) h) fun y81 h=>
 ae (cf 1 y81 y79 h) fun _ h=>
 ae (some ((x 0),h)) fun y82 h=>
 ae (C 55 [y82] h) fun y83 h=>
 ae (some ((.int .i64 0),h)) fun y84 h=>
 dD (iter (aI Try.prog C (partOf Try.f21 [1,1,1,1,0,1,0,0,1,1,0,0,1,1,1,0,0])) rounds (aY 131 (up x [(7,y7),(8,y8),(9,y9),(10,bM),(38,y38),(39,y39),(40,y40),(41,y41),(42,y42),(43,y43),(44,y44),(45,y45),(46,y46),(47,y47),(48,y48),(49,y49),(50,y50),(51,y51),(52,y52),(53,y53),(54,y54),(55,y55),(56,y56),(57,y57),(58,y58),(59,y59),(60,y60),(73,y73),(74,y74),(75,y75),(76,y76),(77,y77),(78,y78),(79,y79),(80,y80),(81,y81),(82,y82),(83,y83),(84,y84)])) h) (fun e h=>some (Ex.ret,e,h)) (b21_25 C)
 |_=>none)
 | .bool false=>
 ae (some ((x 0),h)) fun y82 h=>
 ae (C 55 [y82] h) fun y83 h=>
 ae (some ((.int .i64 0),h)) fun y84 h=>
 dD (iter (aI Try.prog C (partOf Try.f21 [1,1,1,1,0,1,0,0,1,1,0,0,1,1,1,0,0])) rounds (aY 131 (up x [(7,y7),(8,y8),(9,y9),(10,bM),(38,y38),(39,y39),(40,y40),(41,y41),(42,y42),(43,y43),(44,y44),(45,y45),(46,y46),(47,y47),(82,y82),(83,y83),(84,y84)])) h) (fun e h=>some (Ex.ret,e,h)) (b21_25 C)
 |_=>none)
 | .bool false=>
 some (.exit 0,(aY 131 (up x [(38,y38)])),h)
 |_=>none)
noncomputable def t21k21_11 (_C:al) (x:Nat→Value) (h:ah):Out:=
 ae (some ((x 6),h)) fun y129 h=>
 ae (some ((x 14),h)) fun y130 h=>
 ae (some (y129,h)) fun y2 h=>
 ae (some (y130,h)) fun y3 h=>
 ae (some ((.int .i64 0),h)) fun y4 h=>
 some (.tuple #[y2,y3,y4],h)
noncomputable def gO (C:al) (x:Nat→Value) (h:ah):Option (Ex×Env×ah):=
 ae (some ((x 15),h)) fun y107 h=>
 ae (some ((x 0),h)) fun y108 h=>
 ae (C 55 [y108] h) fun y109 h=>
 ae (pu (bin Try.prog .lss 3 y107 y109) h) fun y110 h=>
 (match y110 with
 | .bool true=>
 ae (some ((x 6),h)) fun y112 h=>
 ae (some ((x 15),h)) fun y113 h=>
 ae (C 57 [y112,y113] h) fun y114 h=>
 ae (some (y114,h)) fun y111 h=>
 ae (pu (aD y111 0) h) fun y115 h=>
 ae (pu (aD y111 1) h) fun y116 h=>
 ae (some (y115,h)) fun y16 h=>
 ae (some (y116,h)) fun y17 h=>
 ae (some (y17,h)) fun y117 h=>
 ae (pu (bin Try.prog .gtr 3 y117 (.int .i64 0)) h) fun y118 h=>
 (match y118 with
 | .bool true=>
 ae (some ((x 14),h)) fun y119 h=>
 ae (some ((x 15),h)) fun y120 h=>
 ae (some (y16,h)) fun y121 h=>
 ae (pu (fU [(.int .i64 0),(.slice none 0 0)] [(0,1,y120),(1,1,y121)]) h) fun y122 h=>
 ae (cX 2 (.agg #[(.int .i64 0),(.slice none 0 0)]) 1 [(0,y122)] h) fun y123 h=>
 ae (bo 2 32 y119 y123 h) fun y124 h=>
 ae (some (y124,h)) fun bQ h=>
 ae (some ((x 15),h)) fun y125 h=>
 ae (some (y17,h)) fun y126 h=>
 ae (pu (dA true y126 [(.int .i64 1)]) h) fun y127 h=>
 ae (pu (bin Try.prog .add 3 y125 y127) h) fun y128 h=>
 ae (some (y128,h)) fun y15 h=>
 some (.normal,(aY 131 (up x [(14,bQ),(15,y15),(16,y16),(17,y17),(107,y107),(108,y108),(109,y109),(110,y110),(111,y111),(112,y112),(113,y113),(114,y114),(115,y115),(116,y116),(117,y117),(118,y118),(119,y119),(120,y120),(121,y121),(122,y122),(123,y123),(124,y124),(125,y125),(126,y126),(127,y127),(128,y128)])),h)
 | .bool false=>
 ae (some ((x 15),h)) fun y125 h=>
 ae (some (y17,h)) fun y126 h=>
 ae (pu (dA true y126 [(.int .i64 1)]) h) fun y127 h=>
 ae (pu (bin Try.prog .add 3 y125 y127) h) fun y128 h=>
 ae (some (y128,h)) fun y15 h=>
 some (.normal,(aY 131 (up x [(15,y15),(16,y16),(17,y17),(107,y107),(108,y108),(109,y109),(110,y110),(111,y111),(112,y112),(113,y113),(114,y114),(115,y115),(116,y116),(117,y117),(118,y118),(125,y125),(126,y126),(127,y127),(128,y128)])),h)
 |_=>none)
 | .bool false=>
 some (.exit 4,(aY 131 (up x [(107,y107),(108,y108),(109,y109),(110,y110)])),h)
 |_=>none)
noncomputable def t21k21_16 (_C:al) (x:Nat→Value) (h:ah):Option (Ex×Env×ah):=
 ae (pu (bin Try.prog .add 3 (x 37) (.int .i64 1)) h) fun y106 h=>
 ae (some (y106,h)) fun y37 h=>
 some (.normal,(aY 131 (up x [(37,y37),(106,y106)])),h)
noncomputable def eg (C:al) (x:Nat→Value) (h:ah):Option (Ex×Env×ah):=
 ae (pu (bin Try.prog .lss 3 (x 84) (x 83)) h) fun y85 h=>
 (match y85 with
 | .bool true=>
 ae (some ((x 84),h)) fun y86 h=>
 ae (some (y86,h)) fun bY h=>
 ae (some ((x 0),h)) fun y88 h=>
 ae (some ((x 7),h)) fun y89 h=>
 ae (some (bY,h)) fun y90 h=>
 ae (C 56 [y88,y89,y90] h) fun y91 h=>
 ae (some (y91,h)) fun y87 h=>
 ae (pu (aD y87 0) h) fun y92 h=>
 ae (pu (aD y87 1) h) fun y93 h=>
 ae (dB [(.int .u64 0),(.int .i64 0),(.int .i64 0),(.slice none 0 0)] h) fun bX h=>
 ae (cf 4 bX y92 h) fun _ h=>
 ae (some (y93,h)) fun bR h=>
 ae (some (bR,h)) fun y94 h=>
 (match y94 with
 | .bool true=>
 ae (some ((x 6),h)) fun y95 h=>
 ae (some ((x 6),h)) fun y96 h=>
 ae (pu (aB y96) h) fun y97 h=>
 ae (pu (aL y97 5) h) fun y98 h=>
 ae (ba y98 h) fun y99 h=>
 ae (pu (aL bX 0) h) fun y100 h=>
 ae (ba y100 h) fun y101 h=>
 ae (pu (dA true y99 [y101]) h) fun y102 h=>
 ae (pu (aB y95) h) fun y103 h=>
 ae (pu (aL y103 5) h) fun y104 h=>
 ae (cf 1 y104 y102 h) fun _ h=>
 ae (pu (bin Try.prog .add 3 (x 84) (.int .i64 1)) h) fun y105 h=>
 ae (some (y105,h)) fun y84 h=>
 some (.normal,(aY 131 (up x [(11,bY),(12,bX),(13,bR),(84,y84),(85,y85),(86,y86),(87,y87),(88,y88),(89,y89),(90,y90),(91,y91),(92,y92),(93,y93),(94,y94),(95,y95),(96,y96),(97,y97),(98,y98),(99,y99),(100,y100),(101,y101),(102,y102),(103,y103),(104,y104),(105,y105)])),h)
 | .bool false=>
 ae (pu (bin Try.prog .add 3 (x 84) (.int .i64 1)) h) fun y105 h=>
 ae (some (y105,h)) fun y84 h=>
 some (.normal,(aY 131 (up x [(11,bY),(12,bX),(13,bR),(84,y84),(85,y85),(86,y86),(87,y87),(88,y88),(89,y89),(90,y90),(91,y91),(92,y92),(93,y93),(94,y94),(105,y105)])),h)
 |_=>none)
 | .bool false=>
 some (.exit 2,(aY 131 (up x [(85,y85)])),h)
 |_=>none)
theorem t21_eq (C:al) (x0:Value) (h:ah):bw Try.prog C Try.f21 [x0] h=t21 C x0 h:=
 (aK Try.prog C Try.f21 [x0] h (by kernel_rfl)).trans (by kernel_rfl)
theorem t21k21_7_eq (C:al) (x:Nat→Value) (h:ah):k21_7 C (aY 131 x) h=t21k21_7 C x h:=
 bt (b:=(partOf Try.f21 [1,1,1,1,1])) (kE:=(au Try.prog Try.f21.results.toList)) (rE:=(au Try.prog Try.f21.results.toList)) (xE:=(fun _ _ _=>none)) (T:=t21k21_7 C) (fun x h=>by kernel_rfl) x h
theorem t21l21_1111010_eq (C:al) (x:Nat→Value) (h:ah):aI Try.prog C (partOf Try.f21 [1,1,1,1,0,1,0,0]) (aY 131 x) h=fq C x h:=
 bj (T:=fq C) (fun x h=>by kernel_rfl) x h
theorem t21k21_11_eq (C:al) (x:Nat→Value) (h:ah):k21_11 C (aY 131 x) h=t21k21_11 C x h:=
 bt (b:=(partOf Try.f21 [1,1,1,1,1,1,1])) (kE:=(au Try.prog Try.f21.results.toList)) (rE:=(au Try.prog Try.f21.results.toList)) (xE:=(fun _ _ _=>none)) (T:=t21k21_11 C) (fun x h=>by kernel_rfl) x h
theorem t21l21_111111010_eq (C:al) (x:Nat→Value) (h:ah):aI Try.prog C (partOf Try.f21 [1,1,1,1,1,1,0,1,0,0]) (aY 131 x) h=gO C x h:=
 bj (T:=gO C) (fun x h=>by kernel_rfl) x h
theorem t21k21_16_eq (C:al) (x:Nat→Value) (h:ah):k21_16 C (aY 131 x) h=t21k21_16 C x h:=
 bt (b:=(partOf Try.f21 [1,1,1,1,0,1,0,0,1,1,1])) (kE:=(fun e h=>some (Ex.normal,e,h))) (rE:=(fun e h=>some (Ex.ret,e,h))) (xE:=(fun i e h=>some (Ex.exit i,e,h))) (T:=t21k21_16 C) (fun x h=>by kernel_rfl) x h
theorem t21l21_1111010011001110_eq (C:al) (x:Nat→Value) (h:ah):aI Try.prog C (partOf Try.f21 [1,1,1,1,0,1,0,0,1,1,0,0,1,1,1,0,0]) (aY 131 x) h=eg C x h:=
 bj (T:=eg C) (fun x h=>by kernel_rfl) x h
noncomputable def k23_6 (C:al) (e:Env) (h:ah):Out:=cB Try.prog C (partOf Try.f23 [1,1,1,1]) e h (au Try.prog Try.f23.results.toList) (au Try.prog Try.f23.results.toList) (fun _ _ _=>none)
noncomputable def b23_8 (C:al) (i:Nat) (e:Env) (h:ah):Out:=if i=0 then (k23_6 C) e h else (fun _ _ _=>none) i e h
noncomputable def k23_16 (C:al) (e:Env) (h:ah):Out:=cB Try.prog C (partOf Try.f23 [1,1,1,1,1,1,1,1,1]) e h (au Try.prog Try.f23.results.toList) (au Try.prog Try.f23.results.toList) (fun _ _ _=>none)
noncomputable def b23_18 (C:al) (i:Nat) (e:Env) (h:ah):Out:=if i=2 then (k23_16 C) e h else (fun _ _ _=>none) i e h
noncomputable def t23 (C:al) (x0 x1:Value) (h:ah):Out:=
 ae (some ((.slice none 0 0),h)) fun y4 h=>
 ae (some ((.int .i64 0),h)) fun y5 h=>
 ae (some (x0,h)) fun y21 h=>
 ae (C 58 [y21] h) fun y22 h=>
 ae (some (y22,h)) fun y6 h=>
 ae (some (y6,h)) fun de h=>
 ae (pu (bin Try.prog .neq 28 de (.int .i64 0)) h) fun y24 h=>
 (match y24 with
 | .bool true=>
 ae (some (y6,h)) fun y25 h=>
 ae (some ((.slice none 0 0),h)) fun y4_1 h=>
 ae (some (y25,h)) fun y5_1 h=>
 some (.tuple #[y4_1,y5_1],h)
 | .bool false=>
 ae (some ((.int .i64 0),h)) fun y7 h=>
 ae (some ((.bool false),h)) fun y8 h=>
 ae (some (x1,h)) fun y26 h=>
 ae (pu (cH y26) h) fun y27 h=>
 ae (some ((.int .i64 0),h)) fun y28 h=>
 dD (iter (aI Try.prog C (partOf Try.f23 [1,1,1,0,1,0,0])) rounds (aY 151 (up (bs [x0,x1]) [(4,y4),(5,y5),(6,y6),(7,y7),(8,y8),(21,y21),(22,y22),(23,de),(24,y24),(26,y26),(27,y27),(28,y28)])) h) (au Try.prog Try.f23.results.toList) (b23_8 C)
 |_=>none)
noncomputable def t23k23_6 (C:al) (x:Nat→Value) (h:ah):Out:=
 ae (some ((x 8),h)) fun y52 h=>
 ae (some (y52,h)) fun y53 h=>
 ae (ao (aZ y53==some false) (some ((x 0),h)) h) fun y54 h=>
 ae (ao (aZ y53==some false) (pu (aB y54) h) h) fun y55 h=>
 ae (ao (aZ y53==some false) (pu (aL y55 5) h) h) fun y56 h=>
 ae (ao (aZ y53==some false) (ba y56 h) h) fun y57 h=>
 ae (ao (aZ y53==some false) (pu (bin Try.prog .eql 58 y57 (.int .u64 18446744073709551615)) h) h) fun y58 h=>
 ae (match y53 with | .bool t=>some (if t then (.bool true) else y58,h)|_=>none) fun y59 h=>
 (match y59 with
 | .bool true=>
 ae (some ((.slice none 0 0),h)) fun y4 h=>
 ae (some ((.int .i64 8),h)) fun y5 h=>
 some (.tuple #[y4,y5],h)
 | .bool false=>
 ae (some ((x 0),h)) fun y60 h=>
 ae (pu (aB y60) h) fun y61 h=>
 ae (pu (aL y61 5) h) fun y62 h=>
 ae (ba y62 h) fun y63 h=>
 ae (pu (bin Try.prog .add 58 y63 (.int .u64 1)) h) fun y64 h=>
 ae (some ((.int .i64 0),h)) fun bY h=>
 ae (some ((.int .i64 0),h)) fun bX h=>
 ae (some (y64,h)) fun bR h=>
 ae (some ((x 0),h)) fun y65 h=>
 ae (pu (aB y65) h) fun y66 h=>
 ae (pu (aL y66 2) h) fun y67 h=>
 ae (ba y67 h) fun y68 h=>
 ae (pu (bin Try.prog .geq 3 y68 (.int .i64 0)) h) fun y69 h=>
 (match y69 with
 | .bool true=>
 ae (some ((x 0),h)) fun y70 h=>
 ae (pu (aB y70) h) fun y71 h=>
 ae (pu (aL y71 3) h) fun y72 h=>
 ae (ba y72 h) fun y73 h=>
 ae (pu (bin Try.prog .sub 3 (.int .i64 1) y73) h) fun y74 h=>
 ae (some ((x 0),h)) fun y75 h=>
 ae (pu (aB y75) h) fun y76 h=>
 ae (pu (aL y76 2) h) fun y77 h=>
 ae (ba y77 h) fun y78 h=>
 ae (pu (bin Try.prog .sub 3 (.int .i64 1) y78) h) fun y79 h=>
 ae (some (y74,h)) fun y11_1 h=>
 ae (some (y79,h)) fun y12_1 h=>
 ae (cX 1 (.int .i64 0) 0 [] h) fun y80 h=>
 ae (some ((.int .i64 0),h)) fun bQ h=>
 ae (some (y80,h)) fun y15 h=>
 ae (some ((x 1),h)) fun y81 h=>
 ae (pu (cH y81) h) fun y82 h=>
 ae (some ((.int .i64 0),h)) fun y83 h=>
 dD (iter (aI Try.prog C (partOf Try.f23 [1,1,1,1,1,1,1,1,0,1,0,0])) rounds (aY 151 (up x [(11,y11_1),(12,y12_1),(13,bR),(14,bQ),(15,y15),(52,y52),(53,y53),(54,y54),(55,y55),(56,y56),(57,y57),(58,y58),(59,y59),(60,y60),(61,y61),(62,y62),(63,y63),(64,y64),(65,y65),(66,y66),(67,y67),(68,y68),(69,y69),(70,y70),(71,y71),(72,y72),(73,y73),(74,y74),(75,y75),(76,y76),(77,y77),(78,y78),(79,y79),(80,y80),(81,y81),(82,y82),(83,y83)])) h) (au Try.prog Try.f23.results.toList) (b23_18 C)
 | .bool false=>
 ae (cX 1 (.int .i64 0) 0 [] h) fun y80 h=>
 ae (some ((.int .i64 0),h)) fun bQ h=>
 ae (some (y80,h)) fun y15 h=>
 ae (some ((x 1),h)) fun y81 h=>
 ae (pu (cH y81) h) fun y82 h=>
 ae (some ((.int .i64 0),h)) fun y83 h=>
 dD (iter (aI Try.prog C (partOf Try.f23 [1,1,1,1,1,1,1,1,0,1,0,0])) rounds (aY 151 (up x [(11,bY),(12,bX),(13,bR),(14,bQ),(15,y15),(52,y52),(53,y53),(54,y54),(55,y55),(56,y56),(57,y57),(58,y58),(59,y59),(60,y60),(61,y61),(62,y62),(63,y63),(64,y64),(65,y65),(66,y66),(67,y67),(68,y68),(69,y69),(80,y80),(81,y81),(82,y82),(83,y83)])) h) (au Try.prog Try.f23.results.toList) (b23_18 C)
 |_=>none)
 |_=>none)
noncomputable def t23l23_111010 (C:al) (x:Nat→Value) (h:ah):Option (Ex×Env×ah):=
 ae (pu (bin Try.prog .lss 3 (x 28) (x 27)) h) fun y29 h=>
 (match y29 with
 | .bool true=>
 ae (pu (cd 1 (x 26) (x 28)) h) fun y30 h=>
 ae (ba y30 h) fun y31 h=>
 ae (some (y31,h)) fun bM h=>
 ae (some (bM,h)) fun y32 h=>
 ae (pu (cH y32) h) fun y33 h=>
 ae (pu (bin Try.prog .gtr 3 y33 (.int .i64 20000)) h) fun y34 h=>
 (match y34 with
 | .bool true=>
 ae (some ((.slice none 0 0),h)) fun y4 h=>
 ae (some ((.int .i64 3),h)) fun y5 h=>
 some (.ret,(aY 151 (up x [(4,y4),(5,y5),(10,bM),(29,y29),(30,y30),(31,y31),(32,y32),(33,y33),(34,y34)])),h)
 | .bool false=>
 ae (some ((x 7),h)) fun y35 h=>
 ae (some (bM,h)) fun y36 h=>
 ae (pu (cH y36) h) fun y37 h=>
 ae (C 15 [y37] h) fun y38 h=>
 ae (pu (bin Try.prog .add 3 y35 y38) h) fun y39 h=>
 ae (pu (dA false y39 [(.int .i64 4096)]) h) fun y40 h=>
 ae (some (y40,h)) fun y7 h=>
 ae (some ((x 8),h)) fun y41 h=>
 ae (some (y41,h)) fun y42 h=>
 ae (ao (aZ y42==some false) (some (y7,h)) h) fun y43 h=>
 ae (ao (aZ y42==some false) (some ((x 0),h)) h) fun y44 h=>
 ae (ao (aZ y42==some false) (pu (aB y44) h) h) fun y45 h=>
 ae (ao (aZ y42==some false) (pu (aL y45 0) h) h) fun y46 h=>
 ae (ao (aZ y42==some false) (ba y46 h) h) fun y47 h=>
 ae (ao (aZ y42==some false) (C 55 [y47] h) h) fun y48 h=>
 ae (ao (aZ y42==some false) (pu (bin Try.prog .gtr 3 y43 y48) h) h) fun y49 h=>
 ae (match y42 with | .bool t=>some (if t then (.bool true) else y49,h)|_=>none) fun y50 h=>
 ae (some (y50,h)) fun y8 h=>
 ae (pu (bin Try.prog .add 3 (x 28) (.int .i64 1)) h) fun y51 h=>
 ae (some (y51,h)) fun y28 h=>
 some (.normal,(aY 151 (up x [(7,y7),(8,y8),(10,bM),(28,y28),(29,y29),(30,y30),(31,y31),(32,y32),(33,y33),(34,y34),(35,y35),(36,y36),(37,y37),(38,y38),(39,y39),(40,y40),(41,y41),(42,y42),(43,y43),(44,y44),(45,y45),(46,y46),(47,y47),(48,y48),(49,y49),(50,y50),(51,y51)])),h)
 |_=>none)
 | .bool false=>
 some (.exit 0,(aY 151 (up x [(29,y29)])),h)
 |_=>none)
noncomputable def t23k23_16 (C:al) (x:Nat→Value) (h:ah):Out:=
 ae (C 60 [(.int .i64 124)] h) fun y106 h=>
 ae (some (y106,h)) fun cK h=>
 ae (some (cK,h)) fun y107 h=>
 ae (C 61 [y107,(.int .u32 1398034252)] h) fun _y108 h=>
 ae (some (cK,h)) fun y109 h=>
 ae (some ((x 13),h)) fun y110 h=>
 ae (C 62 [y109,y110] h) fun _y111 h=>
 ae (some (cK,h)) fun y112 h=>
 ae (some ((x 11),h)) fun y113 h=>
 ae (cvI .u8 y113 h) fun y114 h=>
 ae (C 63 [y112,y114] h) fun _y115 h=>
 let g34_0:=h
 ae (some ((x 0),g34_0)) fun y116 g34_1=>
 ae (pu (aB y116) g34_1) fun y117 g34_2=>
 ae (pu (aL y117 0) g34_2) fun y118 g34_3=>
 ae (ba y118 g34_3) fun y119 g34_4=>
 ae (some ((x 12),g34_4)) fun y120 g34_5=>
 ae (some (cK,g34_5)) fun y121 g34_6=>
 ae (C 64 [y121] g34_6) fun y122 g34_7=>
 ae (C 19 [y119,y120,y122] g34_7) fun y123 g34_8=>
 ae (some (y123,g34_8)) fun y20 g34_9=>
 (match (cE true (ba y118 g34_7) y119&&true) with
 |true=>
 let h:=g34_9
 ae (some (y20,h)) fun y124 h=>
 ae (pu (bin Try.prog .neq 28 y124 (.int .i64 0)) h) fun y125 h=>
 (match y125 with
 | .bool true=>
 ae (some (y20,h)) fun y126 h=>
 ae (some ((.slice none 0 0),h)) fun y4 h=>
 ae (some (y126,h)) fun y5 h=>
 some (.tuple #[y4,y5],h)
 | .bool false=>
 ae (some ((x 0),h)) fun y127 h=>
 ae (some ((x 0),h)) fun y128 h=>
 ae (some ((x 0),h)) fun y129 h=>
 ae (some ((x 0),h)) fun y130 h=>
 ae (some ((x 0),h)) fun y131 h=>
 ae (some ((x 0),h)) fun y132 h=>
 ae (some ((x 12),h)) fun y133 h=>
 ae (some ((x 11),h)) fun y134 h=>
 ae (some ((x 13),h)) fun y135 h=>
 ae (some ((x 13),h)) fun y136 h=>
 ae (some ((x 14),h)) fun y137 h=>
 ae (pu (aB y127) h) fun y138 h=>
 ae (pu (aL y138 2) h) fun y139 h=>
 ae (cf 1 y139 y133 h) fun _ h=>
 ae (pu (aB y128) h) fun y140 h=>
 ae (pu (aL y140 3) h) fun y141 h=>
 ae (cf 1 y141 y134 h) fun _ h=>
 ae (pu (aB y129) h) fun y142 h=>
 ae (pu (aL y142 4) h) fun y143 h=>
 ae (cf 1 y143 y135 h) fun _ h=>
 ae (pu (aB y130) h) fun y144 h=>
 ae (pu (aL y144 5) h) fun y145 h=>
 ae (cf 1 y145 y136 h) fun _ h=>
 ae (pu (aB y131) h) fun y146 h=>
 ae (pu (aL y146 6) h) fun y147 h=>
 ae (cf 1 y147 (.bool true) h) fun _ h=>
 ae (pu (aB y132) h) fun y148 h=>
 ae (pu (aL y148 7) h) fun y149 h=>
 ae (cf 1 y149 y137 h) fun _ h=>
 ae (some ((x 15),h)) fun y150 h=>
 ae (some (y150,h)) fun y4 h=>
 ae (some ((.int .i64 0),h)) fun y5 h=>
 some (.tuple #[y4,y5],h)
 |_=>none)
 |false=>none)
noncomputable def fy (C:al) (x:Nat→Value) (h:ah):Option (Ex×Env×ah):=
 ae (pu (bin Try.prog .lss 3 (x 83) (x 82)) h) fun y84 h=>
 (match y84 with
 | .bool true=>
 ae (pu (cd 1 (x 81) (x 83)) h) fun y85 h=>
 ae (ba y85 h) fun y86 h=>
 ae (some (y86,h)) fun y17 h=>
 ae (some ((x 0),h)) fun y87 h=>
 ae (some ((x 11),h)) fun y88 h=>
 ae (some ((x 13),h)) fun y89 h=>
 ae (some ((x 14),h)) fun y90 h=>
 ae (some (y17,h)) fun y91 h=>
 ae (C 59 [y87,y88,y89,y90,y91] h) fun y92 h=>
 ae (some (y92,h)) fun cG h=>
 ae (some (cG,h)) fun y93 h=>
 ae (pu (bin Try.prog .neq 28 y93 (.int .i64 0)) h) fun y94 h=>
 (match y94 with
 | .bool true=>
 ae (some (cG,h)) fun y95 h=>
 ae (some ((.slice none 0 0),h)) fun y4 h=>
 ae (some (y95,h)) fun y5 h=>
 some (.ret,(aY 151 (up x [(4,y4),(5,y5),(17,y17),(18,cG),(84,y84),(85,y85),(86,y86),(87,y87),(88,y88),(89,y89),(90,y90),(91,y91),(92,y92),(93,y93),(94,y94),(95,y95)])),h)
 | .bool false=>
 ae (some ((x 15),h)) fun y96 h=>
 ae (some ((x 14),h)) fun y97 h=>
 ae (cX 1 (.int .i64 0) 1 [(0,y97)] h) fun y98 h=>
 ae (bo 1 8 y96 y98 h) fun y99 h=>
 ae (some (y99,h)) fun y15 h=>
 ae (some ((x 14),h)) fun y100 h=>
 ae (some (y17,h)) fun y101 h=>
 ae (pu (cH y101) h) fun y102 h=>
 ae (C 15 [y102] h) fun y103 h=>
 ae (pu (bin Try.prog .add 3 y100 y103) h) fun y104 h=>
 ae (some (y104,h)) fun bQ h=>
 ae (pu (bin Try.prog .add 3 (x 83) (.int .i64 1)) h) fun y105 h=>
 ae (some (y105,h)) fun y83 h=>
 some (.normal,(aY 151 (up x [(14,bQ),(15,y15),(17,y17),(18,cG),(83,y83),(84,y84),(85,y85),(86,y86),(87,y87),(88,y88),(89,y89),(90,y90),(91,y91),(92,y92),(93,y93),(94,y94),(96,y96),(97,y97),(98,y98),(99,y99),(100,y100),(101,y101),(102,y102),(103,y103),(104,y104),(105,y105)])),h)
 |_=>none)
 | .bool false=>
 some (.exit 2,(aY 151 (up x [(84,y84)])),h)
 |_=>none)
theorem t23_eq (C:al) (x0 x1:Value) (h:ah):bw Try.prog C Try.f23 [x0,x1] h=t23 C x0 x1 h:=
 (aK Try.prog C Try.f23 [x0,x1] h (by kernel_rfl)).trans (by kernel_rfl)
theorem t23k23_6_eq (C:al) (x:Nat→Value) (h:ah):k23_6 C (aY 151 x) h=t23k23_6 C x h:=
 bt (b:=(partOf Try.f23 [1,1,1,1])) (kE:=(au Try.prog Try.f23.results.toList)) (rE:=(au Try.prog Try.f23.results.toList)) (xE:=(fun _ _ _=>none)) (T:=t23k23_6 C) (fun x h=>by kernel_rfl) x h
theorem t23l23_111010_eq (C:al) (x:Nat→Value) (h:ah):aI Try.prog C (partOf Try.f23 [1,1,1,0,1,0,0]) (aY 151 x) h=t23l23_111010 C x h:=
 bj (T:=t23l23_111010 C) (fun x h=>by kernel_rfl) x h
theorem t23k23_16_eq (C:al) (x:Nat→Value) (h:ah):k23_16 C (aY 151 x) h=t23k23_16 C x h:=
 bt (b:=(partOf Try.f23 [1,1,1,1,1,1,1,1,1])) (kE:=(au Try.prog Try.f23.results.toList)) (rE:=(au Try.prog Try.f23.results.toList)) (xE:=(fun _ _ _=>none)) (T:=t23k23_16 C) (fun x h=>by kernel_rfl) x h
theorem t23l23_11111111010_eq (C:al) (x:Nat→Value) (h:ah):aI Try.prog C (partOf Try.f23 [1,1,1,1,1,1,1,1,0,1,0,0]) (aY 151 x) h=fy C x h:=
 bj (T:=fy C) (fun x h=>by kernel_rfl) x h
noncomputable def t27 (C:al) (x0 x1:Value) (h:ah):Out:=
 ae (some ((.int .i64 0),h)) fun _y4 h=>
 ae (some ((.int .i64 0),h)) fun _y5 h=>
 ae (some (x0,h)) fun y9 h=>
 ae (C 58 [y9] h) fun bM h=>
 ae (some (bM,h)) fun y6 h=>
 ae (some (y6,h)) fun bY h=>
 ae (pu (bin Try.prog .neq 28 bY (.int .i64 0)) h) fun bX h=>
 (match bX with
 | .bool true=>
 ae (some (y6,h)) fun bR h=>
 ae (some ((.int .i64 0),h)) fun y4_1 h=>
 ae (some (bR,h)) fun y5_1 h=>
 some (.tuple #[y4_1,y5_1],h)
 | .bool false=>
 ae (some (x0,h)) fun y15 h=>
 ae (pu (aB y15) h) fun y16 h=>
 ae (pu (aL y16 6) h) fun y17 h=>
 ae (ba y17 h) fun cG h=>
 ae (pu (unA .not cG) h) fun cK h=>
 ae (some (cK,h)) fun bQ h=>
 (match bQ with
 | .bool true=>
 ae (some ((.int .i64 0),h)) fun y4_1 h=>
 ae (some ((.int .i64 30),h)) fun y5_1 h=>
 some (.tuple #[y4_1,y5_1],h)
 | .bool false=>
 ae (some (x1,h)) fun y21 h=>
 ae (pu (cH y21) h) fun y22 h=>
 ae (pu (bin Try.prog .gtr 3 y22 (.int .i64 20000)) h) fun de h=>
 ae (some (de,h)) fun y20 h=>
 (match y20 with
 | .bool true=>
 ae (some ((.int .i64 0),h)) fun y4_1 h=>
 ae (some ((.int .i64 3),h)) fun y5_1 h=>
 some (.tuple #[y4_1,y5_1],h)
 | .bool false=>
 ae (some (x1,h)) fun y25 h=>
 ae (pu (cH y25) h) fun y26 h=>
 ae (C 15 [y26] h) fun y27 h=>
 ae (some (x0,h)) fun y28 h=>
 ae (C 26 [y28] h) fun y29 h=>
 ae (pu (bin Try.prog .gtr 3 y27 y29) h) fun y30 h=>
 ae (some (y30,h)) fun y24 h=>
 (match y24 with
 | .bool true=>
 ae (some ((.int .i64 0),h)) fun y4_1 h=>
 ae (some ((.int .i64 8),h)) fun y5_1 h=>
 some (.tuple #[y4_1,y5_1],h)
 | .bool false=>
 ae (some (x0,h)) fun y31 h=>
 ae (pu (aB y31) h) fun y32 h=>
 ae (pu (aL y32 7) h) fun y33 h=>
 ae (ba y33 h) fun y34 h=>
 ae (some (y34,h)) fun y7 h=>
 ae (some (x0,h)) fun y35 h=>
 ae (some (x0,h)) fun y36 h=>
 ae (pu (aB y36) h) fun y37 h=>
 ae (pu (aL y37 3) h) fun y38 h=>
 ae (ba y38 h) fun y39 h=>
 ae (some (x0,h)) fun y40 h=>
 ae (pu (aB y40) h) fun y41 h=>
 ae (pu (aL y41 4) h) fun y42 h=>
 ae (ba y42 h) fun y43 h=>
 ae (some (y7,h)) fun y44 h=>
 ae (some (x1,h)) fun y45 h=>
 ae (C 59 [y35,y39,y43,y44,y45] h) fun y46 h=>
 ae (some (y46,h)) fun y8 h=>
 ae (some (y8,h)) fun y47 h=>
 ae (pu (bin Try.prog .neq 28 y47 (.int .i64 0)) h) fun y48 h=>
 (match y48 with
 | .bool true=>
 ae (some (y8,h)) fun y49 h=>
 ae (some ((.int .i64 0),h)) fun y4_1 h=>
 ae (some (y49,h)) fun y5_1 h=>
 some (.tuple #[y4_1,y5_1],h)
 | .bool false=>
 let g19_0:=h
 ae (some (x0,g19_0)) fun y50 g19_1=>
 ae (pu (aB y50) g19_1) fun y51 g19_2=>
 ae (pu (aL y51 7) g19_2) fun y52 g19_3=>
 ae (ba y52 g19_3) fun y53 g19_4=>
 ae (some (x1,g19_4)) fun y54 g19_5=>
 ae (pu (cH y54) g19_5) fun y55 g19_6=>
 ae (C 15 [y55] g19_6) fun y56 g19_7=>
 ae (pu (bin Try.prog .add 3 y53 y56) g19_7) fun y57 g19_8=>
 ae (pu (aB y50) g19_8) fun y58 g19_9=>
 ae (pu (aL y58 7) g19_9) fun y59 g19_10=>
 ae (cf 1 y59 y57 g19_10) fun _ g19_11=>
 (match (cE true (ba y52 g19_7) y53&&true) with
 |true=>
 let h:=g19_11
 ae (some (y7,h)) fun y60 h=>
 ae (some (y60,h)) fun y4_1 h=>
 ae (some ((.int .i64 0),h)) fun y5_1 h=>
 some (.tuple #[y4_1,y5_1],h)
 |false=>none)
 |_=>none)
 |_=>none)
 |_=>none)
 |_=>none)
 |_=>none)
theorem t27_eq (C:al) (x0 x1:Value) (h:ah):bw Try.prog C Try.f27 [x0,x1] h=t27 C x0 x1 h:=
 (aK Try.prog C Try.f27 [x0,x1] h (by kernel_rfl)).trans (by kernel_rfl)
noncomputable def k59_2 (C:al) (e:Env) (h:ah):Out:=cB Try.prog C (partOf Try.f59 [1,1,1]) e h (au Try.prog Try.f59.results.toList) (au Try.prog Try.f59.results.toList) (fun _ _ _=>none)
noncomputable def b59_4 (C:al) (i:Nat) (e:Env) (h:ah):Out:=if i=0 then (k59_2 C) e h else (fun _ _ _=>none) i e h
noncomputable def t59 (C:al) (x0 x1 x2 x3 x4:Value) (h:ah):Out:=
 ae (some ((.int .i64 0),h)) fun bM h=>
 ae (some (x4,h)) fun y16 h=>
 ae (pu (cH y16) h) fun y17 h=>
 ae (C 15 [y17] h) fun cG h=>
 ae (some (cG,h)) fun bY h=>
 ae (some (bY,h)) fun cK h=>
 ae (some ((.int .i64 0),h)) fun y20 h=>
 dD (iter (aI Try.prog C (partOf Try.f59 [1,1,0,1,0,0])) rounds (aY 77 (up (bs [x0,x1,x2,x3,x4]) [(10,bM),(11,bY),(16,y16),(17,y17),(18,cG),(19,cK),(20,y20)])) h) (au Try.prog Try.f59.results.toList) (b59_4 C)
noncomputable def t59k59_2 (_C:al) (_x:Nat→Value) (h:ah):Out:=
 ae (some ((.int .i64 0),h)) fun bM h=>
 some (bM,h)
noncomputable def t59l59_11010 (C:al) (x:Nat→Value) (h:ah):Option (Ex×Env×ah):=
 ae (pu (bin Try.prog .lss 3 (x 20) (x 19)) h) fun y21 h=>
 (match y21 with
 | .bool true=>
 ae (some ((x 20),h)) fun y22 h=>
 ae (some (y22,h)) fun bX h=>
 ae (some ((x 4),h)) fun de h=>
 ae (some (bX,h)) fun y24 h=>
 ae (pu (bin Try.prog .mul 3 y24 (.int .i64 106)) h) fun y25 h=>
 ae (some ((x 4),h)) fun y26 h=>
 ae (pu (cH y26) h) fun y27 h=>
 ae (some (bX,h)) fun y28 h=>
 ae (pu (bin Try.prog .add 3 y28 (.int .i64 1)) h) fun y29 h=>
 ae (pu (bin Try.prog .mul 3 y29 (.int .i64 106)) h) fun y30 h=>
 ae (pu (dA false y27 [y30]) h) fun y31 h=>
 ae (pu (slR 1 de (some y25) (some y31) none) h) fun y32 h=>
 ae (some (y32,h)) fun bR h=>
 ae (C 60 [(.int .i64 124)] h) fun y33 h=>
 ae (some (y33,h)) fun bQ h=>
 ae (some (bQ,h)) fun y34 h=>
 ae (some ((x 2),h)) fun y35 h=>
 ae (C 62 [y34,y35] h) fun y36 h=>
 ae (some (bQ,h)) fun y37 h=>
 ae (some ((x 3),h)) fun y38 h=>
 ae (some (bX,h)) fun y39 h=>
 ae (pu (bin Try.prog .add 3 y38 y39) h) fun y40 h=>
 ae (cvI .u32 y40 h) fun y41 h=>
 ae (C 61 [y37,y41] h) fun y42 h=>
 ae (some (bQ,h)) fun y43 h=>
 ae (some (bX,h)) fun y44 h=>
 ae (cvI .u16 y44 h) fun y45 h=>
 ae (C 91 [y43,y45] h) fun y46 h=>
 ae (some (bQ,h)) fun y47 h=>
 ae (some ((x 11),h)) fun y48 h=>
 ae (cvI .u16 y48 h) fun y49 h=>
 ae (C 91 [y47,y49] h) fun y50 h=>
 ae (some (bQ,h)) fun y51 h=>
 ae (some (bR,h)) fun y52 h=>
 ae (C 92 [y51,y52] h) fun y53 h=>
 let g19_0:=h
 ae (some ((x 0),g19_0)) fun y54 g19_1=>
 ae (pu (aB y54) g19_1) fun y55 g19_2=>
 ae (pu (aL y55 0) g19_2) fun y56 g19_3=>
 ae (ba y56 g19_3) fun y57 g19_4=>
 ae (some ((x 1),g19_4)) fun y58 g19_5=>
 ae (some ((x 0),g19_5)) fun y59 g19_6=>
 ae (pu (aB y59) g19_6) fun y60 g19_7=>
 ae (pu (aL y60 0) g19_7) fun y61 g19_8=>
 ae (ba y61 g19_8) fun y62 g19_9=>
 ae (C 55 [y62] g19_9) fun y63 g19_10=>
 ae (pu (bin Try.prog .mul 3 y58 y63) g19_10) fun y64 g19_11=>
 ae (pu (bin Try.prog .add 3 (.int .i64 2) y64) g19_11) fun y65 g19_12=>
 ae (some ((x 3),g19_12)) fun y66 g19_13=>
 ae (pu (bin Try.prog .add 3 y65 y66) g19_13) fun y67 g19_14=>
 ae (some (bX,g19_14)) fun y68 g19_15=>
 ae (pu (bin Try.prog .add 3 y67 y68) g19_15) fun y69 g19_16=>
 ae (some (bQ,g19_16)) fun y70 g19_17=>
 ae (C 64 [y70] g19_17) fun y71 g19_18=>
 ae (C 19 [y57,y69,y71] g19_18) fun y72 g19_19=>
 ae (some (y72,g19_19)) fun y15 g19_20=>
 (match (cE true (ba y56 g19_10) y57&&(cE true (ba y56 g19_18) y57&&true)) with
 |true=>
 let h:=g19_20
 ae (some (y15,h)) fun y73 h=>
 ae (pu (bin Try.prog .neq 28 y73 (.int .i64 0)) h) fun y74 h=>
 (match y74 with
 | .bool true=>
 ae (some (y15,h)) fun y75 h=>
 ae (some (y75,h)) fun bM h=>
 some (.ret,(aY 77 (up x [(10,bM),(12,bX),(13,bR),(14,bQ),(15,y15),(21,y21),(22,y22),(23,de),(24,y24),(25,y25),(26,y26),(27,y27),(28,y28),(29,y29),(30,y30),(31,y31),(32,y32),(33,y33),(34,y34),(35,y35),(36,y36),(37,y37),(38,y38),(39,y39),(40,y40),(41,y41),(42,y42),(43,y43),(44,y44),(45,y45),(46,y46),(47,y47),(48,y48),(49,y49),(50,y50),(51,y51),(52,y52),(53,y53),(54,y54),(55,y55),(56,y56),(57,y57),(58,y58),(59,y59),(60,y60),(61,y61),(62,y62),(63,y63),(64,y64),(65,y65),(66,y66),(67,y67),(68,y68),(69,y69),(70,y70),(71,y71),(72,y72),(73,y73),(74,y74),(75,y75)])),h)
 | .bool false=>
 ae (pu (bin Try.prog .add 3 (x 20) (.int .i64 1)) h) fun y76 h=>
 ae (some (y76,h)) fun y20 h=>
 some (.normal,(aY 77 (up x [(12,bX),(13,bR),(14,bQ),(15,y15),(20,y20),(21,y21),(22,y22),(23,de),(24,y24),(25,y25),(26,y26),(27,y27),(28,y28),(29,y29),(30,y30),(31,y31),(32,y32),(33,y33),(34,y34),(35,y35),(36,y36),(37,y37),(38,y38),(39,y39),(40,y40),(41,y41),(42,y42),(43,y43),(44,y44),(45,y45),(46,y46),(47,y47),(48,y48),(49,y49),(50,y50),(51,y51),(52,y52),(53,y53),(54,y54),(55,y55),(56,y56),(57,y57),(58,y58),(59,y59),(60,y60),(61,y61),(62,y62),(63,y63),(64,y64),(65,y65),(66,y66),(67,y67),(68,y68),(69,y69),(70,y70),(71,y71),(72,y72),(73,y73),(74,y74),(76,y76)])),h)
 |_=>none)
 |false=>none)
 | .bool false=>
 some (.exit 0,(aY 77 (up x [(21,y21)])),h)
 |_=>none)
theorem t59_eq (C:al) (x0 x1 x2 x3 x4:Value) (h:ah):bw Try.prog C Try.f59 [x0,x1,x2,x3,x4] h=t59 C x0 x1 x2 x3 x4 h:=
 (aK Try.prog C Try.f59 [x0,x1,x2,x3,x4] h (by kernel_rfl)).trans (by kernel_rfl)
theorem t59k59_2_eq (C:al) (x:Nat→Value) (h:ah):k59_2 C (aY 77 x) h=t59k59_2 C x h:=
 bt (b:=(partOf Try.f59 [1,1,1])) (kE:=(au Try.prog Try.f59.results.toList)) (rE:=(au Try.prog Try.f59.results.toList)) (xE:=(fun _ _ _=>none)) (T:=t59k59_2 C) (fun x h=>by kernel_rfl) x h
theorem t59l59_11010_eq (C:al) (x:Nat→Value) (h:ah):aI Try.prog C (partOf Try.f59 [1,1,0,1,0,0]) (aY 77 x) h=t59l59_11010 C x h:=
 bj (T:=t59l59_11010 C) (fun x h=>by kernel_rfl) x h
noncomputable def t3 (C:al) (x0:Value) (h:ah):Out:=
 ae (some ((.bool false),h)) fun _y2 h=>
 ae (some (x0,h)) fun y4 h=>
 ae (pu (bin Try.prog .gtr 3 y4 (.int .i64 16777216)) h) fun y5 h=>
 (match y5 with
 | .bool true=>
 ae (C 14 [] h) fun y6 h=>
 ae (some (y6,h)) fun y2_1 h=>
 some (y2_1,h)
 | .bool false=>
 ae (some (x0,h)) fun y7 h=>
 ae (C 15 [y7] h) fun y8 h=>
 ae (some (y8,h)) fun y3 h=>
 ae (some (y3,h)) fun y9 h=>
 ae (pu (bin Try.prog .geq 3 y9 (.int .i64 1)) h) fun bM h=>
 ae (some (bM,h)) fun bY h=>
 ae (ao (aZ bY==some true) (some (y3,h)) h) fun bX h=>
 ae (ao (aZ bY==some true) (some (x0,h)) h) fun bR h=>
 ae (ao (aZ bY==some true) (C 16 [bR] h) h) fun bQ h=>
 ae (ao (aZ bY==some true) (pu (bin Try.prog .eql 3 bX bQ) h) h) fun y15 h=>
 ae (match bY with | .bool t=>some (if t then y15 else (.bool false),h)|_=>none) fun y16 h=>
 ae (some (y16,h)) fun y17 h=>
 ae (ao (aZ y17==some true) (some (x0,h)) h) fun cG h=>
 ae (ao (aZ y17==some true) (pu (bin Try.prog .leq 3 cG (.int .i64 106)) h) h) fun cK h=>
 ae (ao (aZ y17==some true) (some (cK,h)) h) fun y20 h=>
 ae (ao (aZ y20==some false) (some (y3,h)) h) fun y21 h=>
 ae (ao (aZ y20==some false) (pu (bin Try.prog .mul 3 (.int .i64 106) y21) h) h) fun y22 h=>
 ae (ao (aZ y20==some false) (some (x0,h)) h) fun de h=>
 ae (ao (aZ y20==some false) (pu (bin Try.prog .geq 3 y22 de) h) h) fun y24 h=>
 ae (ao (aZ y20==some false) (some (y24,h)) h) fun y25 h=>
 ae (ao (aZ y25==some true) (some (y3,h)) h) fun y26 h=>
 ae (ao (aZ y25==some true) (pu (bin Try.prog .sub 3 y26 (.int .i64 1)) h) h) fun y27 h=>
 ae (ao (aZ y25==some true) (pu (bin Try.prog .mul 3 (.int .i64 106) y27) h) h) fun y28 h=>
 ae (ao (aZ y25==some true) (some (x0,h)) h) fun y29 h=>
 ae (ao (aZ y25==some true) (pu (bin Try.prog .lss 3 y28 y29) h) h) fun y30 h=>
 ae (ao (aZ y20==some false) (match y25 with | .bool t=>some (if t then y30 else (.bool false),h)|_=>none) h) fun y31 h=>
 ae (ao (aZ y17==some true) (match y20 with | .bool t=>some (if t then (.bool true) else y31,h)|_=>none) h) fun y32 h=>
 ae (match y17 with | .bool t=>some (if t then y32 else (.bool false),h)|_=>none) fun y33 h=>
 ae (some (y33,h)) fun y34 h=>
 ae (ao (aZ y34==some true) (C 14 [] h) h) fun y35 h=>
 ae (match y34 with | .bool t=>some (if t then y35 else (.bool false),h)|_=>none) fun y36 h=>
 ae (some (y36,h)) fun y2_1 h=>
 some (y2_1,h)
 |_=>none)
theorem t3_eq (C:al) (x0:Value) (h:ah):bw Try.prog C Try.f3 [x0] h=t3 C x0 h:=
 (aK Try.prog C Try.f3 [x0] h (by kernel_rfl)).trans (by kernel_rfl)
noncomputable def k16_2 (C:al) (e:Env) (h:ah):Out:=cB Try.prog C (partOf Try.f16 [1,1,1]) e h (au Try.prog Try.f16.results.toList) (au Try.prog Try.f16.results.toList) (fun _ _ _=>none)
noncomputable def b16_4 (C:al) (i:Nat) (e:Env) (h:ah):Out:=if i=0 then (k16_2 C) e h else (fun _ _ _=>none) i e h
noncomputable def t16 (C:al) (x0:Value) (h:ah):Out:=
 ae (some ((.int .i64 0),h)) fun y2 h=>
 ae (some ((.int .i64 1),h)) fun y3 h=>
 ae (some (x0,h)) fun y5 h=>
 ae (some (y5,h)) fun y4 h=>
 dD (iter (aI Try.prog C (partOf Try.f16 [1,1,0,1,0,0])) rounds (aY 13 (up (bs [x0]) [(2,y2),(3,y3),(4,y4),(5,y5)])) h) (au Try.prog Try.f16.results.toList) (b16_4 C)
noncomputable def t16k16_2 (_C:al) (x:Nat→Value) (h:ah):Out:=
 ae (some ((x 3),h)) fun bX h=>
 ae (some (bX,h)) fun y2 h=>
 some (y2,h)
noncomputable def t16l16_11010 (_C:al) (x:Nat→Value) (h:ah):Option (Ex×Env×ah):=
 ae (some ((x 4),h)) fun y6 h=>
 ae (pu (bin Try.prog .gtr 3 y6 (.int .i64 106)) h) fun y7 h=>
 (match y7 with
 | .bool true=>
 ae (some ((x 3),h)) fun bM h=>
 ae (pu (bin Try.prog .add 3 bM (.int .i64 1)) h) fun bY h=>
 ae (some (bY,h)) fun y3 h=>
 ae (some ((x 4),h)) fun y8 h=>
 ae (pu (bin Try.prog .sub 3 y8 (.int .i64 106)) h) fun y9 h=>
 ae (some (y9,h)) fun y4 h=>
 some (.normal,(aY 13 (up x [(3,y3),(4,y4),(6,y6),(7,y7),(8,y8),(9,y9),(10,bM),(11,bY)])),h)
 | .bool false=>
 some (.exit 0,(aY 13 (up x [(6,y6),(7,y7)])),h)
 |_=>none)
theorem t16_eq (C:al) (x0:Value) (h:ah):bw Try.prog C Try.f16 [x0] h=t16 C x0 h:=
 (aK Try.prog C Try.f16 [x0] h (by kernel_rfl)).trans (by kernel_rfl)
theorem t16k16_2_eq (C:al) (x:Nat→Value) (h:ah):k16_2 C (aY 13 x) h=t16k16_2 C x h:=
 bt (b:=(partOf Try.f16 [1,1,1])) (kE:=(au Try.prog Try.f16.results.toList)) (rE:=(au Try.prog Try.f16.results.toList)) (xE:=(fun _ _ _=>none)) (T:=t16k16_2 C) (fun x h=>by kernel_rfl) x h
theorem t16l16_11010_eq (C:al) (x:Nat→Value) (h:ah):aI Try.prog C (partOf Try.f16 [1,1,0,1,0,0]) (aY 13 x) h=t16l16_11010 C x h:=
 bj (T:=t16l16_11010 C) (fun x h=>by kernel_rfl) x h
end Go.Proofs.Ytcmfgmhadeeieaa

