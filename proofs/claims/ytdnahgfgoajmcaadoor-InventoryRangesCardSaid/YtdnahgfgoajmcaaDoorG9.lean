/-
  A part of the proof, spaces and names shortened by a program (a claim may hold 1,500,000 bytes).
  Conditions: as each theorem states.
-/
import Derived.Test.YtdnahgfgoajmcaaDoorG8
import Derived.Test.YtdnahgfgoajmcaaDoorProg
import Derived.KernelRfl
namespace Go.Proofs.YtdnahgfgoajmcaaDoor
open Go Go.Abs
noncomputable def t42 (C:ae) (x0:Value) (h:ab):Out:=
 aa (box x0 h) fun y1 h=>
 aa (some ((.bool false),h)) fun _y2 h=>
 aa (pu (aL y1 0) h) fun y3 h=>
 aa (ld1 y3 h) fun y4 h=>
 aa (pu (bin Tryd.prog .eql 56 y4 (.int .u8 1)) h) fun y6 h=>
 aa (some (y6,h)) fun y5 h=>
 (match y5 with
 | .bool true=>
 aa (cT 39 y1 h) fun y7 h=>
 aa (pu (aL y1 0) h) fun y8 h=>
 aa (ld1 y8 h) fun y9 h=>
 aa (pu (aL y1 33) h) fun y10 h=>
 aa (ld1 y10 h) fun y11 h=>
 aa (pu (aL y1 34) h) fun y12 h=>
 aa (ld1 y12 h) fun y13 h=>
 aa (pu (eW [(.int .u8 0),(.int .u8 0),(.int .u8 0),(.int .u8 0),(.int .u8 0),(.int .u8 0),(.int .u8 0),(.int .u8 0),(.int .u8 0),(.int .u8 0),(.int .u8 0),(.int .u8 0),(.int .u8 0),(.int .u8 0),(.int .u8 0),(.int .u8 0),(.int .u8 0),(.int .u8 0),(.int .u8 0),(.int .u8 0),(.int .u8 0),(.int .u8 0),(.int .u8 0),(.int .u8 0),(.int .u8 0),(.int .u8 0),(.int .u8 0),(.int .u8 0),(.int .u8 0),(.int .u8 0),(.int .u8 0),(.int .u8 0),(.int .u8 0),(.int .i64 0),(.int .u64 0),(.int .u64 0),(.bool false),(.int .i64 0),(.int .i64 0)] [(0,1,y9),(33,1,y11),(34,1,y13)]) h) fun y14 h=>
 aa (pu (bin Tryd.prog .eql 58 y7 y14) h) fun y15 h=>
 aa (some (y15,h)) fun y16 h=>
 aa (ai (aR y16==some true) (cT 39 y1 h) h) fun y17 h=>
 aa (ai (aR y16==some true) (C 86 [y17] h) h) fun y18 h=>
 aa (match y16 with | .bool t=>some (if t then y18 else (.bool false),h)|_=>none) fun y19 h=>
 aa (some (y19,h)) fun y2_1 h=>
 some (y2_1,h)
 | .bool false=>
 aa (pu (bin Tryd.prog .eql 56 y4 (.int .u8 2)) h) fun y21 h=>
 aa (some (y21,h)) fun y20 h=>
 (match y20 with
 | .bool true=>
 aa (cT 39 y1 h) fun y22 h=>
 aa (pu (aL y1 0) h) fun y23 h=>
 aa (ld1 y23 h) fun y24 h=>
 aa (pu (aL y1 1) h) fun y25 h=>
 aa (cT 32 y25 h) fun y26 h=>
 aa (pu (eW [(.int .u8 0),(.int .u8 0),(.int .u8 0),(.int .u8 0),(.int .u8 0),(.int .u8 0),(.int .u8 0),(.int .u8 0),(.int .u8 0),(.int .u8 0),(.int .u8 0),(.int .u8 0),(.int .u8 0),(.int .u8 0),(.int .u8 0),(.int .u8 0),(.int .u8 0),(.int .u8 0),(.int .u8 0),(.int .u8 0),(.int .u8 0),(.int .u8 0),(.int .u8 0),(.int .u8 0),(.int .u8 0),(.int .u8 0),(.int .u8 0),(.int .u8 0),(.int .u8 0),(.int .u8 0),(.int .u8 0),(.int .u8 0),(.int .u8 0),(.int .i64 0),(.int .u64 0),(.int .u64 0),(.bool false),(.int .i64 0),(.int .i64 0)] [(0,1,y24),(1,32,y26)]) h) fun y27 h=>
 aa (pu (bin Tryd.prog .eql 58 y22 y27) h) fun y28 h=>
 aa (some (y28,h)) fun y2_1 h=>
 some (y2_1,h)
 | .bool false=>
 aa (pu (bin Tryd.prog .eql 56 y4 (.int .u8 3)) h) fun y30 h=>
 aa (some (y30,h)) fun y29 h=>
 (match y29 with
 | .bool true=>
 aa (cT 39 y1 h) fun y31 h=>
 aa (C 86 [y31] h) fun y32 h=>
 aa (some (y32,h)) fun y33 h=>
 aa (ai (aR y33==some true) (pu (aL y1 35) h) h) fun y34 h=>
 aa (ai (aR y33==some true) (ld1 y34 h) h) fun y35 h=>
 aa (ai (aR y33==some true) (pu (bin Tryd.prog .geq 32 y35 (.int .u64 1)) h) h) fun y36 h=>
 aa (match y33 with | .bool t=>some (if t then y36 else (.bool false),h)|_=>none) fun y37 h=>
 aa (some (y37,h)) fun y38 h=>
 aa (ai (aR y38==some true) (pu (aL y1 37) h) h) fun y39 h=>
 aa (ai (aR y38==some true) (ld1 y39 h) h) fun y40 h=>
 aa (ai (aR y38==some true) (pu (bin Tryd.prog .leq 3 (.int .i64 1) y40) h) h) fun y41 h=>
 aa (match y38 with | .bool t=>some (if t then y41 else (.bool false),h)|_=>none) fun y42 h=>
 aa (some (y42,h)) fun y43 h=>
 aa (ai (aR y43==some true) (pu (aL y1 37) h) h) fun y44 h=>
 aa (ai (aR y43==some true) (ld1 y44 h) h) fun y45 h=>
 aa (ai (aR y43==some true) (pu (aL y1 38) h) h) fun y46 h=>
 aa (ai (aR y43==some true) (ld1 y46 h) h) fun y47 h=>
 aa (ai (aR y43==some true) (pu (bin Tryd.prog .leq 3 y45 y47) h) h) fun y48 h=>
 aa (match y43 with | .bool t=>some (if t then y48 else (.bool false),h)|_=>none) fun y49 h=>
 aa (some (y49,h)) fun y50 h=>
 aa (ai (aR y50==some true) (pu (aL y1 38) h) h) fun y51 h=>
 aa (ai (aR y50==some true) (ld1 y51 h) h) fun y52 h=>
 aa (ai (aR y50==some true) (pu (bin Tryd.prog .leq 3 y52 (.int .i64 255)) h) h) fun y53 h=>
 aa (match y50 with | .bool t=>some (if t then y53 else (.bool false),h)|_=>none) fun y54 h=>
 aa (some (y54,h)) fun y2_1 h=>
 some (y2_1,h)
 | .bool false=>
 aa (some ((.bool false),h)) fun y2_1 h=>
 some (y2_1,h)
 |_=>none)
 |_=>none)
 |_=>none)
theorem t42_eq (C:ae) (x0:Value) (h:ab):bw Tryd.prog C Tryd.f42 [x0] h=t42 C x0 h:=
 (aG Tryd.prog C Tryd.f42 [x0] h (by kernel_rfl)).trans (by kernel_rfl)
noncomputable def t43 (C:ae) (x0:Value) (h:ab):Out:=
 aa (box x0 h) fun y1 h=>
 aa (some ((.slice none 0 0),h)) fun _y2 h=>
 aa (some ((.int .i64 0),h)) fun _y3 h=>
 aa (cT 39 y1 h) fun y7 h=>
 aa (C 42 [y7] h) fun y8 h=>
 aa (pu (unA .not y8) h) fun y9 h=>
 (match y9 with
 | .bool true=>
 aa (some ((.slice none 0 0),h)) fun y2_1 h=>
 aa (some ((.int .i64 2),h)) fun y3_1 h=>
 some (.tuple #[y2_1,y3_1],h)
 | .bool false=>
 aa (C 87 [(.int .i64 53)] h) fun y10 h=>
 aa (some (y10,h)) fun y4 h=>
 aa (some (y4,h)) fun y11 h=>
 aa (pu (aL y1 0) h) fun y12 h=>
 aa (ld1 y12 h) fun y13 h=>
 aa (C 88 [y11,y13] h) fun _y14 h=>
 aa (some (y4,h)) fun y15 h=>
 aa (pu (aL y1 1) h) fun y16 h=>
 aa (pu (cy 32 1 y16 none none none) h) fun y17 h=>
 aa (C 89 [y15,y17] h) fun _y18 h=>
 aa (some (y4,h)) fun y19 h=>
 aa (pu (aL y1 33) h) fun y20 h=>
 aa (ld1 y20 h) fun y21 h=>
 aa (cvI .u8 y21 h) fun y22 h=>
 aa (C 88 [y19,y22] h) fun _y23 h=>
 aa (some (y4,h)) fun y24 h=>
 aa (pu (aL y1 34) h) fun y25 h=>
 aa (ld1 y25 h) fun y26 h=>
 aa (C 90 [y24,y26] h) fun _y27 h=>
 aa (some (y4,h)) fun y28 h=>
 aa (pu (aL y1 35) h) fun y29 h=>
 aa (ld1 y29 h) fun y30 h=>
 aa (C 90 [y28,y30] h) fun _y31 h=>
 aa (some (y4,h)) fun y32 h=>
 aa (C 88 [y32,(.int .u8 0)] h) fun _y33 h=>
 aa (some (y4,h)) fun y34 h=>
 aa (pu (aL y1 37) h) fun y35 h=>
 aa (ld1 y35 h) fun y36 h=>
 aa (cvI .u8 y36 h) fun y37 h=>
 aa (C 88 [y34,y37] h) fun _y38 h=>
 aa (some (y4,h)) fun y39 h=>
 aa (pu (aL y1 38) h) fun y40 h=>
 aa (ld1 y40 h) fun y41 h=>
 aa (cvI .u8 y41 h) fun y42 h=>
 aa (C 88 [y39,y42] h) fun _y43 h=>
 aa (some (y4,h)) fun y45 h=>
 aa (C 91 [y45] h) fun y46 h=>
 aa (some (y46,h)) fun y44 h=>
 aa (pu (bm y44 0) h) fun y47 h=>
 aa (pu (bm y44 1) h) fun y48 h=>
 aa (some (y47,h)) fun y5 h=>
 aa (some (y48,h)) fun y6 h=>
 aa (pu (aL y1 36) h) fun y49 h=>
 aa (ld1 y49 h) fun y50 h=>
 (match y50 with
 | .bool true=>
 aa (some (y5,h)) fun y51 h=>
 aa (some (y5,h)) fun y52 h=>
 aa (pu (cN y52) h) fun y53 h=>
 aa (pu (bin Tryd.prog .sub 3 y53 (.int .i64 3)) h) fun y54 h=>
 aa (pu (df 1 y51 y54) h) fun y55 h=>
 aa (eT 1 y55 (.int .u8 1) h) fun _ h=>
 aa (some (y5,h)) fun y56 h=>
 aa (some (y6,h)) fun y57 h=>
 aa (some (y56,h)) fun y2_1 h=>
 aa (some (y57,h)) fun y3_1 h=>
 some (.tuple #[y2_1,y3_1],h)
 | .bool false=>
 aa (some (y5,h)) fun y56 h=>
 aa (some (y6,h)) fun y57 h=>
 aa (some (y56,h)) fun y2_1 h=>
 aa (some (y57,h)) fun y3_1 h=>
 some (.tuple #[y2_1,y3_1],h)
 |_=>none)
 |_=>none)
theorem t43_eq (C:ae) (x0:Value) (h:ab):bw Tryd.prog C Tryd.f43 [x0] h=t43 C x0 h:=
 (aG Tryd.prog C Tryd.f43 [x0] h (by kernel_rfl)).trans (by kernel_rfl)
noncomputable def t53 (_C:ae) (x0:Value) (h:ab):Out:=
 aa (some ((.slice none 0 0),h)) fun _y2 h=>
 aa (some (x0,h)) fun y3 h=>
 aa (pu (bin Tryd.prog .eql 23 y3 (.slice none 0 0)) h) fun y4 h=>
 (match y4 with
 | .bool true=>
 aa (some ((.slice none 0 0),h)) fun y2_1 h=>
 some (y2_1,h)
 | .bool false=>
 aa (cO 1 (.int .u8 0) 0 [] h) fun y5 h=>
 aa (some (x0,h)) fun y6 h=>
 aa (aD 1 1 y5 y6 h) fun y7 h=>
 aa (some (y7,h)) fun y2_1 h=>
 some (y2_1,h)
 |_=>none)
theorem t53_eq (C:ae) (x0:Value) (h:ab):bw Tryd.prog C Tryd.f53 [x0] h=t53 C x0 h:=
 (aG Tryd.prog C Tryd.f53 [x0] h (by kernel_rfl)).trans (by kernel_rfl)
noncomputable def t86 (_C:ae) (x0:Value) (h:ab):Out:=
 aa (box x0 h) fun y1 h=>
 aa (some ((.bool false),h)) fun _y2 h=>
 aa (pu (aL y1 33) h) fun y3 h=>
 aa (ld1 y3 h) fun y4 h=>
 aa (pu (bin Tryd.prog .geq 3 y4 (.int .i64 0)) h) fun y5 h=>
 aa (some (y5,h)) fun y6 h=>
 aa (ai (aR y6==some true) (pu (aL y1 33) h) h) fun y7 h=>
 aa (ai (aR y6==some true) (ld1 y7 h) h) fun y8 h=>
 aa (ai (aR y6==some true) (pu (bin Tryd.prog .lss 3 y8 (.int .i64 16)) h) h) fun y9 h=>
 aa (match y6 with | .bool t=>some (if t then y9 else (.bool false),h)|_=>none) fun y10 h=>
 aa (some (y10,h)) fun y11 h=>
 aa (ai (aR y11==some true) (pu (aL y1 34) h) h) fun y12 h=>
 aa (ai (aR y11==some true) (ld1 y12 h) h) fun y13 h=>
 aa (ai (aR y11==some true) (pu (bin Tryd.prog .geq 32 y13 (.int .u64 1)) h) h) fun y14 h=>
 aa (match y11 with | .bool t=>some (if t then y14 else (.bool false),h)|_=>none) fun y15 h=>
 aa (some (y15,h)) fun y2_1 h=>
 some (y2_1,h)
theorem t86_eq (C:ae) (x0:Value) (h:ab):bw Tryd.prog C Tryd.f86 [x0] h=t86 C x0 h:=
 (aG Tryd.prog C Tryd.f86 [x0] h (by kernel_rfl)).trans (by kernel_rfl)
noncomputable def t87 (_C:ae) (x0:Value) (h:ab):Out:=
 aa (some ((.pointer none),h)) fun _y2 h=>
 aa (some (x0,h)) fun y3 h=>
 aa (pu (eY true (.int .i64 0) [y3]) h) fun y4 h=>
 aa (pu (eW [(.int .i64 0),(.bool false),(.slice none 0 0)] [(0,1,y4)]) h) fun y5 h=>
 aa (box y5 h) fun y6 h=>
 aa (some (y6,h)) fun y2_1 h=>
 some (y2_1,h)
theorem t87_eq (C:ae) (x0:Value) (h:ab):bw Tryd.prog C Tryd.f87 [x0] h=t87 C x0 h:=
 (aG Tryd.prog C Tryd.f87 [x0] h (by kernel_rfl)).trans (by kernel_rfl)
noncomputable def t88 (C:ae) (x0 x1:Value) (h:ab):Out:=
 aa (some (x0,h)) fun y4 h=>
 aa (some (x1,h)) fun y5 h=>
 aa (cvI .u64 y5 h) fun y6 h=>
 aa (C 125 [y4,y6,(.int .i64 1)] h) fun _y7 h=>
 some (.tuple #[],h)
theorem t88_eq (C:ae) (x0 x1:Value) (h:ab):bw Tryd.prog C Tryd.f88 [x0,x1] h=t88 C x0 x1 h:=
 (aG Tryd.prog C Tryd.f88 [x0,x1] h (by kernel_rfl)).trans (by kernel_rfl)
noncomputable def t89 (C:ae) (x0 x1:Value) (h:ab):Out:=
 aa (some (x0,h)) fun y4 h=>
 aa (some (x1,h)) fun y5 h=>
 aa (pu (cN y5) h) fun y6 h=>
 aa (C 126 [y4,y6] h) fun y7 h=>
 (match y7 with
 | .bool true=>
 aa (some (x0,h)) fun y8 h=>
 aa (some (x0,h)) fun y9 h=>
 aa (pu (aN y9) h) fun y10 h=>
 aa (pu (aL y10 2) h) fun y11 h=>
 aa (ld1 y11 h) fun y12 h=>
 aa (some (x1,h)) fun y13 h=>
 aa (aD 1 1 y12 y13 h) fun y14 h=>
 aa (pu (aN y8) h) fun y15 h=>
 aa (pu (aL y15 2) h) fun y16 h=>
 aa (eT 1 y16 y14 h) fun _ h=>
 some (.tuple #[],h)
 | .bool false=>
 some (.tuple #[],h)
 |_=>none)
theorem t89_eq (C:ae) (x0 x1:Value) (h:ab):bw Tryd.prog C Tryd.f89 [x0,x1] h=t89 C x0 x1 h:=
 (aG Tryd.prog C Tryd.f89 [x0,x1] h (by kernel_rfl)).trans (by kernel_rfl)
noncomputable def t90 (C:ae) (x0 x1:Value) (h:ab):Out:=
 aa (some (x0,h)) fun y4 h=>
 aa (some (x1,h)) fun y5 h=>
 aa (C 125 [y4,y5,(.int .i64 8)] h) fun _y6 h=>
 some (.tuple #[],h)
theorem t90_eq (C:ae) (x0 x1:Value) (h:ab):bw Tryd.prog C Tryd.f90 [x0,x1] h=t90 C x0 x1 h:=
 (aG Tryd.prog C Tryd.f90 [x0,x1] h (by kernel_rfl)).trans (by kernel_rfl)
noncomputable def t91 (C:ae) (x0:Value) (h:ab):Out:=
 aa (some ((.slice none 0 0),h)) fun _y2 h=>
 aa (some ((.int .i64 0),h)) fun _y3 h=>
 aa (some (x0,h)) fun y5 h=>
 aa (pu (bin Tryd.prog .eql 126 y5 (.pointer none)) h) fun y6 h=>
 aa (some (y6,h)) fun y4 h=>
 (match y4 with
 | .bool true=>
 aa (some ((.slice none 0 0),h)) fun y2_1 h=>
 aa (some ((.int .i64 1),h)) fun y3_1 h=>
 some (.tuple #[y2_1,y3_1],h)
 | .bool false=>
 aa (some (x0,h)) fun y8 h=>
 aa (pu (aN y8) h) fun y9 h=>
 aa (pu (aL y9 1) h) fun y10 h=>
 aa (ld1 y10 h) fun y11 h=>
 aa (some (y11,h)) fun y7 h=>
 (match y7 with
 | .bool true=>
 aa (some ((.slice none 0 0),h)) fun y2_1 h=>
 aa (some ((.int .i64 3),h)) fun y3_1 h=>
 some (.tuple #[y2_1,y3_1],h)
 | .bool false=>
 aa (some (x0,h)) fun y12 h=>
 aa (pu (aN y12) h) fun y13 h=>
 aa (pu (aL y13 2) h) fun y14 h=>
 aa (ld1 y14 h) fun y15 h=>
 aa (C 53 [y15] h) fun y16 h=>
 aa (some (y16,h)) fun y2_1 h=>
 aa (some ((.int .i64 0),h)) fun y3_1 h=>
 some (.tuple #[y2_1,y3_1],h)
 |_=>none)
 |_=>none)
theorem t91_eq (C:ae) (x0:Value) (h:ab):bw Tryd.prog C Tryd.f91 [x0] h=t91 C x0 h:=
 (aG Tryd.prog C Tryd.f91 [x0] h (by kernel_rfl)).trans (by kernel_rfl)
noncomputable def b125_2 (_C:ae) (i:Nat) (e:Env) (h:ab):Out:=if i=0 then (aj Tryd.prog Tryd.f125.results.toList) e h else (fun _ _ _=>none) i e h
noncomputable def t125 (C:ae) (x0 x1 x2:Value) (h:ab):Out:=
 aa (some (x0,h)) fun y7 h=>
 aa (some (x2,h)) fun y8 h=>
 aa (C 126 [y7,y8] h) fun y9 h=>
 (match y9 with
 | .bool true=>
 aa (some (x2,h)) fun y10 h=>
 aa (pu (bin Tryd.prog .sub 3 y10 (.int .i64 1)) h) fun y11 h=>
 aa (some (y11,h)) fun y6 h=>
 fl (iter (av Tryd.prog C (partOf Tryd.f125 [1,0,1,0,0])) rounds (aO 30 (up (bs [x0,x1,x2]) [(6,y6),(7,y7),(8,y8),(9,y9),(10,y10),(11,y11)])) h) (aj Tryd.prog Tryd.f125.results.toList) (b125_2 C)
 | .bool false=>
 some (.tuple #[],h)
 |_=>none)
noncomputable def t125l125_1010 (_C:ae) (x:Nat→Value) (h:ab):Option (Ex×Env×ab):=
 aa (some ((x 6),h)) fun y12 h=>
 aa (pu (bin Tryd.prog .geq 3 y12 (.int .i64 0)) h) fun y13 h=>
 (match y13 with
 | .bool true=>
 aa (some ((x 0),h)) fun y16 h=>
 aa (some ((x 0),h)) fun y17 h=>
 aa (pu (aN y17) h) fun y18 h=>
 aa (pu (aL y18 2) h) fun y19 h=>
 aa (ld1 y19 h) fun y20 h=>
 aa (some ((x 1),h)) fun y21 h=>
 aa (some ((x 6),h)) fun y22 h=>
 aa (pu (bin Tryd.prog .mul 3 (.int .i64 8) y22) h) fun y23 h=>
 aa (pu (bin Tryd.prog .shr 32 y21 y23) h) fun y24 h=>
 aa (cvI .u8 y24 h) fun y25 h=>
 aa (cO 1 (.int .u8 0) 1 [(0,y25)] h) fun y26 h=>
 aa (aD 1 1 y20 y26 h) fun y27 h=>
 aa (pu (aN y16) h) fun y28 h=>
 aa (pu (aL y28 2) h) fun y29 h=>
 aa (eT 1 y29 y27 h) fun _ h=>
 aa (some ((x 6),h)) fun y14 h=>
 aa (pu (bin Tryd.prog .sub 3 y14 (.int .i64 1)) h) fun y15 h=>
 aa (some (y15,h)) fun y6 h=>
 some (.normal,(aO 30 (up x [(6,y6),(12,y12),(13,y13),(14,y14),(15,y15),(16,y16),(17,y17),(18,y18),(19,y19),(20,y20),(21,y21),(22,y22),(23,y23),(24,y24),(25,y25),(26,y26),(27,y27),(28,y28),(29,y29)])),h)
 | .bool false=>
 some (.exit 0,(aO 30 (up x [(12,y12),(13,y13)])),h)
 |_=>none)
theorem t125_eq (C:ae) (x0 x1 x2:Value) (h:ab):bw Tryd.prog C Tryd.f125 [x0,x1,x2] h=t125 C x0 x1 x2 h:=
 (aG Tryd.prog C Tryd.f125 [x0,x1,x2] h (by kernel_rfl)).trans (by kernel_rfl)
theorem t125l125_1010_eq (C:ae) (x:Nat→Value) (h:ab):av Tryd.prog C (partOf Tryd.f125 [1,0,1,0,0]) (aO 30 x) h=t125l125_1010 C x h:=
 aI (T:=t125l125_1010 C) (fun x h=>by kernel_rfl) x h
noncomputable def t126 (_C:ae) (x0 x1:Value) (h:ab):Out:=
 aa (some ((.bool false),h)) fun _y4 h=>
 aa (some (x0,h)) fun y5 h=>
 aa (pu (bin Tryd.prog .eql 126 y5 (.pointer none)) h) fun y6 h=>
 aa (some (y6,h)) fun y7 h=>
 aa (ai (aR y7==some false) (some (x0,h)) h) fun y8 h=>
 aa (ai (aR y7==some false) (pu (aN y8) h) h) fun y9 h=>
 aa (ai (aR y7==some false) (pu (aL y9 1) h) h) fun y10 h=>
 aa (ai (aR y7==some false) (ld1 y10 h) h) fun y11 h=>
 aa (match y7 with | .bool t=>some (if t then (.bool true) else y11,h)|_=>none) fun y12 h=>
 (match y12 with
 | .bool true=>
 aa (some ((.bool false),h)) fun y4_1 h=>
 some (y4_1,h)
 | .bool false=>
 aa (some (x0,h)) fun y13 h=>
 aa (some (x1,h)) fun y14 h=>
 aa (some (x0,h)) fun y15 h=>
 aa (pu (aN y15) h) fun y16 h=>
 aa (pu (aL y16 0) h) fun y17 h=>
 aa (ld1 y17 h) fun y18 h=>
 aa (some (x0,h)) fun y19 h=>
 aa (pu (aN y19) h) fun y20 h=>
 aa (pu (aL y20 2) h) fun y21 h=>
 aa (ld1 y21 h) fun y22 h=>
 aa (pu (cN y22) h) fun y23 h=>
 aa (pu (bin Tryd.prog .sub 3 y18 y23) h) fun y24 h=>
 aa (pu (bin Tryd.prog .gtr 3 y14 y24) h) fun y25 h=>
 aa (pu (aN y13) h) fun y26 h=>
 aa (pu (aL y26 1) h) fun y27 h=>
 aa (eT 1 y27 y25 h) fun _ h=>
 aa (some (x0,h)) fun y28 h=>
 aa (pu (aN y28) h) fun y29 h=>
 aa (pu (aL y29 1) h) fun y30 h=>
 aa (ld1 y30 h) fun y31 h=>
 aa (pu (unA .not y31) h) fun y32 h=>
 aa (some (y32,h)) fun y4_1 h=>
 some (y4_1,h)
 |_=>none)
theorem t126_eq (C:ae) (x0 x1:Value) (h:ab):bw Tryd.prog C Tryd.f126 [x0,x1] h=t126 C x0 x1 h:=
 (aG Tryd.prog C Tryd.f126 [x0,x1] h (by kernel_rfl)).trans (by kernel_rfl)
end Go.Proofs.YtdnahgfgoajmcaaDoor

namespace Go.Proofs.YtdnahgfgoajmcaaDoor
open Go Go.Abs
noncomputable def k96_2 (C:ae) (e:Env) (h:ab):Out:=cj Tryd.prog C (partOf Tryd.f96 [1,1,1]) e h (aj Tryd.prog Tryd.f96.results.toList) (aj Tryd.prog Tryd.f96.results.toList) (fun _ _ _=>none)
noncomputable def b96_4 (C:ae) (i:Nat) (e:Env) (h:ab):Out:=if i=0 then (k96_2 C) e h else (fun _ _ _=>none) i e h
noncomputable def t96 (C:ae) (x0 x1:Value) (h:ab):Out:=
 aa (some ((.slice none 0 0),h)) fun y4 h=>
 aa (cO 1 (.int .u8 0) 0 [] h) fun y7 h=>
 aa (some (y7,h)) fun y5 h=>
 aa (some (x1,h)) fun y8 h=>
 aa (pu (bin Tryd.prog .sub 3 y8 (.int .i64 1)) h) fun y9 h=>
 aa (some (y9,h)) fun y6 h=>
 fl (iter (av Tryd.prog C (partOf Tryd.f96 [1,1,0,1,0,0])) rounds (aO 24 (up (bs [x0,x1]) [(4,y4),(5,y5),(6,y6),(7,y7),(8,y8),(9,y9)])) h) (aj Tryd.prog Tryd.f96.results.toList) (b96_4 C)
noncomputable def t96k96_2 (_C:ae) (x:Nat→Value) (h:ab):Out:=
 aa (some ((x 5),h)) fun y23 h=>
 aa (some (y23,h)) fun y4 h=>
 some (y4,h)
noncomputable def t96l96_11010 (_C:ae) (x:Nat→Value) (h:ab):Option (Ex×Env×ab):=
 aa (some ((x 6),h)) fun y10 h=>
 aa (pu (bin Tryd.prog .geq 3 y10 (.int .i64 0)) h) fun y11 h=>
 (match y11 with
 | .bool true=>
 aa (some ((x 5),h)) fun y14 h=>
 aa (some ((x 0),h)) fun y15 h=>
 aa (some ((x 6),h)) fun y16 h=>
 aa (cvI .u64 y16 h) fun y17 h=>
 aa (pu (bin Tryd.prog .mul 111 (.int .u64 8) y17) h) fun y18 h=>
 aa (pu (bin Tryd.prog .shr 32 y15 y18) h) fun y19 h=>
 aa (cvI .u8 y19 h) fun y20 h=>
 aa (cO 1 (.int .u8 0) 1 [(0,y20)] h) fun y21 h=>
 aa (aD 1 1 y14 y21 h) fun y22 h=>
 aa (some (y22,h)) fun y5 h=>
 aa (some ((x 6),h)) fun y12 h=>
 aa (pu (bin Tryd.prog .sub 3 y12 (.int .i64 1)) h) fun y13 h=>
 aa (some (y13,h)) fun y6 h=>
 some (.normal,(aO 24 (up x [(5,y5),(6,y6),(10,y10),(11,y11),(12,y12),(13,y13),(14,y14),(15,y15),(16,y16),(17,y17),(18,y18),(19,y19),(20,y20),(21,y21),(22,y22)])),h)
 | .bool false=>
 some (.exit 0,(aO 24 (up x [(10,y10),(11,y11)])),h)
 |_=>none)
theorem t96_eq (C:ae) (x0 x1:Value) (h:ab):bw Tryd.prog C Tryd.f96 [x0,x1] h=t96 C x0 x1 h:=
 (aG Tryd.prog C Tryd.f96 [x0,x1] h (by kernel_rfl)).trans (by kernel_rfl)
theorem t96k96_2_eq (C:ae) (x:Nat→Value) (h:ab):k96_2 C (aO 24 x) h=t96k96_2 C x h:=
 bk (b:=(partOf Tryd.f96 [1,1,1])) (kE:=(aj Tryd.prog Tryd.f96.results.toList)) (rE:=(aj Tryd.prog Tryd.f96.results.toList)) (xE:=(fun _ _ _=>none)) (T:=t96k96_2 C) (fun x h=>by kernel_rfl) x h
theorem t96l96_11010_eq (C:ae) (x:Nat→Value) (h:ab):av Tryd.prog C (partOf Tryd.f96 [1,1,0,1,0,0]) (aO 24 x) h=t96l96_11010 C x h:=
 aI (T:=t96l96_11010 C) (fun x h=>by kernel_rfl) x h
noncomputable def t97 (_C:ae) (x0:Value) (h:ab):Out:=
 aa (some ((.int .u64 0),h)) fun _y2 h=>
 aa (some (x0,h)) fun y3 h=>
 (match y3 with
 | .bool true=>
 aa (some ((.int .u64 1),h)) fun y2_1 h=>
 some (y2_1,h)
 | .bool false=>
 aa (some ((.int .u64 0),h)) fun y2_1 h=>
 some (y2_1,h)
 |_=>none)
theorem t97_eq (C:ae) (x0:Value) (h:ab):bw Tryd.prog C Tryd.f97 [x0] h=t97 C x0 h:=
 (aG Tryd.prog C Tryd.f97 [x0] h (by kernel_rfl)).trans (by kernel_rfl)
noncomputable def t46 (C:ae) (x0:Value) (h:ab):Out:=
 aa (box x0 h) fun y1 h=>
 aa (some ((.slice none 0 0),h)) fun _y2 h=>
 aa (some ((.int .i64 0),h)) fun _y3 h=>
 aa (cT 39 y1 h) fun y5 h=>
 aa (C 48 [y5] h) fun y6 h=>
 aa (pu (unA .not y6) h) fun y7 h=>
 (match y7 with
 | .bool true=>
 aa (some ((.slice none 0 0),h)) fun y2_1 h=>
 aa (some ((.int .i64 2),h)) fun y3_1 h=>
 some (.tuple #[y2_1,y3_1],h)
 | .bool false=>
 aa (pu (aL y1 0) h) fun y8 h=>
 aa (ld1 y8 h) fun y9 h=>
 aa (pu (aL y1 1) h) fun y11 h=>
 aa (pu (cy 32 1 y11 none none none) h) fun y12 h=>
 aa (cO 1 (.int .u8 0) 1 [(0,y9)] h) fun y10 h=>
 aa (aD 1 1 y10 y12 h) fun y13 h=>
 aa (some (y13,h)) fun y4 h=>
 aa (some (y4,h)) fun y14 h=>
 aa (pu (aL y1 33) h) fun y15 h=>
 aa (ld1 y15 h) fun y16 h=>
 aa (cvI .u8 y16 h) fun y17 h=>
 aa (cO 1 (.int .u8 0) 1 [(0,y17)] h) fun y18 h=>
 aa (aD 1 1 y14 y18 h) fun y19 h=>
 aa (some (y19,h)) fun y4_1 h=>
 let g7_0:=h
 aa (some (y4_1,g7_0)) fun y20 g7_1=>
 aa (pu (aL y1 34) g7_1) fun y21 g7_2=>
 aa (ld1 y21 g7_2) fun y22 g7_3=>
 aa (C 96 [y22,(.int .i64 8)] g7_3) fun y23 g7_4=>
 aa (aD 1 1 y20 y23 g7_4) fun y24 g7_5=>
 aa (pu (aL y1 35) g7_5) fun y25 g7_6=>
 aa (ld1 y25 g7_6) fun y26 g7_7=>
 aa (C 96 [y26,(.int .i64 8)] g7_7) fun y27 g7_8=>
 aa (aD 1 1 y24 y27 g7_8) fun y28 g7_9=>
 aa (some (y28,g7_9)) fun y4_2 g7_10=>
 (match (bN true (ld1 y25 g7_3) y26&&(bN true (ld1 y25 g7_4) y26&&true)) with
 |true=>
 let h:=g7_10
 let g9_0:=h
 aa (some (y4_2,g9_0)) fun y29 g9_1=>
 aa (pu (aL y1 36) g9_1) fun y30 g9_2=>
 aa (ld1 y30 g9_2) fun y31 g9_3=>
 aa (C 97 [y31] g9_3) fun y32 g9_4=>
 aa (cvI .u8 y32 g9_4) fun y33 g9_5=>
 aa (pu (aL y1 37) g9_5) fun y34 g9_6=>
 aa (ld1 y34 g9_6) fun y35 g9_7=>
 aa (cvI .u8 y35 g9_7) fun y36 g9_8=>
 aa (pu (aL y1 38) g9_8) fun y37 g9_9=>
 aa (ld1 y37 g9_9) fun y38 g9_10=>
 aa (cvI .u8 y38 g9_10) fun y39 g9_11=>
 aa (cO 1 (.int .u8 0) 3 [(0,y33),(1,y36),(2,y39)] g9_11) fun y40 g9_12=>
 aa (aD 1 1 y29 y40 g9_12) fun y41 g9_13=>
 aa (some (y41,g9_13)) fun y2_1 g9_14=>
 aa (some ((.int .i64 0),g9_14)) fun y3_1 g9_15=>
 (match (bN true (ld1 y34 g9_3) y35&&(bN true (cvI .u8 y35 g9_3) y36&&(bN true (ld1 y37 g9_3) y38&&(bN true (cvI .u8 y38 g9_3) y39&&true)))) with
 |true=>
 let h:=g9_15
 some (.tuple #[y2_1,y3_1],h)
 |false=>none)
 |false=>none)
 |_=>none)
theorem t46_eq (C:ae) (x0:Value) (h:ab):bw Tryd.prog C Tryd.f46 [x0] h=t46 C x0 h:=
 (aG Tryd.prog C Tryd.f46 [x0] h (by kernel_rfl)).trans (by kernel_rfl)
noncomputable def t48 (_C:ae) (x0:Value) (h:ab):Out:=
 aa (box x0 h) fun y1 h=>
 aa (some ((.bool false),h)) fun _y2 h=>
 aa (pu (aL y1 33) h) fun y5 h=>
 aa (ld1 y5 h) fun y6 h=>
 aa (pu (bin Tryd.prog .geq 3 y6 (.int .i64 0)) h) fun y7 h=>
 aa (some (y7,h)) fun y8 h=>
 aa (ai (aR y8==some true) (pu (aL y1 33) h) h) fun y9 h=>
 aa (ai (aR y8==some true) (ld1 y9 h) h) fun y10 h=>
 aa (ai (aR y8==some true) (pu (bin Tryd.prog .leq 3 y10 (.int .i64 15)) h) h) fun y11 h=>
 aa (match y8 with | .bool t=>some (if t then y11 else (.bool false),h)|_=>none) fun y12 h=>
 aa (some (y12,h)) fun y13 h=>
 aa (ai (aR y13==some true) (pu (aL y1 34) h) h) fun y14 h=>
 aa (ai (aR y13==some true) (ld1 y14 h) h) fun y15 h=>
 aa (ai (aR y13==some true) (pu (bin Tryd.prog .geq 32 y15 (.int .u64 1)) h) h) fun y16 h=>
 aa (match y13 with | .bool t=>some (if t then y16 else (.bool false),h)|_=>none) fun y17 h=>
 aa (some (y17,h)) fun y3 h=>
 aa (pu (aL y1 35) h) fun y18 h=>
 aa (ld1 y18 h) fun y19 h=>
 aa (pu (bin Tryd.prog .eql 32 y19 (.int .u64 0)) h) fun y20 h=>
 aa (some (y20,h)) fun y21 h=>
 aa (ai (aR y21==some true) (pu (aL y1 36) h) h) fun y22 h=>
 aa (ai (aR y21==some true) (ld1 y22 h) h) fun y23 h=>
 aa (ai (aR y21==some true) (pu (unA .not y23) h) h) fun y24 h=>
 aa (match y21 with | .bool t=>some (if t then y24 else (.bool false),h)|_=>none) fun y25 h=>
 aa (some (y25,h)) fun y26 h=>
 aa (ai (aR y26==some true) (pu (aL y1 37) h) h) fun y27 h=>
 aa (ai (aR y26==some true) (ld1 y27 h) h) fun y28 h=>
 aa (ai (aR y26==some true) (pu (bin Tryd.prog .eql 3 y28 (.int .i64 0)) h) h) fun y29 h=>
 aa (match y26 with | .bool t=>some (if t then y29 else (.bool false),h)|_=>none) fun y30 h=>
 aa (some (y30,h)) fun y31 h=>
 aa (ai (aR y31==some true) (pu (aL y1 38) h) h) fun y32 h=>
 aa (ai (aR y31==some true) (ld1 y32 h) h) fun y33 h=>
 aa (ai (aR y31==some true) (pu (bin Tryd.prog .eql 3 y33 (.int .i64 0)) h) h) fun y34 h=>
 aa (match y31 with | .bool t=>some (if t then y34 else (.bool false),h)|_=>none) fun y35 h=>
 aa (some (y35,h)) fun y4 h=>
 aa (pu (aL y1 0) h) fun y36 h=>
 aa (ld1 y36 h) fun y37 h=>
 aa (pu (bin Tryd.prog .eql 56 y37 (.int .u8 1)) h) fun y39 h=>
 aa (some (y39,h)) fun y38 h=>
 (match y38 with
 | .bool true=>
 aa (some (y3,h)) fun y40 h=>
 aa (some (y40,h)) fun y41 h=>
 aa (ai (aR y41==some true) (some (y4,h)) h) fun y42 h=>
 aa (match y41 with | .bool t=>some (if t then y42 else (.bool false),h)|_=>none) fun y43 h=>
 aa (some (y43,h)) fun y44 h=>
 aa (ai (aR y44==some true) (pu (aL y1 1) h) h) fun y45 h=>
 aa (ai (aR y44==some true) (cT 32 y45 h) h) fun y46 h=>
 aa (ai (aR y44==some true) (cT 32 (ptr 0 0) h) h) fun y47 h=>
 aa (ai (aR y44==some true) (pu (bin Tryd.prog .eql 35 y46 y47) h) h) fun y48 h=>
 aa (match y44 with | .bool t=>some (if t then y48 else (.bool false),h)|_=>none) fun y49 h=>
 aa (some (y49,h)) fun y2_1 h=>
 some (y2_1,h)
 | .bool false=>
 aa (pu (bin Tryd.prog .eql 56 y37 (.int .u8 2)) h) fun y51 h=>
 aa (some (y51,h)) fun y50 h=>
 (match y50 with
 | .bool true=>
 aa (some (y4,h)) fun y52 h=>
 aa (some (y52,h)) fun y53 h=>
 aa (ai (aR y53==some true) (pu (aL y1 33) h) h) fun y54 h=>
 aa (ai (aR y53==some true) (ld1 y54 h) h) fun y55 h=>
 aa (ai (aR y53==some true) (pu (bin Tryd.prog .eql 3 y55 (.int .i64 0)) h) h) fun y56 h=>
 aa (match y53 with | .bool t=>some (if t then y56 else (.bool false),h)|_=>none) fun y57 h=>
 aa (some (y57,h)) fun y58 h=>
 aa (ai (aR y58==some true) (pu (aL y1 34) h) h) fun y59 h=>
 aa (ai (aR y58==some true) (ld1 y59 h) h) fun y60 h=>
 aa (ai (aR y58==some true) (pu (bin Tryd.prog .eql 32 y60 (.int .u64 0)) h) h) fun y61 h=>
 aa (match y58 with | .bool t=>some (if t then y61 else (.bool false),h)|_=>none) fun y62 h=>
 aa (some (y62,h)) fun y2_1 h=>
 some (y2_1,h)
 | .bool false=>
 aa (pu (bin Tryd.prog .eql 56 y37 (.int .u8 3)) h) fun y64 h=>
 aa (some (y64,h)) fun y63 h=>
 (match y63 with
 | .bool true=>
 aa (some (y3,h)) fun y65 h=>
 aa (some (y65,h)) fun y66 h=>
 aa (ai (aR y66==some true) (pu (aL y1 35) h) h) fun y67 h=>
 aa (ai (aR y66==some true) (ld1 y67 h) h) fun y68 h=>
 aa (ai (aR y66==some true) (pu (bin Tryd.prog .geq 32 y68 (.int .u64 1)) h) h) fun y69 h=>
 aa (match y66 with | .bool t=>some (if t then y69 else (.bool false),h)|_=>none) fun y70 h=>
 aa (some (y70,h)) fun y71 h=>
 aa (ai (aR y71==some true) (pu (aL y1 37) h) h) fun y72 h=>
 aa (ai (aR y71==some true) (ld1 y72 h) h) fun y73 h=>
 aa (ai (aR y71==some true) (pu (bin Tryd.prog .leq 3 (.int .i64 1) y73) h) h) fun y74 h=>
 aa (match y71 with | .bool t=>some (if t then y74 else (.bool false),h)|_=>none) fun y75 h=>
 aa (some (y75,h)) fun y76 h=>
 aa (ai (aR y76==some true) (pu (aL y1 37) h) h) fun y77 h=>
 aa (ai (aR y76==some true) (ld1 y77 h) h) fun y78 h=>
 aa (ai (aR y76==some true) (pu (aL y1 38) h) h) fun y79 h=>
 aa (ai (aR y76==some true) (ld1 y79 h) h) fun y80 h=>
 aa (ai (aR y76==some true) (pu (bin Tryd.prog .leq 3 y78 y80) h) h) fun y81 h=>
 aa (match y76 with | .bool t=>some (if t then y81 else (.bool false),h)|_=>none) fun y82 h=>
 aa (some (y82,h)) fun y83 h=>
 aa (ai (aR y83==some true) (pu (aL y1 38) h) h) fun y84 h=>
 aa (ai (aR y83==some true) (ld1 y84 h) h) fun y85 h=>
 aa (ai (aR y83==some true) (pu (bin Tryd.prog .leq 3 y85 (.int .i64 255)) h) h) fun y86 h=>
 aa (match y83 with | .bool t=>some (if t then y86 else (.bool false),h)|_=>none) fun y87 h=>
 aa (some (y87,h)) fun y2_1 h=>
 some (y2_1,h)
 | .bool false=>
 aa (some ((.bool false),h)) fun y2_1 h=>
 some (y2_1,h)
 |_=>none)
 |_=>none)
 |_=>none)
theorem t48_eq (C:ae) (x0:Value) (h:ab):bw Tryd.prog C Tryd.f48 [x0] h=t48 C x0 h:=
 (aG Tryd.prog C Tryd.f48 [x0] h (by kernel_rfl)).trans (by kernel_rfl)
end Go.Proofs.YtdnahgfgoajmcaaDoor

namespace Go.Proofs.YtdnahgfgoajmcaaDoor
open Go Go.Abs
noncomputable def k49_7 (C:ae) (e:Env) (h:ab):Out:=cj Tryd.prog C (partOf Tryd.f49 [1,1,1,1]) e h (aj Tryd.prog Tryd.f49.results.toList) (aj Tryd.prog Tryd.f49.results.toList) (fun _ _ _=>none)
noncomputable def b49_9 (C:ae) (i:Nat) (e:Env) (h:ab):Out:=if i=0 then (k49_7 C) e h else (fun _ _ _=>none) i e h
noncomputable def t49 (C:ae) (x0 x1:Value) (h:ab):Out:=
 aa (box x0 h) fun y2 h=>
 aa (box x1 h) fun y3 h=>
 aa (some ((.bool false),h)) fun y4 h=>
 let g3_0:=h
 aa (cT 39 y2 g3_0) fun y8 g3_1=>
 aa (C 48 [y8] g3_1) fun y9 g3_2=>
 aa (pu (unA .not y9) g3_2) fun y10 g3_3=>
 aa (some (y10,g3_3)) fun y11 g3_4=>
 aa (ai (aR y11==some false) (cT 39 y3 g3_4) g3_4) fun y12 g3_5=>
 aa (ai (aR y11==some false) (C 48 [y12] g3_5) g3_5) fun y13 g3_6=>
 aa (ai (aR y11==some false) (pu (unA .not y13) g3_6) g3_6) fun y14 g3_7=>
 aa (match y11 with | .bool t=>some (if t then (.bool true) else y14,g3_7)|_=>none) fun y15 g3_8=>
 aa (some (y15,g3_8)) fun y16 g3_9=>
 aa (ai (aR y16==some false) (cT 39 y2 g3_9) g3_9) fun y17 g3_10=>
 aa (ai (aR y16==some false) (C 59 [y17] g3_10) g3_10) fun y18 g3_11=>
 aa (ai (aR y16==some false) (cT 39 y3 g3_11) g3_11) fun y19 g3_12=>
 aa (ai (aR y16==some false) (C 59 [y19] g3_12) g3_12) fun y20 g3_13=>
 aa (ai (aR y16==some false) (pu (bin Tryd.prog .neq 9 y18 y20) g3_13) g3_13) fun y21 g3_14=>
 aa (match y16 with | .bool t=>some (if t then (.bool true) else y21,g3_14)|_=>none) fun y22 g3_15=>
 (match (bN (aR y16==some false) (cT 39 y3 g3_10) y19&&true) with
 |true=>
 let h:=g3_15
 (match y22 with
 | .bool true=>
 aa (some ((.bool false),h)) fun y4_1 h=>
 some (y4_1,h)
 | .bool false=>
 let g6_0:=h
 aa (cT 39 y2 g6_0) fun y23 g6_1=>
 aa (C 99 [y23] g6_1) fun y24 g6_2=>
 aa (cT 39 y3 g6_2) fun y25 g6_3=>
 aa (C 99 [y25] g6_3) fun y26 g6_4=>
 aa (dJ (List.replicate 5 (.int .u64 0)) g6_4) fun y5 g6_5=>
 aa (dJ (List.replicate 5 (.int .u64 0)) g6_5) fun y6 g6_6=>
 aa (eT 5 y5 y24 g6_6) fun _ g6_7=>
 aa (eT 5 y6 y26 g6_7) fun _ g6_8=>
 (match (bN true (cT 39 y3 g6_1) y25&&true) with
 |true=>
 let h:=g6_8
 aa (some ((.int .i64 0),h)) fun y7 h=>
 fl (iter (av Tryd.prog C (partOf Tryd.f49 [1,1,1,0,1,0,0])) rounds (aO 45 (up (bs [x0,x1]) [(2,y2),(3,y3),(4,y4),(5,y5),(6,y6),(7,y7),(8,y8),(9,y9),(10,y10),(11,y11),(12,y12),(13,y13),(14,y14),(15,y15),(16,y16),(17,y17),(18,y18),(19,y19),(20,y20),(21,y21),(22,y22),(23,y23),(24,y24),(25,y25),(26,y26)])) h) (aj Tryd.prog Tryd.f49.results.toList) (b49_9 C)
 |false=>none)
 |_=>none)
 |false=>none)
noncomputable def t49k49_7 (_C:ae) (_x:Nat→Value) (h:ab):Out:=
 aa (some ((.bool false),h)) fun y4 h=>
 some (y4,h)
noncomputable def t49l49_111010 (_C:ae) (x:Nat→Value) (h:ab):Option (Ex×Env×ab):=
 aa (some ((x 7),h)) fun y27 h=>
 aa (pu (bin Tryd.prog .lss 3 y27 (.int .i64 5)) h) fun y28 h=>
 (match y28 with
 | .bool true=>
 aa (some ((x 7),h)) fun y31 h=>
 aa (pu (bI 5 1 (x 5) y31) h) fun y32 h=>
 aa (ld1 y32 h) fun y33 h=>
 aa (some ((x 7),h)) fun y34 h=>
 aa (pu (bI 5 1 (x 6) y34) h) fun y35 h=>
 aa (ld1 y35 h) fun y36 h=>
 aa (pu (bin Tryd.prog .neq 32 y33 y36) h) fun y37 h=>
 (match y37 with
 | .bool true=>
 aa (some ((x 7),h)) fun y38 h=>
 aa (pu (bI 5 1 (x 5) y38) h) fun y39 h=>
 aa (ld1 y39 h) fun y40 h=>
 aa (some ((x 7),h)) fun y41 h=>
 aa (pu (bI 5 1 (x 6) y41) h) fun y42 h=>
 aa (ld1 y42 h) fun y43 h=>
 aa (pu (bin Tryd.prog .gtr 32 y40 y43) h) fun y44 h=>
 aa (some (y44,h)) fun y4 h=>
 some (.ret,(aO 45 (up x [(4,y4),(27,y27),(28,y28),(31,y31),(32,y32),(33,y33),(34,y34),(35,y35),(36,y36),(37,y37),(38,y38),(39,y39),(40,y40),(41,y41),(42,y42),(43,y43),(44,y44)])),h)
 | .bool false=>
 aa (some ((x 7),h)) fun y29 h=>
 aa (pu (bin Tryd.prog .add 3 y29 (.int .i64 1)) h) fun y30 h=>
 aa (some (y30,h)) fun y7 h=>
 some (.normal,(aO 45 (up x [(7,y7),(27,y27),(28,y28),(29,y29),(30,y30),(31,y31),(32,y32),(33,y33),(34,y34),(35,y35),(36,y36),(37,y37)])),h)
 |_=>none)
 | .bool false=>
 some (.exit 0,(aO 45 (up x [(27,y27),(28,y28)])),h)
 |_=>none)
theorem t49_eq (C:ae) (x0 x1:Value) (h:ab):bw Tryd.prog C Tryd.f49 [x0,x1] h=t49 C x0 x1 h:=
 (aG Tryd.prog C Tryd.f49 [x0,x1] h (by kernel_rfl)).trans (by kernel_rfl)
theorem t49k49_7_eq (C:ae) (x:Nat→Value) (h:ab):k49_7 C (aO 45 x) h=t49k49_7 C x h:=
 bk (b:=(partOf Tryd.f49 [1,1,1,1])) (kE:=(aj Tryd.prog Tryd.f49.results.toList)) (rE:=(aj Tryd.prog Tryd.f49.results.toList)) (xE:=(fun _ _ _=>none)) (T:=t49k49_7 C) (fun x h=>by kernel_rfl) x h
theorem t49l49_111010_eq (C:ae) (x:Nat→Value) (h:ab):av Tryd.prog C (partOf Tryd.f49 [1,1,1,0,1,0,0]) (aO 45 x) h=t49l49_111010 C x h:=
 aI (T:=t49l49_111010 C) (fun x h=>by kernel_rfl) x h
noncomputable def t62 (_C:ae) (x0:Value) (h:ab):Out:=
 aa (box x0 h) fun y1 h=>
 aa (dJ [(.int .u8 0),(.int .u8 0),(.int .u8 0),(.int .u8 0),(.int .u8 0),(.int .u8 0),(.int .u8 0),(.int .u8 0),(.int .u8 0),(.int .u8 0),(.int .u8 0),(.int .u8 0),(.int .u8 0),(.int .u8 0),(.int .u8 0),(.int .u8 0),(.int .u8 0),(.int .u8 0),(.int .u8 0),(.int .u8 0),(.int .u8 0),(.int .u8 0),(.int .u8 0),(.int .u8 0),(.int .u8 0),(.int .u8 0),(.int .u8 0),(.int .u8 0),(.int .u8 0),(.int .u8 0),(.int .u8 0),(.int .u8 0),(.int .u8 0),(.int .i64 0)] h) fun y2 h=>
 aa (pu (aL y1 0) h) fun y3 h=>
 aa (ld1 y3 h) fun y4 h=>
 aa (pu (aL y1 1) h) fun y5 h=>
 aa (cT 32 y5 h) fun y6 h=>
 aa (pu (aL y1 33) h) fun y7 h=>
 aa (ld1 y7 h) fun y8 h=>
 aa (pu (eW [(.int .u8 0),(.int .u8 0),(.int .u8 0),(.int .u8 0),(.int .u8 0),(.int .u8 0),(.int .u8 0),(.int .u8 0),(.int .u8 0),(.int .u8 0),(.int .u8 0),(.int .u8 0),(.int .u8 0),(.int .u8 0),(.int .u8 0),(.int .u8 0),(.int .u8 0),(.int .u8 0),(.int .u8 0),(.int .u8 0),(.int .u8 0),(.int .u8 0),(.int .u8 0),(.int .u8 0),(.int .u8 0),(.int .u8 0),(.int .u8 0),(.int .u8 0),(.int .u8 0),(.int .u8 0),(.int .u8 0),(.int .u8 0),(.int .u8 0),(.int .i64 0)] [(0,1,y4),(1,32,y6),(33,1,y8)]) h) fun y9 h=>
 aa (eT 34 y2 y9 h) fun _ h=>
 aj Tryd.prog Tryd.f62.results.toList (aO 10 (up (bs [x0]) [(1,y1),(2,y2),(3,y3),(4,y4),(5,y5),(6,y6),(7,y7),(8,y8),(9,y9)])) h
theorem t62_eq (C:ae) (x0:Value) (h:ab):bw Tryd.prog C Tryd.f62 [x0] h=t62 C x0 h:=
 (aG Tryd.prog C Tryd.f62 [x0] h (by kernel_rfl)).trans (by kernel_rfl)
noncomputable def t63 (C:ae) (x0 x1:Value) (h:ab):Out:=
 aa (box x0 h) fun y2 h=>
 aa (box x1 h) fun y3 h=>
 aa (some ((.int .i64 0),h)) fun _y4 h=>
 aa (some ((.int .i64 0),h)) fun y5 h=>
 aa (pu (aL y2 36) h) fun y6 h=>
 aa (ld1 y6 h) fun y7 h=>
 aa (pu (aL y3 36) h) fun y8 h=>
 aa (ld1 y8 h) fun y9 h=>
 aa (pu (bin Tryd.prog .neq 4 y7 y9) h) fun y10 h=>
 (match y10 with
 | .bool true=>
 aa (some ((.int .i64 (-1)),h)) fun y5_1 h=>
 aa (pu (aL y2 36) h) fun y11 h=>
 aa (ld1 y11 h) fun y12 h=>
 (match y12 with
 | .bool true=>
 aa (some ((.int .i64 1),h)) fun y5_2 h=>
 let g7_0:=h
 aa (pu (aL y2 34) g7_0) fun y13 g7_1=>
 aa (ld1 y13 g7_1) fun y14 g7_2=>
 aa (pu (aL y3 34) g7_2) fun y15 g7_3=>
 aa (ld1 y15 g7_3) fun y16 g7_4=>
 aa (C 115 [y14,y16] g7_4) fun y17 g7_5=>
 aa (pu (aL y2 35) g7_5) fun y18 g7_6=>
 aa (ld1 y18 g7_6) fun y19 g7_7=>
 aa (pu (aL y3 35) g7_7) fun y20 g7_8=>
 aa (ld1 y20 g7_8) fun y21 g7_9=>
 aa (C 115 [y19,y21] g7_9) fun y22 g7_10=>
 aa (some (y5_2,g7_10)) fun y23 g7_11=>
 aa (pu (aL y2 37) g7_11) fun y24 g7_12=>
 aa (ld1 y24 g7_12) fun y25 g7_13=>
 aa (pu (aL y3 37) g7_13) fun y26 g7_14=>
 aa (ld1 y26 g7_14) fun y27 g7_15=>
 aa (C 116 [y25,y27] g7_15) fun y28 g7_16=>
 aa (pu (aL y2 38) g7_16) fun y29 g7_17=>
 aa (ld1 y29 g7_17) fun y30 g7_18=>
 aa (pu (aL y3 38) g7_18) fun y31 g7_19=>
 aa (ld1 y31 g7_19) fun y32 g7_20=>
 aa (C 116 [y30,y32] g7_20) fun y33 g7_21=>
 aa (cO 1 (.int .i64 0) 5 [(0,y17),(1,y22),(2,y23),(3,y28),(4,y33)] g7_21) fun y34 g7_22=>
 aa (C 114 [y34] g7_22) fun y35 g7_23=>
 aa (some (y35,g7_23)) fun y4_1 g7_24=>
 (match (bN true (ld1 y18 g7_4) y19&&(bN true (ld1 y20 g7_4) y21&&(bN true (ld1 y24 g7_4) y25&&(bN true (ld1 y24 g7_9) y25&&(bN true (ld1 y26 g7_4) y27&&(bN true (ld1 y26 g7_9) y27&&(bN true (ld1 y29 g7_4) y30&&(bN true (ld1 y29 g7_9) y30&&(bN true (ld1 y29 g7_15) y30&&(bN true (ld1 y31 g7_4) y32&&(bN true (ld1 y31 g7_9) y32&&(bN true (ld1 y31 g7_15) y32&&true)))))))))))) with
 |true=>
 let h:=g7_24
 some (y4_1,h)
 |false=>none)
 | .bool false=>
 let g8_0:=h
 aa (pu (aL y2 34) g8_0) fun y13 g8_1=>
 aa (ld1 y13 g8_1) fun y14 g8_2=>
 aa (pu (aL y3 34) g8_2) fun y15 g8_3=>
 aa (ld1 y15 g8_3) fun y16 g8_4=>
 aa (C 115 [y14,y16] g8_4) fun y17 g8_5=>
 aa (pu (aL y2 35) g8_5) fun y18 g8_6=>
 aa (ld1 y18 g8_6) fun y19 g8_7=>
 aa (pu (aL y3 35) g8_7) fun y20 g8_8=>
 aa (ld1 y20 g8_8) fun y21 g8_9=>
 aa (C 115 [y19,y21] g8_9) fun y22 g8_10=>
 aa (some (y5_1,g8_10)) fun y23 g8_11=>
 aa (pu (aL y2 37) g8_11) fun y24 g8_12=>
 aa (ld1 y24 g8_12) fun y25 g8_13=>
 aa (pu (aL y3 37) g8_13) fun y26 g8_14=>
 aa (ld1 y26 g8_14) fun y27 g8_15=>
 aa (C 116 [y25,y27] g8_15) fun y28 g8_16=>
 aa (pu (aL y2 38) g8_16) fun y29 g8_17=>
 aa (ld1 y29 g8_17) fun y30 g8_18=>
 aa (pu (aL y3 38) g8_18) fun y31 g8_19=>
 aa (ld1 y31 g8_19) fun y32 g8_20=>
 aa (C 116 [y30,y32] g8_20) fun y33 g8_21=>
 aa (cO 1 (.int .i64 0) 5 [(0,y17),(1,y22),(2,y23),(3,y28),(4,y33)] g8_21) fun y34 g8_22=>
 aa (C 114 [y34] g8_22) fun y35 g8_23=>
 aa (some (y35,g8_23)) fun y4_1 g8_24=>
 (match (bN true (ld1 y18 g8_4) y19&&(bN true (ld1 y20 g8_4) y21&&(bN true (ld1 y24 g8_4) y25&&(bN true (ld1 y24 g8_9) y25&&(bN true (ld1 y26 g8_4) y27&&(bN true (ld1 y26 g8_9) y27&&(bN true (ld1 y29 g8_4) y30&&(bN true (ld1 y29 g8_9) y30&&(bN true (ld1 y29 g8_15) y30&&(bN true (ld1 y31 g8_4) y32&&(bN true (ld1 y31 g8_9) y32&&(bN true (ld1 y31 g8_15) y32&&true)))))))))))) with
 |true=>
 let h:=g8_24
 some (y4_1,h)
 |false=>none)
 |_=>none)
 | .bool false=>
 let g9_0:=h
 aa (pu (aL y2 34) g9_0) fun y13 g9_1=>
 aa (ld1 y13 g9_1) fun y14 g9_2=>
 aa (pu (aL y3 34) g9_2) fun y15 g9_3=>
 aa (ld1 y15 g9_3) fun y16 g9_4=>
 aa (C 115 [y14,y16] g9_4) fun y17 g9_5=>
 aa (pu (aL y2 35) g9_5) fun y18 g9_6=>
 aa (ld1 y18 g9_6) fun y19 g9_7=>
 aa (pu (aL y3 35) g9_7) fun y20 g9_8=>
 aa (ld1 y20 g9_8) fun y21 g9_9=>
 aa (C 115 [y19,y21] g9_9) fun y22 g9_10=>
 aa (some (y5,g9_10)) fun y23 g9_11=>
 aa (pu (aL y2 37) g9_11) fun y24 g9_12=>
 aa (ld1 y24 g9_12) fun y25 g9_13=>
 aa (pu (aL y3 37) g9_13) fun y26 g9_14=>
 aa (ld1 y26 g9_14) fun y27 g9_15=>
 aa (C 116 [y25,y27] g9_15) fun y28 g9_16=>
 aa (pu (aL y2 38) g9_16) fun y29 g9_17=>
 aa (ld1 y29 g9_17) fun y30 g9_18=>
 aa (pu (aL y3 38) g9_18) fun y31 g9_19=>
 aa (ld1 y31 g9_19) fun y32 g9_20=>
 aa (C 116 [y30,y32] g9_20) fun y33 g9_21=>
 aa (cO 1 (.int .i64 0) 5 [(0,y17),(1,y22),(2,y23),(3,y28),(4,y33)] g9_21) fun y34 g9_22=>
 aa (C 114 [y34] g9_22) fun y35 g9_23=>
 aa (some (y35,g9_23)) fun y4_1 g9_24=>
 (match (bN true (ld1 y18 g9_4) y19&&(bN true (ld1 y20 g9_4) y21&&(bN true (ld1 y24 g9_4) y25&&(bN true (ld1 y24 g9_9) y25&&(bN true (ld1 y26 g9_4) y27&&(bN true (ld1 y26 g9_9) y27&&(bN true (ld1 y29 g9_4) y30&&(bN true (ld1 y29 g9_9) y30&&(bN true (ld1 y29 g9_15) y30&&(bN true (ld1 y31 g9_4) y32&&(bN true (ld1 y31 g9_9) y32&&(bN true (ld1 y31 g9_15) y32&&true)))))))))))) with
 |true=>
 let h:=g9_24
 some (y4_1,h)
 |false=>none)
 |_=>none)
theorem t63_eq (C:ae) (x0 x1:Value) (h:ab):bw Tryd.prog C Tryd.f63 [x0,x1] h=t63 C x0 x1 h:=
 (aG Tryd.prog C Tryd.f63 [x0,x1] h (by kernel_rfl)).trans (by kernel_rfl)
noncomputable def t67 (_C:ae) (x0:Value) (h:ab):Out:=
 aa (box x0 h) fun y1 h=>
 aa (some ((.slice none 0 0),h)) fun _y2 h=>
 aa (mkR 1 1 (.int .u8 0) (.int .i64 0) (.int .i64 34) h) fun y4 h=>
 aa (some (y4,h)) fun y3 h=>
 aa (some (y3,h)) fun y5 h=>
 aa (pu (aL y1 0) h) fun y6 h=>
 aa (ld1 y6 h) fun y7 h=>
 aa (cO 1 (.int .u8 0) 1 [(0,y7)] h) fun y8 h=>
 aa (aD 1 1 y5 y8 h) fun y9 h=>
 aa (some (y9,h)) fun y3_1 h=>
 aa (some (y3_1,h)) fun y10 h=>
 aa (pu (aL y1 1) h) fun y11 h=>
 aa (pu (cy 32 1 y11 none none none) h) fun y12 h=>
 aa (aD 1 1 y10 y12 h) fun y13 h=>
 aa (some (y13,h)) fun y3_2 h=>
 aa (some (y3_2,h)) fun y14 h=>
 aa (pu (aL y1 33) h) fun y15 h=>
 aa (ld1 y15 h) fun y16 h=>
 aa (cvI .u8 y16 h) fun y17 h=>
 aa (cO 1 (.int .u8 0) 1 [(0,y17)] h) fun y18 h=>
 aa (aD 1 1 y14 y18 h) fun y19 h=>
 aa (some (y19,h)) fun y2_1 h=>
 some (y2_1,h)
theorem t67_eq (C:ae) (x0:Value) (h:ab):bw Tryd.prog C Tryd.f67 [x0] h=t67 C x0 h:=
 (aG Tryd.prog C Tryd.f67 [x0] h (by kernel_rfl)).trans (by kernel_rfl)
noncomputable def t59 (_C:ae) (x0:Value) (h:ab):Out:=
 aa (box x0 h) fun y1 h=>
 aa (some ((.string ⟨#[]⟩),h)) fun _y2 h=>
 let g2_0:=h
 aa (pu (aL y1 0) g2_0) fun y3 g2_1=>
 aa (ld1 y3 g2_1) fun y4 g2_2=>
 aa (pu (aL y1 1) g2_2) fun y7 g2_3=>
 aa (pu (cy 32 1 y7 none none none) g2_3) fun y8 g2_4=>
 aa (cvBS y8 g2_4) fun y9 g2_5=>
 aa (pu (aL y1 33) g2_5) fun y11 g2_6=>
 aa (ld1 y11 g2_6) fun y12 g2_7=>
 aa (cvI .u8 y12 g2_7) fun y13 g2_8=>
 aa (cO 1 (.int .u8 0) 1 [(0,y4)] g2_8) fun y5 g2_9=>
 aa (cvBS y5 g2_9) fun y6 g2_10=>
 aa (pu (bin Tryd.prog .add 9 y6 y9) g2_10) fun y10 g2_11=>
 aa (cO 1 (.int .u8 0) 1 [(0,y13)] g2_11) fun y14 g2_12=>
 aa (cvBS y14 g2_12) fun y15 g2_13=>
 aa (pu (bin Tryd.prog .add 9 y10 y15) g2_13) fun y16 g2_14=>
 aa (some (y16,g2_14)) fun y2_1 g2_15=>
 (match (bN true (cvBS y14 (ab.plus true g2_8 g2_11 g2_12)) y15&&true) with
 |true=>
 let h:=g2_15
 some (y2_1,h)
 |false=>none)
theorem t59_eq (C:ae) (x0:Value) (h:ab):bw Tryd.prog C Tryd.f59 [x0] h=t59 C x0 h:=
 (aG Tryd.prog C Tryd.f59 [x0] h (by kernel_rfl)).trans (by kernel_rfl)
noncomputable def t99 (C:ae) (x0:Value) (h:ab):Out:=
 aa (box x0 h) fun y1 h=>
 aa (dJ (List.replicate 5 (.int .u64 0)) h) fun y2 h=>
 let g2_0:=h
 aa (pu (aL y1 34) g2_0) fun y3 g2_1=>
 aa (ld1 y3 g2_1) fun y4 g2_2=>
 aa (pu (aL y1 35) g2_2) fun y5 g2_3=>
 aa (ld1 y5 g2_3) fun y6 g2_4=>
 aa (pu (aL y1 36) g2_4) fun y7 g2_5=>
 aa (ld1 y7 g2_5) fun y8 g2_6=>
 aa (C 97 [y8] g2_6) fun y9 g2_7=>
 aa (pu (aL y1 37) g2_7) fun y10 g2_8=>
 aa (ld1 y10 g2_8) fun y11 g2_9=>
 aa (cvI .u64 y11 g2_9) fun y12 g2_10=>
 aa (pu (aL y1 38) g2_10) fun y13 g2_11=>
 aa (ld1 y13 g2_11) fun y14 g2_12=>
 aa (cvI .u64 y14 g2_12) fun y15 g2_13=>
 aa (pu (eW (List.replicate 5 (.int .u64 0)) [(0,1,y4),(1,1,y6),(2,1,y9),(3,1,y12),(4,1,y15)]) g2_13) fun y16 g2_14=>
 aa (eT 5 y2 y16 g2_14) fun _ g2_15=>
 (match (bN true (ld1 y3 g2_7) y4&&(bN true (ld1 y5 g2_7) y6&&(bN true (ld1 y10 g2_6) y11&&(bN true (cvI .u64 y11 g2_6) y12&&(bN true (ld1 y13 g2_6) y14&&(bN true (cvI .u64 y14 g2_6) y15&&true)))))) with
 |true=>
 let h:=g2_15
 aj Tryd.prog Tryd.f99.results.toList (aO 17 (up (bs [x0]) [(1,y1),(2,y2),(3,y3),(4,y4),(5,y5),(6,y6),(7,y7),(8,y8),(9,y9),(10,y10),(11,y11),(12,y12),(13,y13),(14,y14),(15,y15),(16,y16)])) h
 |false=>none)
theorem t99_eq (C:ae) (x0:Value) (h:ab):bw Tryd.prog C Tryd.f99 [x0] h=t99 C x0 h:=
 (aG Tryd.prog C Tryd.f99 [x0] h (by kernel_rfl)).trans (by kernel_rfl)
noncomputable def k114_2 (C:ae) (e:Env) (h:ab):Out:=cj Tryd.prog C (partOf Tryd.f114 [1,1,1]) e h (aj Tryd.prog Tryd.f114.results.toList) (aj Tryd.prog Tryd.f114.results.toList) (fun _ _ _=>none)
noncomputable def b114_4 (C:ae) (i:Nat) (e:Env) (h:ab):Out:=if i=0 then (k114_2 C) e h else (fun _ _ _=>none) i e h
noncomputable def t114 (C:ae) (x0:Value) (h:ab):Out:=
 aa (some ((.int .i64 0),h)) fun y2 h=>
 aa (some ((.int .i64 0),h)) fun y3 h=>
 aa (some (x0,h)) fun y6 h=>
 aa (pu (cN y6) h) fun y7 h=>
 aa (some ((.int .i64 0),h)) fun y8 h=>
 fl (iter (av Tryd.prog C (partOf Tryd.f114 [1,1,0,1,0,0])) rounds (aO 18 (up (bs [x0]) [(2,y2),(3,y3),(6,y6),(7,y7),(8,y8)])) h) (aj Tryd.prog Tryd.f114.results.toList) (b114_4 C)
noncomputable def t114k114_2 (_C:ae) (x:Nat→Value) (h:ab):Out:=
 aa (some ((x 3),h)) fun y17 h=>
 aa (some (y17,h)) fun y2 h=>
 some (y2,h)
noncomputable def t114l114_11010 (_C:ae) (x:Nat→Value) (h:ab):Option (Ex×Env×ab):=
 aa (pu (bin Tryd.prog .lss 3 (x 8) (x 7)) h) fun y9 h=>
 (match y9 with
 | .bool true=>
 aa (pu (df 1 (x 6) (x 8)) h) fun y10 h=>
 aa (ld1 y10 h) fun y11 h=>
 aa (some (y11,h)) fun y5 h=>
 aa (some (y5,h)) fun y12 h=>
 aa (some ((x 3),h)) fun y13 h=>
 aa (pu (bin Tryd.prog .neq 3 y12 y13) h) fun y14 h=>
 (match y14 with
 | .bool true=>
 aa (some (y5,h)) fun y15 h=>
 aa (some (y15,h)) fun y2 h=>
 some (.ret,(aO 18 (up x [(2,y2),(5,y5),(9,y9),(10,y10),(11,y11),(12,y12),(13,y13),(14,y14),(15,y15)])),h)
 | .bool false=>
 aa (pu (bin Tryd.prog .add 3 (x 8) (.int .i64 1)) h) fun y16 h=>
 aa (some (y16,h)) fun y8 h=>
 some (.normal,(aO 18 (up x [(5,y5),(8,y8),(9,y9),(10,y10),(11,y11),(12,y12),(13,y13),(14,y14),(16,y16)])),h)
 |_=>none)
 | .bool false=>
 some (.exit 0,(aO 18 (up x [(9,y9)])),h)
 |_=>none)
theorem t114_eq (C:ae) (x0:Value) (h:ab):bw Tryd.prog C Tryd.f114 [x0] h=t114 C x0 h:=
 (aG Tryd.prog C Tryd.f114 [x0] h (by kernel_rfl)).trans (by kernel_rfl)
theorem t114k114_2_eq (C:ae) (x:Nat→Value) (h:ab):k114_2 C (aO 18 x) h=t114k114_2 C x h:=
 bk (b:=(partOf Tryd.f114 [1,1,1])) (kE:=(aj Tryd.prog Tryd.f114.results.toList)) (rE:=(aj Tryd.prog Tryd.f114.results.toList)) (xE:=(fun _ _ _=>none)) (T:=t114k114_2 C) (fun x h=>by kernel_rfl) x h
theorem t114l114_11010_eq (C:ae) (x:Nat→Value) (h:ab):av Tryd.prog C (partOf Tryd.f114 [1,1,0,1,0,0]) (aO 18 x) h=t114l114_11010 C x h:=
 aI (T:=t114l114_11010 C) (fun x h=>by kernel_rfl) x h
noncomputable def t115 (C:ae) (x0 x1:Value) (h:ab):Out:=
 aa (some ((.int .i64 0),h)) fun _y4 h=>
 aa (some (x0,h)) fun y7 h=>
 aa (C 137 [y7] h) fun y8 h=>
 aa (some (y8,h)) fun y5 h=>
 aa (some (x1,h)) fun y9 h=>
 aa (C 137 [y9] h) fun y10 h=>
 aa (some (y10,h)) fun y6 h=>
 aa (some (y5,h)) fun y11 h=>
 (match y11 with
 | .bool true=>
 aa (some (y6,h)) fun y12 h=>
 (match y12 with
 | .bool true=>
 aa (some ((.int .i64 0),h)) fun y4_1 h=>
 some (y4_1,h)
 | .bool false=>
 aa (some ((.int .i64 (-1)),h)) fun y4_1 h=>
 some (y4_1,h)
 |_=>none)
 | .bool false=>
 aa (some (y6,h)) fun y13 h=>
 (match y13 with
 | .bool true=>
 aa (some ((.int .i64 1),h)) fun y4_1 h=>
 some (y4_1,h)
 | .bool false=>
 aa (some (x0,h)) fun y14 h=>
 aa (some (x1,h)) fun y15 h=>
 aa (pu (bin Tryd.prog .lss 32 y14 y15) h) fun y16 h=>
 (match y16 with
 | .bool true=>
 aa (some ((.int .i64 (-1)),h)) fun y4_1 h=>
 some (y4_1,h)
 | .bool false=>
 aa (some (x0,h)) fun y17 h=>
 aa (some (x1,h)) fun y18 h=>
 aa (pu (bin Tryd.prog .gtr 32 y17 y18) h) fun y19 h=>
 (match y19 with
 | .bool true=>
 aa (some ((.int .i64 1),h)) fun y4_1 h=>
 some (y4_1,h)
 | .bool false=>
 aa (some ((.int .i64 0),h)) fun y4_1 h=>
 some (y4_1,h)
 |_=>none)
 |_=>none)
 |_=>none)
 |_=>none)
theorem t115_eq (C:ae) (x0 x1:Value) (h:ab):bw Tryd.prog C Tryd.f115 [x0,x1] h=t115 C x0 x1 h:=
 (aG Tryd.prog C Tryd.f115 [x0,x1] h (by kernel_rfl)).trans (by kernel_rfl)
noncomputable def t116 (C:ae) (x0 x1:Value) (h:ab):Out:=
 aa (some ((.int .i64 0),h)) fun _y4 h=>
 aa (some (x0,h)) fun y7 h=>
 aa (C 138 [y7] h) fun y8 h=>
 aa (some (y8,h)) fun y5 h=>
 aa (some (x1,h)) fun y9 h=>
 aa (C 138 [y9] h) fun y10 h=>
 aa (some (y10,h)) fun y6 h=>
 aa (some (y5,h)) fun y11 h=>
 (match y11 with
 | .bool true=>
 aa (some (y6,h)) fun y12 h=>
 (match y12 with
 | .bool true=>
 aa (some ((.int .i64 0),h)) fun y4_1 h=>
 some (y4_1,h)
 | .bool false=>
 aa (some ((.int .i64 (-1)),h)) fun y4_1 h=>
 some (y4_1,h)
 |_=>none)
 | .bool false=>
 aa (some (y6,h)) fun y13 h=>
 (match y13 with
 | .bool true=>
 aa (some ((.int .i64 1),h)) fun y4_1 h=>
 some (y4_1,h)
 | .bool false=>
 aa (some (x0,h)) fun y14 h=>
 aa (some (x1,h)) fun y15 h=>
 aa (pu (bin Tryd.prog .lss 3 y14 y15) h) fun y16 h=>
 (match y16 with
 | .bool true=>
 aa (some ((.int .i64 (-1)),h)) fun y4_1 h=>
 some (y4_1,h)
 | .bool false=>
 aa (some (x0,h)) fun y17 h=>
 aa (some (x1,h)) fun y18 h=>
 aa (pu (bin Tryd.prog .gtr 3 y17 y18) h) fun y19 h=>
 (match y19 with
 | .bool true=>
 aa (some ((.int .i64 1),h)) fun y4_1 h=>
 some (y4_1,h)
 | .bool false=>
 aa (some ((.int .i64 0),h)) fun y4_1 h=>
 some (y4_1,h)
 |_=>none)
 |_=>none)
 |_=>none)
 |_=>none)
theorem t116_eq (C:ae) (x0 x1:Value) (h:ab):bw Tryd.prog C Tryd.f116 [x0,x1] h=t116 C x0 x1 h:=
 (aG Tryd.prog C Tryd.f116 [x0,x1] h (by kernel_rfl)).trans (by kernel_rfl)
noncomputable def t137 (_C:ae) (x0:Value) (h:ab):Out:=
 aa (some ((.bool false),h)) fun _y2 h=>
 aa (some (x0,h)) fun y3 h=>
 aa (some (x0,h)) fun y4 h=>
 aa (pu (bin Tryd.prog .neq 32 y3 y4) h) fun y5 h=>
 aa (some (y5,h)) fun y2_1 h=>
 some (y2_1,h)
theorem t137_eq (C:ae) (x0:Value) (h:ab):bw Tryd.prog C Tryd.f137 [x0] h=t137 C x0 h:=
 (aG Tryd.prog C Tryd.f137 [x0] h (by kernel_rfl)).trans (by kernel_rfl)
noncomputable def t138 (_C:ae) (x0:Value) (h:ab):Out:=
 aa (some ((.bool false),h)) fun _y2 h=>
 aa (some (x0,h)) fun y3 h=>
 aa (some (x0,h)) fun y4 h=>
 aa (pu (bin Tryd.prog .neq 3 y3 y4) h) fun y5 h=>
 aa (some (y5,h)) fun y2_1 h=>
 some (y2_1,h)
theorem t138_eq (C:ae) (x0:Value) (h:ab):bw Tryd.prog C Tryd.f138 [x0] h=t138 C x0 h:=
 (aG Tryd.prog C Tryd.f138 [x0] h (by kernel_rfl)).trans (by kernel_rfl)
end Go.Proofs.YtdnahgfgoajmcaaDoor

namespace Go.Proofs.YtdnahgfgoajmcaaDoor
open Go Go.Abs
noncomputable def k109_2 (C:ae) (e:Env) (h:ab):Out:=cj Tryd.prog C (partOf Tryd.f109 [1,1,1]) e h (aj Tryd.prog Tryd.f109.results.toList) (aj Tryd.prog Tryd.f109.results.toList) (fun _ _ _=>none)
noncomputable def b109_3 (C:ae) (i:Nat) (e:Env) (h:ab):Out:=if i=0 then (k109_2 C) e h else (fun _ _ _=>none) i e h
noncomputable def t109 (C:ae) (x0:Value) (h:ab):Out:=
 aa (some ((.int .i64 0),h)) fun y2 h=>
 aa (some ((.int .i64 1),h)) fun y3 h=>
 fl (iter (av Tryd.prog C (partOf Tryd.f109 [1,1,0,0,0])) rounds (aO 11 (up (bs [x0]) [(2,y2),(3,y3)])) h) (aj Tryd.prog Tryd.f109.results.toList) (b109_3 C)
noncomputable def t109k109_2 (_C:ae) (x:Nat→Value) (h:ab):Out:=
 aa (some ((x 3),h)) fun y10 h=>
 aa (some (y10,h)) fun y2 h=>
 some (y2,h)
noncomputable def t109l109_1100 (_C:ae) (x:Nat→Value) (h:ab):Option (Ex×Env×ab):=
 aa (some ((x 3),h)) fun y4 h=>
 aa (pu (bin Tryd.prog .mul 3 (.int .i64 2) y4) h) fun y5 h=>
 aa (some ((x 0),h)) fun y6 h=>
 aa (pu (bin Tryd.prog .lss 3 y5 y6) h) fun y7 h=>
 (match y7 with
 | .bool true=>
 aa (some ((x 3),h)) fun y8 h=>
 aa (pu (bin Tryd.prog .mul 3 y8 (.int .i64 2)) h) fun y9 h=>
 aa (some (y9,h)) fun y3 h=>
 some (.normal,(aO 11 (up x [(3,y3),(4,y4),(5,y5),(6,y6),(7,y7),(8,y8),(9,y9)])),h)
 | .bool false=>
 some (.exit 0,(aO 11 (up x [(4,y4),(5,y5),(6,y6),(7,y7)])),h)
 |_=>none)
theorem t109_eq (C:ae) (x0:Value) (h:ab):bw Tryd.prog C Tryd.f109 [x0] h=t109 C x0 h:=
 (aG Tryd.prog C Tryd.f109 [x0] h (by kernel_rfl)).trans (by kernel_rfl)
theorem t109k109_2_eq (C:ae) (x:Nat→Value) (h:ab):k109_2 C (aO 11 x) h=t109k109_2 C x h:=
 bk (b:=(partOf Tryd.f109 [1,1,1])) (kE:=(aj Tryd.prog Tryd.f109.results.toList)) (rE:=(aj Tryd.prog Tryd.f109.results.toList)) (xE:=(fun _ _ _=>none)) (T:=t109k109_2 C) (fun x h=>by kernel_rfl) x h
theorem t109l109_1100_eq (C:ae) (x:Nat→Value) (h:ab):av Tryd.prog C (partOf Tryd.f109 [1,1,0,0,0]) (aO 11 x) h=t109l109_1100 C x h:=
 aI (T:=t109l109_1100 C) (fun x h=>by kernel_rfl) x h
end Go.Proofs.YtdnahgfgoajmcaaDoor

namespace Go.Proofs.YtdnahgfgoajmcaaDoor
open Go Go.Abs
noncomputable def t121 (_C:ae) (h:ab):Out:=
 aa (some ((.pointer none),h)) fun _y0 h=>
 aa (pu (eW (List.replicate 8 (.int .u32 0)) [(0,1,(.int .u32 1779033703)),(1,1,(.int .u32 3144134277)),(2,1,(.int .u32 1013904242)),(3,1,(.int .u32 2773480762)),(4,1,(.int .u32 1359893119)),(5,1,(.int .u32 2600822924)),(6,1,(.int .u32 528734635)),(7,1,(.int .u32 1541459225))]) h) fun y1 h=>
 aa (pu (eW [(.int .u32 0),(.int .u32 0),(.int .u32 0),(.int .u32 0),(.int .u32 0),(.int .u32 0),(.int .u32 0),(.int .u32 0),(.int .u8 0),(.int .u8 0),(.int .u8 0),(.int .u8 0),(.int .u8 0),(.int .u8 0),(.int .u8 0),(.int .u8 0),(.int .u8 0),(.int .u8 0),(.int .u8 0),(.int .u8 0),(.int .u8 0),(.int .u8 0),(.int .u8 0),(.int .u8 0),(.int .u8 0),(.int .u8 0),(.int .u8 0),(.int .u8 0),(.int .u8 0),(.int .u8 0),(.int .u8 0),(.int .u8 0),(.int .u8 0),(.int .u8 0),(.int .u8 0),(.int .u8 0),(.int .u8 0),(.int .u8 0),(.int .u8 0),(.int .u8 0),(.int .u8 0),(.int .u8 0),(.int .u8 0),(.int .u8 0),(.int .u8 0),(.int .u8 0),(.int .u8 0),(.int .u8 0),(.int .u8 0),(.int .u8 0),(.int .u8 0),(.int .u8 0),(.int .u8 0),(.int .u8 0),(.int .u8 0),(.int .u8 0),(.int .u8 0),(.int .u8 0),(.int .u8 0),(.int .u8 0),(.int .u8 0),(.int .u8 0),(.int .u8 0),(.int .u8 0),(.int .u8 0),(.int .u8 0),(.int .u8 0),(.int .u8 0),(.int .u8 0),(.int .u8 0),(.int .u8 0),(.int .u8 0),(.int .i64 0)] [(0,8,y1)]) h) fun y2 h=>
 aa (box y2 h) fun y3 h=>
 aa (some (y3,h)) fun y0_1 h=>
 some (y0_1,h)
theorem t121_eq (C:ae) (h:ab):bw Tryd.prog C Tryd.f121 [] h=t121 C h:=
 (aG Tryd.prog C Tryd.f121 [] h (by kernel_rfl)).trans (by kernel_rfl)
noncomputable def b122_2 (_C:ae) (i:Nat) (e:Env) (h:ab):Out:=if i=0 then (aj Tryd.prog Tryd.f122.results.toList) e h else (fun _ _ _=>none) i e h
noncomputable def t122 (C:ae) (x0 x1:Value) (h:ab):Out:=
 aa (some (x0,h)) fun y6 h=>
 aa (pu (bin Tryd.prog .eql 158 y6 (.pointer none)) h) fun y7 h=>
 (match y7 with
 | .bool true=>
 some (.tuple #[],h)
 | .bool false=>
 fl (iter (av Tryd.prog C (partOf Tryd.f122 [1,0,0])) rounds (aO 40 (up (bs [x0,x1]) [(6,y6),(7,y7)])) h) (aj Tryd.prog Tryd.f122.results.toList) (b122_2 C)
 |_=>none)
noncomputable def t122l122_10 (C:ae) (x:Nat→Value) (h:ab):Option (Ex×Env×ab):=
 aa (some ((x 1),h)) fun y8 h=>
 aa (pu (cN y8) h) fun y9 h=>
 aa (pu (bin Tryd.prog .gtr 3 y9 (.int .i64 0)) h) fun y10 h=>
 (match y10 with
 | .bool true=>
 aa (some ((x 0),h)) fun y11 h=>
 aa (pu (aN y11) h) fun y12 h=>
 aa (pu (aL y12 72) h) fun y13 h=>
 aa (ld1 y13 h) fun y14 h=>
 aa (pu (bin Tryd.prog .rem 3 y14 (.int .i64 64)) h) fun y15 h=>
 aa (some (y15,h)) fun y4 h=>
 aa (some ((x 0),h)) fun y16 h=>
 aa (pu (aN y16) h) fun y17 h=>
 aa (pu (aL y17 8) h) fun y18 h=>
 aa (some (y4,h)) fun y19 h=>
 aa (pu (cy 64 1 y18 (some y19) none none) h) fun y20 h=>
 aa (some ((x 1),h)) fun y21 h=>
 aa (copyA 1 y20 y21 h) fun y22 h=>
 aa (some (y22,h)) fun y5 h=>
 aa (some ((x 0),h)) fun y23 h=>
 aa (pu (aN y23) h) fun y24 h=>
 aa (pu (aL y24 72) h) fun y25 h=>
 aa (ld1 y25 h) fun y26 h=>
 aa (some (y5,h)) fun y27 h=>
 aa (pu (bin Tryd.prog .add 3 y26 y27) h) fun y28 h=>
 aa (pu (aN y23) h) fun y29 h=>
 aa (pu (aL y29 72) h) fun y30 h=>
 aa (eT 1 y30 y28 h) fun _ h=>
 aa (some ((x 1),h)) fun y31 h=>
 aa (some (y5,h)) fun y32 h=>
 aa (pu (slR 1 y31 (some y32) none none) h) fun y33 h=>
 aa (some (y33,h)) fun y1 h=>
 aa (some (y4,h)) fun y34 h=>
 aa (some (y5,h)) fun y35 h=>
 aa (pu (bin Tryd.prog .add 3 y34 y35) h) fun y36 h=>
 aa (pu (bin Tryd.prog .eql 3 y36 (.int .i64 64)) h) fun y37 h=>
 (match y37 with
 | .bool true=>
 aa (some ((x 0),h)) fun y38 h=>
 aa (C 149 [y38] h) fun y39 h=>
 some (.normal,(aO 40 (up x [(1,y1),(4,y4),(5,y5),(8,y8),(9,y9),(10,y10),(11,y11),(12,y12),(13,y13),(14,y14),(15,y15),(16,y16),(17,y17),(18,y18),(19,y19),(20,y20),(21,y21),(22,y22),(23,y23),(24,y24),(25,y25),(26,y26),(27,y27),(28,y28),(29,y29),(30,y30),(31,y31),(32,y32),(33,y33),(34,y34),(35,y35),(36,y36),(37,y37),(38,y38),(39,y39)])),h)
 | .bool false=>
 some (.normal,(aO 40 (up x [(1,y1),(4,y4),(5,y5),(8,y8),(9,y9),(10,y10),(11,y11),(12,y12),(13,y13),(14,y14),(15,y15),(16,y16),(17,y17),(18,y18),(19,y19),(20,y20),(21,y21),(22,y22),(23,y23),(24,y24),(25,y25),(26,y26),(27,y27),(28,y28),(29,y29),(30,y30),(31,y31),(32,y32),(33,y33),(34,y34),(35,y35),(36,y36),(37,y37)])),h)
 |_=>none)
 | .bool false=>
 some (.exit 0,(aO 40 (up x [(8,y8),(9,y9),(10,y10)])),h)
 |_=>none)
theorem t122_eq (C:ae) (x0 x1:Value) (h:ab):bw Tryd.prog C Tryd.f122 [x0,x1] h=t122 C x0 x1 h:=
 (aG Tryd.prog C Tryd.f122 [x0,x1] h (by kernel_rfl)).trans (by kernel_rfl)
theorem t122l122_10_eq (C:ae) (x:Nat→Value) (h:ab):av Tryd.prog C (partOf Tryd.f122 [1,0,0]) (aO 40 x) h=t122l122_10 C x h:=
 aI (T:=t122l122_10 C) (fun x h=>by kernel_rfl) x h
noncomputable def k123_9 (C:ae) (e:Env) (h:ab):Out:=cj Tryd.prog C (partOf Tryd.f123 [1,1,1,1,1,1,1,1]) e h (aj Tryd.prog Tryd.f123.results.toList) (aj Tryd.prog Tryd.f123.results.toList) (fun _ _ _=>none)
noncomputable def b123_11 (C:ae) (i:Nat) (e:Env) (h:ab):Out:=if i=0 then (k123_9 C) e h else (fun _ _ _=>none) i e h
noncomputable def k123_14 (C:ae) (e:Env) (h:ab):Out:=cj Tryd.prog C (partOf Tryd.f123 [1,1,1,1,1,1,1,1,1,1,1]) e h (aj Tryd.prog Tryd.f123.results.toList) (aj Tryd.prog Tryd.f123.results.toList) (fun _ _ _=>none)
noncomputable def b123_16 (C:ae) (i:Nat) (e:Env) (h:ab):Out:=if i=2 then (k123_14 C) e h else (fun _ _ _=>none) i e h
noncomputable def t123 (C:ae) (x0:Value) (h:ab):Out:=
 aa (dJ (List.replicate 32 (.int .u8 0)) h) fun y2 h=>
 aa (some (x0,h)) fun y10 h=>
 aa (pu (bin Tryd.prog .eql 158 y10 (.pointer none)) h) fun y11 h=>
 (match y11 with
 | .bool true=>
 aa (pu (eW (List.replicate 32 (.int .u8 0)) []) h) fun y12 h=>
 aa (eT 32 y2 y12 h) fun _ h=>
 aj Tryd.prog Tryd.f123.results.toList (aO 66 (up (bs [x0]) [(2,y2),(10,y10),(11,y11),(12,y12)])) h
 | .bool false=>
 aa (some (x0,h)) fun y13 h=>
 aa (pu (aN y13) h) fun y14 h=>
 aa (cT 73 y14 h) fun y15 h=>
 aa (dJ [(.int .u32 0),(.int .u32 0),(.int .u32 0),(.int .u32 0),(.int .u32 0),(.int .u32 0),(.int .u32 0),(.int .u32 0),(.int .u8 0),(.int .u8 0),(.int .u8 0),(.int .u8 0),(.int .u8 0),(.int .u8 0),(.int .u8 0),(.int .u8 0),(.int .u8 0),(.int .u8 0),(.int .u8 0),(.int .u8 0),(.int .u8 0),(.int .u8 0),(.int .u8 0),(.int .u8 0),(.int .u8 0),(.int .u8 0),(.int .u8 0),(.int .u8 0),(.int .u8 0),(.int .u8 0),(.int .u8 0),(.int .u8 0),(.int .u8 0),(.int .u8 0),(.int .u8 0),(.int .u8 0),(.int .u8 0),(.int .u8 0),(.int .u8 0),(.int .u8 0),(.int .u8 0),(.int .u8 0),(.int .u8 0),(.int .u8 0),(.int .u8 0),(.int .u8 0),(.int .u8 0),(.int .u8 0),(.int .u8 0),(.int .u8 0),(.int .u8 0),(.int .u8 0),(.int .u8 0),(.int .u8 0),(.int .u8 0),(.int .u8 0),(.int .u8 0),(.int .u8 0),(.int .u8 0),(.int .u8 0),(.int .u8 0),(.int .u8 0),(.int .u8 0),(.int .u8 0),(.int .u8 0),(.int .u8 0),(.int .u8 0),(.int .u8 0),(.int .u8 0),(.int .u8 0),(.int .u8 0),(.int .u8 0),(.int .i64 0)] h) fun y3 h=>
 aa (eT 73 y3 y15 h) fun _ h=>
 aa (dJ (List.replicate 72 (.int .u8 0)) h) fun y4 h=>
 aa (pu (bI 72 1 y4 (.int .i64 0)) h) fun y16 h=>
 aa (eT 1 y16 (.int .u8 128) h) fun _ h=>
 aa (some (x0,h)) fun y17 h=>
 aa (pu (aN y17) h) fun y18 h=>
 aa (pu (aL y18 72) h) fun y19 h=>
 aa (ld1 y19 h) fun y20 h=>
 aa (pu (bin Tryd.prog .add 3 y20 (.int .i64 8)) h) fun y21 h=>
 aa (pu (bin Tryd.prog .rem 3 y21 (.int .i64 64)) h) fun y22 h=>
 aa (pu (bin Tryd.prog .sub 3 (.int .i64 64) y22) h) fun y23 h=>
 aa (some (y23,h)) fun y5 h=>
 aa (some (x0,h)) fun y24 h=>
 aa (pu (aN y24) h) fun y25 h=>
 aa (pu (aL y25 72) h) fun y26 h=>
 aa (ld1 y26 h) fun y27 h=>
 aa (cvI .u64 y27 h) fun y28 h=>
 aa (pu (bin Tryd.prog .mul 32 y28 (.int .u64 8)) h) fun y29 h=>
 aa (some (y29,h)) fun y6 h=>
 aa (some ((.int .i64 0),h)) fun y30 h=>
 fl (iter (av Tryd.prog C (partOf Tryd.f123 [1,1,1,1,1,1,1,0,1,0,0])) rounds (aO 66 (up (bs [x0]) [(2,y2),(3,y3),(4,y4),(5,y5),(6,y6),(10,y10),(11,y11),(13,y13),(14,y14),(15,y15),(16,y16),(17,y17),(18,y18),(19,y19),(20,y20),(21,y21),(22,y22),(23,y23),(24,y24),(25,y25),(26,y26),(27,y27),(28,y28),(29,y29),(30,y30)])) h) (aj Tryd.prog Tryd.f123.results.toList) (b123_11 C)
 |_=>none)
noncomputable def t123k123_9 (C:ae) (x:Nat→Value) (h:ab):Out:=
 aa (some ((x 5),h)) fun y44 h=>
 aa (pu (bin Tryd.prog .add 3 y44 (.int .i64 8)) h) fun y45 h=>
 aa (pu (cy 72 1 (x 4) none (some y45) none) h) fun y46 h=>
 aa (C 122 [(x 3),y46] h) fun y47 h=>
 aa (dJ (List.replicate 32 (.int .u8 0)) h) fun y8 h=>
 aa (some ((.int .i64 0),h)) fun y48 h=>
 fl (iter (av Tryd.prog C (partOf Tryd.f123 [1,1,1,1,1,1,1,1,1,1,0,1,0,0])) rounds (aO 66 (up x [(8,y8),(44,y44),(45,y45),(46,y46),(47,y47),(48,y48)])) h) (aj Tryd.prog Tryd.f123.results.toList) (b123_16 C)
noncomputable def fS (_C:ae) (x:Nat→Value) (h:ab):Option (Ex×Env×ab):=
 aa (pu (bin Tryd.prog .lss 3 (x 30) (.int .i64 8)) h) fun y31 h=>
 (match y31 with
 | .bool true=>
 aa (some ((x 30),h)) fun y32 h=>
 aa (some (y32,h)) fun y7 h=>
 aa (some ((x 5),h)) fun y33 h=>
 aa (some (y7,h)) fun y34 h=>
 aa (pu (bin Tryd.prog .add 3 y33 y34) h) fun y35 h=>
 aa (some ((x 6),h)) fun y36 h=>
 aa (some (y7,h)) fun y37 h=>
 aa (pu (bin Tryd.prog .mul 3 (.int .i64 8) y37) h) fun y38 h=>
 aa (pu (bin Tryd.prog .sub 3 (.int .i64 56) y38) h) fun y39 h=>
 aa (pu (bin Tryd.prog .shr 32 y36 y39) h) fun y40 h=>
 aa (cvI .u8 y40 h) fun y41 h=>
 aa (pu (bI 72 1 (x 4) y35) h) fun y42 h=>
 aa (eT 1 y42 y41 h) fun _ h=>
 aa (pu (bin Tryd.prog .add 3 (x 30) (.int .i64 1)) h) fun y43 h=>
 aa (some (y43,h)) fun y30 h=>
 some (.normal,(aO 66 (up x [(7,y7),(30,y30),(31,y31),(32,y32),(33,y33),(34,y34),(35,y35),(36,y36),(37,y37),(38,y38),(39,y39),(40,y40),(41,y41),(42,y42),(43,y43)])),h)
 | .bool false=>
 some (.exit 0,(aO 66 (up x [(31,y31)])),h)
 |_=>none)
noncomputable def t123k123_14 (_C:ae) (x:Nat→Value) (h:ab):Out:=
 aa (cT 32 (x 8) h) fun y65 h=>
 aa (eT 32 (x 2) y65 h) fun _ h=>
 aj Tryd.prog Tryd.f123.results.toList (aO 66 (up x [(65,y65)])) h
noncomputable def eF (_C:ae) (x:Nat→Value) (h:ab):Option (Ex×Env×ab):=
 aa (pu (bin Tryd.prog .lss 3 (x 48) (.int .i64 32)) h) fun y49 h=>
 (match y49 with
 | .bool true=>
 aa (some ((x 48),h)) fun y50 h=>
 aa (some (y50,h)) fun y9 h=>
 aa (some (y9,h)) fun y51 h=>
 aa (some (y9,h)) fun y52 h=>
 aa (pu (bin Tryd.prog .quo 3 y52 (.int .i64 4)) h) fun y53 h=>
 aa (pu (aL (x 3) 0) h) fun y54 h=>
 aa (pu (bI 8 1 y54 y53) h) fun y55 h=>
 aa (ld1 y55 h) fun y56 h=>
 aa (some (y9,h)) fun y57 h=>
 aa (pu (bin Tryd.prog .rem 3 y57 (.int .i64 4)) h) fun y58 h=>
 aa (pu (bin Tryd.prog .mul 3 (.int .i64 8) y58) h) fun y59 h=>
 aa (pu (bin Tryd.prog .sub 3 (.int .i64 24) y59) h) fun y60 h=>
 aa (pu (bin Tryd.prog .shr 174 y56 y60) h) fun y61 h=>
 aa (cvI .u8 y61 h) fun y62 h=>
 aa (pu (bI 32 1 (x 8) y51) h) fun y63 h=>
 aa (eT 1 y63 y62 h) fun _ h=>
 aa (pu (bin Tryd.prog .add 3 (x 48) (.int .i64 1)) h) fun y64 h=>
 aa (some (y64,h)) fun y48 h=>
 some (.normal,(aO 66 (up x [(9,y9),(48,y48),(49,y49),(50,y50),(51,y51),(52,y52),(53,y53),(54,y54),(55,y55),(56,y56),(57,y57),(58,y58),(59,y59),(60,y60),(61,y61),(62,y62),(63,y63),(64,y64)])),h)
 | .bool false=>
 some (.exit 2,(aO 66 (up x [(49,y49)])),h)
 |_=>none)
theorem t123_eq (C:ae) (x0:Value) (h:ab):bw Tryd.prog C Tryd.f123 [x0] h=t123 C x0 h:=
 (aG Tryd.prog C Tryd.f123 [x0] h (by kernel_rfl)).trans (by kernel_rfl)
theorem t123k123_9_eq (C:ae) (x:Nat→Value) (h:ab):k123_9 C (aO 66 x) h=t123k123_9 C x h:=
 bk (b:=(partOf Tryd.f123 [1,1,1,1,1,1,1,1])) (kE:=(aj Tryd.prog Tryd.f123.results.toList)) (rE:=(aj Tryd.prog Tryd.f123.results.toList)) (xE:=(fun _ _ _=>none)) (T:=t123k123_9 C) (fun x h=>by kernel_rfl) x h
theorem t123l123_1111111010_eq (C:ae) (x:Nat→Value) (h:ab):av Tryd.prog C (partOf Tryd.f123 [1,1,1,1,1,1,1,0,1,0,0]) (aO 66 x) h=fS C x h:=
 aI (T:=fS C) (fun x h=>by kernel_rfl) x h
theorem t123k123_14_eq (C:ae) (x:Nat→Value) (h:ab):k123_14 C (aO 66 x) h=t123k123_14 C x h:=
 bk (b:=(partOf Tryd.f123 [1,1,1,1,1,1,1,1,1,1,1])) (kE:=(aj Tryd.prog Tryd.f123.results.toList)) (rE:=(aj Tryd.prog Tryd.f123.results.toList)) (xE:=(fun _ _ _=>none)) (T:=t123k123_14 C) (fun x h=>by kernel_rfl) x h
theorem t123l123_1111111111010_eq (C:ae) (x:Nat→Value) (h:ab):av Tryd.prog C (partOf Tryd.f123 [1,1,1,1,1,1,1,1,1,1,0,1,0,0]) (aO 66 x) h=eF C x h:=
 aI (T:=eF C) (fun x h=>by kernel_rfl) x h
noncomputable def k149_1 (C:ae) (e:Env) (h:ab):Out:=cj Tryd.prog C (partOf Tryd.f149 [1,1]) e h (aj Tryd.prog Tryd.f149.results.toList) (aj Tryd.prog Tryd.f149.results.toList) (fun _ _ _=>none)
noncomputable def b149_3 (C:ae) (i:Nat) (e:Env) (h:ab):Out:=if i=0 then (k149_1 C) e h else (fun _ _ _=>none) i e h
noncomputable def k149_4 (C:ae) (e:Env) (h:ab):Out:=cj Tryd.prog C (partOf Tryd.f149 [1,1,1]) e h (aj Tryd.prog Tryd.f149.results.toList) (aj Tryd.prog Tryd.f149.results.toList) (fun _ _ _=>none)
noncomputable def b149_6 (C:ae) (i:Nat) (e:Env) (h:ab):Out:=if i=2 then (k149_4 C) e h else (fun _ _ _=>none) i e h
noncomputable def k149_14 (C:ae) (e:Env) (h:ab):Out:=cj Tryd.prog C (partOf Tryd.f149 [1,1,1,1,1,1]) e h (aj Tryd.prog Tryd.f149.results.toList) (aj Tryd.prog Tryd.f149.results.toList) (fun _ _ _=>none)
noncomputable def b149_16 (C:ae) (i:Nat) (e:Env) (h:ab):Out:=if i=4 then (k149_14 C) e h else (fun _ _ _=>none) i e h
noncomputable def b149_25 (_C:ae) (i:Nat) (e:Env) (h:ab):Out:=if i=6 then (aj Tryd.prog Tryd.f149.results.toList) e h else (fun _ _ _=>none) i e h
noncomputable def t149 (C:ae) (x0:Value) (h:ab):Out:=
 aa (dJ (List.replicate 64 (.int .u32 0)) h) fun y2 h=>
 aa (some ((.int .i64 0),h)) fun y24 h=>
 fl (iter (av Tryd.prog C (partOf Tryd.f149 [1,0,1,0,0])) rounds (aO 241 (up (bs [x0]) [(2,y2),(24,y24)])) h) (aj Tryd.prog Tryd.f149.results.toList) (b149_3 C)
noncomputable def t149k149_1 (C:ae) (x:Nat→Value) (h:ab):Out:=
 aa (some ((.int .i64 16),h)) fun y4 h=>
 fl (iter (av Tryd.prog C (partOf Tryd.f149 [1,1,0,1,0,0])) rounds (aO 241 (up x [(4,y4)])) h) (aj Tryd.prog Tryd.f149.results.toList) (b149_6 C)
noncomputable def t149l149_1010 (_C:ae) (x:Nat→Value) (h:ab):Option (Ex×Env×ab):=
 aa (pu (bin Tryd.prog .lss 3 (x 24) (.int .i64 16)) h) fun y25 h=>
 (match y25 with
 | .bool true=>
 aa (some ((x 24),h)) fun y26 h=>
 aa (some (y26,h)) fun y3 h=>
 aa (some (y3,h)) fun y27 h=>
 aa (some ((x 0),h)) fun y28 h=>
 aa (some (y3,h)) fun y29 h=>
 aa (pu (bin Tryd.prog .mul 3 (.int .i64 4) y29) h) fun y30 h=>
 aa (pu (aN y28) h) fun y31 h=>
 aa (pu (aL y31 8) h) fun y32 h=>
 aa (pu (bI 64 1 y32 y30) h) fun y33 h=>
 aa (ld1 y33 h) fun y34 h=>
 aa (cvI .u32 y34 h) fun y35 h=>
 aa (pu (bin Tryd.prog .shl 174 y35 (.int .u64 24)) h) fun y36 h=>
 aa (some ((x 0),h)) fun y37 h=>
 aa (some (y3,h)) fun y38 h=>
 aa (pu (bin Tryd.prog .mul 3 (.int .i64 4) y38) h) fun y39 h=>
 aa (pu (bin Tryd.prog .add 3 y39 (.int .i64 1)) h) fun y40 h=>
 aa (pu (aN y37) h) fun y41 h=>
 aa (pu (aL y41 8) h) fun y42 h=>
 aa (pu (bI 64 1 y42 y40) h) fun y43 h=>
 aa (ld1 y43 h) fun y44 h=>
 aa (cvI .u32 y44 h) fun y45 h=>
 aa (pu (bin Tryd.prog .shl 174 y45 (.int .u64 16)) h) fun y46 h=>
 aa (pu (bin Tryd.prog .or 174 y36 y46) h) fun y47 h=>
 aa (some ((x 0),h)) fun y48 h=>
 aa (some (y3,h)) fun y49 h=>
 aa (pu (bin Tryd.prog .mul 3 (.int .i64 4) y49) h) fun y50 h=>
 aa (pu (bin Tryd.prog .add 3 y50 (.int .i64 2)) h) fun y51 h=>
 aa (pu (aN y48) h) fun y52 h=>
 aa (pu (aL y52 8) h) fun y53 h=>
 aa (pu (bI 64 1 y53 y51) h) fun y54 h=>
 aa (ld1 y54 h) fun y55 h=>
 aa (cvI .u32 y55 h) fun y56 h=>
 aa (pu (bin Tryd.prog .shl 174 y56 (.int .u64 8)) h) fun y57 h=>
 aa (pu (bin Tryd.prog .or 174 y47 y57) h) fun y58 h=>
 aa (some ((x 0),h)) fun y59 h=>
 aa (some (y3,h)) fun y60 h=>
 aa (pu (bin Tryd.prog .mul 3 (.int .i64 4) y60) h) fun y61 h=>
 aa (pu (bin Tryd.prog .add 3 y61 (.int .i64 3)) h) fun y62 h=>
 aa (pu (aN y59) h) fun y63 h=>
 aa (pu (aL y63 8) h) fun y64 h=>
 aa (pu (bI 64 1 y64 y62) h) fun y65 h=>
 aa (ld1 y65 h) fun y66 h=>
 aa (cvI .u32 y66 h) fun y67 h=>
 aa (pu (bin Tryd.prog .or 174 y58 y67) h) fun y68 h=>
 aa (pu (bI 64 1 (x 2) y27) h) fun y69 h=>
 aa (eT 1 y69 y68 h) fun _ h=>
 aa (pu (bin Tryd.prog .add 3 (x 24) (.int .i64 1)) h) fun y70 h=>
 aa (some (y70,h)) fun y24 h=>
 some (.normal,(aO 241 (up x [(3,y3),(24,y24),(25,y25),(26,y26),(27,y27),(28,y28),(29,y29),(30,y30),(31,y31),(32,y32),(33,y33),(34,y34),(35,y35),(36,y36),(37,y37),(38,y38),(39,y39),(40,y40),(41,y41),(42,y42),(43,y43),(44,y44),(45,y45),(46,y46),(47,y47),(48,y48),(49,y49),(50,y50),(51,y51),(52,y52),(53,y53),(54,y54),(55,y55),(56,y56),(57,y57),(58,y58),(59,y59),(60,y60),(61,y61),(62,y62),(63,y63),(64,y64),(65,y65),(66,y66),(67,y67),(68,y68),(69,y69),(70,y70)])),h)
 | .bool false=>
 some (.exit 0,(aO 241 (up x [(25,y25)])),h)
 |_=>none)
noncomputable def t149k149_4 (C:ae) (x:Nat→Value) (h:ab):Out:=
 aa (some ((x 0),h)) fun y114 h=>
 aa (pu (aN y114) h) fun y115 h=>
 aa (pu (aL y115 0) h) fun y116 h=>
 aa (pu (bI 8 1 y116 (.int .i64 0)) h) fun y117 h=>
 aa (ld1 y117 h) fun y118 h=>
 aa (some ((x 0),h)) fun y119 h=>
 aa (pu (aN y119) h) fun y120 h=>
 aa (pu (aL y120 0) h) fun y121 h=>
 aa (pu (bI 8 1 y121 (.int .i64 1)) h) fun y122 h=>
 aa (ld1 y122 h) fun y123 h=>
 aa (some ((x 0),h)) fun y124 h=>
 aa (pu (aN y124) h) fun y125 h=>
 aa (pu (aL y125 0) h) fun y126 h=>
 aa (pu (bI 8 1 y126 (.int .i64 2)) h) fun y127 h=>
 aa (ld1 y127 h) fun y128 h=>
 aa (some ((x 0),h)) fun y129 h=>
 aa (pu (aN y129) h) fun y130 h=>
 aa (pu (aL y130 0) h) fun y131 h=>
 aa (pu (bI 8 1 y131 (.int .i64 3)) h) fun y132 h=>
 aa (ld1 y132 h) fun y133 h=>
 aa (some (y118,h)) fun y9 h=>
 aa (some (y123,h)) fun y10 h=>
 aa (some (y128,h)) fun y11 h=>
 aa (some (y133,h)) fun y12 h=>
 aa (some ((x 0),h)) fun y134 h=>
 aa (pu (aN y134) h) fun y135 h=>
 aa (pu (aL y135 0) h) fun y136 h=>
 aa (pu (bI 8 1 y136 (.int .i64 4)) h) fun y137 h=>
 aa (ld1 y137 h) fun y138 h=>
 aa (some ((x 0),h)) fun y139 h=>
 aa (pu (aN y139) h) fun y140 h=>
 aa (pu (aL y140 0) h) fun y141 h=>
 aa (pu (bI 8 1 y141 (.int .i64 5)) h) fun y142 h=>
 aa (ld1 y142 h) fun y143 h=>
 aa (some ((x 0),h)) fun y144 h=>
 aa (pu (aN y144) h) fun y145 h=>
 aa (pu (aL y145 0) h) fun y146 h=>
 aa (pu (bI 8 1 y146 (.int .i64 6)) h) fun y147 h=>
 aa (ld1 y147 h) fun y148 h=>
 aa (some ((x 0),h)) fun y149 h=>
 aa (pu (aN y149) h) fun y150 h=>
 aa (pu (aL y150 0) h) fun y151 h=>
 aa (pu (bI 8 1 y151 (.int .i64 7)) h) fun y152 h=>
 aa (ld1 y152 h) fun y153 h=>
 aa (some (y138,h)) fun y13 h=>
 aa (some (y143,h)) fun y14 h=>
 aa (some (y148,h)) fun y15 h=>
 aa (some (y153,h)) fun y16 h=>
 aa (some ((.int .i64 0),h)) fun y154 h=>
 fl (iter (av Tryd.prog C (partOf Tryd.f149 [1,1,1,1,1,0,1,0,0])) rounds (aO 241 (up x [(9,y9),(10,y10),(11,y11),(12,y12),(13,y13),(14,y14),(15,y15),(16,y16),(114,y114),(115,y115),(116,y116),(117,y117),(118,y118),(119,y119),(120,y120),(121,y121),(122,y122),(123,y123),(124,y124),(125,y125),(126,y126),(127,y127),(128,y128),(129,y129),(130,y130),(131,y131),(132,y132),(133,y133),(134,y134),(135,y135),(136,y136),(137,y137),(138,y138),(139,y139),(140,y140),(141,y141),(142,y142),(143,y143),(144,y144),(145,y145),(146,y146),(147,y147),(148,y148),(149,y149),(150,y150),(151,y151),(152,y152),(153,y153),(154,y154)])) h) (aj Tryd.prog Tryd.f149.results.toList) (b149_16 C)
noncomputable def t149l149_11010 (C:ae) (x:Nat→Value) (h:ab):Option (Ex×Env×ab):=
 aa (some ((x 4),h)) fun y71 h=>
 aa (pu (bin Tryd.prog .lss 3 y71 (.int .i64 64)) h) fun y72 h=>
 (match y72 with
 | .bool true=>
 aa (some ((x 4),h)) fun y75 h=>
 aa (pu (bin Tryd.prog .sub 3 y75 (.int .i64 15)) h) fun y76 h=>
 aa (pu (bI 64 1 (x 2) y76) h) fun y77 h=>
 aa (ld1 y77 h) fun y78 h=>
 aa (some ((x 4),h)) fun y79 h=>
 aa (pu (bin Tryd.prog .sub 3 y79 (.int .i64 2)) h) fun y80 h=>
 aa (pu (bI 64 1 (x 2) y80) h) fun y81 h=>
 aa (ld1 y81 h) fun y82 h=>
 aa (some (y78,h)) fun y5 h=>
 aa (some (y82,h)) fun y6 h=>
 aa (some (y5,h)) fun y83 h=>
 aa (C 159 [y83,(.int .i64 (-7))] h) fun y84 h=>
 aa (some (y5,h)) fun y85 h=>
 aa (C 159 [y85,(.int .i64 (-18))] h) fun y86 h=>
 aa (pu (bin Tryd.prog .xor 174 y84 y86) h) fun y87 h=>
 aa (some (y5,h)) fun y88 h=>
 aa (pu (bin Tryd.prog .shr 174 y88 (.int .u64 3)) h) fun y89 h=>
 aa (pu (bin Tryd.prog .xor 174 y87 y89) h) fun y90 h=>
 aa (some (y90,h)) fun y7 h=>
 aa (some (y6,h)) fun y91 h=>
 aa (C 159 [y91,(.int .i64 (-17))] h) fun y92 h=>
 aa (some (y6,h)) fun y93 h=>
 aa (C 159 [y93,(.int .i64 (-19))] h) fun y94 h=>
 aa (pu (bin Tryd.prog .xor 174 y92 y94) h) fun y95 h=>
 aa (some (y6,h)) fun y96 h=>
 aa (pu (bin Tryd.prog .shr 174 y96 (.int .u64 10)) h) fun y97 h=>
 aa (pu (bin Tryd.prog .xor 174 y95 y97) h) fun y98 h=>
 aa (some (y98,h)) fun y8 h=>
 aa (some ((x 4),h)) fun y99 h=>
 aa (some ((x 4),h)) fun y100 h=>
 aa (pu (bin Tryd.prog .sub 3 y100 (.int .i64 16)) h) fun y101 h=>
 aa (pu (bI 64 1 (x 2) y101) h) fun y102 h=>
 aa (ld1 y102 h) fun y103 h=>
 aa (some (y7,h)) fun y104 h=>
 aa (pu (bin Tryd.prog .add 174 y103 y104) h) fun y105 h=>
 aa (some ((x 4),h)) fun y106 h=>
 aa (pu (bin Tryd.prog .sub 3 y106 (.int .i64 7)) h) fun y107 h=>
 aa (pu (bI 64 1 (x 2) y107) h) fun y108 h=>
 aa (ld1 y108 h) fun y109 h=>
 aa (pu (bin Tryd.prog .add 174 y105 y109) h) fun y110 h=>
 aa (some (y8,h)) fun y111 h=>
 aa (pu (bin Tryd.prog .add 174 y110 y111) h) fun y112 h=>
 aa (pu (bI 64 1 (x 2) y99) h) fun y113 h=>
 aa (eT 1 y113 y112 h) fun _ h=>
 aa (some ((x 4),h)) fun y73 h=>
 aa (pu (bin Tryd.prog .add 3 y73 (.int .i64 1)) h) fun y74 h=>
 aa (some (y74,h)) fun y4 h=>
 some (.normal,(aO 241 (up x [(4,y4),(5,y5),(6,y6),(7,y7),(8,y8),(71,y71),(72,y72),(73,y73),(74,y74),(75,y75),(76,y76),(77,y77),(78,y78),(79,y79),(80,y80),(81,y81),(82,y82),(83,y83),(84,y84),(85,y85),(86,y86),(87,y87),(88,y88),(89,y89),(90,y90),(91,y91),(92,y92),(93,y93),(94,y94),(95,y95),(96,y96),(97,y97),(98,y98),(99,y99),(100,y100),(101,y101),(102,y102),(103,y103),(104,y104),(105,y105),(106,y106),(107,y107),(108,y108),(109,y109),(110,y110),(111,y111),(112,y112),(113,y113)])),h)
 | .bool false=>
 some (.exit 2,(aO 241 (up x [(71,y71),(72,y72)])),h)
 |_=>none)
noncomputable def t149k149_14 (C:ae) (x:Nat→Value) (h:ab):Out:=
 aa (some ((x 9),h)) fun y216 h=>
 aa (some ((x 10),h)) fun y217 h=>
 aa (some ((x 11),h)) fun y218 h=>
 aa (some ((x 12),h)) fun y219 h=>
 aa (some ((x 13),h)) fun y220 h=>
 aa (some ((x 14),h)) fun y221 h=>
 aa (some ((x 15),h)) fun y222 h=>
 aa (some ((x 16),h)) fun y223 h=>
 aa (pu (eW (List.replicate 8 (.int .u32 0)) [(0,1,y216),(1,1,y217),(2,1,y218),(3,1,y219),(4,1,y220),(5,1,y221),(6,1,y222),(7,1,y223)]) h) fun y224 h=>
 aa (some ((.int .i64 0),h)) fun y225 h=>
 fl (iter (av Tryd.prog C (partOf Tryd.f149 [1,1,1,1,1,1,1,0,0])) rounds (aO 241 (up x [(216,y216),(217,y217),(218,y218),(219,y219),(220,y220),(221,y221),(222,y222),(223,y223),(224,y224),(225,y225)])) h) (aj Tryd.prog Tryd.f149.results.toList) (b149_25 C)
noncomputable def gM (C:ae) (x:Nat→Value) (h:ab):Option (Ex×Env×ab):=
 aa (pu (bin Tryd.prog .lss 3 (x 154) (.int .i64 64)) h) fun y155 h=>
 (match y155 with
 | .bool true=>
 aa (some ((x 154),h)) fun y156 h=>
 aa (some (y156,h)) fun y17 h=>
 aa (some ((x 13),h)) fun y157 h=>
 aa (C 159 [y157,(.int .i64 (-6))] h) fun y158 h=>
 aa (some ((x 13),h)) fun y159 h=>
 aa (C 159 [y159,(.int .i64 (-11))] h) fun y160 h=>
 aa (pu (bin Tryd.prog .xor 174 y158 y160) h) fun y161 h=>
 aa (some ((x 13),h)) fun y162 h=>
 aa (C 159 [y162,(.int .i64 (-25))] h) fun y163 h=>
 aa (pu (bin Tryd.prog .xor 174 y161 y163) h) fun y164 h=>
 aa (some (y164,h)) fun y18 h=>
 aa (some ((x 16),h)) fun y165 h=>
 aa (some (y18,h)) fun y166 h=>
 aa (pu (bin Tryd.prog .add 174 y165 y166) h) fun y167 h=>
 aa (some ((x 15),h)) fun y168 h=>
 aa (some ((x 13),h)) fun y169 h=>
 aa (some ((x 14),h)) fun y170 h=>
 aa (some ((x 15),h)) fun y171 h=>
 aa (pu (bin Tryd.prog .xor 174 y170 y171) h) fun y172 h=>
 aa (pu (bin Tryd.prog .and 174 y169 y172) h) fun y173 h=>
 aa (pu (bin Tryd.prog .xor 174 y168 y173) h) fun y174 h=>
 aa (pu (bin Tryd.prog .add 174 y167 y174) h) fun y175 h=>
 aa (some (y17,h)) fun y176 h=>
 aa (pu (bI 64 1 (ptr 3 0) y176) h) fun y177 h=>
 aa (ld1 y177 h) fun y178 h=>
 aa (pu (bin Tryd.prog .add 174 y175 y178) h) fun y179 h=>
 aa (some (y17,h)) fun y180 h=>
 aa (pu (bI 64 1 (x 2) y180) h) fun y181 h=>
 aa (ld1 y181 h) fun y182 h=>
 aa (pu (bin Tryd.prog .add 174 y179 y182) h) fun y183 h=>
 aa (some (y183,h)) fun y19 h=>
 aa (some ((x 9),h)) fun y184 h=>
 aa (C 159 [y184,(.int .i64 (-2))] h) fun y185 h=>
 aa (some ((x 9),h)) fun y186 h=>
 aa (C 159 [y186,(.int .i64 (-13))] h) fun y187 h=>
 aa (pu (bin Tryd.prog .xor 174 y185 y187) h) fun y188 h=>
 aa (some ((x 9),h)) fun y189 h=>
 aa (C 159 [y189,(.int .i64 (-22))] h) fun y190 h=>
 aa (pu (bin Tryd.prog .xor 174 y188 y190) h) fun y191 h=>
 aa (some (y191,h)) fun y20 h=>
 aa (some (y20,h)) fun y192 h=>
 aa (some ((x 9),h)) fun y193 h=>
 aa (some ((x 10),h)) fun y194 h=>
 aa (pu (bin Tryd.prog .and 174 y193 y194) h) fun y195 h=>
 aa (some ((x 11),h)) fun y196 h=>
 aa (some ((x 9),h)) fun y197 h=>
 aa (some ((x 10),h)) fun y198 h=>
 aa (pu (bin Tryd.prog .or 174 y197 y198) h) fun y199 h=>
 aa (pu (bin Tryd.prog .and 174 y196 y199) h) fun y200 h=>
 aa (pu (bin Tryd.prog .or 174 y195 y200) h) fun y201 h=>
 aa (pu (bin Tryd.prog .add 174 y192 y201) h) fun y202 h=>
 aa (some (y202,h)) fun y21 h=>
 aa (some ((x 15),h)) fun y203 h=>
 aa (some ((x 14),h)) fun y204 h=>
 aa (some ((x 13),h)) fun y205 h=>
 aa (some ((x 12),h)) fun y206 h=>
 aa (some (y19,h)) fun y207 h=>
 aa (pu (bin Tryd.prog .add 174 y206 y207) h) fun y208 h=>
 aa (some (y203,h)) fun y16 h=>
 aa (some (y204,h)) fun y15 h=>
 aa (some (y205,h)) fun y14 h=>
 aa (some (y208,h)) fun y13 h=>
 aa (some ((x 11),h)) fun y209 h=>
 aa (some ((x 10),h)) fun y210 h=>
 aa (some ((x 9),h)) fun y211 h=>
 aa (some (y19,h)) fun y212 h=>
 aa (some (y21,h)) fun y213 h=>
 aa (pu (bin Tryd.prog .add 174 y212 y213) h) fun y214 h=>
 aa (some (y209,h)) fun y12 h=>
 aa (some (y210,h)) fun y11 h=>
 aa (some (y211,h)) fun y10 h=>
 aa (some (y214,h)) fun y9 h=>
 aa (pu (bin Tryd.prog .add 3 (x 154) (.int .i64 1)) h) fun y215 h=>
 aa (some (y215,h)) fun y154 h=>
 some (.normal,(aO 241 (up x [(9,y9),(10,y10),(11,y11),(12,y12),(13,y13),(14,y14),(15,y15),(16,y16),(17,y17),(18,y18),(19,y19),(20,y20),(21,y21),(154,y154),(155,y155),(156,y156),(157,y157),(158,y158),(159,y159),(160,y160),(161,y161),(162,y162),(163,y163),(164,y164),(165,y165),(166,y166),(167,y167),(168,y168),(169,y169),(170,y170),(171,y171),(172,y172),(173,y173),(174,y174),(175,y175),(176,y176),(177,y177),(178,y178),(179,y179),(180,y180),(181,y181),(182,y182),(183,y183),(184,y184),(185,y185),(186,y186),(187,y187),(188,y188),(189,y189),(190,y190),(191,y191),(192,y192),(193,y193),(194,y194),(195,y195),(196,y196),(197,y197),(198,y198),(199,y199),(200,y200),(201,y201),(202,y202),(203,y203),(204,y204),(205,y205),(206,y206),(207,y207),(208,y208),(209,y209),(210,y210),(211,y211),(212,y212),(213,y213),(214,y214),(215,y215)])),h)
 | .bool false=>
 some (.exit 4,(aO 241 (up x [(155,y155)])),h)
 |_=>none)
noncomputable def gO (_C:ae) (x:Nat→Value) (h:ab):Option (Ex×Env×ab):=
 aa (pu (bin Tryd.prog .lss 3 (x 225) (.int .i64 8)) h) fun y226 h=>
 (match y226 with
 | .bool true=>
 aa (some ((x 225),h)) fun y227 h=>
 aa (pu (ixA1 8 1 (x 224) (x 225)) h) fun y228 h=>
 aa (some (y227,h)) fun y22 h=>
 aa (some (y228,h)) fun y23 h=>
 aa (some ((x 0),h)) fun y229 h=>
 aa (some (y22,h)) fun y230 h=>
 aa (pu (aN y229) h) fun y231 h=>
 aa (pu (aL y231 0) h) fun y232 h=>
 aa (pu (bI 8 1 y232 y230) h) fun y233 h=>
 aa (ld1 y233 h) fun y234 h=>
 aa (some (y23,h)) fun y235 h=>
 aa (pu (bin Tryd.prog .add 174 y234 y235) h) fun y236 h=>
 aa (pu (aN y229) h) fun y237 h=>
 aa (pu (aL y237 0) h) fun y238 h=>
 aa (pu (bI 8 1 y238 y230) h) fun y239 h=>
 aa (eT 1 y239 y236 h) fun _ h=>
 aa (pu (bin Tryd.prog .add 3 (x 225) (.int .i64 1)) h) fun y240 h=>
 aa (some (y240,h)) fun y225 h=>
 some (.normal,(aO 241 (up x [(22,y22),(23,y23),(225,y225),(226,y226),(227,y227),(228,y228),(229,y229),(230,y230),(231,y231),(232,y232),(233,y233),(234,y234),(235,y235),(236,y236),(237,y237),(238,y238),(239,y239),(240,y240)])),h)
 | .bool false=>
 some (.exit 6,(aO 241 (up x [(226,y226)])),h)
 |_=>none)
theorem t149_eq (C:ae) (x0:Value) (h:ab):bw Tryd.prog C Tryd.f149 [x0] h=t149 C x0 h:=
 (aG Tryd.prog C Tryd.f149 [x0] h (by kernel_rfl)).trans (by kernel_rfl)
theorem t149k149_1_eq (C:ae) (x:Nat→Value) (h:ab):k149_1 C (aO 241 x) h=t149k149_1 C x h:=
 bk (b:=(partOf Tryd.f149 [1,1])) (kE:=(aj Tryd.prog Tryd.f149.results.toList)) (rE:=(aj Tryd.prog Tryd.f149.results.toList)) (xE:=(fun _ _ _=>none)) (T:=t149k149_1 C) (fun x h=>by kernel_rfl) x h
theorem t149l149_1010_eq (C:ae) (x:Nat→Value) (h:ab):av Tryd.prog C (partOf Tryd.f149 [1,0,1,0,0]) (aO 241 x) h=t149l149_1010 C x h:=
 aI (T:=t149l149_1010 C) (fun x h=>by kernel_rfl) x h
theorem t149k149_4_eq (C:ae) (x:Nat→Value) (h:ab):k149_4 C (aO 241 x) h=t149k149_4 C x h:=
 bk (b:=(partOf Tryd.f149 [1,1,1])) (kE:=(aj Tryd.prog Tryd.f149.results.toList)) (rE:=(aj Tryd.prog Tryd.f149.results.toList)) (xE:=(fun _ _ _=>none)) (T:=t149k149_4 C) (fun x h=>by kernel_rfl) x h
theorem t149l149_11010_eq (C:ae) (x:Nat→Value) (h:ab):av Tryd.prog C (partOf Tryd.f149 [1,1,0,1,0,0]) (aO 241 x) h=t149l149_11010 C x h:=
 aI (T:=t149l149_11010 C) (fun x h=>by kernel_rfl) x h
theorem t149k149_14_eq (C:ae) (x:Nat→Value) (h:ab):k149_14 C (aO 241 x) h=t149k149_14 C x h:=
 bk (b:=(partOf Tryd.f149 [1,1,1,1,1,1])) (kE:=(aj Tryd.prog Tryd.f149.results.toList)) (rE:=(aj Tryd.prog Tryd.f149.results.toList)) (xE:=(fun _ _ _=>none)) (T:=t149k149_14 C) (fun x h=>by kernel_rfl) x h
theorem t149l149_11111010_eq (C:ae) (x:Nat→Value) (h:ab):av Tryd.prog C (partOf Tryd.f149 [1,1,1,1,1,0,1,0,0]) (aO 241 x) h=gM C x h:=
 aI (T:=gM C) (fun x h=>by kernel_rfl) x h
theorem t149l149_11111110_eq (C:ae) (x:Nat→Value) (h:ab):av Tryd.prog C (partOf Tryd.f149 [1,1,1,1,1,1,1,0,0]) (aO 241 x) h=gO C x h:=
 aI (T:=gO C) (fun x h=>by kernel_rfl) x h
noncomputable def t159 (_C:ae) (x0 x1:Value) (h:ab):Out:=
 aa (some ((.int .u32 0),h)) fun _y4 h=>
 aa (some (x1,h)) fun y6 h=>
 aa (cvI .u64 y6 h) fun y7 h=>
 aa (pu (bin Tryd.prog .and 111 y7 (.int .u64 31)) h) fun y8 h=>
 aa (some (y8,h)) fun y5 h=>
 aa (some (x0,h)) fun y9 h=>
 aa (some (y5,h)) fun y10 h=>
 aa (pu (bin Tryd.prog .shl 174 y9 y10) h) fun y11 h=>
 aa (some (x0,h)) fun y12 h=>
 aa (some (y5,h)) fun y13 h=>
 aa (pu (bin Tryd.prog .sub 111 (.int .u64 32) y13) h) fun y14 h=>
 aa (pu (bin Tryd.prog .shr 174 y12 y14) h) fun y15 h=>
 aa (pu (bin Tryd.prog .or 174 y11 y15) h) fun y16 h=>
 aa (some (y16,h)) fun y4_1 h=>
 some (y4_1,h)
theorem t159_eq (C:ae) (x0 x1:Value) (h:ab):bw Tryd.prog C Tryd.f159 [x0,x1] h=t159 C x0 x1 h:=
 (aG Tryd.prog C Tryd.f159 [x0,x1] h (by kernel_rfl)).trans (by kernel_rfl)
noncomputable def t69 (C:ae) (x0:Value) (h:ab):Out:=
 aa (box x0 h) fun y1 h=>
 aa (dJ (List.replicate 32 (.int .u8 0)) h) fun y2 h=>
 aa (cT 39 y1 h) fun y7 h=>
 aa (C 43 [y7] h) fun y8 h=>
 aa (some (y8,h)) fun y6 h=>
 aa (pu (bm y6 0) h) fun y9 h=>
 aa (pu (bm y6 1) h) fun y10 h=>
 aa (some (y9,h)) fun y3 h=>
 aa (some (y10,h)) fun y4 h=>
 aa (C 121 [] h) fun y11 h=>
 aa (some (y11,h)) fun y5 h=>
 aa (some (y5,h)) fun y12 h=>
 aa (cO 1 (.int .u8 0) 1 [(0,(.int .u8 0))] h) fun y13 h=>
 aa (C 122 [y12,y13] h) fun y14 h=>
 aa (some (y5,h)) fun y15 h=>
 aa (some (y3,h)) fun y16 h=>
 aa (C 122 [y15,y16] h) fun y17 h=>
 aa (some (y5,h)) fun y18 h=>
 aa (C 123 [y18] h) fun y19 h=>
 aa (eT 32 y2 y19 h) fun _ h=>
 aj Tryd.prog Tryd.f69.results.toList (aO 20 (up (bs [x0]) [(1,y1),(2,y2),(3,y3),(4,y4),(5,y5),(6,y6),(7,y7),(8,y8),(9,y9),(10,y10),(11,y11),(12,y12),(13,y13),(14,y14),(15,y15),(16,y16),(17,y17),(18,y18),(19,y19)])) h
theorem t69_eq (C:ae) (x0:Value) (h:ab):bw Tryd.prog C Tryd.f69 [x0] h=t69 C x0 h:=
 (aG Tryd.prog C Tryd.f69 [x0] h (by kernel_rfl)).trans (by kernel_rfl)
noncomputable def t70 (C:ae) (x0 x1:Value) (h:ab):Out:=
 aa (box x0 h) fun y2 h=>
 aa (box x1 h) fun y3 h=>
 aa (dJ (List.replicate 32 (.int .u8 0)) h) fun y4 h=>
 aa (C 121 [] h) fun y6 h=>
 aa (some (y6,h)) fun y5 h=>
 aa (some (y5,h)) fun y7 h=>
 aa (cO 1 (.int .u8 0) 1 [(0,(.int .u8 1))] h) fun y8 h=>
 aa (C 122 [y7,y8] h) fun y9 h=>
 aa (some (y5,h)) fun y10 h=>
 aa (pu (cy 32 1 y2 none none none) h) fun y11 h=>
 aa (C 122 [y10,y11] h) fun y12 h=>
 aa (some (y5,h)) fun y13 h=>
 aa (pu (cy 32 1 y3 none none none) h) fun y14 h=>
 aa (C 122 [y13,y14] h) fun y15 h=>
 aa (some (y5,h)) fun y16 h=>
 aa (C 123 [y16] h) fun y17 h=>
 aa (eT 32 y4 y17 h) fun _ h=>
 aj Tryd.prog Tryd.f70.results.toList (aO 18 (up (bs [x0,x1]) [(2,y2),(3,y3),(4,y4),(5,y5),(6,y6),(7,y7),(8,y8),(9,y9),(10,y10),(11,y11),(12,y12),(13,y13),(14,y14),(15,y15),(16,y16),(17,y17)])) h
theorem t70_eq (C:ae) (x0 x1:Value) (h:ab):bw Tryd.prog C Tryd.f70 [x0,x1] h=t70 C x0 x1 h:=
 (aG Tryd.prog C Tryd.f70 [x0,x1] h (by kernel_rfl)).trans (by kernel_rfl)
end Go.Proofs.YtdnahgfgoajmcaaDoor

namespace Go.Proofs.YtdnahgfgoajmcaaDoor
open Go Go.Abs
noncomputable def t108 (C:ae) (x0:Value) (h:ab):Out:=
 aa (dJ (List.replicate 32 (.int .u8 0)) h) fun y2 h=>
 aa (some (x0,h)) fun y3 h=>
 aa (cT 64 (ptr 1 0) h) fun y4 h=>
 aa (pu (eW (List.replicate 8 (.int .u32 0)) [(0,1,(.int .u32 1779033703)),(1,1,(.int .u32 3144134277)),(2,1,(.int .u32 1013904242)),(3,1,(.int .u32 2773480762)),(4,1,(.int .u32 1359893119)),(5,1,(.int .u32 2600822924)),(6,1,(.int .u32 528734635)),(7,1,(.int .u32 1541459225))]) h) fun y5 h=>
 aa (C 136 [y3,y4,y5] h) fun y6 h=>
 aa (eT 32 y2 y6 h) fun _ h=>
 aj Tryd.prog Tryd.f108.results.toList (aO 7 (up (bs [x0]) [(2,y2),(3,y3),(4,y4),(5,y5),(6,y6)])) h
theorem t108_eq (C:ae) (x0:Value) (h:ab):bw Tryd.prog C Tryd.f108 [x0] h=t108 C x0 h:=
 (aG Tryd.prog C Tryd.f108 [x0] h (by kernel_rfl)).trans (by kernel_rfl)
noncomputable def k136_2 (C:ae) (e:Env) (h:ab):Out:=cj Tryd.prog C (partOf Tryd.f136 [1,1,1]) e h (aj Tryd.prog Tryd.f136.results.toList) (aj Tryd.prog Tryd.f136.results.toList) (fun _ _ _=>none)
noncomputable def b136_3 (C:ae) (i:Nat) (e:Env) (h:ab):Out:=if i=0 then (k136_2 C) e h else (fun _ _ _=>none) i e h
noncomputable def k136_5 (C:ae) (e:Env) (h:ab):Out:=cj Tryd.prog C (partOf Tryd.f136 [1,1,1,1,1]) e h (aj Tryd.prog Tryd.f136.results.toList) (aj Tryd.prog Tryd.f136.results.toList) (fun _ _ _=>none)
noncomputable def b136_7 (C:ae) (i:Nat) (e:Env) (h:ab):Out:=if i=2 then (k136_5 C) e h else (fun _ _ _=>none) i e h
noncomputable def k136_11 (C:ae) (e:Env) (h:ab):Out:=cj Tryd.prog C (partOf Tryd.f136 [1,1,1,1,1,1]) e h (aj Tryd.prog Tryd.f136.results.toList) (aj Tryd.prog Tryd.f136.results.toList) (fun _ _ _=>none)
noncomputable def b136_13 (C:ae) (i:Nat) (e:Env) (h:ab):Out:=if i=4 then (k136_11 C) e h else (fun _ _ _=>none) i e h
noncomputable def k136_19 (C:ae) (e:Env) (h:ab):Out:=cj Tryd.prog C (partOf Tryd.f136 [1,1,1,1,1,1,1,1]) e h (aj Tryd.prog Tryd.f136.results.toList) (aj Tryd.prog Tryd.f136.results.toList) (fun _ _ _=>none)
noncomputable def b136_21 (C:ae) (i:Nat) (e:Env) (h:ab):Out:=if i=6 then (k136_19 C) e h else (fun _ _ _=>none) i e h
noncomputable def t136 (C:ae) (x0 x1 x2:Value) (h:ab):Out:=
 aa (box x1 h) fun y4 h=>
 aa (box x2 h) fun y5 h=>
 aa (dJ (List.replicate 32 (.int .u8 0)) h) fun y6 h=>
 aa (cO 1 (.int .u8 0) 0 [] h) fun y13 h=>
 aa (some (x0,h)) fun y14 h=>
 aa (aD 1 1 y13 y14 h) fun y15 h=>
 aa (cO 1 (.int .u8 0) 1 [(0,(.int .u8 128))] h) fun y16 h=>
 aa (aD 1 1 y15 y16 h) fun y17 h=>
 aa (some (y17,h)) fun y7 h=>
 fl (iter (av Tryd.prog C (partOf Tryd.f136 [1,1,0,0,0])) rounds (aO 74 (up (bs [x0,x1,x2]) [(4,y4),(5,y5),(6,y6),(7,y7),(13,y13),(14,y14),(15,y15),(16,y16),(17,y17)])) h) (aj Tryd.prog Tryd.f136.results.toList) (b136_3 C)
noncomputable def t136k136_2 (C:ae) (x:Nat→Value) (h:ab):Out:=
 aa (some ((x 0),h)) fun y25 h=>
 aa (pu (cN y25) h) fun y26 h=>
 aa (cvI .u64 y26 h) fun y27 h=>
 aa (pu (bin Tryd.prog .mul 32 y27 (.int .u64 8)) h) fun y28 h=>
 aa (some (y28,h)) fun y8 h=>
 aa (some ((.int .i64 7),h)) fun y9 h=>
 fl (iter (av Tryd.prog C (partOf Tryd.f136 [1,1,1,1,0,1,0,0])) rounds (aO 74 (up x [(8,y8),(9,y9),(25,y25),(26,y26),(27,y27),(28,y28)])) h) (aj Tryd.prog Tryd.f136.results.toList) (b136_7 C)
noncomputable def t136l136_1100 (_C:ae) (x:Nat→Value) (h:ab):Option (Ex×Env×ab):=
 aa (some ((x 7),h)) fun y18 h=>
 aa (pu (cN y18) h) fun y19 h=>
 aa (pu (bin Tryd.prog .rem 3 y19 (.int .i64 64)) h) fun y20 h=>
 aa (pu (bin Tryd.prog .neq 3 y20 (.int .i64 56)) h) fun y21 h=>
 (match y21 with
 | .bool true=>
 aa (some ((x 7),h)) fun y22 h=>
 aa (cO 1 (.int .u8 0) 1 [(0,(.int .u8 0))] h) fun y23 h=>
 aa (aD 1 1 y22 y23 h) fun y24 h=>
 aa (some (y24,h)) fun y7 h=>
 some (.normal,(aO 74 (up x [(7,y7),(18,y18),(19,y19),(20,y20),(21,y21),(22,y22),(23,y23),(24,y24)])),h)
 | .bool false=>
 some (.exit 0,(aO 74 (up x [(18,y18),(19,y19),(20,y20),(21,y21)])),h)
 |_=>none)
noncomputable def t136k136_5 (C:ae) (x:Nat→Value) (h:ab):Out:=
 aa (some ((.int .i64 0),h)) fun y10 h=>
 fl (iter (av Tryd.prog C (partOf Tryd.f136 [1,1,1,1,1,0,1,0,0])) rounds (aO 74 (up x [(10,y10)])) h) (aj Tryd.prog Tryd.f136.results.toList) (b136_13 C)
noncomputable def t136l136_1111010 (_C:ae) (x:Nat→Value) (h:ab):Option (Ex×Env×ab):=
 aa (some ((x 9),h)) fun y29 h=>
 aa (pu (bin Tryd.prog .geq 3 y29 (.int .i64 0)) h) fun y30 h=>
 (match y30 with
 | .bool true=>
 aa (some ((x 7),h)) fun y33 h=>
 aa (some ((x 8),h)) fun y34 h=>
 aa (some ((x 9),h)) fun y35 h=>
 aa (cvI .u64 y35 h) fun y36 h=>
 aa (pu (bin Tryd.prog .mul 111 (.int .u64 8) y36) h) fun y37 h=>
 aa (pu (bin Tryd.prog .shr 32 y34 y37) h) fun y38 h=>
 aa (cvI .u8 y38 h) fun y39 h=>
 aa (cO 1 (.int .u8 0) 1 [(0,y39)] h) fun y40 h=>
 aa (aD 1 1 y33 y40 h) fun y41 h=>
 aa (some (y41,h)) fun y7 h=>
 aa (some ((x 9),h)) fun y31 h=>
 aa (pu (bin Tryd.prog .sub 3 y31 (.int .i64 1)) h) fun y32 h=>
 aa (some (y32,h)) fun y9 h=>
 some (.normal,(aO 74 (up x [(7,y7),(9,y9),(29,y29),(30,y30),(31,y31),(32,y32),(33,y33),(34,y34),(35,y35),(36,y36),(37,y37),(38,y38),(39,y39),(40,y40),(41,y41)])),h)
 | .bool false=>
 some (.exit 2,(aO 74 (up x [(29,y29),(30,y30)])),h)
 |_=>none)
noncomputable def t136k136_11 (C:ae) (x:Nat→Value) (h:ab):Out:=
 aa (dJ (List.replicate 32 (.int .u8 0)) h) fun y11 h=>
 aa (some ((.int .i64 0),h)) fun y12 h=>
 fl (iter (av Tryd.prog C (partOf Tryd.f136 [1,1,1,1,1,1,1,0,1,0,0])) rounds (aO 74 (up x [(11,y11),(12,y12)])) h) (aj Tryd.prog Tryd.f136.results.toList) (b136_21 C)
noncomputable def hF (C:ae) (x:Nat→Value) (h:ab):Option (Ex×Env×ab):=
 aa (some ((x 10),h)) fun y42 h=>
 aa (some ((x 7),h)) fun y43 h=>
 aa (pu (cN y43) h) fun y44 h=>
 aa (pu (bin Tryd.prog .lss 3 y42 y44) h) fun y45 h=>
 (match y45 with
 | .bool true=>
 aa (cT 8 (x 5) h) fun y48 h=>
 aa (cT 64 (x 4) h) fun y49 h=>
 aa (some ((x 7),h)) fun y50 h=>
 aa (some ((x 10),h)) fun y51 h=>
 aa (some ((x 10),h)) fun y52 h=>
 aa (pu (bin Tryd.prog .add 3 y52 (.int .i64 64)) h) fun y53 h=>
 aa (pu (slR 1 y50 (some y51) (some y53) none) h) fun y54 h=>
 aa (C 153 [y48,y49,y54] h) fun y55 h=>
 aa (eT 8 (x 5) y55 h) fun _ h=>
 aa (some ((x 10),h)) fun y46 h=>
 aa (pu (bin Tryd.prog .add 3 y46 (.int .i64 64)) h) fun y47 h=>
 aa (some (y47,h)) fun y10 h=>
 some (.normal,(aO 74 (up x [(10,y10),(42,y42),(43,y43),(44,y44),(45,y45),(46,y46),(47,y47),(48,y48),(49,y49),(50,y50),(51,y51),(52,y52),(53,y53),(54,y54),(55,y55)])),h)
 | .bool false=>
 some (.exit 4,(aO 74 (up x [(42,y42),(43,y43),(44,y44),(45,y45)])),h)
 |_=>none)
noncomputable def t136k136_19 (_C:ae) (x:Nat→Value) (h:ab):Out:=
 aa (cT 32 (x 11) h) fun y73 h=>
 aa (eT 32 (x 6) y73 h) fun _ h=>
 aj Tryd.prog Tryd.f136.results.toList (aO 74 (up x [(73,y73)])) h
noncomputable def fU (_C:ae) (x:Nat→Value) (h:ab):Option (Ex×Env×ab):=
 aa (some ((x 12),h)) fun y56 h=>
 aa (pu (bin Tryd.prog .lss 3 y56 (.int .i64 32)) h) fun y57 h=>
 (match y57 with
 | .bool true=>
 aa (some ((x 12),h)) fun y60 h=>
 aa (some ((x 12),h)) fun y61 h=>
 aa (pu (bin Tryd.prog .quo 3 y61 (.int .i64 4)) h) fun y62 h=>
 aa (pu (bI 8 1 (x 5) y62) h) fun y63 h=>
 aa (ld1 y63 h) fun y64 h=>
 aa (some ((x 12),h)) fun y65 h=>
 aa (pu (bin Tryd.prog .rem 3 y65 (.int .i64 4)) h) fun y66 h=>
 aa (cvI .u64 y66 h) fun y67 h=>
 aa (pu (bin Tryd.prog .mul 111 (.int .u64 8) y67) h) fun y68 h=>
 aa (pu (bin Tryd.prog .sub 111 (.int .u64 24) y68) h) fun y69 h=>
 aa (pu (bin Tryd.prog .shr 174 y64 y69) h) fun y70 h=>
 aa (cvI .u8 y70 h) fun y71 h=>
 aa (pu (bI 32 1 (x 11) y60) h) fun y72 h=>
 aa (eT 1 y72 y71 h) fun _ h=>
 aa (some ((x 12),h)) fun y58 h=>
 aa (pu (bin Tryd.prog .add 3 y58 (.int .i64 1)) h) fun y59 h=>
 aa (some (y59,h)) fun y12 h=>
 some (.normal,(aO 74 (up x [(12,y12),(56,y56),(57,y57),(58,y58),(59,y59),(60,y60),(61,y61),(62,y62),(63,y63),(64,y64),(65,y65),(66,y66),(67,y67),(68,y68),(69,y69),(70,y70),(71,y71),(72,y72)])),h)
 | .bool false=>
 some (.exit 6,(aO 74 (up x [(56,y56),(57,y57)])),h)
 |_=>none)
theorem t136_eq (C:ae) (x0 x1 x2:Value) (h:ab):bw Tryd.prog C Tryd.f136 [x0,x1,x2] h=t136 C x0 x1 x2 h:=
 (aG Tryd.prog C Tryd.f136 [x0,x1,x2] h (by kernel_rfl)).trans (by kernel_rfl)
theorem t136k136_2_eq (C:ae) (x:Nat→Value) (h:ab):k136_2 C (aO 74 x) h=t136k136_2 C x h:=
 bk (b:=(partOf Tryd.f136 [1,1,1])) (kE:=(aj Tryd.prog Tryd.f136.results.toList)) (rE:=(aj Tryd.prog Tryd.f136.results.toList)) (xE:=(fun _ _ _=>none)) (T:=t136k136_2 C) (fun x h=>by kernel_rfl) x h
theorem t136l136_1100_eq (C:ae) (x:Nat→Value) (h:ab):av Tryd.prog C (partOf Tryd.f136 [1,1,0,0,0]) (aO 74 x) h=t136l136_1100 C x h:=
 aI (T:=t136l136_1100 C) (fun x h=>by kernel_rfl) x h
theorem t136k136_5_eq (C:ae) (x:Nat→Value) (h:ab):k136_5 C (aO 74 x) h=t136k136_5 C x h:=
 bk (b:=(partOf Tryd.f136 [1,1,1,1,1])) (kE:=(aj Tryd.prog Tryd.f136.results.toList)) (rE:=(aj Tryd.prog Tryd.f136.results.toList)) (xE:=(fun _ _ _=>none)) (T:=t136k136_5 C) (fun x h=>by kernel_rfl) x h
theorem t136l136_1111010_eq (C:ae) (x:Nat→Value) (h:ab):av Tryd.prog C (partOf Tryd.f136 [1,1,1,1,0,1,0,0]) (aO 74 x) h=t136l136_1111010 C x h:=
 aI (T:=t136l136_1111010 C) (fun x h=>by kernel_rfl) x h
theorem t136k136_11_eq (C:ae) (x:Nat→Value) (h:ab):k136_11 C (aO 74 x) h=t136k136_11 C x h:=
 bk (b:=(partOf Tryd.f136 [1,1,1,1,1,1])) (kE:=(aj Tryd.prog Tryd.f136.results.toList)) (rE:=(aj Tryd.prog Tryd.f136.results.toList)) (xE:=(fun _ _ _=>none)) (T:=t136k136_11 C) (fun x h=>by kernel_rfl) x h
theorem t136l136_11111010_eq (C:ae) (x:Nat→Value) (h:ab):av Tryd.prog C (partOf Tryd.f136 [1,1,1,1,1,0,1,0,0]) (aO 74 x) h=hF C x h:=
 aI (T:=hF C) (fun x h=>by kernel_rfl) x h
theorem t136k136_19_eq (C:ae) (x:Nat→Value) (h:ab):k136_19 C (aO 74 x) h=t136k136_19 C x h:=
 bk (b:=(partOf Tryd.f136 [1,1,1,1,1,1,1,1])) (kE:=(aj Tryd.prog Tryd.f136.results.toList)) (rE:=(aj Tryd.prog Tryd.f136.results.toList)) (xE:=(fun _ _ _=>none)) (T:=t136k136_19 C) (fun x h=>by kernel_rfl) x h
theorem t136l136_1111111010_eq (C:ae) (x:Nat→Value) (h:ab):av Tryd.prog C (partOf Tryd.f136 [1,1,1,1,1,1,1,0,1,0,0]) (aO 74 x) h=fU C x h:=
 aI (T:=fU C) (fun x h=>by kernel_rfl) x h
noncomputable def k153_2 (C:ae) (e:Env) (h:ab):Out:=cj Tryd.prog C (partOf Tryd.f153 [1,1,1]) e h (aj Tryd.prog Tryd.f153.results.toList) (aj Tryd.prog Tryd.f153.results.toList) (fun _ _ _=>none)
noncomputable def b153_4 (C:ae) (i:Nat) (e:Env) (h:ab):Out:=if i=0 then (k153_2 C) e h else (fun _ _ _=>none) i e h
noncomputable def k153_6 (C:ae) (e:Env) (h:ab):Out:=cj Tryd.prog C (partOf Tryd.f153 [1,1,1,1,1]) e h (aj Tryd.prog Tryd.f153.results.toList) (aj Tryd.prog Tryd.f153.results.toList) (fun _ _ _=>none)
noncomputable def b153_8 (C:ae) (i:Nat) (e:Env) (h:ab):Out:=if i=2 then (k153_6 C) e h else (fun _ _ _=>none) i e h
noncomputable def k153_20 (C:ae) (e:Env) (h:ab):Out:=cj Tryd.prog C (partOf Tryd.f153 [1,1,1,1,1,1]) e h (aj Tryd.prog Tryd.f153.results.toList) (aj Tryd.prog Tryd.f153.results.toList) (fun _ _ _=>none)
noncomputable def b153_22 (C:ae) (i:Nat) (e:Env) (h:ab):Out:=if i=4 then (k153_20 C) e h else (fun _ _ _=>none) i e h
noncomputable def t153 (C:ae) (x0 x1 x2:Value) (h:ab):Out:=
 aa (box x0 h) fun y3 h=>
 aa (box x1 h) fun y4 h=>
 aa (dJ (List.replicate 8 (.int .u32 0)) h) fun y6 h=>
 aa (dJ (List.replicate 64 (.int .u32 0)) h) fun y7 h=>
 aa (some ((.int .i64 0),h)) fun y8 h=>
 fl (iter (av Tryd.prog C (partOf Tryd.f153 [1,1,0,1,0,0])) rounds (aO 206 (up (bs [x0,x1,x2]) [(3,y3),(4,y4),(6,y6),(7,y7),(8,y8)])) h) (aj Tryd.prog Tryd.f153.results.toList) (b153_4 C)
noncomputable def t153k153_2 (C:ae) (x:Nat→Value) (h:ab):Out:=
 aa (cT 8 (x 3) h) fun y110 h=>
 aa (dJ (List.replicate 8 (.int .u32 0)) h) fun y11 h=>
 aa (eT 8 y11 y110 h) fun _ h=>
 aa (some ((.int .i64 0),h)) fun y12 h=>
 fl (iter (av Tryd.prog C (partOf Tryd.f153 [1,1,1,1,0,1,0,0])) rounds (aO 206 (up x [(11,y11),(12,y12),(110,y110)])) h) (aj Tryd.prog Tryd.f153.results.toList) (b153_8 C)
noncomputable def t153l153_11010 (C:ae) (x:Nat→Value) (h:ab):Option (Ex×Env×ab):=
 aa (some ((x 8),h)) fun y20 h=>
 aa (pu (bin Tryd.prog .lss 3 y20 (.int .i64 64)) h) fun y21 h=>
 (match y21 with
 | .bool true=>
 aa (some ((x 8),h)) fun y24 h=>
 aa (pu (bin Tryd.prog .lss 3 y24 (.int .i64 16)) h) fun y25 h=>
 (match y25 with
 | .bool true=>
 aa (some ((x 8),h)) fun y26 h=>
 aa (some ((x 2),h)) fun y27 h=>
 aa (some ((x 8),h)) fun y28 h=>
 aa (pu (bin Tryd.prog .mul 3 (.int .i64 4) y28) h) fun y29 h=>
 aa (pu (df 1 y27 y29) h) fun y30 h=>
 aa (ld1 y30 h) fun y31 h=>
 aa (cvI .u32 y31 h) fun y32 h=>
 aa (pu (bin Tryd.prog .shl 174 y32 (.int .u64 24)) h) fun y33 h=>
 aa (some ((x 2),h)) fun y34 h=>
 aa (some ((x 8),h)) fun y35 h=>
 aa (pu (bin Tryd.prog .mul 3 (.int .i64 4) y35) h) fun y36 h=>
 aa (pu (bin Tryd.prog .add 3 y36 (.int .i64 1)) h) fun y37 h=>
 aa (pu (df 1 y34 y37) h) fun y38 h=>
 aa (ld1 y38 h) fun y39 h=>
 aa (cvI .u32 y39 h) fun y40 h=>
 aa (pu (bin Tryd.prog .shl 174 y40 (.int .u64 16)) h) fun y41 h=>
 aa (pu (bin Tryd.prog .or 174 y33 y41) h) fun y42 h=>
 aa (some ((x 2),h)) fun y43 h=>
 aa (some ((x 8),h)) fun y44 h=>
 aa (pu (bin Tryd.prog .mul 3 (.int .i64 4) y44) h) fun y45 h=>
 aa (pu (bin Tryd.prog .add 3 y45 (.int .i64 2)) h) fun y46 h=>
 aa (pu (df 1 y43 y46) h) fun y47 h=>
 aa (ld1 y47 h) fun y48 h=>
 aa (cvI .u32 y48 h) fun y49 h=>
 aa (pu (bin Tryd.prog .shl 174 y49 (.int .u64 8)) h) fun y50 h=>
 aa (pu (bin Tryd.prog .or 174 y42 y50) h) fun y51 h=>
 aa (some ((x 2),h)) fun y52 h=>
 aa (some ((x 8),h)) fun y53 h=>
 aa (pu (bin Tryd.prog .mul 3 (.int .i64 4) y53) h) fun y54 h=>
 aa (pu (bin Tryd.prog .add 3 y54 (.int .i64 3)) h) fun y55 h=>
 aa (pu (df 1 y52 y55) h) fun y56 h=>
 aa (ld1 y56 h) fun y57 h=>
 aa (cvI .u32 y57 h) fun y58 h=>
 aa (pu (bin Tryd.prog .or 174 y51 y58) h) fun y59 h=>
 aa (pu (bI 64 1 (x 7) y26) h) fun y60 h=>
 aa (eT 1 y60 y59 h) fun _ h=>
 aa (some ((x 8),h)) fun y22 h=>
 aa (pu (bin Tryd.prog .add 3 y22 (.int .i64 1)) h) fun y23 h=>
 aa (some (y23,h)) fun y8 h=>
 some (.normal,(aO 206 (up x [(8,y8),(20,y20),(21,y21),(22,y22),(23,y23),(24,y24),(25,y25),(26,y26),(27,y27),(28,y28),(29,y29),(30,y30),(31,y31),(32,y32),(33,y33),(34,y34),(35,y35),(36,y36),(37,y37),(38,y38),(39,y39),(40,y40),(41,y41),(42,y42),(43,y43),(44,y44),(45,y45),(46,y46),(47,y47),(48,y48),(49,y49),(50,y50),(51,y51),(52,y52),(53,y53),(54,y54),(55,y55),(56,y56),(57,y57),(58,y58),(59,y59),(60,y60)])),h)
 | .bool false=>
 let g17_0:=h
 aa (some ((x 8),g17_0)) fun y61 g17_1=>
 aa (pu (bin Tryd.prog .sub 3 y61 (.int .i64 15)) g17_1) fun y62 g17_2=>
 aa (pu (bI 64 1 (x 7) y62) g17_2) fun y63 g17_3=>
 aa (ld1 y63 g17_3) fun y64 g17_4=>
 aa (C 161 [y64,(.int .u64 7)] g17_4) fun y65 g17_5=>
 aa (some ((x 8),g17_5)) fun y66 g17_6=>
 aa (pu (bin Tryd.prog .sub 3 y66 (.int .i64 15)) g17_6) fun y67 g17_7=>
 aa (pu (bI 64 1 (x 7) y67) g17_7) fun y68 g17_8=>
 aa (ld1 y68 g17_8) fun y69 g17_9=>
 aa (C 161 [y69,(.int .u64 18)] g17_9) fun y70 g17_10=>
 aa (pu (bin Tryd.prog .xor 174 y65 y70) g17_10) fun y71 g17_11=>
 aa (some ((x 8),g17_11)) fun y72 g17_12=>
 aa (pu (bin Tryd.prog .sub 3 y72 (.int .i64 15)) g17_12) fun y73 g17_13=>
 aa (pu (bI 64 1 (x 7) y73) g17_13) fun y74 g17_14=>
 aa (ld1 y74 g17_14) fun y75 g17_15=>
 aa (pu (bin Tryd.prog .shr 174 y75 (.int .u64 3)) g17_15) fun y76 g17_16=>
 aa (pu (bin Tryd.prog .xor 174 y71 y76) g17_16) fun y77 g17_17=>
 aa (some (y77,g17_17)) fun y9 g17_18=>
 (match (bN true (ld1 y68 g17_4) y69&&(bN true (ld1 y74 g17_4) y75&&(bN true (ld1 y74 g17_9) y75&&true))) with
 |true=>
 let h:=g17_18
 let g19_0:=h
 aa (some ((x 8),g19_0)) fun y78 g19_1=>
 aa (pu (bin Tryd.prog .sub 3 y78 (.int .i64 2)) g19_1) fun y79 g19_2=>
 aa (pu (bI 64 1 (x 7) y79) g19_2) fun y80 g19_3=>
 aa (ld1 y80 g19_3) fun y81 g19_4=>
 aa (C 161 [y81,(.int .u64 17)] g19_4) fun y82 g19_5=>
 aa (some ((x 8),g19_5)) fun y83 g19_6=>
 aa (pu (bin Tryd.prog .sub 3 y83 (.int .i64 2)) g19_6) fun y84 g19_7=>
 aa (pu (bI 64 1 (x 7) y84) g19_7) fun y85 g19_8=>
 aa (ld1 y85 g19_8) fun y86 g19_9=>
 aa (C 161 [y86,(.int .u64 19)] g19_9) fun y87 g19_10=>
 aa (pu (bin Tryd.prog .xor 174 y82 y87) g19_10) fun y88 g19_11=>
 aa (some ((x 8),g19_11)) fun y89 g19_12=>
 aa (pu (bin Tryd.prog .sub 3 y89 (.int .i64 2)) g19_12) fun y90 g19_13=>
 aa (pu (bI 64 1 (x 7) y90) g19_13) fun y91 g19_14=>
 aa (ld1 y91 g19_14) fun y92 g19_15=>
 aa (pu (bin Tryd.prog .shr 174 y92 (.int .u64 10)) g19_15) fun y93 g19_16=>
 aa (pu (bin Tryd.prog .xor 174 y88 y93) g19_16) fun y94 g19_17=>
 aa (some (y94,g19_17)) fun y10 g19_18=>
 (match (bN true (ld1 y85 g19_4) y86&&(bN true (ld1 y91 g19_4) y92&&(bN true (ld1 y91 g19_9) y92&&true))) with
 |true=>
 let h:=g19_18
 aa (some ((x 8),h)) fun y95 h=>
 aa (some (y10,h)) fun y96 h=>
 aa (some ((x 8),h)) fun y97 h=>
 aa (pu (bin Tryd.prog .sub 3 y97 (.int .i64 7)) h) fun y98 h=>
 aa (pu (bI 64 1 (x 7) y98) h) fun y99 h=>
 aa (ld1 y99 h) fun y100 h=>
 aa (pu (bin Tryd.prog .add 174 y96 y100) h) fun y101 h=>
 aa (some (y9,h)) fun y102 h=>
 aa (pu (bin Tryd.prog .add 174 y101 y102) h) fun y103 h=>
 aa (some ((x 8),h)) fun y104 h=>
 aa (pu (bin Tryd.prog .sub 3 y104 (.int .i64 16)) h) fun y105 h=>
 aa (pu (bI 64 1 (x 7) y105) h) fun y106 h=>
 aa (ld1 y106 h) fun y107 h=>
 aa (pu (bin Tryd.prog .add 174 y103 y107) h) fun y108 h=>
 aa (pu (bI 64 1 (x 7) y95) h) fun y109 h=>
 aa (eT 1 y109 y108 h) fun _ h=>
 aa (some ((x 8),h)) fun y22 h=>
 aa (pu (bin Tryd.prog .add 3 y22 (.int .i64 1)) h) fun y23 h=>
 aa (some (y23,h)) fun y8 h=>
 some (.normal,(aO 206 (up x [(8,y8),(9,y9),(10,y10),(20,y20),(21,y21),(22,y22),(23,y23),(24,y24),(25,y25),(61,y61),(62,y62),(63,y63),(64,y64),(65,y65),(66,y66),(67,y67),(68,y68),(69,y69),(70,y70),(71,y71),(72,y72),(73,y73),(74,y74),(75,y75),(76,y76),(77,y77),(78,y78),(79,y79),(80,y80),(81,y81),(82,y82),(83,y83),(84,y84),(85,y85),(86,y86),(87,y87),(88,y88),(89,y89),(90,y90),(91,y91),(92,y92),(93,y93),(94,y94),(95,y95),(96,y96),(97,y97),(98,y98),(99,y99),(100,y100),(101,y101),(102,y102),(103,y103),(104,y104),(105,y105),(106,y106),(107,y107),(108,y108),(109,y109)])),h)
 |false=>none)
 |false=>none)
 |_=>none)
 | .bool false=>
 some (.exit 0,(aO 206 (up x [(20,y20),(21,y21)])),h)
 |_=>none)
noncomputable def t153k153_6 (C:ae) (x:Nat→Value) (h:ab):Out:=
 aa (some ((.int .i64 0),h)) fun y19 h=>
 fl (iter (av Tryd.prog C (partOf Tryd.f153 [1,1,1,1,1,0,1,0,0])) rounds (aO 206 (up x [(19,y19)])) h) (aj Tryd.prog Tryd.f153.results.toList) (b153_22 C)
noncomputable def t153l153_1111010 (C:ae) (x:Nat→Value) (h:ab):Option (Ex×Env×ab):=
 aa (some ((x 12),h)) fun y111 h=>
 aa (pu (bin Tryd.prog .lss 3 y111 (.int .i64 64)) h) fun y112 h=>
 (match y112 with
 | .bool true=>
 aa (pu (bI 8 1 (x 11) (.int .i64 0)) h) fun y115 h=>
 aa (ld1 y115 h) fun y116 h=>
 aa (pu (bI 8 1 (x 11) (.int .i64 4)) h) fun y117 h=>
 aa (ld1 y117 h) fun y118 h=>
 aa (some (y116,h)) fun y13 h=>
 aa (some (y118,h)) fun y14 h=>
 aa (some (y14,h)) fun y119 h=>
 aa (pu (bI 8 1 (x 11) (.int .i64 5)) h) fun y120 h=>
 aa (ld1 y120 h) fun y121 h=>
 aa (pu (bin Tryd.prog .and 174 y119 y121) h) fun y122 h=>
 aa (some (y14,h)) fun y123 h=>
 aa (pu (unA .xor y123) h) fun y124 h=>
 aa (pu (bI 8 1 (x 11) (.int .i64 6)) h) fun y125 h=>
 aa (ld1 y125 h) fun y126 h=>
 aa (pu (bin Tryd.prog .and 174 y124 y126) h) fun y127 h=>
 aa (pu (bin Tryd.prog .xor 174 y122 y127) h) fun y128 h=>
 aa (some (y128,h)) fun y15 h=>
 aa (some (y13,h)) fun y129 h=>
 aa (pu (bI 8 1 (x 11) (.int .i64 1)) h) fun y130 h=>
 aa (ld1 y130 h) fun y131 h=>
 aa (pu (bin Tryd.prog .and 174 y129 y131) h) fun y132 h=>
 aa (some (y13,h)) fun y133 h=>
 aa (pu (bI 8 1 (x 11) (.int .i64 2)) h) fun y134 h=>
 aa (ld1 y134 h) fun y135 h=>
 aa (pu (bin Tryd.prog .and 174 y133 y135) h) fun y136 h=>
 aa (pu (bin Tryd.prog .xor 174 y132 y136) h) fun y137 h=>
 aa (pu (bI 8 1 (x 11) (.int .i64 1)) h) fun y138 h=>
 aa (ld1 y138 h) fun y139 h=>
 aa (pu (bI 8 1 (x 11) (.int .i64 2)) h) fun y140 h=>
 aa (ld1 y140 h) fun y141 h=>
 aa (pu (bin Tryd.prog .and 174 y139 y141) h) fun y142 h=>
 aa (pu (bin Tryd.prog .xor 174 y137 y142) h) fun y143 h=>
 aa (some (y143,h)) fun y16 h=>
 let g31_0:=h
 aa (pu (bI 8 1 (x 11) (.int .i64 7)) g31_0) fun y144 g31_1=>
 aa (ld1 y144 g31_1) fun y145 g31_2=>
 aa (some (y14,g31_2)) fun y146 g31_3=>
 aa (C 161 [y146,(.int .u64 6)] g31_3) fun y147 g31_4=>
 aa (some (y14,g31_4)) fun y148 g31_5=>
 aa (C 161 [y148,(.int .u64 11)] g31_5) fun y149 g31_6=>
 aa (pu (bin Tryd.prog .xor 174 y147 y149) g31_6) fun y150 g31_7=>
 aa (some (y14,g31_7)) fun y151 g31_8=>
 aa (C 161 [y151,(.int .u64 25)] g31_8) fun y152 g31_9=>
 aa (pu (bin Tryd.prog .xor 174 y150 y152) g31_9) fun y153 g31_10=>
 aa (pu (bin Tryd.prog .add 174 y145 y153) g31_10) fun y154 g31_11=>
 aa (some (y15,g31_11)) fun y155 g31_12=>
 aa (pu (bin Tryd.prog .add 174 y154 y155) g31_12) fun y156 g31_13=>
 aa (some ((x 12),g31_13)) fun y157 g31_14=>
 aa (pu (bI 64 1 (x 4) y157) g31_14) fun y158 g31_15=>
 aa (ld1 y158 g31_15) fun y159 g31_16=>
 aa (pu (bin Tryd.prog .add 174 y156 y159) g31_16) fun y160 g31_17=>
 aa (some ((x 12),g31_17)) fun y161 g31_18=>
 aa (pu (bI 64 1 (x 7) y161) g31_18) fun y162 g31_19=>
 aa (ld1 y162 g31_19) fun y163 g31_20=>
 aa (pu (bin Tryd.prog .add 174 y160 y163) g31_20) fun y164 g31_21=>
 aa (some (y164,g31_21)) fun y17 g31_22=>
 (match (bN true (ld1 y144 g31_4) y145&&(bN true (ld1 y144 g31_6) y145&&(bN true (ld1 y144 g31_9) y145&&(bN true (ld1 y158 g31_3) y159&&(bN true (ld1 y158 g31_5) y159&&(bN true (ld1 y158 g31_8) y159&&(bN true (ld1 y162 g31_3) y163&&(bN true (ld1 y162 g31_5) y163&&(bN true (ld1 y162 g31_8) y163&&true))))))))) with
 |true=>
 let h:=g31_22
 aa (some (y13,h)) fun y165 h=>
 aa (C 161 [y165,(.int .u64 2)] h) fun y166 h=>
 aa (some (y13,h)) fun y167 h=>
 aa (C 161 [y167,(.int .u64 13)] h) fun y168 h=>
 aa (pu (bin Tryd.prog .xor 174 y166 y168) h) fun y169 h=>
 aa (some (y13,h)) fun y170 h=>
 aa (C 161 [y170,(.int .u64 22)] h) fun y171 h=>
 aa (pu (bin Tryd.prog .xor 174 y169 y171) h) fun y172 h=>
 aa (some (y16,h)) fun y173 h=>
 aa (pu (bin Tryd.prog .add 174 y172 y173) h) fun y174 h=>
 aa (some (y174,h)) fun y18 h=>
 aa (some (y17,h)) fun y175 h=>
 aa (some (y18,h)) fun y176 h=>
 aa (pu (bin Tryd.prog .add 174 y175 y176) h) fun y177 h=>
 aa (some (y13,h)) fun y178 h=>
 aa (pu (bI 8 1 (x 11) (.int .i64 1)) h) fun y179 h=>
 aa (ld1 y179 h) fun y180 h=>
 aa (pu (bI 8 1 (x 11) (.int .i64 2)) h) fun y181 h=>
 aa (ld1 y181 h) fun y182 h=>
 aa (pu (bI 8 1 (x 11) (.int .i64 3)) h) fun y183 h=>
 aa (ld1 y183 h) fun y184 h=>
 aa (some (y17,h)) fun y185 h=>
 aa (pu (bin Tryd.prog .add 174 y184 y185) h) fun y186 h=>
 aa (some (y14,h)) fun y187 h=>
 aa (pu (bI 8 1 (x 11) (.int .i64 5)) h) fun y188 h=>
 aa (ld1 y188 h) fun y189 h=>
 aa (pu (bI 8 1 (x 11) (.int .i64 6)) h) fun y190 h=>
 aa (ld1 y190 h) fun y191 h=>
 aa (pu (eW (List.replicate 8 (.int .u32 0)) [(0,1,y177),(1,1,y178),(2,1,y180),(3,1,y182),(4,1,y186),(5,1,y187),(6,1,y189),(7,1,y191)]) h) fun y192 h=>
 aa (eT 8 (x 11) y192 h) fun _ h=>
 aa (some ((x 12),h)) fun y113 h=>
 aa (pu (bin Tryd.prog .add 3 y113 (.int .i64 1)) h) fun y114 h=>
 aa (some (y114,h)) fun y12 h=>
 some (.normal,(aO 206 (up x [(12,y12),(13,y13),(14,y14),(15,y15),(16,y16),(17,y17),(18,y18),(111,y111),(112,y112),(113,y113),(114,y114),(115,y115),(116,y116),(117,y117),(118,y118),(119,y119),(120,y120),(121,y121),(122,y122),(123,y123),(124,y124),(125,y125),(126,y126),(127,y127),(128,y128),(129,y129),(130,y130),(131,y131),(132,y132),(133,y133),(134,y134),(135,y135),(136,y136),(137,y137),(138,y138),(139,y139),(140,y140),(141,y141),(142,y142),(143,y143),(144,y144),(145,y145),(146,y146),(147,y147),(148,y148),(149,y149),(150,y150),(151,y151),(152,y152),(153,y153),(154,y154),(155,y155),(156,y156),(157,y157),(158,y158),(159,y159),(160,y160),(161,y161),(162,y162),(163,y163),(164,y164),(165,y165),(166,y166),(167,y167),(168,y168),(169,y169),(170,y170),(171,y171),(172,y172),(173,y173),(174,y174),(175,y175),(176,y176),(177,y177),(178,y178),(179,y179),(180,y180),(181,y181),(182,y182),(183,y183),(184,y184),(185,y185),(186,y186),(187,y187),(188,y188),(189,y189),(190,y190),(191,y191),(192,y192)])),h)
 |false=>none)
 | .bool false=>
 some (.exit 2,(aO 206 (up x [(111,y111),(112,y112)])),h)
 |_=>none)
noncomputable def t153k153_20 (_C:ae) (x:Nat→Value) (h:ab):Out:=
 aa (cT 8 (x 3) h) fun y205 h=>
 aa (eT 8 (x 6) y205 h) fun _ h=>
 aj Tryd.prog Tryd.f153.results.toList (aO 206 (up x [(205,y205)])) h
noncomputable def gW (_C:ae) (x:Nat→Value) (h:ab):Option (Ex×Env×ab):=
 aa (some ((x 19),h)) fun y193 h=>
 aa (pu (bin Tryd.prog .lss 3 y193 (.int .i64 8)) h) fun y194 h=>
 (match y194 with
 | .bool true=>
 aa (some ((x 19),h)) fun y197 h=>
 aa (pu (bI 8 1 (x 3) y197) h) fun y198 h=>
 aa (ld1 y198 h) fun y199 h=>
 aa (some ((x 19),h)) fun y200 h=>
 aa (pu (bI 8 1 (x 11) y200) h) fun y201 h=>
 aa (ld1 y201 h) fun y202 h=>
 aa (pu (bin Tryd.prog .add 174 y199 y202) h) fun y203 h=>
 aa (pu (bI 8 1 (x 3) y197) h) fun y204 h=>
 aa (eT 1 y204 y203 h) fun _ h=>
 aa (some ((x 19),h)) fun y195 h=>
 aa (pu (bin Tryd.prog .add 3 y195 (.int .i64 1)) h) fun y196 h=>
 aa (some (y196,h)) fun y19 h=>
 some (.normal,(aO 206 (up x [(19,y19),(193,y193),(194,y194),(195,y195),(196,y196),(197,y197),(198,y198),(199,y199),(200,y200),(201,y201),(202,y202),(203,y203),(204,y204)])),h)
 | .bool false=>
 some (.exit 4,(aO 206 (up x [(193,y193),(194,y194)])),h)
 |_=>none)
theorem t153_eq (C:ae) (x0 x1 x2:Value) (h:ab):bw Tryd.prog C Tryd.f153 [x0,x1,x2] h=t153 C x0 x1 x2 h:=
 (aG Tryd.prog C Tryd.f153 [x0,x1,x2] h (by kernel_rfl)).trans (by kernel_rfl)
theorem t153k153_2_eq (C:ae) (x:Nat→Value) (h:ab):k153_2 C (aO 206 x) h=t153k153_2 C x h:=
 bk (b:=(partOf Tryd.f153 [1,1,1])) (kE:=(aj Tryd.prog Tryd.f153.results.toList)) (rE:=(aj Tryd.prog Tryd.f153.results.toList)) (xE:=(fun _ _ _=>none)) (T:=t153k153_2 C) (fun x h=>by kernel_rfl) x h
theorem t153l153_11010_eq (C:ae) (x:Nat→Value) (h:ab):av Tryd.prog C (partOf Tryd.f153 [1,1,0,1,0,0]) (aO 206 x) h=t153l153_11010 C x h:=
 aI (T:=t153l153_11010 C) (fun x h=>by kernel_rfl) x h
theorem t153k153_6_eq (C:ae) (x:Nat→Value) (h:ab):k153_6 C (aO 206 x) h=t153k153_6 C x h:=
 bk (b:=(partOf Tryd.f153 [1,1,1,1,1])) (kE:=(aj Tryd.prog Tryd.f153.results.toList)) (rE:=(aj Tryd.prog Tryd.f153.results.toList)) (xE:=(fun _ _ _=>none)) (T:=t153k153_6 C) (fun x h=>by kernel_rfl) x h
theorem t153l153_1111010_eq (C:ae) (x:Nat→Value) (h:ab):av Tryd.prog C (partOf Tryd.f153 [1,1,1,1,0,1,0,0]) (aO 206 x) h=t153l153_1111010 C x h:=
 aI (T:=t153l153_1111010 C) (fun x h=>by kernel_rfl) x h
theorem t153k153_20_eq (C:ae) (x:Nat→Value) (h:ab):k153_20 C (aO 206 x) h=t153k153_20 C x h:=
 bk (b:=(partOf Tryd.f153 [1,1,1,1,1,1])) (kE:=(aj Tryd.prog Tryd.f153.results.toList)) (rE:=(aj Tryd.prog Tryd.f153.results.toList)) (xE:=(fun _ _ _=>none)) (T:=t153k153_20 C) (fun x h=>by kernel_rfl) x h
theorem t153l153_11111010_eq (C:ae) (x:Nat→Value) (h:ab):av Tryd.prog C (partOf Tryd.f153 [1,1,1,1,1,0,1,0,0]) (aO 206 x) h=gW C x h:=
 aI (T:=gW C) (fun x h=>by kernel_rfl) x h
noncomputable def t161 (_C:ae) (x0 x1:Value) (h:ab):Out:=
 aa (some ((.int .u32 0),h)) fun _y4 h=>
 aa (some (x0,h)) fun y5 h=>
 aa (some (x1,h)) fun y6 h=>
 aa (pu (bin Tryd.prog .shr 174 y5 y6) h) fun y7 h=>
 aa (some (x0,h)) fun y8 h=>
 aa (some (x1,h)) fun y9 h=>
 aa (pu (bin Tryd.prog .sub 111 (.int .u64 32) y9) h) fun y10 h=>
 aa (pu (bin Tryd.prog .shl 174 y8 y10) h) fun y11 h=>
 aa (pu (bin Tryd.prog .or 174 y7 y11) h) fun y12 h=>
 aa (some (y12,h)) fun y4_1 h=>
 some (y4_1,h)
theorem t161_eq (C:ae) (x0 x1:Value) (h:ab):bw Tryd.prog C Tryd.f161 [x0,x1] h=t161 C x0 x1 h:=
 (aG Tryd.prog C Tryd.f161 [x0,x1] h (by kernel_rfl)).trans (by kernel_rfl)
noncomputable def t72 (C:ae) (x0:Value) (h:ab):Out:=
 aa (box x0 h) fun y1 h=>
 aa (dJ (List.replicate 32 (.int .u8 0)) h) fun y2 h=>
 aa (cT 39 y1 h) fun y6 h=>
 aa (C 46 [y6] h) fun y7 h=>
 aa (some (y7,h)) fun y5 h=>
 aa (pu (bm y5 0) h) fun y8 h=>
 aa (pu (bm y5 1) h) fun y9 h=>
 aa (some (y8,h)) fun y3 h=>
 aa (some (y9,h)) fun y4 h=>
 aa (cO 1 (.int .u8 0) 1 [(0,(.int .u8 0))] h) fun y10 h=>
 aa (some (y3,h)) fun y11 h=>
 aa (aD 1 1 y10 y11 h) fun y12 h=>
 aa (C 108 [y12] h) fun y13 h=>
 aa (eT 32 y2 y13 h) fun _ h=>
 aj Tryd.prog Tryd.f72.results.toList (aO 14 (up (bs [x0]) [(1,y1),(2,y2),(3,y3),(4,y4),(5,y5),(6,y6),(7,y7),(8,y8),(9,y9),(10,y10),(11,y11),(12,y12),(13,y13)])) h
theorem t72_eq (C:ae) (x0:Value) (h:ab):bw Tryd.prog C Tryd.f72 [x0] h=t72 C x0 h:=
 (aG Tryd.prog C Tryd.f72 [x0] h (by kernel_rfl)).trans (by kernel_rfl)
noncomputable def t110 (C:ae) (x0 x1:Value) (h:ab):Out:=
 aa (box x0 h) fun y2 h=>
 aa (box x1 h) fun y3 h=>
 aa (dJ (List.replicate 32 (.int .u8 0)) h) fun y4 h=>
 aa (pu (cy 32 1 y2 none none none) h) fun y6 h=>
 aa (cO 1 (.int .u8 0) 1 [(0,(.int .u8 1))] h) fun y5 h=>
 aa (aD 1 1 y5 y6 h) fun y7 h=>
 aa (pu (cy 32 1 y3 none none none) h) fun y8 h=>
 aa (aD 1 1 y7 y8 h) fun y9 h=>
 aa (C 108 [y9] h) fun y10 h=>
 aa (eT 32 y4 y10 h) fun _ h=>
 aj Tryd.prog Tryd.f110.results.toList (aO 11 (up (bs [x0,x1]) [(2,y2),(3,y3),(4,y4),(5,y5),(6,y6),(7,y7),(8,y8),(9,y9),(10,y10)])) h
theorem t110_eq (C:ae) (x0 x1:Value) (h:ab):bw Tryd.prog C Tryd.f110 [x0,x1] h=t110 C x0 x1 h:=
 (aG Tryd.prog C Tryd.f110 [x0,x1] h (by kernel_rfl)).trans (by kernel_rfl)
end Go.Proofs.YtdnahgfgoajmcaaDoor

