/-
  A part of the proof, spaces and names shortened by a program (a claim may hold 1,500,000 bytes).
  Conditions: as each theorem states.
-/
import Derived.Test.YtdnahgfgoajmcaaGreatDoorG9
import Derived.Test.YtdnahgfgoajmcaaGreatDoorProg
import Derived.KernelRfl
namespace Go.Proofs.YtdnahgfgoajmcaaGreatDoor
open Go Go.Abs Tryz
section
variable (C:au) (i:Nat) (x:fL) (e:aX) (h:ai)
noncomputable def t42 (C:au) (x0:Value) (h:ai):bc:=
 af (box x0 h) fun y1 h=>af (some (.bool false,h)) fun _ h=>af (pu (aP y1 0) h) fun y3 h=>af (ld1 y3 h) fun y4 h=>af (pu (aF prog .eql 64 y4 (.int .u8 1)) h) fun y6 h=>af (some (y6,h)) fun y5 h=>(match y5 with
 | .bool true=>af (du 39 y1 h) fun y7 h=>af (pu (aP y1 0) h) fun y8 h=>af (ld1 y8 h) fun y9 h=>af (pu (aP y1 33) h) fun y10 h=>af (ld1 y10 h) fun y11 h=>af (pu (aP y1 34) h) fun y12 h=>af (ld1 y12 h) fun y13 h=>af (pu (fZ mE [(0,1,y9),(33,1,y11),(34,1,y13)]) h) fun y14 h=>af (pu (aF prog .eql 66 y7 y14) h) fun y15 h=>af (some (y15,h)) fun y16 h=>af (ay (cn y16==some true) (du 39 y1 h) h) fun y17 h=>af (ay (cn y16==some true) (C 45 [y17] h) h) fun y18 h=>af (match y16 with | .bool t=>some (if t then y18 else (.bool false),h)|_=>none) fun y19 h=>af (some (y19,h)) fun y2_1 h=>some (y2_1,h)
 | .bool false=>af (pu (aF prog .eql 64 y4 (.int .u8 2)) h) fun y21 h=>af (some (y21,h)) fun y20 h=>(match y20 with
 | .bool true=>af (du 39 y1 h) fun y22 h=>af (pu (aP y1 0) h) fun y23 h=>af (ld1 y23 h) fun y24 h=>af (pu (aP y1 1) h) fun y25 h=>af (du 32 y25 h) fun y26 h=>af (pu (fZ mE [(0,1,y24),(1,32,y26)]) h) fun y27 h=>af (pu (aF prog .eql 66 y22 y27) h) fun y28 h=>af (some (y28,h)) fun y2_1 h=>some (y2_1,h)
 | .bool false=>af (pu (aF prog .eql 64 y4 (.int .u8 3)) h) fun y30 h=>af (some (y30,h)) fun y29 h=>(match y29 with
 | .bool true=>af (du 39 y1 h) fun y31 h=>af (C 45 [y31] h) fun y32 h=>af (some (y32,h)) fun y33 h=>af (ay (cn y33==some true) (pu (aP y1 35) h) h) fun y34 h=>af (ay (cn y33==some true) (ld1 y34 h) h) fun y35 h=>af (ay (cn y33==some true) (pu (aF prog .geq 32 y35 (.int .u64 1)) h) h) fun y36 h=>af (match y33 with | .bool t=>some (if t then y36 else (.bool false),h)|_=>none) fun y37 h=>af (some (y37,h)) fun y38 h=>af (ay (cn y38==some true) (pu (aP y1 37) h) h) fun y39 h=>af (ay (cn y38==some true) (ld1 y39 h) h) fun y40 h=>af (ay (cn y38==some true) (pu (aF prog .leq 3 (.int .i64 1) y40) h) h) fun y41 h=>
 af (match y38 with | .bool t=>some (if t then y41 else (.bool false),h)|_=>none) fun y42 h=>af (some (y42,h)) fun y43 h=>af (ay (cn y43==some true) (pu (aP y1 37) h) h) fun y44 h=>af (ay (cn y43==some true) (ld1 y44 h) h) fun y45 h=>af (ay (cn y43==some true) (pu (aP y1 38) h) h) fun y46 h=>af (ay (cn y43==some true) (ld1 y46 h) h) fun y47 h=>af (ay (cn y43==some true) (pu (aF prog .leq 3 y45 y47) h) h) fun y48 h=>af (match y43 with | .bool t=>some (if t then y48 else (.bool false),h)|_=>none) fun y49 h=>af (some (y49,h)) fun y50 h=>af (ay (cn y50==some true) (pu (aP y1 38) h) h) fun y51 h=>af (ay (cn y50==some true) (ld1 y51 h) h) fun y52 h=>
 af (ay (cn y50==some true) (pu (aF prog .leq 3 y52 (.int .i64 255)) h) h) fun y53 h=>af (match y50 with | .bool t=>some (if t then y53 else (.bool false),h)|_=>none) fun y54 h=>af (some (y54,h)) fun y2_1 h=>some (y2_1,h)
 | .bool false=>af (some (.bool false,h)) fun y2_1 h=>some (y2_1,h)
 |_=>none)
 |_=>none)
 |_=>none)
theorem zP (C:au) (x0:Value) (h:ai):bw prog C f20 [x0] h=t42 C x0 h:=
 fM (by kernel_rfl) (by kernel_rfl)
noncomputable def t43 (C:au) (x0:Value) (h:ai):bc:=
 af (box x0 h) fun y1 h=>af (some (.slice none 0 0,h)) fun _ h=>af (some (.int .i64 0,h)) fun _ h=>af (du 39 y1 h) fun y7 h=>af (C 20 [y7] h) fun y8 h=>af (pu (unA .not y8) h) fun y9 h=>(match y9 with
 | .bool true=>af (some (.slice none 0 0,h)) fun y2_1 h=>af (some (.int .i64 2,h)) fun y3_1 h=>some (.tuple #[y2_1,y3_1],h)
 | .bool false=>af (C 55 [.int .i64 53] h) fun y10 h=>af (some (y10,h)) fun y4 h=>af (some (y4,h)) fun y11 h=>af (pu (aP y1 0) h) fun y12 h=>af (ld1 y12 h) fun y13 h=>af (C 56 [y11,y13] h) fun _ h=>af (some (y4,h)) fun y15 h=>af (pu (aP y1 1) h) fun y16 h=>af (pu (sliceArr 32 1 y16 none none none) h) fun y17 h=>af (C 57 [y15,y17] h) fun _ h=>af (some (y4,h)) fun y19 h=>af (pu (aP y1 33) h) fun y20 h=>af (ld1 y20 h) fun y21 h=>af (lW .u8 y21 h) fun y22 h=>af (C 56 [y19,y22] h) fun _ h=>af (some (y4,h)) fun y24 h=>af (pu (aP y1 34) h) fun y25 h=>af (ld1 y25 h) fun y26 h=>af (C 58 [y24,y26] h) fun _ h=>af (some (y4,h)) fun y28 h=>af (pu (aP y1 35) h) fun y29 h=>af (ld1 y29 h) fun y30 h=>
 af (C 58 [y28,y30] h) fun _ h=>af (some (y4,h)) fun y32 h=>af (C 56 [y32,.int .u8 0] h) fun _ h=>af (some (y4,h)) fun y34 h=>af (pu (aP y1 37) h) fun y35 h=>af (ld1 y35 h) fun y36 h=>af (lW .u8 y36 h) fun y37 h=>af (C 56 [y34,y37] h) fun _ h=>af (some (y4,h)) fun y39 h=>af (pu (aP y1 38) h) fun y40 h=>af (ld1 y40 h) fun y41 h=>af (lW .u8 y41 h) fun y42 h=>af (C 56 [y39,y42] h) fun _ h=>af (some (y4,h)) fun y45 h=>af (C 59 [y45] h) fun y46 h=>af (some (y46,h)) fun y44 h=>af (pu (extractA y44 0) h) fun y47 h=>af (pu (extractA y44 1) h) fun y48 h=>af (some (y47,h)) fun y5 h=>af (some (y48,h)) fun y6 h=>af (pu (aP y1 36) h) fun y49 h=>af (ld1 y49 h) fun y50 h=>(match y50 with
 | .bool true=>af (some (y5,h)) fun y51 h=>af (some (y5,h)) fun y52 h=>af (pu (lenL y52) h) fun y53 h=>af (pu (aF prog .sub 3 y53 (.int .i64 3)) h) fun y54 h=>af (pu (idxS 1 y51 y54) h) fun y55 h=>af (eY 1 y55 (.int .u8 1) h) fun _ h=>af (some (y5,h)) fun y56 h=>af (some (y6,h)) fun y57 h=>af (some (y56,h)) fun y2_1 h=>af (some (y57,h)) fun y3_1 h=>some (.tuple #[y2_1,y3_1],h)
 | .bool false=>af (some (y5,h)) fun y56 h=>af (some (y6,h)) fun y57 h=>af (some (y56,h)) fun y2_1 h=>af (some (y57,h)) fun y3_1 h=>some (.tuple #[y2_1,y3_1],h)
 |_=>none)
 |_=>none)
theorem t43_eq (C:au) (x0:Value) (h:ai):bw prog C f24 [x0] h=t43 C x0 h:=
 fM (by kernel_rfl) (by kernel_rfl)
noncomputable def t53 (_:au) (x0:Value) (h:ai):bc:=
 af (some (.slice none 0 0,h)) fun _ h=>af (some (x0,h)) fun y3 h=>af (pu (aF prog .eql 34 y3 (.slice none 0 0)) h) fun y4 h=>(match y4 with
 | .bool true=>af (some (.slice none 0 0,h)) fun y2_1 h=>some (y2_1,h)
 | .bool false=>af (dg 1 (.int .u8 0) 0 [] h) fun y5 h=>af (some (x0,h)) fun y6 h=>af (appendA 1 1 y5 y6 h) fun y7 h=>af (some (y7,h)) fun y2_1 h=>some (y2_1,h)
 |_=>none)
theorem t53_eq (C:au) (x0:Value) (h:ai):bw prog C f41 [x0] h=t53 C x0 h:=
 fM (by kernel_rfl) (by kernel_rfl)
noncomputable def t86 (_:au) (x0:Value) (h:ai):bc:=
 af (box x0 h) fun y1 h=>af (some (.bool false,h)) fun _ h=>af (pu (aP y1 33) h) fun y3 h=>af (ld1 y3 h) fun y4 h=>af (pu (aF prog .geq 3 y4 (.int .i64 0)) h) fun y5 h=>af (some (y5,h)) fun y6 h=>af (ay (cn y6==some true) (pu (aP y1 33) h) h) fun y7 h=>af (ay (cn y6==some true) (ld1 y7 h) h) fun y8 h=>af (ay (cn y6==some true) (pu (aF prog .lss 3 y8 (.int .i64 16)) h) h) fun y9 h=>af (match y6 with | .bool t=>some (if t then y9 else (.bool false),h)|_=>none) fun y10 h=>af (some (y10,h)) fun y11 h=>af (ay (cn y11==some true) (pu (aP y1 34) h) h) fun y12 h=>af (ay (cn y11==some true) (ld1 y12 h) h) fun y13 h=>
 af (ay (cn y11==some true) (pu (aF prog .geq 32 y13 (.int .u64 1)) h) h) fun y14 h=>af (match y11 with | .bool t=>some (if t then y14 else (.bool false),h)|_=>none) fun y15 h=>af (some (y15,h)) fun y2_1 h=>some (y2_1,h)
theorem t86_eq (C:au) (x0:Value) (h:ai):bw prog C f45 [x0] h=t86 C x0 h:=
 fM (by kernel_rfl) (by kernel_rfl)
noncomputable def t87 (_:au) (x0:Value) (h:ai):bc:=
 af (some (.pointer none,h)) fun _ h=>af (some (x0,h)) fun y3 h=>af (pu (minmax true (.int .i64 0) [y3]) h) fun y4 h=>af (pu (fZ [.int .i64 0,.bool false,.slice none 0 0] [(0,1,y4)]) h) fun y5 h=>af (box y5 h) fun y6 h=>af (some (y6,h)) fun y2_1 h=>some (y2_1,h)
theorem t87_eq (C:au) (x0:Value) (h:ai):bw prog C f55 [x0] h=t87 C x0 h:=
 fM (by kernel_rfl) (by kernel_rfl)
noncomputable def t88 (C:au) (x0 x1:Value) (h:ai):bc:=
 af (some (x0,h)) fun y4 h=>af (some (x1,h)) fun y5 h=>af (lW .u64 y5 h) fun y6 h=>af (C 87 [y4,y6,.int .i64 1] h) fun _ h=>some (.tuple #[],h)
theorem t88_eq (C:au) (x0 x1:Value) (h:ai):bw prog C f56 [x0,x1] h=t88 C x0 x1 h:=
 fM (by kernel_rfl) (by kernel_rfl)
noncomputable def t89 (C:au) (x0 x1:Value) (h:ai):bc:=
 af (some (x0,h)) fun y4 h=>af (some (x1,h)) fun y5 h=>af (pu (lenL y5) h) fun y6 h=>af (C 88 [y4,y6] h) fun y7 h=>(match y7 with
 | .bool true=>af (some (x0,h)) fun y8 h=>af (some (x0,h)) fun y9 h=>af (pu (nilCheckA y9) h) fun y10 h=>af (pu (aP y10 2) h) fun y11 h=>af (ld1 y11 h) fun y12 h=>af (some (x1,h)) fun y13 h=>af (appendA 1 1 y12 y13 h) fun y14 h=>af (pu (nilCheckA y8) h) fun y15 h=>af (pu (aP y15 2) h) fun y16 h=>af (eY 1 y16 y14 h) fun _ h=>some (.tuple #[],h)
 | .bool false=>some (.tuple #[],h)
 |_=>none)
theorem t89_eq (C:au) (x0 x1:Value) (h:ai):bw prog C f57 [x0,x1] h=t89 C x0 x1 h:=
 fM (by kernel_rfl) (by kernel_rfl)
noncomputable def t90 (C:au) (x0 x1:Value) (h:ai):bc:=
 af (some (x0,h)) fun y4 h=>af (some (x1,h)) fun y5 h=>af (C 87 [y4,y5,.int .i64 8] h) fun _ h=>some (.tuple #[],h)
theorem t90_eq (C:au) (x0 x1:Value) (h:ai):bw prog C f58 [x0,x1] h=t90 C x0 x1 h:=
 fM (by kernel_rfl) (by kernel_rfl)
noncomputable def t91 (C:au) (x0:Value) (h:ai):bc:=
 af (some (.slice none 0 0,h)) fun _ h=>af (some (.int .i64 0,h)) fun _ h=>af (some (x0,h)) fun y5 h=>af (pu (aF prog .eql 103 y5 (.pointer none)) h) fun y6 h=>af (some (y6,h)) fun y4 h=>(match y4 with
 | .bool true=>af (some (.slice none 0 0,h)) fun y2_1 h=>af (some (.int .i64 1,h)) fun y3_1 h=>some (.tuple #[y2_1,y3_1],h)
 | .bool false=>af (some (x0,h)) fun y8 h=>af (pu (nilCheckA y8) h) fun y9 h=>af (pu (aP y9 1) h) fun y10 h=>af (ld1 y10 h) fun y11 h=>af (some (y11,h)) fun y7 h=>(match y7 with
 | .bool true=>af (some (.slice none 0 0,h)) fun y2_1 h=>af (some (.int .i64 3,h)) fun y3_1 h=>some (.tuple #[y2_1,y3_1],h)
 | .bool false=>af (some (x0,h)) fun y12 h=>af (pu (nilCheckA y12) h) fun y13 h=>af (pu (aP y13 2) h) fun y14 h=>af (ld1 y14 h) fun y15 h=>af (C 41 [y15] h) fun y16 h=>af (some (y16,h)) fun y2_1 h=>af (some (.int .i64 0,h)) fun y3_1 h=>some (.tuple #[y2_1,y3_1],h)
 |_=>none)
 |_=>none)
theorem t91_eq (C:au) (x0:Value) (h:ai):bw prog C f59 [x0] h=t91 C x0 h:=
 fM (by kernel_rfl) (by kernel_rfl)
noncomputable def b125_2 (_:au) (i:Nat) (e:aX) (h:ai):bc:=if i=0 then (dC f87) e h else iL i e h
noncomputable def t125 (C:au) (x0 x1 x2:Value) (h:ai):bc:=
 af (some (x0,h)) fun y7 h=>af (some (x2,h)) fun y8 h=>af (C 88 [y7,y8] h) fun y9 h=>(match y9 with
 | .bool true=>af (some (x2,h)) fun y10 h=>af (pu (aF prog .sub 3 y10 (.int .i64 1)) h) fun y11 h=>af (some (y11,h)) fun y6 h=>fe (iter (codeA prog C (ao f87 [1,0,1,0,0])) aD (aK 30 (up (bs [x0,x1,x2]) [(6,y6),(7,y7),(8,y8),(9,y9),(10,y10),(11,y11)])) h) (dC f87) (b125_2 C)
 | .bool false=>some (.tuple #[],h)
 |_=>none)
noncomputable def nm (_:au) (x:fL) (h:ai):eI:=
 af (some (x 6,h)) fun y12 h=>af (pu (aF prog .geq 3 y12 (.int .i64 0)) h) fun y13 h=>(match y13 with
 | .bool true=>af (some (x 0,h)) fun y16 h=>af (some (x 0,h)) fun y17 h=>af (pu (nilCheckA y17) h) fun y18 h=>af (pu (aP y18 2) h) fun y19 h=>af (ld1 y19 h) fun y20 h=>af (some (x 1,h)) fun y21 h=>af (some (x 6,h)) fun y22 h=>af (pu (aF prog .mul 3 (.int .i64 8) y22) h) fun y23 h=>af (pu (aF prog .shr 32 y21 y23) h) fun y24 h=>af (lW .u8 y24 h) fun y25 h=>af (dg 1 (.int .u8 0) 1 [(0,y25)] h) fun y26 h=>af (appendA 1 1 y20 y26 h) fun y27 h=>af (pu (nilCheckA y16) h) fun y28 h=>af (pu (aP y28 2) h) fun y29 h=>af (eY 1 y29 y27 h) fun _ h=>af (some (x 6,h)) fun y14 h=>af (pu (aF prog .sub 3 y14 (.int .i64 1)) h) fun y15 h=>af (some (y15,h)) fun y6 h=>
 some (.normal,(aK 30 (up x [(6,y6),(12,y12),(13,y13),(14,y14),(15,y15),(16,y16),(17,y17),(18,y18),(19,y19),(20,y20),(21,y21),(22,y22),(23,y23),(24,y24),(25,y25),(26,y26),(27,y27),(28,y28),(29,y29)])),h)
 | .bool false=>some (.exit 0,(aK 30 (up x [(12,y12),(13,y13)])),h)
 |_=>none)
theorem t125_eq (C:au) (x0 x1 x2:Value) (h:ai):bw prog C f87 [x0,x1,x2] h=t125 C x0 x1 x2 h:=
 fM (by kernel_rfl) (by kernel_rfl)
theorem vU:codeA prog C (ao f87 [1,0,1,0,0]) (aK 30 x) h=nm C x h:=
 aA (T:=nm C) (fun x h=>by kernel_rfl) x h
noncomputable def t126 (_:au) (x0 x1:Value) (h:ai):bc:=
 af (some (.bool false,h)) fun _ h=>af (some (x0,h)) fun y5 h=>af (pu (aF prog .eql 103 y5 (.pointer none)) h) fun y6 h=>af (some (y6,h)) fun y7 h=>af (ay (cn y7==some false) (some (x0,h)) h) fun y8 h=>af (ay (cn y7==some false) (pu (nilCheckA y8) h) h) fun y9 h=>af (ay (cn y7==some false) (pu (aP y9 1) h) h) fun y10 h=>af (ay (cn y7==some false) (ld1 y10 h) h) fun y11 h=>af (match y7 with | .bool t=>some (if t then (.bool true) else y11,h)|_=>none) fun y12 h=>(match y12 with
 | .bool true=>af (some (.bool false,h)) fun y4_1 h=>some (y4_1,h)
 | .bool false=>af (some (x0,h)) fun y13 h=>af (some (x1,h)) fun y14 h=>af (some (x0,h)) fun y15 h=>af (pu (nilCheckA y15) h) fun y16 h=>af (pu (aP y16 0) h) fun y17 h=>af (ld1 y17 h) fun y18 h=>af (some (x0,h)) fun y19 h=>af (pu (nilCheckA y19) h) fun y20 h=>af (pu (aP y20 2) h) fun y21 h=>af (ld1 y21 h) fun y22 h=>af (pu (lenL y22) h) fun y23 h=>af (pu (aF prog .sub 3 y18 y23) h) fun y24 h=>af (pu (aF prog .gtr 3 y14 y24) h) fun y25 h=>af (pu (nilCheckA y13) h) fun y26 h=>af (pu (aP y26 1) h) fun y27 h=>af (eY 1 y27 y25 h) fun _ h=>af (some (x0,h)) fun y28 h=>af (pu (nilCheckA y28) h) fun y29 h=>af (pu (aP y29 1) h) fun y30 h=>af (ld1 y30 h) fun y31 h=>
 af (pu (unA .not y31) h) fun y32 h=>af (some (y32,h)) fun y4_1 h=>some (y4_1,h)
 |_=>none)
theorem t126_eq (C:au) (x0 x1:Value) (h:ai):bw prog C f88 [x0,x1] h=t126 C x0 x1 h:=
 fM (by kernel_rfl) (by kernel_rfl)
end
section
variable (C:au) (i:Nat) (x:fL) (e:aX) (h:ai)
noncomputable def k96_2:bc:=codeK prog C (ao f114 [1,1,1]) e h (dC f114) (dC f114) iL
noncomputable def b96_4:bc:=if i=0 then (k96_2 C) e h else iL i e h
noncomputable def t96 (C:au) (x0 x1:Value) (h:ai):bc:=
 af (some (.slice none 0 0,h)) fun y4 h=>af (dg 1 (.int .u8 0) 0 [] h) fun y7 h=>af (some (y7,h)) fun y5 h=>af (some (x1,h)) fun y8 h=>af (pu (aF prog .sub 3 y8 (.int .i64 1)) h) fun y9 h=>af (some (y9,h)) fun y6 h=>fe (iter (codeA prog C (ao f114 [1,1,0,1,0,0])) aD (aK 24 (up (bs [x0,x1]) [(4,y4),(5,y5),(6,y6),(7,y7),(8,y8),(9,y9)])) h) (dC f114) (b96_4 C)
noncomputable def zO (_:au) (x:fL) (h:ai):bc:=
 af (some (x 5,h)) fun y23 h=>af (some (y23,h)) fun y4 h=>some (y4,h)
noncomputable def oO (_:au) (x:fL) (h:ai):eI:=
 af (some (x 6,h)) fun y10 h=>af (pu (aF prog .geq 3 y10 (.int .i64 0)) h) fun y11 h=>(match y11 with
 | .bool true=>af (some (x 5,h)) fun y14 h=>af (some (x 0,h)) fun y15 h=>af (some (x 6,h)) fun y16 h=>af (lW .u64 y16 h) fun y17 h=>af (pu (aF prog .mul 120 (.int .u64 8) y17) h) fun y18 h=>af (pu (aF prog .shr 32 y15 y18) h) fun y19 h=>af (lW .u8 y19 h) fun y20 h=>af (dg 1 (.int .u8 0) 1 [(0,y20)] h) fun y21 h=>af (appendA 1 1 y14 y21 h) fun y22 h=>af (some (y22,h)) fun y5 h=>af (some (x 6,h)) fun y12 h=>af (pu (aF prog .sub 3 y12 (.int .i64 1)) h) fun y13 h=>af (some (y13,h)) fun y6 h=>some (.normal,(aK 24 (up x [(5,y5),(6,y6),(10,y10),(11,y11),(12,y12),(13,y13),(14,y14),(15,y15),(16,y16),(17,y17),(18,y18),(19,y19),(20,y20),(21,y21),(22,y22)])),h)
 | .bool false=>some (.exit 0,(aK 24 (up x [(10,y10),(11,y11)])),h)
 |_=>none)
theorem t96_eq (C:au) (x0 x1:Value) (h:ai):bw prog C f114 [x0,x1] h=t96 C x0 x1 h:=
 fM (by kernel_rfl) (by kernel_rfl)
theorem t96k96_2_eq:k96_2 C (aK 24 x) h=zO C x h:=
 uJ (T:=zO C) (fun x h=>by kernel_rfl) x h
theorem wZ:codeA prog C (ao f114 [1,1,0,1,0,0]) (aK 24 x) h=oO C x h:=
 aA (T:=oO C) (fun x h=>by kernel_rfl) x h
noncomputable def t97 (_:au) (x0:Value) (h:ai):bc:=
 af (some (.int .u64 0,h)) fun _ h=>af (some (x0,h)) fun y3 h=>(match y3 with
 | .bool true=>af (some (.int .u64 1,h)) fun y2_1 h=>some (y2_1,h)
 | .bool false=>af (some (.int .u64 0,h)) fun y2_1 h=>some (y2_1,h)
 |_=>none)
theorem t97_eq (C:au) (x0:Value) (h:ai):bw prog C f115 [x0] h=t97 C x0 h:=
 fM (by kernel_rfl) (by kernel_rfl)
noncomputable def t46 (C:au) (x0:Value) (h:ai):bc:=
 af (box x0 h) fun y1 h=>af (some (.slice none 0 0,h)) fun _ h=>af (some (.int .i64 0,h)) fun _ h=>af (du 39 y1 h) fun y5 h=>af (C 36 [y5] h) fun y6 h=>af (pu (unA .not y6) h) fun y7 h=>(match y7 with
 | .bool true=>af (some (.slice none 0 0,h)) fun y2_1 h=>af (some (.int .i64 2,h)) fun y3_1 h=>some (.tuple #[y2_1,y3_1],h)
 | .bool false=>af (pu (aP y1 0) h) fun y8 h=>af (ld1 y8 h) fun y9 h=>af (pu (aP y1 1) h) fun y11 h=>af (pu (sliceArr 32 1 y11 none none none) h) fun y12 h=>af (dg 1 (.int .u8 0) 1 [(0,y9)] h) fun y10 h=>af (appendA 1 1 y10 y12 h) fun y13 h=>af (some (y13,h)) fun y4 h=>af (some (y4,h)) fun y14 h=>af (pu (aP y1 33) h) fun y15 h=>af (ld1 y15 h) fun y16 h=>af (lW .u8 y16 h) fun y17 h=>af (dg 1 (.int .u8 0) 1 [(0,y17)] h) fun y18 h=>af (appendA 1 1 y14 y18 h) fun y19 h=>af (some (y19,h)) fun y4_1 h=>let g7_0:=h
 af (some (y4_1,g7_0)) fun y20 g7_1=>af (pu (aP y1 34) g7_1) fun y21 g7_2=>af (ld1 y21 g7_2) fun y22 g7_3=>af (C 114 [y22,.int .i64 8] g7_3) fun y23 g7_4=>af (appendA 1 1 y20 y23 g7_4) fun y24 g7_5=>af (pu (aP y1 35) g7_5) fun y25 g7_6=>af (ld1 y25 g7_6) fun y26 g7_7=>af (C 114 [y26,.int .i64 8] g7_7) fun y27 g7_8=>af (appendA 1 1 y24 y27 g7_8) fun y28 g7_9=>af (some (y28,g7_9)) fun y4_2 g7_10=>(match (cq true (ld1 y25 g7_3) y26&&(cq true (ld1 y25 g7_4) y26&&true)) with
 |true=>let h:=g7_10
 let g9_0:=h
 af (some (y4_2,g9_0)) fun y29 g9_1=>af (pu (aP y1 36) g9_1) fun y30 g9_2=>af (ld1 y30 g9_2) fun y31 g9_3=>af (C 115 [y31] g9_3) fun y32 g9_4=>af (lW .u8 y32 g9_4) fun y33 g9_5=>af (pu (aP y1 37) g9_5) fun y34 g9_6=>af (ld1 y34 g9_6) fun y35 g9_7=>af (lW .u8 y35 g9_7) fun y36 g9_8=>af (pu (aP y1 38) g9_8) fun y37 g9_9=>af (ld1 y37 g9_9) fun y38 g9_10=>af (lW .u8 y38 g9_10) fun y39 g9_11=>af (dg 1 (.int .u8 0) 3 [(0,y33),(1,y36),(2,y39)] g9_11) fun y40 g9_12=>af (appendA 1 1 y29 y40 g9_12) fun y41 g9_13=>af (some (y41,g9_13)) fun y2_1 g9_14=>af (some (.int .i64 0,g9_14)) fun y3_1 g9_15=>
 (match (cq true (ld1 y34 g9_3) y35&&(cq true (lW .u8 y35 g9_3) y36&&(cq true (ld1 y37 g9_3) y38&&(cq true (lW .u8 y38 g9_3) y39&&true)))) with
 |true=>let h:=g9_15
 some (.tuple #[y2_1,y3_1],h)
 |false=>none)
 |false=>none)
 |_=>none)
theorem t46_eq (C:au) (x0:Value) (h:ai):bw prog C f94 [x0] h=t46 C x0 h:=
 fM (by kernel_rfl) (by kernel_rfl)
noncomputable def t48 (_:au) (x0:Value) (h:ai):bc:=
 af (box x0 h) fun y1 h=>af (some (.bool false,h)) fun _ h=>af (pu (aP y1 33) h) fun y5 h=>af (ld1 y5 h) fun y6 h=>af (pu (aF prog .geq 3 y6 (.int .i64 0)) h) fun y7 h=>af (some (y7,h)) fun y8 h=>af (ay (cn y8==some true) (pu (aP y1 33) h) h) fun y9 h=>af (ay (cn y8==some true) (ld1 y9 h) h) fun y10 h=>af (ay (cn y8==some true) (pu (aF prog .leq 3 y10 (.int .i64 15)) h) h) fun y11 h=>af (match y8 with | .bool t=>some (if t then y11 else (.bool false),h)|_=>none) fun y12 h=>af (some (y12,h)) fun y13 h=>af (ay (cn y13==some true) (pu (aP y1 34) h) h) fun y14 h=>af (ay (cn y13==some true) (ld1 y14 h) h) fun y15 h=>
 af (ay (cn y13==some true) (pu (aF prog .geq 32 y15 (.int .u64 1)) h) h) fun y16 h=>af (match y13 with | .bool t=>some (if t then y16 else (.bool false),h)|_=>none) fun y17 h=>af (some (y17,h)) fun y3 h=>af (pu (aP y1 35) h) fun y18 h=>af (ld1 y18 h) fun y19 h=>af (pu (aF prog .eql 32 y19 (.int .u64 0)) h) fun y20 h=>af (some (y20,h)) fun y21 h=>af (ay (cn y21==some true) (pu (aP y1 36) h) h) fun y22 h=>af (ay (cn y21==some true) (ld1 y22 h) h) fun y23 h=>af (ay (cn y21==some true) (pu (unA .not y23) h) h) fun y24 h=>af (match y21 with | .bool t=>some (if t then y24 else (.bool false),h)|_=>none) fun y25 h=>af (some (y25,h)) fun y26 h=>
 af (ay (cn y26==some true) (pu (aP y1 37) h) h) fun y27 h=>af (ay (cn y26==some true) (ld1 y27 h) h) fun y28 h=>af (ay (cn y26==some true) (pu (aF prog .eql 3 y28 (.int .i64 0)) h) h) fun y29 h=>af (match y26 with | .bool t=>some (if t then y29 else (.bool false),h)|_=>none) fun y30 h=>af (some (y30,h)) fun y31 h=>af (ay (cn y31==some true) (pu (aP y1 38) h) h) fun y32 h=>af (ay (cn y31==some true) (ld1 y32 h) h) fun y33 h=>af (ay (cn y31==some true) (pu (aF prog .eql 3 y33 (.int .i64 0)) h) h) fun y34 h=>af (match y31 with | .bool t=>some (if t then y34 else (.bool false),h)|_=>none) fun y35 h=>af (some (y35,h)) fun y4 h=>af (pu (aP y1 0) h) fun y36 h=>af (ld1 y36 h) fun y37 h=>
 af (pu (aF prog .eql 64 y37 (.int .u8 1)) h) fun y39 h=>af (some (y39,h)) fun y38 h=>(match y38 with
 | .bool true=>af (some (y3,h)) fun y40 h=>af (some (y40,h)) fun y41 h=>af (ay (cn y41==some true) (some (y4,h)) h) fun y42 h=>af (match y41 with | .bool t=>some (if t then y42 else (.bool false),h)|_=>none) fun y43 h=>af (some (y43,h)) fun y44 h=>af (ay (cn y44==some true) (pu (aP y1 1) h) h) fun y45 h=>af (ay (cn y44==some true) (du 32 y45 h) h) fun y46 h=>af (ay (cn y44==some true) (du 32 (ptr 0 0) h) h) fun y47 h=>af (ay (cn y44==some true) (pu (aF prog .eql 36 y46 y47) h) h) fun y48 h=>af (match y44 with | .bool t=>some (if t then y48 else (.bool false),h)|_=>none) fun y49 h=>af (some (y49,h)) fun y2_1 h=>some (y2_1,h)
 | .bool false=>af (pu (aF prog .eql 64 y37 (.int .u8 2)) h) fun y51 h=>af (some (y51,h)) fun y50 h=>(match y50 with
 | .bool true=>af (some (y4,h)) fun y52 h=>af (some (y52,h)) fun y53 h=>af (ay (cn y53==some true) (pu (aP y1 33) h) h) fun y54 h=>af (ay (cn y53==some true) (ld1 y54 h) h) fun y55 h=>af (ay (cn y53==some true) (pu (aF prog .eql 3 y55 (.int .i64 0)) h) h) fun y56 h=>af (match y53 with | .bool t=>some (if t then y56 else (.bool false),h)|_=>none) fun y57 h=>af (some (y57,h)) fun y58 h=>af (ay (cn y58==some true) (pu (aP y1 34) h) h) fun y59 h=>af (ay (cn y58==some true) (ld1 y59 h) h) fun y60 h=>af (ay (cn y58==some true) (pu (aF prog .eql 32 y60 (.int .u64 0)) h) h) fun y61 h=>af (match y58 with | .bool t=>some (if t then y61 else (.bool false),h)|_=>none) fun y62 h=>
 af (some (y62,h)) fun y2_1 h=>some (y2_1,h)
 | .bool false=>af (pu (aF prog .eql 64 y37 (.int .u8 3)) h) fun y64 h=>af (some (y64,h)) fun y63 h=>(match y63 with
 | .bool true=>af (some (y3,h)) fun y65 h=>af (some (y65,h)) fun y66 h=>af (ay (cn y66==some true) (pu (aP y1 35) h) h) fun y67 h=>af (ay (cn y66==some true) (ld1 y67 h) h) fun y68 h=>af (ay (cn y66==some true) (pu (aF prog .geq 32 y68 (.int .u64 1)) h) h) fun y69 h=>af (match y66 with | .bool t=>some (if t then y69 else (.bool false),h)|_=>none) fun y70 h=>af (some (y70,h)) fun y71 h=>af (ay (cn y71==some true) (pu (aP y1 37) h) h) fun y72 h=>af (ay (cn y71==some true) (ld1 y72 h) h) fun y73 h=>af (ay (cn y71==some true) (pu (aF prog .leq 3 (.int .i64 1) y73) h) h) fun y74 h=>af (match y71 with | .bool t=>some (if t then y74 else (.bool false),h)|_=>none) fun y75 h=>
 af (some (y75,h)) fun y76 h=>af (ay (cn y76==some true) (pu (aP y1 37) h) h) fun y77 h=>af (ay (cn y76==some true) (ld1 y77 h) h) fun y78 h=>af (ay (cn y76==some true) (pu (aP y1 38) h) h) fun y79 h=>af (ay (cn y76==some true) (ld1 y79 h) h) fun y80 h=>af (ay (cn y76==some true) (pu (aF prog .leq 3 y78 y80) h) h) fun y81 h=>af (match y76 with | .bool t=>some (if t then y81 else (.bool false),h)|_=>none) fun y82 h=>af (some (y82,h)) fun y83 h=>af (ay (cn y83==some true) (pu (aP y1 38) h) h) fun y84 h=>af (ay (cn y83==some true) (ld1 y84 h) h) fun y85 h=>af (ay (cn y83==some true) (pu (aF prog .leq 3 y85 (.int .i64 255)) h) h) fun y86 h=>
 af (match y83 with | .bool t=>some (if t then y86 else (.bool false),h)|_=>none) fun y87 h=>af (some (y87,h)) fun y2_1 h=>some (y2_1,h)
 | .bool false=>af (some (.bool false,h)) fun y2_1 h=>some (y2_1,h)
 |_=>none)
 |_=>none)
 |_=>none)
theorem t48_eq (C:au) (x0:Value) (h:ai):bw prog C f36 [x0] h=t48 C x0 h:=
 fM (by kernel_rfl) (by kernel_rfl)
end
section
variable (C:au) (i:Nat) (x:fL) (e:aX) (h:ai)
noncomputable def t27 (C:au) (x0:Value) (h:ai):bc:=
 af (box x0 h) fun y1 h=>af (some (.slice none 0 0,h)) fun _ h=>af (some (.int .i64 0,h)) fun _ h=>af (du 39 y1 h) fun y4 h=>af (C 20 [y4] h) fun y5 h=>af (pu (unA .not y5) h) fun y6 h=>(match y6 with
 | .bool true=>af (some (.slice none 0 0,h)) fun y2_1 h=>af (some (.int .i64 2,h)) fun y3_1 h=>some (.tuple #[y2_1,y3_1],h)
 | .bool false=>af (du 39 y1 h) fun y7 h=>af (C 52 [y7] h) fun y8 h=>af (some (y8,h)) fun y2_1 h=>af (some (.int .i64 0,h)) fun y3_1 h=>some (.tuple #[y2_1,y3_1],h)
 |_=>none)
theorem t27_eq (C:au) (x0:Value) (h:ai):bw prog C f63 [x0] h=t27 C x0 h:=
 fM (by kernel_rfl) (by kernel_rfl)
noncomputable def t62 (_:au) (x0:Value) (h:ai):bc:=
 af (box x0 h) fun y1 h=>af (eH BJ h) fun y2 h=>af (pu (aP y1 0) h) fun y3 h=>af (ld1 y3 h) fun y4 h=>af (pu (aP y1 1) h) fun y5 h=>af (du 32 y5 h) fun y6 h=>af (pu (aP y1 33) h) fun y7 h=>af (ld1 y7 h) fun y8 h=>af (pu (fZ BJ [(0,1,y4),(1,32,y6),(33,1,y8)]) h) fun y9 h=>af (eY 34 y2 y9 h) fun _ h=>resultsA prog f47.results.toList (aK 10 (up (bs [x0]) [(1,y1),(2,y2),(3,y3),(4,y4),(5,y5),(6,y6),(7,y7),(8,y8),(9,y9)])) h
theorem t62_eq (C:au) (x0:Value) (h:ai):bw prog C f47 [x0] h=t62 C x0 h:=
 fM (by kernel_rfl) (by kernel_rfl)
noncomputable def t63 (C:au) (x0 x1:Value) (h:ai):bc:=
 af (box x0 h) fun y2 h=>af (box x1 h) fun y3 h=>af (some (.int .i64 0,h)) fun _ h=>af (some (.int .i64 0,h)) fun y5 h=>af (pu (aP y2 36) h) fun y6 h=>af (ld1 y6 h) fun y7 h=>af (pu (aP y3 36) h) fun y8 h=>af (ld1 y8 h) fun y9 h=>af (pu (aF prog .neq 4 y7 y9) h) fun y10 h=>(match y10 with
 | .bool true=>af (some ((.int .i64 (-1)),h)) fun y5_1 h=>af (pu (aP y2 36) h) fun y11 h=>af (ld1 y11 h) fun y12 h=>(match y12 with
 | .bool true=>af (some (.int .i64 1,h)) fun y5_2 h=>let g7_0:=h
 af (pu (aP y2 34) g7_0) fun y13 g7_1=>af (ld1 y13 g7_1) fun y14 g7_2=>af (pu (aP y3 34) g7_2) fun y15 g7_3=>af (ld1 y15 g7_3) fun y16 g7_4=>af (C 81 [y14,y16] g7_4) fun y17 g7_5=>af (pu (aP y2 35) g7_5) fun y18 g7_6=>af (ld1 y18 g7_6) fun y19 g7_7=>af (pu (aP y3 35) g7_7) fun y20 g7_8=>af (ld1 y20 g7_8) fun y21 g7_9=>af (C 81 [y19,y21] g7_9) fun y22 g7_10=>af (some (y5_2,g7_10)) fun y23 g7_11=>af (pu (aP y2 37) g7_11) fun y24 g7_12=>af (ld1 y24 g7_12) fun y25 g7_13=>af (pu (aP y3 37) g7_13) fun y26 g7_14=>af (ld1 y26 g7_14) fun y27 g7_15=>af (C 82 [y25,y27] g7_15) fun y28 g7_16=>af (pu (aP y2 38) g7_16) fun y29 g7_17=>af (ld1 y29 g7_17) fun y30 g7_18=>
 af (pu (aP y3 38) g7_18) fun y31 g7_19=>af (ld1 y31 g7_19) fun y32 g7_20=>af (C 82 [y30,y32] g7_20) fun y33 g7_21=>af (dg 1 (.int .i64 0) 5 [(0,y17),(1,y22),(2,y23),(3,y28),(4,y33)] g7_21) fun y34 g7_22=>af (C 80 [y34] g7_22) fun y35 g7_23=>af (some (y35,g7_23)) fun y4_1 g7_24=>(match (cq true (ld1 y18 g7_4) y19&&(cq true (ld1 y20 g7_4) y21&&(cq true (ld1 y24 g7_4) y25&&(cq true (ld1 y24 g7_9) y25&&(cq true (ld1 y26 g7_4) y27&&(cq true (ld1 y26 g7_9) y27&&(cq true (ld1 y29 g7_4) y30&&(cq true (ld1 y29 g7_9) y30&&(cq true (ld1 y29 g7_15) y30&&(cq true (ld1 y31 g7_4) y32&&(cq true (ld1 y31 g7_9) y32&&(cq true (ld1 y31 g7_15) y32&&true)))))))))))) with
 |true=>let h:=g7_24
 some (y4_1,h)
 |false=>none)
 | .bool false=>let g8_0:=h
 af (pu (aP y2 34) g8_0) fun y13 g8_1=>af (ld1 y13 g8_1) fun y14 g8_2=>af (pu (aP y3 34) g8_2) fun y15 g8_3=>af (ld1 y15 g8_3) fun y16 g8_4=>af (C 81 [y14,y16] g8_4) fun y17 g8_5=>af (pu (aP y2 35) g8_5) fun y18 g8_6=>af (ld1 y18 g8_6) fun y19 g8_7=>af (pu (aP y3 35) g8_7) fun y20 g8_8=>af (ld1 y20 g8_8) fun y21 g8_9=>af (C 81 [y19,y21] g8_9) fun y22 g8_10=>af (some (y5_1,g8_10)) fun y23 g8_11=>af (pu (aP y2 37) g8_11) fun y24 g8_12=>af (ld1 y24 g8_12) fun y25 g8_13=>af (pu (aP y3 37) g8_13) fun y26 g8_14=>af (ld1 y26 g8_14) fun y27 g8_15=>af (C 82 [y25,y27] g8_15) fun y28 g8_16=>af (pu (aP y2 38) g8_16) fun y29 g8_17=>af (ld1 y29 g8_17) fun y30 g8_18=>
 af (pu (aP y3 38) g8_18) fun y31 g8_19=>af (ld1 y31 g8_19) fun y32 g8_20=>af (C 82 [y30,y32] g8_20) fun y33 g8_21=>af (dg 1 (.int .i64 0) 5 [(0,y17),(1,y22),(2,y23),(3,y28),(4,y33)] g8_21) fun y34 g8_22=>af (C 80 [y34] g8_22) fun y35 g8_23=>af (some (y35,g8_23)) fun y4_1 g8_24=>(match (cq true (ld1 y18 g8_4) y19&&(cq true (ld1 y20 g8_4) y21&&(cq true (ld1 y24 g8_4) y25&&(cq true (ld1 y24 g8_9) y25&&(cq true (ld1 y26 g8_4) y27&&(cq true (ld1 y26 g8_9) y27&&(cq true (ld1 y29 g8_4) y30&&(cq true (ld1 y29 g8_9) y30&&(cq true (ld1 y29 g8_15) y30&&(cq true (ld1 y31 g8_4) y32&&(cq true (ld1 y31 g8_9) y32&&(cq true (ld1 y31 g8_15) y32&&true)))))))))))) with
 |true=>let h:=g8_24
 some (y4_1,h)
 |false=>none)
 |_=>none)
 | .bool false=>let g9_0:=h
 af (pu (aP y2 34) g9_0) fun y13 g9_1=>af (ld1 y13 g9_1) fun y14 g9_2=>af (pu (aP y3 34) g9_2) fun y15 g9_3=>af (ld1 y15 g9_3) fun y16 g9_4=>af (C 81 [y14,y16] g9_4) fun y17 g9_5=>af (pu (aP y2 35) g9_5) fun y18 g9_6=>af (ld1 y18 g9_6) fun y19 g9_7=>af (pu (aP y3 35) g9_7) fun y20 g9_8=>af (ld1 y20 g9_8) fun y21 g9_9=>af (C 81 [y19,y21] g9_9) fun y22 g9_10=>af (some (y5,g9_10)) fun y23 g9_11=>af (pu (aP y2 37) g9_11) fun y24 g9_12=>af (ld1 y24 g9_12) fun y25 g9_13=>af (pu (aP y3 37) g9_13) fun y26 g9_14=>af (ld1 y26 g9_14) fun y27 g9_15=>af (C 82 [y25,y27] g9_15) fun y28 g9_16=>af (pu (aP y2 38) g9_16) fun y29 g9_17=>af (ld1 y29 g9_17) fun y30 g9_18=>
 af (pu (aP y3 38) g9_18) fun y31 g9_19=>af (ld1 y31 g9_19) fun y32 g9_20=>af (C 82 [y30,y32] g9_20) fun y33 g9_21=>af (dg 1 (.int .i64 0) 5 [(0,y17),(1,y22),(2,y23),(3,y28),(4,y33)] g9_21) fun y34 g9_22=>af (C 80 [y34] g9_22) fun y35 g9_23=>af (some (y35,g9_23)) fun y4_1 g9_24=>(match (cq true (ld1 y18 g9_4) y19&&(cq true (ld1 y20 g9_4) y21&&(cq true (ld1 y24 g9_4) y25&&(cq true (ld1 y24 g9_9) y25&&(cq true (ld1 y26 g9_4) y27&&(cq true (ld1 y26 g9_9) y27&&(cq true (ld1 y29 g9_4) y30&&(cq true (ld1 y29 g9_9) y30&&(cq true (ld1 y29 g9_15) y30&&(cq true (ld1 y31 g9_4) y32&&(cq true (ld1 y31 g9_9) y32&&(cq true (ld1 y31 g9_15) y32&&true)))))))))))) with
 |true=>let h:=g9_24
 some (y4_1,h)
 |false=>none)
 |_=>none)
theorem Ch (C:au) (x0 x1:Value) (h:ai):bw prog C f48 [x0,x1] h=t63 C x0 x1 h:=
 fM (by kernel_rfl) (by kernel_rfl)
noncomputable def t67 (_:au) (x0:Value) (h:ai):bc:=
 af (box x0 h) fun y1 h=>af (some (.slice none 0 0,h)) fun _ h=>af (mkR 1 1 (.int .u8 0) (.int .i64 0) (.int .i64 34) h) fun y4 h=>af (some (y4,h)) fun y3 h=>af (some (y3,h)) fun y5 h=>af (pu (aP y1 0) h) fun y6 h=>af (ld1 y6 h) fun y7 h=>af (dg 1 (.int .u8 0) 1 [(0,y7)] h) fun y8 h=>af (appendA 1 1 y5 y8 h) fun y9 h=>af (some (y9,h)) fun y3_1 h=>af (some (y3_1,h)) fun y10 h=>af (pu (aP y1 1) h) fun y11 h=>af (pu (sliceArr 32 1 y11 none none none) h) fun y12 h=>af (appendA 1 1 y10 y12 h) fun y13 h=>af (some (y13,h)) fun y3_2 h=>af (some (y3_2,h)) fun y14 h=>af (pu (aP y1 33) h) fun y15 h=>af (ld1 y15 h) fun y16 h=>af (lW .u8 y16 h) fun y17 h=>
 af (dg 1 (.int .u8 0) 1 [(0,y17)] h) fun y18 h=>af (appendA 1 1 y14 y18 h) fun y19 h=>af (some (y19,h)) fun y2_1 h=>some (y2_1,h)
theorem t67_eq (C:au) (x0:Value) (h:ai):bw prog C f52 [x0] h=t67 C x0 h:=
 fM (by kernel_rfl) (by kernel_rfl)
noncomputable def k114_2:bc:=codeK prog C (ao f80 [1,1,1]) e h (dC f80) (dC f80) iL
noncomputable def b114_4:bc:=if i=0 then (k114_2 C) e h else iL i e h
noncomputable def t114 (C:au) (x0:Value) (h:ai):bc:=
 af (some (.int .i64 0,h)) fun y2 h=>af (some (.int .i64 0,h)) fun y3 h=>af (some (x0,h)) fun y6 h=>af (pu (lenL y6) h) fun y7 h=>af (some (.int .i64 0,h)) fun y8 h=>fe (iter (codeA prog C (ao f80 [1,1,0,1,0,0])) aD (aK 18 (up (bs [x0]) [(2,y2),(3,y3),(6,y6),(7,y7),(8,y8)])) h) (dC f80) (b114_4 C)
noncomputable def r7 (_:au) (x:fL) (h:ai):bc:=
 af (some (x 3,h)) fun y17 h=>af (some (y17,h)) fun y2 h=>some (y2,h)
noncomputable def lU (_:au) (x:fL) (h:ai):eI:=
 af (pu (aF prog .lss 3 (x 8) (x 7)) h) fun y9 h=>(match y9 with
 | .bool true=>af (pu (idxS 1 (x 6) (x 8)) h) fun y10 h=>af (ld1 y10 h) fun y11 h=>af (some (y11,h)) fun y5 h=>af (some (y5,h)) fun y12 h=>af (some (x 3,h)) fun y13 h=>af (pu (aF prog .neq 3 y12 y13) h) fun y14 h=>(match y14 with
 | .bool true=>af (some (y5,h)) fun y15 h=>af (some (y15,h)) fun y2 h=>some (.ret,(aK 18 (up x [(2,y2),(5,y5),(9,y9),(10,y10),(11,y11),(12,y12),(13,y13),(14,y14),(15,y15)])),h)
 | .bool false=>af (pu (aF prog .add 3 (x 8) (.int .i64 1)) h) fun y16 h=>af (some (y16,h)) fun y8 h=>some (.normal,(aK 18 (up x [(5,y5),(8,y8),(9,y9),(10,y10),(11,y11),(12,y12),(13,y13),(14,y14),(16,y16)])),h)
 |_=>none)
 | .bool false=>some (.exit 0,(aK 18 (up x [(9,y9)])),h)
 |_=>none)
theorem t114_eq (C:au) (x0:Value) (h:ai):bw prog C f80 [x0] h=t114 C x0 h:=
 fM (by kernel_rfl) (by kernel_rfl)
theorem AJ:k114_2 C (aK 18 x) h=r7 C x h:=
 uJ (T:=r7 C) (fun x h=>by kernel_rfl) x h
theorem tO:codeA prog C (ao f80 [1,1,0,1,0,0]) (aK 18 x) h=lU C x h:=
 aA (T:=lU C) (fun x h=>by kernel_rfl) x h
noncomputable def t115 (C:au) (x0 x1:Value) (h:ai):bc:=
 af (some (.int .i64 0,h)) fun _ h=>af (some (x0,h)) fun y7 h=>af (C 99 [y7] h) fun y8 h=>af (some (y8,h)) fun y5 h=>af (some (x1,h)) fun y9 h=>af (C 99 [y9] h) fun y10 h=>af (some (y10,h)) fun y6 h=>af (some (y5,h)) fun y11 h=>(match y11 with
 | .bool true=>af (some (y6,h)) fun y12 h=>(match y12 with
 | .bool true=>af (some (.int .i64 0,h)) fun y4_1 h=>some (y4_1,h)
 | .bool false=>af (some ((.int .i64 (-1)),h)) fun y4_1 h=>some (y4_1,h)
 |_=>none)
 | .bool false=>af (some (y6,h)) fun y13 h=>(match y13 with
 | .bool true=>af (some (.int .i64 1,h)) fun y4_1 h=>some (y4_1,h)
 | .bool false=>af (some (x0,h)) fun y14 h=>af (some (x1,h)) fun y15 h=>af (pu (aF prog .lss 32 y14 y15) h) fun y16 h=>(match y16 with
 | .bool true=>af (some ((.int .i64 (-1)),h)) fun y4_1 h=>some (y4_1,h)
 | .bool false=>af (some (x0,h)) fun y17 h=>af (some (x1,h)) fun y18 h=>af (pu (aF prog .gtr 32 y17 y18) h) fun y19 h=>(match y19 with
 | .bool true=>af (some (.int .i64 1,h)) fun y4_1 h=>some (y4_1,h)
 | .bool false=>af (some (.int .i64 0,h)) fun y4_1 h=>some (y4_1,h)
 |_=>none)
 |_=>none)
 |_=>none)
 |_=>none)
theorem t115_eq (C:au) (x0 x1:Value) (h:ai):bw prog C f81 [x0,x1] h=t115 C x0 x1 h:=
 fM (by kernel_rfl) (by kernel_rfl)
noncomputable def t116 (C:au) (x0 x1:Value) (h:ai):bc:=
 af (some (.int .i64 0,h)) fun _ h=>af (some (x0,h)) fun y7 h=>af (C 100 [y7] h) fun y8 h=>af (some (y8,h)) fun y5 h=>af (some (x1,h)) fun y9 h=>af (C 100 [y9] h) fun y10 h=>af (some (y10,h)) fun y6 h=>af (some (y5,h)) fun y11 h=>(match y11 with
 | .bool true=>af (some (y6,h)) fun y12 h=>(match y12 with
 | .bool true=>af (some (.int .i64 0,h)) fun y4_1 h=>some (y4_1,h)
 | .bool false=>af (some ((.int .i64 (-1)),h)) fun y4_1 h=>some (y4_1,h)
 |_=>none)
 | .bool false=>af (some (y6,h)) fun y13 h=>(match y13 with
 | .bool true=>af (some (.int .i64 1,h)) fun y4_1 h=>some (y4_1,h)
 | .bool false=>af (some (x0,h)) fun y14 h=>af (some (x1,h)) fun y15 h=>af (pu (aF prog .lss 3 y14 y15) h) fun y16 h=>(match y16 with
 | .bool true=>af (some ((.int .i64 (-1)),h)) fun y4_1 h=>some (y4_1,h)
 | .bool false=>af (some (x0,h)) fun y17 h=>af (some (x1,h)) fun y18 h=>af (pu (aF prog .gtr 3 y17 y18) h) fun y19 h=>(match y19 with
 | .bool true=>af (some (.int .i64 1,h)) fun y4_1 h=>some (y4_1,h)
 | .bool false=>af (some (.int .i64 0,h)) fun y4_1 h=>some (y4_1,h)
 |_=>none)
 |_=>none)
 |_=>none)
 |_=>none)
theorem t116_eq (C:au) (x0 x1:Value) (h:ai):bw prog C f82 [x0,x1] h=t116 C x0 x1 h:=
 fM (by kernel_rfl) (by kernel_rfl)
noncomputable def t137 (_:au) (x0:Value) (h:ai):bc:=
 af (some (.bool false,h)) fun _ h=>af (some (x0,h)) fun y3 h=>af (some (x0,h)) fun y4 h=>af (pu (aF prog .neq 32 y3 y4) h) fun y5 h=>af (some (y5,h)) fun y2_1 h=>some (y2_1,h)
theorem t137_eq (C:au) (x0:Value) (h:ai):bw prog C f99 [x0] h=t137 C x0 h:=
 fM (by kernel_rfl) (by kernel_rfl)
noncomputable def t138 (_:au) (x0:Value) (h:ai):bc:=
 af (some (.bool false,h)) fun _ h=>af (some (x0,h)) fun y3 h=>af (some (x0,h)) fun y4 h=>af (pu (aF prog .neq 3 y3 y4) h) fun y5 h=>af (some (y5,h)) fun y2_1 h=>some (y2_1,h)
theorem t138_eq (C:au) (x0:Value) (h:ai):bw prog C f100 [x0] h=t138 C x0 h:=
 fM (by kernel_rfl) (by kernel_rfl)
end
section
variable (C:au) (i:Nat) (x:fL) (e:aX) (h:ai)
noncomputable def k109_2:bc:=codeK prog C (ao f71 [1,1,1]) e h (dC f71) (dC f71) iL
noncomputable def b109_3:bc:=if i=0 then (k109_2 C) e h else iL i e h
noncomputable def t109 (C:au) (x0:Value) (h:ai):bc:=
 af (some (.int .i64 0,h)) fun y2 h=>af (some (.int .i64 1,h)) fun y3 h=>fe (iter (codeA prog C (ao f71 [1,1,0,0,0])) aD (aK 11 (up (bs [x0]) [(2,y2),(3,y3)])) h) (dC f71) (b109_3 C)
noncomputable def rZ (_:au) (x:fL) (h:ai):bc:=
 af (some (x 3,h)) fun y10 h=>af (some (y10,h)) fun y2 h=>some (y2,h)
noncomputable def np (_:au) (x:fL) (h:ai):eI:=
 af (some (x 3,h)) fun y4 h=>af (pu (aF prog .mul 3 (.int .i64 2) y4) h) fun y5 h=>af (some (x 0,h)) fun y6 h=>af (pu (aF prog .lss 3 y5 y6) h) fun y7 h=>(match y7 with
 | .bool true=>af (some (x 3,h)) fun y8 h=>af (pu (aF prog .mul 3 y8 (.int .i64 2)) h) fun y9 h=>af (some (y9,h)) fun y3 h=>some (.normal,(aK 11 (up x [(3,y3),(4,y4),(5,y5),(6,y6),(7,y7),(8,y8),(9,y9)])),h)
 | .bool false=>some (.exit 0,(aK 11 (up x [(4,y4),(5,y5),(6,y6),(7,y7)])),h)
 |_=>none)
theorem t109_eq (C:au) (x0:Value) (h:ai):bw prog C f71 [x0] h=t109 C x0 h:=
 fM (by kernel_rfl) (by kernel_rfl)
theorem AF:k109_2 C (aK 11 x) h=rZ C x h:=
 uJ (T:=rZ C) (fun x h=>by kernel_rfl) x h
theorem vz:codeA prog C (ao f71 [1,1,0,0,0]) (aK 11 x) h=np C x h:=
 aA (T:=np C) (fun x h=>by kernel_rfl) x h
end
section
variable (C:au) (i:Nat) (x:fL) (e:aX) (h:ai)
noncomputable def t121 (_:au) (h:ai):bc:=
 af (some (.pointer none,h)) fun _ h=>af (pu (fZ (List.replicate 8 (.int .u32 0)) [(0,1,.int .u32 1779033703),(1,1,.int .u32 3144134277),(2,1,.int .u32 1013904242),(3,1,.int .u32 2773480762),(4,1,.int .u32 1359893119),(5,1,.int .u32 2600822924),(6,1,.int .u32 528734635),(7,1,.int .u32 1541459225)]) h) fun y1 h=>af (pu (fZ zlit4 [(0,8,y1)]) h) fun y2 h=>af (box y2 h) fun y3 h=>af (some (y3,h)) fun y0_1 h=>some (y0_1,h)
theorem t121_eq (C:au) (h:ai):bw prog C f95 [] h=t121 C h:=
 fM (by kernel_rfl) (by kernel_rfl)
noncomputable def b122_2 (_:au) (i:Nat) (e:aX) (h:ai):bc:=if i=0 then (dC f96) e h else iL i e h
noncomputable def t122 (C:au) (x0 x1:Value) (h:ai):bc:=
 af (some (x0,h)) fun y6 h=>af (pu (aF prog .eql 142 y6 (.pointer none)) h) fun y7 h=>(match y7 with
 | .bool true=>some (.tuple #[],h)
 | .bool false=>fe (iter (codeA prog C (ao f96 [1,0,0])) aD (aK 40 (up (bs [x0,x1]) [(6,y6),(7,y7)])) h) (dC f96) (b122_2 C)
 |_=>none)
noncomputable def pV:eI:=
 af (some (x 1,h)) fun y8 h=>af (pu (lenL y8) h) fun y9 h=>af (pu (aF prog .gtr 3 y9 (.int .i64 0)) h) fun y10 h=>(match y10 with
 | .bool true=>af (some (x 0,h)) fun y11 h=>af (pu (nilCheckA y11) h) fun y12 h=>af (pu (aP y12 72) h) fun y13 h=>af (ld1 y13 h) fun y14 h=>af (pu (aF prog .rem 3 y14 (.int .i64 64)) h) fun y15 h=>af (some (y15,h)) fun y4 h=>af (some (x 0,h)) fun y16 h=>af (pu (nilCheckA y16) h) fun y17 h=>af (pu (aP y17 8) h) fun y18 h=>af (some (y4,h)) fun y19 h=>af (pu (sliceArr 64 1 y18 (some y19) none none) h) fun y20 h=>af (some (x 1,h)) fun y21 h=>af (tC 1 y20 y21 h) fun y22 h=>af (some (y22,h)) fun y5 h=>af (some (x 0,h)) fun y23 h=>af (pu (nilCheckA y23) h) fun y24 h=>af (pu (aP y24 72) h) fun y25 h=>af (ld1 y25 h) fun y26 h=>af (some (y5,h)) fun y27 h=>
 af (pu (aF prog .add 3 y26 y27) h) fun y28 h=>af (pu (nilCheckA y23) h) fun y29 h=>af (pu (aP y29 72) h) fun y30 h=>af (eY 1 y30 y28 h) fun _ h=>af (some (x 1,h)) fun y31 h=>af (some (y5,h)) fun y32 h=>af (pu (nT 1 y31 (some y32) none none) h) fun y33 h=>af (some (y33,h)) fun y1 h=>af (some (y4,h)) fun y34 h=>af (some (y5,h)) fun y35 h=>af (pu (aF prog .add 3 y34 y35) h) fun y36 h=>af (pu (aF prog .eql 3 y36 (.int .i64 64)) h) fun y37 h=>(match y37 with
 | .bool true=>af (some (x 0,h)) fun y38 h=>af (C 116 [y38] h) fun y39 h=>some (.normal,(aK 40 (up x [(1,y1),(4,y4),(5,y5),(8,y8),(9,y9),(10,y10),(11,y11),(12,y12),(13,y13),(14,y14),(15,y15),(16,y16),(17,y17),(18,y18),(19,y19),(20,y20),(21,y21),(22,y22),(23,y23),(24,y24),(25,y25),(26,y26),(27,y27),(28,y28),(29,y29),(30,y30),(31,y31),(32,y32),(33,y33),(34,y34),(35,y35),(36,y36),(37,y37),(38,y38),(39,y39)])),h)
 | .bool false=>some (.normal,(aK 40 (up x [(1,y1),(4,y4),(5,y5),(8,y8),(9,y9),(10,y10),(11,y11),(12,y12),(13,y13),(14,y14),(15,y15),(16,y16),(17,y17),(18,y18),(19,y19),(20,y20),(21,y21),(22,y22),(23,y23),(24,y24),(25,y25),(26,y26),(27,y27),(28,y28),(29,y29),(30,y30),(31,y31),(32,y32),(33,y33),(34,y34),(35,y35),(36,y36),(37,y37)])),h)
 |_=>none)
 | .bool false=>some (.exit 0,(aK 40 (up x [(8,y8),(9,y9),(10,y10)])),h)
 |_=>none)
theorem t122_eq (C:au) (x0 x1:Value) (h:ai):bw prog C f96 [x0,x1] h=t122 C x0 x1 h:=
 fM (by kernel_rfl) (by kernel_rfl)
theorem yt:codeA prog C (ao f96 [1,0,0]) (aK 40 x) h=pV C x h:=
 aA (T:=pV C) (fun x h=>by kernel_rfl) x h
noncomputable def k123_9:bc:=codeK prog C (ao f97 [1,1,1,1,1,1,1,1]) e h (dC f97) (dC f97) iL
noncomputable def b123_11:bc:=if i=0 then (k123_9 C) e h else iL i e h
noncomputable def k123_14:bc:=codeK prog C (ao f97 [1,1,1,1,1,1,1,1,1,1,1]) e h (dC f97) (dC f97) iL
noncomputable def b123_16:bc:=if i=2 then (k123_14 C) e h else iL i e h
noncomputable def t123 (C:au) (x0:Value) (h:ai):bc:=
 af (eH (List.replicate 32 (.int .u8 0)) h) fun y2 h=>af (some (x0,h)) fun y10 h=>af (pu (aF prog .eql 142 y10 (.pointer none)) h) fun y11 h=>(match y11 with
 | .bool true=>af (pu (fZ (List.replicate 32 (.int .u8 0)) []) h) fun y12 h=>af (eY 32 y2 y12 h) fun _ h=>resultsA prog f97.results.toList (aK 66 (up (bs [x0]) [(2,y2),(10,y10),(11,y11),(12,y12)])) h
 | .bool false=>af (some (x0,h)) fun y13 h=>af (pu (nilCheckA y13) h) fun y14 h=>af (du 73 y14 h) fun y15 h=>af (eH zlit4 h) fun y3 h=>af (eY 73 y3 y15 h) fun _ h=>af (eH (List.replicate 72 (.int .u8 0)) h) fun y4 h=>af (pu (idxA 72 1 y4 (.int .i64 0)) h) fun y16 h=>af (eY 1 y16 (.int .u8 128) h) fun _ h=>af (some (x0,h)) fun y17 h=>af (pu (nilCheckA y17) h) fun y18 h=>af (pu (aP y18 72) h) fun y19 h=>af (ld1 y19 h) fun y20 h=>af (pu (aF prog .add 3 y20 (.int .i64 8)) h) fun y21 h=>af (pu (aF prog .rem 3 y21 (.int .i64 64)) h) fun y22 h=>af (pu (aF prog .sub 3 (.int .i64 64) y22) h) fun y23 h=>af (some (y23,h)) fun y5 h=>af (some (x0,h)) fun y24 h=>af (pu (nilCheckA y24) h) fun y25 h=>
 af (pu (aP y25 72) h) fun y26 h=>af (ld1 y26 h) fun y27 h=>af (lW .u64 y27 h) fun y28 h=>af (pu (aF prog .mul 32 y28 (.int .u64 8)) h) fun y29 h=>af (some (y29,h)) fun y6 h=>af (some (.int .i64 0,h)) fun y30 h=>fe (iter (codeA prog C (ao f97 [1,1,1,1,1,1,1,0,1,0,0])) aD (aK 66 (up (bs [x0]) [(2,y2),(3,y3),(4,y4),(5,y5),(6,y6),(10,y10),(11,y11),(13,y13),(14,y14),(15,y15),(16,y16),(17,y17),(18,y18),(19,y19),(20,y20),(21,y21),(22,y22),(23,y23),(24,y24),(25,y25),(26,y26),(27,y27),(28,y28),(29,y29),(30,y30)])) h) (dC f97) (b123_11 C)
 |_=>none)
noncomputable def sr:bc:=
 af (some (x 5,h)) fun y44 h=>af (pu (aF prog .add 3 y44 (.int .i64 8)) h) fun y45 h=>af (pu (sliceArr 72 1 (x 4) none (some y45) none) h) fun y46 h=>af (C 96 [x 3,y46] h) fun y47 h=>af (eH (List.replicate 32 (.int .u8 0)) h) fun y8 h=>af (some (.int .i64 0,h)) fun y48 h=>fe (iter (codeA prog C (ao f97 [1,1,1,1,1,1,1,1,1,1,0,1,0,0])) aD (aK 66 (up x [(8,y8),(44,y44),(45,y45),(46,y46),(47,y47),(48,y48)])) h) (dC f97) (b123_16 C)
noncomputable def hZ (_:au) (x:fL) (h:ai):eI:=
 af (pu (aF prog .lss 3 (x 30) (.int .i64 8)) h) fun y31 h=>(match y31 with
 | .bool true=>af (some (x 30,h)) fun y32 h=>af (some (y32,h)) fun y7 h=>af (some (x 5,h)) fun y33 h=>af (some (y7,h)) fun y34 h=>af (pu (aF prog .add 3 y33 y34) h) fun y35 h=>af (some (x 6,h)) fun y36 h=>af (some (y7,h)) fun y37 h=>af (pu (aF prog .mul 3 (.int .i64 8) y37) h) fun y38 h=>af (pu (aF prog .sub 3 (.int .i64 56) y38) h) fun y39 h=>af (pu (aF prog .shr 32 y36 y39) h) fun y40 h=>af (lW .u8 y40 h) fun y41 h=>af (pu (idxA 72 1 (x 4) y35) h) fun y42 h=>af (eY 1 y42 y41 h) fun _ h=>af (pu (aF prog .add 3 (x 30) (.int .i64 1)) h) fun y43 h=>af (some (y43,h)) fun y30 h=>
 some (.normal,(aK 66 (up x [(7,y7),(30,y30),(31,y31),(32,y32),(33,y33),(34,y34),(35,y35),(36,y36),(37,y37),(38,y38),(39,y39),(40,y40),(41,y41),(42,y42),(43,y43)])),h)
 | .bool false=>some (.exit 0,(aK 66 (up x [(31,y31)])),h)
 |_=>none)
noncomputable def pZ (_:au) (x:fL) (h:ai):bc:=
 af (du 32 (x 8) h) fun y65 h=>af (eY 32 (x 2) y65 h) fun _ h=>resultsA prog f97.results.toList (aK 66 (up x [(65,y65)])) h
noncomputable def fG (_:au) (x:fL) (h:ai):eI:=
 af (pu (aF prog .lss 3 (x 48) (.int .i64 32)) h) fun y49 h=>(match y49 with
 | .bool true=>af (some (x 48,h)) fun y50 h=>af (some (y50,h)) fun y9 h=>af (some (y9,h)) fun y51 h=>af (some (y9,h)) fun y52 h=>af (pu (aF prog .quo 3 y52 (.int .i64 4)) h) fun y53 h=>af (pu (aP (x 3) 0) h) fun y54 h=>af (pu (idxA 8 1 y54 y53) h) fun y55 h=>af (ld1 y55 h) fun y56 h=>af (some (y9,h)) fun y57 h=>af (pu (aF prog .rem 3 y57 (.int .i64 4)) h) fun y58 h=>af (pu (aF prog .mul 3 (.int .i64 8) y58) h) fun y59 h=>af (pu (aF prog .sub 3 (.int .i64 24) y59) h) fun y60 h=>af (pu (aF prog .shr 139 y56 y60) h) fun y61 h=>af (lW .u8 y61 h) fun y62 h=>af (pu (idxA 32 1 (x 8) y51) h) fun y63 h=>af (eY 1 y63 y62 h) fun _ h=>af (pu (aF prog .add 3 (x 48) (.int .i64 1)) h) fun y64 h=>
 af (some (y64,h)) fun y48 h=>some (.normal,(aK 66 (up x [(9,y9),(48,y48),(49,y49),(50,y50),(51,y51),(52,y52),(53,y53),(54,y54),(55,y55),(56,y56),(57,y57),(58,y58),(59,y59),(60,y60),(61,y61),(62,y62),(63,y63),(64,y64)])),h)
 | .bool false=>some (.exit 2,(aK 66 (up x [(49,y49)])),h)
 |_=>none)
theorem t123_eq (C:au) (x0:Value) (h:ai):bw prog C f97 [x0] h=t123 C x0 h:=
 fM (by kernel_rfl) (by kernel_rfl)
theorem AT:k123_9 C (aK 66 x) h=sr C x h:=
 uJ (T:=sr C) (fun x h=>by kernel_rfl) x h
theorem oZ:codeA prog C (ao f97 [1,1,1,1,1,1,1,0,1,0,0]) (aK 66 x) h=hZ C x h:=
 aA (T:=hZ C) (fun x h=>by kernel_rfl) x h
theorem Ac:k123_14 C (aK 66 x) h=pZ C x h:=
 uJ (T:=pZ C) (fun x h=>by kernel_rfl) x h
theorem mn:codeA prog C (ao f97 [1,1,1,1,1,1,1,1,1,1,0,1,0,0]) (aK 66 x) h=fG C x h:=
 aA (T:=fG C) (fun x h=>by kernel_rfl) x h
noncomputable def k149_1:bc:=codeK prog C (ao f116 [1,1]) e h (dC f116) (dC f116) iL
noncomputable def b149_3:bc:=if i=0 then (k149_1 C) e h else iL i e h
noncomputable def k149_4:bc:=codeK prog C (ao f116 [1,1,1]) e h (dC f116) (dC f116) iL
noncomputable def b149_6:bc:=if i=2 then (k149_4 C) e h else iL i e h
noncomputable def k149_14:bc:=codeK prog C (ao f116 [1,1,1,1,1,1]) e h (dC f116) (dC f116) iL
noncomputable def b149_16:bc:=if i=4 then (k149_14 C) e h else iL i e h
noncomputable def b149_25 (_:au) (i:Nat) (e:aX) (h:ai):bc:=if i=6 then (dC f116) e h else iL i e h
noncomputable def t149 (C:au) (x0:Value) (h:ai):bc:=
 af (eH (List.replicate 64 (.int .u32 0)) h) fun y2 h=>af (some (.int .i64 0,h)) fun y24 h=>fe (iter (codeA prog C (ao f116 [1,0,1,0,0])) aD (aK 241 (up (bs [x0]) [(2,y2),(24,y24)])) h) (dC f116) (b149_3 C)
noncomputable def sK:bc:=
 af (some (.int .i64 16,h)) fun y4 h=>fe (iter (codeA prog C (ao f116 [1,1,0,1,0,0])) aD (aK 241 (up x [(4,y4)])) h) (dC f116) (b149_6 C)
noncomputable def nI (_:au) (x:fL) (h:ai):eI:=
 af (pu (aF prog .lss 3 (x 24) (.int .i64 16)) h) fun y25 h=>(match y25 with
 | .bool true=>af (some (x 24,h)) fun y26 h=>af (some (y26,h)) fun y3 h=>af (some (y3,h)) fun y27 h=>af (some (x 0,h)) fun y28 h=>af (some (y3,h)) fun y29 h=>af (pu (aF prog .mul 3 (.int .i64 4) y29) h) fun y30 h=>af (pu (nilCheckA y28) h) fun y31 h=>af (pu (aP y31 8) h) fun y32 h=>af (pu (idxA 64 1 y32 y30) h) fun y33 h=>af (ld1 y33 h) fun y34 h=>af (lW .u32 y34 h) fun y35 h=>af (pu (aF prog .shl 139 y35 (.int .u64 24)) h) fun y36 h=>af (some (x 0,h)) fun y37 h=>af (some (y3,h)) fun y38 h=>af (pu (aF prog .mul 3 (.int .i64 4) y38) h) fun y39 h=>af (pu (aF prog .add 3 y39 (.int .i64 1)) h) fun y40 h=>af (pu (nilCheckA y37) h) fun y41 h=>af (pu (aP y41 8) h) fun y42 h=>
 af (pu (idxA 64 1 y42 y40) h) fun y43 h=>af (ld1 y43 h) fun y44 h=>af (lW .u32 y44 h) fun y45 h=>af (pu (aF prog .shl 139 y45 (.int .u64 16)) h) fun y46 h=>af (pu (aF prog .or 139 y36 y46) h) fun y47 h=>af (some (x 0,h)) fun y48 h=>af (some (y3,h)) fun y49 h=>af (pu (aF prog .mul 3 (.int .i64 4) y49) h) fun y50 h=>af (pu (aF prog .add 3 y50 (.int .i64 2)) h) fun y51 h=>af (pu (nilCheckA y48) h) fun y52 h=>af (pu (aP y52 8) h) fun y53 h=>af (pu (idxA 64 1 y53 y51) h) fun y54 h=>af (ld1 y54 h) fun y55 h=>af (lW .u32 y55 h) fun y56 h=>af (pu (aF prog .shl 139 y56 (.int .u64 8)) h) fun y57 h=>af (pu (aF prog .or 139 y47 y57) h) fun y58 h=>af (some (x 0,h)) fun y59 h=>
 af (some (y3,h)) fun y60 h=>af (pu (aF prog .mul 3 (.int .i64 4) y60) h) fun y61 h=>af (pu (aF prog .add 3 y61 (.int .i64 3)) h) fun y62 h=>af (pu (nilCheckA y59) h) fun y63 h=>af (pu (aP y63 8) h) fun y64 h=>af (pu (idxA 64 1 y64 y62) h) fun y65 h=>af (ld1 y65 h) fun y66 h=>af (lW .u32 y66 h) fun y67 h=>af (pu (aF prog .or 139 y58 y67) h) fun y68 h=>af (pu (idxA 64 1 (x 2) y27) h) fun y69 h=>af (eY 1 y69 y68 h) fun _ h=>af (pu (aF prog .add 3 (x 24) (.int .i64 1)) h) fun y70 h=>af (some (y70,h)) fun y24 h=>
 some (.normal,(aK 241 (up x [(3,y3),(24,y24),(25,y25),(26,y26),(27,y27),(28,y28),(29,y29),(30,y30),(31,y31),(32,y32),(33,y33),(34,y34),(35,y35),(36,y36),(37,y37),(38,y38),(39,y39),(40,y40),(41,y41),(42,y42),(43,y43),(44,y44),(45,y45),(46,y46),(47,y47),(48,y48),(49,y49),(50,y50),(51,y51),(52,y52),(53,y53),(54,y54),(55,y55),(56,y56),(57,y57),(58,y58),(59,y59),(60,y60),(61,y61),(62,y62),(63,y63),(64,y64),(65,y65),(66,y66),(67,y67),(68,y68),(69,y69),(70,y70)])),h)
 | .bool false=>some (.exit 0,(aK 241 (up x [(25,y25)])),h)
 |_=>none)
noncomputable def s0:bc:=
 af (some (x 0,h)) fun y114 h=>af (pu (nilCheckA y114) h) fun y115 h=>af (pu (aP y115 0) h) fun y116 h=>af (pu (idxA 8 1 y116 (.int .i64 0)) h) fun y117 h=>af (ld1 y117 h) fun y118 h=>af (some (x 0,h)) fun y119 h=>af (pu (nilCheckA y119) h) fun y120 h=>af (pu (aP y120 0) h) fun y121 h=>af (pu (idxA 8 1 y121 (.int .i64 1)) h) fun y122 h=>af (ld1 y122 h) fun y123 h=>af (some (x 0,h)) fun y124 h=>af (pu (nilCheckA y124) h) fun y125 h=>af (pu (aP y125 0) h) fun y126 h=>af (pu (idxA 8 1 y126 (.int .i64 2)) h) fun y127 h=>af (ld1 y127 h) fun y128 h=>af (some (x 0,h)) fun y129 h=>af (pu (nilCheckA y129) h) fun y130 h=>af (pu (aP y130 0) h) fun y131 h=>
 af (pu (idxA 8 1 y131 (.int .i64 3)) h) fun y132 h=>af (ld1 y132 h) fun y133 h=>af (some (y118,h)) fun y9 h=>af (some (y123,h)) fun y10 h=>af (some (y128,h)) fun y11 h=>af (some (y133,h)) fun y12 h=>af (some (x 0,h)) fun y134 h=>af (pu (nilCheckA y134) h) fun y135 h=>af (pu (aP y135 0) h) fun y136 h=>af (pu (idxA 8 1 y136 (.int .i64 4)) h) fun y137 h=>af (ld1 y137 h) fun y138 h=>af (some (x 0,h)) fun y139 h=>af (pu (nilCheckA y139) h) fun y140 h=>af (pu (aP y140 0) h) fun y141 h=>af (pu (idxA 8 1 y141 (.int .i64 5)) h) fun y142 h=>af (ld1 y142 h) fun y143 h=>af (some (x 0,h)) fun y144 h=>af (pu (nilCheckA y144) h) fun y145 h=>af (pu (aP y145 0) h) fun y146 h=>
 af (pu (idxA 8 1 y146 (.int .i64 6)) h) fun y147 h=>af (ld1 y147 h) fun y148 h=>af (some (x 0,h)) fun y149 h=>af (pu (nilCheckA y149) h) fun y150 h=>af (pu (aP y150 0) h) fun y151 h=>af (pu (idxA 8 1 y151 (.int .i64 7)) h) fun y152 h=>af (ld1 y152 h) fun y153 h=>af (some (y138,h)) fun y13 h=>af (some (y143,h)) fun y14 h=>af (some (y148,h)) fun y15 h=>af (some (y153,h)) fun y16 h=>af (some (.int .i64 0,h)) fun y154 h=>
 fe (iter (codeA prog C (ao f116 [1,1,1,1,1,0,1,0,0])) aD (aK 241 (up x [(9,y9),(10,y10),(11,y11),(12,y12),(13,y13),(14,y14),(15,y15),(16,y16),(114,y114),(115,y115),(116,y116),(117,y117),(118,y118),(119,y119),(120,y120),(121,y121),(122,y122),(123,y123),(124,y124),(125,y125),(126,y126),(127,y127),(128,y128),(129,y129),(130,y130),(131,y131),(132,y132),(133,y133),(134,y134),(135,y135),(136,y136),(137,y137),(138,y138),(139,y139),(140,y140),(141,y141),(142,y142),(143,y143),(144,y144),(145,y145),(146,y146),(147,y147),(148,y148),(149,y149),(150,y150),(151,y151),(152,y152),(153,y153),(154,y154)])) h) (dC f116) (b149_16 C)
noncomputable def ma:eI:=
 af (some (x 4,h)) fun y71 h=>af (pu (aF prog .lss 3 y71 (.int .i64 64)) h) fun y72 h=>(match y72 with
 | .bool true=>af (some (x 4,h)) fun y75 h=>af (pu (aF prog .sub 3 y75 (.int .i64 15)) h) fun y76 h=>af (pu (idxA 64 1 (x 2) y76) h) fun y77 h=>af (ld1 y77 h) fun y78 h=>af (some (x 4,h)) fun y79 h=>af (pu (aF prog .sub 3 y79 (.int .i64 2)) h) fun y80 h=>af (pu (idxA 64 1 (x 2) y80) h) fun y81 h=>af (ld1 y81 h) fun y82 h=>af (some (y78,h)) fun y5 h=>af (some (y82,h)) fun y6 h=>af (some (y5,h)) fun y83 h=>af (C 123 [y83,(.int .i64 (-7))] h) fun y84 h=>af (some (y5,h)) fun y85 h=>af (C 123 [y85,(.int .i64 (-18))] h) fun y86 h=>af (pu (aF prog .xor 139 y84 y86) h) fun y87 h=>af (some (y5,h)) fun y88 h=>af (pu (aF prog .shr 139 y88 (.int .u64 3)) h) fun y89 h=>
 af (pu (aF prog .xor 139 y87 y89) h) fun y90 h=>af (some (y90,h)) fun y7 h=>af (some (y6,h)) fun y91 h=>af (C 123 [y91,(.int .i64 (-17))] h) fun y92 h=>af (some (y6,h)) fun y93 h=>af (C 123 [y93,(.int .i64 (-19))] h) fun y94 h=>af (pu (aF prog .xor 139 y92 y94) h) fun y95 h=>af (some (y6,h)) fun y96 h=>af (pu (aF prog .shr 139 y96 (.int .u64 10)) h) fun y97 h=>af (pu (aF prog .xor 139 y95 y97) h) fun y98 h=>af (some (y98,h)) fun y8 h=>af (some (x 4,h)) fun y99 h=>af (some (x 4,h)) fun y100 h=>af (pu (aF prog .sub 3 y100 (.int .i64 16)) h) fun y101 h=>af (pu (idxA 64 1 (x 2) y101) h) fun y102 h=>af (ld1 y102 h) fun y103 h=>af (some (y7,h)) fun y104 h=>
 af (pu (aF prog .add 139 y103 y104) h) fun y105 h=>af (some (x 4,h)) fun y106 h=>af (pu (aF prog .sub 3 y106 (.int .i64 7)) h) fun y107 h=>af (pu (idxA 64 1 (x 2) y107) h) fun y108 h=>af (ld1 y108 h) fun y109 h=>af (pu (aF prog .add 139 y105 y109) h) fun y110 h=>af (some (y8,h)) fun y111 h=>af (pu (aF prog .add 139 y110 y111) h) fun y112 h=>af (pu (idxA 64 1 (x 2) y99) h) fun y113 h=>af (eY 1 y113 y112 h) fun _ h=>af (some (x 4,h)) fun y73 h=>af (pu (aF prog .add 3 y73 (.int .i64 1)) h) fun y74 h=>af (some (y74,h)) fun y4 h=>
 some (.normal,(aK 241 (up x [(4,y4),(5,y5),(6,y6),(7,y7),(8,y8),(71,y71),(72,y72),(73,y73),(74,y74),(75,y75),(76,y76),(77,y77),(78,y78),(79,y79),(80,y80),(81,y81),(82,y82),(83,y83),(84,y84),(85,y85),(86,y86),(87,y87),(88,y88),(89,y89),(90,y90),(91,y91),(92,y92),(93,y93),(94,y94),(95,y95),(96,y96),(97,y97),(98,y98),(99,y99),(100,y100),(101,y101),(102,y102),(103,y103),(104,y104),(105,y105),(106,y106),(107,y107),(108,y108),(109,y109),(110,y110),(111,y111),(112,y112),(113,y113)])),h)
 | .bool false=>some (.exit 2,(aK 241 (up x [(71,y71),(72,y72)])),h)
 |_=>none)
noncomputable def qt:bc:=
 af (some (x 9,h)) fun y216 h=>af (some (x 10,h)) fun y217 h=>af (some (x 11,h)) fun y218 h=>af (some (x 12,h)) fun y219 h=>af (some (x 13,h)) fun y220 h=>af (some (x 14,h)) fun y221 h=>af (some (x 15,h)) fun y222 h=>af (some (x 16,h)) fun y223 h=>af (pu (fZ (List.replicate 8 (.int .u32 0)) [(0,1,y216),(1,1,y217),(2,1,y218),(3,1,y219),(4,1,y220),(5,1,y221),(6,1,y222),(7,1,y223)]) h) fun y224 h=>af (some (.int .i64 0,h)) fun y225 h=>fe (iter (codeA prog C (ao f116 [1,1,1,1,1,1,1,0,0])) aD (aK 241 (up x [(216,y216),(217,y217),(218,y218),(219,y219),(220,y220),(221,y221),(222,y222),(223,y223),(224,y224),(225,y225)])) h) (dC f116) (b149_25 C)
noncomputable def iW:eI:=
 af (pu (aF prog .lss 3 (x 154) (.int .i64 64)) h) fun y155 h=>(match y155 with
 | .bool true=>af (some (x 154,h)) fun y156 h=>af (some (y156,h)) fun y17 h=>af (some (x 13,h)) fun y157 h=>af (C 123 [y157,(.int .i64 (-6))] h) fun y158 h=>af (some (x 13,h)) fun y159 h=>af (C 123 [y159,(.int .i64 (-11))] h) fun y160 h=>af (pu (aF prog .xor 139 y158 y160) h) fun y161 h=>af (some (x 13,h)) fun y162 h=>af (C 123 [y162,(.int .i64 (-25))] h) fun y163 h=>af (pu (aF prog .xor 139 y161 y163) h) fun y164 h=>af (some (y164,h)) fun y18 h=>af (some (x 16,h)) fun y165 h=>af (some (y18,h)) fun y166 h=>af (pu (aF prog .add 139 y165 y166) h) fun y167 h=>af (some (x 15,h)) fun y168 h=>af (some (x 13,h)) fun y169 h=>af (some (x 14,h)) fun y170 h=>af (some (x 15,h)) fun y171 h=>
 af (pu (aF prog .xor 139 y170 y171) h) fun y172 h=>af (pu (aF prog .and 139 y169 y172) h) fun y173 h=>af (pu (aF prog .xor 139 y168 y173) h) fun y174 h=>af (pu (aF prog .add 139 y167 y174) h) fun y175 h=>af (some (y17,h)) fun y176 h=>af (pu (idxA 64 1 (ptr 3 0) y176) h) fun y177 h=>af (ld1 y177 h) fun y178 h=>af (pu (aF prog .add 139 y175 y178) h) fun y179 h=>af (some (y17,h)) fun y180 h=>af (pu (idxA 64 1 (x 2) y180) h) fun y181 h=>af (ld1 y181 h) fun y182 h=>af (pu (aF prog .add 139 y179 y182) h) fun y183 h=>af (some (y183,h)) fun y19 h=>af (some (x 9,h)) fun y184 h=>af (C 123 [y184,(.int .i64 (-2))] h) fun y185 h=>af (some (x 9,h)) fun y186 h=>
 af (C 123 [y186,(.int .i64 (-13))] h) fun y187 h=>af (pu (aF prog .xor 139 y185 y187) h) fun y188 h=>af (some (x 9,h)) fun y189 h=>af (C 123 [y189,(.int .i64 (-22))] h) fun y190 h=>af (pu (aF prog .xor 139 y188 y190) h) fun y191 h=>af (some (y191,h)) fun y20 h=>af (some (y20,h)) fun y192 h=>af (some (x 9,h)) fun y193 h=>af (some (x 10,h)) fun y194 h=>af (pu (aF prog .and 139 y193 y194) h) fun y195 h=>af (some (x 11,h)) fun y196 h=>af (some (x 9,h)) fun y197 h=>af (some (x 10,h)) fun y198 h=>af (pu (aF prog .or 139 y197 y198) h) fun y199 h=>af (pu (aF prog .and 139 y196 y199) h) fun y200 h=>af (pu (aF prog .or 139 y195 y200) h) fun y201 h=>
 af (pu (aF prog .add 139 y192 y201) h) fun y202 h=>af (some (y202,h)) fun y21 h=>af (some (x 15,h)) fun y203 h=>af (some (x 14,h)) fun y204 h=>af (some (x 13,h)) fun y205 h=>af (some (x 12,h)) fun y206 h=>af (some (y19,h)) fun y207 h=>af (pu (aF prog .add 139 y206 y207) h) fun y208 h=>af (some (y203,h)) fun y16 h=>af (some (y204,h)) fun y15 h=>af (some (y205,h)) fun y14 h=>af (some (y208,h)) fun y13 h=>af (some (x 11,h)) fun y209 h=>af (some (x 10,h)) fun y210 h=>af (some (x 9,h)) fun y211 h=>af (some (y19,h)) fun y212 h=>af (some (y21,h)) fun y213 h=>af (pu (aF prog .add 139 y212 y213) h) fun y214 h=>af (some (y209,h)) fun y12 h=>af (some (y210,h)) fun y11 h=>
 af (some (y211,h)) fun y10 h=>af (some (y214,h)) fun y9 h=>af (pu (aF prog .add 3 (x 154) (.int .i64 1)) h) fun y215 h=>af (some (y215,h)) fun y154 h=>
 some (.normal,(aK 241 (up x [(9,y9),(10,y10),(11,y11),(12,y12),(13,y13),(14,y14),(15,y15),(16,y16),(17,y17),(18,y18),(19,y19),(20,y20),(21,y21),(154,y154),(155,y155),(156,y156),(157,y157),(158,y158),(159,y159),(160,y160),(161,y161),(162,y162),(163,y163),(164,y164),(165,y165),(166,y166),(167,y167),(168,y168),(169,y169),(170,y170),(171,y171),(172,y172),(173,y173),(174,y174),(175,y175),(176,y176),(177,y177),(178,y178),(179,y179),(180,y180),(181,y181),(182,y182),(183,y183),(184,y184),(185,y185),(186,y186),(187,y187),(188,y188),(189,y189),(190,y190),(191,y191),(192,y192),(193,y193),(194,y194),(195,y195),(196,y196),(197,y197),(198,y198),(199,y199),(200,y200),(201,y201),(202,y202),(203,y203),(204,y204),(205,y205),(206,y206),(207,y207),(208,y208),(209,y209),(210,y210),(211,y211),(212,y212),(213,y213),(214,y214),(215,y215)])),h)
 | .bool false=>some (.exit 4,(aK 241 (up x [(155,y155)])),h)
 |_=>none)
noncomputable def jb (_:au) (x:fL) (h:ai):eI:=
 af (pu (aF prog .lss 3 (x 225) (.int .i64 8)) h) fun y226 h=>(match y226 with
 | .bool true=>af (some (x 225,h)) fun y227 h=>af (pu (ixA1 8 1 (x 224) (x 225)) h) fun y228 h=>af (some (y227,h)) fun y22 h=>af (some (y228,h)) fun y23 h=>af (some (x 0,h)) fun y229 h=>af (some (y22,h)) fun y230 h=>af (pu (nilCheckA y229) h) fun y231 h=>af (pu (aP y231 0) h) fun y232 h=>af (pu (idxA 8 1 y232 y230) h) fun y233 h=>af (ld1 y233 h) fun y234 h=>af (some (y23,h)) fun y235 h=>af (pu (aF prog .add 139 y234 y235) h) fun y236 h=>af (pu (nilCheckA y229) h) fun y237 h=>af (pu (aP y237 0) h) fun y238 h=>af (pu (idxA 8 1 y238 y230) h) fun y239 h=>af (eY 1 y239 y236 h) fun _ h=>af (pu (aF prog .add 3 (x 225) (.int .i64 1)) h) fun y240 h=>af (some (y240,h)) fun y225 h=>
 some (.normal,(aK 241 (up x [(22,y22),(23,y23),(225,y225),(226,y226),(227,y227),(228,y228),(229,y229),(230,y230),(231,y231),(232,y232),(233,y233),(234,y234),(235,y235),(236,y236),(237,y237),(238,y238),(239,y239),(240,y240)])),h)
 | .bool false=>some (.exit 6,(aK 241 (up x [(226,y226)])),h)
 |_=>none)
theorem t149_eq (C:au) (x0:Value) (h:ai):bw prog C f116 [x0] h=t149 C x0 h:=
 fM (by kernel_rfl) (by kernel_rfl)
theorem AU:k149_1 C (aK 241 x) h=sK C x h:=
 uJ (T:=sK C) (fun x h=>by kernel_rfl) x h
theorem vQ:codeA prog C (ao f116 [1,0,1,0,0]) (aK 241 x) h=nI C x h:=
 aA (T:=nI C) (fun x h=>by kernel_rfl) x h
theorem Ax:k149_4 C (aK 241 x) h=s0 C x h:=
 uJ (T:=s0 C) (fun x h=>by kernel_rfl) x h
theorem ux:codeA prog C (ao f116 [1,1,0,1,0,0]) (aK 241 x) h=ma C x h:=
 aA (T:=ma C) (fun x h=>by kernel_rfl) x h
theorem yI:k149_14 C (aK 241 x) h=qt C x h:=
 uJ (T:=qt C) (fun x h=>by kernel_rfl) x h
theorem qw:codeA prog C (ao f116 [1,1,1,1,1,0,1,0,0]) (aK 241 x) h=iW C x h:=
 aA (T:=iW C) (fun x h=>by kernel_rfl) x h
theorem pD:codeA prog C (ao f116 [1,1,1,1,1,1,1,0,0]) (aK 241 x) h=jb C x h:=
 aA (T:=jb C) (fun x h=>by kernel_rfl) x h
noncomputable def t159 (_:au) (x0 x1:Value) (h:ai):bc:=
 af (some (.int .u32 0,h)) fun _ h=>af (some (x1,h)) fun y6 h=>af (lW .u64 y6 h) fun y7 h=>af (pu (aF prog .and 120 y7 (.int .u64 31)) h) fun y8 h=>af (some (y8,h)) fun y5 h=>af (some (x0,h)) fun y9 h=>af (some (y5,h)) fun y10 h=>af (pu (aF prog .shl 139 y9 y10) h) fun y11 h=>af (some (x0,h)) fun y12 h=>af (some (y5,h)) fun y13 h=>af (pu (aF prog .sub 120 (.int .u64 32) y13) h) fun y14 h=>af (pu (aF prog .shr 139 y12 y14) h) fun y15 h=>af (pu (aF prog .or 139 y11 y15) h) fun y16 h=>af (some (y16,h)) fun y4_1 h=>some (y4_1,h)
theorem t159_eq (C:au) (x0 x1:Value) (h:ai):bw prog C f123 [x0,x1] h=t159 C x0 x1 h:=
 fM (by kernel_rfl) (by kernel_rfl)
noncomputable def t69 (C:au) (x0:Value) (h:ai):bc:=
 af (box x0 h) fun y1 h=>af (eH (List.replicate 32 (.int .u8 0)) h) fun y2 h=>af (du 39 y1 h) fun y7 h=>af (C 24 [y7] h) fun y8 h=>af (some (y8,h)) fun y6 h=>af (pu (extractA y6 0) h) fun y9 h=>af (pu (extractA y6 1) h) fun y10 h=>af (some (y9,h)) fun y3 h=>af (some (y10,h)) fun y4 h=>af (C 95 [] h) fun y11 h=>af (some (y11,h)) fun y5 h=>af (some (y5,h)) fun y12 h=>af (dg 1 (.int .u8 0) 1 [(0,.int .u8 0)] h) fun y13 h=>af (C 96 [y12,y13] h) fun y14 h=>af (some (y5,h)) fun y15 h=>af (some (y3,h)) fun y16 h=>af (C 96 [y15,y16] h) fun y17 h=>af (some (y5,h)) fun y18 h=>af (C 97 [y18] h) fun y19 h=>af (eY 32 y2 y19 h) fun _ h=>
 resultsA prog f74.results.toList (aK 20 (up (bs [x0]) [(1,y1),(2,y2),(3,y3),(4,y4),(5,y5),(6,y6),(7,y7),(8,y8),(9,y9),(10,y10),(11,y11),(12,y12),(13,y13),(14,y14),(15,y15),(16,y16),(17,y17),(18,y18),(19,y19)])) h
theorem t69_eq (C:au) (x0:Value) (h:ai):bw prog C f74 [x0] h=t69 C x0 h:=
 fM (by kernel_rfl) (by kernel_rfl)
noncomputable def t70 (C:au) (x0 x1:Value) (h:ai):bc:=
 af (box x0 h) fun y2 h=>af (box x1 h) fun y3 h=>af (eH (List.replicate 32 (.int .u8 0)) h) fun y4 h=>af (C 95 [] h) fun y6 h=>af (some (y6,h)) fun y5 h=>af (some (y5,h)) fun y7 h=>af (dg 1 (.int .u8 0) 1 [(0,.int .u8 1)] h) fun y8 h=>af (C 96 [y7,y8] h) fun y9 h=>af (some (y5,h)) fun y10 h=>af (pu (sliceArr 32 1 y2 none none none) h) fun y11 h=>af (C 96 [y10,y11] h) fun y12 h=>af (some (y5,h)) fun y13 h=>af (pu (sliceArr 32 1 y3 none none none) h) fun y14 h=>af (C 96 [y13,y14] h) fun y15 h=>af (some (y5,h)) fun y16 h=>af (C 97 [y16] h) fun y17 h=>af (eY 32 y4 y17 h) fun _ h=>
 resultsA prog f75.results.toList (aK 18 (up (bs [x0,x1]) [(2,y2),(3,y3),(4,y4),(5,y5),(6,y6),(7,y7),(8,y8),(9,y9),(10,y10),(11,y11),(12,y12),(13,y13),(14,y14),(15,y15),(16,y16),(17,y17)])) h
theorem t70_eq (C:au) (x0 x1:Value) (h:ai):bw prog C f75 [x0,x1] h=t70 C x0 x1 h:=
 fM (by kernel_rfl) (by kernel_rfl)
end
section
variable (C:au) (i:Nat) (x:fL) (e:aX) (h:ai)
noncomputable def t108 (C:au) (x0:Value) (h:ai):bc:=
 af (eH (List.replicate 32 (.int .u8 0)) h) fun y2 h=>af (some (x0,h)) fun y3 h=>af (du 64 (ptr 1 0) h) fun y4 h=>af (pu (fZ (List.replicate 8 (.int .u32 0)) [(0,1,.int .u32 1779033703),(1,1,.int .u32 3144134277),(2,1,.int .u32 1013904242),(3,1,.int .u32 2773480762),(4,1,.int .u32 1359893119),(5,1,.int .u32 2600822924),(6,1,.int .u32 528734635),(7,1,.int .u32 1541459225)]) h) fun y5 h=>af (C 93 [y3,y4,y5] h) fun y6 h=>af (eY 32 y2 y6 h) fun _ h=>resultsA prog f69.results.toList (aK 7 (up (bs [x0]) [(2,y2),(3,y3),(4,y4),(5,y5),(6,y6)])) h
theorem t108_eq (C:au) (x0:Value) (h:ai):bw prog C f69 [x0] h=t108 C x0 h:=
 fM (by kernel_rfl) (by kernel_rfl)
noncomputable def k136_2:bc:=codeK prog C (ao f93 [1,1,1]) e h (dC f93) (dC f93) iL
noncomputable def b136_3:bc:=if i=0 then (k136_2 C) e h else iL i e h
noncomputable def k136_5:bc:=codeK prog C (ao f93 [1,1,1,1,1]) e h (dC f93) (dC f93) iL
noncomputable def b136_7:bc:=if i=2 then (k136_5 C) e h else iL i e h
noncomputable def k136_11:bc:=codeK prog C (ao f93 [1,1,1,1,1,1]) e h (dC f93) (dC f93) iL
noncomputable def b136_13:bc:=if i=4 then (k136_11 C) e h else iL i e h
noncomputable def k136_19:bc:=codeK prog C (ao f93 [1,1,1,1,1,1,1,1]) e h (dC f93) (dC f93) iL
noncomputable def b136_21:bc:=if i=6 then (k136_19 C) e h else iL i e h
noncomputable def t136 (C:au) (x0 x1 x2:Value) (h:ai):bc:=
 af (box x1 h) fun y4 h=>af (box x2 h) fun y5 h=>af (eH (List.replicate 32 (.int .u8 0)) h) fun y6 h=>af (dg 1 (.int .u8 0) 0 [] h) fun y13 h=>af (some (x0,h)) fun y14 h=>af (appendA 1 1 y13 y14 h) fun y15 h=>af (dg 1 (.int .u8 0) 1 [(0,.int .u8 128)] h) fun y16 h=>af (appendA 1 1 y15 y16 h) fun y17 h=>af (some (y17,h)) fun y7 h=>fe (iter (codeA prog C (ao f93 [1,1,0,0,0])) aD (aK 74 (up (bs [x0,x1,x2]) [(4,y4),(5,y5),(6,y6),(7,y7),(13,y13),(14,y14),(15,y15),(16,y16),(17,y17)])) h) (dC f93) (b136_3 C)
noncomputable def sE:bc:=
 af (some (x 0,h)) fun y25 h=>af (pu (lenL y25) h) fun y26 h=>af (lW .u64 y26 h) fun y27 h=>af (pu (aF prog .mul 32 y27 (.int .u64 8)) h) fun y28 h=>af (some (y28,h)) fun y8 h=>af (some (.int .i64 7,h)) fun y9 h=>fe (iter (codeA prog C (ao f93 [1,1,1,1,0,1,0,0])) aD (aK 74 (up x [(8,y8),(9,y9),(25,y25),(26,y26),(27,y27),(28,y28)])) h) (dC f93) (b136_7 C)
noncomputable def nF (_:au) (x:fL) (h:ai):eI:=
 af (some (x 7,h)) fun y18 h=>af (pu (lenL y18) h) fun y19 h=>af (pu (aF prog .rem 3 y19 (.int .i64 64)) h) fun y20 h=>af (pu (aF prog .neq 3 y20 (.int .i64 56)) h) fun y21 h=>(match y21 with
 | .bool true=>af (some (x 7,h)) fun y22 h=>af (dg 1 (.int .u8 0) 1 [(0,.int .u8 0)] h) fun y23 h=>af (appendA 1 1 y22 y23 h) fun y24 h=>af (some (y24,h)) fun y7 h=>some (.normal,(aK 74 (up x [(7,y7),(18,y18),(19,y19),(20,y20),(21,y21),(22,y22),(23,y23),(24,y24)])),h)
 | .bool false=>some (.exit 0,(aK 74 (up x [(18,y18),(19,y19),(20,y20),(21,y21)])),h)
 |_=>none)
noncomputable def sW:bc:=
 af (some (.int .i64 0,h)) fun y10 h=>fe (iter (codeA prog C (ao f93 [1,1,1,1,1,0,1,0,0])) aD (aK 74 (up x [(10,y10)])) h) (dC f93) (b136_13 C)
noncomputable def jP (_:au) (x:fL) (h:ai):eI:=
 af (some (x 9,h)) fun y29 h=>af (pu (aF prog .geq 3 y29 (.int .i64 0)) h) fun y30 h=>(match y30 with
 | .bool true=>af (some (x 7,h)) fun y33 h=>af (some (x 8,h)) fun y34 h=>af (some (x 9,h)) fun y35 h=>af (lW .u64 y35 h) fun y36 h=>af (pu (aF prog .mul 120 (.int .u64 8) y36) h) fun y37 h=>af (pu (aF prog .shr 32 y34 y37) h) fun y38 h=>af (lW .u8 y38 h) fun y39 h=>af (dg 1 (.int .u8 0) 1 [(0,y39)] h) fun y40 h=>af (appendA 1 1 y33 y40 h) fun y41 h=>af (some (y41,h)) fun y7 h=>af (some (x 9,h)) fun y31 h=>af (pu (aF prog .sub 3 y31 (.int .i64 1)) h) fun y32 h=>af (some (y32,h)) fun y9 h=>some (.normal,(aK 74 (up x [(7,y7),(9,y9),(29,y29),(30,y30),(31,y31),(32,y32),(33,y33),(34,y34),(35,y35),(36,y36),(37,y37),(38,y38),(39,y39),(40,y40),(41,y41)])),h)
 | .bool false=>some (.exit 2,(aK 74 (up x [(29,y29),(30,y30)])),h)
 |_=>none)
noncomputable def qx:bc:=
 af (eH (List.replicate 32 (.int .u8 0)) h) fun y11 h=>af (some (.int .i64 0,h)) fun y12 h=>fe (iter (codeA prog C (ao f93 [1,1,1,1,1,1,1,0,1,0,0])) aD (aK 74 (up x [(11,y11),(12,y12)])) h) (dC f93) (b136_21 C)
noncomputable def iX:eI:=
 af (some (x 10,h)) fun y42 h=>af (some (x 7,h)) fun y43 h=>af (pu (lenL y43) h) fun y44 h=>af (pu (aF prog .lss 3 y42 y44) h) fun y45 h=>(match y45 with
 | .bool true=>af (du 8 (x 5) h) fun y48 h=>af (du 64 (x 4) h) fun y49 h=>af (some (x 7,h)) fun y50 h=>af (some (x 10,h)) fun y51 h=>af (some (x 10,h)) fun y52 h=>af (pu (aF prog .add 3 y52 (.int .i64 64)) h) fun y53 h=>af (pu (nT 1 y50 (some y51) (some y53) none) h) fun y54 h=>af (C 113 [y48,y49,y54] h) fun y55 h=>af (eY 8 (x 5) y55 h) fun _ h=>af (some (x 10,h)) fun y46 h=>af (pu (aF prog .add 3 y46 (.int .i64 64)) h) fun y47 h=>af (some (y47,h)) fun y10 h=>some (.normal,(aK 74 (up x [(10,y10),(42,y42),(43,y43),(44,y44),(45,y45),(46,y46),(47,y47),(48,y48),(49,y49),(50,y50),(51,y51),(52,y52),(53,y53),(54,y54),(55,y55)])),h)
 | .bool false=>some (.exit 4,(aK 74 (up x [(42,y42),(43,y43),(44,y44),(45,y45)])),h)
 |_=>none)
noncomputable def pL (_:au) (x:fL) (h:ai):bc:=
 af (du 32 (x 11) h) fun y73 h=>af (eY 32 (x 6) y73 h) fun _ h=>resultsA prog f93.results.toList (aK 74 (up x [(73,y73)])) h
noncomputable def ic (_:au) (x:fL) (h:ai):eI:=
 af (some (x 12,h)) fun y56 h=>af (pu (aF prog .lss 3 y56 (.int .i64 32)) h) fun y57 h=>(match y57 with
 | .bool true=>af (some (x 12,h)) fun y60 h=>af (some (x 12,h)) fun y61 h=>af (pu (aF prog .quo 3 y61 (.int .i64 4)) h) fun y62 h=>af (pu (idxA 8 1 (x 5) y62) h) fun y63 h=>af (ld1 y63 h) fun y64 h=>af (some (x 12,h)) fun y65 h=>af (pu (aF prog .rem 3 y65 (.int .i64 4)) h) fun y66 h=>af (lW .u64 y66 h) fun y67 h=>af (pu (aF prog .mul 120 (.int .u64 8) y67) h) fun y68 h=>af (pu (aF prog .sub 120 (.int .u64 24) y68) h) fun y69 h=>af (pu (aF prog .shr 139 y64 y69) h) fun y70 h=>af (lW .u8 y70 h) fun y71 h=>af (pu (idxA 32 1 (x 11) y60) h) fun y72 h=>af (eY 1 y72 y71 h) fun _ h=>af (some (x 12,h)) fun y58 h=>af (pu (aF prog .add 3 y58 (.int .i64 1)) h) fun y59 h=>af (some (y59,h)) fun y12 h=>
 some (.normal,(aK 74 (up x [(12,y12),(56,y56),(57,y57),(58,y58),(59,y59),(60,y60),(61,y61),(62,y62),(63,y63),(64,y64),(65,y65),(66,y66),(67,y67),(68,y68),(69,y69),(70,y70),(71,y71),(72,y72)])),h)
 | .bool false=>some (.exit 6,(aK 74 (up x [(56,y56),(57,y57)])),h)
 |_=>none)
theorem t136_eq (C:au) (x0 x1 x2:Value) (h:ai):bw prog C f93 [x0,x1,x2] h=t136 C x0 x1 x2 h:=
 fM (by kernel_rfl) (by kernel_rfl)
theorem Au:k136_2 C (aK 74 x) h=sE C x h:=
 uJ (T:=sE C) (fun x h=>by kernel_rfl) x h
theorem uT:codeA prog C (ao f93 [1,1,0,0,0]) (aK 74 x) h=nF C x h:=
 aA (T:=nF C) (fun x h=>by kernel_rfl) x h
theorem Ay:k136_5 C (aK 74 x) h=sW C x h:=
 uJ (T:=sW C) (fun x h=>by kernel_rfl) x h
theorem rJ:codeA prog C (ao f93 [1,1,1,1,0,1,0,0]) (aK 74 x) h=jP C x h:=
 aA (T:=jP C) (fun x h=>by kernel_rfl) x h
theorem zG:k136_11 C (aK 74 x) h=qx C x h:=
 uJ (T:=qx C) (fun x h=>by kernel_rfl) x h
theorem qe:codeA prog C (ao f93 [1,1,1,1,1,0,1,0,0]) (aK 74 x) h=iX C x h:=
 aA (T:=iX C) (fun x h=>by kernel_rfl) x h
theorem yn:k136_19 C (aK 74 x) h=pL C x h:=
 uJ (T:=pL C) (fun x h=>by kernel_rfl) x h
theorem oX:codeA prog C (ao f93 [1,1,1,1,1,1,1,0,1,0,0]) (aK 74 x) h=ic C x h:=
 aA (T:=ic C) (fun x h=>by kernel_rfl) x h
noncomputable def k153_2:bc:=codeK prog C (ao f113 [1,1,1]) e h (dC f113) (dC f113) iL
noncomputable def b153_4:bc:=if i=0 then (k153_2 C) e h else iL i e h
noncomputable def k153_6:bc:=codeK prog C (ao f113 [1,1,1,1,1]) e h (dC f113) (dC f113) iL
noncomputable def b153_8:bc:=if i=2 then (k153_6 C) e h else iL i e h
noncomputable def k153_20:bc:=codeK prog C (ao f113 [1,1,1,1,1,1]) e h (dC f113) (dC f113) iL
noncomputable def b153_22:bc:=if i=4 then (k153_20 C) e h else iL i e h
noncomputable def t153 (C:au) (x0 x1 x2:Value) (h:ai):bc:=
 af (box x0 h) fun y3 h=>af (box x1 h) fun y4 h=>af (eH (List.replicate 8 (.int .u32 0)) h) fun y6 h=>af (eH (List.replicate 64 (.int .u32 0)) h) fun y7 h=>af (some (.int .i64 0,h)) fun y8 h=>fe (iter (codeA prog C (ao f113 [1,1,0,1,0,0])) aD (aK 206 (up (bs [x0,x1,x2]) [(3,y3),(4,y4),(6,y6),(7,y7),(8,y8)])) h) (dC f113) (b153_4 C)
noncomputable def sD:bc:=
 af (du 8 (x 3) h) fun y110 h=>af (eH (List.replicate 8 (.int .u32 0)) h) fun y11 h=>af (eY 8 y11 y110 h) fun _ h=>af (some (.int .i64 0,h)) fun y12 h=>fe (iter (codeA prog C (ao f113 [1,1,1,1,0,1,0,0])) aD (aK 206 (up x [(11,y11),(12,y12),(110,y110)])) h) (dC f113) (b153_8 C)
noncomputable def mi:eI:=
 af (some (x 8,h)) fun y20 h=>af (pu (aF prog .lss 3 y20 (.int .i64 64)) h) fun y21 h=>(match y21 with
 | .bool true=>af (some (x 8,h)) fun y24 h=>af (pu (aF prog .lss 3 y24 (.int .i64 16)) h) fun y25 h=>(match y25 with
 | .bool true=>af (some (x 8,h)) fun y26 h=>af (some (x 2,h)) fun y27 h=>af (some (x 8,h)) fun y28 h=>af (pu (aF prog .mul 3 (.int .i64 4) y28) h) fun y29 h=>af (pu (idxS 1 y27 y29) h) fun y30 h=>af (ld1 y30 h) fun y31 h=>af (lW .u32 y31 h) fun y32 h=>af (pu (aF prog .shl 139 y32 (.int .u64 24)) h) fun y33 h=>af (some (x 2,h)) fun y34 h=>af (some (x 8,h)) fun y35 h=>af (pu (aF prog .mul 3 (.int .i64 4) y35) h) fun y36 h=>af (pu (aF prog .add 3 y36 (.int .i64 1)) h) fun y37 h=>af (pu (idxS 1 y34 y37) h) fun y38 h=>af (ld1 y38 h) fun y39 h=>af (lW .u32 y39 h) fun y40 h=>af (pu (aF prog .shl 139 y40 (.int .u64 16)) h) fun y41 h=>af (pu (aF prog .or 139 y33 y41) h) fun y42 h=>
 af (some (x 2,h)) fun y43 h=>af (some (x 8,h)) fun y44 h=>af (pu (aF prog .mul 3 (.int .i64 4) y44) h) fun y45 h=>af (pu (aF prog .add 3 y45 (.int .i64 2)) h) fun y46 h=>af (pu (idxS 1 y43 y46) h) fun y47 h=>af (ld1 y47 h) fun y48 h=>af (lW .u32 y48 h) fun y49 h=>af (pu (aF prog .shl 139 y49 (.int .u64 8)) h) fun y50 h=>af (pu (aF prog .or 139 y42 y50) h) fun y51 h=>af (some (x 2,h)) fun y52 h=>af (some (x 8,h)) fun y53 h=>af (pu (aF prog .mul 3 (.int .i64 4) y53) h) fun y54 h=>af (pu (aF prog .add 3 y54 (.int .i64 3)) h) fun y55 h=>af (pu (idxS 1 y52 y55) h) fun y56 h=>af (ld1 y56 h) fun y57 h=>af (lW .u32 y57 h) fun y58 h=>af (pu (aF prog .or 139 y51 y58) h) fun y59 h=>
 af (pu (idxA 64 1 (x 7) y26) h) fun y60 h=>af (eY 1 y60 y59 h) fun _ h=>af (some (x 8,h)) fun y22 h=>af (pu (aF prog .add 3 y22 (.int .i64 1)) h) fun y23 h=>af (some (y23,h)) fun y8 h=>some (.normal,(aK 206 (up x [(8,y8),(20,y20),(21,y21),(22,y22),(23,y23),(24,y24),(25,y25),(26,y26),(27,y27),(28,y28),(29,y29),(30,y30),(31,y31),(32,y32),(33,y33),(34,y34),(35,y35),(36,y36),(37,y37),(38,y38),(39,y39),(40,y40),(41,y41),(42,y42),(43,y43),(44,y44),(45,y45),(46,y46),(47,y47),(48,y48),(49,y49),(50,y50),(51,y51),(52,y52),(53,y53),(54,y54),(55,y55),(56,y56),(57,y57),(58,y58),(59,y59),(60,y60)])),h)
 | .bool false=>let g17_0:=h
 af (some (x 8,g17_0)) fun y61 g17_1=>af (pu (aF prog .sub 3 y61 (.int .i64 15)) g17_1) fun y62 g17_2=>af (pu (idxA 64 1 (x 7) y62) g17_2) fun y63 g17_3=>af (ld1 y63 g17_3) fun y64 g17_4=>af (C 122 [y64,.int .u64 7] g17_4) fun y65 g17_5=>af (some (x 8,g17_5)) fun y66 g17_6=>af (pu (aF prog .sub 3 y66 (.int .i64 15)) g17_6) fun y67 g17_7=>af (pu (idxA 64 1 (x 7) y67) g17_7) fun y68 g17_8=>af (ld1 y68 g17_8) fun y69 g17_9=>af (C 122 [y69,.int .u64 18] g17_9) fun y70 g17_10=>af (pu (aF prog .xor 139 y65 y70) g17_10) fun y71 g17_11=>af (some (x 8,g17_11)) fun y72 g17_12=>af (pu (aF prog .sub 3 y72 (.int .i64 15)) g17_12) fun y73 g17_13=>af (pu (idxA 64 1 (x 7) y73) g17_13) fun y74 g17_14=>
 af (ld1 y74 g17_14) fun y75 g17_15=>af (pu (aF prog .shr 139 y75 (.int .u64 3)) g17_15) fun y76 g17_16=>af (pu (aF prog .xor 139 y71 y76) g17_16) fun y77 g17_17=>af (some (y77,g17_17)) fun y9 g17_18=>(match (cq true (ld1 y68 g17_4) y69&&(cq true (ld1 y74 g17_4) y75&&(cq true (ld1 y74 g17_9) y75&&true))) with
 |true=>let h:=g17_18
 let g19_0:=h
 af (some (x 8,g19_0)) fun y78 g19_1=>af (pu (aF prog .sub 3 y78 (.int .i64 2)) g19_1) fun y79 g19_2=>af (pu (idxA 64 1 (x 7) y79) g19_2) fun y80 g19_3=>af (ld1 y80 g19_3) fun y81 g19_4=>af (C 122 [y81,.int .u64 17] g19_4) fun y82 g19_5=>af (some (x 8,g19_5)) fun y83 g19_6=>af (pu (aF prog .sub 3 y83 (.int .i64 2)) g19_6) fun y84 g19_7=>af (pu (idxA 64 1 (x 7) y84) g19_7) fun y85 g19_8=>af (ld1 y85 g19_8) fun y86 g19_9=>af (C 122 [y86,.int .u64 19] g19_9) fun y87 g19_10=>af (pu (aF prog .xor 139 y82 y87) g19_10) fun y88 g19_11=>af (some (x 8,g19_11)) fun y89 g19_12=>af (pu (aF prog .sub 3 y89 (.int .i64 2)) g19_12) fun y90 g19_13=>af (pu (idxA 64 1 (x 7) y90) g19_13) fun y91 g19_14=>
 af (ld1 y91 g19_14) fun y92 g19_15=>af (pu (aF prog .shr 139 y92 (.int .u64 10)) g19_15) fun y93 g19_16=>af (pu (aF prog .xor 139 y88 y93) g19_16) fun y94 g19_17=>af (some (y94,g19_17)) fun y10 g19_18=>(match (cq true (ld1 y85 g19_4) y86&&(cq true (ld1 y91 g19_4) y92&&(cq true (ld1 y91 g19_9) y92&&true))) with
 |true=>let h:=g19_18
 af (some (x 8,h)) fun y95 h=>af (some (y10,h)) fun y96 h=>af (some (x 8,h)) fun y97 h=>af (pu (aF prog .sub 3 y97 (.int .i64 7)) h) fun y98 h=>af (pu (idxA 64 1 (x 7) y98) h) fun y99 h=>af (ld1 y99 h) fun y100 h=>af (pu (aF prog .add 139 y96 y100) h) fun y101 h=>af (some (y9,h)) fun y102 h=>af (pu (aF prog .add 139 y101 y102) h) fun y103 h=>af (some (x 8,h)) fun y104 h=>af (pu (aF prog .sub 3 y104 (.int .i64 16)) h) fun y105 h=>af (pu (idxA 64 1 (x 7) y105) h) fun y106 h=>af (ld1 y106 h) fun y107 h=>af (pu (aF prog .add 139 y103 y107) h) fun y108 h=>af (pu (idxA 64 1 (x 7) y95) h) fun y109 h=>af (eY 1 y109 y108 h) fun _ h=>af (some (x 8,h)) fun y22 h=>
 af (pu (aF prog .add 3 y22 (.int .i64 1)) h) fun y23 h=>af (some (y23,h)) fun y8 h=>some (.normal,(aK 206 (up x [(8,y8),(9,y9),(10,y10),(20,y20),(21,y21),(22,y22),(23,y23),(24,y24),(25,y25),(61,y61),(62,y62),(63,y63),(64,y64),(65,y65),(66,y66),(67,y67),(68,y68),(69,y69),(70,y70),(71,y71),(72,y72),(73,y73),(74,y74),(75,y75),(76,y76),(77,y77),(78,y78),(79,y79),(80,y80),(81,y81),(82,y82),(83,y83),(84,y84),(85,y85),(86,y86),(87,y87),(88,y88),(89,y89),(90,y90),(91,y91),(92,y92),(93,y93),(94,y94),(95,y95),(96,y96),(97,y97),(98,y98),(99,y99),(100,y100),(101,y101),(102,y102),(103,y103),(104,y104),(105,y105),(106,y106),(107,y107),(108,y108),(109,y109)])),h)
 |false=>none)
 |false=>none)
 |_=>none)
 | .bool false=>some (.exit 0,(aK 206 (up x [(20,y20),(21,y21)])),h)
 |_=>none)
noncomputable def sH:bc:=
 af (some (.int .i64 0,h)) fun y19 h=>fe (iter (codeA prog C (ao f113 [1,1,1,1,1,0,1,0,0])) aD (aK 206 (up x [(19,y19)])) h) (dC f113) (b153_22 C)
noncomputable def jR:eI:=
 af (some (x 12,h)) fun y111 h=>af (pu (aF prog .lss 3 y111 (.int .i64 64)) h) fun y112 h=>(match y112 with
 | .bool true=>af (pu (idxA 8 1 (x 11) (.int .i64 0)) h) fun y115 h=>af (ld1 y115 h) fun y116 h=>af (pu (idxA 8 1 (x 11) (.int .i64 4)) h) fun y117 h=>af (ld1 y117 h) fun y118 h=>af (some (y116,h)) fun y13 h=>af (some (y118,h)) fun y14 h=>af (some (y14,h)) fun y119 h=>af (pu (idxA 8 1 (x 11) (.int .i64 5)) h) fun y120 h=>af (ld1 y120 h) fun y121 h=>af (pu (aF prog .and 139 y119 y121) h) fun y122 h=>af (some (y14,h)) fun y123 h=>af (pu (unA .xor y123) h) fun y124 h=>af (pu (idxA 8 1 (x 11) (.int .i64 6)) h) fun y125 h=>af (ld1 y125 h) fun y126 h=>af (pu (aF prog .and 139 y124 y126) h) fun y127 h=>af (pu (aF prog .xor 139 y122 y127) h) fun y128 h=>af (some (y128,h)) fun y15 h=>
 af (some (y13,h)) fun y129 h=>af (pu (idxA 8 1 (x 11) (.int .i64 1)) h) fun y130 h=>af (ld1 y130 h) fun y131 h=>af (pu (aF prog .and 139 y129 y131) h) fun y132 h=>af (some (y13,h)) fun y133 h=>af (pu (idxA 8 1 (x 11) (.int .i64 2)) h) fun y134 h=>af (ld1 y134 h) fun y135 h=>af (pu (aF prog .and 139 y133 y135) h) fun y136 h=>af (pu (aF prog .xor 139 y132 y136) h) fun y137 h=>af (pu (idxA 8 1 (x 11) (.int .i64 1)) h) fun y138 h=>af (ld1 y138 h) fun y139 h=>af (pu (idxA 8 1 (x 11) (.int .i64 2)) h) fun y140 h=>af (ld1 y140 h) fun y141 h=>af (pu (aF prog .and 139 y139 y141) h) fun y142 h=>af (pu (aF prog .xor 139 y137 y142) h) fun y143 h=>af (some (y143,h)) fun y16 h=>let g31_0:=h
 af (pu (idxA 8 1 (x 11) (.int .i64 7)) g31_0) fun y144 g31_1=>af (ld1 y144 g31_1) fun y145 g31_2=>af (some (y14,g31_2)) fun y146 g31_3=>af (C 122 [y146,.int .u64 6] g31_3) fun y147 g31_4=>af (some (y14,g31_4)) fun y148 g31_5=>af (C 122 [y148,.int .u64 11] g31_5) fun y149 g31_6=>af (pu (aF prog .xor 139 y147 y149) g31_6) fun y150 g31_7=>af (some (y14,g31_7)) fun y151 g31_8=>af (C 122 [y151,.int .u64 25] g31_8) fun y152 g31_9=>af (pu (aF prog .xor 139 y150 y152) g31_9) fun y153 g31_10=>af (pu (aF prog .add 139 y145 y153) g31_10) fun y154 g31_11=>af (some (y15,g31_11)) fun y155 g31_12=>af (pu (aF prog .add 139 y154 y155) g31_12) fun y156 g31_13=>af (some (x 12,g31_13)) fun y157 g31_14=>
 af (pu (idxA 64 1 (x 4) y157) g31_14) fun y158 g31_15=>af (ld1 y158 g31_15) fun y159 g31_16=>af (pu (aF prog .add 139 y156 y159) g31_16) fun y160 g31_17=>af (some (x 12,g31_17)) fun y161 g31_18=>af (pu (idxA 64 1 (x 7) y161) g31_18) fun y162 g31_19=>af (ld1 y162 g31_19) fun y163 g31_20=>af (pu (aF prog .add 139 y160 y163) g31_20) fun y164 g31_21=>af (some (y164,g31_21)) fun y17 g31_22=>
 (match (cq true (ld1 y144 g31_4) y145&&(cq true (ld1 y144 g31_6) y145&&(cq true (ld1 y144 g31_9) y145&&(cq true (ld1 y158 g31_3) y159&&(cq true (ld1 y158 g31_5) y159&&(cq true (ld1 y158 g31_8) y159&&(cq true (ld1 y162 g31_3) y163&&(cq true (ld1 y162 g31_5) y163&&(cq true (ld1 y162 g31_8) y163&&true))))))))) with
 |true=>let h:=g31_22
 af (some (y13,h)) fun y165 h=>af (C 122 [y165,.int .u64 2] h) fun y166 h=>af (some (y13,h)) fun y167 h=>af (C 122 [y167,.int .u64 13] h) fun y168 h=>af (pu (aF prog .xor 139 y166 y168) h) fun y169 h=>af (some (y13,h)) fun y170 h=>af (C 122 [y170,.int .u64 22] h) fun y171 h=>af (pu (aF prog .xor 139 y169 y171) h) fun y172 h=>af (some (y16,h)) fun y173 h=>af (pu (aF prog .add 139 y172 y173) h) fun y174 h=>af (some (y174,h)) fun y18 h=>af (some (y17,h)) fun y175 h=>af (some (y18,h)) fun y176 h=>af (pu (aF prog .add 139 y175 y176) h) fun y177 h=>af (some (y13,h)) fun y178 h=>af (pu (idxA 8 1 (x 11) (.int .i64 1)) h) fun y179 h=>af (ld1 y179 h) fun y180 h=>
 af (pu (idxA 8 1 (x 11) (.int .i64 2)) h) fun y181 h=>af (ld1 y181 h) fun y182 h=>af (pu (idxA 8 1 (x 11) (.int .i64 3)) h) fun y183 h=>af (ld1 y183 h) fun y184 h=>af (some (y17,h)) fun y185 h=>af (pu (aF prog .add 139 y184 y185) h) fun y186 h=>af (some (y14,h)) fun y187 h=>af (pu (idxA 8 1 (x 11) (.int .i64 5)) h) fun y188 h=>af (ld1 y188 h) fun y189 h=>af (pu (idxA 8 1 (x 11) (.int .i64 6)) h) fun y190 h=>af (ld1 y190 h) fun y191 h=>af (pu (fZ (List.replicate 8 (.int .u32 0)) [(0,1,y177),(1,1,y178),(2,1,y180),(3,1,y182),(4,1,y186),(5,1,y187),(6,1,y189),(7,1,y191)]) h) fun y192 h=>af (eY 8 (x 11) y192 h) fun _ h=>af (some (x 12,h)) fun y113 h=>
 af (pu (aF prog .add 3 y113 (.int .i64 1)) h) fun y114 h=>af (some (y114,h)) fun y12 h=>
 some (.normal,(aK 206 (up x [(12,y12),(13,y13),(14,y14),(15,y15),(16,y16),(17,y17),(18,y18),(111,y111),(112,y112),(113,y113),(114,y114),(115,y115),(116,y116),(117,y117),(118,y118),(119,y119),(120,y120),(121,y121),(122,y122),(123,y123),(124,y124),(125,y125),(126,y126),(127,y127),(128,y128),(129,y129),(130,y130),(131,y131),(132,y132),(133,y133),(134,y134),(135,y135),(136,y136),(137,y137),(138,y138),(139,y139),(140,y140),(141,y141),(142,y142),(143,y143),(144,y144),(145,y145),(146,y146),(147,y147),(148,y148),(149,y149),(150,y150),(151,y151),(152,y152),(153,y153),(154,y154),(155,y155),(156,y156),(157,y157),(158,y158),(159,y159),(160,y160),(161,y161),(162,y162),(163,y163),(164,y164),(165,y165),(166,y166),(167,y167),(168,y168),(169,y169),(170,y170),(171,y171),(172,y172),(173,y173),(174,y174),(175,y175),(176,y176),(177,y177),(178,y178),(179,y179),(180,y180),(181,y181),(182,y182),(183,y183),(184,y184),(185,y185),(186,y186),(187,y187),(188,y188),(189,y189),(190,y190),(191,y191),(192,y192)])),h)
 |false=>none)
 | .bool false=>some (.exit 2,(aK 206 (up x [(111,y111),(112,y112)])),h)
 |_=>none)
noncomputable def qh (_:au) (x:fL) (h:ai):bc:=
 af (du 8 (x 3) h) fun y205 h=>af (eY 8 (x 6) y205 h) fun _ h=>resultsA prog f113.results.toList (aK 206 (up x [(205,y205)])) h
noncomputable def ji (_:au) (x:fL) (h:ai):eI:=
 af (some (x 19,h)) fun y193 h=>af (pu (aF prog .lss 3 y193 (.int .i64 8)) h) fun y194 h=>(match y194 with
 | .bool true=>af (some (x 19,h)) fun y197 h=>af (pu (idxA 8 1 (x 3) y197) h) fun y198 h=>af (ld1 y198 h) fun y199 h=>af (some (x 19,h)) fun y200 h=>af (pu (idxA 8 1 (x 11) y200) h) fun y201 h=>af (ld1 y201 h) fun y202 h=>af (pu (aF prog .add 139 y199 y202) h) fun y203 h=>af (pu (idxA 8 1 (x 3) y197) h) fun y204 h=>af (eY 1 y204 y203 h) fun _ h=>af (some (x 19,h)) fun y195 h=>af (pu (aF prog .add 3 y195 (.int .i64 1)) h) fun y196 h=>af (some (y196,h)) fun y19 h=>some (.normal,(aK 206 (up x [(19,y19),(193,y193),(194,y194),(195,y195),(196,y196),(197,y197),(198,y198),(199,y199),(200,y200),(201,y201),(202,y202),(203,y203),(204,y204)])),h)
 | .bool false=>some (.exit 4,(aK 206 (up x [(193,y193),(194,y194)])),h)
 |_=>none)
theorem t153_eq (C:au) (x0 x1 x2:Value) (h:ai):bw prog C f113 [x0,x1,x2] h=t153 C x0 x1 x2 h:=
 fM (by kernel_rfl) (by kernel_rfl)
theorem AK:k153_2 C (aK 206 x) h=sD C x h:=
 uJ (T:=sD C) (fun x h=>by kernel_rfl) x h
theorem tJ:codeA prog C (ao f113 [1,1,0,1,0,0]) (aK 206 x) h=mi C x h:=
 aA (T:=mi C) (fun x h=>by kernel_rfl) x h
theorem AZ:k153_6 C (aK 206 x) h=sH C x h:=
 uJ (T:=sH C) (fun x h=>by kernel_rfl) x h
theorem rF:codeA prog C (ao f113 [1,1,1,1,0,1,0,0]) (aK 206 x) h=jR C x h:=
 aA (T:=jR C) (fun x h=>by kernel_rfl) x h
theorem yj:k153_20 C (aK 206 x) h=qh C x h:=
 uJ (T:=qh C) (fun x h=>by kernel_rfl) x h
theorem pR:codeA prog C (ao f113 [1,1,1,1,1,0,1,0,0]) (aK 206 x) h=ji C x h:=
 aA (T:=ji C) (fun x h=>by kernel_rfl) x h
noncomputable def t161 (_:au) (x0 x1:Value) (h:ai):bc:=
 af (some (.int .u32 0,h)) fun _ h=>af (some (x0,h)) fun y5 h=>af (some (x1,h)) fun y6 h=>af (pu (aF prog .shr 139 y5 y6) h) fun y7 h=>af (some (x0,h)) fun y8 h=>af (some (x1,h)) fun y9 h=>af (pu (aF prog .sub 120 (.int .u64 32) y9) h) fun y10 h=>af (pu (aF prog .shl 139 y8 y10) h) fun y11 h=>af (pu (aF prog .or 139 y7 y11) h) fun y12 h=>af (some (y12,h)) fun y4_1 h=>some (y4_1,h)
theorem t161_eq (C:au) (x0 x1:Value) (h:ai):bw prog C f122 [x0,x1] h=t161 C x0 x1 h:=
 fM (by kernel_rfl) (by kernel_rfl)
noncomputable def t72 (C:au) (x0:Value) (h:ai):bc:=
 af (box x0 h) fun y1 h=>af (eH (List.replicate 32 (.int .u8 0)) h) fun y2 h=>af (du 39 y1 h) fun y6 h=>af (C 94 [y6] h) fun y7 h=>af (some (y7,h)) fun y5 h=>af (pu (extractA y5 0) h) fun y8 h=>af (pu (extractA y5 1) h) fun y9 h=>af (some (y8,h)) fun y3 h=>af (some (y9,h)) fun y4 h=>af (dg 1 (.int .u8 0) 1 [(0,.int .u8 0)] h) fun y10 h=>af (some (y3,h)) fun y11 h=>af (appendA 1 1 y10 y11 h) fun y12 h=>af (C 69 [y12] h) fun y13 h=>af (eY 32 y2 y13 h) fun _ h=>resultsA prog f70.results.toList (aK 14 (up (bs [x0]) [(1,y1),(2,y2),(3,y3),(4,y4),(5,y5),(6,y6),(7,y7),(8,y8),(9,y9),(10,y10),(11,y11),(12,y12),(13,y13)])) h
theorem t72_eq (C:au) (x0:Value) (h:ai):bw prog C f70 [x0] h=t72 C x0 h:=
 fM (by kernel_rfl) (by kernel_rfl)
noncomputable def t110 (C:au) (x0 x1:Value) (h:ai):bc:=
 af (box x0 h) fun y2 h=>af (box x1 h) fun y3 h=>af (eH (List.replicate 32 (.int .u8 0)) h) fun y4 h=>af (pu (sliceArr 32 1 y2 none none none) h) fun y6 h=>af (dg 1 (.int .u8 0) 1 [(0,.int .u8 1)] h) fun y5 h=>af (appendA 1 1 y5 y6 h) fun y7 h=>af (pu (sliceArr 32 1 y3 none none none) h) fun y8 h=>af (appendA 1 1 y7 y8 h) fun y9 h=>af (C 69 [y9] h) fun y10 h=>af (eY 32 y4 y10 h) fun _ h=>resultsA prog f72.results.toList (aK 11 (up (bs [x0,x1]) [(2,y2),(3,y3),(4,y4),(5,y5),(6,y6),(7,y7),(8,y8),(9,y9),(10,y10)])) h
theorem t110_eq (C:au) (x0 x1:Value) (h:ai):bw prog C f72 [x0,x1] h=t110 C x0 x1 h:=
 fM (by kernel_rfl) (by kernel_rfl)
end
end Go.Proofs.YtdnahgfgoajmcaaGreatDoor
