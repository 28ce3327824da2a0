/-
  A part of the proof, spaces and names shortened by a program (a claim may hold 1,500,000 bytes).
  Conditions: as each theorem states.
-/
import Derived.Test.YtdnahgfgoajmcaaGreatDoorG9
import Derived.Test.YtdnahgfgoajmcaaGreatDoorProg
import Derived.KernelRfl
namespace Go.Proofs.YtdnahgfgoajmcaaGreatDoor
open Go Go.Abs Tryz
section
variable (C:aj) (i:Nat) (x:fK) (e:aW) (h:ad)
noncomputable def t42 (C:aj) (x0:Value) (h:ad):aS:=
 ab (box x0 h) fun y1 h=>ab (some (.bool false,h)) fun _ h=>ab (pu (aH y1 0) h) fun y3 h=>ab (ld1 y3 h) fun y4 h=>ab (pu (aC prog .eql 64 y4 (.int .u8 1)) h) fun y6 h=>ab (some (y6,h)) fun y5 h=>(match y5 with
 | .bool true=>ab (cx 39 y1 h) fun y7 h=>ab (pu (aH y1 0) h) fun y8 h=>ab (ld1 y8 h) fun y9 h=>ab (pu (aH y1 33) h) fun y10 h=>ab (ld1 y10 h) fun y11 h=>ab (pu (aH y1 34) h) fun y12 h=>ab (ld1 y12 h) fun y13 h=>ab (pu (ei kr [(0,1,y9),(33,1,y11),(34,1,y13)]) h) fun y14 h=>ab (pu (aC prog .eql 66 y7 y14) h) fun y15 h=>ab (some (y15,h)) fun y16 h=>ab (ai (aR y16==some true) (cx 39 y1 h) h) fun y17 h=>ab (ai (aR y16==some true) (C 45 [y17] h) h) fun y18 h=>ab (match y16 with | .bool t=>some (if t then y18 else (.bool false),h)|_=>none) fun y19 h=>ab (some (y19,h)) fun y2_1 h=>some (y2_1,h)
 | .bool false=>ab (pu (aC prog .eql 64 y4 (.int .u8 2)) h) fun y21 h=>ab (some (y21,h)) fun y20 h=>(match y20 with
 | .bool true=>ab (cx 39 y1 h) fun y22 h=>ab (pu (aH y1 0) h) fun y23 h=>ab (ld1 y23 h) fun y24 h=>ab (pu (aH y1 1) h) fun y25 h=>ab (cx 32 y25 h) fun y26 h=>ab (pu (ei kr [(0,1,y24),(1,32,y26)]) h) fun y27 h=>ab (pu (aC prog .eql 66 y22 y27) h) fun y28 h=>ab (some (y28,h)) fun y2_1 h=>some (y2_1,h)
 | .bool false=>ab (pu (aC prog .eql 64 y4 (.int .u8 3)) h) fun y30 h=>ab (some (y30,h)) fun y29 h=>(match y29 with
 | .bool true=>ab (cx 39 y1 h) fun y31 h=>ab (C 45 [y31] h) fun y32 h=>ab (some (y32,h)) fun y33 h=>ab (ai (aR y33==some true) (pu (aH y1 35) h) h) fun y34 h=>ab (ai (aR y33==some true) (ld1 y34 h) h) fun y35 h=>ab (ai (aR y33==some true) (pu (aC prog .geq 32 y35 (.int .u64 1)) h) h) fun y36 h=>ab (match y33 with | .bool t=>some (if t then y36 else (.bool false),h)|_=>none) fun y37 h=>ab (some (y37,h)) fun y38 h=>ab (ai (aR y38==some true) (pu (aH y1 37) h) h) fun y39 h=>ab (ai (aR y38==some true) (ld1 y39 h) h) fun y40 h=>ab (ai (aR y38==some true) (pu (aC prog .leq 3 (.int .i64 1) y40) h) h) fun y41 h=>
 ab (match y38 with | .bool t=>some (if t then y41 else (.bool false),h)|_=>none) fun y42 h=>ab (some (y42,h)) fun y43 h=>ab (ai (aR y43==some true) (pu (aH y1 37) h) h) fun y44 h=>ab (ai (aR y43==some true) (ld1 y44 h) h) fun y45 h=>ab (ai (aR y43==some true) (pu (aH y1 38) h) h) fun y46 h=>ab (ai (aR y43==some true) (ld1 y46 h) h) fun y47 h=>ab (ai (aR y43==some true) (pu (aC prog .leq 3 y45 y47) h) h) fun y48 h=>ab (match y43 with | .bool t=>some (if t then y48 else (.bool false),h)|_=>none) fun y49 h=>ab (some (y49,h)) fun y50 h=>ab (ai (aR y50==some true) (pu (aH y1 38) h) h) fun y51 h=>ab (ai (aR y50==some true) (ld1 y51 h) h) fun y52 h=>
 ab (ai (aR y50==some true) (pu (aC prog .leq 3 y52 (.int .i64 255)) h) h) fun y53 h=>ab (match y50 with | .bool t=>some (if t then y53 else (.bool false),h)|_=>none) fun y54 h=>ab (some (y54,h)) fun y2_1 h=>some (y2_1,h)
 | .bool false=>ab (some (.bool false,h)) fun y2_1 h=>some (y2_1,h)
 |_=>none)
 |_=>none)
 |_=>none)
theorem zp (C:aj) (x0:Value) (h:ad):ba prog C f20 [x0] h=t42 C x0 h:=
 eH (by kernel_rfl) (by kernel_rfl)
noncomputable def t43 (C:aj) (x0:Value) (h:ad):aS:=
 ab (box x0 h) fun y1 h=>ab (some (.slice none 0 0,h)) fun _ h=>ab (some (.int .i64 0,h)) fun _ h=>ab (cx 39 y1 h) fun y7 h=>ab (C 20 [y7] h) fun y8 h=>ab (pu (unA .not y8) h) fun y9 h=>(match y9 with
 | .bool true=>ab (some (.slice none 0 0,h)) fun y2_1 h=>ab (some (.int .i64 2,h)) fun y3_1 h=>some (.tuple #[y2_1,y3_1],h)
 | .bool false=>ab (C 55 [.int .i64 53] h) fun y10 h=>ab (some (y10,h)) fun y4 h=>ab (some (y4,h)) fun y11 h=>ab (pu (aH y1 0) h) fun y12 h=>ab (ld1 y12 h) fun y13 h=>ab (C 56 [y11,y13] h) fun _ h=>ab (some (y4,h)) fun y15 h=>ab (pu (aH y1 1) h) fun y16 h=>ab (pu (sliceArr 32 1 y16 none none none) h) fun y17 h=>ab (C 57 [y15,y17] h) fun _ h=>ab (some (y4,h)) fun y19 h=>ab (pu (aH y1 33) h) fun y20 h=>ab (ld1 y20 h) fun y21 h=>ab (jC .u8 y21 h) fun y22 h=>ab (C 56 [y19,y22] h) fun _ h=>ab (some (y4,h)) fun y24 h=>ab (pu (aH y1 34) h) fun y25 h=>ab (ld1 y25 h) fun y26 h=>ab (C 58 [y24,y26] h) fun _ h=>ab (some (y4,h)) fun y28 h=>ab (pu (aH y1 35) h) fun y29 h=>ab (ld1 y29 h) fun y30 h=>
 ab (C 58 [y28,y30] h) fun _ h=>ab (some (y4,h)) fun y32 h=>ab (C 56 [y32,.int .u8 0] h) fun _ h=>ab (some (y4,h)) fun y34 h=>ab (pu (aH y1 37) h) fun y35 h=>ab (ld1 y35 h) fun y36 h=>ab (jC .u8 y36 h) fun y37 h=>ab (C 56 [y34,y37] h) fun _ h=>ab (some (y4,h)) fun y39 h=>ab (pu (aH y1 38) h) fun y40 h=>ab (ld1 y40 h) fun y41 h=>ab (jC .u8 y41 h) fun y42 h=>ab (C 56 [y39,y42] h) fun _ h=>ab (some (y4,h)) fun y45 h=>ab (C 59 [y45] h) fun y46 h=>ab (some (y46,h)) fun y44 h=>ab (pu (extractA y44 0) h) fun y47 h=>ab (pu (extractA y44 1) h) fun y48 h=>ab (some (y47,h)) fun y5 h=>ab (some (y48,h)) fun y6 h=>ab (pu (aH y1 36) h) fun y49 h=>ab (ld1 y49 h) fun y50 h=>(match y50 with
 | .bool true=>ab (some (y5,h)) fun y51 h=>ab (some (y5,h)) fun y52 h=>ab (pu (lenL y52) h) fun y53 h=>ab (pu (aC prog .sub 3 y53 (.int .i64 3)) h) fun y54 h=>ab (pu (idxS 1 y51 y54) h) fun y55 h=>ab (eo 1 y55 (.int .u8 1) h) fun _ h=>ab (some (y5,h)) fun y56 h=>ab (some (y6,h)) fun y57 h=>ab (some (y56,h)) fun y2_1 h=>ab (some (y57,h)) fun y3_1 h=>some (.tuple #[y2_1,y3_1],h)
 | .bool false=>ab (some (y5,h)) fun y56 h=>ab (some (y6,h)) fun y57 h=>ab (some (y56,h)) fun y2_1 h=>ab (some (y57,h)) fun y3_1 h=>some (.tuple #[y2_1,y3_1],h)
 |_=>none)
 |_=>none)
theorem t43_eq (C:aj) (x0:Value) (h:ad):ba prog C f24 [x0] h=t43 C x0 h:=
 eH (by kernel_rfl) (by kernel_rfl)
noncomputable def t53 (_:aj) (x0:Value) (h:ad):aS:=
 ab (some (.slice none 0 0,h)) fun _ h=>ab (some (x0,h)) fun y3 h=>ab (pu (aC prog .eql 34 y3 (.slice none 0 0)) h) fun y4 h=>(match y4 with
 | .bool true=>ab (some (.slice none 0 0,h)) fun y2_1 h=>some (y2_1,h)
 | .bool false=>ab (cg 1 (.int .u8 0) 0 [] h) fun y5 h=>ab (some (x0,h)) fun y6 h=>ab (appendA 1 1 y5 y6 h) fun y7 h=>ab (some (y7,h)) fun y2_1 h=>some (y2_1,h)
 |_=>none)
theorem t53_eq (C:aj) (x0:Value) (h:ad):ba prog C f41 [x0] h=t53 C x0 h:=
 eH (by kernel_rfl) (by kernel_rfl)
noncomputable def t86 (_:aj) (x0:Value) (h:ad):aS:=
 ab (box x0 h) fun y1 h=>ab (some (.bool false,h)) fun _ h=>ab (pu (aH y1 33) h) fun y3 h=>ab (ld1 y3 h) fun y4 h=>ab (pu (aC prog .geq 3 y4 (.int .i64 0)) h) fun y5 h=>ab (some (y5,h)) fun y6 h=>ab (ai (aR y6==some true) (pu (aH y1 33) h) h) fun y7 h=>ab (ai (aR y6==some true) (ld1 y7 h) h) fun y8 h=>ab (ai (aR y6==some true) (pu (aC prog .lss 3 y8 (.int .i64 16)) h) h) fun y9 h=>ab (match y6 with | .bool t=>some (if t then y9 else (.bool false),h)|_=>none) fun y10 h=>ab (some (y10,h)) fun y11 h=>ab (ai (aR y11==some true) (pu (aH y1 34) h) h) fun y12 h=>ab (ai (aR y11==some true) (ld1 y12 h) h) fun y13 h=>
 ab (ai (aR y11==some true) (pu (aC prog .geq 32 y13 (.int .u64 1)) h) h) fun y14 h=>ab (match y11 with | .bool t=>some (if t then y14 else (.bool false),h)|_=>none) fun y15 h=>ab (some (y15,h)) fun y2_1 h=>some (y2_1,h)
theorem t86_eq (C:aj) (x0:Value) (h:ad):ba prog C f45 [x0] h=t86 C x0 h:=
 eH (by kernel_rfl) (by kernel_rfl)
noncomputable def t87 (_:aj) (x0:Value) (h:ad):aS:=
 ab (some (.pointer none,h)) fun _ h=>ab (some (x0,h)) fun y3 h=>ab (pu (minmax true (.int .i64 0) [y3]) h) fun y4 h=>ab (pu (ei [.int .i64 0,.bool false,.slice none 0 0] [(0,1,y4)]) h) fun y5 h=>ab (box y5 h) fun y6 h=>ab (some (y6,h)) fun y2_1 h=>some (y2_1,h)
theorem t87_eq (C:aj) (x0:Value) (h:ad):ba prog C f55 [x0] h=t87 C x0 h:=
 eH (by kernel_rfl) (by kernel_rfl)
noncomputable def t88 (C:aj) (x0 x1:Value) (h:ad):aS:=
 ab (some (x0,h)) fun y4 h=>ab (some (x1,h)) fun y5 h=>ab (jC .u64 y5 h) fun y6 h=>ab (C 87 [y4,y6,.int .i64 1] h) fun _ h=>some (.tuple #[],h)
theorem t88_eq (C:aj) (x0 x1:Value) (h:ad):ba prog C f56 [x0,x1] h=t88 C x0 x1 h:=
 eH (by kernel_rfl) (by kernel_rfl)
noncomputable def t89 (C:aj) (x0 x1:Value) (h:ad):aS:=
 ab (some (x0,h)) fun y4 h=>ab (some (x1,h)) fun y5 h=>ab (pu (lenL y5) h) fun y6 h=>ab (C 88 [y4,y6] h) fun y7 h=>(match y7 with
 | .bool true=>ab (some (x0,h)) fun y8 h=>ab (some (x0,h)) fun y9 h=>ab (pu (nilCheckA y9) h) fun y10 h=>ab (pu (aH y10 2) h) fun y11 h=>ab (ld1 y11 h) fun y12 h=>ab (some (x1,h)) fun y13 h=>ab (appendA 1 1 y12 y13 h) fun y14 h=>ab (pu (nilCheckA y8) h) fun y15 h=>ab (pu (aH y15 2) h) fun y16 h=>ab (eo 1 y16 y14 h) fun _ h=>some (.tuple #[],h)
 | .bool false=>some (.tuple #[],h)
 |_=>none)
theorem t89_eq (C:aj) (x0 x1:Value) (h:ad):ba prog C f57 [x0,x1] h=t89 C x0 x1 h:=
 eH (by kernel_rfl) (by kernel_rfl)
noncomputable def t90 (C:aj) (x0 x1:Value) (h:ad):aS:=
 ab (some (x0,h)) fun y4 h=>ab (some (x1,h)) fun y5 h=>ab (C 87 [y4,y5,.int .i64 8] h) fun _ h=>some (.tuple #[],h)
theorem t90_eq (C:aj) (x0 x1:Value) (h:ad):ba prog C f58 [x0,x1] h=t90 C x0 x1 h:=
 eH (by kernel_rfl) (by kernel_rfl)
noncomputable def t91 (C:aj) (x0:Value) (h:ad):aS:=
 ab (some (.slice none 0 0,h)) fun _ h=>ab (some (.int .i64 0,h)) fun _ h=>ab (some (x0,h)) fun y5 h=>ab (pu (aC prog .eql 103 y5 (.pointer none)) h) fun y6 h=>ab (some (y6,h)) fun y4 h=>(match y4 with
 | .bool true=>ab (some (.slice none 0 0,h)) fun y2_1 h=>ab (some (.int .i64 1,h)) fun y3_1 h=>some (.tuple #[y2_1,y3_1],h)
 | .bool false=>ab (some (x0,h)) fun y8 h=>ab (pu (nilCheckA y8) h) fun y9 h=>ab (pu (aH y9 1) h) fun y10 h=>ab (ld1 y10 h) fun y11 h=>ab (some (y11,h)) fun y7 h=>(match y7 with
 | .bool true=>ab (some (.slice none 0 0,h)) fun y2_1 h=>ab (some (.int .i64 3,h)) fun y3_1 h=>some (.tuple #[y2_1,y3_1],h)
 | .bool false=>ab (some (x0,h)) fun y12 h=>ab (pu (nilCheckA y12) h) fun y13 h=>ab (pu (aH y13 2) h) fun y14 h=>ab (ld1 y14 h) fun y15 h=>ab (C 41 [y15] h) fun y16 h=>ab (some (y16,h)) fun y2_1 h=>ab (some (.int .i64 0,h)) fun y3_1 h=>some (.tuple #[y2_1,y3_1],h)
 |_=>none)
 |_=>none)
theorem t91_eq (C:aj) (x0:Value) (h:ad):ba prog C f59 [x0] h=t91 C x0 h:=
 eH (by kernel_rfl) (by kernel_rfl)
noncomputable def b125_2 (_:aj) (i:Nat) (e:aW) (h:ad):aS:=if i=0 then (cE f87) e h else eT i e h
noncomputable def t125 (C:aj) (x0 x1 x2:Value) (h:ad):aS:=
 ab (some (x0,h)) fun y7 h=>ab (some (x2,h)) fun y8 h=>ab (C 88 [y7,y8] h) fun y9 h=>(match y9 with
 | .bool true=>ab (some (x2,h)) fun y10 h=>ab (pu (aC prog .sub 3 y10 (.int .i64 1)) h) fun y11 h=>ab (some (y11,h)) fun y6 h=>dj (iter (codeA prog C (au f87 [1,0,1,0,0])) aB (aL 30 (up (bs [x0,x1,x2]) [(6,y6),(7,y7),(8,y8),(9,y9),(10,y10),(11,y11)])) h) (cE f87) (b125_2 C)
 | .bool false=>some (.tuple #[],h)
 |_=>none)
noncomputable def mF (_:aj) (x:fK) (h:ad):fB:=
 ab (some (x 6,h)) fun y12 h=>ab (pu (aC prog .geq 3 y12 (.int .i64 0)) h) fun y13 h=>(match y13 with
 | .bool true=>ab (some (x 0,h)) fun y16 h=>ab (some (x 0,h)) fun y17 h=>ab (pu (nilCheckA y17) h) fun y18 h=>ab (pu (aH y18 2) h) fun y19 h=>ab (ld1 y19 h) fun y20 h=>ab (some (x 1,h)) fun y21 h=>ab (some (x 6,h)) fun y22 h=>ab (pu (aC prog .mul 3 (.int .i64 8) y22) h) fun y23 h=>ab (pu (aC prog .shr 32 y21 y23) h) fun y24 h=>ab (jC .u8 y24 h) fun y25 h=>ab (cg 1 (.int .u8 0) 1 [(0,y25)] h) fun y26 h=>ab (appendA 1 1 y20 y26 h) fun y27 h=>ab (pu (nilCheckA y16) h) fun y28 h=>ab (pu (aH y28 2) h) fun y29 h=>ab (eo 1 y29 y27 h) fun _ h=>ab (some (x 6,h)) fun y14 h=>ab (pu (aC prog .sub 3 y14 (.int .i64 1)) h) fun y15 h=>ab (some (y15,h)) fun y6 h=>
 some (.normal,(aL 30 (up x [(6,y6),(12,y12),(13,y13),(14,y14),(15,y15),(16,y16),(17,y17),(18,y18),(19,y19),(20,y20),(21,y21),(22,y22),(23,y23),(24,y24),(25,y25),(26,y26),(27,y27),(28,y28),(29,y29)])),h)
 | .bool false=>some (.exit 0,(aL 30 (up x [(12,y12),(13,y13)])),h)
 |_=>none)
theorem t125_eq (C:aj) (x0 x1 x2:Value) (h:ad):ba prog C f87 [x0,x1,x2] h=t125 C x0 x1 x2 h:=
 eH (by kernel_rfl) (by kernel_rfl)
theorem uP:codeA prog C (au f87 [1,0,1,0,0]) (aL 30 x) h=mF C x h:=
 aE (T:=mF C) (fun x h=>by kernel_rfl) x h
noncomputable def t126 (_:aj) (x0 x1:Value) (h:ad):aS:=
 ab (some (.bool false,h)) fun _ h=>ab (some (x0,h)) fun y5 h=>ab (pu (aC prog .eql 103 y5 (.pointer none)) h) fun y6 h=>ab (some (y6,h)) fun y7 h=>ab (ai (aR y7==some false) (some (x0,h)) h) fun y8 h=>ab (ai (aR y7==some false) (pu (nilCheckA y8) h) h) fun y9 h=>ab (ai (aR y7==some false) (pu (aH y9 1) h) h) fun y10 h=>ab (ai (aR y7==some false) (ld1 y10 h) h) fun y11 h=>ab (match y7 with | .bool t=>some (if t then (.bool true) else y11,h)|_=>none) fun y12 h=>(match y12 with
 | .bool true=>ab (some (.bool false,h)) fun y4_1 h=>some (y4_1,h)
 | .bool false=>ab (some (x0,h)) fun y13 h=>ab (some (x1,h)) fun y14 h=>ab (some (x0,h)) fun y15 h=>ab (pu (nilCheckA y15) h) fun y16 h=>ab (pu (aH y16 0) h) fun y17 h=>ab (ld1 y17 h) fun y18 h=>ab (some (x0,h)) fun y19 h=>ab (pu (nilCheckA y19) h) fun y20 h=>ab (pu (aH y20 2) h) fun y21 h=>ab (ld1 y21 h) fun y22 h=>ab (pu (lenL y22) h) fun y23 h=>ab (pu (aC prog .sub 3 y18 y23) h) fun y24 h=>ab (pu (aC prog .gtr 3 y14 y24) h) fun y25 h=>ab (pu (nilCheckA y13) h) fun y26 h=>ab (pu (aH y26 1) h) fun y27 h=>ab (eo 1 y27 y25 h) fun _ h=>ab (some (x0,h)) fun y28 h=>ab (pu (nilCheckA y28) h) fun y29 h=>ab (pu (aH y29 1) h) fun y30 h=>ab (ld1 y30 h) fun y31 h=>
 ab (pu (unA .not y31) h) fun y32 h=>ab (some (y32,h)) fun y4_1 h=>some (y4_1,h)
 |_=>none)
theorem t126_eq (C:aj) (x0 x1:Value) (h:ad):ba prog C f88 [x0,x1] h=t126 C x0 x1 h:=
 eH (by kernel_rfl) (by kernel_rfl)
end
section
variable (C:aj) (i:Nat) (x:fK) (e:aW) (h:ad)
noncomputable def k96_2:aS:=codeK prog C (au f114 [1,1,1]) e h (cE f114) (cE f114) eT
noncomputable def b96_4:aS:=if i=0 then (k96_2 C) e h else eT i e h
noncomputable def t96 (C:aj) (x0 x1:Value) (h:ad):aS:=
 ab (some (.slice none 0 0,h)) fun y4 h=>ab (cg 1 (.int .u8 0) 0 [] h) fun y7 h=>ab (some (y7,h)) fun y5 h=>ab (some (x1,h)) fun y8 h=>ab (pu (aC prog .sub 3 y8 (.int .i64 1)) h) fun y9 h=>ab (some (y9,h)) fun y6 h=>dj (iter (codeA prog C (au f114 [1,1,0,1,0,0])) aB (aL 24 (up (bs [x0,x1]) [(4,y4),(5,y5),(6,y6),(7,y7),(8,y8),(9,y9)])) h) (cE f114) (b96_4 C)
noncomputable def xS (_:aj) (x:fK) (h:ad):aS:=
 ab (some (x 5,h)) fun y23 h=>ab (some (y23,h)) fun y4 h=>some (y4,h)
noncomputable def nO (_:aj) (x:fK) (h:ad):fB:=
 ab (some (x 6,h)) fun y10 h=>ab (pu (aC prog .geq 3 y10 (.int .i64 0)) h) fun y11 h=>(match y11 with
 | .bool true=>ab (some (x 5,h)) fun y14 h=>ab (some (x 0,h)) fun y15 h=>ab (some (x 6,h)) fun y16 h=>ab (jC .u64 y16 h) fun y17 h=>ab (pu (aC prog .mul 120 (.int .u64 8) y17) h) fun y18 h=>ab (pu (aC prog .shr 32 y15 y18) h) fun y19 h=>ab (jC .u8 y19 h) fun y20 h=>ab (cg 1 (.int .u8 0) 1 [(0,y20)] h) fun y21 h=>ab (appendA 1 1 y14 y21 h) fun y22 h=>ab (some (y22,h)) fun y5 h=>ab (some (x 6,h)) fun y12 h=>ab (pu (aC prog .sub 3 y12 (.int .i64 1)) h) fun y13 h=>ab (some (y13,h)) fun y6 h=>some (.normal,(aL 24 (up x [(5,y5),(6,y6),(10,y10),(11,y11),(12,y12),(13,y13),(14,y14),(15,y15),(16,y16),(17,y17),(18,y18),(19,y19),(20,y20),(21,y21),(22,y22)])),h)
 | .bool false=>some (.exit 0,(aL 24 (up x [(10,y10),(11,y11)])),h)
 |_=>none)
theorem t96_eq (C:aj) (x0 x1:Value) (h:ad):ba prog C f114 [x0,x1] h=t96 C x0 x1 h:=
 eH (by kernel_rfl) (by kernel_rfl)
theorem t96k96_2_eq:k96_2 C (aL 24 x) h=xS C x h:=
 qM (T:=xS C) (fun x h=>by kernel_rfl) x h
theorem wV:codeA prog C (au f114 [1,1,0,1,0,0]) (aL 24 x) h=nO C x h:=
 aE (T:=nO C) (fun x h=>by kernel_rfl) x h
noncomputable def t97 (_:aj) (x0:Value) (h:ad):aS:=
 ab (some (.int .u64 0,h)) fun _ h=>ab (some (x0,h)) fun y3 h=>(match y3 with
 | .bool true=>ab (some (.int .u64 1,h)) fun y2_1 h=>some (y2_1,h)
 | .bool false=>ab (some (.int .u64 0,h)) fun y2_1 h=>some (y2_1,h)
 |_=>none)
theorem t97_eq (C:aj) (x0:Value) (h:ad):ba prog C f115 [x0] h=t97 C x0 h:=
 eH (by kernel_rfl) (by kernel_rfl)
noncomputable def t46 (C:aj) (x0:Value) (h:ad):aS:=
 ab (box x0 h) fun y1 h=>ab (some (.slice none 0 0,h)) fun _ h=>ab (some (.int .i64 0,h)) fun _ h=>ab (cx 39 y1 h) fun y5 h=>ab (C 36 [y5] h) fun y6 h=>ab (pu (unA .not y6) h) fun y7 h=>(match y7 with
 | .bool true=>ab (some (.slice none 0 0,h)) fun y2_1 h=>ab (some (.int .i64 2,h)) fun y3_1 h=>some (.tuple #[y2_1,y3_1],h)
 | .bool false=>ab (pu (aH y1 0) h) fun y8 h=>ab (ld1 y8 h) fun y9 h=>ab (pu (aH y1 1) h) fun y11 h=>ab (pu (sliceArr 32 1 y11 none none none) h) fun y12 h=>ab (cg 1 (.int .u8 0) 1 [(0,y9)] h) fun y10 h=>ab (appendA 1 1 y10 y12 h) fun y13 h=>ab (some (y13,h)) fun y4 h=>ab (some (y4,h)) fun y14 h=>ab (pu (aH y1 33) h) fun y15 h=>ab (ld1 y15 h) fun y16 h=>ab (jC .u8 y16 h) fun y17 h=>ab (cg 1 (.int .u8 0) 1 [(0,y17)] h) fun y18 h=>ab (appendA 1 1 y14 y18 h) fun y19 h=>ab (some (y19,h)) fun y4_1 h=>let g7_0:=h
 ab (some (y4_1,g7_0)) fun y20 g7_1=>ab (pu (aH y1 34) g7_1) fun y21 g7_2=>ab (ld1 y21 g7_2) fun y22 g7_3=>ab (C 114 [y22,.int .i64 8] g7_3) fun y23 g7_4=>ab (appendA 1 1 y20 y23 g7_4) fun y24 g7_5=>ab (pu (aH y1 35) g7_5) fun y25 g7_6=>ab (ld1 y25 g7_6) fun y26 g7_7=>ab (C 114 [y26,.int .i64 8] g7_7) fun y27 g7_8=>ab (appendA 1 1 y24 y27 g7_8) fun y28 g7_9=>ab (some (y28,g7_9)) fun y4_2 g7_10=>(match (bF true (ld1 y25 g7_3) y26&&(bF true (ld1 y25 g7_4) y26&&true)) with
 |true=>let h:=g7_10
 let g9_0:=h
 ab (some (y4_2,g9_0)) fun y29 g9_1=>ab (pu (aH y1 36) g9_1) fun y30 g9_2=>ab (ld1 y30 g9_2) fun y31 g9_3=>ab (C 115 [y31] g9_3) fun y32 g9_4=>ab (jC .u8 y32 g9_4) fun y33 g9_5=>ab (pu (aH y1 37) g9_5) fun y34 g9_6=>ab (ld1 y34 g9_6) fun y35 g9_7=>ab (jC .u8 y35 g9_7) fun y36 g9_8=>ab (pu (aH y1 38) g9_8) fun y37 g9_9=>ab (ld1 y37 g9_9) fun y38 g9_10=>ab (jC .u8 y38 g9_10) fun y39 g9_11=>ab (cg 1 (.int .u8 0) 3 [(0,y33),(1,y36),(2,y39)] g9_11) fun y40 g9_12=>ab (appendA 1 1 y29 y40 g9_12) fun y41 g9_13=>ab (some (y41,g9_13)) fun y2_1 g9_14=>ab (some (.int .i64 0,g9_14)) fun y3_1 g9_15=>
 (match (bF true (ld1 y34 g9_3) y35&&(bF true (jC .u8 y35 g9_3) y36&&(bF true (ld1 y37 g9_3) y38&&(bF true (jC .u8 y38 g9_3) y39&&true)))) with
 |true=>let h:=g9_15
 some (.tuple #[y2_1,y3_1],h)
 |false=>none)
 |false=>none)
 |_=>none)
theorem t46_eq (C:aj) (x0:Value) (h:ad):ba prog C f94 [x0] h=t46 C x0 h:=
 eH (by kernel_rfl) (by kernel_rfl)
noncomputable def t48 (_:aj) (x0:Value) (h:ad):aS:=
 ab (box x0 h) fun y1 h=>ab (some (.bool false,h)) fun _ h=>ab (pu (aH y1 33) h) fun y5 h=>ab (ld1 y5 h) fun y6 h=>ab (pu (aC prog .geq 3 y6 (.int .i64 0)) h) fun y7 h=>ab (some (y7,h)) fun y8 h=>ab (ai (aR y8==some true) (pu (aH y1 33) h) h) fun y9 h=>ab (ai (aR y8==some true) (ld1 y9 h) h) fun y10 h=>ab (ai (aR y8==some true) (pu (aC prog .leq 3 y10 (.int .i64 15)) h) h) fun y11 h=>ab (match y8 with | .bool t=>some (if t then y11 else (.bool false),h)|_=>none) fun y12 h=>ab (some (y12,h)) fun y13 h=>ab (ai (aR y13==some true) (pu (aH y1 34) h) h) fun y14 h=>ab (ai (aR y13==some true) (ld1 y14 h) h) fun y15 h=>
 ab (ai (aR y13==some true) (pu (aC prog .geq 32 y15 (.int .u64 1)) h) h) fun y16 h=>ab (match y13 with | .bool t=>some (if t then y16 else (.bool false),h)|_=>none) fun y17 h=>ab (some (y17,h)) fun y3 h=>ab (pu (aH y1 35) h) fun y18 h=>ab (ld1 y18 h) fun y19 h=>ab (pu (aC prog .eql 32 y19 (.int .u64 0)) h) fun y20 h=>ab (some (y20,h)) fun y21 h=>ab (ai (aR y21==some true) (pu (aH y1 36) h) h) fun y22 h=>ab (ai (aR y21==some true) (ld1 y22 h) h) fun y23 h=>ab (ai (aR y21==some true) (pu (unA .not y23) h) h) fun y24 h=>ab (match y21 with | .bool t=>some (if t then y24 else (.bool false),h)|_=>none) fun y25 h=>ab (some (y25,h)) fun y26 h=>
 ab (ai (aR y26==some true) (pu (aH y1 37) h) h) fun y27 h=>ab (ai (aR y26==some true) (ld1 y27 h) h) fun y28 h=>ab (ai (aR y26==some true) (pu (aC prog .eql 3 y28 (.int .i64 0)) h) h) fun y29 h=>ab (match y26 with | .bool t=>some (if t then y29 else (.bool false),h)|_=>none) fun y30 h=>ab (some (y30,h)) fun y31 h=>ab (ai (aR y31==some true) (pu (aH y1 38) h) h) fun y32 h=>ab (ai (aR y31==some true) (ld1 y32 h) h) fun y33 h=>ab (ai (aR y31==some true) (pu (aC prog .eql 3 y33 (.int .i64 0)) h) h) fun y34 h=>ab (match y31 with | .bool t=>some (if t then y34 else (.bool false),h)|_=>none) fun y35 h=>ab (some (y35,h)) fun y4 h=>ab (pu (aH y1 0) h) fun y36 h=>ab (ld1 y36 h) fun y37 h=>
 ab (pu (aC prog .eql 64 y37 (.int .u8 1)) h) fun y39 h=>ab (some (y39,h)) fun y38 h=>(match y38 with
 | .bool true=>ab (some (y3,h)) fun y40 h=>ab (some (y40,h)) fun y41 h=>ab (ai (aR y41==some true) (some (y4,h)) h) fun y42 h=>ab (match y41 with | .bool t=>some (if t then y42 else (.bool false),h)|_=>none) fun y43 h=>ab (some (y43,h)) fun y44 h=>ab (ai (aR y44==some true) (pu (aH y1 1) h) h) fun y45 h=>ab (ai (aR y44==some true) (cx 32 y45 h) h) fun y46 h=>ab (ai (aR y44==some true) (cx 32 (ptr 0 0) h) h) fun y47 h=>ab (ai (aR y44==some true) (pu (aC prog .eql 36 y46 y47) h) h) fun y48 h=>ab (match y44 with | .bool t=>some (if t then y48 else (.bool false),h)|_=>none) fun y49 h=>ab (some (y49,h)) fun y2_1 h=>some (y2_1,h)
 | .bool false=>ab (pu (aC prog .eql 64 y37 (.int .u8 2)) h) fun y51 h=>ab (some (y51,h)) fun y50 h=>(match y50 with
 | .bool true=>ab (some (y4,h)) fun y52 h=>ab (some (y52,h)) fun y53 h=>ab (ai (aR y53==some true) (pu (aH y1 33) h) h) fun y54 h=>ab (ai (aR y53==some true) (ld1 y54 h) h) fun y55 h=>ab (ai (aR y53==some true) (pu (aC prog .eql 3 y55 (.int .i64 0)) h) h) fun y56 h=>ab (match y53 with | .bool t=>some (if t then y56 else (.bool false),h)|_=>none) fun y57 h=>ab (some (y57,h)) fun y58 h=>ab (ai (aR y58==some true) (pu (aH y1 34) h) h) fun y59 h=>ab (ai (aR y58==some true) (ld1 y59 h) h) fun y60 h=>ab (ai (aR y58==some true) (pu (aC prog .eql 32 y60 (.int .u64 0)) h) h) fun y61 h=>ab (match y58 with | .bool t=>some (if t then y61 else (.bool false),h)|_=>none) fun y62 h=>
 ab (some (y62,h)) fun y2_1 h=>some (y2_1,h)
 | .bool false=>ab (pu (aC prog .eql 64 y37 (.int .u8 3)) h) fun y64 h=>ab (some (y64,h)) fun y63 h=>(match y63 with
 | .bool true=>ab (some (y3,h)) fun y65 h=>ab (some (y65,h)) fun y66 h=>ab (ai (aR y66==some true) (pu (aH y1 35) h) h) fun y67 h=>ab (ai (aR y66==some true) (ld1 y67 h) h) fun y68 h=>ab (ai (aR y66==some true) (pu (aC prog .geq 32 y68 (.int .u64 1)) h) h) fun y69 h=>ab (match y66 with | .bool t=>some (if t then y69 else (.bool false),h)|_=>none) fun y70 h=>ab (some (y70,h)) fun y71 h=>ab (ai (aR y71==some true) (pu (aH y1 37) h) h) fun y72 h=>ab (ai (aR y71==some true) (ld1 y72 h) h) fun y73 h=>ab (ai (aR y71==some true) (pu (aC prog .leq 3 (.int .i64 1) y73) h) h) fun y74 h=>ab (match y71 with | .bool t=>some (if t then y74 else (.bool false),h)|_=>none) fun y75 h=>
 ab (some (y75,h)) fun y76 h=>ab (ai (aR y76==some true) (pu (aH y1 37) h) h) fun y77 h=>ab (ai (aR y76==some true) (ld1 y77 h) h) fun y78 h=>ab (ai (aR y76==some true) (pu (aH y1 38) h) h) fun y79 h=>ab (ai (aR y76==some true) (ld1 y79 h) h) fun y80 h=>ab (ai (aR y76==some true) (pu (aC prog .leq 3 y78 y80) h) h) fun y81 h=>ab (match y76 with | .bool t=>some (if t then y81 else (.bool false),h)|_=>none) fun y82 h=>ab (some (y82,h)) fun y83 h=>ab (ai (aR y83==some true) (pu (aH y1 38) h) h) fun y84 h=>ab (ai (aR y83==some true) (ld1 y84 h) h) fun y85 h=>ab (ai (aR y83==some true) (pu (aC prog .leq 3 y85 (.int .i64 255)) h) h) fun y86 h=>
 ab (match y83 with | .bool t=>some (if t then y86 else (.bool false),h)|_=>none) fun y87 h=>ab (some (y87,h)) fun y2_1 h=>some (y2_1,h)
 | .bool false=>ab (some (.bool false,h)) fun y2_1 h=>some (y2_1,h)
 |_=>none)
 |_=>none)
 |_=>none)
theorem t48_eq (C:aj) (x0:Value) (h:ad):ba prog C f36 [x0] h=t48 C x0 h:=
 eH (by kernel_rfl) (by kernel_rfl)
end
section
variable (C:aj) (i:Nat) (x:fK) (e:aW) (h:ad)
noncomputable def t27 (C:aj) (x0:Value) (h:ad):aS:=
 ab (box x0 h) fun y1 h=>ab (some (.slice none 0 0,h)) fun _ h=>ab (some (.int .i64 0,h)) fun _ h=>ab (cx 39 y1 h) fun y4 h=>ab (C 20 [y4] h) fun y5 h=>ab (pu (unA .not y5) h) fun y6 h=>(match y6 with
 | .bool true=>ab (some (.slice none 0 0,h)) fun y2_1 h=>ab (some (.int .i64 2,h)) fun y3_1 h=>some (.tuple #[y2_1,y3_1],h)
 | .bool false=>ab (cx 39 y1 h) fun y7 h=>ab (C 52 [y7] h) fun y8 h=>ab (some (y8,h)) fun y2_1 h=>ab (some (.int .i64 0,h)) fun y3_1 h=>some (.tuple #[y2_1,y3_1],h)
 |_=>none)
theorem t27_eq (C:aj) (x0:Value) (h:ad):ba prog C f63 [x0] h=t27 C x0 h:=
 eH (by kernel_rfl) (by kernel_rfl)
noncomputable def k49_7:aS:=codeK prog C (au f89 [1,1,1,1]) e h (cE f89) (cE f89) eT
noncomputable def b49_9:aS:=if i=0 then (k49_7 C) e h else eT i e h
noncomputable def t49 (C:aj) (x0 x1:Value) (h:ad):aS:=
 ab (box x0 h) fun y2 h=>ab (box x1 h) fun y3 h=>ab (some (.bool false,h)) fun y4 h=>let g3_0:=h
 ab (cx 39 y2 g3_0) fun y8 g3_1=>ab (C 36 [y8] g3_1) fun y9 g3_2=>ab (pu (unA .not y9) g3_2) fun y10 g3_3=>ab (some (y10,g3_3)) fun y11 g3_4=>ab (ai (aR y11==some false) (cx 39 y3 g3_4) g3_4) fun y12 g3_5=>ab (ai (aR y11==some false) (C 36 [y12] g3_5) g3_5) fun y13 g3_6=>ab (ai (aR y11==some false) (pu (unA .not y13) g3_6) g3_6) fun y14 g3_7=>ab (match y11 with | .bool t=>some (if t then (.bool true) else y14,g3_7)|_=>none) fun y15 g3_8=>ab (some (y15,g3_8)) fun y16 g3_9=>ab (ai (aR y16==some false) (cx 39 y2 g3_9) g3_9) fun y17 g3_10=>ab (ai (aR y16==some false) (C 34 [y17] g3_10) g3_10) fun y18 g3_11=>ab (ai (aR y16==some false) (cx 39 y3 g3_11) g3_11) fun y19 g3_12=>
 ab (ai (aR y16==some false) (C 34 [y19] g3_12) g3_12) fun y20 g3_13=>ab (ai (aR y16==some false) (pu (aC prog .neq 9 y18 y20) g3_13) g3_13) fun y21 g3_14=>ab (match y16 with | .bool t=>some (if t then (.bool true) else y21,g3_14)|_=>none) fun y22 g3_15=>(match (bF (aR y16==some false) (cx 39 y3 g3_10) y19&&true) with
 |true=>let h:=g3_15
 (match y22 with
 | .bool true=>ab (some (.bool false,h)) fun y4_1 h=>some (y4_1,h)
 | .bool false=>let g6_0:=h
 ab (cx 39 y2 g6_0) fun y23 g6_1=>ab (C 111 [y23] g6_1) fun y24 g6_2=>ab (cx 39 y3 g6_2) fun y25 g6_3=>ab (C 111 [y25] g6_3) fun y26 g6_4=>ab (dB (List.replicate 5 (.int .u64 0)) g6_4) fun y5 g6_5=>ab (dB (List.replicate 5 (.int .u64 0)) g6_5) fun y6 g6_6=>ab (eo 5 y5 y24 g6_6) fun _ g6_7=>ab (eo 5 y6 y26 g6_7) fun _ g6_8=>(match (bF true (cx 39 y3 g6_1) y25&&true) with
 |true=>let h:=g6_8
 ab (some (.int .i64 0,h)) fun y7 h=>dj (iter (codeA prog C (au f89 [1,1,1,0,1,0,0])) aB (aL 45 (up (bs [x0,x1]) [(2,y2),(3,y3),(4,y4),(5,y5),(6,y6),(7,y7),(8,y8),(9,y9),(10,y10),(11,y11),(12,y12),(13,y13),(14,y14),(15,y15),(16,y16),(17,y17),(18,y18),(19,y19),(20,y20),(21,y21),(22,y22),(23,y23),(24,y24),(25,y25),(26,y26)])) h) (cE f89) (b49_9 C)
 |false=>none)
 |_=>none)
 |false=>none)
noncomputable def yX (_:aj) (_:fK) (h:ad):aS:=
 ab (some (.bool false,h)) fun y4 h=>some (y4,h)
noncomputable def mm (_:aj) (x:fK) (h:ad):fB:=
 ab (some (x 7,h)) fun y27 h=>ab (pu (aC prog .lss 3 y27 (.int .i64 5)) h) fun y28 h=>(match y28 with
 | .bool true=>ab (some (x 7,h)) fun y31 h=>ab (pu (idxA 5 1 (x 5) y31) h) fun y32 h=>ab (ld1 y32 h) fun y33 h=>ab (some (x 7,h)) fun y34 h=>ab (pu (idxA 5 1 (x 6) y34) h) fun y35 h=>ab (ld1 y35 h) fun y36 h=>ab (pu (aC prog .neq 32 y33 y36) h) fun y37 h=>(match y37 with
 | .bool true=>ab (some (x 7,h)) fun y38 h=>ab (pu (idxA 5 1 (x 5) y38) h) fun y39 h=>ab (ld1 y39 h) fun y40 h=>ab (some (x 7,h)) fun y41 h=>ab (pu (idxA 5 1 (x 6) y41) h) fun y42 h=>ab (ld1 y42 h) fun y43 h=>ab (pu (aC prog .gtr 32 y40 y43) h) fun y44 h=>ab (some (y44,h)) fun y4 h=>some (.ret,(aL 45 (up x [(4,y4),(27,y27),(28,y28),(31,y31),(32,y32),(33,y33),(34,y34),(35,y35),(36,y36),(37,y37),(38,y38),(39,y39),(40,y40),(41,y41),(42,y42),(43,y43),(44,y44)])),h)
 | .bool false=>ab (some (x 7,h)) fun y29 h=>ab (pu (aC prog .add 3 y29 (.int .i64 1)) h) fun y30 h=>ab (some (y30,h)) fun y7 h=>some (.normal,(aL 45 (up x [(7,y7),(27,y27),(28,y28),(29,y29),(30,y30),(31,y31),(32,y32),(33,y33),(34,y34),(35,y35),(36,y36),(37,y37)])),h)
 |_=>none)
 | .bool false=>some (.exit 0,(aL 45 (up x [(27,y27),(28,y28)])),h)
 |_=>none)
theorem C6 (C:aj) (x0 x1:Value) (h:ad):ba prog C f89 [x0,x1] h=t49 C x0 x1 h:=
 eH (by kernel_rfl) (by kernel_rfl)
theorem t49k49_7_eq:k49_7 C (aL 45 x) h=yX C x h:=
 qM (T:=yX C) (fun x h=>by kernel_rfl) x h
theorem uC:codeA prog C (au f89 [1,1,1,0,1,0,0]) (aL 45 x) h=mm C x h:=
 aE (T:=mm C) (fun x h=>by kernel_rfl) x h
noncomputable def t62 (_:aj) (x0:Value) (h:ad):aS:=
 ab (box x0 h) fun y1 h=>ab (dB BD h) fun y2 h=>ab (pu (aH y1 0) h) fun y3 h=>ab (ld1 y3 h) fun y4 h=>ab (pu (aH y1 1) h) fun y5 h=>ab (cx 32 y5 h) fun y6 h=>ab (pu (aH y1 33) h) fun y7 h=>ab (ld1 y7 h) fun y8 h=>ab (pu (ei BD [(0,1,y4),(1,32,y6),(33,1,y8)]) h) fun y9 h=>ab (eo 34 y2 y9 h) fun _ h=>resultsA prog f47.results.toList (aL 10 (up (bs [x0]) [(1,y1),(2,y2),(3,y3),(4,y4),(5,y5),(6,y6),(7,y7),(8,y8),(9,y9)])) h
theorem t62_eq (C:aj) (x0:Value) (h:ad):ba prog C f47 [x0] h=t62 C x0 h:=
 eH (by kernel_rfl) (by kernel_rfl)
noncomputable def t63 (C:aj) (x0 x1:Value) (h:ad):aS:=
 ab (box x0 h) fun y2 h=>ab (box x1 h) fun y3 h=>ab (some (.int .i64 0,h)) fun _ h=>ab (some (.int .i64 0,h)) fun y5 h=>ab (pu (aH y2 36) h) fun y6 h=>ab (ld1 y6 h) fun y7 h=>ab (pu (aH y3 36) h) fun y8 h=>ab (ld1 y8 h) fun y9 h=>ab (pu (aC prog .neq 4 y7 y9) h) fun y10 h=>(match y10 with
 | .bool true=>ab (some ((.int .i64 (-1)),h)) fun y5_1 h=>ab (pu (aH y2 36) h) fun y11 h=>ab (ld1 y11 h) fun y12 h=>(match y12 with
 | .bool true=>ab (some (.int .i64 1,h)) fun y5_2 h=>let g7_0:=h
 ab (pu (aH y2 34) g7_0) fun y13 g7_1=>ab (ld1 y13 g7_1) fun y14 g7_2=>ab (pu (aH y3 34) g7_2) fun y15 g7_3=>ab (ld1 y15 g7_3) fun y16 g7_4=>ab (C 81 [y14,y16] g7_4) fun y17 g7_5=>ab (pu (aH y2 35) g7_5) fun y18 g7_6=>ab (ld1 y18 g7_6) fun y19 g7_7=>ab (pu (aH y3 35) g7_7) fun y20 g7_8=>ab (ld1 y20 g7_8) fun y21 g7_9=>ab (C 81 [y19,y21] g7_9) fun y22 g7_10=>ab (some (y5_2,g7_10)) fun y23 g7_11=>ab (pu (aH y2 37) g7_11) fun y24 g7_12=>ab (ld1 y24 g7_12) fun y25 g7_13=>ab (pu (aH y3 37) g7_13) fun y26 g7_14=>ab (ld1 y26 g7_14) fun y27 g7_15=>ab (C 82 [y25,y27] g7_15) fun y28 g7_16=>ab (pu (aH y2 38) g7_16) fun y29 g7_17=>ab (ld1 y29 g7_17) fun y30 g7_18=>
 ab (pu (aH y3 38) g7_18) fun y31 g7_19=>ab (ld1 y31 g7_19) fun y32 g7_20=>ab (C 82 [y30,y32] g7_20) fun y33 g7_21=>ab (cg 1 (.int .i64 0) 5 [(0,y17),(1,y22),(2,y23),(3,y28),(4,y33)] g7_21) fun y34 g7_22=>ab (C 80 [y34] g7_22) fun y35 g7_23=>ab (some (y35,g7_23)) fun y4_1 g7_24=>(match (bF true (ld1 y18 g7_4) y19&&(bF true (ld1 y20 g7_4) y21&&(bF true (ld1 y24 g7_4) y25&&(bF true (ld1 y24 g7_9) y25&&(bF true (ld1 y26 g7_4) y27&&(bF true (ld1 y26 g7_9) y27&&(bF true (ld1 y29 g7_4) y30&&(bF true (ld1 y29 g7_9) y30&&(bF true (ld1 y29 g7_15) y30&&(bF true (ld1 y31 g7_4) y32&&(bF true (ld1 y31 g7_9) y32&&(bF true (ld1 y31 g7_15) y32&&true)))))))))))) with
 |true=>let h:=g7_24
 some (y4_1,h)
 |false=>none)
 | .bool false=>let g8_0:=h
 ab (pu (aH y2 34) g8_0) fun y13 g8_1=>ab (ld1 y13 g8_1) fun y14 g8_2=>ab (pu (aH y3 34) g8_2) fun y15 g8_3=>ab (ld1 y15 g8_3) fun y16 g8_4=>ab (C 81 [y14,y16] g8_4) fun y17 g8_5=>ab (pu (aH y2 35) g8_5) fun y18 g8_6=>ab (ld1 y18 g8_6) fun y19 g8_7=>ab (pu (aH y3 35) g8_7) fun y20 g8_8=>ab (ld1 y20 g8_8) fun y21 g8_9=>ab (C 81 [y19,y21] g8_9) fun y22 g8_10=>ab (some (y5_1,g8_10)) fun y23 g8_11=>ab (pu (aH y2 37) g8_11) fun y24 g8_12=>ab (ld1 y24 g8_12) fun y25 g8_13=>ab (pu (aH y3 37) g8_13) fun y26 g8_14=>ab (ld1 y26 g8_14) fun y27 g8_15=>ab (C 82 [y25,y27] g8_15) fun y28 g8_16=>ab (pu (aH y2 38) g8_16) fun y29 g8_17=>ab (ld1 y29 g8_17) fun y30 g8_18=>
 ab (pu (aH y3 38) g8_18) fun y31 g8_19=>ab (ld1 y31 g8_19) fun y32 g8_20=>ab (C 82 [y30,y32] g8_20) fun y33 g8_21=>ab (cg 1 (.int .i64 0) 5 [(0,y17),(1,y22),(2,y23),(3,y28),(4,y33)] g8_21) fun y34 g8_22=>ab (C 80 [y34] g8_22) fun y35 g8_23=>ab (some (y35,g8_23)) fun y4_1 g8_24=>(match (bF true (ld1 y18 g8_4) y19&&(bF true (ld1 y20 g8_4) y21&&(bF true (ld1 y24 g8_4) y25&&(bF true (ld1 y24 g8_9) y25&&(bF true (ld1 y26 g8_4) y27&&(bF true (ld1 y26 g8_9) y27&&(bF true (ld1 y29 g8_4) y30&&(bF true (ld1 y29 g8_9) y30&&(bF true (ld1 y29 g8_15) y30&&(bF true (ld1 y31 g8_4) y32&&(bF true (ld1 y31 g8_9) y32&&(bF true (ld1 y31 g8_15) y32&&true)))))))))))) with
 |true=>let h:=g8_24
 some (y4_1,h)
 |false=>none)
 |_=>none)
 | .bool false=>let g9_0:=h
 ab (pu (aH y2 34) g9_0) fun y13 g9_1=>ab (ld1 y13 g9_1) fun y14 g9_2=>ab (pu (aH y3 34) g9_2) fun y15 g9_3=>ab (ld1 y15 g9_3) fun y16 g9_4=>ab (C 81 [y14,y16] g9_4) fun y17 g9_5=>ab (pu (aH y2 35) g9_5) fun y18 g9_6=>ab (ld1 y18 g9_6) fun y19 g9_7=>ab (pu (aH y3 35) g9_7) fun y20 g9_8=>ab (ld1 y20 g9_8) fun y21 g9_9=>ab (C 81 [y19,y21] g9_9) fun y22 g9_10=>ab (some (y5,g9_10)) fun y23 g9_11=>ab (pu (aH y2 37) g9_11) fun y24 g9_12=>ab (ld1 y24 g9_12) fun y25 g9_13=>ab (pu (aH y3 37) g9_13) fun y26 g9_14=>ab (ld1 y26 g9_14) fun y27 g9_15=>ab (C 82 [y25,y27] g9_15) fun y28 g9_16=>ab (pu (aH y2 38) g9_16) fun y29 g9_17=>ab (ld1 y29 g9_17) fun y30 g9_18=>
 ab (pu (aH y3 38) g9_18) fun y31 g9_19=>ab (ld1 y31 g9_19) fun y32 g9_20=>ab (C 82 [y30,y32] g9_20) fun y33 g9_21=>ab (cg 1 (.int .i64 0) 5 [(0,y17),(1,y22),(2,y23),(3,y28),(4,y33)] g9_21) fun y34 g9_22=>ab (C 80 [y34] g9_22) fun y35 g9_23=>ab (some (y35,g9_23)) fun y4_1 g9_24=>(match (bF true (ld1 y18 g9_4) y19&&(bF true (ld1 y20 g9_4) y21&&(bF true (ld1 y24 g9_4) y25&&(bF true (ld1 y24 g9_9) y25&&(bF true (ld1 y26 g9_4) y27&&(bF true (ld1 y26 g9_9) y27&&(bF true (ld1 y29 g9_4) y30&&(bF true (ld1 y29 g9_9) y30&&(bF true (ld1 y29 g9_15) y30&&(bF true (ld1 y31 g9_4) y32&&(bF true (ld1 y31 g9_9) y32&&(bF true (ld1 y31 g9_15) y32&&true)))))))))))) with
 |true=>let h:=g9_24
 some (y4_1,h)
 |false=>none)
 |_=>none)
theorem B6 (C:aj) (x0 x1:Value) (h:ad):ba prog C f48 [x0,x1] h=t63 C x0 x1 h:=
 eH (by kernel_rfl) (by kernel_rfl)
noncomputable def t67 (_:aj) (x0:Value) (h:ad):aS:=
 ab (box x0 h) fun y1 h=>ab (some (.slice none 0 0,h)) fun _ h=>ab (mkR 1 1 (.int .u8 0) (.int .i64 0) (.int .i64 34) h) fun y4 h=>ab (some (y4,h)) fun y3 h=>ab (some (y3,h)) fun y5 h=>ab (pu (aH y1 0) h) fun y6 h=>ab (ld1 y6 h) fun y7 h=>ab (cg 1 (.int .u8 0) 1 [(0,y7)] h) fun y8 h=>ab (appendA 1 1 y5 y8 h) fun y9 h=>ab (some (y9,h)) fun y3_1 h=>ab (some (y3_1,h)) fun y10 h=>ab (pu (aH y1 1) h) fun y11 h=>ab (pu (sliceArr 32 1 y11 none none none) h) fun y12 h=>ab (appendA 1 1 y10 y12 h) fun y13 h=>ab (some (y13,h)) fun y3_2 h=>ab (some (y3_2,h)) fun y14 h=>ab (pu (aH y1 33) h) fun y15 h=>ab (ld1 y15 h) fun y16 h=>ab (jC .u8 y16 h) fun y17 h=>
 ab (cg 1 (.int .u8 0) 1 [(0,y17)] h) fun y18 h=>ab (appendA 1 1 y14 y18 h) fun y19 h=>ab (some (y19,h)) fun y2_1 h=>some (y2_1,h)
theorem t67_eq (C:aj) (x0:Value) (h:ad):ba prog C f52 [x0] h=t67 C x0 h:=
 eH (by kernel_rfl) (by kernel_rfl)
noncomputable def t59 (_:aj) (x0:Value) (h:ad):aS:=
 ab (box x0 h) fun y1 h=>ab (some ((.string ⟨#[]⟩),h)) fun _ h=>let g2_0:=h
 ab (pu (aH y1 0) g2_0) fun y3 g2_1=>ab (ld1 y3 g2_1) fun y4 g2_2=>ab (pu (aH y1 1) g2_2) fun y7 g2_3=>ab (pu (sliceArr 32 1 y7 none none none) g2_3) fun y8 g2_4=>ab (pX y8 g2_4) fun y9 g2_5=>ab (pu (aH y1 33) g2_5) fun y11 g2_6=>ab (ld1 y11 g2_6) fun y12 g2_7=>ab (jC .u8 y12 g2_7) fun y13 g2_8=>ab (cg 1 (.int .u8 0) 1 [(0,y4)] g2_8) fun y5 g2_9=>ab (pX y5 g2_9) fun y6 g2_10=>ab (pu (aC prog .add 9 y6 y9) g2_10) fun y10 g2_11=>ab (cg 1 (.int .u8 0) 1 [(0,y13)] g2_11) fun y14 g2_12=>ab (pX y14 g2_12) fun y15 g2_13=>ab (pu (aC prog .add 9 y10 y15) g2_13) fun y16 g2_14=>ab (some (y16,g2_14)) fun y2_1 g2_15=>(match (bF true (pX y14 (ad.plus true g2_8 g2_11 g2_12)) y15&&true) with
 |true=>let h:=g2_15
 some (y2_1,h)
 |false=>none)
theorem t59_eq (C:aj) (x0:Value) (h:ad):ba prog C f34 [x0] h=t59 C x0 h:=
 eH (by kernel_rfl) (by kernel_rfl)
noncomputable def t99 (C:aj) (x0:Value) (h:ad):aS:=
 ab (box x0 h) fun y1 h=>ab (dB (List.replicate 5 (.int .u64 0)) h) fun y2 h=>let g2_0:=h
 ab (pu (aH y1 34) g2_0) fun y3 g2_1=>ab (ld1 y3 g2_1) fun y4 g2_2=>ab (pu (aH y1 35) g2_2) fun y5 g2_3=>ab (ld1 y5 g2_3) fun y6 g2_4=>ab (pu (aH y1 36) g2_4) fun y7 g2_5=>ab (ld1 y7 g2_5) fun y8 g2_6=>ab (C 115 [y8] g2_6) fun y9 g2_7=>ab (pu (aH y1 37) g2_7) fun y10 g2_8=>ab (ld1 y10 g2_8) fun y11 g2_9=>ab (jC .u64 y11 g2_9) fun y12 g2_10=>ab (pu (aH y1 38) g2_10) fun y13 g2_11=>ab (ld1 y13 g2_11) fun y14 g2_12=>ab (jC .u64 y14 g2_12) fun y15 g2_13=>ab (pu (ei (List.replicate 5 (.int .u64 0)) [(0,1,y4),(1,1,y6),(2,1,y9),(3,1,y12),(4,1,y15)]) g2_13) fun y16 g2_14=>ab (eo 5 y2 y16 g2_14) fun _ g2_15=>
 (match (bF true (ld1 y3 g2_7) y4&&(bF true (ld1 y5 g2_7) y6&&(bF true (ld1 y10 g2_6) y11&&(bF true (jC .u64 y11 g2_6) y12&&(bF true (ld1 y13 g2_6) y14&&(bF true (jC .u64 y14 g2_6) y15&&true)))))) with
 |true=>let h:=g2_15
 resultsA prog f111.results.toList (aL 17 (up (bs [x0]) [(1,y1),(2,y2),(3,y3),(4,y4),(5,y5),(6,y6),(7,y7),(8,y8),(9,y9),(10,y10),(11,y11),(12,y12),(13,y13),(14,y14),(15,y15),(16,y16)])) h
 |false=>none)
theorem t99_eq (C:aj) (x0:Value) (h:ad):ba prog C f111 [x0] h=t99 C x0 h:=
 eH (by kernel_rfl) (by kernel_rfl)
noncomputable def k114_2:aS:=codeK prog C (au f80 [1,1,1]) e h (cE f80) (cE f80) eT
noncomputable def b114_4:aS:=if i=0 then (k114_2 C) e h else eT i e h
noncomputable def t114 (C:aj) (x0:Value) (h:ad):aS:=
 ab (some (.int .i64 0,h)) fun y2 h=>ab (some (.int .i64 0,h)) fun y3 h=>ab (some (x0,h)) fun y6 h=>ab (pu (lenL y6) h) fun y7 h=>ab (some (.int .i64 0,h)) fun y8 h=>dj (iter (codeA prog C (au f80 [1,1,0,1,0,0])) aB (aL 18 (up (bs [x0]) [(2,y2),(3,y3),(6,y6),(7,y7),(8,y8)])) h) (cE f80) (b114_4 C)
noncomputable def rA (_:aj) (x:fK) (h:ad):aS:=
 ab (some (x 3,h)) fun y17 h=>ab (some (y17,h)) fun y2 h=>some (y2,h)
noncomputable def km (_:aj) (x:fK) (h:ad):fB:=
 ab (pu (aC prog .lss 3 (x 8) (x 7)) h) fun y9 h=>(match y9 with
 | .bool true=>ab (pu (idxS 1 (x 6) (x 8)) h) fun y10 h=>ab (ld1 y10 h) fun y11 h=>ab (some (y11,h)) fun y5 h=>ab (some (y5,h)) fun y12 h=>ab (some (x 3,h)) fun y13 h=>ab (pu (aC prog .neq 3 y12 y13) h) fun y14 h=>(match y14 with
 | .bool true=>ab (some (y5,h)) fun y15 h=>ab (some (y15,h)) fun y2 h=>some (.ret,(aL 18 (up x [(2,y2),(5,y5),(9,y9),(10,y10),(11,y11),(12,y12),(13,y13),(14,y14),(15,y15)])),h)
 | .bool false=>ab (pu (aC prog .add 3 (x 8) (.int .i64 1)) h) fun y16 h=>ab (some (y16,h)) fun y8 h=>some (.normal,(aL 18 (up x [(5,y5),(8,y8),(9,y9),(10,y10),(11,y11),(12,y12),(13,y13),(14,y14),(16,y16)])),h)
 |_=>none)
 | .bool false=>some (.exit 0,(aL 18 (up x [(9,y9)])),h)
 |_=>none)
theorem t114_eq (C:aj) (x0:Value) (h:ad):ba prog C f80 [x0] h=t114 C x0 h:=
 eH (by kernel_rfl) (by kernel_rfl)
theorem Ai:k114_2 C (aL 18 x) h=rA C x h:=
 qM (T:=rA C) (fun x h=>by kernel_rfl) x h
theorem uv:codeA prog C (au f80 [1,1,0,1,0,0]) (aL 18 x) h=km C x h:=
 aE (T:=km C) (fun x h=>by kernel_rfl) x h
noncomputable def t115 (C:aj) (x0 x1:Value) (h:ad):aS:=
 ab (some (.int .i64 0,h)) fun _ h=>ab (some (x0,h)) fun y7 h=>ab (C 99 [y7] h) fun y8 h=>ab (some (y8,h)) fun y5 h=>ab (some (x1,h)) fun y9 h=>ab (C 99 [y9] h) fun y10 h=>ab (some (y10,h)) fun y6 h=>ab (some (y5,h)) fun y11 h=>(match y11 with
 | .bool true=>ab (some (y6,h)) fun y12 h=>(match y12 with
 | .bool true=>ab (some (.int .i64 0,h)) fun y4_1 h=>some (y4_1,h)
 | .bool false=>ab (some ((.int .i64 (-1)),h)) fun y4_1 h=>some (y4_1,h)
 |_=>none)
 | .bool false=>ab (some (y6,h)) fun y13 h=>(match y13 with
 | .bool true=>ab (some (.int .i64 1,h)) fun y4_1 h=>some (y4_1,h)
 | .bool false=>ab (some (x0,h)) fun y14 h=>ab (some (x1,h)) fun y15 h=>ab (pu (aC prog .lss 32 y14 y15) h) fun y16 h=>(match y16 with
 | .bool true=>ab (some ((.int .i64 (-1)),h)) fun y4_1 h=>some (y4_1,h)
 | .bool false=>ab (some (x0,h)) fun y17 h=>ab (some (x1,h)) fun y18 h=>ab (pu (aC prog .gtr 32 y17 y18) h) fun y19 h=>(match y19 with
 | .bool true=>ab (some (.int .i64 1,h)) fun y4_1 h=>some (y4_1,h)
 | .bool false=>ab (some (.int .i64 0,h)) fun y4_1 h=>some (y4_1,h)
 |_=>none)
 |_=>none)
 |_=>none)
 |_=>none)
theorem t115_eq (C:aj) (x0 x1:Value) (h:ad):ba prog C f81 [x0,x1] h=t115 C x0 x1 h:=
 eH (by kernel_rfl) (by kernel_rfl)
noncomputable def t116 (C:aj) (x0 x1:Value) (h:ad):aS:=
 ab (some (.int .i64 0,h)) fun _ h=>ab (some (x0,h)) fun y7 h=>ab (C 100 [y7] h) fun y8 h=>ab (some (y8,h)) fun y5 h=>ab (some (x1,h)) fun y9 h=>ab (C 100 [y9] h) fun y10 h=>ab (some (y10,h)) fun y6 h=>ab (some (y5,h)) fun y11 h=>(match y11 with
 | .bool true=>ab (some (y6,h)) fun y12 h=>(match y12 with
 | .bool true=>ab (some (.int .i64 0,h)) fun y4_1 h=>some (y4_1,h)
 | .bool false=>ab (some ((.int .i64 (-1)),h)) fun y4_1 h=>some (y4_1,h)
 |_=>none)
 | .bool false=>ab (some (y6,h)) fun y13 h=>(match y13 with
 | .bool true=>ab (some (.int .i64 1,h)) fun y4_1 h=>some (y4_1,h)
 | .bool false=>ab (some (x0,h)) fun y14 h=>ab (some (x1,h)) fun y15 h=>ab (pu (aC prog .lss 3 y14 y15) h) fun y16 h=>(match y16 with
 | .bool true=>ab (some ((.int .i64 (-1)),h)) fun y4_1 h=>some (y4_1,h)
 | .bool false=>ab (some (x0,h)) fun y17 h=>ab (some (x1,h)) fun y18 h=>ab (pu (aC prog .gtr 3 y17 y18) h) fun y19 h=>(match y19 with
 | .bool true=>ab (some (.int .i64 1,h)) fun y4_1 h=>some (y4_1,h)
 | .bool false=>ab (some (.int .i64 0,h)) fun y4_1 h=>some (y4_1,h)
 |_=>none)
 |_=>none)
 |_=>none)
 |_=>none)
theorem t116_eq (C:aj) (x0 x1:Value) (h:ad):ba prog C f82 [x0,x1] h=t116 C x0 x1 h:=
 eH (by kernel_rfl) (by kernel_rfl)
noncomputable def t137 (_:aj) (x0:Value) (h:ad):aS:=
 ab (some (.bool false,h)) fun _ h=>ab (some (x0,h)) fun y3 h=>ab (some (x0,h)) fun y4 h=>ab (pu (aC prog .neq 32 y3 y4) h) fun y5 h=>ab (some (y5,h)) fun y2_1 h=>some (y2_1,h)
theorem t137_eq (C:aj) (x0:Value) (h:ad):ba prog C f99 [x0] h=t137 C x0 h:=
 eH (by kernel_rfl) (by kernel_rfl)
noncomputable def t138 (_:aj) (x0:Value) (h:ad):aS:=
 ab (some (.bool false,h)) fun _ h=>ab (some (x0,h)) fun y3 h=>ab (some (x0,h)) fun y4 h=>ab (pu (aC prog .neq 3 y3 y4) h) fun y5 h=>ab (some (y5,h)) fun y2_1 h=>some (y2_1,h)
theorem t138_eq (C:aj) (x0:Value) (h:ad):ba prog C f100 [x0] h=t138 C x0 h:=
 eH (by kernel_rfl) (by kernel_rfl)
end
section
variable (C:aj) (i:Nat) (x:fK) (e:aW) (h:ad)
noncomputable def k109_2:aS:=codeK prog C (au f71 [1,1,1]) e h (cE f71) (cE f71) eT
noncomputable def b109_3:aS:=if i=0 then (k109_2 C) e h else eT i e h
noncomputable def t109 (C:aj) (x0:Value) (h:ad):aS:=
 ab (some (.int .i64 0,h)) fun y2 h=>ab (some (.int .i64 1,h)) fun y3 h=>dj (iter (codeA prog C (au f71 [1,1,0,0,0])) aB (aL 11 (up (bs [x0]) [(2,y2),(3,y3)])) h) (cE f71) (b109_3 C)
noncomputable def sj (_:aj) (x:fK) (h:ad):aS:=
 ab (some (x 3,h)) fun y10 h=>ab (some (y10,h)) fun y2 h=>some (y2,h)
noncomputable def mu (_:aj) (x:fK) (h:ad):fB:=
 ab (some (x 3,h)) fun y4 h=>ab (pu (aC prog .mul 3 (.int .i64 2) y4) h) fun y5 h=>ab (some (x 0,h)) fun y6 h=>ab (pu (aC prog .lss 3 y5 y6) h) fun y7 h=>(match y7 with
 | .bool true=>ab (some (x 3,h)) fun y8 h=>ab (pu (aC prog .mul 3 y8 (.int .i64 2)) h) fun y9 h=>ab (some (y9,h)) fun y3 h=>some (.normal,(aL 11 (up x [(3,y3),(4,y4),(5,y5),(6,y6),(7,y7),(8,y8),(9,y9)])),h)
 | .bool false=>some (.exit 0,(aL 11 (up x [(4,y4),(5,y5),(6,y6),(7,y7)])),h)
 |_=>none)
theorem t109_eq (C:aj) (x0:Value) (h:ad):ba prog C f71 [x0] h=t109 C x0 h:=
 eH (by kernel_rfl) (by kernel_rfl)
theorem Av:k109_2 C (aL 11 x) h=sj C x h:=
 qM (T:=sj C) (fun x h=>by kernel_rfl) x h
theorem vd:codeA prog C (au f71 [1,1,0,0,0]) (aL 11 x) h=mu C x h:=
 aE (T:=mu C) (fun x h=>by kernel_rfl) x h
end
section
variable (C:aj) (i:Nat) (x:fK) (e:aW) (h:ad)
noncomputable def t121 (_:aj) (h:ad):aS:=
 ab (some (.pointer none,h)) fun _ h=>ab (pu (ei (List.replicate 8 (.int .u32 0)) [(0,1,.int .u32 1779033703),(1,1,.int .u32 3144134277),(2,1,.int .u32 1013904242),(3,1,.int .u32 2773480762),(4,1,.int .u32 1359893119),(5,1,.int .u32 2600822924),(6,1,.int .u32 528734635),(7,1,.int .u32 1541459225)]) h) fun y1 h=>ab (pu (ei zlit4 [(0,8,y1)]) h) fun y2 h=>ab (box y2 h) fun y3 h=>ab (some (y3,h)) fun y0_1 h=>some (y0_1,h)
theorem t121_eq (C:aj) (h:ad):ba prog C f95 [] h=t121 C h:=
 eH (by kernel_rfl) (by kernel_rfl)
noncomputable def b122_2 (_:aj) (i:Nat) (e:aW) (h:ad):aS:=if i=0 then (cE f96) e h else eT i e h
noncomputable def t122 (C:aj) (x0 x1:Value) (h:ad):aS:=
 ab (some (x0,h)) fun y6 h=>ab (pu (aC prog .eql 142 y6 (.pointer none)) h) fun y7 h=>(match y7 with
 | .bool true=>some (.tuple #[],h)
 | .bool false=>dj (iter (codeA prog C (au f96 [1,0,0])) aB (aL 40 (up (bs [x0,x1]) [(6,y6),(7,y7)])) h) (cE f96) (b122_2 C)
 |_=>none)
noncomputable def pU:fB:=
 ab (some (x 1,h)) fun y8 h=>ab (pu (lenL y8) h) fun y9 h=>ab (pu (aC prog .gtr 3 y9 (.int .i64 0)) h) fun y10 h=>(match y10 with
 | .bool true=>ab (some (x 0,h)) fun y11 h=>ab (pu (nilCheckA y11) h) fun y12 h=>ab (pu (aH y12 72) h) fun y13 h=>ab (ld1 y13 h) fun y14 h=>ab (pu (aC prog .rem 3 y14 (.int .i64 64)) h) fun y15 h=>ab (some (y15,h)) fun y4 h=>ab (some (x 0,h)) fun y16 h=>ab (pu (nilCheckA y16) h) fun y17 h=>ab (pu (aH y17 8) h) fun y18 h=>ab (some (y4,h)) fun y19 h=>ab (pu (sliceArr 64 1 y18 (some y19) none none) h) fun y20 h=>ab (some (x 1,h)) fun y21 h=>ab (sX 1 y20 y21 h) fun y22 h=>ab (some (y22,h)) fun y5 h=>ab (some (x 0,h)) fun y23 h=>ab (pu (nilCheckA y23) h) fun y24 h=>ab (pu (aH y24 72) h) fun y25 h=>ab (ld1 y25 h) fun y26 h=>ab (some (y5,h)) fun y27 h=>
 ab (pu (aC prog .add 3 y26 y27) h) fun y28 h=>ab (pu (nilCheckA y23) h) fun y29 h=>ab (pu (aH y29 72) h) fun y30 h=>ab (eo 1 y30 y28 h) fun _ h=>ab (some (x 1,h)) fun y31 h=>ab (some (y5,h)) fun y32 h=>ab (pu (iw 1 y31 (some y32) none none) h) fun y33 h=>ab (some (y33,h)) fun y1 h=>ab (some (y4,h)) fun y34 h=>ab (some (y5,h)) fun y35 h=>ab (pu (aC prog .add 3 y34 y35) h) fun y36 h=>ab (pu (aC prog .eql 3 y36 (.int .i64 64)) h) fun y37 h=>(match y37 with
 | .bool true=>ab (some (x 0,h)) fun y38 h=>ab (C 116 [y38] h) fun y39 h=>some (.normal,(aL 40 (up x [(1,y1),(4,y4),(5,y5),(8,y8),(9,y9),(10,y10),(11,y11),(12,y12),(13,y13),(14,y14),(15,y15),(16,y16),(17,y17),(18,y18),(19,y19),(20,y20),(21,y21),(22,y22),(23,y23),(24,y24),(25,y25),(26,y26),(27,y27),(28,y28),(29,y29),(30,y30),(31,y31),(32,y32),(33,y33),(34,y34),(35,y35),(36,y36),(37,y37),(38,y38),(39,y39)])),h)
 | .bool false=>some (.normal,(aL 40 (up x [(1,y1),(4,y4),(5,y5),(8,y8),(9,y9),(10,y10),(11,y11),(12,y12),(13,y13),(14,y14),(15,y15),(16,y16),(17,y17),(18,y18),(19,y19),(20,y20),(21,y21),(22,y22),(23,y23),(24,y24),(25,y25),(26,y26),(27,y27),(28,y28),(29,y29),(30,y30),(31,y31),(32,y32),(33,y33),(34,y34),(35,y35),(36,y36),(37,y37)])),h)
 |_=>none)
 | .bool false=>some (.exit 0,(aL 40 (up x [(8,y8),(9,y9),(10,y10)])),h)
 |_=>none)
theorem t122_eq (C:aj) (x0 x1:Value) (h:ad):ba prog C f96 [x0,x1] h=t122 C x0 x1 h:=
 eH (by kernel_rfl) (by kernel_rfl)
theorem yg:codeA prog C (au f96 [1,0,0]) (aL 40 x) h=pU C x h:=
 aE (T:=pU C) (fun x h=>by kernel_rfl) x h
noncomputable def k123_9:aS:=codeK prog C (au f97 [1,1,1,1,1,1,1,1]) e h (cE f97) (cE f97) eT
noncomputable def b123_11:aS:=if i=0 then (k123_9 C) e h else eT i e h
noncomputable def k123_14:aS:=codeK prog C (au f97 [1,1,1,1,1,1,1,1,1,1,1]) e h (cE f97) (cE f97) eT
noncomputable def b123_16:aS:=if i=2 then (k123_14 C) e h else eT i e h
noncomputable def t123 (C:aj) (x0:Value) (h:ad):aS:=
 ab (dB (List.replicate 32 (.int .u8 0)) h) fun y2 h=>ab (some (x0,h)) fun y10 h=>ab (pu (aC prog .eql 142 y10 (.pointer none)) h) fun y11 h=>(match y11 with
 | .bool true=>ab (pu (ei (List.replicate 32 (.int .u8 0)) []) h) fun y12 h=>ab (eo 32 y2 y12 h) fun _ h=>resultsA prog f97.results.toList (aL 66 (up (bs [x0]) [(2,y2),(10,y10),(11,y11),(12,y12)])) h
 | .bool false=>ab (some (x0,h)) fun y13 h=>ab (pu (nilCheckA y13) h) fun y14 h=>ab (cx 73 y14 h) fun y15 h=>ab (dB zlit4 h) fun y3 h=>ab (eo 73 y3 y15 h) fun _ h=>ab (dB (List.replicate 72 (.int .u8 0)) h) fun y4 h=>ab (pu (idxA 72 1 y4 (.int .i64 0)) h) fun y16 h=>ab (eo 1 y16 (.int .u8 128) h) fun _ h=>ab (some (x0,h)) fun y17 h=>ab (pu (nilCheckA y17) h) fun y18 h=>ab (pu (aH y18 72) h) fun y19 h=>ab (ld1 y19 h) fun y20 h=>ab (pu (aC prog .add 3 y20 (.int .i64 8)) h) fun y21 h=>ab (pu (aC prog .rem 3 y21 (.int .i64 64)) h) fun y22 h=>ab (pu (aC prog .sub 3 (.int .i64 64) y22) h) fun y23 h=>ab (some (y23,h)) fun y5 h=>ab (some (x0,h)) fun y24 h=>ab (pu (nilCheckA y24) h) fun y25 h=>
 ab (pu (aH y25 72) h) fun y26 h=>ab (ld1 y26 h) fun y27 h=>ab (jC .u64 y27 h) fun y28 h=>ab (pu (aC prog .mul 32 y28 (.int .u64 8)) h) fun y29 h=>ab (some (y29,h)) fun y6 h=>ab (some (.int .i64 0,h)) fun y30 h=>dj (iter (codeA prog C (au f97 [1,1,1,1,1,1,1,0,1,0,0])) aB (aL 66 (up (bs [x0]) [(2,y2),(3,y3),(4,y4),(5,y5),(6,y6),(10,y10),(11,y11),(13,y13),(14,y14),(15,y15),(16,y16),(17,y17),(18,y18),(19,y19),(20,y20),(21,y21),(22,y22),(23,y23),(24,y24),(25,y25),(26,y26),(27,y27),(28,y28),(29,y29),(30,y30)])) h) (cE f97) (b123_11 C)
 |_=>none)
noncomputable def rJ:aS:=
 ab (some (x 5,h)) fun y44 h=>ab (pu (aC prog .add 3 y44 (.int .i64 8)) h) fun y45 h=>ab (pu (sliceArr 72 1 (x 4) none (some y45) none) h) fun y46 h=>ab (C 96 [x 3,y46] h) fun y47 h=>ab (dB (List.replicate 32 (.int .u8 0)) h) fun y8 h=>ab (some (.int .i64 0,h)) fun y48 h=>dj (iter (codeA prog C (au f97 [1,1,1,1,1,1,1,1,1,1,0,1,0,0])) aB (aL 66 (up x [(8,y8),(44,y44),(45,y45),(46,y46),(47,y47),(48,y48)])) h) (cE f97) (b123_16 C)
noncomputable def gA (_:aj) (x:fK) (h:ad):fB:=
 ab (pu (aC prog .lss 3 (x 30) (.int .i64 8)) h) fun y31 h=>(match y31 with
 | .bool true=>ab (some (x 30,h)) fun y32 h=>ab (some (y32,h)) fun y7 h=>ab (some (x 5,h)) fun y33 h=>ab (some (y7,h)) fun y34 h=>ab (pu (aC prog .add 3 y33 y34) h) fun y35 h=>ab (some (x 6,h)) fun y36 h=>ab (some (y7,h)) fun y37 h=>ab (pu (aC prog .mul 3 (.int .i64 8) y37) h) fun y38 h=>ab (pu (aC prog .sub 3 (.int .i64 56) y38) h) fun y39 h=>ab (pu (aC prog .shr 32 y36 y39) h) fun y40 h=>ab (jC .u8 y40 h) fun y41 h=>ab (pu (idxA 72 1 (x 4) y35) h) fun y42 h=>ab (eo 1 y42 y41 h) fun _ h=>ab (pu (aC prog .add 3 (x 30) (.int .i64 1)) h) fun y43 h=>ab (some (y43,h)) fun y30 h=>
 some (.normal,(aL 66 (up x [(7,y7),(30,y30),(31,y31),(32,y32),(33,y33),(34,y34),(35,y35),(36,y36),(37,y37),(38,y38),(39,y39),(40,y40),(41,y41),(42,y42),(43,y43)])),h)
 | .bool false=>some (.exit 0,(aL 66 (up x [(31,y31)])),h)
 |_=>none)
noncomputable def pV (_:aj) (x:fK) (h:ad):aS:=
 ab (cx 32 (x 8) h) fun y65 h=>ab (eo 32 (x 2) y65 h) fun _ h=>resultsA prog f97.results.toList (aL 66 (up x [(65,y65)])) h
noncomputable def fe (_:aj) (x:fK) (h:ad):fB:=
 ab (pu (aC prog .lss 3 (x 48) (.int .i64 32)) h) fun y49 h=>(match y49 with
 | .bool true=>ab (some (x 48,h)) fun y50 h=>ab (some (y50,h)) fun y9 h=>ab (some (y9,h)) fun y51 h=>ab (some (y9,h)) fun y52 h=>ab (pu (aC prog .quo 3 y52 (.int .i64 4)) h) fun y53 h=>ab (pu (aH (x 3) 0) h) fun y54 h=>ab (pu (idxA 8 1 y54 y53) h) fun y55 h=>ab (ld1 y55 h) fun y56 h=>ab (some (y9,h)) fun y57 h=>ab (pu (aC prog .rem 3 y57 (.int .i64 4)) h) fun y58 h=>ab (pu (aC prog .mul 3 (.int .i64 8) y58) h) fun y59 h=>ab (pu (aC prog .sub 3 (.int .i64 24) y59) h) fun y60 h=>ab (pu (aC prog .shr 139 y56 y60) h) fun y61 h=>ab (jC .u8 y61 h) fun y62 h=>ab (pu (idxA 32 1 (x 8) y51) h) fun y63 h=>ab (eo 1 y63 y62 h) fun _ h=>ab (pu (aC prog .add 3 (x 48) (.int .i64 1)) h) fun y64 h=>
 ab (some (y64,h)) fun y48 h=>some (.normal,(aL 66 (up x [(9,y9),(48,y48),(49,y49),(50,y50),(51,y51),(52,y52),(53,y53),(54,y54),(55,y55),(56,y56),(57,y57),(58,y58),(59,y59),(60,y60),(61,y61),(62,y62),(63,y63),(64,y64)])),h)
 | .bool false=>some (.exit 2,(aL 66 (up x [(49,y49)])),h)
 |_=>none)
theorem t123_eq (C:aj) (x0:Value) (h:ad):ba prog C f97 [x0] h=t123 C x0 h:=
 eH (by kernel_rfl) (by kernel_rfl)
theorem AR:k123_9 C (aL 66 x) h=rJ C x h:=
 qM (T:=rJ C) (fun x h=>by kernel_rfl) x h
theorem nL:codeA prog C (au f97 [1,1,1,1,1,1,1,0,1,0,0]) (aL 66 x) h=gA C x h:=
 aE (T:=gA C) (fun x h=>by kernel_rfl) x h
theorem zQ:k123_14 C (aL 66 x) h=pV C x h:=
 qM (T:=pV C) (fun x h=>by kernel_rfl) x h
theorem kZ:codeA prog C (au f97 [1,1,1,1,1,1,1,1,1,1,0,1,0,0]) (aL 66 x) h=fe C x h:=
 aE (T:=fe C) (fun x h=>by kernel_rfl) x h
noncomputable def k149_1:aS:=codeK prog C (au f116 [1,1]) e h (cE f116) (cE f116) eT
noncomputable def b149_3:aS:=if i=0 then (k149_1 C) e h else eT i e h
noncomputable def k149_4:aS:=codeK prog C (au f116 [1,1,1]) e h (cE f116) (cE f116) eT
noncomputable def b149_6:aS:=if i=2 then (k149_4 C) e h else eT i e h
noncomputable def k149_14:aS:=codeK prog C (au f116 [1,1,1,1,1,1]) e h (cE f116) (cE f116) eT
noncomputable def b149_16:aS:=if i=4 then (k149_14 C) e h else eT i e h
noncomputable def b149_25 (_:aj) (i:Nat) (e:aW) (h:ad):aS:=if i=6 then (cE f116) e h else eT i e h
noncomputable def t149 (C:aj) (x0:Value) (h:ad):aS:=
 ab (dB (List.replicate 64 (.int .u32 0)) h) fun y2 h=>ab (some (.int .i64 0,h)) fun y24 h=>dj (iter (codeA prog C (au f116 [1,0,1,0,0])) aB (aL 241 (up (bs [x0]) [(2,y2),(24,y24)])) h) (cE f116) (b149_3 C)
noncomputable def sc:aS:=
 ab (some (.int .i64 16,h)) fun y4 h=>dj (iter (codeA prog C (au f116 [1,1,0,1,0,0])) aB (aL 241 (up x [(4,y4)])) h) (cE f116) (b149_6 C)
noncomputable def lV (_:aj) (x:fK) (h:ad):fB:=
 ab (pu (aC prog .lss 3 (x 24) (.int .i64 16)) h) fun y25 h=>(match y25 with
 | .bool true=>ab (some (x 24,h)) fun y26 h=>ab (some (y26,h)) fun y3 h=>ab (some (y3,h)) fun y27 h=>ab (some (x 0,h)) fun y28 h=>ab (some (y3,h)) fun y29 h=>ab (pu (aC prog .mul 3 (.int .i64 4) y29) h) fun y30 h=>ab (pu (nilCheckA y28) h) fun y31 h=>ab (pu (aH y31 8) h) fun y32 h=>ab (pu (idxA 64 1 y32 y30) h) fun y33 h=>ab (ld1 y33 h) fun y34 h=>ab (jC .u32 y34 h) fun y35 h=>ab (pu (aC prog .shl 139 y35 (.int .u64 24)) h) fun y36 h=>ab (some (x 0,h)) fun y37 h=>ab (some (y3,h)) fun y38 h=>ab (pu (aC prog .mul 3 (.int .i64 4) y38) h) fun y39 h=>ab (pu (aC prog .add 3 y39 (.int .i64 1)) h) fun y40 h=>ab (pu (nilCheckA y37) h) fun y41 h=>ab (pu (aH y41 8) h) fun y42 h=>
 ab (pu (idxA 64 1 y42 y40) h) fun y43 h=>ab (ld1 y43 h) fun y44 h=>ab (jC .u32 y44 h) fun y45 h=>ab (pu (aC prog .shl 139 y45 (.int .u64 16)) h) fun y46 h=>ab (pu (aC prog .or 139 y36 y46) h) fun y47 h=>ab (some (x 0,h)) fun y48 h=>ab (some (y3,h)) fun y49 h=>ab (pu (aC prog .mul 3 (.int .i64 4) y49) h) fun y50 h=>ab (pu (aC prog .add 3 y50 (.int .i64 2)) h) fun y51 h=>ab (pu (nilCheckA y48) h) fun y52 h=>ab (pu (aH y52 8) h) fun y53 h=>ab (pu (idxA 64 1 y53 y51) h) fun y54 h=>ab (ld1 y54 h) fun y55 h=>ab (jC .u32 y55 h) fun y56 h=>ab (pu (aC prog .shl 139 y56 (.int .u64 8)) h) fun y57 h=>ab (pu (aC prog .or 139 y47 y57) h) fun y58 h=>ab (some (x 0,h)) fun y59 h=>
 ab (some (y3,h)) fun y60 h=>ab (pu (aC prog .mul 3 (.int .i64 4) y60) h) fun y61 h=>ab (pu (aC prog .add 3 y61 (.int .i64 3)) h) fun y62 h=>ab (pu (nilCheckA y59) h) fun y63 h=>ab (pu (aH y63 8) h) fun y64 h=>ab (pu (idxA 64 1 y64 y62) h) fun y65 h=>ab (ld1 y65 h) fun y66 h=>ab (jC .u32 y66 h) fun y67 h=>ab (pu (aC prog .or 139 y58 y67) h) fun y68 h=>ab (pu (idxA 64 1 (x 2) y27) h) fun y69 h=>ab (eo 1 y69 y68 h) fun _ h=>ab (pu (aC prog .add 3 (x 24) (.int .i64 1)) h) fun y70 h=>ab (some (y70,h)) fun y24 h=>
 some (.normal,(aL 241 (up x [(3,y3),(24,y24),(25,y25),(26,y26),(27,y27),(28,y28),(29,y29),(30,y30),(31,y31),(32,y32),(33,y33),(34,y34),(35,y35),(36,y36),(37,y37),(38,y38),(39,y39),(40,y40),(41,y41),(42,y42),(43,y43),(44,y44),(45,y45),(46,y46),(47,y47),(48,y48),(49,y49),(50,y50),(51,y51),(52,y52),(53,y53),(54,y54),(55,y55),(56,y56),(57,y57),(58,y58),(59,y59),(60,y60),(61,y61),(62,y62),(63,y63),(64,y64),(65,y65),(66,y66),(67,y67),(68,y68),(69,y69),(70,y70)])),h)
 | .bool false=>some (.exit 0,(aL 241 (up x [(25,y25)])),h)
 |_=>none)
noncomputable def sJ:aS:=
 ab (some (x 0,h)) fun y114 h=>ab (pu (nilCheckA y114) h) fun y115 h=>ab (pu (aH y115 0) h) fun y116 h=>ab (pu (idxA 8 1 y116 (.int .i64 0)) h) fun y117 h=>ab (ld1 y117 h) fun y118 h=>ab (some (x 0,h)) fun y119 h=>ab (pu (nilCheckA y119) h) fun y120 h=>ab (pu (aH y120 0) h) fun y121 h=>ab (pu (idxA 8 1 y121 (.int .i64 1)) h) fun y122 h=>ab (ld1 y122 h) fun y123 h=>ab (some (x 0,h)) fun y124 h=>ab (pu (nilCheckA y124) h) fun y125 h=>ab (pu (aH y125 0) h) fun y126 h=>ab (pu (idxA 8 1 y126 (.int .i64 2)) h) fun y127 h=>ab (ld1 y127 h) fun y128 h=>ab (some (x 0,h)) fun y129 h=>ab (pu (nilCheckA y129) h) fun y130 h=>ab (pu (aH y130 0) h) fun y131 h=>
 ab (pu (idxA 8 1 y131 (.int .i64 3)) h) fun y132 h=>ab (ld1 y132 h) fun y133 h=>ab (some (y118,h)) fun y9 h=>ab (some (y123,h)) fun y10 h=>ab (some (y128,h)) fun y11 h=>ab (some (y133,h)) fun y12 h=>ab (some (x 0,h)) fun y134 h=>ab (pu (nilCheckA y134) h) fun y135 h=>ab (pu (aH y135 0) h) fun y136 h=>ab (pu (idxA 8 1 y136 (.int .i64 4)) h) fun y137 h=>ab (ld1 y137 h) fun y138 h=>ab (some (x 0,h)) fun y139 h=>ab (pu (nilCheckA y139) h) fun y140 h=>ab (pu (aH y140 0) h) fun y141 h=>ab (pu (idxA 8 1 y141 (.int .i64 5)) h) fun y142 h=>ab (ld1 y142 h) fun y143 h=>ab (some (x 0,h)) fun y144 h=>ab (pu (nilCheckA y144) h) fun y145 h=>ab (pu (aH y145 0) h) fun y146 h=>
 ab (pu (idxA 8 1 y146 (.int .i64 6)) h) fun y147 h=>ab (ld1 y147 h) fun y148 h=>ab (some (x 0,h)) fun y149 h=>ab (pu (nilCheckA y149) h) fun y150 h=>ab (pu (aH y150 0) h) fun y151 h=>ab (pu (idxA 8 1 y151 (.int .i64 7)) h) fun y152 h=>ab (ld1 y152 h) fun y153 h=>ab (some (y138,h)) fun y13 h=>ab (some (y143,h)) fun y14 h=>ab (some (y148,h)) fun y15 h=>ab (some (y153,h)) fun y16 h=>ab (some (.int .i64 0,h)) fun y154 h=>
 dj (iter (codeA prog C (au f116 [1,1,1,1,1,0,1,0,0])) aB (aL 241 (up x [(9,y9),(10,y10),(11,y11),(12,y12),(13,y13),(14,y14),(15,y15),(16,y16),(114,y114),(115,y115),(116,y116),(117,y117),(118,y118),(119,y119),(120,y120),(121,y121),(122,y122),(123,y123),(124,y124),(125,y125),(126,y126),(127,y127),(128,y128),(129,y129),(130,y130),(131,y131),(132,y132),(133,y133),(134,y134),(135,y135),(136,y136),(137,y137),(138,y138),(139,y139),(140,y140),(141,y141),(142,y142),(143,y143),(144,y144),(145,y145),(146,y146),(147,y147),(148,y148),(149,y149),(150,y150),(151,y151),(152,y152),(153,y153),(154,y154)])) h) (cE f116) (b149_16 C)
noncomputable def kD:fB:=
 ab (some (x 4,h)) fun y71 h=>ab (pu (aC prog .lss 3 y71 (.int .i64 64)) h) fun y72 h=>(match y72 with
 | .bool true=>ab (some (x 4,h)) fun y75 h=>ab (pu (aC prog .sub 3 y75 (.int .i64 15)) h) fun y76 h=>ab (pu (idxA 64 1 (x 2) y76) h) fun y77 h=>ab (ld1 y77 h) fun y78 h=>ab (some (x 4,h)) fun y79 h=>ab (pu (aC prog .sub 3 y79 (.int .i64 2)) h) fun y80 h=>ab (pu (idxA 64 1 (x 2) y80) h) fun y81 h=>ab (ld1 y81 h) fun y82 h=>ab (some (y78,h)) fun y5 h=>ab (some (y82,h)) fun y6 h=>ab (some (y5,h)) fun y83 h=>ab (C 123 [y83,(.int .i64 (-7))] h) fun y84 h=>ab (some (y5,h)) fun y85 h=>ab (C 123 [y85,(.int .i64 (-18))] h) fun y86 h=>ab (pu (aC prog .xor 139 y84 y86) h) fun y87 h=>ab (some (y5,h)) fun y88 h=>ab (pu (aC prog .shr 139 y88 (.int .u64 3)) h) fun y89 h=>
 ab (pu (aC prog .xor 139 y87 y89) h) fun y90 h=>ab (some (y90,h)) fun y7 h=>ab (some (y6,h)) fun y91 h=>ab (C 123 [y91,(.int .i64 (-17))] h) fun y92 h=>ab (some (y6,h)) fun y93 h=>ab (C 123 [y93,(.int .i64 (-19))] h) fun y94 h=>ab (pu (aC prog .xor 139 y92 y94) h) fun y95 h=>ab (some (y6,h)) fun y96 h=>ab (pu (aC prog .shr 139 y96 (.int .u64 10)) h) fun y97 h=>ab (pu (aC prog .xor 139 y95 y97) h) fun y98 h=>ab (some (y98,h)) fun y8 h=>ab (some (x 4,h)) fun y99 h=>ab (some (x 4,h)) fun y100 h=>ab (pu (aC prog .sub 3 y100 (.int .i64 16)) h) fun y101 h=>ab (pu (idxA 64 1 (x 2) y101) h) fun y102 h=>ab (ld1 y102 h) fun y103 h=>ab (some (y7,h)) fun y104 h=>
 ab (pu (aC prog .add 139 y103 y104) h) fun y105 h=>ab (some (x 4,h)) fun y106 h=>ab (pu (aC prog .sub 3 y106 (.int .i64 7)) h) fun y107 h=>ab (pu (idxA 64 1 (x 2) y107) h) fun y108 h=>ab (ld1 y108 h) fun y109 h=>ab (pu (aC prog .add 139 y105 y109) h) fun y110 h=>ab (some (y8,h)) fun y111 h=>ab (pu (aC prog .add 139 y110 y111) h) fun y112 h=>ab (pu (idxA 64 1 (x 2) y99) h) fun y113 h=>ab (eo 1 y113 y112 h) fun _ h=>ab (some (x 4,h)) fun y73 h=>ab (pu (aC prog .add 3 y73 (.int .i64 1)) h) fun y74 h=>ab (some (y74,h)) fun y4 h=>
 some (.normal,(aL 241 (up x [(4,y4),(5,y5),(6,y6),(7,y7),(8,y8),(71,y71),(72,y72),(73,y73),(74,y74),(75,y75),(76,y76),(77,y77),(78,y78),(79,y79),(80,y80),(81,y81),(82,y82),(83,y83),(84,y84),(85,y85),(86,y86),(87,y87),(88,y88),(89,y89),(90,y90),(91,y91),(92,y92),(93,y93),(94,y94),(95,y95),(96,y96),(97,y97),(98,y98),(99,y99),(100,y100),(101,y101),(102,y102),(103,y103),(104,y104),(105,y105),(106,y106),(107,y107),(108,y108),(109,y109),(110,y110),(111,y111),(112,y112),(113,y113)])),h)
 | .bool false=>some (.exit 2,(aL 241 (up x [(71,y71),(72,y72)])),h)
 |_=>none)
noncomputable def pg:aS:=
 ab (some (x 9,h)) fun y216 h=>ab (some (x 10,h)) fun y217 h=>ab (some (x 11,h)) fun y218 h=>ab (some (x 12,h)) fun y219 h=>ab (some (x 13,h)) fun y220 h=>ab (some (x 14,h)) fun y221 h=>ab (some (x 15,h)) fun y222 h=>ab (some (x 16,h)) fun y223 h=>ab (pu (ei (List.replicate 8 (.int .u32 0)) [(0,1,y216),(1,1,y217),(2,1,y218),(3,1,y219),(4,1,y220),(5,1,y221),(6,1,y222),(7,1,y223)]) h) fun y224 h=>ab (some (.int .i64 0,h)) fun y225 h=>dj (iter (codeA prog C (au f116 [1,1,1,1,1,1,1,0,0])) aB (aL 241 (up x [(216,y216),(217,y217),(218,y218),(219,y219),(220,y220),(221,y221),(222,y222),(223,y223),(224,y224),(225,y225)])) h) (cE f116) (b149_25 C)
noncomputable def ik:fB:=
 ab (pu (aC prog .lss 3 (x 154) (.int .i64 64)) h) fun y155 h=>(match y155 with
 | .bool true=>ab (some (x 154,h)) fun y156 h=>ab (some (y156,h)) fun y17 h=>ab (some (x 13,h)) fun y157 h=>ab (C 123 [y157,(.int .i64 (-6))] h) fun y158 h=>ab (some (x 13,h)) fun y159 h=>ab (C 123 [y159,(.int .i64 (-11))] h) fun y160 h=>ab (pu (aC prog .xor 139 y158 y160) h) fun y161 h=>ab (some (x 13,h)) fun y162 h=>ab (C 123 [y162,(.int .i64 (-25))] h) fun y163 h=>ab (pu (aC prog .xor 139 y161 y163) h) fun y164 h=>ab (some (y164,h)) fun y18 h=>ab (some (x 16,h)) fun y165 h=>ab (some (y18,h)) fun y166 h=>ab (pu (aC prog .add 139 y165 y166) h) fun y167 h=>ab (some (x 15,h)) fun y168 h=>ab (some (x 13,h)) fun y169 h=>ab (some (x 14,h)) fun y170 h=>ab (some (x 15,h)) fun y171 h=>
 ab (pu (aC prog .xor 139 y170 y171) h) fun y172 h=>ab (pu (aC prog .and 139 y169 y172) h) fun y173 h=>ab (pu (aC prog .xor 139 y168 y173) h) fun y174 h=>ab (pu (aC prog .add 139 y167 y174) h) fun y175 h=>ab (some (y17,h)) fun y176 h=>ab (pu (idxA 64 1 (ptr 3 0) y176) h) fun y177 h=>ab (ld1 y177 h) fun y178 h=>ab (pu (aC prog .add 139 y175 y178) h) fun y179 h=>ab (some (y17,h)) fun y180 h=>ab (pu (idxA 64 1 (x 2) y180) h) fun y181 h=>ab (ld1 y181 h) fun y182 h=>ab (pu (aC prog .add 139 y179 y182) h) fun y183 h=>ab (some (y183,h)) fun y19 h=>ab (some (x 9,h)) fun y184 h=>ab (C 123 [y184,(.int .i64 (-2))] h) fun y185 h=>ab (some (x 9,h)) fun y186 h=>
 ab (C 123 [y186,(.int .i64 (-13))] h) fun y187 h=>ab (pu (aC prog .xor 139 y185 y187) h) fun y188 h=>ab (some (x 9,h)) fun y189 h=>ab (C 123 [y189,(.int .i64 (-22))] h) fun y190 h=>ab (pu (aC prog .xor 139 y188 y190) h) fun y191 h=>ab (some (y191,h)) fun y20 h=>ab (some (y20,h)) fun y192 h=>ab (some (x 9,h)) fun y193 h=>ab (some (x 10,h)) fun y194 h=>ab (pu (aC prog .and 139 y193 y194) h) fun y195 h=>ab (some (x 11,h)) fun y196 h=>ab (some (x 9,h)) fun y197 h=>ab (some (x 10,h)) fun y198 h=>ab (pu (aC prog .or 139 y197 y198) h) fun y199 h=>ab (pu (aC prog .and 139 y196 y199) h) fun y200 h=>ab (pu (aC prog .or 139 y195 y200) h) fun y201 h=>
 ab (pu (aC prog .add 139 y192 y201) h) fun y202 h=>ab (some (y202,h)) fun y21 h=>ab (some (x 15,h)) fun y203 h=>ab (some (x 14,h)) fun y204 h=>ab (some (x 13,h)) fun y205 h=>ab (some (x 12,h)) fun y206 h=>ab (some (y19,h)) fun y207 h=>ab (pu (aC prog .add 139 y206 y207) h) fun y208 h=>ab (some (y203,h)) fun y16 h=>ab (some (y204,h)) fun y15 h=>ab (some (y205,h)) fun y14 h=>ab (some (y208,h)) fun y13 h=>ab (some (x 11,h)) fun y209 h=>ab (some (x 10,h)) fun y210 h=>ab (some (x 9,h)) fun y211 h=>ab (some (y19,h)) fun y212 h=>ab (some (y21,h)) fun y213 h=>ab (pu (aC prog .add 139 y212 y213) h) fun y214 h=>ab (some (y209,h)) fun y12 h=>ab (some (y210,h)) fun y11 h=>
 ab (some (y211,h)) fun y10 h=>ab (some (y214,h)) fun y9 h=>ab (pu (aC prog .add 3 (x 154) (.int .i64 1)) h) fun y215 h=>ab (some (y215,h)) fun y154 h=>
 some (.normal,(aL 241 (up x [(9,y9),(10,y10),(11,y11),(12,y12),(13,y13),(14,y14),(15,y15),(16,y16),(17,y17),(18,y18),(19,y19),(20,y20),(21,y21),(154,y154),(155,y155),(156,y156),(157,y157),(158,y158),(159,y159),(160,y160),(161,y161),(162,y162),(163,y163),(164,y164),(165,y165),(166,y166),(167,y167),(168,y168),(169,y169),(170,y170),(171,y171),(172,y172),(173,y173),(174,y174),(175,y175),(176,y176),(177,y177),(178,y178),(179,y179),(180,y180),(181,y181),(182,y182),(183,y183),(184,y184),(185,y185),(186,y186),(187,y187),(188,y188),(189,y189),(190,y190),(191,y191),(192,y192),(193,y193),(194,y194),(195,y195),(196,y196),(197,y197),(198,y198),(199,y199),(200,y200),(201,y201),(202,y202),(203,y203),(204,y204),(205,y205),(206,y206),(207,y207),(208,y208),(209,y209),(210,y210),(211,y211),(212,y212),(213,y213),(214,y214),(215,y215)])),h)
 | .bool false=>some (.exit 4,(aL 241 (up x [(155,y155)])),h)
 |_=>none)
noncomputable def iz (_:aj) (x:fK) (h:ad):fB:=
 ab (pu (aC prog .lss 3 (x 225) (.int .i64 8)) h) fun y226 h=>(match y226 with
 | .bool true=>ab (some (x 225,h)) fun y227 h=>ab (pu (ixA1 8 1 (x 224) (x 225)) h) fun y228 h=>ab (some (y227,h)) fun y22 h=>ab (some (y228,h)) fun y23 h=>ab (some (x 0,h)) fun y229 h=>ab (some (y22,h)) fun y230 h=>ab (pu (nilCheckA y229) h) fun y231 h=>ab (pu (aH y231 0) h) fun y232 h=>ab (pu (idxA 8 1 y232 y230) h) fun y233 h=>ab (ld1 y233 h) fun y234 h=>ab (some (y23,h)) fun y235 h=>ab (pu (aC prog .add 139 y234 y235) h) fun y236 h=>ab (pu (nilCheckA y229) h) fun y237 h=>ab (pu (aH y237 0) h) fun y238 h=>ab (pu (idxA 8 1 y238 y230) h) fun y239 h=>ab (eo 1 y239 y236 h) fun _ h=>ab (pu (aC prog .add 3 (x 225) (.int .i64 1)) h) fun y240 h=>ab (some (y240,h)) fun y225 h=>
 some (.normal,(aL 241 (up x [(22,y22),(23,y23),(225,y225),(226,y226),(227,y227),(228,y228),(229,y229),(230,y230),(231,y231),(232,y232),(233,y233),(234,y234),(235,y235),(236,y236),(237,y237),(238,y238),(239,y239),(240,y240)])),h)
 | .bool false=>some (.exit 6,(aL 241 (up x [(226,y226)])),h)
 |_=>none)
theorem t149_eq (C:aj) (x0:Value) (h:ad):ba prog C f116 [x0] h=t149 C x0 h:=
 eH (by kernel_rfl) (by kernel_rfl)
theorem AI:k149_1 C (aL 241 x) h=sc C x h:=
 qM (T:=sc C) (fun x h=>by kernel_rfl) x h
theorem uQ:codeA prog C (au f116 [1,0,1,0,0]) (aL 241 x) h=lV C x h:=
 aE (T:=lV C) (fun x h=>by kernel_rfl) x h
theorem Ae:k149_4 C (aL 241 x) h=sJ C x h:=
 qM (T:=sJ C) (fun x h=>by kernel_rfl) x h
theorem tU:codeA prog C (au f116 [1,1,0,1,0,0]) (aL 241 x) h=kD C x h:=
 aE (T:=kD C) (fun x h=>by kernel_rfl) x h
theorem yf:k149_14 C (aL 241 x) h=pg C x h:=
 qM (T:=pg C) (fun x h=>by kernel_rfl) x h
theorem pP:codeA prog C (au f116 [1,1,1,1,1,0,1,0,0]) (aL 241 x) h=ik C x h:=
 aE (T:=ik C) (fun x h=>by kernel_rfl) x h
theorem oP:codeA prog C (au f116 [1,1,1,1,1,1,1,0,0]) (aL 241 x) h=iz C x h:=
 aE (T:=iz C) (fun x h=>by kernel_rfl) x h
noncomputable def t159 (_:aj) (x0 x1:Value) (h:ad):aS:=
 ab (some (.int .u32 0,h)) fun _ h=>ab (some (x1,h)) fun y6 h=>ab (jC .u64 y6 h) fun y7 h=>ab (pu (aC prog .and 120 y7 (.int .u64 31)) h) fun y8 h=>ab (some (y8,h)) fun y5 h=>ab (some (x0,h)) fun y9 h=>ab (some (y5,h)) fun y10 h=>ab (pu (aC prog .shl 139 y9 y10) h) fun y11 h=>ab (some (x0,h)) fun y12 h=>ab (some (y5,h)) fun y13 h=>ab (pu (aC prog .sub 120 (.int .u64 32) y13) h) fun y14 h=>ab (pu (aC prog .shr 139 y12 y14) h) fun y15 h=>ab (pu (aC prog .or 139 y11 y15) h) fun y16 h=>ab (some (y16,h)) fun y4_1 h=>some (y4_1,h)
theorem t159_eq (C:aj) (x0 x1:Value) (h:ad):ba prog C f123 [x0,x1] h=t159 C x0 x1 h:=
 eH (by kernel_rfl) (by kernel_rfl)
noncomputable def t69 (C:aj) (x0:Value) (h:ad):aS:=
 ab (box x0 h) fun y1 h=>ab (dB (List.replicate 32 (.int .u8 0)) h) fun y2 h=>ab (cx 39 y1 h) fun y7 h=>ab (C 24 [y7] h) fun y8 h=>ab (some (y8,h)) fun y6 h=>ab (pu (extractA y6 0) h) fun y9 h=>ab (pu (extractA y6 1) h) fun y10 h=>ab (some (y9,h)) fun y3 h=>ab (some (y10,h)) fun y4 h=>ab (C 95 [] h) fun y11 h=>ab (some (y11,h)) fun y5 h=>ab (some (y5,h)) fun y12 h=>ab (cg 1 (.int .u8 0) 1 [(0,.int .u8 0)] h) fun y13 h=>ab (C 96 [y12,y13] h) fun y14 h=>ab (some (y5,h)) fun y15 h=>ab (some (y3,h)) fun y16 h=>ab (C 96 [y15,y16] h) fun y17 h=>ab (some (y5,h)) fun y18 h=>ab (C 97 [y18] h) fun y19 h=>ab (eo 32 y2 y19 h) fun _ h=>
 resultsA prog f74.results.toList (aL 20 (up (bs [x0]) [(1,y1),(2,y2),(3,y3),(4,y4),(5,y5),(6,y6),(7,y7),(8,y8),(9,y9),(10,y10),(11,y11),(12,y12),(13,y13),(14,y14),(15,y15),(16,y16),(17,y17),(18,y18),(19,y19)])) h
theorem t69_eq (C:aj) (x0:Value) (h:ad):ba prog C f74 [x0] h=t69 C x0 h:=
 eH (by kernel_rfl) (by kernel_rfl)
noncomputable def t70 (C:aj) (x0 x1:Value) (h:ad):aS:=
 ab (box x0 h) fun y2 h=>ab (box x1 h) fun y3 h=>ab (dB (List.replicate 32 (.int .u8 0)) h) fun y4 h=>ab (C 95 [] h) fun y6 h=>ab (some (y6,h)) fun y5 h=>ab (some (y5,h)) fun y7 h=>ab (cg 1 (.int .u8 0) 1 [(0,.int .u8 1)] h) fun y8 h=>ab (C 96 [y7,y8] h) fun y9 h=>ab (some (y5,h)) fun y10 h=>ab (pu (sliceArr 32 1 y2 none none none) h) fun y11 h=>ab (C 96 [y10,y11] h) fun y12 h=>ab (some (y5,h)) fun y13 h=>ab (pu (sliceArr 32 1 y3 none none none) h) fun y14 h=>ab (C 96 [y13,y14] h) fun y15 h=>ab (some (y5,h)) fun y16 h=>ab (C 97 [y16] h) fun y17 h=>ab (eo 32 y4 y17 h) fun _ h=>
 resultsA prog f75.results.toList (aL 18 (up (bs [x0,x1]) [(2,y2),(3,y3),(4,y4),(5,y5),(6,y6),(7,y7),(8,y8),(9,y9),(10,y10),(11,y11),(12,y12),(13,y13),(14,y14),(15,y15),(16,y16),(17,y17)])) h
theorem t70_eq (C:aj) (x0 x1:Value) (h:ad):ba prog C f75 [x0,x1] h=t70 C x0 x1 h:=
 eH (by kernel_rfl) (by kernel_rfl)
end
section
variable (C:aj) (i:Nat) (x:fK) (e:aW) (h:ad)
noncomputable def t108 (C:aj) (x0:Value) (h:ad):aS:=
 ab (dB (List.replicate 32 (.int .u8 0)) h) fun y2 h=>ab (some (x0,h)) fun y3 h=>ab (cx 64 (ptr 1 0) h) fun y4 h=>ab (pu (ei (List.replicate 8 (.int .u32 0)) [(0,1,.int .u32 1779033703),(1,1,.int .u32 3144134277),(2,1,.int .u32 1013904242),(3,1,.int .u32 2773480762),(4,1,.int .u32 1359893119),(5,1,.int .u32 2600822924),(6,1,.int .u32 528734635),(7,1,.int .u32 1541459225)]) h) fun y5 h=>ab (C 93 [y3,y4,y5] h) fun y6 h=>ab (eo 32 y2 y6 h) fun _ h=>resultsA prog f69.results.toList (aL 7 (up (bs [x0]) [(2,y2),(3,y3),(4,y4),(5,y5),(6,y6)])) h
theorem t108_eq (C:aj) (x0:Value) (h:ad):ba prog C f69 [x0] h=t108 C x0 h:=
 eH (by kernel_rfl) (by kernel_rfl)
noncomputable def k136_2:aS:=codeK prog C (au f93 [1,1,1]) e h (cE f93) (cE f93) eT
noncomputable def b136_3:aS:=if i=0 then (k136_2 C) e h else eT i e h
noncomputable def k136_5:aS:=codeK prog C (au f93 [1,1,1,1,1]) e h (cE f93) (cE f93) eT
noncomputable def b136_7:aS:=if i=2 then (k136_5 C) e h else eT i e h
noncomputable def k136_11:aS:=codeK prog C (au f93 [1,1,1,1,1,1]) e h (cE f93) (cE f93) eT
noncomputable def b136_13:aS:=if i=4 then (k136_11 C) e h else eT i e h
noncomputable def k136_19:aS:=codeK prog C (au f93 [1,1,1,1,1,1,1,1]) e h (cE f93) (cE f93) eT
noncomputable def b136_21:aS:=if i=6 then (k136_19 C) e h else eT i e h
noncomputable def t136 (C:aj) (x0 x1 x2:Value) (h:ad):aS:=
 ab (box x1 h) fun y4 h=>ab (box x2 h) fun y5 h=>ab (dB (List.replicate 32 (.int .u8 0)) h) fun y6 h=>ab (cg 1 (.int .u8 0) 0 [] h) fun y13 h=>ab (some (x0,h)) fun y14 h=>ab (appendA 1 1 y13 y14 h) fun y15 h=>ab (cg 1 (.int .u8 0) 1 [(0,.int .u8 128)] h) fun y16 h=>ab (appendA 1 1 y15 y16 h) fun y17 h=>ab (some (y17,h)) fun y7 h=>dj (iter (codeA prog C (au f93 [1,1,0,0,0])) aB (aL 74 (up (bs [x0,x1,x2]) [(4,y4),(5,y5),(6,y6),(7,y7),(13,y13),(14,y14),(15,y15),(16,y16),(17,y17)])) h) (cE f93) (b136_3 C)
noncomputable def sD:aS:=
 ab (some (x 0,h)) fun y25 h=>ab (pu (lenL y25) h) fun y26 h=>ab (jC .u64 y26 h) fun y27 h=>ab (pu (aC prog .mul 32 y27 (.int .u64 8)) h) fun y28 h=>ab (some (y28,h)) fun y8 h=>ab (some (.int .i64 7,h)) fun y9 h=>dj (iter (codeA prog C (au f93 [1,1,1,1,0,1,0,0])) aB (aL 74 (up x [(8,y8),(9,y9),(25,y25),(26,y26),(27,y27),(28,y28)])) h) (cE f93) (b136_7 C)
noncomputable def lW (_:aj) (x:fK) (h:ad):fB:=
 ab (some (x 7,h)) fun y18 h=>ab (pu (lenL y18) h) fun y19 h=>ab (pu (aC prog .rem 3 y19 (.int .i64 64)) h) fun y20 h=>ab (pu (aC prog .neq 3 y20 (.int .i64 56)) h) fun y21 h=>(match y21 with
 | .bool true=>ab (some (x 7,h)) fun y22 h=>ab (cg 1 (.int .u8 0) 1 [(0,.int .u8 0)] h) fun y23 h=>ab (appendA 1 1 y22 y23 h) fun y24 h=>ab (some (y24,h)) fun y7 h=>some (.normal,(aL 74 (up x [(7,y7),(18,y18),(19,y19),(20,y20),(21,y21),(22,y22),(23,y23),(24,y24)])),h)
 | .bool false=>some (.exit 0,(aL 74 (up x [(18,y18),(19,y19),(20,y20),(21,y21)])),h)
 |_=>none)
noncomputable def rF:aS:=
 ab (some (.int .i64 0,h)) fun y10 h=>dj (iter (codeA prog C (au f93 [1,1,1,1,1,0,1,0,0])) aB (aL 74 (up x [(10,y10)])) h) (cE f93) (b136_13 C)
noncomputable def je (_:aj) (x:fK) (h:ad):fB:=
 ab (some (x 9,h)) fun y29 h=>ab (pu (aC prog .geq 3 y29 (.int .i64 0)) h) fun y30 h=>(match y30 with
 | .bool true=>ab (some (x 7,h)) fun y33 h=>ab (some (x 8,h)) fun y34 h=>ab (some (x 9,h)) fun y35 h=>ab (jC .u64 y35 h) fun y36 h=>ab (pu (aC prog .mul 120 (.int .u64 8) y36) h) fun y37 h=>ab (pu (aC prog .shr 32 y34 y37) h) fun y38 h=>ab (jC .u8 y38 h) fun y39 h=>ab (cg 1 (.int .u8 0) 1 [(0,y39)] h) fun y40 h=>ab (appendA 1 1 y33 y40 h) fun y41 h=>ab (some (y41,h)) fun y7 h=>ab (some (x 9,h)) fun y31 h=>ab (pu (aC prog .sub 3 y31 (.int .i64 1)) h) fun y32 h=>ab (some (y32,h)) fun y9 h=>some (.normal,(aL 74 (up x [(7,y7),(9,y9),(29,y29),(30,y30),(31,y31),(32,y32),(33,y33),(34,y34),(35,y35),(36,y36),(37,y37),(38,y38),(39,y39),(40,y40),(41,y41)])),h)
 | .bool false=>some (.exit 2,(aL 74 (up x [(29,y29),(30,y30)])),h)
 |_=>none)
noncomputable def pN:aS:=
 ab (dB (List.replicate 32 (.int .u8 0)) h) fun y11 h=>ab (some (.int .i64 0,h)) fun y12 h=>dj (iter (codeA prog C (au f93 [1,1,1,1,1,1,1,0,1,0,0])) aB (aL 74 (up x [(11,y11),(12,y12)])) h) (cE f93) (b136_21 C)
noncomputable def iE:fB:=
 ab (some (x 10,h)) fun y42 h=>ab (some (x 7,h)) fun y43 h=>ab (pu (lenL y43) h) fun y44 h=>ab (pu (aC prog .lss 3 y42 y44) h) fun y45 h=>(match y45 with
 | .bool true=>ab (cx 8 (x 5) h) fun y48 h=>ab (cx 64 (x 4) h) fun y49 h=>ab (some (x 7,h)) fun y50 h=>ab (some (x 10,h)) fun y51 h=>ab (some (x 10,h)) fun y52 h=>ab (pu (aC prog .add 3 y52 (.int .i64 64)) h) fun y53 h=>ab (pu (iw 1 y50 (some y51) (some y53) none) h) fun y54 h=>ab (C 113 [y48,y49,y54] h) fun y55 h=>ab (eo 8 (x 5) y55 h) fun _ h=>ab (some (x 10,h)) fun y46 h=>ab (pu (aC prog .add 3 y46 (.int .i64 64)) h) fun y47 h=>ab (some (y47,h)) fun y10 h=>some (.normal,(aL 74 (up x [(10,y10),(42,y42),(43,y43),(44,y44),(45,y45),(46,y46),(47,y47),(48,y48),(49,y49),(50,y50),(51,y51),(52,y52),(53,y53),(54,y54),(55,y55)])),h)
 | .bool false=>some (.exit 4,(aL 74 (up x [(42,y42),(43,y43),(44,y44),(45,y45)])),h)
 |_=>none)
noncomputable def oL (_:aj) (x:fK) (h:ad):aS:=
 ab (cx 32 (x 11) h) fun y73 h=>ab (eo 32 (x 6) y73 h) fun _ h=>resultsA prog f93.results.toList (aL 74 (up x [(73,y73)])) h
noncomputable def gy (_:aj) (x:fK) (h:ad):fB:=
 ab (some (x 12,h)) fun y56 h=>ab (pu (aC prog .lss 3 y56 (.int .i64 32)) h) fun y57 h=>(match y57 with
 | .bool true=>ab (some (x 12,h)) fun y60 h=>ab (some (x 12,h)) fun y61 h=>ab (pu (aC prog .quo 3 y61 (.int .i64 4)) h) fun y62 h=>ab (pu (idxA 8 1 (x 5) y62) h) fun y63 h=>ab (ld1 y63 h) fun y64 h=>ab (some (x 12,h)) fun y65 h=>ab (pu (aC prog .rem 3 y65 (.int .i64 4)) h) fun y66 h=>ab (jC .u64 y66 h) fun y67 h=>ab (pu (aC prog .mul 120 (.int .u64 8) y67) h) fun y68 h=>ab (pu (aC prog .sub 120 (.int .u64 24) y68) h) fun y69 h=>ab (pu (aC prog .shr 139 y64 y69) h) fun y70 h=>ab (jC .u8 y70 h) fun y71 h=>ab (pu (idxA 32 1 (x 11) y60) h) fun y72 h=>ab (eo 1 y72 y71 h) fun _ h=>ab (some (x 12,h)) fun y58 h=>ab (pu (aC prog .add 3 y58 (.int .i64 1)) h) fun y59 h=>ab (some (y59,h)) fun y12 h=>
 some (.normal,(aL 74 (up x [(12,y12),(56,y56),(57,y57),(58,y58),(59,y59),(60,y60),(61,y61),(62,y62),(63,y63),(64,y64),(65,y65),(66,y66),(67,y67),(68,y68),(69,y69),(70,y70),(71,y71),(72,y72)])),h)
 | .bool false=>some (.exit 6,(aL 74 (up x [(56,y56),(57,y57)])),h)
 |_=>none)
theorem t136_eq (C:aj) (x0 x1 x2:Value) (h:ad):ba prog C f93 [x0,x1,x2] h=t136 C x0 x1 x2 h:=
 eH (by kernel_rfl) (by kernel_rfl)
theorem AH:k136_2 C (aL 74 x) h=sD C x h:=
 qM (T:=sD C) (fun x h=>by kernel_rfl) x h
theorem uz:codeA prog C (au f93 [1,1,0,0,0]) (aL 74 x) h=lW C x h:=
 aE (T:=lW C) (fun x h=>by kernel_rfl) x h
theorem Aq:k136_5 C (aL 74 x) h=rF C x h:=
 qM (T:=rF C) (fun x h=>by kernel_rfl) x h
theorem qQ:codeA prog C (au f93 [1,1,1,1,0,1,0,0]) (aL 74 x) h=je C x h:=
 aE (T:=je C) (fun x h=>by kernel_rfl) x h
theorem yJ:k136_11 C (aL 74 x) h=pN C x h:=
 qM (T:=pN C) (fun x h=>by kernel_rfl) x h
theorem oM:codeA prog C (au f93 [1,1,1,1,1,0,1,0,0]) (aL 74 x) h=iE C x h:=
 aE (T:=iE C) (fun x h=>by kernel_rfl) x h
theorem yb:k136_19 C (aL 74 x) h=oL C x h:=
 qM (T:=oL C) (fun x h=>by kernel_rfl) x h
theorem nI:codeA prog C (au f93 [1,1,1,1,1,1,1,0,1,0,0]) (aL 74 x) h=gy C x h:=
 aE (T:=gy C) (fun x h=>by kernel_rfl) x h
noncomputable def k153_2:aS:=codeK prog C (au f113 [1,1,1]) e h (cE f113) (cE f113) eT
noncomputable def b153_4:aS:=if i=0 then (k153_2 C) e h else eT i e h
noncomputable def k153_6:aS:=codeK prog C (au f113 [1,1,1,1,1]) e h (cE f113) (cE f113) eT
noncomputable def b153_8:aS:=if i=2 then (k153_6 C) e h else eT i e h
noncomputable def k153_20:aS:=codeK prog C (au f113 [1,1,1,1,1,1]) e h (cE f113) (cE f113) eT
noncomputable def b153_22:aS:=if i=4 then (k153_20 C) e h else eT i e h
noncomputable def t153 (C:aj) (x0 x1 x2:Value) (h:ad):aS:=
 ab (box x0 h) fun y3 h=>ab (box x1 h) fun y4 h=>ab (dB (List.replicate 8 (.int .u32 0)) h) fun y6 h=>ab (dB (List.replicate 64 (.int .u32 0)) h) fun y7 h=>ab (some (.int .i64 0,h)) fun y8 h=>dj (iter (codeA prog C (au f113 [1,1,0,1,0,0])) aB (aL 206 (up (bs [x0,x1,x2]) [(3,y3),(4,y4),(6,y6),(7,y7),(8,y8)])) h) (cE f113) (b153_4 C)
noncomputable def rL:aS:=
 ab (cx 8 (x 3) h) fun y110 h=>ab (dB (List.replicate 8 (.int .u32 0)) h) fun y11 h=>ab (eo 8 y11 y110 h) fun _ h=>ab (some (.int .i64 0,h)) fun y12 h=>dj (iter (codeA prog C (au f113 [1,1,1,1,0,1,0,0])) aB (aL 206 (up x [(11,y11),(12,y12),(110,y110)])) h) (cE f113) (b153_8 C)
noncomputable def jY:fB:=
 ab (some (x 8,h)) fun y20 h=>ab (pu (aC prog .lss 3 y20 (.int .i64 64)) h) fun y21 h=>(match y21 with
 | .bool true=>ab (some (x 8,h)) fun y24 h=>ab (pu (aC prog .lss 3 y24 (.int .i64 16)) h) fun y25 h=>(match y25 with
 | .bool true=>ab (some (x 8,h)) fun y26 h=>ab (some (x 2,h)) fun y27 h=>ab (some (x 8,h)) fun y28 h=>ab (pu (aC prog .mul 3 (.int .i64 4) y28) h) fun y29 h=>ab (pu (idxS 1 y27 y29) h) fun y30 h=>ab (ld1 y30 h) fun y31 h=>ab (jC .u32 y31 h) fun y32 h=>ab (pu (aC prog .shl 139 y32 (.int .u64 24)) h) fun y33 h=>ab (some (x 2,h)) fun y34 h=>ab (some (x 8,h)) fun y35 h=>ab (pu (aC prog .mul 3 (.int .i64 4) y35) h) fun y36 h=>ab (pu (aC prog .add 3 y36 (.int .i64 1)) h) fun y37 h=>ab (pu (idxS 1 y34 y37) h) fun y38 h=>ab (ld1 y38 h) fun y39 h=>ab (jC .u32 y39 h) fun y40 h=>ab (pu (aC prog .shl 139 y40 (.int .u64 16)) h) fun y41 h=>ab (pu (aC prog .or 139 y33 y41) h) fun y42 h=>
 ab (some (x 2,h)) fun y43 h=>ab (some (x 8,h)) fun y44 h=>ab (pu (aC prog .mul 3 (.int .i64 4) y44) h) fun y45 h=>ab (pu (aC prog .add 3 y45 (.int .i64 2)) h) fun y46 h=>ab (pu (idxS 1 y43 y46) h) fun y47 h=>ab (ld1 y47 h) fun y48 h=>ab (jC .u32 y48 h) fun y49 h=>ab (pu (aC prog .shl 139 y49 (.int .u64 8)) h) fun y50 h=>ab (pu (aC prog .or 139 y42 y50) h) fun y51 h=>ab (some (x 2,h)) fun y52 h=>ab (some (x 8,h)) fun y53 h=>ab (pu (aC prog .mul 3 (.int .i64 4) y53) h) fun y54 h=>ab (pu (aC prog .add 3 y54 (.int .i64 3)) h) fun y55 h=>ab (pu (idxS 1 y52 y55) h) fun y56 h=>ab (ld1 y56 h) fun y57 h=>ab (jC .u32 y57 h) fun y58 h=>ab (pu (aC prog .or 139 y51 y58) h) fun y59 h=>
 ab (pu (idxA 64 1 (x 7) y26) h) fun y60 h=>ab (eo 1 y60 y59 h) fun _ h=>ab (some (x 8,h)) fun y22 h=>ab (pu (aC prog .add 3 y22 (.int .i64 1)) h) fun y23 h=>ab (some (y23,h)) fun y8 h=>some (.normal,(aL 206 (up x [(8,y8),(20,y20),(21,y21),(22,y22),(23,y23),(24,y24),(25,y25),(26,y26),(27,y27),(28,y28),(29,y29),(30,y30),(31,y31),(32,y32),(33,y33),(34,y34),(35,y35),(36,y36),(37,y37),(38,y38),(39,y39),(40,y40),(41,y41),(42,y42),(43,y43),(44,y44),(45,y45),(46,y46),(47,y47),(48,y48),(49,y49),(50,y50),(51,y51),(52,y52),(53,y53),(54,y54),(55,y55),(56,y56),(57,y57),(58,y58),(59,y59),(60,y60)])),h)
 | .bool false=>let g17_0:=h
 ab (some (x 8,g17_0)) fun y61 g17_1=>ab (pu (aC prog .sub 3 y61 (.int .i64 15)) g17_1) fun y62 g17_2=>ab (pu (idxA 64 1 (x 7) y62) g17_2) fun y63 g17_3=>ab (ld1 y63 g17_3) fun y64 g17_4=>ab (C 122 [y64,.int .u64 7] g17_4) fun y65 g17_5=>ab (some (x 8,g17_5)) fun y66 g17_6=>ab (pu (aC prog .sub 3 y66 (.int .i64 15)) g17_6) fun y67 g17_7=>ab (pu (idxA 64 1 (x 7) y67) g17_7) fun y68 g17_8=>ab (ld1 y68 g17_8) fun y69 g17_9=>ab (C 122 [y69,.int .u64 18] g17_9) fun y70 g17_10=>ab (pu (aC prog .xor 139 y65 y70) g17_10) fun y71 g17_11=>ab (some (x 8,g17_11)) fun y72 g17_12=>ab (pu (aC prog .sub 3 y72 (.int .i64 15)) g17_12) fun y73 g17_13=>ab (pu (idxA 64 1 (x 7) y73) g17_13) fun y74 g17_14=>
 ab (ld1 y74 g17_14) fun y75 g17_15=>ab (pu (aC prog .shr 139 y75 (.int .u64 3)) g17_15) fun y76 g17_16=>ab (pu (aC prog .xor 139 y71 y76) g17_16) fun y77 g17_17=>ab (some (y77,g17_17)) fun y9 g17_18=>(match (bF true (ld1 y68 g17_4) y69&&(bF true (ld1 y74 g17_4) y75&&(bF true (ld1 y74 g17_9) y75&&true))) with
 |true=>let h:=g17_18
 let g19_0:=h
 ab (some (x 8,g19_0)) fun y78 g19_1=>ab (pu (aC prog .sub 3 y78 (.int .i64 2)) g19_1) fun y79 g19_2=>ab (pu (idxA 64 1 (x 7) y79) g19_2) fun y80 g19_3=>ab (ld1 y80 g19_3) fun y81 g19_4=>ab (C 122 [y81,.int .u64 17] g19_4) fun y82 g19_5=>ab (some (x 8,g19_5)) fun y83 g19_6=>ab (pu (aC prog .sub 3 y83 (.int .i64 2)) g19_6) fun y84 g19_7=>ab (pu (idxA 64 1 (x 7) y84) g19_7) fun y85 g19_8=>ab (ld1 y85 g19_8) fun y86 g19_9=>ab (C 122 [y86,.int .u64 19] g19_9) fun y87 g19_10=>ab (pu (aC prog .xor 139 y82 y87) g19_10) fun y88 g19_11=>ab (some (x 8,g19_11)) fun y89 g19_12=>ab (pu (aC prog .sub 3 y89 (.int .i64 2)) g19_12) fun y90 g19_13=>ab (pu (idxA 64 1 (x 7) y90) g19_13) fun y91 g19_14=>
 ab (ld1 y91 g19_14) fun y92 g19_15=>ab (pu (aC prog .shr 139 y92 (.int .u64 10)) g19_15) fun y93 g19_16=>ab (pu (aC prog .xor 139 y88 y93) g19_16) fun y94 g19_17=>ab (some (y94,g19_17)) fun y10 g19_18=>(match (bF true (ld1 y85 g19_4) y86&&(bF true (ld1 y91 g19_4) y92&&(bF true (ld1 y91 g19_9) y92&&true))) with
 |true=>let h:=g19_18
 ab (some (x 8,h)) fun y95 h=>ab (some (y10,h)) fun y96 h=>ab (some (x 8,h)) fun y97 h=>ab (pu (aC prog .sub 3 y97 (.int .i64 7)) h) fun y98 h=>ab (pu (idxA 64 1 (x 7) y98) h) fun y99 h=>ab (ld1 y99 h) fun y100 h=>ab (pu (aC prog .add 139 y96 y100) h) fun y101 h=>ab (some (y9,h)) fun y102 h=>ab (pu (aC prog .add 139 y101 y102) h) fun y103 h=>ab (some (x 8,h)) fun y104 h=>ab (pu (aC prog .sub 3 y104 (.int .i64 16)) h) fun y105 h=>ab (pu (idxA 64 1 (x 7) y105) h) fun y106 h=>ab (ld1 y106 h) fun y107 h=>ab (pu (aC prog .add 139 y103 y107) h) fun y108 h=>ab (pu (idxA 64 1 (x 7) y95) h) fun y109 h=>ab (eo 1 y109 y108 h) fun _ h=>ab (some (x 8,h)) fun y22 h=>
 ab (pu (aC prog .add 3 y22 (.int .i64 1)) h) fun y23 h=>ab (some (y23,h)) fun y8 h=>some (.normal,(aL 206 (up x [(8,y8),(9,y9),(10,y10),(20,y20),(21,y21),(22,y22),(23,y23),(24,y24),(25,y25),(61,y61),(62,y62),(63,y63),(64,y64),(65,y65),(66,y66),(67,y67),(68,y68),(69,y69),(70,y70),(71,y71),(72,y72),(73,y73),(74,y74),(75,y75),(76,y76),(77,y77),(78,y78),(79,y79),(80,y80),(81,y81),(82,y82),(83,y83),(84,y84),(85,y85),(86,y86),(87,y87),(88,y88),(89,y89),(90,y90),(91,y91),(92,y92),(93,y93),(94,y94),(95,y95),(96,y96),(97,y97),(98,y98),(99,y99),(100,y100),(101,y101),(102,y102),(103,y103),(104,y104),(105,y105),(106,y106),(107,y107),(108,y108),(109,y109)])),h)
 |false=>none)
 |false=>none)
 |_=>none)
 | .bool false=>some (.exit 0,(aL 206 (up x [(20,y20),(21,y21)])),h)
 |_=>none)
noncomputable def sI:aS:=
 ab (some (.int .i64 0,h)) fun y19 h=>dj (iter (codeA prog C (au f113 [1,1,1,1,1,0,1,0,0])) aB (aL 206 (up x [(19,y19)])) h) (cE f113) (b153_22 C)
noncomputable def jb:fB:=
 ab (some (x 12,h)) fun y111 h=>ab (pu (aC prog .lss 3 y111 (.int .i64 64)) h) fun y112 h=>(match y112 with
 | .bool true=>ab (pu (idxA 8 1 (x 11) (.int .i64 0)) h) fun y115 h=>ab (ld1 y115 h) fun y116 h=>ab (pu (idxA 8 1 (x 11) (.int .i64 4)) h) fun y117 h=>ab (ld1 y117 h) fun y118 h=>ab (some (y116,h)) fun y13 h=>ab (some (y118,h)) fun y14 h=>ab (some (y14,h)) fun y119 h=>ab (pu (idxA 8 1 (x 11) (.int .i64 5)) h) fun y120 h=>ab (ld1 y120 h) fun y121 h=>ab (pu (aC prog .and 139 y119 y121) h) fun y122 h=>ab (some (y14,h)) fun y123 h=>ab (pu (unA .xor y123) h) fun y124 h=>ab (pu (idxA 8 1 (x 11) (.int .i64 6)) h) fun y125 h=>ab (ld1 y125 h) fun y126 h=>ab (pu (aC prog .and 139 y124 y126) h) fun y127 h=>ab (pu (aC prog .xor 139 y122 y127) h) fun y128 h=>ab (some (y128,h)) fun y15 h=>
 ab (some (y13,h)) fun y129 h=>ab (pu (idxA 8 1 (x 11) (.int .i64 1)) h) fun y130 h=>ab (ld1 y130 h) fun y131 h=>ab (pu (aC prog .and 139 y129 y131) h) fun y132 h=>ab (some (y13,h)) fun y133 h=>ab (pu (idxA 8 1 (x 11) (.int .i64 2)) h) fun y134 h=>ab (ld1 y134 h) fun y135 h=>ab (pu (aC prog .and 139 y133 y135) h) fun y136 h=>ab (pu (aC prog .xor 139 y132 y136) h) fun y137 h=>ab (pu (idxA 8 1 (x 11) (.int .i64 1)) h) fun y138 h=>ab (ld1 y138 h) fun y139 h=>ab (pu (idxA 8 1 (x 11) (.int .i64 2)) h) fun y140 h=>ab (ld1 y140 h) fun y141 h=>ab (pu (aC prog .and 139 y139 y141) h) fun y142 h=>ab (pu (aC prog .xor 139 y137 y142) h) fun y143 h=>ab (some (y143,h)) fun y16 h=>let g31_0:=h
 ab (pu (idxA 8 1 (x 11) (.int .i64 7)) g31_0) fun y144 g31_1=>ab (ld1 y144 g31_1) fun y145 g31_2=>ab (some (y14,g31_2)) fun y146 g31_3=>ab (C 122 [y146,.int .u64 6] g31_3) fun y147 g31_4=>ab (some (y14,g31_4)) fun y148 g31_5=>ab (C 122 [y148,.int .u64 11] g31_5) fun y149 g31_6=>ab (pu (aC prog .xor 139 y147 y149) g31_6) fun y150 g31_7=>ab (some (y14,g31_7)) fun y151 g31_8=>ab (C 122 [y151,.int .u64 25] g31_8) fun y152 g31_9=>ab (pu (aC prog .xor 139 y150 y152) g31_9) fun y153 g31_10=>ab (pu (aC prog .add 139 y145 y153) g31_10) fun y154 g31_11=>ab (some (y15,g31_11)) fun y155 g31_12=>ab (pu (aC prog .add 139 y154 y155) g31_12) fun y156 g31_13=>ab (some (x 12,g31_13)) fun y157 g31_14=>
 ab (pu (idxA 64 1 (x 4) y157) g31_14) fun y158 g31_15=>ab (ld1 y158 g31_15) fun y159 g31_16=>ab (pu (aC prog .add 139 y156 y159) g31_16) fun y160 g31_17=>ab (some (x 12,g31_17)) fun y161 g31_18=>ab (pu (idxA 64 1 (x 7) y161) g31_18) fun y162 g31_19=>ab (ld1 y162 g31_19) fun y163 g31_20=>ab (pu (aC prog .add 139 y160 y163) g31_20) fun y164 g31_21=>ab (some (y164,g31_21)) fun y17 g31_22=>
 (match (bF true (ld1 y144 g31_4) y145&&(bF true (ld1 y144 g31_6) y145&&(bF true (ld1 y144 g31_9) y145&&(bF true (ld1 y158 g31_3) y159&&(bF true (ld1 y158 g31_5) y159&&(bF true (ld1 y158 g31_8) y159&&(bF true (ld1 y162 g31_3) y163&&(bF true (ld1 y162 g31_5) y163&&(bF true (ld1 y162 g31_8) y163&&true))))))))) with
 |true=>let h:=g31_22
 ab (some (y13,h)) fun y165 h=>ab (C 122 [y165,.int .u64 2] h) fun y166 h=>ab (some (y13,h)) fun y167 h=>ab (C 122 [y167,.int .u64 13] h) fun y168 h=>ab (pu (aC prog .xor 139 y166 y168) h) fun y169 h=>ab (some (y13,h)) fun y170 h=>ab (C 122 [y170,.int .u64 22] h) fun y171 h=>ab (pu (aC prog .xor 139 y169 y171) h) fun y172 h=>ab (some (y16,h)) fun y173 h=>ab (pu (aC prog .add 139 y172 y173) h) fun y174 h=>ab (some (y174,h)) fun y18 h=>ab (some (y17,h)) fun y175 h=>ab (some (y18,h)) fun y176 h=>ab (pu (aC prog .add 139 y175 y176) h) fun y177 h=>ab (some (y13,h)) fun y178 h=>ab (pu (idxA 8 1 (x 11) (.int .i64 1)) h) fun y179 h=>ab (ld1 y179 h) fun y180 h=>
 ab (pu (idxA 8 1 (x 11) (.int .i64 2)) h) fun y181 h=>ab (ld1 y181 h) fun y182 h=>ab (pu (idxA 8 1 (x 11) (.int .i64 3)) h) fun y183 h=>ab (ld1 y183 h) fun y184 h=>ab (some (y17,h)) fun y185 h=>ab (pu (aC prog .add 139 y184 y185) h) fun y186 h=>ab (some (y14,h)) fun y187 h=>ab (pu (idxA 8 1 (x 11) (.int .i64 5)) h) fun y188 h=>ab (ld1 y188 h) fun y189 h=>ab (pu (idxA 8 1 (x 11) (.int .i64 6)) h) fun y190 h=>ab (ld1 y190 h) fun y191 h=>ab (pu (ei (List.replicate 8 (.int .u32 0)) [(0,1,y177),(1,1,y178),(2,1,y180),(3,1,y182),(4,1,y186),(5,1,y187),(6,1,y189),(7,1,y191)]) h) fun y192 h=>ab (eo 8 (x 11) y192 h) fun _ h=>ab (some (x 12,h)) fun y113 h=>
 ab (pu (aC prog .add 3 y113 (.int .i64 1)) h) fun y114 h=>ab (some (y114,h)) fun y12 h=>
 some (.normal,(aL 206 (up x [(12,y12),(13,y13),(14,y14),(15,y15),(16,y16),(17,y17),(18,y18),(111,y111),(112,y112),(113,y113),(114,y114),(115,y115),(116,y116),(117,y117),(118,y118),(119,y119),(120,y120),(121,y121),(122,y122),(123,y123),(124,y124),(125,y125),(126,y126),(127,y127),(128,y128),(129,y129),(130,y130),(131,y131),(132,y132),(133,y133),(134,y134),(135,y135),(136,y136),(137,y137),(138,y138),(139,y139),(140,y140),(141,y141),(142,y142),(143,y143),(144,y144),(145,y145),(146,y146),(147,y147),(148,y148),(149,y149),(150,y150),(151,y151),(152,y152),(153,y153),(154,y154),(155,y155),(156,y156),(157,y157),(158,y158),(159,y159),(160,y160),(161,y161),(162,y162),(163,y163),(164,y164),(165,y165),(166,y166),(167,y167),(168,y168),(169,y169),(170,y170),(171,y171),(172,y172),(173,y173),(174,y174),(175,y175),(176,y176),(177,y177),(178,y178),(179,y179),(180,y180),(181,y181),(182,y182),(183,y183),(184,y184),(185,y185),(186,y186),(187,y187),(188,y188),(189,y189),(190,y190),(191,y191),(192,y192)])),h)
 |false=>none)
 | .bool false=>some (.exit 2,(aL 206 (up x [(111,y111),(112,y112)])),h)
 |_=>none)
noncomputable def pk (_:aj) (x:fK) (h:ad):aS:=
 ab (cx 8 (x 3) h) fun y205 h=>ab (eo 8 (x 6) y205 h) fun _ h=>resultsA prog f113.results.toList (aL 206 (up x [(205,y205)])) h
noncomputable def iA (_:aj) (x:fK) (h:ad):fB:=
 ab (some (x 19,h)) fun y193 h=>ab (pu (aC prog .lss 3 y193 (.int .i64 8)) h) fun y194 h=>(match y194 with
 | .bool true=>ab (some (x 19,h)) fun y197 h=>ab (pu (idxA 8 1 (x 3) y197) h) fun y198 h=>ab (ld1 y198 h) fun y199 h=>ab (some (x 19,h)) fun y200 h=>ab (pu (idxA 8 1 (x 11) y200) h) fun y201 h=>ab (ld1 y201 h) fun y202 h=>ab (pu (aC prog .add 139 y199 y202) h) fun y203 h=>ab (pu (idxA 8 1 (x 3) y197) h) fun y204 h=>ab (eo 1 y204 y203 h) fun _ h=>ab (some (x 19,h)) fun y195 h=>ab (pu (aC prog .add 3 y195 (.int .i64 1)) h) fun y196 h=>ab (some (y196,h)) fun y19 h=>some (.normal,(aL 206 (up x [(19,y19),(193,y193),(194,y194),(195,y195),(196,y196),(197,y197),(198,y198),(199,y199),(200,y200),(201,y201),(202,y202),(203,y203),(204,y204)])),h)
 | .bool false=>some (.exit 4,(aL 206 (up x [(193,y193),(194,y194)])),h)
 |_=>none)
theorem t153_eq (C:aj) (x0 x1 x2:Value) (h:ad):ba prog C f113 [x0,x1,x2] h=t153 C x0 x1 x2 h:=
 eH (by kernel_rfl) (by kernel_rfl)
theorem AO:k153_2 C (aL 206 x) h=rL C x h:=
 qM (T:=rL C) (fun x h=>by kernel_rfl) x h
theorem ug:codeA prog C (au f113 [1,1,0,1,0,0]) (aL 206 x) h=jY C x h:=
 aE (T:=jY C) (fun x h=>by kernel_rfl) x h
theorem Ap:k153_6 C (aL 206 x) h=sI C x h:=
 qM (T:=sI C) (fun x h=>by kernel_rfl) x h
theorem qO:codeA prog C (au f113 [1,1,1,1,0,1,0,0]) (aL 206 x) h=jb C x h:=
 aE (T:=jb C) (fun x h=>by kernel_rfl) x h
theorem yK:k153_20 C (aL 206 x) h=pk C x h:=
 qM (T:=pk C) (fun x h=>by kernel_rfl) x h
theorem oS:codeA prog C (au f113 [1,1,1,1,1,0,1,0,0]) (aL 206 x) h=iA C x h:=
 aE (T:=iA C) (fun x h=>by kernel_rfl) x h
noncomputable def t161 (_:aj) (x0 x1:Value) (h:ad):aS:=
 ab (some (.int .u32 0,h)) fun _ h=>ab (some (x0,h)) fun y5 h=>ab (some (x1,h)) fun y6 h=>ab (pu (aC prog .shr 139 y5 y6) h) fun y7 h=>ab (some (x0,h)) fun y8 h=>ab (some (x1,h)) fun y9 h=>ab (pu (aC prog .sub 120 (.int .u64 32) y9) h) fun y10 h=>ab (pu (aC prog .shl 139 y8 y10) h) fun y11 h=>ab (pu (aC prog .or 139 y7 y11) h) fun y12 h=>ab (some (y12,h)) fun y4_1 h=>some (y4_1,h)
theorem t161_eq (C:aj) (x0 x1:Value) (h:ad):ba prog C f122 [x0,x1] h=t161 C x0 x1 h:=
 eH (by kernel_rfl) (by kernel_rfl)
noncomputable def t72 (C:aj) (x0:Value) (h:ad):aS:=
 ab (box x0 h) fun y1 h=>ab (dB (List.replicate 32 (.int .u8 0)) h) fun y2 h=>ab (cx 39 y1 h) fun y6 h=>ab (C 94 [y6] h) fun y7 h=>ab (some (y7,h)) fun y5 h=>ab (pu (extractA y5 0) h) fun y8 h=>ab (pu (extractA y5 1) h) fun y9 h=>ab (some (y8,h)) fun y3 h=>ab (some (y9,h)) fun y4 h=>ab (cg 1 (.int .u8 0) 1 [(0,.int .u8 0)] h) fun y10 h=>ab (some (y3,h)) fun y11 h=>ab (appendA 1 1 y10 y11 h) fun y12 h=>ab (C 69 [y12] h) fun y13 h=>ab (eo 32 y2 y13 h) fun _ h=>resultsA prog f70.results.toList (aL 14 (up (bs [x0]) [(1,y1),(2,y2),(3,y3),(4,y4),(5,y5),(6,y6),(7,y7),(8,y8),(9,y9),(10,y10),(11,y11),(12,y12),(13,y13)])) h
theorem t72_eq (C:aj) (x0:Value) (h:ad):ba prog C f70 [x0] h=t72 C x0 h:=
 eH (by kernel_rfl) (by kernel_rfl)
noncomputable def t110 (C:aj) (x0 x1:Value) (h:ad):aS:=
 ab (box x0 h) fun y2 h=>ab (box x1 h) fun y3 h=>ab (dB (List.replicate 32 (.int .u8 0)) h) fun y4 h=>ab (pu (sliceArr 32 1 y2 none none none) h) fun y6 h=>ab (cg 1 (.int .u8 0) 1 [(0,.int .u8 1)] h) fun y5 h=>ab (appendA 1 1 y5 y6 h) fun y7 h=>ab (pu (sliceArr 32 1 y3 none none none) h) fun y8 h=>ab (appendA 1 1 y7 y8 h) fun y9 h=>ab (C 69 [y9] h) fun y10 h=>ab (eo 32 y4 y10 h) fun _ h=>resultsA prog f72.results.toList (aL 11 (up (bs [x0,x1]) [(2,y2),(3,y3),(4,y4),(5,y5),(6,y6),(7,y7),(8,y8),(9,y9),(10,y10)])) h
theorem t110_eq (C:aj) (x0 x1:Value) (h:ad):ba prog C f72 [x0,x1] h=t110 C x0 x1 h:=
 eH (by kernel_rfl) (by kernel_rfl)
end
end Go.Proofs.YtdnahgfgoajmcaaGreatDoor
