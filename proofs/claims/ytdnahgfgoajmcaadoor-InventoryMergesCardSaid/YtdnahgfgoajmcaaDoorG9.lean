/-
  A part of the proof, spaces and names shortened by a program (a claim may hold 1,500,000 bytes).
  Conditions: as each theorem states.
-/
import Derived.Test.YtdnahgfgoajmcaaDoorG8
import Derived.Test.YtdnahgfgoajmcaaDoorProg
import Derived.KernelRfl
namespace Go.Proofs.YtdnahgfgoajmcaaDoor
open Go Go.Abs
noncomputable def t42 (C:CallF) (x0:Value) (h:Heap):Out:=
 thenV (box x0 h) fun y1 h=>
 thenV (some ((.bool false),h)) fun y2 h=>
 thenV (pu (addP y1 0) h) fun y3 h=>
 thenV (ld1 y3 h) fun y4 h=>
 thenV (pu (bin Tryd.prog .eql 56 y4 (.int .u8 1)) h) fun y6 h=>
 thenV (some (y6,h)) fun y5 h=>
 (match y5 with
 | .bool true=>
 thenV (ldN 39 y1 h) fun y7 h=>
 thenV (pu (addP y1 0) h) fun y8 h=>
 thenV (ld1 y8 h) fun y9 h=>
 thenV (pu (addP y1 33) h) fun y10 h=>
 thenV (ld1 y10 h) fun y11 h=>
 thenV (pu (addP y1 34) h) fun y12 h=>
 thenV (ld1 y12 h) fun y13 h=>
 thenV (pu (bldR [(.int .u8 0),(.int .u8 0),(.int .u8 0),(.int .u8 0),(.int .u8 0),(.int .u8 0),(.int .u8 0),(.int .u8 0),(.int .u8 0),(.int .u8 0),(.int .u8 0),(.int .u8 0),(.int .u8 0),(.int .u8 0),(.int .u8 0),(.int .u8 0),(.int .u8 0),(.int .u8 0),(.int .u8 0),(.int .u8 0),(.int .u8 0),(.int .u8 0),(.int .u8 0),(.int .u8 0),(.int .u8 0),(.int .u8 0),(.int .u8 0),(.int .u8 0),(.int .u8 0),(.int .u8 0),(.int .u8 0),(.int .u8 0),(.int .u8 0),(.int .i64 0),(.int .u64 0),(.int .u64 0),(.bool false),(.int .i64 0),(.int .i64 0)] [(0,1,y9),(33,1,y11),(34,1,y13)]) h) fun y14 h=>
 thenV (pu (bin Tryd.prog .eql 58 y7 y14) h) fun y15 h=>
 thenV (some (y15,h)) fun y16 h=>
 thenV (guardK (bOf y16==some true) (ldN 39 y1 h) h) fun y17 h=>
 thenV (guardK (bOf y16==some true) (C 86 [y17] h) h) fun y18 h=>
 thenV (match y16 with | .bool t=>some (if t then y18 else (.bool false),h)|_=>none) fun y19 h=>
 thenV (some (y19,h)) fun y2_1 h=>
 some (y2_1,h)
 | .bool false=>
 thenV (pu (bin Tryd.prog .eql 56 y4 (.int .u8 2)) h) fun y21 h=>
 thenV (some (y21,h)) fun y20 h=>
 (match y20 with
 | .bool true=>
 thenV (ldN 39 y1 h) fun y22 h=>
 thenV (pu (addP y1 0) h) fun y23 h=>
 thenV (ld1 y23 h) fun y24 h=>
 thenV (pu (addP y1 1) h) fun y25 h=>
 thenV (ldN 32 y25 h) fun y26 h=>
 thenV (pu (bldR [(.int .u8 0),(.int .u8 0),(.int .u8 0),(.int .u8 0),(.int .u8 0),(.int .u8 0),(.int .u8 0),(.int .u8 0),(.int .u8 0),(.int .u8 0),(.int .u8 0),(.int .u8 0),(.int .u8 0),(.int .u8 0),(.int .u8 0),(.int .u8 0),(.int .u8 0),(.int .u8 0),(.int .u8 0),(.int .u8 0),(.int .u8 0),(.int .u8 0),(.int .u8 0),(.int .u8 0),(.int .u8 0),(.int .u8 0),(.int .u8 0),(.int .u8 0),(.int .u8 0),(.int .u8 0),(.int .u8 0),(.int .u8 0),(.int .u8 0),(.int .i64 0),(.int .u64 0),(.int .u64 0),(.bool false),(.int .i64 0),(.int .i64 0)] [(0,1,y24),(1,32,y26)]) h) fun y27 h=>
 thenV (pu (bin Tryd.prog .eql 58 y22 y27) h) fun y28 h=>
 thenV (some (y28,h)) fun y2_1 h=>
 some (y2_1,h)
 | .bool false=>
 thenV (pu (bin Tryd.prog .eql 56 y4 (.int .u8 3)) h) fun y30 h=>
 thenV (some (y30,h)) fun y29 h=>
 (match y29 with
 | .bool true=>
 thenV (ldN 39 y1 h) fun y31 h=>
 thenV (C 86 [y31] h) fun y32 h=>
 thenV (some (y32,h)) fun y33 h=>
 thenV (guardK (bOf y33==some true) (pu (addP y1 35) h) h) fun y34 h=>
 thenV (guardK (bOf y33==some true) (ld1 y34 h) h) fun y35 h=>
 thenV (guardK (bOf y33==some true) (pu (bin Tryd.prog .geq 32 y35 (.int .u64 1)) h) h) fun y36 h=>
 thenV (match y33 with | .bool t=>some (if t then y36 else (.bool false),h)|_=>none) fun y37 h=>
 thenV (some (y37,h)) fun y38 h=>
 thenV (guardK (bOf y38==some true) (pu (addP y1 37) h) h) fun y39 h=>
 thenV (guardK (bOf y38==some true) (ld1 y39 h) h) fun y40 h=>
 thenV (guardK (bOf y38==some true) (pu (bin Tryd.prog .leq 3 (.int .i64 1) y40) h) h) fun y41 h=>
 thenV (match y38 with | .bool t=>some (if t then y41 else (.bool false),h)|_=>none) fun y42 h=>
 thenV (some (y42,h)) fun y43 h=>
 thenV (guardK (bOf y43==some true) (pu (addP y1 37) h) h) fun y44 h=>
 thenV (guardK (bOf y43==some true) (ld1 y44 h) h) fun y45 h=>
 thenV (guardK (bOf y43==some true) (pu (addP y1 38) h) h) fun y46 h=>
 thenV (guardK (bOf y43==some true) (ld1 y46 h) h) fun y47 h=>
 thenV (guardK (bOf y43==some true) (pu (bin Tryd.prog .leq 3 y45 y47) h) h) fun y48 h=>
 thenV (match y43 with | .bool t=>some (if t then y48 else (.bool false),h)|_=>none) fun y49 h=>
 thenV (some (y49,h)) fun y50 h=>
 thenV (guardK (bOf y50==some true) (pu (addP y1 38) h) h) fun y51 h=>
 thenV (guardK (bOf y50==some true) (ld1 y51 h) h) fun y52 h=>
 thenV (guardK (bOf y50==some true) (pu (bin Tryd.prog .leq 3 y52 (.int .i64 255)) h) h) fun y53 h=>
 thenV (match y50 with | .bool t=>some (if t then y53 else (.bool false),h)|_=>none) fun y54 h=>
 thenV (some (y54,h)) fun y2_1 h=>
 some (y2_1,h)
 | .bool false=>
 thenV (some ((.bool false),h)) fun y2_1 h=>
 some (y2_1,h)
 |_=>none)
 |_=>none)
 |_=>none)
theorem t42_eq (C:CallF) (x0:Value) (h:Heap):bodyK Tryd.prog C Tryd.f42 [x0] h=t42 C x0 h:=
 (bodyB_eq Tryd.prog C Tryd.f42 [x0] h (by kernel_rfl)).trans (by kernel_rfl)
noncomputable def t86 (C:CallF) (x0:Value) (h:Heap):Out:=
 thenV (box x0 h) fun y1 h=>
 thenV (some ((.bool false),h)) fun y2 h=>
 thenV (pu (addP y1 33) h) fun y3 h=>
 thenV (ld1 y3 h) fun y4 h=>
 thenV (pu (bin Tryd.prog .geq 3 y4 (.int .i64 0)) h) fun y5 h=>
 thenV (some (y5,h)) fun y6 h=>
 thenV (guardK (bOf y6==some true) (pu (addP y1 33) h) h) fun y7 h=>
 thenV (guardK (bOf y6==some true) (ld1 y7 h) h) fun y8 h=>
 thenV (guardK (bOf y6==some true) (pu (bin Tryd.prog .lss 3 y8 (.int .i64 16)) h) h) fun y9 h=>
 thenV (match y6 with | .bool t=>some (if t then y9 else (.bool false),h)|_=>none) fun y10 h=>
 thenV (some (y10,h)) fun y11 h=>
 thenV (guardK (bOf y11==some true) (pu (addP y1 34) h) h) fun y12 h=>
 thenV (guardK (bOf y11==some true) (ld1 y12 h) h) fun y13 h=>
 thenV (guardK (bOf y11==some true) (pu (bin Tryd.prog .geq 32 y13 (.int .u64 1)) h) h) fun y14 h=>
 thenV (match y11 with | .bool t=>some (if t then y14 else (.bool false),h)|_=>none) fun y15 h=>
 thenV (some (y15,h)) fun y2_1 h=>
 some (y2_1,h)
theorem t86_eq (C:CallF) (x0:Value) (h:Heap):bodyK Tryd.prog C Tryd.f86 [x0] h=t86 C x0 h:=
 (bodyB_eq Tryd.prog C Tryd.f86 [x0] h (by kernel_rfl)).trans (by kernel_rfl)
end Go.Proofs.YtdnahgfgoajmcaaDoor

namespace Go.Proofs.YtdnahgfgoajmcaaDoor
open Go Go.Abs
noncomputable def t97 (C:CallF) (x0:Value) (h:Heap):Out:=
 thenV (some ((.int .u64 0),h)) fun y2 h=>
 thenV (some (x0,h)) fun y3 h=>
 (match y3 with
 | .bool true=>
 thenV (some ((.int .u64 1),h)) fun y2_1 h=>
 some (y2_1,h)
 | .bool false=>
 thenV (some ((.int .u64 0),h)) fun y2_1 h=>
 some (y2_1,h)
 |_=>none)
theorem t97_eq (C:CallF) (x0:Value) (h:Heap):bodyK Tryd.prog C Tryd.f97 [x0] h=t97 C x0 h:=
 (bodyB_eq Tryd.prog C Tryd.f97 [x0] h (by kernel_rfl)).trans (by kernel_rfl)
noncomputable def t48 (C:CallF) (x0:Value) (h:Heap):Out:=
 thenV (box x0 h) fun y1 h=>
 thenV (some ((.bool false),h)) fun y2 h=>
 thenV (pu (addP y1 33) h) fun y5 h=>
 thenV (ld1 y5 h) fun y6 h=>
 thenV (pu (bin Tryd.prog .geq 3 y6 (.int .i64 0)) h) fun y7 h=>
 thenV (some (y7,h)) fun y8 h=>
 thenV (guardK (bOf y8==some true) (pu (addP y1 33) h) h) fun y9 h=>
 thenV (guardK (bOf y8==some true) (ld1 y9 h) h) fun y10 h=>
 thenV (guardK (bOf y8==some true) (pu (bin Tryd.prog .leq 3 y10 (.int .i64 15)) h) h) fun y11 h=>
 thenV (match y8 with | .bool t=>some (if t then y11 else (.bool false),h)|_=>none) fun y12 h=>
 thenV (some (y12,h)) fun y13 h=>
 thenV (guardK (bOf y13==some true) (pu (addP y1 34) h) h) fun y14 h=>
 thenV (guardK (bOf y13==some true) (ld1 y14 h) h) fun y15 h=>
 thenV (guardK (bOf y13==some true) (pu (bin Tryd.prog .geq 32 y15 (.int .u64 1)) h) h) fun y16 h=>
 thenV (match y13 with | .bool t=>some (if t then y16 else (.bool false),h)|_=>none) fun y17 h=>
 thenV (some (y17,h)) fun y3 h=>
 thenV (pu (addP y1 35) h) fun y18 h=>
 thenV (ld1 y18 h) fun y19 h=>
 thenV (pu (bin Tryd.prog .eql 32 y19 (.int .u64 0)) h) fun y20 h=>
 thenV (some (y20,h)) fun y21 h=>
 thenV (guardK (bOf y21==some true) (pu (addP y1 36) h) h) fun y22 h=>
 thenV (guardK (bOf y21==some true) (ld1 y22 h) h) fun y23 h=>
 thenV (guardK (bOf y21==some true) (pu (unA .not y23) h) h) fun y24 h=>
 thenV (match y21 with | .bool t=>some (if t then y24 else (.bool false),h)|_=>none) fun y25 h=>
 thenV (some (y25,h)) fun y26 h=>
 thenV (guardK (bOf y26==some true) (pu (addP y1 37) h) h) fun y27 h=>
 thenV (guardK (bOf y26==some true) (ld1 y27 h) h) fun y28 h=>
 thenV (guardK (bOf y26==some true) (pu (bin Tryd.prog .eql 3 y28 (.int .i64 0)) h) h) fun y29 h=>
 thenV (match y26 with | .bool t=>some (if t then y29 else (.bool false),h)|_=>none) fun y30 h=>
 thenV (some (y30,h)) fun y31 h=>
 thenV (guardK (bOf y31==some true) (pu (addP y1 38) h) h) fun y32 h=>
 thenV (guardK (bOf y31==some true) (ld1 y32 h) h) fun y33 h=>
 thenV (guardK (bOf y31==some true) (pu (bin Tryd.prog .eql 3 y33 (.int .i64 0)) h) h) fun y34 h=>
 thenV (match y31 with | .bool t=>some (if t then y34 else (.bool false),h)|_=>none) fun y35 h=>
 thenV (some (y35,h)) fun y4 h=>
 thenV (pu (addP y1 0) h) fun y36 h=>
 thenV (ld1 y36 h) fun y37 h=>
 thenV (pu (bin Tryd.prog .eql 56 y37 (.int .u8 1)) h) fun y39 h=>
 thenV (some (y39,h)) fun y38 h=>
 (match y38 with
 | .bool true=>
 thenV (some (y3,h)) fun y40 h=>
 thenV (some (y40,h)) fun y41 h=>
 thenV (guardK (bOf y41==some true) (some (y4,h)) h) fun y42 h=>
 thenV (match y41 with | .bool t=>some (if t then y42 else (.bool false),h)|_=>none) fun y43 h=>
 thenV (some (y43,h)) fun y44 h=>
 thenV (guardK (bOf y44==some true) (pu (addP y1 1) h) h) fun y45 h=>
 thenV (guardK (bOf y44==some true) (ldN 32 y45 h) h) fun y46 h=>
 thenV (guardK (bOf y44==some true) (ldN 32 (ptr 0 0) h) h) fun y47 h=>
 thenV (guardK (bOf y44==some true) (pu (bin Tryd.prog .eql 35 y46 y47) h) h) fun y48 h=>
 thenV (match y44 with | .bool t=>some (if t then y48 else (.bool false),h)|_=>none) fun y49 h=>
 thenV (some (y49,h)) fun y2_1 h=>
 some (y2_1,h)
 | .bool false=>
 thenV (pu (bin Tryd.prog .eql 56 y37 (.int .u8 2)) h) fun y51 h=>
 thenV (some (y51,h)) fun y50 h=>
 (match y50 with
 | .bool true=>
 thenV (some (y4,h)) fun y52 h=>
 thenV (some (y52,h)) fun y53 h=>
 thenV (guardK (bOf y53==some true) (pu (addP y1 33) h) h) fun y54 h=>
 thenV (guardK (bOf y53==some true) (ld1 y54 h) h) fun y55 h=>
 thenV (guardK (bOf y53==some true) (pu (bin Tryd.prog .eql 3 y55 (.int .i64 0)) h) h) fun y56 h=>
 thenV (match y53 with | .bool t=>some (if t then y56 else (.bool false),h)|_=>none) fun y57 h=>
 thenV (some (y57,h)) fun y58 h=>
 thenV (guardK (bOf y58==some true) (pu (addP y1 34) h) h) fun y59 h=>
 thenV (guardK (bOf y58==some true) (ld1 y59 h) h) fun y60 h=>
 thenV (guardK (bOf y58==some true) (pu (bin Tryd.prog .eql 32 y60 (.int .u64 0)) h) h) fun y61 h=>
 thenV (match y58 with | .bool t=>some (if t then y61 else (.bool false),h)|_=>none) fun y62 h=>
 thenV (some (y62,h)) fun y2_1 h=>
 some (y2_1,h)
 | .bool false=>
 thenV (pu (bin Tryd.prog .eql 56 y37 (.int .u8 3)) h) fun y64 h=>
 thenV (some (y64,h)) fun y63 h=>
 (match y63 with
 | .bool true=>
 thenV (some (y3,h)) fun y65 h=>
 thenV (some (y65,h)) fun y66 h=>
 thenV (guardK (bOf y66==some true) (pu (addP y1 35) h) h) fun y67 h=>
 thenV (guardK (bOf y66==some true) (ld1 y67 h) h) fun y68 h=>
 thenV (guardK (bOf y66==some true) (pu (bin Tryd.prog .geq 32 y68 (.int .u64 1)) h) h) fun y69 h=>
 thenV (match y66 with | .bool t=>some (if t then y69 else (.bool false),h)|_=>none) fun y70 h=>
 thenV (some (y70,h)) fun y71 h=>
 thenV (guardK (bOf y71==some true) (pu (addP y1 37) h) h) fun y72 h=>
 thenV (guardK (bOf y71==some true) (ld1 y72 h) h) fun y73 h=>
 thenV (guardK (bOf y71==some true) (pu (bin Tryd.prog .leq 3 (.int .i64 1) y73) h) h) fun y74 h=>
 thenV (match y71 with | .bool t=>some (if t then y74 else (.bool false),h)|_=>none) fun y75 h=>
 thenV (some (y75,h)) fun y76 h=>
 thenV (guardK (bOf y76==some true) (pu (addP y1 37) h) h) fun y77 h=>
 thenV (guardK (bOf y76==some true) (ld1 y77 h) h) fun y78 h=>
 thenV (guardK (bOf y76==some true) (pu (addP y1 38) h) h) fun y79 h=>
 thenV (guardK (bOf y76==some true) (ld1 y79 h) h) fun y80 h=>
 thenV (guardK (bOf y76==some true) (pu (bin Tryd.prog .leq 3 y78 y80) h) h) fun y81 h=>
 thenV (match y76 with | .bool t=>some (if t then y81 else (.bool false),h)|_=>none) fun y82 h=>
 thenV (some (y82,h)) fun y83 h=>
 thenV (guardK (bOf y83==some true) (pu (addP y1 38) h) h) fun y84 h=>
 thenV (guardK (bOf y83==some true) (ld1 y84 h) h) fun y85 h=>
 thenV (guardK (bOf y83==some true) (pu (bin Tryd.prog .leq 3 y85 (.int .i64 255)) h) h) fun y86 h=>
 thenV (match y83 with | .bool t=>some (if t then y86 else (.bool false),h)|_=>none) fun y87 h=>
 thenV (some (y87,h)) fun y2_1 h=>
 some (y2_1,h)
 | .bool false=>
 thenV (some ((.bool false),h)) fun y2_1 h=>
 some (y2_1,h)
 |_=>none)
 |_=>none)
 |_=>none)
theorem t48_eq (C:CallF) (x0:Value) (h:Heap):bodyK Tryd.prog C Tryd.f48 [x0] h=t48 C x0 h:=
 (bodyB_eq Tryd.prog C Tryd.f48 [x0] h (by kernel_rfl)).trans (by kernel_rfl)
end Go.Proofs.YtdnahgfgoajmcaaDoor

namespace Go.Proofs.YtdnahgfgoajmcaaDoor
open Go Go.Abs
noncomputable def k49_7 (C:CallF) (e:Env) (h:Heap):Out:=codeK Tryd.prog C (partOf Tryd.f49 [1,1,1,1]) e h (resultsA Tryd.prog Tryd.f49.results.toList) (resultsA Tryd.prog Tryd.f49.results.toList) (fun _ _ _=>none)
noncomputable def b49_9 (C:CallF) (i:Nat) (e:Env) (h:Heap):Out:=if i=0 then (k49_7 C) e h else (fun _ _ _=>none) i e h
noncomputable def t49 (C:CallF) (x0 x1:Value) (h:Heap):Out:=
 thenV (box x0 h) fun y2 h=>
 thenV (box x1 h) fun y3 h=>
 thenV (some ((.bool false),h)) fun y4 h=>
 let g3_0:=h
 thenV (ldN 39 y2 g3_0) fun y8 g3_1=>
 thenV (C 48 [y8] g3_1) fun y9 g3_2=>
 thenV (pu (unA .not y9) g3_2) fun y10 g3_3=>
 thenV (some (y10,g3_3)) fun y11 g3_4=>
 thenV (guardK (bOf y11==some false) (ldN 39 y3 g3_4) g3_4) fun y12 g3_5=>
 thenV (guardK (bOf y11==some false) (C 48 [y12] g3_5) g3_5) fun y13 g3_6=>
 thenV (guardK (bOf y11==some false) (pu (unA .not y13) g3_6) g3_6) fun y14 g3_7=>
 thenV (match y11 with | .bool t=>some (if t then (.bool true) else y14,g3_7)|_=>none) fun y15 g3_8=>
 thenV (some (y15,g3_8)) fun y16 g3_9=>
 thenV (guardK (bOf y16==some false) (ldN 39 y2 g3_9) g3_9) fun y17 g3_10=>
 thenV (guardK (bOf y16==some false) (C 59 [y17] g3_10) g3_10) fun y18 g3_11=>
 thenV (guardK (bOf y16==some false) (ldN 39 y3 g3_11) g3_11) fun y19 g3_12=>
 thenV (guardK (bOf y16==some false) (C 59 [y19] g3_12) g3_12) fun y20 g3_13=>
 thenV (guardK (bOf y16==some false) (pu (bin Tryd.prog .neq 9 y18 y20) g3_13) g3_13) fun y21 g3_14=>
 thenV (match y16 with | .bool t=>some (if t then (.bool true) else y21,g3_14)|_=>none) fun y22 g3_15=>
 (match (chkR (bOf y16==some false) (ldN 39 y3 g3_10) y19&&true) with
 |true=>
 let h:=g3_15
 (match y22 with
 | .bool true=>
 thenV (some ((.bool false),h)) fun y4_1 h=>
 some (y4_1,h)
 | .bool false=>
 let g6_0:=h
 thenV (ldN 39 y2 g6_0) fun y23 g6_1=>
 thenV (C 99 [y23] g6_1) fun y24 g6_2=>
 thenV (ldN 39 y3 g6_2) fun y25 g6_3=>
 thenV (C 99 [y25] g6_3) fun y26 g6_4=>
 thenV (newC (List.replicate 5 (.int .u64 0)) g6_4) fun y5 g6_5=>
 thenV (newC (List.replicate 5 (.int .u64 0)) g6_5) fun y6 g6_6=>
 thenV (stN 5 y5 y24 g6_6) fun _ g6_7=>
 thenV (stN 5 y6 y26 g6_7) fun _ g6_8=>
 (match (chkR true (ldN 39 y3 g6_1) y25&&true) with
 |true=>
 let h:=g6_8
 thenV (some ((.int .i64 0),h)) fun y7 h=>
 endL (iter (codeA Tryd.prog C (partOf Tryd.f49 [1,1,1,0,1,0,0])) rounds (mkF 45 (up (bs [x0,x1]) [(2,y2),(3,y3),(4,y4),(5,y5),(6,y6),(7,y7),(8,y8),(9,y9),(10,y10),(11,y11),(12,y12),(13,y13),(14,y14),(15,y15),(16,y16),(17,y17),(18,y18),(19,y19),(20,y20),(21,y21),(22,y22),(23,y23),(24,y24),(25,y25),(26,y26)])) h) (resultsA Tryd.prog Tryd.f49.results.toList) (b49_9 C)
 |false=>none)
 |_=>none)
 |false=>none)
noncomputable def t49k49_7 (C:CallF) (x:Nat→Value) (h:Heap):Out:=
 thenV (some ((.bool false),h)) fun y4 h=>
 some (y4,h)
noncomputable def t49l49_111010 (C:CallF) (x:Nat→Value) (h:Heap):Option (Ex×Env×Heap):=
 thenV (some ((x 7),h)) fun y27 h=>
 thenV (pu (bin Tryd.prog .lss 3 y27 (.int .i64 5)) h) fun y28 h=>
 (match y28 with
 | .bool true=>
 thenV (some ((x 7),h)) fun y31 h=>
 thenV (pu (idxA 5 1 (x 5) y31) h) fun y32 h=>
 thenV (ld1 y32 h) fun y33 h=>
 thenV (some ((x 7),h)) fun y34 h=>
 thenV (pu (idxA 5 1 (x 6) y34) h) fun y35 h=>
 thenV (ld1 y35 h) fun y36 h=>
 thenV (pu (bin Tryd.prog .neq 32 y33 y36) h) fun y37 h=>
 (match y37 with
 | .bool true=>
 thenV (some ((x 7),h)) fun y38 h=>
 thenV (pu (idxA 5 1 (x 5) y38) h) fun y39 h=>
 thenV (ld1 y39 h) fun y40 h=>
 thenV (some ((x 7),h)) fun y41 h=>
 thenV (pu (idxA 5 1 (x 6) y41) h) fun y42 h=>
 thenV (ld1 y42 h) fun y43 h=>
 thenV (pu (bin Tryd.prog .gtr 32 y40 y43) h) fun y44 h=>
 thenV (some (y44,h)) fun y4 h=>
 some (.ret,(mkF 45 (up x [(4,y4),(27,y27),(28,y28),(31,y31),(32,y32),(33,y33),(34,y34),(35,y35),(36,y36),(37,y37),(38,y38),(39,y39),(40,y40),(41,y41),(42,y42),(43,y43),(44,y44)])),h)
 | .bool false=>
 thenV (some ((x 7),h)) fun y29 h=>
 thenV (pu (bin Tryd.prog .add 3 y29 (.int .i64 1)) h) fun y30 h=>
 thenV (some (y30,h)) fun y7 h=>
 some (.normal,(mkF 45 (up x [(7,y7),(27,y27),(28,y28),(29,y29),(30,y30),(31,y31),(32,y32),(33,y33),(34,y34),(35,y35),(36,y36),(37,y37)])),h)
 |_=>none)
 | .bool false=>
 some (.exit 0,(mkF 45 (up x [(27,y27),(28,y28)])),h)
 |_=>none)
theorem t49_eq (C:CallF) (x0 x1:Value) (h:Heap):bodyK Tryd.prog C Tryd.f49 [x0,x1] h=t49 C x0 x1 h:=
 (bodyB_eq Tryd.prog C Tryd.f49 [x0,x1] h (by kernel_rfl)).trans (by kernel_rfl)
theorem t49k49_7_eq (C:CallF) (x:Nat→Value) (h:Heap):k49_7 C (mkF 45 x) h=t49k49_7 C x h:=
 link_partF (b:=(partOf Tryd.f49 [1,1,1,1])) (kE:=(resultsA Tryd.prog Tryd.f49.results.toList)) (rE:=(resultsA Tryd.prog Tryd.f49.results.toList)) (xE:=(fun _ _ _=>none)) (T:=t49k49_7 C) (fun x h=>by kernel_rfl) x h
theorem t49l49_111010_eq (C:CallF) (x:Nat→Value) (h:Heap):codeA Tryd.prog C (partOf Tryd.f49 [1,1,1,0,1,0,0]) (mkF 45 x) h=t49l49_111010 C x h:=
 link_roundF (T:=t49l49_111010 C) (fun x h=>by kernel_rfl) x h
noncomputable def t62 (C:CallF) (x0:Value) (h:Heap):Out:=
 thenV (box x0 h) fun y1 h=>
 thenV (newC [(.int .u8 0),(.int .u8 0),(.int .u8 0),(.int .u8 0),(.int .u8 0),(.int .u8 0),(.int .u8 0),(.int .u8 0),(.int .u8 0),(.int .u8 0),(.int .u8 0),(.int .u8 0),(.int .u8 0),(.int .u8 0),(.int .u8 0),(.int .u8 0),(.int .u8 0),(.int .u8 0),(.int .u8 0),(.int .u8 0),(.int .u8 0),(.int .u8 0),(.int .u8 0),(.int .u8 0),(.int .u8 0),(.int .u8 0),(.int .u8 0),(.int .u8 0),(.int .u8 0),(.int .u8 0),(.int .u8 0),(.int .u8 0),(.int .u8 0),(.int .i64 0)] h) fun y2 h=>
 thenV (pu (addP y1 0) h) fun y3 h=>
 thenV (ld1 y3 h) fun y4 h=>
 thenV (pu (addP y1 1) h) fun y5 h=>
 thenV (ldN 32 y5 h) fun y6 h=>
 thenV (pu (addP y1 33) h) fun y7 h=>
 thenV (ld1 y7 h) fun y8 h=>
 thenV (pu (bldR [(.int .u8 0),(.int .u8 0),(.int .u8 0),(.int .u8 0),(.int .u8 0),(.int .u8 0),(.int .u8 0),(.int .u8 0),(.int .u8 0),(.int .u8 0),(.int .u8 0),(.int .u8 0),(.int .u8 0),(.int .u8 0),(.int .u8 0),(.int .u8 0),(.int .u8 0),(.int .u8 0),(.int .u8 0),(.int .u8 0),(.int .u8 0),(.int .u8 0),(.int .u8 0),(.int .u8 0),(.int .u8 0),(.int .u8 0),(.int .u8 0),(.int .u8 0),(.int .u8 0),(.int .u8 0),(.int .u8 0),(.int .u8 0),(.int .u8 0),(.int .i64 0)] [(0,1,y4),(1,32,y6),(33,1,y8)]) h) fun y9 h=>
 thenV (stN 34 y2 y9 h) fun _ h=>
 resultsA Tryd.prog Tryd.f62.results.toList (mkF 10 (up (bs [x0]) [(1,y1),(2,y2),(3,y3),(4,y4),(5,y5),(6,y6),(7,y7),(8,y8),(9,y9)])) h
theorem t62_eq (C:CallF) (x0:Value) (h:Heap):bodyK Tryd.prog C Tryd.f62 [x0] h=t62 C x0 h:=
 (bodyB_eq Tryd.prog C Tryd.f62 [x0] h (by kernel_rfl)).trans (by kernel_rfl)
noncomputable def t63 (C:CallF) (x0 x1:Value) (h:Heap):Out:=
 thenV (box x0 h) fun y2 h=>
 thenV (box x1 h) fun y3 h=>
 thenV (some ((.int .i64 0),h)) fun y4 h=>
 thenV (some ((.int .i64 0),h)) fun y5 h=>
 thenV (pu (addP y2 36) h) fun y6 h=>
 thenV (ld1 y6 h) fun y7 h=>
 thenV (pu (addP y3 36) h) fun y8 h=>
 thenV (ld1 y8 h) fun y9 h=>
 thenV (pu (bin Tryd.prog .neq 4 y7 y9) h) fun y10 h=>
 (match y10 with
 | .bool true=>
 thenV (some ((.int .i64 (-1)),h)) fun y5_1 h=>
 thenV (pu (addP y2 36) h) fun y11 h=>
 thenV (ld1 y11 h) fun y12 h=>
 (match y12 with
 | .bool true=>
 thenV (some ((.int .i64 1),h)) fun y5_2 h=>
 let g7_0:=h
 thenV (pu (addP y2 34) g7_0) fun y13 g7_1=>
 thenV (ld1 y13 g7_1) fun y14 g7_2=>
 thenV (pu (addP y3 34) g7_2) fun y15 g7_3=>
 thenV (ld1 y15 g7_3) fun y16 g7_4=>
 thenV (C 115 [y14,y16] g7_4) fun y17 g7_5=>
 thenV (pu (addP y2 35) g7_5) fun y18 g7_6=>
 thenV (ld1 y18 g7_6) fun y19 g7_7=>
 thenV (pu (addP y3 35) g7_7) fun y20 g7_8=>
 thenV (ld1 y20 g7_8) fun y21 g7_9=>
 thenV (C 115 [y19,y21] g7_9) fun y22 g7_10=>
 thenV (some (y5_2,g7_10)) fun y23 g7_11=>
 thenV (pu (addP y2 37) g7_11) fun y24 g7_12=>
 thenV (ld1 y24 g7_12) fun y25 g7_13=>
 thenV (pu (addP y3 37) g7_13) fun y26 g7_14=>
 thenV (ld1 y26 g7_14) fun y27 g7_15=>
 thenV (C 116 [y25,y27] g7_15) fun y28 g7_16=>
 thenV (pu (addP y2 38) g7_16) fun y29 g7_17=>
 thenV (ld1 y29 g7_17) fun y30 g7_18=>
 thenV (pu (addP y3 38) g7_18) fun y31 g7_19=>
 thenV (ld1 y31 g7_19) fun y32 g7_20=>
 thenV (C 116 [y30,y32] g7_20) fun y33 g7_21=>
 thenV (bslR 1 (.int .i64 0) 5 [(0,y17),(1,y22),(2,y23),(3,y28),(4,y33)] g7_21) fun y34 g7_22=>
 thenV (C 114 [y34] g7_22) fun y35 g7_23=>
 thenV (some (y35,g7_23)) fun y4_1 g7_24=>
 (match (chkR true (ld1 y18 g7_4) y19&&(chkR true (ld1 y20 g7_4) y21&&(chkR true (ld1 y24 g7_4) y25&&(chkR true (ld1 y24 g7_9) y25&&(chkR true (ld1 y26 g7_4) y27&&(chkR true (ld1 y26 g7_9) y27&&(chkR true (ld1 y29 g7_4) y30&&(chkR true (ld1 y29 g7_9) y30&&(chkR true (ld1 y29 g7_15) y30&&(chkR true (ld1 y31 g7_4) y32&&(chkR true (ld1 y31 g7_9) y32&&(chkR true (ld1 y31 g7_15) y32&&true)))))))))))) with
 |true=>
 let h:=g7_24
 some (y4_1,h)
 |false=>none)
 | .bool false=>
 let g8_0:=h
 thenV (pu (addP y2 34) g8_0) fun y13 g8_1=>
 thenV (ld1 y13 g8_1) fun y14 g8_2=>
 thenV (pu (addP y3 34) g8_2) fun y15 g8_3=>
 thenV (ld1 y15 g8_3) fun y16 g8_4=>
 thenV (C 115 [y14,y16] g8_4) fun y17 g8_5=>
 thenV (pu (addP y2 35) g8_5) fun y18 g8_6=>
 thenV (ld1 y18 g8_6) fun y19 g8_7=>
 thenV (pu (addP y3 35) g8_7) fun y20 g8_8=>
 thenV (ld1 y20 g8_8) fun y21 g8_9=>
 thenV (C 115 [y19,y21] g8_9) fun y22 g8_10=>
 thenV (some (y5_1,g8_10)) fun y23 g8_11=>
 thenV (pu (addP y2 37) g8_11) fun y24 g8_12=>
 thenV (ld1 y24 g8_12) fun y25 g8_13=>
 thenV (pu (addP y3 37) g8_13) fun y26 g8_14=>
 thenV (ld1 y26 g8_14) fun y27 g8_15=>
 thenV (C 116 [y25,y27] g8_15) fun y28 g8_16=>
 thenV (pu (addP y2 38) g8_16) fun y29 g8_17=>
 thenV (ld1 y29 g8_17) fun y30 g8_18=>
 thenV (pu (addP y3 38) g8_18) fun y31 g8_19=>
 thenV (ld1 y31 g8_19) fun y32 g8_20=>
 thenV (C 116 [y30,y32] g8_20) fun y33 g8_21=>
 thenV (bslR 1 (.int .i64 0) 5 [(0,y17),(1,y22),(2,y23),(3,y28),(4,y33)] g8_21) fun y34 g8_22=>
 thenV (C 114 [y34] g8_22) fun y35 g8_23=>
 thenV (some (y35,g8_23)) fun y4_1 g8_24=>
 (match (chkR true (ld1 y18 g8_4) y19&&(chkR true (ld1 y20 g8_4) y21&&(chkR true (ld1 y24 g8_4) y25&&(chkR true (ld1 y24 g8_9) y25&&(chkR true (ld1 y26 g8_4) y27&&(chkR true (ld1 y26 g8_9) y27&&(chkR true (ld1 y29 g8_4) y30&&(chkR true (ld1 y29 g8_9) y30&&(chkR true (ld1 y29 g8_15) y30&&(chkR true (ld1 y31 g8_4) y32&&(chkR true (ld1 y31 g8_9) y32&&(chkR true (ld1 y31 g8_15) y32&&true)))))))))))) with
 |true=>
 let h:=g8_24
 some (y4_1,h)
 |false=>none)
 |_=>none)
 | .bool false=>
 let g9_0:=h
 thenV (pu (addP y2 34) g9_0) fun y13 g9_1=>
 thenV (ld1 y13 g9_1) fun y14 g9_2=>
 thenV (pu (addP y3 34) g9_2) fun y15 g9_3=>
 thenV (ld1 y15 g9_3) fun y16 g9_4=>
 thenV (C 115 [y14,y16] g9_4) fun y17 g9_5=>
 thenV (pu (addP y2 35) g9_5) fun y18 g9_6=>
 thenV (ld1 y18 g9_6) fun y19 g9_7=>
 thenV (pu (addP y3 35) g9_7) fun y20 g9_8=>
 thenV (ld1 y20 g9_8) fun y21 g9_9=>
 thenV (C 115 [y19,y21] g9_9) fun y22 g9_10=>
 thenV (some (y5,g9_10)) fun y23 g9_11=>
 thenV (pu (addP y2 37) g9_11) fun y24 g9_12=>
 thenV (ld1 y24 g9_12) fun y25 g9_13=>
 thenV (pu (addP y3 37) g9_13) fun y26 g9_14=>
 thenV (ld1 y26 g9_14) fun y27 g9_15=>
 thenV (C 116 [y25,y27] g9_15) fun y28 g9_16=>
 thenV (pu (addP y2 38) g9_16) fun y29 g9_17=>
 thenV (ld1 y29 g9_17) fun y30 g9_18=>
 thenV (pu (addP y3 38) g9_18) fun y31 g9_19=>
 thenV (ld1 y31 g9_19) fun y32 g9_20=>
 thenV (C 116 [y30,y32] g9_20) fun y33 g9_21=>
 thenV (bslR 1 (.int .i64 0) 5 [(0,y17),(1,y22),(2,y23),(3,y28),(4,y33)] g9_21) fun y34 g9_22=>
 thenV (C 114 [y34] g9_22) fun y35 g9_23=>
 thenV (some (y35,g9_23)) fun y4_1 g9_24=>
 (match (chkR true (ld1 y18 g9_4) y19&&(chkR true (ld1 y20 g9_4) y21&&(chkR true (ld1 y24 g9_4) y25&&(chkR true (ld1 y24 g9_9) y25&&(chkR true (ld1 y26 g9_4) y27&&(chkR true (ld1 y26 g9_9) y27&&(chkR true (ld1 y29 g9_4) y30&&(chkR true (ld1 y29 g9_9) y30&&(chkR true (ld1 y29 g9_15) y30&&(chkR true (ld1 y31 g9_4) y32&&(chkR true (ld1 y31 g9_9) y32&&(chkR true (ld1 y31 g9_15) y32&&true)))))))))))) with
 |true=>
 let h:=g9_24
 some (y4_1,h)
 |false=>none)
 |_=>none)
theorem t63_eq (C:CallF) (x0 x1:Value) (h:Heap):bodyK Tryd.prog C Tryd.f63 [x0,x1] h=t63 C x0 x1 h:=
 (bodyB_eq Tryd.prog C Tryd.f63 [x0,x1] h (by kernel_rfl)).trans (by kernel_rfl)
noncomputable def t67 (C:CallF) (x0:Value) (h:Heap):Out:=
 thenV (box x0 h) fun y1 h=>
 thenV (some ((.slice none 0 0),h)) fun y2 h=>
 thenV (mkR 1 1 (.int .u8 0) (.int .i64 0) (.int .i64 34) h) fun y4 h=>
 thenV (some (y4,h)) fun y3 h=>
 thenV (some (y3,h)) fun y5 h=>
 thenV (pu (addP y1 0) h) fun y6 h=>
 thenV (ld1 y6 h) fun y7 h=>
 thenV (bslR 1 (.int .u8 0) 1 [(0,y7)] h) fun y8 h=>
 thenV (appendA 1 1 y5 y8 h) fun y9 h=>
 thenV (some (y9,h)) fun y3_1 h=>
 thenV (some (y3_1,h)) fun y10 h=>
 thenV (pu (addP y1 1) h) fun y11 h=>
 thenV (pu (sliceArr 32 1 y11 none none none) h) fun y12 h=>
 thenV (appendA 1 1 y10 y12 h) fun y13 h=>
 thenV (some (y13,h)) fun y3_2 h=>
 thenV (some (y3_2,h)) fun y14 h=>
 thenV (pu (addP y1 33) h) fun y15 h=>
 thenV (ld1 y15 h) fun y16 h=>
 thenV (cvI .u8 y16 h) fun y17 h=>
 thenV (bslR 1 (.int .u8 0) 1 [(0,y17)] h) fun y18 h=>
 thenV (appendA 1 1 y14 y18 h) fun y19 h=>
 thenV (some (y19,h)) fun y2_1 h=>
 some (y2_1,h)
theorem t67_eq (C:CallF) (x0:Value) (h:Heap):bodyK Tryd.prog C Tryd.f67 [x0] h=t67 C x0 h:=
 (bodyB_eq Tryd.prog C Tryd.f67 [x0] h (by kernel_rfl)).trans (by kernel_rfl)
noncomputable def t59 (C:CallF) (x0:Value) (h:Heap):Out:=
 thenV (box x0 h) fun y1 h=>
 thenV (some ((.string ⟨#[]⟩),h)) fun y2 h=>
 let g2_0:=h
 thenV (pu (addP y1 0) g2_0) fun y3 g2_1=>
 thenV (ld1 y3 g2_1) fun y4 g2_2=>
 thenV (pu (addP y1 1) g2_2) fun y7 g2_3=>
 thenV (pu (sliceArr 32 1 y7 none none none) g2_3) fun y8 g2_4=>
 thenV (cvBS y8 g2_4) fun y9 g2_5=>
 thenV (pu (addP y1 33) g2_5) fun y11 g2_6=>
 thenV (ld1 y11 g2_6) fun y12 g2_7=>
 thenV (cvI .u8 y12 g2_7) fun y13 g2_8=>
 thenV (bslR 1 (.int .u8 0) 1 [(0,y4)] g2_8) fun y5 g2_9=>
 thenV (cvBS y5 g2_9) fun y6 g2_10=>
 thenV (pu (bin Tryd.prog .add 9 y6 y9) g2_10) fun y10 g2_11=>
 thenV (bslR 1 (.int .u8 0) 1 [(0,y13)] g2_11) fun y14 g2_12=>
 thenV (cvBS y14 g2_12) fun y15 g2_13=>
 thenV (pu (bin Tryd.prog .add 9 y10 y15) g2_13) fun y16 g2_14=>
 thenV (some (y16,g2_14)) fun y2_1 g2_15=>
 (match (chkR true (cvBS y14 (Heap.plus true g2_8 g2_11 g2_12)) y15&&true) with
 |true=>
 let h:=g2_15
 some (y2_1,h)
 |false=>none)
theorem t59_eq (C:CallF) (x0:Value) (h:Heap):bodyK Tryd.prog C Tryd.f59 [x0] h=t59 C x0 h:=
 (bodyB_eq Tryd.prog C Tryd.f59 [x0] h (by kernel_rfl)).trans (by kernel_rfl)
noncomputable def t99 (C:CallF) (x0:Value) (h:Heap):Out:=
 thenV (box x0 h) fun y1 h=>
 thenV (newC (List.replicate 5 (.int .u64 0)) h) fun y2 h=>
 let g2_0:=h
 thenV (pu (addP y1 34) g2_0) fun y3 g2_1=>
 thenV (ld1 y3 g2_1) fun y4 g2_2=>
 thenV (pu (addP y1 35) g2_2) fun y5 g2_3=>
 thenV (ld1 y5 g2_3) fun y6 g2_4=>
 thenV (pu (addP y1 36) g2_4) fun y7 g2_5=>
 thenV (ld1 y7 g2_5) fun y8 g2_6=>
 thenV (C 97 [y8] g2_6) fun y9 g2_7=>
 thenV (pu (addP y1 37) g2_7) fun y10 g2_8=>
 thenV (ld1 y10 g2_8) fun y11 g2_9=>
 thenV (cvI .u64 y11 g2_9) fun y12 g2_10=>
 thenV (pu (addP y1 38) g2_10) fun y13 g2_11=>
 thenV (ld1 y13 g2_11) fun y14 g2_12=>
 thenV (cvI .u64 y14 g2_12) fun y15 g2_13=>
 thenV (pu (bldR (List.replicate 5 (.int .u64 0)) [(0,1,y4),(1,1,y6),(2,1,y9),(3,1,y12),(4,1,y15)]) g2_13) fun y16 g2_14=>
 thenV (stN 5 y2 y16 g2_14) fun _ g2_15=>
 (match (chkR true (ld1 y3 g2_7) y4&&(chkR true (ld1 y5 g2_7) y6&&(chkR true (ld1 y10 g2_6) y11&&(chkR true (cvI .u64 y11 g2_6) y12&&(chkR true (ld1 y13 g2_6) y14&&(chkR true (cvI .u64 y14 g2_6) y15&&true)))))) with
 |true=>
 let h:=g2_15
 resultsA Tryd.prog Tryd.f99.results.toList (mkF 17 (up (bs [x0]) [(1,y1),(2,y2),(3,y3),(4,y4),(5,y5),(6,y6),(7,y7),(8,y8),(9,y9),(10,y10),(11,y11),(12,y12),(13,y13),(14,y14),(15,y15),(16,y16)])) h
 |false=>none)
theorem t99_eq (C:CallF) (x0:Value) (h:Heap):bodyK Tryd.prog C Tryd.f99 [x0] h=t99 C x0 h:=
 (bodyB_eq Tryd.prog C Tryd.f99 [x0] h (by kernel_rfl)).trans (by kernel_rfl)
noncomputable def k114_2 (C:CallF) (e:Env) (h:Heap):Out:=codeK Tryd.prog C (partOf Tryd.f114 [1,1,1]) e h (resultsA Tryd.prog Tryd.f114.results.toList) (resultsA Tryd.prog Tryd.f114.results.toList) (fun _ _ _=>none)
noncomputable def b114_4 (C:CallF) (i:Nat) (e:Env) (h:Heap):Out:=if i=0 then (k114_2 C) e h else (fun _ _ _=>none) i e h
noncomputable def t114 (C:CallF) (x0:Value) (h:Heap):Out:=
 thenV (some ((.int .i64 0),h)) fun y2 h=>
 thenV (some ((.int .i64 0),h)) fun y3 h=>
 thenV (some (x0,h)) fun y6 h=>
 thenV (pu (lenL y6) h) fun y7 h=>
 thenV (some ((.int .i64 0),h)) fun y8 h=>
 endL (iter (codeA Tryd.prog C (partOf Tryd.f114 [1,1,0,1,0,0])) rounds (mkF 18 (up (bs [x0]) [(2,y2),(3,y3),(6,y6),(7,y7),(8,y8)])) h) (resultsA Tryd.prog Tryd.f114.results.toList) (b114_4 C)
noncomputable def t114k114_2 (C:CallF) (x:Nat→Value) (h:Heap):Out:=
 thenV (some ((x 3),h)) fun y17 h=>
 thenV (some (y17,h)) fun y2 h=>
 some (y2,h)
noncomputable def t114l114_11010 (C:CallF) (x:Nat→Value) (h:Heap):Option (Ex×Env×Heap):=
 thenV (pu (bin Tryd.prog .lss 3 (x 8) (x 7)) h) fun y9 h=>
 (match y9 with
 | .bool true=>
 thenV (pu (idxS 1 (x 6) (x 8)) h) fun y10 h=>
 thenV (ld1 y10 h) fun y11 h=>
 thenV (some (y11,h)) fun y5 h=>
 thenV (some (y5,h)) fun y12 h=>
 thenV (some ((x 3),h)) fun y13 h=>
 thenV (pu (bin Tryd.prog .neq 3 y12 y13) h) fun y14 h=>
 (match y14 with
 | .bool true=>
 thenV (some (y5,h)) fun y15 h=>
 thenV (some (y15,h)) fun y2 h=>
 some (.ret,(mkF 18 (up x [(2,y2),(5,y5),(9,y9),(10,y10),(11,y11),(12,y12),(13,y13),(14,y14),(15,y15)])),h)
 | .bool false=>
 thenV (pu (bin Tryd.prog .add 3 (x 8) (.int .i64 1)) h) fun y16 h=>
 thenV (some (y16,h)) fun y8 h=>
 some (.normal,(mkF 18 (up x [(5,y5),(8,y8),(9,y9),(10,y10),(11,y11),(12,y12),(13,y13),(14,y14),(16,y16)])),h)
 |_=>none)
 | .bool false=>
 some (.exit 0,(mkF 18 (up x [(9,y9)])),h)
 |_=>none)
theorem t114_eq (C:CallF) (x0:Value) (h:Heap):bodyK Tryd.prog C Tryd.f114 [x0] h=t114 C x0 h:=
 (bodyB_eq Tryd.prog C Tryd.f114 [x0] h (by kernel_rfl)).trans (by kernel_rfl)
theorem t114k114_2_eq (C:CallF) (x:Nat→Value) (h:Heap):k114_2 C (mkF 18 x) h=t114k114_2 C x h:=
 link_partF (b:=(partOf Tryd.f114 [1,1,1])) (kE:=(resultsA Tryd.prog Tryd.f114.results.toList)) (rE:=(resultsA Tryd.prog Tryd.f114.results.toList)) (xE:=(fun _ _ _=>none)) (T:=t114k114_2 C) (fun x h=>by kernel_rfl) x h
theorem t114l114_11010_eq (C:CallF) (x:Nat→Value) (h:Heap):codeA Tryd.prog C (partOf Tryd.f114 [1,1,0,1,0,0]) (mkF 18 x) h=t114l114_11010 C x h:=
 link_roundF (T:=t114l114_11010 C) (fun x h=>by kernel_rfl) x h
noncomputable def t115 (C:CallF) (x0 x1:Value) (h:Heap):Out:=
 thenV (some ((.int .i64 0),h)) fun y4 h=>
 thenV (some (x0,h)) fun y7 h=>
 thenV (C 137 [y7] h) fun y8 h=>
 thenV (some (y8,h)) fun y5 h=>
 thenV (some (x1,h)) fun y9 h=>
 thenV (C 137 [y9] h) fun y10 h=>
 thenV (some (y10,h)) fun y6 h=>
 thenV (some (y5,h)) fun y11 h=>
 (match y11 with
 | .bool true=>
 thenV (some (y6,h)) fun y12 h=>
 (match y12 with
 | .bool true=>
 thenV (some ((.int .i64 0),h)) fun y4_1 h=>
 some (y4_1,h)
 | .bool false=>
 thenV (some ((.int .i64 (-1)),h)) fun y4_1 h=>
 some (y4_1,h)
 |_=>none)
 | .bool false=>
 thenV (some (y6,h)) fun y13 h=>
 (match y13 with
 | .bool true=>
 thenV (some ((.int .i64 1),h)) fun y4_1 h=>
 some (y4_1,h)
 | .bool false=>
 thenV (some (x0,h)) fun y14 h=>
 thenV (some (x1,h)) fun y15 h=>
 thenV (pu (bin Tryd.prog .lss 32 y14 y15) h) fun y16 h=>
 (match y16 with
 | .bool true=>
 thenV (some ((.int .i64 (-1)),h)) fun y4_1 h=>
 some (y4_1,h)
 | .bool false=>
 thenV (some (x0,h)) fun y17 h=>
 thenV (some (x1,h)) fun y18 h=>
 thenV (pu (bin Tryd.prog .gtr 32 y17 y18) h) fun y19 h=>
 (match y19 with
 | .bool true=>
 thenV (some ((.int .i64 1),h)) fun y4_1 h=>
 some (y4_1,h)
 | .bool false=>
 thenV (some ((.int .i64 0),h)) fun y4_1 h=>
 some (y4_1,h)
 |_=>none)
 |_=>none)
 |_=>none)
 |_=>none)
theorem t115_eq (C:CallF) (x0 x1:Value) (h:Heap):bodyK Tryd.prog C Tryd.f115 [x0,x1] h=t115 C x0 x1 h:=
 (bodyB_eq Tryd.prog C Tryd.f115 [x0,x1] h (by kernel_rfl)).trans (by kernel_rfl)
noncomputable def t116 (C:CallF) (x0 x1:Value) (h:Heap):Out:=
 thenV (some ((.int .i64 0),h)) fun y4 h=>
 thenV (some (x0,h)) fun y7 h=>
 thenV (C 138 [y7] h) fun y8 h=>
 thenV (some (y8,h)) fun y5 h=>
 thenV (some (x1,h)) fun y9 h=>
 thenV (C 138 [y9] h) fun y10 h=>
 thenV (some (y10,h)) fun y6 h=>
 thenV (some (y5,h)) fun y11 h=>
 (match y11 with
 | .bool true=>
 thenV (some (y6,h)) fun y12 h=>
 (match y12 with
 | .bool true=>
 thenV (some ((.int .i64 0),h)) fun y4_1 h=>
 some (y4_1,h)
 | .bool false=>
 thenV (some ((.int .i64 (-1)),h)) fun y4_1 h=>
 some (y4_1,h)
 |_=>none)
 | .bool false=>
 thenV (some (y6,h)) fun y13 h=>
 (match y13 with
 | .bool true=>
 thenV (some ((.int .i64 1),h)) fun y4_1 h=>
 some (y4_1,h)
 | .bool false=>
 thenV (some (x0,h)) fun y14 h=>
 thenV (some (x1,h)) fun y15 h=>
 thenV (pu (bin Tryd.prog .lss 3 y14 y15) h) fun y16 h=>
 (match y16 with
 | .bool true=>
 thenV (some ((.int .i64 (-1)),h)) fun y4_1 h=>
 some (y4_1,h)
 | .bool false=>
 thenV (some (x0,h)) fun y17 h=>
 thenV (some (x1,h)) fun y18 h=>
 thenV (pu (bin Tryd.prog .gtr 3 y17 y18) h) fun y19 h=>
 (match y19 with
 | .bool true=>
 thenV (some ((.int .i64 1),h)) fun y4_1 h=>
 some (y4_1,h)
 | .bool false=>
 thenV (some ((.int .i64 0),h)) fun y4_1 h=>
 some (y4_1,h)
 |_=>none)
 |_=>none)
 |_=>none)
 |_=>none)
theorem t116_eq (C:CallF) (x0 x1:Value) (h:Heap):bodyK Tryd.prog C Tryd.f116 [x0,x1] h=t116 C x0 x1 h:=
 (bodyB_eq Tryd.prog C Tryd.f116 [x0,x1] h (by kernel_rfl)).trans (by kernel_rfl)
noncomputable def t137 (C:CallF) (x0:Value) (h:Heap):Out:=
 thenV (some ((.bool false),h)) fun y2 h=>
 thenV (some (x0,h)) fun y3 h=>
 thenV (some (x0,h)) fun y4 h=>
 thenV (pu (bin Tryd.prog .neq 32 y3 y4) h) fun y5 h=>
 thenV (some (y5,h)) fun y2_1 h=>
 some (y2_1,h)
theorem t137_eq (C:CallF) (x0:Value) (h:Heap):bodyK Tryd.prog C Tryd.f137 [x0] h=t137 C x0 h:=
 (bodyB_eq Tryd.prog C Tryd.f137 [x0] h (by kernel_rfl)).trans (by kernel_rfl)
noncomputable def t138 (C:CallF) (x0:Value) (h:Heap):Out:=
 thenV (some ((.bool false),h)) fun y2 h=>
 thenV (some (x0,h)) fun y3 h=>
 thenV (some (x0,h)) fun y4 h=>
 thenV (pu (bin Tryd.prog .neq 3 y3 y4) h) fun y5 h=>
 thenV (some (y5,h)) fun y2_1 h=>
 some (y2_1,h)
theorem t138_eq (C:CallF) (x0:Value) (h:Heap):bodyK Tryd.prog C Tryd.f138 [x0] h=t138 C x0 h:=
 (bodyB_eq Tryd.prog C Tryd.f138 [x0] h (by kernel_rfl)).trans (by kernel_rfl)
end Go.Proofs.YtdnahgfgoajmcaaDoor

namespace Go.Proofs.YtdnahgfgoajmcaaDoor
open Go Go.Abs
end Go.Proofs.YtdnahgfgoajmcaaDoor

