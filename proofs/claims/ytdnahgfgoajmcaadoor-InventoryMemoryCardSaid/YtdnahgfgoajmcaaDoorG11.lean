/-
  A part of the proof, spaces and names shortened by a program (a claim may hold 1,500,000 bytes).
  Conditions: as each theorem states.
-/
import Derived.Test.YtdnahgfgoajmcaaDoorG10
import Derived.Test.YtdnahgfgoajmcaaDoorProg
import Derived.KernelRfl
namespace Go.Proofs.YtdnahgfgoajmcaaDoor
open Go Go.Abs
noncomputable def k54_5 (C:ae) (e:Env) (h:ab):Out:=bR Tryd.prog C (partOf Tryd.f54 [1,1,1,1]) e h (ao Tryd.prog Tryd.f54.results.toList) (ao Tryd.prog Tryd.f54.results.toList) (fun _ _ _=>none)
noncomputable def b54_7 (C:ae) (i:Nat) (e:Env) (h:ab):Out:=if i=0 then (k54_5 C) e h else (fun _ _ _=>none) i e h
noncomputable def k54_9 (C:ae) (e:Env) (h:ab):Out:=bR Tryd.prog C (partOf Tryd.f54 [1,1,1,1,1,1]) e h (ao Tryd.prog Tryd.f54.results.toList) (ao Tryd.prog Tryd.f54.results.toList) (fun _ _ _=>none)
noncomputable def b54_11 (C:ae) (i:Nat) (e:Env) (h:ab):Out:=if i=4 then (k54_9 C) e h else (fun _ _ _=>none) i e h
noncomputable def k54_14 (C:ae) (e:Env) (h:ab):Option (Ex×Env×ab):=bR Tryd.prog C (partOf Tryd.f54 [1,1,1,0,1,0,0,1,1,1]) e h (fun e h=>some (Ex.normal,e,h)) (fun e h=>some (Ex.ret,e,h)) (fun i e h=>some (Ex.exit i,e,h))
noncomputable def b54_15 (C:ae) (i:Nat) (e:Env) (h:ab):Option (Ex×Env×ab):=if i=1 then (k54_14 C) e h else (fun i e h=>some (Ex.exit i,e,h)) i e h
noncomputable def k54_18 (C:ae) (e:Env) (h:ab):Option (Ex×Env×ab):=bR Tryd.prog C (partOf Tryd.f54 [1,1,1,0,1,0,0,1,1,0,0,1,1,1]) e h (k54_14 C) (fun e h=>some (Ex.ret,e,h)) (b54_15 C)
noncomputable def b54_20 (C:ae) (i:Nat) (e:Env) (h:ab):Option (Ex×Env×ab):=if i=2 then (k54_18 C) e h else (b54_15 C) i e h
noncomputable def t54 (C:ae) (x0:Value) (h:ab):Out:=
 aa (fS (List.replicate 32 (.int .u8 0)) h) fun y2 h=>
 aa (some (x0,h)) fun y11 h=>
 aa (pu (cx y11) h) fun y12 h=>
 aa (pu (bin Tryd.prog .eql 3 y12 (.int .i64 0)) h) fun y13 h=>
 (match y13 with
 | .bool true=>
 aa (C 106 [(.slice none 0 0)] h) fun y14 h=>
 aa (fM 32 y2 y14 h) fun _ h=>
 ao Tryd.prog Tryd.f54.results.toList (aN 66 (up (bs [x0]) [(2,y2),(11,y11),(12,y12),(13,y13),(14,y14)])) h
 | .bool false=>
 aa (some ((.slice none 0 0),h)) fun y3 h=>
 aa (some (x0,h)) fun y15 h=>
 aa (pu (cx y15) h) fun y16 h=>
 aa (some ((.int .i64 0),h)) fun y17 h=>
 fC (iter (au Tryd.prog C (partOf Tryd.f54 [1,1,1,0,1,0,0])) rounds (aN 66 (up (bs [x0]) [(2,y2),(3,y3),(11,y11),(12,y12),(13,y13),(15,y15),(16,y16),(17,y17)])) h) (ao Tryd.prog Tryd.f54.results.toList) (b54_7 C)
 |_=>none)
noncomputable def t54k54_5 (C:ae) (x:Nat→Value) (h:ab):Out:=
 aa (some ((x 3),h)) fun y48 h=>
 aa (some ((x 3),h)) fun y49 h=>
 aa (pu (cx y49) h) fun y50 h=>
 aa (pu (bin Tryd.prog .sub 3 y50 (.int .i64 1)) h) fun y51 h=>
 aa (pu (cd 32 y48 y51) h) fun y52 h=>
 aa (dZ 32 y52 h) fun y53 h=>
 aa (fS (List.replicate 32 (.int .u8 0)) h) fun y8 h=>
 aa (fM 32 y8 y53 h) fun _ h=>
 aa (some ((x 3),h)) fun y54 h=>
 aa (some ((x 3),h)) fun y55 h=>
 aa (pu (cx y55) h) fun y56 h=>
 aa (pu (bin Tryd.prog .sub 3 y56 (.int .i64 1)) h) fun y57 h=>
 aa (pu (slR 32 y54 none (some y57) none) h) fun y58 h=>
 aa (C 107 [y58] h) fun y59 h=>
 endN (au Tryd.prog C (partOf Tryd.f54 [1,1,1,1,1,0,1,0]) (aN 66 (up x [(8,y8),(48,y48),(49,y49),(50,y50),(51,y51),(52,y52),(53,y53),(54,y54),(55,y55),(56,y56),(57,y57),(58,y58),(59,y59)])) h) (k54_9 C) (ao Tryd.prog Tryd.f54.results.toList) (b54_11 C)
noncomputable def t54l54_111010 (C:ae) (x:Nat→Value) (h:ab):Option (Ex×Env×ab):=
 aa (pu (bin Tryd.prog .lss 3 (x 17) (x 16)) h) fun y18 h=>
 (match y18 with
 | .bool true=>
 aa (some ((x 17),h)) fun y19 h=>
 aa (pu (cd 39 (x 15) (x 17)) h) fun y20 h=>
 aa (dZ 39 y20 h) fun y21 h=>
 aa (fS [(.int .u8 0),(.int .u8 0),(.int .u8 0),(.int .u8 0),(.int .u8 0),(.int .u8 0),(.int .u8 0),(.int .u8 0),(.int .u8 0),(.int .u8 0),(.int .u8 0),(.int .u8 0),(.int .u8 0),(.int .u8 0),(.int .u8 0),(.int .u8 0),(.int .u8 0),(.int .u8 0),(.int .u8 0),(.int .u8 0),(.int .u8 0),(.int .u8 0),(.int .u8 0),(.int .u8 0),(.int .u8 0),(.int .u8 0),(.int .u8 0),(.int .u8 0),(.int .u8 0),(.int .u8 0),(.int .u8 0),(.int .u8 0),(.int .u8 0),(.int .i64 0),(.int .u64 0),(.int .u64 0),(.bool false),(.int .i64 0),(.int .i64 0)] h) fun y5 h=>
 aa (some (y19,h)) fun y4 h=>
 aa (fM 39 y5 y21 h) fun _ h=>
 aa (dZ 39 y5 h) fun y22 h=>
 aa (C 69 [y22] h) fun y23 h=>
 aa (fS (List.replicate 32 (.int .u8 0)) h) fun y6 h=>
 aa (fM 32 y6 y23 h) fun _ h=>
 aa (some (y4,h)) fun y24 h=>
 aa (some (y24,h)) fun y7 h=>
 fC (iter (au Tryd.prog C (partOf Tryd.f54 [1,1,1,0,1,0,0,1,1,0,0,1,1,0,1,0,0])) rounds (aN 66 (up x [(4,y4),(5,y5),(6,y6),(7,y7),(18,y18),(19,y19),(20,y20),(21,y21),(22,y22),(23,y23),(24,y24)])) h) (fun e h=>some (Ex.ret,e,h)) (b54_20 C)
 | .bool false=>
 some (.exit 0,(aN 66 (up x [(18,y18)])),h)
 |_=>none)
noncomputable def t54k54_9 (_C:ae) (x:Nat→Value) (h:ab):Out:=
 aa (dZ 32 (x 8) h) fun y65 h=>
 aa (fM 32 (x 2) y65 h) fun _ h=>
 ao Tryd.prog Tryd.f54.results.toList (aN 66 (up x [(65,y65)])) h
noncomputable def t54l54_11111010a (_C:ae) (x:Nat→Value) (h:ab):Option (Ex×Env×ab):=
 aa (fS (List.replicate 32 (.int .u8 0)) h) fun y10 h=>
 aa (fM 32 y10 (x 61) h) fun _ h=>
 some (.normal,(aN 66 (up x [(10,y10)])),h)
noncomputable def t54l54_11111010b (C:ae) (x:Nat→Value) (h:ab):Option (Ex×Env×ab):=
 aa (dZ 32 (x 10) h) fun y62 h=>
 aa (dZ 32 (x 8) h) fun y63 h=>
 aa (C 70 [y62,y63] h) fun y64 h=>
 aa (fM 32 (x 8) y64 h) fun _ h=>
 some (.normal,(aN 66 (up x [(62,y62),(63,y63),(64,y64)])),h)
noncomputable def t54k54_14 (_C:ae) (x:Nat→Value) (h:ab):Option (Ex×Env×ab):=
 aa (pu (bin Tryd.prog .add 3 (x 17) (.int .i64 1)) h) fun y47 h=>
 aa (some (y47,h)) fun y17 h=>
 some (.normal,(aN 66 (up x [(17,y17),(47,y47)])),h)
noncomputable def t54k54_18 (C:ae) (x:Nat→Value) (h:ab):Option (Ex×Env×ab):=
 aa (some ((x 3),h)) fun y43 h=>
 aa (dZ 32 (x 6) h) fun y44 h=>
 aa (du 32 (.agg (List.replicate 32 (.int .u8 0)).toArray) 1 [(0,y44)] h) fun y45 h=>
 aa (aO 32 32 y43 y45 h) fun y46 h=>
 aa (some (y46,h)) fun y3 h=>
 k54_14 C (aN 66 (up x [(3,y3),(43,y43),(44,y44),(45,y45),(46,y46)])) h
noncomputable def dB (C:ae) (x:Nat→Value) (h:ab):Option (Ex×Env×ab):=
 aa (some ((x 7),h)) fun y25 h=>
 aa (pu (bin Tryd.prog .and 3 y25 (.int .i64 1)) h) fun y26 h=>
 aa (pu (bin Tryd.prog .eql 3 y26 (.int .i64 1)) h) fun y27 h=>
 (match y27 with
 | .bool true=>
 aa (some ((x 3),h)) fun y30 h=>
 aa (some ((x 3),h)) fun y31 h=>
 aa (pu (cx y31) h) fun y32 h=>
 aa (pu (bin Tryd.prog .sub 3 y32 (.int .i64 1)) h) fun y33 h=>
 aa (pu (cd 32 y30 y33) h) fun y34 h=>
 aa (dZ 32 y34 h) fun y35 h=>
 aa (dZ 32 (x 6) h) fun y36 h=>
 aa (C 70 [y35,y36] h) fun y37 h=>
 aa (fM 32 (x 6) y37 h) fun _ h=>
 aa (some ((x 3),h)) fun y38 h=>
 aa (some ((x 3),h)) fun y39 h=>
 aa (pu (cx y39) h) fun y40 h=>
 aa (pu (bin Tryd.prog .sub 3 y40 (.int .i64 1)) h) fun y41 h=>
 aa (pu (slR 32 y38 none (some y41) none) h) fun y42 h=>
 aa (some (y42,h)) fun y3 h=>
 aa (some ((x 7),h)) fun y28 h=>
 aa (pu (bin Tryd.prog .shr 3 y28 (.int .u64 1)) h) fun y29 h=>
 aa (some (y29,h)) fun y7 h=>
 some (.normal,(aN 66 (up x [(3,y3),(7,y7),(25,y25),(26,y26),(27,y27),(28,y28),(29,y29),(30,y30),(31,y31),(32,y32),(33,y33),(34,y34),(35,y35),(36,y36),(37,y37),(38,y38),(39,y39),(40,y40),(41,y41),(42,y42)])),h)
 | .bool false=>
 some (.exit 2,(aN 66 (up x [(25,y25),(26,y26),(27,y27)])),h)
 |_=>none)
theorem t54_eq (C:ae) (x0:Value) (h:ab):bx Tryd.prog C Tryd.f54 [x0] h=t54 C x0 h:=
 (aI Tryd.prog C Tryd.f54 [x0] h (by kernel_rfl)).trans (by kernel_rfl)
theorem t54k54_5_eq (C:ae) (x:Nat→Value) (h:ab):k54_5 C (aN 66 x) h=t54k54_5 C x h:=
 br (b:=(partOf Tryd.f54 [1,1,1,1])) (kE:=(ao Tryd.prog Tryd.f54.results.toList)) (rE:=(ao Tryd.prog Tryd.f54.results.toList)) (xE:=(fun _ _ _=>none)) (T:=t54k54_5 C) (fun x h=>by kernel_rfl) x h
theorem t54l54_111010_eq (C:ae) (x:Nat→Value) (h:ab):au Tryd.prog C (partOf Tryd.f54 [1,1,1,0,1,0,0]) (aN 66 x) h=t54l54_111010 C x h:=
 aE (T:=t54l54_111010 C) (fun x h=>by kernel_rfl) x h
theorem t54k54_9_eq (C:ae) (x:Nat→Value) (h:ab):k54_9 C (aN 66 x) h=t54k54_9 C x h:=
 br (b:=(partOf Tryd.f54 [1,1,1,1,1,1])) (kE:=(ao Tryd.prog Tryd.f54.results.toList)) (rE:=(ao Tryd.prog Tryd.f54.results.toList)) (xE:=(fun _ _ _=>none)) (T:=t54k54_9 C) (fun x h=>by kernel_rfl) x h
theorem t54l54_11111010a_eq (C:ae) (x:Nat→Value) (h:ab):au Tryd.prog C (rgA (partOf Tryd.f54 [1,1,1,1,1,0,1,0])) (aN 66 x) h=t54l54_11111010a C x h:=
 aE (T:=t54l54_11111010a C) (fun x h=>by kernel_rfl) x h
theorem t54l54_11111010b_eq (C:ae) (x:Nat→Value) (h:ab):au Tryd.prog C (rgB (partOf Tryd.f54 [1,1,1,1,1,0,1,0])) (aN 66 x) h=t54l54_11111010b C x h:=
 aE (T:=t54l54_11111010b C) (fun x h=>by kernel_rfl) x h
theorem t54k54_14_eq (C:ae) (x:Nat→Value) (h:ab):k54_14 C (aN 66 x) h=t54k54_14 C x h:=
 br (b:=(partOf Tryd.f54 [1,1,1,0,1,0,0,1,1,1])) (kE:=(fun e h=>some (Ex.normal,e,h))) (rE:=(fun e h=>some (Ex.ret,e,h))) (xE:=(fun i e h=>some (Ex.exit i,e,h))) (T:=t54k54_14 C) (fun x h=>by kernel_rfl) x h
theorem t54k54_18_eq (C:ae) (x:Nat→Value) (h:ab):k54_18 C (aN 66 x) h=t54k54_18 C x h:=
 br (b:=(partOf Tryd.f54 [1,1,1,0,1,0,0,1,1,0,0,1,1,1])) (kE:=(k54_14 C)) (rE:=(fun e h=>some (Ex.ret,e,h))) (xE:=(b54_15 C)) (T:=t54k54_18 C) (fun x h=>by kernel_rfl) x h
theorem t54l54_1110100110011010_eq (C:ae) (x:Nat→Value) (h:ab):au Tryd.prog C (partOf Tryd.f54 [1,1,1,0,1,0,0,1,1,0,0,1,1,0,1,0,0]) (aN 66 x) h=dB C x h:=
 aE (T:=dB C) (fun x h=>by kernel_rfl) x h
noncomputable def t107 (_C:ae) (x0:Value) (h:ab):Out:=
 aa (box x0 h) fun y1 h=>
 aa (some (.nilFunc,h)) fun _y2 h=>
 aa (some (.func (.func 135) #[] #[y1],h)) fun y3 h=>
 aa (some (y3,h)) fun y2_1 h=>
 some (y2_1,h)
theorem t107_eq (C:ae) (x0:Value) (h:ab):bx Tryd.prog C Tryd.f107 [x0] h=t107 C x0 h:=
 (aI Tryd.prog C Tryd.f107 [x0] h (by kernel_rfl)).trans (by kernel_rfl)
noncomputable def b135_1 (_C:ae) (i:Nat) (e:Env) (h:ab):Out:=if i=0 then (ao Tryd.prog Tryd.f135.results.toList) e h else (fun _ _ _=>none) i e h
noncomputable def t135 (C:ae) (x0 x1:Value) (h:ab):Out:=
 aa (ld1 x1 h) fun y4 h=>
 aa (pu (cx y4) h) fun y5 h=>
 aa (pu (bin Tryd.prog .sub 3 y5 (.int .i64 1)) h) fun y6 h=>
 aa (some (y6,h)) fun y3 h=>
 fC (iter (au Tryd.prog C (partOf Tryd.f135 [1,0,0])) rounds (aN 19 (up (bs [x0,x1]) [(3,y3),(4,y4),(5,y5),(6,y6)])) h) (ao Tryd.prog Tryd.f135.results.toList) (b135_1 C)
noncomputable def t135l135_10 (C:ae) (x:Nat→Value) (h:ab):Option (Ex×Env×ab):=
 aa (some ((x 3),h)) fun y7 h=>
 aa (pu (bin Tryd.prog .geq 3 y7 (.int .i64 0)) h) fun y8 h=>
 (match y8 with
 | .bool true=>
 aa (some ((x 0),h)) fun y11 h=>
 aa (some ((x 3),h)) fun y12 h=>
 aa (ld1 (x 1) h) fun y13 h=>
 aa (some ((x 3),h)) fun y14 h=>
 aa (pu (cd 32 y13 y14) h) fun y15 h=>
 aa (dZ 32 y15 h) fun y16 h=>
 aa (callA Tryd.prog C y11 [y12,y16] h) fun y17 h=>
 aa (pu (unA .not y17) h) fun y18 h=>
 (match y18 with
 | .bool true=>
 some (.ret,(aN 19 (up x [(7,y7),(8,y8),(11,y11),(12,y12),(13,y13),(14,y14),(15,y15),(16,y16),(17,y17),(18,y18)])),h)
 | .bool false=>
 aa (some ((x 3),h)) fun y9 h=>
 aa (pu (bin Tryd.prog .sub 3 y9 (.int .i64 1)) h) fun y10 h=>
 aa (some (y10,h)) fun y3 h=>
 some (.normal,(aN 19 (up x [(3,y3),(7,y7),(8,y8),(9,y9),(10,y10),(11,y11),(12,y12),(13,y13),(14,y14),(15,y15),(16,y16),(17,y17),(18,y18)])),h)
 |_=>none)
 | .bool false=>
 some (.exit 0,(aN 19 (up x [(7,y7),(8,y8)])),h)
 |_=>none)
theorem t135_eq (C:ae) (x0 x1:Value) (h:ab):bx Tryd.prog C Tryd.f135 [x0,x1] h=t135 C x0 x1 h:=
 (aI Tryd.prog C Tryd.f135 [x0,x1] h (by kernel_rfl)).trans (by kernel_rfl)
theorem t135l135_10_eq (C:ae) (x:Nat→Value) (h:ab):au Tryd.prog C (partOf Tryd.f135 [1,0,0]) (aN 19 x) h=t135l135_10 C x h:=
 aE (T:=t135l135_10 C) (fun x h=>by kernel_rfl) x h
noncomputable def t106 (C:ae) (x0:Value) (h:ab):Out:=
 aa (fS (List.replicate 32 (.int .u8 0)) h) fun y2 h=>
 aa (C 121 [] h) fun y4 h=>
 aa (some (y4,h)) fun y3 h=>
 aa (some (y3,h)) fun y5 h=>
 aa (some (x0,h)) fun y6 h=>
 aa (C 122 [y5,y6] h) fun y7 h=>
 aa (some (y3,h)) fun y8 h=>
 aa (C 123 [y8] h) fun y9 h=>
 aa (fM 32 y2 y9 h) fun _ h=>
 ao Tryd.prog Tryd.f106.results.toList (aN 10 (up (bs [x0]) [(2,y2),(3,y3),(4,y4),(5,y5),(6,y6),(7,y7),(8,y8),(9,y9)])) h
theorem t106_eq (C:ae) (x0:Value) (h:ab):bx Tryd.prog C Tryd.f106 [x0] h=t106 C x0 h:=
 (aI Tryd.prog C Tryd.f106 [x0] h (by kernel_rfl)).trans (by kernel_rfl)
end Go.Proofs.YtdnahgfgoajmcaaDoor

namespace Go.Proofs.YtdnahgfgoajmcaaDoor
open Go Go.Abs
noncomputable def t60 (C:ae) (x0 x1:Value) (h:ab):Out:=
 aa (some ((.bool false),h)) fun _y4 h=>
 aa (some (x0,h)) fun y5 h=>
 aa (some (x1,h)) fun y6 h=>
 aa (C 113 [y5,y6] h) fun y7 h=>
 aa (pu (bin Tryd.prog .geq 3 y7 (.int .i64 0)) h) fun y8 h=>
 aa (some (y8,h)) fun y4_1 h=>
 some (y4_1,h)
theorem t60_eq (C:ae) (x0 x1:Value) (h:ab):bx Tryd.prog C Tryd.f60 [x0,x1] h=t60 C x0 x1 h:=
 (aI Tryd.prog C Tryd.f60 [x0,x1] h (by kernel_rfl)).trans (by kernel_rfl)
noncomputable def t26 (_C:ae) (x0:Value) (h:ab):Out:=
 aa (some ((.slice none 0 0),h)) fun _y2 h=>
 aa (du 39 (.agg #[(.int .u8 0),(.int .u8 0),(.int .u8 0),(.int .u8 0),(.int .u8 0),(.int .u8 0),(.int .u8 0),(.int .u8 0),(.int .u8 0),(.int .u8 0),(.int .u8 0),(.int .u8 0),(.int .u8 0),(.int .u8 0),(.int .u8 0),(.int .u8 0),(.int .u8 0),(.int .u8 0),(.int .u8 0),(.int .u8 0),(.int .u8 0),(.int .u8 0),(.int .u8 0),(.int .u8 0),(.int .u8 0),(.int .u8 0),(.int .u8 0),(.int .u8 0),(.int .u8 0),(.int .u8 0),(.int .u8 0),(.int .u8 0),(.int .u8 0),(.int .i64 0),(.int .u64 0),(.int .u64 0),(.bool false),(.int .i64 0),(.int .i64 0)]) 0 [] h) fun y3 h=>
 aa (some (x0,h)) fun y4 h=>
 aa (aO 39 88 y3 y4 h) fun y5 h=>
 aa (some (y5,h)) fun y2_1 h=>
 some (y2_1,h)
theorem t26_eq (C:ae) (x0:Value) (h:ab):bx Tryd.prog C Tryd.f26 [x0] h=t26 C x0 h:=
 (aI Tryd.prog C Tryd.f26 [x0] h (by kernel_rfl)).trans (by kernel_rfl)
end Go.Proofs.YtdnahgfgoajmcaaDoor

namespace Go.Proofs.YtdnahgfgoajmcaaDoor
open Go Go.Abs
end Go.Proofs.YtdnahgfgoajmcaaDoor

namespace Go.Proofs.YtdnahgfgoajmcaaDoor
open Go Go.Abs
noncomputable def k113_1 (C:ae) (e:Env) (h:ab):Out:=bR Tryd.prog C (partOf Tryd.f113 [1,1]) e h (ao Tryd.prog Tryd.f113.results.toList) (ao Tryd.prog Tryd.f113.results.toList) (fun _ _ _=>none)
noncomputable def b113_3 (C:ae) (i:Nat) (e:Env) (h:ab):Out:=if i=0 then (k113_1 C) e h else (fun _ _ _=>none) i e h
noncomputable def t113 (C:ae) (x0 x1:Value) (h:ab):Out:=
 aa (some ((.int .i64 0),h)) fun y4 h=>
 aa (some (x0,h)) fun y6 h=>
 aa (pu (cx y6) h) fun y7 h=>
 aa (some ((.int .i64 0),h)) fun y8 h=>
 fC (iter (au Tryd.prog C (partOf Tryd.f113 [1,0,1,0,0])) rounds (aN 19 (up (bs [x0,x1]) [(4,y4),(6,y6),(7,y7),(8,y8)])) h) (ao Tryd.prog Tryd.f113.results.toList) (b113_3 C)
noncomputable def t113k113_1 (_C:ae) (_x:Nat→Value) (h:ab):Out:=
 aa (some ((.int .i64 (-1)),h)) fun y4 h=>
 some (y4,h)
noncomputable def t113l113_1010 (C:ae) (x:Nat→Value) (h:ab):Option (Ex×Env×ab):=
 aa (pu (bin Tryd.prog .lss 3 (x 8) (x 7)) h) fun y9 h=>
 (match y9 with
 | .bool true=>
 aa (some ((x 8),h)) fun y10 h=>
 aa (some (y10,h)) fun y5 h=>
 aa (some ((x 1),h)) fun y11 h=>
 aa (some ((x 0),h)) fun y12 h=>
 aa (some (y5,h)) fun y13 h=>
 aa (pu (cd 39 y12 y13) h) fun y14 h=>
 aa (dZ 39 y14 h) fun y15 h=>
 aa (callA Tryd.prog C y11 [y15] h) fun y16 h=>
 (match y16 with
 | .bool true=>
 aa (some (y5,h)) fun y17 h=>
 aa (some (y17,h)) fun y4 h=>
 some (.ret,(aN 19 (up x [(4,y4),(5,y5),(9,y9),(10,y10),(11,y11),(12,y12),(13,y13),(14,y14),(15,y15),(16,y16),(17,y17)])),h)
 | .bool false=>
 aa (pu (bin Tryd.prog .add 3 (x 8) (.int .i64 1)) h) fun y18 h=>
 aa (some (y18,h)) fun y8 h=>
 some (.normal,(aN 19 (up x [(5,y5),(8,y8),(9,y9),(10,y10),(11,y11),(12,y12),(13,y13),(14,y14),(15,y15),(16,y16),(18,y18)])),h)
 |_=>none)
 | .bool false=>
 some (.exit 0,(aN 19 (up x [(9,y9)])),h)
 |_=>none)
theorem t113_eq (C:ae) (x0 x1:Value) (h:ab):bx Tryd.prog C Tryd.f113 [x0,x1] h=t113 C x0 x1 h:=
 (aI Tryd.prog C Tryd.f113 [x0,x1] h (by kernel_rfl)).trans (by kernel_rfl)
theorem t113k113_1_eq (C:ae) (x:Nat→Value) (h:ab):k113_1 C (aN 19 x) h=t113k113_1 C x h:=
 br (b:=(partOf Tryd.f113 [1,1])) (kE:=(ao Tryd.prog Tryd.f113.results.toList)) (rE:=(ao Tryd.prog Tryd.f113.results.toList)) (xE:=(fun _ _ _=>none)) (T:=t113k113_1 C) (fun x h=>by kernel_rfl) x h
theorem t113l113_1010_eq (C:ae) (x:Nat→Value) (h:ab):au Tryd.prog C (partOf Tryd.f113 [1,0,1,0,0]) (aN 19 x) h=t113l113_1010 C x h:=
 aE (T:=t113l113_1010 C) (fun x h=>by kernel_rfl) x h
end Go.Proofs.YtdnahgfgoajmcaaDoor

namespace Go.Proofs.YtdnahgfgoajmcaaDoor
open Go Go.Abs
noncomputable def b25_5 (_C:ae) (i:Nat) (e:Env) (h:ab):Option (Ex×Env×ab):=if i=0 then (fun e h=>some (Ex.normal,e,h)) e h else (fun i e h=>some (Ex.exit i,e,h)) i e h
noncomputable def k25_19 (C:ae) (e:Env) (h:ab):Option (Ex×Env×ab):=bR Tryd.prog C (partOf Tryd.f25 [1,1,1,1,0,1,0,0,1,1,1]) e h (fun e h=>some (Ex.normal,e,h)) (fun e h=>some (Ex.ret,e,h)) (fun i e h=>some (Ex.exit i,e,h))
noncomputable def b25_20 (C:ae) (i:Nat) (e:Env) (h:ab):Option (Ex×Env×ab):=if i=1 then (k25_19 C) e h else (fun i e h=>some (Ex.exit i,e,h)) i e h
noncomputable def b25_23 (C:ae) (i:Nat) (e:Env) (h:ab):Option (Ex×Env×ab):=if i=2 then (k25_19 C) e h else (b25_20 C) i e h
noncomputable def t25p25_0 (_C:ae) (x:Nat→Value) (h:ab):Option (Ex×Env×ab):=
 aa (some ((.int .i64 0),h)) fun y4 h=>
 some (.normal,(aN 103 (up x [(4,y4)])),h)
noncomputable def t25p25_10 (_C:ae) (x:Nat→Value) (h:ab):Option (Ex×Env×ab):=
 aa (some ((x 0),h)) fun y18 h=>
 aa (pu (bin Tryd.prog .eql 25 y18 (.pointer none)) h) fun y19 h=>
 (match y19 with
 | .bool true=>
 aa (some ((.int .i64 1),h)) fun y4 h=>
 some (.ret,(aN 103 (up x [(4,y4),(18,y18),(19,y19)])),h)
 | .bool false=>
 some (.normal,(aN 103 (up x [(18,y18),(19,y19)])),h)
 |_=>none)
noncomputable def t25p25_110 (C:ae) (x:Nat→Value) (h:ab):Option (Ex×Env×ab):=
 aa (some ((x 1),h)) fun y20 h=>
 aa (C 60 [y20,(.func (.func 61) #[] #[])] h) fun y21 h=>
 (match y21 with
 | .bool true=>
 aa (some ((.int .i64 2),h)) fun y4 h=>
 some (.ret,(aN 103 (up x [(4,y4),(20,y20),(21,y21)])),h)
 | .bool false=>
 some (.normal,(aN 103 (up x [(20,y20),(21,y21)])),h)
 |_=>none)
noncomputable def t25p25_1110 (_C:ae) (x:Nat→Value) (h:ab):Option (Ex×Env×ab):=
 aa (fw none Tryd.prog 98 h) fun y22 h=>
 aa (some (y22,h)) fun y5 h=>
 some (.normal,(aN 103 (up x [(5,y5),(22,y22)])),h)
noncomputable def fR (C:ae) (x:Nat→Value) (h:ab):Option (Ex×Env×ab):=
 aa (some ((x 0),h)) fun y23 h=>
 aa (pu (aC y23) h) fun y24 h=>
 aa (pu (aM y24 0) h) fun y25 h=>
 aa (ld1 y25 h) fun y26 h=>
 aa (some ((x 1),h)) fun y27 h=>
 aa (du 1 (.slice none 0 0) 2 [(0,y26),(1,y27)] h) fun y28 h=>
 aa (pu (cx y28) h) fun y29 h=>
 aa (some ((.int .i64 0),h)) fun y30 h=>
 fC (iter (au Tryd.prog C (partOf Tryd.f25 [1,1,1,1,0,1,0,0])) rounds (aN 103 (up x [(23,y23),(24,y24),(25,y25),(26,y26),(27,y27),(28,y28),(29,y29),(30,y30)])) h) (fun e h=>some (Ex.ret,e,h)) (b25_5 C)
noncomputable def t25p25_111110 (_C:ae) (x:Nat→Value) (h:ab):Option (Ex×Env×ab):=
 aa (du 39 (.agg #[(.int .u8 0),(.int .u8 0),(.int .u8 0),(.int .u8 0),(.int .u8 0),(.int .u8 0),(.int .u8 0),(.int .u8 0),(.int .u8 0),(.int .u8 0),(.int .u8 0),(.int .u8 0),(.int .u8 0),(.int .u8 0),(.int .u8 0),(.int .u8 0),(.int .u8 0),(.int .u8 0),(.int .u8 0),(.int .u8 0),(.int .u8 0),(.int .u8 0),(.int .u8 0),(.int .u8 0),(.int .u8 0),(.int .u8 0),(.int .u8 0),(.int .u8 0),(.int .u8 0),(.int .u8 0),(.int .u8 0),(.int .u8 0),(.int .u8 0),(.int .i64 0),(.int .u64 0),(.int .u64 0),(.bool false),(.int .i64 0),(.int .i64 0)]) 0 [] h) fun y61 h=>
 aa (some (y61,h)) fun y12 h=>
 some (.normal,(aN 103 (up x [(12,y12),(61,y61)])),h)
noncomputable def t25p25_11111100 (_C:ae) (x:Nat→Value) (h:ab):Option (Ex×Env×ab):=
 aa (some ((x 5),h)) fun y62 h=>
 aa (rangeA Tryd.prog 98 y62 h) fun y63 h=>
 some (.normal,(aN 103 (up x [(62,y62),(63,y63)])),h)
noncomputable def dP (_C:ae) (x:Nat→Value) (h:ab):Option (Ex×Env×ab):=
 (match (x 65) with
 | .bool true=>
 aa (entryA (x 63) h) fun y66 h=>
 aa (pu (bf y66 0) h) fun y67 h=>
 aa (pu (bf y66 1) h) fun y68 h=>
 aa (fS [(.int .u8 0),(.int .u8 0),(.int .u8 0),(.int .u8 0),(.int .u8 0),(.int .u8 0),(.int .u8 0),(.int .u8 0),(.int .u8 0),(.int .u8 0),(.int .u8 0),(.int .u8 0),(.int .u8 0),(.int .u8 0),(.int .u8 0),(.int .u8 0),(.int .u8 0),(.int .u8 0),(.int .u8 0),(.int .u8 0),(.int .u8 0),(.int .u8 0),(.int .u8 0),(.int .u8 0),(.int .u8 0),(.int .u8 0),(.int .u8 0),(.int .u8 0),(.int .u8 0),(.int .u8 0),(.int .u8 0),(.int .u8 0),(.int .u8 0),(.int .i64 0)] h) fun y13 h=>
 aa (fS [(.int .u8 0),(.int .u8 0),(.int .u8 0),(.int .u8 0),(.int .u8 0),(.int .u8 0),(.int .u8 0),(.int .u8 0),(.int .u8 0),(.int .u8 0),(.int .u8 0),(.int .u8 0),(.int .u8 0),(.int .u8 0),(.int .u8 0),(.int .u8 0),(.int .u8 0),(.int .u8 0),(.int .u8 0),(.int .u8 0),(.int .u8 0),(.int .u8 0),(.int .u8 0),(.int .u8 0),(.int .u8 0),(.int .u8 0),(.int .u8 0),(.int .u8 0),(.int .u8 0),(.int .u8 0),(.int .u8 0),(.int .u8 0),(.int .u8 0),(.int .i64 0),(.int .u64 0),(.int .u64 0),(.bool false),(.int .i64 0),(.int .i64 0)] h) fun y14 h=>
 aa (fM 34 y13 y67 h) fun _ h=>
 aa (fM 39 y14 y68 h) fun _ h=>
 aa (pu (aM y13 0) h) fun y69 h=>
 aa (ld1 y69 h) fun y70 h=>
 aa (pu (bin Tryd.prog .eql 56 y70 (.int .u8 3)) h) fun y71 h=>
 (match y71 with
 | .bool true=>
 aa (some ((x 5),h)) fun y72 h=>
 aa (pu (aM y13 33) h) fun y73 h=>
 aa (ld1 y73 h) fun y74 h=>
 aa (pu (ep [(.int .u8 0),(.int .u8 0),(.int .u8 0),(.int .u8 0),(.int .u8 0),(.int .u8 0),(.int .u8 0),(.int .u8 0),(.int .u8 0),(.int .u8 0),(.int .u8 0),(.int .u8 0),(.int .u8 0),(.int .u8 0),(.int .u8 0),(.int .u8 0),(.int .u8 0),(.int .u8 0),(.int .u8 0),(.int .u8 0),(.int .u8 0),(.int .u8 0),(.int .u8 0),(.int .u8 0),(.int .u8 0),(.int .u8 0),(.int .u8 0),(.int .u8 0),(.int .u8 0),(.int .u8 0),(.int .u8 0),(.int .u8 0),(.int .u8 0),(.int .i64 0)] [(0,1,(.int .u8 1)),(33,1,y74)]) h) fun y75 h=>
 aa (ei Tryd.prog 98 y72 y75 false h) fun y76 h=>
 aa (fS [(.int .u8 0),(.int .u8 0),(.int .u8 0),(.int .u8 0),(.int .u8 0),(.int .u8 0),(.int .u8 0),(.int .u8 0),(.int .u8 0),(.int .u8 0),(.int .u8 0),(.int .u8 0),(.int .u8 0),(.int .u8 0),(.int .u8 0),(.int .u8 0),(.int .u8 0),(.int .u8 0),(.int .u8 0),(.int .u8 0),(.int .u8 0),(.int .u8 0),(.int .u8 0),(.int .u8 0),(.int .u8 0),(.int .u8 0),(.int .u8 0),(.int .u8 0),(.int .u8 0),(.int .u8 0),(.int .u8 0),(.int .u8 0),(.int .u8 0),(.int .i64 0),(.int .u64 0),(.int .u64 0),(.bool false),(.int .i64 0),(.int .i64 0)] h) fun y15 h=>
 aa (fM 39 y15 y76 h) fun _ h=>
 aa (some ((x 5),h)) fun y78 h=>
 aa (pu (aM y13 1) h) fun y79 h=>
 aa (dZ 32 y79 h) fun y80 h=>
 aa (pu (ep [(.int .u8 0),(.int .u8 0),(.int .u8 0),(.int .u8 0),(.int .u8 0),(.int .u8 0),(.int .u8 0),(.int .u8 0),(.int .u8 0),(.int .u8 0),(.int .u8 0),(.int .u8 0),(.int .u8 0),(.int .u8 0),(.int .u8 0),(.int .u8 0),(.int .u8 0),(.int .u8 0),(.int .u8 0),(.int .u8 0),(.int .u8 0),(.int .u8 0),(.int .u8 0),(.int .u8 0),(.int .u8 0),(.int .u8 0),(.int .u8 0),(.int .u8 0),(.int .u8 0),(.int .u8 0),(.int .u8 0),(.int .u8 0),(.int .u8 0),(.int .i64 0)] [(0,1,(.int .u8 2)),(1,32,y80)]) h) fun y81 h=>
 aa (ei Tryd.prog 98 y78 y81 true h) fun y82 h=>
 aa (some (y82,h)) fun y77 h=>
 aa (pu (bf y77 0) h) fun y83 h=>
 aa (pu (bf y77 1) h) fun y84 h=>
 aa (fS [(.int .u8 0),(.int .u8 0),(.int .u8 0),(.int .u8 0),(.int .u8 0),(.int .u8 0),(.int .u8 0),(.int .u8 0),(.int .u8 0),(.int .u8 0),(.int .u8 0),(.int .u8 0),(.int .u8 0),(.int .u8 0),(.int .u8 0),(.int .u8 0),(.int .u8 0),(.int .u8 0),(.int .u8 0),(.int .u8 0),(.int .u8 0),(.int .u8 0),(.int .u8 0),(.int .u8 0),(.int .u8 0),(.int .u8 0),(.int .u8 0),(.int .u8 0),(.int .u8 0),(.int .u8 0),(.int .u8 0),(.int .u8 0),(.int .u8 0),(.int .i64 0),(.int .u64 0),(.int .u64 0),(.bool false),(.int .i64 0),(.int .i64 0)] h) fun y16 h=>
 aa (fM 39 y16 y83 h) fun _ h=>
 aa (some (y84,h)) fun y17 h=>
 aa (some (y17,h)) fun y85 h=>
 aa (some (y85,h)) fun y86 h=>
 aa (aJ (fj y86==some false) (pu (aM y14 34) h) h) fun y87 h=>
 aa (aJ (fj y86==some false) (ld1 y87 h) h) fun y88 h=>
 aa (aJ (fj y86==some false) (pu (aM y15 34) h) h) fun y89 h=>
 aa (aJ (fj y86==some false) (ld1 y89 h) h) fun y90 h=>
 aa (aJ (fj y86==some false) (pu (bin Tryd.prog .lss 32 y88 y90) h) h) fun y91 h=>
 aa (match y86 with | .bool t=>some (if t then (.bool true) else y91,h)|_=>none) fun y92 h=>
 (match y92 with
 | .bool true=>
 some (.normal,(aN 103 (up x [(13,y13),(14,y14),(15,y15),(16,y16),(17,y17),(66,y66),(67,y67),(68,y68),(69,y69),(70,y70),(71,y71),(72,y72),(73,y73),(74,y74),(75,y75),(76,y76),(77,y77),(78,y78),(79,y79),(80,y80),(81,y81),(82,y82),(83,y83),(84,y84),(85,y85),(86,y86),(87,y87),(88,y88),(89,y89),(90,y90),(91,y91),(92,y92)])),h)
 | .bool false=>
 aa (some ((x 12),h)) fun y93 h=>
 aa (dZ 39 y14 h) fun y94 h=>
 aa (du 39 (.agg #[(.int .u8 0),(.int .u8 0),(.int .u8 0),(.int .u8 0),(.int .u8 0),(.int .u8 0),(.int .u8 0),(.int .u8 0),(.int .u8 0),(.int .u8 0),(.int .u8 0),(.int .u8 0),(.int .u8 0),(.int .u8 0),(.int .u8 0),(.int .u8 0),(.int .u8 0),(.int .u8 0),(.int .u8 0),(.int .u8 0),(.int .u8 0),(.int .u8 0),(.int .u8 0),(.int .u8 0),(.int .u8 0),(.int .u8 0),(.int .u8 0),(.int .u8 0),(.int .u8 0),(.int .u8 0),(.int .u8 0),(.int .u8 0),(.int .u8 0),(.int .i64 0),(.int .u64 0),(.int .u64 0),(.bool false),(.int .i64 0),(.int .i64 0)]) 1 [(0,y94)] h) fun y95 h=>
 aa (aO 39 88 y93 y95 h) fun y96 h=>
 aa (some (y96,h)) fun y12 h=>
 some (.normal,(aN 103 (up x [(12,y12),(13,y13),(14,y14),(15,y15),(16,y16),(17,y17),(66,y66),(67,y67),(68,y68),(69,y69),(70,y70),(71,y71),(72,y72),(73,y73),(74,y74),(75,y75),(76,y76),(77,y77),(78,y78),(79,y79),(80,y80),(81,y81),(82,y82),(83,y83),(84,y84),(85,y85),(86,y86),(87,y87),(88,y88),(89,y89),(90,y90),(91,y91),(92,y92),(93,y93),(94,y94),(95,y95),(96,y96)])),h)
 |_=>none)
 | .bool false=>
 aa (some ((x 12),h)) fun y93 h=>
 aa (dZ 39 y14 h) fun y94 h=>
 aa (du 39 (.agg #[(.int .u8 0),(.int .u8 0),(.int .u8 0),(.int .u8 0),(.int .u8 0),(.int .u8 0),(.int .u8 0),(.int .u8 0),(.int .u8 0),(.int .u8 0),(.int .u8 0),(.int .u8 0),(.int .u8 0),(.int .u8 0),(.int .u8 0),(.int .u8 0),(.int .u8 0),(.int .u8 0),(.int .u8 0),(.int .u8 0),(.int .u8 0),(.int .u8 0),(.int .u8 0),(.int .u8 0),(.int .u8 0),(.int .u8 0),(.int .u8 0),(.int .u8 0),(.int .u8 0),(.int .u8 0),(.int .u8 0),(.int .u8 0),(.int .u8 0),(.int .i64 0),(.int .u64 0),(.int .u64 0),(.bool false),(.int .i64 0),(.int .i64 0)]) 1 [(0,y94)] h) fun y95 h=>
 aa (aO 39 88 y93 y95 h) fun y96 h=>
 aa (some (y96,h)) fun y12 h=>
 some (.normal,(aN 103 (up x [(12,y12),(13,y13),(14,y14),(66,y66),(67,y67),(68,y68),(69,y69),(70,y70),(71,y71),(93,y93),(94,y94),(95,y95),(96,y96)])),h)
 |_=>none)
 | .bool false=>
 some (.exit 4,(aN 103 (up x [])),h)
 |_=>none)
noncomputable def t25p25_1111111 (C:ae) (x:Nat→Value) (h:ab):Option (Ex×Env×ab):=
 aa (some ((x 12),h)) fun y97 h=>
 aa (C 64 [y97,(.func (.func 65) #[] #[])] h) fun y98 h=>
 aa (some ((x 0),h)) fun y99 h=>
 aa (some ((x 12),h)) fun y100 h=>
 aa (pu (aC y99) h) fun y101 h=>
 aa (pu (aM y101 0) h) fun y102 h=>
 aa (fM 1 y102 y100 h) fun _ h=>
 aa (some ((.int .i64 0),h)) fun y4 h=>
 some (.ret,(aN 103 (up x [(4,y4),(97,y97),(98,y98),(99,y99),(100,y100),(101,y101),(102,y102)])),h)
noncomputable def t25l25_1111010 (C:ae) (x:Nat→Value) (h:ab):Option (Ex×Env×ab):=
 aa (pu (bin Tryd.prog .lss 3 (x 30) (x 29)) h) fun y31 h=>
 (match y31 with
 | .bool true=>
 aa (pu (cd 1 (x 28) (x 30)) h) fun y32 h=>
 aa (ld1 y32 h) fun y33 h=>
 aa (some (y33,h)) fun y7 h=>
 aa (some (y7,h)) fun y34 h=>
 aa (pu (cx y34) h) fun y35 h=>
 aa (some ((.int .i64 0),h)) fun y36 h=>
 fC (iter (au Tryd.prog C (partOf Tryd.f25 [1,1,1,1,0,1,0,0,1,1,0,0,1,1,0,0])) rounds (aN 103 (up x [(7,y7),(31,y31),(32,y32),(33,y33),(34,y34),(35,y35),(36,y36)])) h) (fun e h=>some (Ex.ret,e,h)) (b25_23 C)
 | .bool false=>
 some (.exit 0,(aN 103 (up x [(31,y31)])),h)
 |_=>none)
noncomputable def t25k25_19 (_C:ae) (x:Nat→Value) (h:ab):Option (Ex×Env×ab):=
 aa (pu (bin Tryd.prog .add 3 (x 30) (.int .i64 1)) h) fun y60 h=>
 aa (some (y60,h)) fun y30 h=>
 some (.normal,(aN 103 (up x [(30,y30),(60,y60)])),h)
noncomputable def dS (C:ae) (x:Nat→Value) (h:ab):Option (Ex×Env×ab):=
 aa (pu (bin Tryd.prog .lss 3 (x 36) (x 35)) h) fun y37 h=>
 (match y37 with
 | .bool true=>
 aa (pu (cd 39 (x 34) (x 36)) h) fun y38 h=>
 aa (dZ 39 y38 h) fun y39 h=>
 aa (fS [(.int .u8 0),(.int .u8 0),(.int .u8 0),(.int .u8 0),(.int .u8 0),(.int .u8 0),(.int .u8 0),(.int .u8 0),(.int .u8 0),(.int .u8 0),(.int .u8 0),(.int .u8 0),(.int .u8 0),(.int .u8 0),(.int .u8 0),(.int .u8 0),(.int .u8 0),(.int .u8 0),(.int .u8 0),(.int .u8 0),(.int .u8 0),(.int .u8 0),(.int .u8 0),(.int .u8 0),(.int .u8 0),(.int .u8 0),(.int .u8 0),(.int .u8 0),(.int .u8 0),(.int .u8 0),(.int .u8 0),(.int .u8 0),(.int .u8 0),(.int .i64 0),(.int .u64 0),(.int .u64 0),(.bool false),(.int .i64 0),(.int .i64 0)] h) fun y9 h=>
 aa (fM 39 y9 y39 h) fun _ h=>
 aa (some ((x 5),h)) fun y41 h=>
 aa (dZ 39 y9 h) fun y42 h=>
 aa (C 62 [y42] h) fun y43 h=>
 aa (ei Tryd.prog 98 y41 y43 true h) fun y44 h=>
 aa (some (y44,h)) fun y40 h=>
 aa (pu (bf y40 0) h) fun y45 h=>
 aa (pu (bf y40 1) h) fun y46 h=>
 aa (fS [(.int .u8 0),(.int .u8 0),(.int .u8 0),(.int .u8 0),(.int .u8 0),(.int .u8 0),(.int .u8 0),(.int .u8 0),(.int .u8 0),(.int .u8 0),(.int .u8 0),(.int .u8 0),(.int .u8 0),(.int .u8 0),(.int .u8 0),(.int .u8 0),(.int .u8 0),(.int .u8 0),(.int .u8 0),(.int .u8 0),(.int .u8 0),(.int .u8 0),(.int .u8 0),(.int .u8 0),(.int .u8 0),(.int .u8 0),(.int .u8 0),(.int .u8 0),(.int .u8 0),(.int .u8 0),(.int .u8 0),(.int .u8 0),(.int .u8 0),(.int .i64 0),(.int .u64 0),(.int .u64 0),(.bool false),(.int .i64 0),(.int .i64 0)] h) fun y10 h=>
 aa (fM 39 y10 y45 h) fun _ h=>
 aa (some (y46,h)) fun y11 h=>
 aa (some (y11,h)) fun y47 h=>
 aa (pu (unA .not y47) h) fun y48 h=>
 aa (some (y48,h)) fun y49 h=>
 aa (aJ (fj y49==some false) (dZ 39 y9 h) h) fun y50 h=>
 aa (aJ (fj y49==some false) (dZ 39 y10 h) h) fun y51 h=>
 aa (aJ (fj y49==some false) (C 63 [y50,y51] h) h) fun y52 h=>
 aa (aJ (fj y49==some false) (pu (bin Tryd.prog .gtr 3 y52 (.int .i64 0)) h) h) fun y53 h=>
 aa (match y49 with | .bool t=>some (if t then (.bool true) else y53,h)|_=>none) fun y54 h=>
 (match y54 with
 | .bool true=>
 let g31_0:=h
 aa (some ((x 5),g31_0)) fun y55 g31_1=>
 aa (dZ 39 y9 g31_1) fun y56 g31_2=>
 aa (C 62 [y56] g31_2) fun y57 g31_3=>
 aa (dZ 39 y9 g31_3) fun y58 g31_4=>
 aa (c9 Tryd.prog 98 y55 y57 y58 g31_4) fun _ g31_5=>
 (match (cm true (dZ 39 y9 g31_2) y58&&true) with
 |true=>
 let h:=g31_5
 aa (pu (bin Tryd.prog .add 3 (x 36) (.int .i64 1)) h) fun y59 h=>
 aa (some (y59,h)) fun y36 h=>
 some (.normal,(aN 103 (up x [(9,y9),(10,y10),(11,y11),(36,y36),(37,y37),(38,y38),(39,y39),(40,y40),(41,y41),(42,y42),(43,y43),(44,y44),(45,y45),(46,y46),(47,y47),(48,y48),(49,y49),(50,y50),(51,y51),(52,y52),(53,y53),(54,y54),(55,y55),(56,y56),(57,y57),(58,y58),(59,y59)])),h)
 |false=>none)
 | .bool false=>
 aa (pu (bin Tryd.prog .add 3 (x 36) (.int .i64 1)) h) fun y59 h=>
 aa (some (y59,h)) fun y36 h=>
 some (.normal,(aN 103 (up x [(9,y9),(10,y10),(11,y11),(36,y36),(37,y37),(38,y38),(39,y39),(40,y40),(41,y41),(42,y42),(43,y43),(44,y44),(45,y45),(46,y46),(47,y47),(48,y48),(49,y49),(50,y50),(51,y51),(52,y52),(53,y53),(54,y54),(59,y59)])),h)
 |_=>none)
 | .bool false=>
 some (.exit 2,(aN 103 (up x [(37,y37)])),h)
 |_=>none)
theorem t25p25_0_eq (C:ae) (x:Nat→Value) (h:ab):au Tryd.prog C (partOf Tryd.f25 [0]) (aN 103 x) h=t25p25_0 C x h:=
 aE (T:=t25p25_0 C) (fun x h=>by kernel_rfl) x h
theorem t25p25_10_eq (C:ae) (x:Nat→Value) (h:ab):au Tryd.prog C (partOf Tryd.f25 [1,0]) (aN 103 x) h=t25p25_10 C x h:=
 aE (T:=t25p25_10 C) (fun x h=>by kernel_rfl) x h
theorem t25p25_110_eq (C:ae) (x:Nat→Value) (h:ab):au Tryd.prog C (partOf Tryd.f25 [1,1,0]) (aN 103 x) h=t25p25_110 C x h:=
 aE (T:=t25p25_110 C) (fun x h=>by kernel_rfl) x h
theorem t25p25_1110_eq (C:ae) (x:Nat→Value) (h:ab):au Tryd.prog C (partOf Tryd.f25 [1,1,1,0]) (aN 103 x) h=t25p25_1110 C x h:=
 aE (T:=t25p25_1110 C) (fun x h=>by kernel_rfl) x h
theorem t25p25_11110_eq (C:ae) (x:Nat→Value) (h:ab):au Tryd.prog C (partOf Tryd.f25 [1,1,1,1,0]) (aN 103 x) h=fR C x h:=
 aE (T:=fR C) (fun x h=>by kernel_rfl) x h
theorem t25p25_111110_eq (C:ae) (x:Nat→Value) (h:ab):au Tryd.prog C (partOf Tryd.f25 [1,1,1,1,1,0]) (aN 103 x) h=t25p25_111110 C x h:=
 aE (T:=t25p25_111110 C) (fun x h=>by kernel_rfl) x h
theorem t25p25_11111100_eq (C:ae) (x:Nat→Value) (h:ab):au Tryd.prog C (partOf Tryd.f25 [1,1,1,1,1,1,0,0]) (aN 103 x) h=t25p25_11111100 C x h:=
 aE (T:=t25p25_11111100 C) (fun x h=>by kernel_rfl) x h
theorem t25p25_11111101001_eq (C:ae) (x:Nat→Value) (h:ab):au Tryd.prog C (partOf Tryd.f25 [1,1,1,1,1,1,0,1,0,0,1]) (aN 103 x) h=dP C x h:=
 aE (T:=dP C) (fun x h=>by kernel_rfl) x h
theorem t25p25_1111111_eq (C:ae) (x:Nat→Value) (h:ab):au Tryd.prog C (partOf Tryd.f25 [1,1,1,1,1,1,1]) (aN 103 x) h=t25p25_1111111 C x h:=
 aE (T:=t25p25_1111111 C) (fun x h=>by kernel_rfl) x h
theorem t25l25_1111010_eq (C:ae) (x:Nat→Value) (h:ab):au Tryd.prog C (partOf Tryd.f25 [1,1,1,1,0,1,0,0]) (aN 103 x) h=t25l25_1111010 C x h:=
 aE (T:=t25l25_1111010 C) (fun x h=>by kernel_rfl) x h
theorem t25k25_19_eq (C:ae) (x:Nat→Value) (h:ab):k25_19 C (aN 103 x) h=t25k25_19 C x h:=
 br (b:=(partOf Tryd.f25 [1,1,1,1,0,1,0,0,1,1,1])) (kE:=(fun e h=>some (Ex.normal,e,h))) (rE:=(fun e h=>some (Ex.ret,e,h))) (xE:=(fun i e h=>some (Ex.exit i,e,h))) (T:=t25k25_19 C) (fun x h=>by kernel_rfl) x h
theorem t25l25_111101001100110_eq (C:ae) (x:Nat→Value) (h:ab):au Tryd.prog C (partOf Tryd.f25 [1,1,1,1,0,1,0,0,1,1,0,0,1,1,0,0]) (aN 103 x) h=dS C x h:=
 aE (T:=dS C) (fun x h=>by kernel_rfl) x h
noncomputable def t61 (C:ae) (x0:Value) (h:ab):Out:=
 aa (box x0 h) fun y1 h=>
 aa (some ((.bool false),h)) fun _y2 h=>
 aa (dZ 39 y1 h) fun y3 h=>
 aa (C 42 [y3] h) fun y4 h=>
 aa (pu (unA .not y4) h) fun y5 h=>
 aa (some (y5,h)) fun y2_1 h=>
 some (y2_1,h)
theorem t61_eq (C:ae) (x0:Value) (h:ab):bx Tryd.prog C Tryd.f61 [x0] h=t61 C x0 h:=
 (aI Tryd.prog C Tryd.f61 [x0] h (by kernel_rfl)).trans (by kernel_rfl)
noncomputable def t57 (_C:ae) (x0:Value) (h:ab):Out:=
 aa (some ((.slice none 0 0),h)) fun _y2 h=>
 aa (some (x0,h)) fun y3 h=>
 aa (pu (bin Tryd.prog .eql 22 y3 (.slice none 0 0)) h) fun y4 h=>
 (match y4 with
 | .bool true=>
 aa (some ((.slice none 0 0),h)) fun y2_1 h=>
 some (y2_1,h)
 | .bool false=>
 aa (du 39 (.agg #[(.int .u8 0),(.int .u8 0),(.int .u8 0),(.int .u8 0),(.int .u8 0),(.int .u8 0),(.int .u8 0),(.int .u8 0),(.int .u8 0),(.int .u8 0),(.int .u8 0),(.int .u8 0),(.int .u8 0),(.int .u8 0),(.int .u8 0),(.int .u8 0),(.int .u8 0),(.int .u8 0),(.int .u8 0),(.int .u8 0),(.int .u8 0),(.int .u8 0),(.int .u8 0),(.int .u8 0),(.int .u8 0),(.int .u8 0),(.int .u8 0),(.int .u8 0),(.int .u8 0),(.int .u8 0),(.int .u8 0),(.int .u8 0),(.int .u8 0),(.int .i64 0),(.int .u64 0),(.int .u64 0),(.bool false),(.int .i64 0),(.int .i64 0)]) 0 [] h) fun y5 h=>
 aa (some (x0,h)) fun y6 h=>
 aa (aO 39 88 y5 y6 h) fun y7 h=>
 aa (some (y7,h)) fun y2_1 h=>
 some (y2_1,h)
 |_=>none)
theorem t57_eq (C:ae) (x0:Value) (h:ab):bx Tryd.prog C Tryd.f57 [x0] h=t57 C x0 h:=
 (aI Tryd.prog C Tryd.f57 [x0] h (by kernel_rfl)).trans (by kernel_rfl)
noncomputable def t15 (C:ae) (x0:Value) (h:ab):Out:=
 aa (some ((.pointer none),h)) fun _y2 h=>
 aa (some ((.int .i64 0),h)) fun _y3 h=>
 aa (C 33 [] h) fun y5 h=>
 aa (some (y5,h)) fun y4 h=>
 aa (some (y4,h)) fun y6 h=>
 aa (pu (bin Tryd.prog .eql 25 y6 (.pointer none)) h) fun y7 h=>
 (match y7 with
 | .bool true=>
 aa (some ((.pointer none),h)) fun y2_1 h=>
 aa (some ((.int .i64 1),h)) fun y3_1 h=>
 some (.tuple #[y2_1,y3_1],h)
 | .bool false=>
 aa (some (y4,h)) fun y8 h=>
 aa (some (y4,h)) fun y9 h=>
 aa (some (x0,h)) fun y10 h=>
 aa (C 26 [y10] h) fun y11 h=>
 aa (C 25 [y9,y11] h) fun y12 h=>
 aa (some (y8,h)) fun y2_1 h=>
 aa (some (y12,h)) fun y3_1 h=>
 some (.tuple #[y2_1,y3_1],h)
 |_=>none)
theorem t15_eq (C:ae) (x0:Value) (h:ab):bx Tryd.prog C Tryd.f15 [x0] h=t15 C x0 h:=
 (aI Tryd.prog C Tryd.f15 [x0] h (by kernel_rfl)).trans (by kernel_rfl)
noncomputable def t33 (_C:ae) (h:ab):Out:=
 aa (some ((.pointer none),h)) fun _y0 h=>
 aa (pu (ep [(.slice none 0 0)] []) h) fun y1 h=>
 aa (box y1 h) fun y2 h=>
 aa (some (y2,h)) fun y0_1 h=>
 some (y0_1,h)
theorem t33_eq (C:ae) (h:ab):bx Tryd.prog C Tryd.f33 [] h=t33 C h:=
 (aI Tryd.prog C Tryd.f33 [] h (by kernel_rfl)).trans (by kernel_rfl)
noncomputable def t23 (C:ae) (x0:Value) (h:ab):Out:=
 aa (some ((.slice none 0 0),h)) fun _y2 h=>
 aa (some (x0,h)) fun y3 h=>
 aa (pu (bin Tryd.prog .eql 25 y3 (.pointer none)) h) fun y4 h=>
 (match y4 with
 | .bool true=>
 aa (some ((.slice none 0 0),h)) fun y2_1 h=>
 some (y2_1,h)
 | .bool false=>
 aa (some (x0,h)) fun y5 h=>
 aa (pu (aC y5) h) fun y6 h=>
 aa (pu (aM y6 0) h) fun y7 h=>
 aa (ld1 y7 h) fun y8 h=>
 aa (C 57 [y8] h) fun y9 h=>
 aa (some (y9,h)) fun y2_1 h=>
 some (y2_1,h)
 |_=>none)
theorem t23_eq (C:ae) (x0:Value) (h:ab):bx Tryd.prog C Tryd.f23 [x0] h=t23 C x0 h:=
 (aI Tryd.prog C Tryd.f23 [x0] h (by kernel_rfl)).trans (by kernel_rfl)
end Go.Proofs.YtdnahgfgoajmcaaDoor

namespace Go.Proofs.YtdnahgfgoajmcaaDoor
open Go Go.Abs
noncomputable def t65 (C:ae) (x0 x1:Value) (h:ab):Out:=
 aa (box x0 h) fun y2 h=>
 aa (box x1 h) fun y3 h=>
 aa (some ((.int .i64 0),h)) fun _y4 h=>
 let g2_0:=h
 aa (dZ 39 y2 g2_0) fun y5 g2_1=>
 aa (C 67 [y5] g2_1) fun y6 g2_2=>
 aa (dZ 39 y3 g2_2) fun y7 g2_3=>
 aa (C 67 [y7] g2_3) fun y8 g2_4=>
 aa (C 66 [y6,y8] g2_4) fun y9 g2_5=>
 aa (some (y9,g2_5)) fun y4_1 g2_6=>
 (match (cm true (dZ 39 y3 g2_1) y7&&true) with
 |true=>
 let h:=g2_6
 some (y4_1,h)
 |false=>none)
theorem t65_eq (C:ae) (x0 x1:Value) (h:ab):bx Tryd.prog C Tryd.f65 [x0,x1] h=t65 C x0 x1 h:=
 (aI Tryd.prog C Tryd.f65 [x0,x1] h (by kernel_rfl)).trans (by kernel_rfl)
noncomputable def t66 (C:ae) (x0 x1:Value) (h:ab):Out:=
 aa (some ((.int .i64 0),h)) fun _y4 h=>
 aa (some (x0,h)) fun y5 h=>
 aa (some (x1,h)) fun y6 h=>
 aa (C 119 [y5,y6] h) fun y7 h=>
 aa (some (y7,h)) fun y4_1 h=>
 some (y4_1,h)
theorem t66_eq (C:ae) (x0 x1:Value) (h:ab):bx Tryd.prog C Tryd.f66 [x0,x1] h=t66 C x0 x1 h:=
 (aI Tryd.prog C Tryd.f66 [x0,x1] h (by kernel_rfl)).trans (by kernel_rfl)
end Go.Proofs.YtdnahgfgoajmcaaDoor

namespace Go.Proofs.YtdnahgfgoajmcaaDoor
open Go Go.Abs
noncomputable def k24_5 (C:ae) (e:Env) (h:ab):Out:=bR Tryd.prog C (partOf Tryd.f24 [1,1,1,1]) e h (ao Tryd.prog Tryd.f24.results.toList) (ao Tryd.prog Tryd.f24.results.toList) (fun _ _ _=>none)
noncomputable def b24_7 (C:ae) (i:Nat) (e:Env) (h:ab):Out:=if i=0 then (k24_5 C) e h else (fun _ _ _=>none) i e h
noncomputable def k24_11 (C:ae) (e:Env) (h:ab):Option (Ex×Env×ab):=bR Tryd.prog C (partOf Tryd.f24 [1,1,1,0,1,0,0,1,1]) e h (fun e h=>some (Ex.normal,e,h)) (fun e h=>some (Ex.ret,e,h)) (fun i e h=>some (Ex.exit i,e,h))
noncomputable def b24_12 (C:ae) (i:Nat) (e:Env) (h:ab):Option (Ex×Env×ab):=if i=1 then (k24_11 C) e h else (fun i e h=>some (Ex.exit i,e,h)) i e h
noncomputable def b24_18 (C:ae) (i:Nat) (e:Env) (h:ab):Option (Ex×Env×ab):=if i=2 then (k24_11 C) e h else (b24_12 C) i e h
noncomputable def t24 (C:ae) (x0:Value) (h:ab):Out:=
 aa (some ((.bool false),h)) fun y2 h=>
 aa (some (x0,h)) fun y6 h=>
 aa (pu (cx y6) h) fun y7 h=>
 aa (pu (bin Tryd.prog .gtr 3 y7 (.int .i64 40)) h) fun y8 h=>
 (match y8 with
 | .bool true=>
 aa (some ((.bool false),h)) fun y2_1 h=>
 some (y2_1,h)
 | .bool false=>
 aa (some ((.int .i64 0),h)) fun y3 h=>
 aa (some ((.int .i64 0),h)) fun y4 h=>
 fC (iter (au Tryd.prog C (partOf Tryd.f24 [1,1,1,0,1,0,0])) rounds (aN 48 (up (bs [x0]) [(2,y2),(3,y3),(4,y4),(6,y6),(7,y7),(8,y8)])) h) (ao Tryd.prog Tryd.f24.results.toList) (b24_7 C)
 |_=>none)
noncomputable def t24k24_5 (_C:ae) (x:Nat→Value) (h:ab):Out:=
 aa (some ((x 3),h)) fun y46 h=>
 aa (pu (bin Tryd.prog .leq 3 y46 (.int .i64 120)) h) fun y47 h=>
 aa (some (y47,h)) fun y2 h=>
 some (y2,h)
noncomputable def t24l24_111010 (C:ae) (x:Nat→Value) (h:ab):Option (Ex×Env×ab):=
 aa (some ((x 4),h)) fun y9 h=>
 aa (some ((x 0),h)) fun y10 h=>
 aa (pu (cx y10) h) fun y11 h=>
 aa (pu (bin Tryd.prog .lss 3 y9 y11) h) fun y12 h=>
 (match y12 with
 | .bool true=>
 aa (some ((x 0),h)) fun y15 h=>
 aa (some ((x 4),h)) fun y16 h=>
 aa (pu (cd 1 y15 y16) h) fun y17 h=>
 aa (ld1 y17 h) fun y18 h=>
 aa (pu (cx y18) h) fun y19 h=>
 aa (pu (bin Tryd.prog .gtr 3 y19 (.int .i64 120)) h) fun y20 h=>
 (match y20 with
 | .bool true=>
 aa (some ((.bool false),h)) fun y2 h=>
 some (.ret,(aN 48 (up x [(2,y2),(9,y9),(10,y10),(11,y11),(12,y12),(15,y15),(16,y16),(17,y17),(18,y18),(19,y19),(20,y20)])),h)
 | .bool false=>
 aa (some ((x 3),h)) fun y21 h=>
 aa (some ((x 0),h)) fun y22 h=>
 aa (some ((x 4),h)) fun y23 h=>
 aa (pu (cd 1 y22 y23) h) fun y24 h=>
 aa (ld1 y24 h) fun y25 h=>
 aa (pu (cx y25) h) fun y26 h=>
 aa (pu (bin Tryd.prog .add 3 y21 y26) h) fun y27 h=>
 aa (some (y27,h)) fun y3 h=>
 aa (some ((.int .i64 0),h)) fun y5 h=>
 fC (iter (au Tryd.prog C (partOf Tryd.f24 [1,1,1,0,1,0,0,1,0,0,1,1,1,0,0])) rounds (aN 48 (up x [(3,y3),(5,y5),(9,y9),(10,y10),(11,y11),(12,y12),(15,y15),(16,y16),(17,y17),(18,y18),(19,y19),(20,y20),(21,y21),(22,y22),(23,y23),(24,y24),(25,y25),(26,y26),(27,y27)])) h) (fun e h=>some (Ex.ret,e,h)) (b24_18 C)
 |_=>none)
 | .bool false=>
 some (.exit 0,(aN 48 (up x [(9,y9),(10,y10),(11,y11),(12,y12)])),h)
 |_=>none)
noncomputable def t24k24_11 (_C:ae) (x:Nat→Value) (h:ab):Option (Ex×Env×ab):=
 aa (some ((x 4),h)) fun y13 h=>
 aa (pu (bin Tryd.prog .add 3 y13 (.int .i64 1)) h) fun y14 h=>
 aa (some (y14,h)) fun y4 h=>
 some (.normal,(aN 48 (up x [(4,y4),(13,y13),(14,y14)])),h)
noncomputable def ee (C:ae) (x:Nat→Value) (h:ab):Option (Ex×Env×ab):=
 aa (some ((x 5),h)) fun y28 h=>
 aa (some ((x 0),h)) fun y29 h=>
 aa (some ((x 4),h)) fun y30 h=>
 aa (pu (cd 1 y29 y30) h) fun y31 h=>
 aa (ld1 y31 h) fun y32 h=>
 aa (pu (cx y32) h) fun y33 h=>
 aa (pu (bin Tryd.prog .lss 3 y28 y33) h) fun y34 h=>
 (match y34 with
 | .bool true=>
 aa (some ((x 0),h)) fun y37 h=>
 aa (some ((x 4),h)) fun y38 h=>
 aa (pu (cd 1 y37 y38) h) fun y39 h=>
 aa (ld1 y39 h) fun y40 h=>
 aa (some ((x 5),h)) fun y41 h=>
 aa (pu (cd 39 y40 y41) h) fun y42 h=>
 aa (dZ 39 y42 h) fun y43 h=>
 aa (C 42 [y43] h) fun y44 h=>
 aa (pu (unA .not y44) h) fun y45 h=>
 (match y45 with
 | .bool true=>
 aa (some ((.bool false),h)) fun y2 h=>
 some (.ret,(aN 48 (up x [(2,y2),(28,y28),(29,y29),(30,y30),(31,y31),(32,y32),(33,y33),(34,y34),(37,y37),(38,y38),(39,y39),(40,y40),(41,y41),(42,y42),(43,y43),(44,y44),(45,y45)])),h)
 | .bool false=>
 aa (some ((x 5),h)) fun y35 h=>
 aa (pu (bin Tryd.prog .add 3 y35 (.int .i64 1)) h) fun y36 h=>
 aa (some (y36,h)) fun y5 h=>
 some (.normal,(aN 48 (up x [(5,y5),(28,y28),(29,y29),(30,y30),(31,y31),(32,y32),(33,y33),(34,y34),(35,y35),(36,y36),(37,y37),(38,y38),(39,y39),(40,y40),(41,y41),(42,y42),(43,y43),(44,y44),(45,y45)])),h)
 |_=>none)
 | .bool false=>
 some (.exit 2,(aN 48 (up x [(28,y28),(29,y29),(30,y30),(31,y31),(32,y32),(33,y33),(34,y34)])),h)
 |_=>none)
theorem t24_eq (C:ae) (x0:Value) (h:ab):bx Tryd.prog C Tryd.f24 [x0] h=t24 C x0 h:=
 (aI Tryd.prog C Tryd.f24 [x0] h (by kernel_rfl)).trans (by kernel_rfl)
theorem t24k24_5_eq (C:ae) (x:Nat→Value) (h:ab):k24_5 C (aN 48 x) h=t24k24_5 C x h:=
 br (b:=(partOf Tryd.f24 [1,1,1,1])) (kE:=(ao Tryd.prog Tryd.f24.results.toList)) (rE:=(ao Tryd.prog Tryd.f24.results.toList)) (xE:=(fun _ _ _=>none)) (T:=t24k24_5 C) (fun x h=>by kernel_rfl) x h
theorem t24l24_111010_eq (C:ae) (x:Nat→Value) (h:ab):au Tryd.prog C (partOf Tryd.f24 [1,1,1,0,1,0,0]) (aN 48 x) h=t24l24_111010 C x h:=
 aE (T:=t24l24_111010 C) (fun x h=>by kernel_rfl) x h
theorem t24k24_11_eq (C:ae) (x:Nat→Value) (h:ab):k24_11 C (aN 48 x) h=t24k24_11 C x h:=
 br (b:=(partOf Tryd.f24 [1,1,1,0,1,0,0,1,1])) (kE:=(fun e h=>some (Ex.normal,e,h))) (rE:=(fun e h=>some (Ex.ret,e,h))) (xE:=(fun i e h=>some (Ex.exit i,e,h))) (T:=t24k24_11 C) (fun x h=>by kernel_rfl) x h
theorem t24l24_11101001001110_eq (C:ae) (x:Nat→Value) (h:ab):au Tryd.prog C (partOf Tryd.f24 [1,1,1,0,1,0,0,1,0,0,1,1,1,0,0]) (aN 48 x) h=ee C x h:=
 aE (T:=ee C) (fun x h=>by kernel_rfl) x h
noncomputable def k19_4 (C:ae) (e:Env) (h:ab):Out:=bR Tryd.prog C (partOf Tryd.f19 [1,1,1]) e h (ao Tryd.prog Tryd.f19.results.toList) (ao Tryd.prog Tryd.f19.results.toList) (fun _ _ _=>none)
noncomputable def b19_6 (C:ae) (i:Nat) (e:Env) (h:ab):Out:=if i=0 then (k19_4 C) e h else (fun _ _ _=>none) i e h
noncomputable def t19 (C:ae) (x0 x1:Value) (h:ab):Out:=
 aa (some ((.bool false),h)) fun y4 h=>
 aa (some (x0,h)) fun y6 h=>
 aa (pu (cx y6) h) fun y7 h=>
 aa (some (x1,h)) fun y8 h=>
 aa (pu (cx y8) h) fun y9 h=>
 aa (pu (bin Tryd.prog .neq 3 y7 y9) h) fun y10 h=>
 (match y10 with
 | .bool true=>
 aa (some ((.bool false),h)) fun y4_1 h=>
 some (y4_1,h)
 | .bool false=>
 aa (some ((.int .i64 0),h)) fun y5 h=>
 fC (iter (au Tryd.prog C (partOf Tryd.f19 [1,1,0,1,0,0])) rounds (aN 26 (up (bs [x0,x1]) [(4,y4),(5,y5),(6,y6),(7,y7),(8,y8),(9,y9),(10,y10)])) h) (ao Tryd.prog Tryd.f19.results.toList) (b19_6 C)
 |_=>none)
noncomputable def t19k19_4 (_C:ae) (_x:Nat→Value) (h:ab):Out:=
 aa (some ((.bool true),h)) fun y4 h=>
 some (y4,h)
noncomputable def t19l19_11010 (_C:ae) (x:Nat→Value) (h:ab):Option (Ex×Env×ab):=
 aa (some ((x 5),h)) fun y11 h=>
 aa (some ((x 0),h)) fun y12 h=>
 aa (pu (cx y12) h) fun y13 h=>
 aa (pu (bin Tryd.prog .lss 3 y11 y13) h) fun y14 h=>
 (match y14 with
 | .bool true=>
 aa (some ((x 0),h)) fun y17 h=>
 aa (some ((x 5),h)) fun y18 h=>
 aa (pu (cd 39 y17 y18) h) fun y19 h=>
 aa (dZ 39 y19 h) fun y20 h=>
 aa (some ((x 1),h)) fun y21 h=>
 aa (some ((x 5),h)) fun y22 h=>
 aa (pu (cd 39 y21 y22) h) fun y23 h=>
 aa (dZ 39 y23 h) fun y24 h=>
 aa (pu (bin Tryd.prog .neq 58 y20 y24) h) fun y25 h=>
 (match y25 with
 | .bool true=>
 aa (some ((.bool false),h)) fun y4 h=>
 some (.ret,(aN 26 (up x [(4,y4),(11,y11),(12,y12),(13,y13),(14,y14),(17,y17),(18,y18),(19,y19),(20,y20),(21,y21),(22,y22),(23,y23),(24,y24),(25,y25)])),h)
 | .bool false=>
 aa (some ((x 5),h)) fun y15 h=>
 aa (pu (bin Tryd.prog .add 3 y15 (.int .i64 1)) h) fun y16 h=>
 aa (some (y16,h)) fun y5 h=>
 some (.normal,(aN 26 (up x [(5,y5),(11,y11),(12,y12),(13,y13),(14,y14),(15,y15),(16,y16),(17,y17),(18,y18),(19,y19),(20,y20),(21,y21),(22,y22),(23,y23),(24,y24),(25,y25)])),h)
 |_=>none)
 | .bool false=>
 some (.exit 0,(aN 26 (up x [(11,y11),(12,y12),(13,y13),(14,y14)])),h)
 |_=>none)
theorem t19_eq (C:ae) (x0 x1:Value) (h:ab):bx Tryd.prog C Tryd.f19 [x0,x1] h=t19 C x0 x1 h:=
 (aI Tryd.prog C Tryd.f19 [x0,x1] h (by kernel_rfl)).trans (by kernel_rfl)
theorem t19k19_4_eq (C:ae) (x:Nat→Value) (h:ab):k19_4 C (aN 26 x) h=t19k19_4 C x h:=
 br (b:=(partOf Tryd.f19 [1,1,1])) (kE:=(ao Tryd.prog Tryd.f19.results.toList)) (rE:=(ao Tryd.prog Tryd.f19.results.toList)) (xE:=(fun _ _ _=>none)) (T:=t19k19_4 C) (fun x h=>by kernel_rfl) x h
theorem t19l19_11010_eq (C:ae) (x:Nat→Value) (h:ab):au Tryd.prog C (partOf Tryd.f19 [1,1,0,1,0,0]) (aN 26 x) h=t19l19_11010 C x h:=
 aE (T:=t19l19_11010 C) (fun x h=>by kernel_rfl) x h
end Go.Proofs.YtdnahgfgoajmcaaDoor

namespace Go.Proofs.YtdnahgfgoajmcaaDoor
open Go Go.Abs
end Go.Proofs.YtdnahgfgoajmcaaDoor

namespace Go.Proofs.YtdnahgfgoajmcaaDoor
open Go Go.Abs
end Go.Proofs.YtdnahgfgoajmcaaDoor

namespace Go.Proofs.YtdnahgfgoajmcaaDoor
open Go Go.Abs
end Go.Proofs.YtdnahgfgoajmcaaDoor

namespace Go.Proofs.YtdnahgfgoajmcaaDoor
open Go Go.Abs
end Go.Proofs.YtdnahgfgoajmcaaDoor

namespace Go.Proofs.YtdnahgfgoajmcaaDoor
open Go Go.Abs
noncomputable def t56 (C:ae) (x0 x1:Value) (h:ab):Out:=
 aa (box x0 h) fun y2 h=>
 aa (box x1 h) fun y3 h=>
 aa (some ((.int .i64 0),h)) fun _y4 h=>
 aa (ld1 y2 h) fun y5 h=>
 aa (pu (aC y5) h) fun y6 h=>
 aa (pu (aM y6 0) h) fun y7 h=>
 aa (ld1 y7 h) fun y8 h=>
 aa (pu (cx y8) h) fun y9 h=>
 aa (some (.func (.func 112) #[] #[y2,y3],h)) fun y10 h=>
 aa (C 111 [y9,y10] h) fun y11 h=>
 aa (some (y11,h)) fun y4_1 h=>
 some (y4_1,h)
theorem t56_eq (C:ae) (x0 x1:Value) (h:ab):bx Tryd.prog C Tryd.f56 [x0,x1] h=t56 C x0 x1 h:=
 (aI Tryd.prog C Tryd.f56 [x0,x1] h (by kernel_rfl)).trans (by kernel_rfl)
noncomputable def k111_2 (C:ae) (e:Env) (h:ab):Out:=bR Tryd.prog C (partOf Tryd.f111 [1,1,1]) e h (ao Tryd.prog Tryd.f111.results.toList) (ao Tryd.prog Tryd.f111.results.toList) (fun _ _ _=>none)
noncomputable def b111_3 (C:ae) (i:Nat) (e:Env) (h:ab):Out:=if i=0 then (k111_2 C) e h else (fun _ _ _=>none) i e h
noncomputable def t111 (C:ae) (x0 x1:Value) (h:ab):Out:=
 aa (some ((.int .i64 0),h)) fun y4 h=>
 aa (some (x0,h)) fun y8 h=>
 aa (some ((.int .i64 0),h)) fun y5 h=>
 aa (some (y8,h)) fun y6 h=>
 fC (iter (au Tryd.prog C (partOf Tryd.f111 [1,1,0,0,0])) rounds (aN 26 (up (bs [x0,x1]) [(4,y4),(5,y5),(6,y6),(8,y8)])) h) (ao Tryd.prog Tryd.f111.results.toList) (b111_3 C)
noncomputable def t111k111_2 (_C:ae) (x:Nat→Value) (h:ab):Out:=
 aa (some ((x 5),h)) fun y25 h=>
 aa (some (y25,h)) fun y4 h=>
 some (y4,h)
noncomputable def t111l111_1100 (C:ae) (x:Nat→Value) (h:ab):Option (Ex×Env×ab):=
 aa (some ((x 5),h)) fun y9 h=>
 aa (some ((x 6),h)) fun y10 h=>
 aa (pu (bin Tryd.prog .lss 3 y9 y10) h) fun y11 h=>
 (match y11 with
 | .bool true=>
 aa (some ((x 5),h)) fun y12 h=>
 aa (some ((x 6),h)) fun y13 h=>
 aa (pu (bin Tryd.prog .add 3 y12 y13) h) fun y14 h=>
 aa (cvI .u64 y14 h) fun y15 h=>
 aa (pu (bin Tryd.prog .shr 111 y15 (.int .u64 1)) h) fun y16 h=>
 aa (cvI .i64 y16 h) fun y17 h=>
 aa (some (y17,h)) fun y7 h=>
 aa (some ((x 1),h)) fun y18 h=>
 aa (some (y7,h)) fun y19 h=>
 aa (callA Tryd.prog C y18 [y19] h) fun y20 h=>
 aa (pu (unA .not y20) h) fun y21 h=>
 (match y21 with
 | .bool true=>
 aa (some (y7,h)) fun y22 h=>
 aa (pu (bin Tryd.prog .add 3 y22 (.int .i64 1)) h) fun y23 h=>
 aa (some (y23,h)) fun y5 h=>
 some (.normal,(aN 26 (up x [(5,y5),(7,y7),(9,y9),(10,y10),(11,y11),(12,y12),(13,y13),(14,y14),(15,y15),(16,y16),(17,y17),(18,y18),(19,y19),(20,y20),(21,y21),(22,y22),(23,y23)])),h)
 | .bool false=>
 aa (some (y7,h)) fun y24 h=>
 aa (some (y24,h)) fun y6 h=>
 some (.normal,(aN 26 (up x [(6,y6),(7,y7),(9,y9),(10,y10),(11,y11),(12,y12),(13,y13),(14,y14),(15,y15),(16,y16),(17,y17),(18,y18),(19,y19),(20,y20),(21,y21),(24,y24)])),h)
 |_=>none)
 | .bool false=>
 some (.exit 0,(aN 26 (up x [(9,y9),(10,y10),(11,y11)])),h)
 |_=>none)
theorem t111_eq (C:ae) (x0 x1:Value) (h:ab):bx Tryd.prog C Tryd.f111 [x0,x1] h=t111 C x0 x1 h:=
 (aI Tryd.prog C Tryd.f111 [x0,x1] h (by kernel_rfl)).trans (by kernel_rfl)
theorem t111k111_2_eq (C:ae) (x:Nat→Value) (h:ab):k111_2 C (aN 26 x) h=t111k111_2 C x h:=
 br (b:=(partOf Tryd.f111 [1,1,1])) (kE:=(ao Tryd.prog Tryd.f111.results.toList)) (rE:=(ao Tryd.prog Tryd.f111.results.toList)) (xE:=(fun _ _ _=>none)) (T:=t111k111_2 C) (fun x h=>by kernel_rfl) x h
theorem t111l111_1100_eq (C:ae) (x:Nat→Value) (h:ab):au Tryd.prog C (partOf Tryd.f111 [1,1,0,0,0]) (aN 26 x) h=t111l111_1100 C x h:=
 aE (T:=t111l111_1100 C) (fun x h=>by kernel_rfl) x h
noncomputable def t112 (C:ae) (x0 x1 x2:Value) (h:ab):Out:=
 aa (some ((.bool false),h)) fun _y4 h=>
 let g2_0:=h
 aa (ld1 x1 g2_0) fun y5 g2_1=>
 aa (pu (aC y5) g2_1) fun y6 g2_2=>
 aa (pu (aM y6 0) g2_2) fun y7 g2_3=>
 aa (ld1 y7 g2_3) fun y8 g2_4=>
 aa (some (x0,g2_4)) fun y9 g2_5=>
 aa (pu (cd 39 y8 y9) g2_5) fun y10 g2_6=>
 aa (dZ 39 y10 g2_6) fun y11 g2_7=>
 aa (C 67 [y11] g2_7) fun y12 g2_8=>
 aa (ld1 x2 g2_8) fun y13 g2_9=>
 aa (C 66 [y12,y13] g2_9) fun y14 g2_10=>
 aa (pu (bin Tryd.prog .geq 3 y14 (.int .i64 0)) g2_10) fun y15 g2_11=>
 aa (some (y15,g2_11)) fun y4_1 g2_12=>
 (match (cm true (ld1 x2 g2_7) y13&&true) with
 |true=>
 let h:=g2_12
 some (y4_1,h)
 |false=>none)
theorem t112_eq (C:ae) (x0 x1 x2:Value) (h:ab):bx Tryd.prog C Tryd.f112 [x0,x1,x2] h=t112 C x0 x1 x2 h:=
 (aI Tryd.prog C Tryd.f112 [x0,x1,x2] h (by kernel_rfl)).trans (by kernel_rfl)
end Go.Proofs.YtdnahgfgoajmcaaDoor

namespace Go.Proofs.YtdnahgfgoajmcaaDoor
open Go Go.Abs
noncomputable def t20 (C:ae) (x0 x1 x2:Value) (h:ab):Out:=
 aa (some ((.slice none 0 0),h)) fun _y6 h=>
 aa (some (x0,h)) fun y9 h=>
 aa (pu (bin Tryd.prog .eql 25 y9 (.pointer none)) h) fun y10 h=>
 (match y10 with
 | .bool true=>
 aa (some ((.slice none 0 0),h)) fun y6_1 h=>
 some (y6_1,h)
 | .bool false=>
 let g5_0:=h
 aa (some (x0,g5_0)) fun y11 g5_1=>
 aa (some (x1,g5_1)) fun y12 g5_2=>
 aa (C 56 [y11,y12] g5_2) fun y13 g5_3=>
 aa (some (x0,g5_3)) fun y14 g5_4=>
 aa (pu (aC y14) g5_4) fun y15 g5_5=>
 aa (pu (aM y15 0) g5_5) fun y16 g5_6=>
 aa (ld1 y16 g5_6) fun y17 g5_7=>
 aa (pu (cx y17) g5_7) fun y18 g5_8=>
 aa (some (y13,g5_8)) fun y7 g5_9=>
 aa (some (y18,g5_9)) fun y8 g5_10=>
 (match (cm true (ld1 y16 g5_2) y17&&(cm true (pu (cx y17) g5_2) y18&&true)) with
 |true=>
 let h:=g5_10
 aa (some (x2,h)) fun y19 h=>
 aa (pu (cx y19) h) fun y20 h=>
 aa (pu (bin Tryd.prog .gtr 3 y20 (.int .i64 0)) h) fun y21 h=>
 (match y21 with
 | .bool true=>
 aa (some (y7,h)) fun y22 h=>
 aa (some (x0,h)) fun y23 h=>
 aa (some (x2,h)) fun y24 h=>
 aa (C 56 [y23,y24] h) fun y25 h=>
 aa (pu (eh true y22 [y25]) h) fun y26 h=>
 aa (some (y26,h)) fun y8_1 h=>
 aa (some (x0,h)) fun y27 h=>
 aa (pu (aC y27) h) fun y28 h=>
 aa (pu (aM y28 0) h) fun y29 h=>
 aa (ld1 y29 h) fun y30 h=>
 aa (some (y7,h)) fun y31 h=>
 aa (some (y8_1,h)) fun y32 h=>
 aa (pu (slR 39 y30 (some y31) (some y32) none) h) fun y33 h=>
 aa (C 57 [y33] h) fun y34 h=>
 aa (some (y34,h)) fun y6_1 h=>
 some (y6_1,h)
 | .bool false=>
 aa (some (x0,h)) fun y27 h=>
 aa (pu (aC y27) h) fun y28 h=>
 aa (pu (aM y28 0) h) fun y29 h=>
 aa (ld1 y29 h) fun y30 h=>
 aa (some (y7,h)) fun y31 h=>
 aa (some (y8,h)) fun y32 h=>
 aa (pu (slR 39 y30 (some y31) (some y32) none) h) fun y33 h=>
 aa (C 57 [y33] h) fun y34 h=>
 aa (some (y34,h)) fun y6_1 h=>
 some (y6_1,h)
 |_=>none)
 |false=>none)
 |_=>none)
theorem t20_eq (C:ae) (x0 x1 x2:Value) (h:ab):bx Tryd.prog C Tryd.f20 [x0,x1,x2] h=t20 C x0 x1 x2 h:=
 (aI Tryd.prog C Tryd.f20 [x0,x1,x2] h (by kernel_rfl)).trans (by kernel_rfl)
noncomputable def t17 (C:ae) (x0 x1 x2:Value) (h:ab):Out:=
 aa (fS [(.int .u8 0),(.int .i64 0),(.int .i64 0),(.int .u64 0),(.int .i64 0),(.int .i64 0),(.slice none 0 0),(.slice none 0 0),(.slice none 0 0),(.int .i64 0),(.int .u8 0),(.int .u8 0),(.int .u8 0),(.int .u8 0),(.int .u8 0),(.int .u8 0),(.int .u8 0),(.int .u8 0),(.int .u8 0),(.int .u8 0),(.int .u8 0),(.int .u8 0),(.int .u8 0),(.int .u8 0),(.int .u8 0),(.int .u8 0),(.int .u8 0),(.int .u8 0),(.int .u8 0),(.int .u8 0),(.int .u8 0),(.int .u8 0),(.int .u8 0),(.int .u8 0),(.int .u8 0),(.int .u8 0),(.int .u8 0),(.int .u8 0),(.int .u8 0),(.int .u8 0),(.int .u8 0),(.int .u8 0),(.slice none 0 0),(.bool false),(.int .u8 0),(.int .u8 0),(.int .u8 0),(.int .u8 0),(.int .u8 0),(.int .u8 0),(.int .u8 0),(.int .u8 0),(.int .u8 0),(.int .u8 0),(.int .u8 0),(.int .u8 0),(.int .u8 0),(.int .u8 0),(.int .u8 0),(.int .u8 0),(.int .u8 0),(.int .u8 0),(.int .u8 0),(.int .u8 0),(.int .u8 0),(.int .u8 0),(.int .u8 0),(.int .u8 0),(.int .u8 0),(.int .u8 0),(.int .u8 0),(.int .u8 0),(.int .u8 0),(.int .u8 0),(.int .u8 0),(.int .u8 0),(.int .i64 0),(.int .i64 0),(.int .i64 0),(.int .i64 0),(.int .u8 0),(.int .u8 0),(.int .u8 0),(.int .u8 0),(.int .u8 0),(.int .u8 0),(.int .u8 0),(.int .u8 0),(.int .u8 0),(.int .u8 0),(.int .u8 0),(.int .u8 0),(.int .u8 0),(.int .u8 0),(.int .u8 0),(.int .u8 0),(.int .u8 0),(.int .u8 0),(.int .u8 0),(.int .u8 0),(.int .u8 0),(.int .u8 0),(.int .u8 0),(.int .u8 0),(.int .u8 0),(.int .u8 0),(.int .u8 0),(.int .u8 0),(.int .u8 0),(.int .u8 0),(.int .u8 0),(.int .u8 0),(.slice none 0 0),(.int .i64 0),(.slice none 0 0),(.int .i64 0)] h) fun y6 h=>
 aa (some (x0,h)) fun y8 h=>
 aa (pu (bin Tryd.prog .eql 25 y8 (.pointer none)) h) fun y9 h=>
 (match y9 with
 | .bool true=>
 aa (pu (ep [(.int .u8 0),(.int .i64 0),(.int .i64 0),(.int .u64 0),(.int .i64 0),(.int .i64 0),(.slice none 0 0),(.slice none 0 0),(.slice none 0 0),(.int .i64 0),(.int .u8 0),(.int .u8 0),(.int .u8 0),(.int .u8 0),(.int .u8 0),(.int .u8 0),(.int .u8 0),(.int .u8 0),(.int .u8 0),(.int .u8 0),(.int .u8 0),(.int .u8 0),(.int .u8 0),(.int .u8 0),(.int .u8 0),(.int .u8 0),(.int .u8 0),(.int .u8 0),(.int .u8 0),(.int .u8 0),(.int .u8 0),(.int .u8 0),(.int .u8 0),(.int .u8 0),(.int .u8 0),(.int .u8 0),(.int .u8 0),(.int .u8 0),(.int .u8 0),(.int .u8 0),(.int .u8 0),(.int .u8 0),(.slice none 0 0),(.bool false),(.int .u8 0),(.int .u8 0),(.int .u8 0),(.int .u8 0),(.int .u8 0),(.int .u8 0),(.int .u8 0),(.int .u8 0),(.int .u8 0),(.int .u8 0),(.int .u8 0),(.int .u8 0),(.int .u8 0),(.int .u8 0),(.int .u8 0),(.int .u8 0),(.int .u8 0),(.int .u8 0),(.int .u8 0),(.int .u8 0),(.int .u8 0),(.int .u8 0),(.int .u8 0),(.int .u8 0),(.int .u8 0),(.int .u8 0),(.int .u8 0),(.int .u8 0),(.int .u8 0),(.int .u8 0),(.int .u8 0),(.int .u8 0),(.int .i64 0),(.int .i64 0),(.int .i64 0),(.int .i64 0),(.int .u8 0),(.int .u8 0),(.int .u8 0),(.int .u8 0),(.int .u8 0),(.int .u8 0),(.int .u8 0),(.int .u8 0),(.int .u8 0),(.int .u8 0),(.int .u8 0),(.int .u8 0),(.int .u8 0),(.int .u8 0),(.int .u8 0),(.int .u8 0),(.int .u8 0),(.int .u8 0),(.int .u8 0),(.int .u8 0),(.int .u8 0),(.int .u8 0),(.int .u8 0),(.int .u8 0),(.int .u8 0),(.int .u8 0),(.int .u8 0),(.int .u8 0),(.int .u8 0),(.int .u8 0),(.int .u8 0),(.int .u8 0),(.slice none 0 0),(.int .i64 0),(.slice none 0 0),(.int .i64 0)] []) h) fun y10 h=>
 aa (fM 116 y6 y10 h) fun _ h=>
 ao Tryd.prog Tryd.f17.results.toList (aN 24 (up (bs [x0,x1,x2]) [(6,y6),(8,y8),(9,y9),(10,y10)])) h
 | .bool false=>
 aa (some (x0,h)) fun y11 h=>
 aa (some (x1,h)) fun y12 h=>
 aa (some (x2,h)) fun y13 h=>
 aa (C 20 [y11,y12,y13] h) fun y14 h=>
 aa (some (y14,h)) fun y7 h=>
 aa (some (x1,h)) fun y15 h=>
 aa (C 53 [y15] h) fun y16 h=>
 aa (some (x2,h)) fun y17 h=>
 aa (C 53 [y17] h) fun y18 h=>
 aa (some (y7,h)) fun y19 h=>
 aa (pu (cx y19) h) fun y20 h=>
 aa (some (y7,h)) fun y21 h=>
 aa (C 54 [y21] h) fun y22 h=>
 aa (pu (ep [(.int .u8 0),(.int .i64 0),(.int .i64 0),(.int .u64 0),(.int .i64 0),(.int .i64 0),(.slice none 0 0),(.slice none 0 0),(.slice none 0 0),(.int .i64 0),(.int .u8 0),(.int .u8 0),(.int .u8 0),(.int .u8 0),(.int .u8 0),(.int .u8 0),(.int .u8 0),(.int .u8 0),(.int .u8 0),(.int .u8 0),(.int .u8 0),(.int .u8 0),(.int .u8 0),(.int .u8 0),(.int .u8 0),(.int .u8 0),(.int .u8 0),(.int .u8 0),(.int .u8 0),(.int .u8 0),(.int .u8 0),(.int .u8 0),(.int .u8 0),(.int .u8 0),(.int .u8 0),(.int .u8 0),(.int .u8 0),(.int .u8 0),(.int .u8 0),(.int .u8 0),(.int .u8 0),(.int .u8 0),(.slice none 0 0),(.bool false),(.int .u8 0),(.int .u8 0),(.int .u8 0),(.int .u8 0),(.int .u8 0),(.int .u8 0),(.int .u8 0),(.int .u8 0),(.int .u8 0),(.int .u8 0),(.int .u8 0),(.int .u8 0),(.int .u8 0),(.int .u8 0),(.int .u8 0),(.int .u8 0),(.int .u8 0),(.int .u8 0),(.int .u8 0),(.int .u8 0),(.int .u8 0),(.int .u8 0),(.int .u8 0),(.int .u8 0),(.int .u8 0),(.int .u8 0),(.int .u8 0),(.int .u8 0),(.int .u8 0),(.int .u8 0),(.int .u8 0),(.int .u8 0),(.int .i64 0),(.int .i64 0),(.int .i64 0),(.int .i64 0),(.int .u8 0),(.int .u8 0),(.int .u8 0),(.int .u8 0),(.int .u8 0),(.int .u8 0),(.int .u8 0),(.int .u8 0),(.int .u8 0),(.int .u8 0),(.int .u8 0),(.int .u8 0),(.int .u8 0),(.int .u8 0),(.int .u8 0),(.int .u8 0),(.int .u8 0),(.int .u8 0),(.int .u8 0),(.int .u8 0),(.int .u8 0),(.int .u8 0),(.int .u8 0),(.int .u8 0),(.int .u8 0),(.int .u8 0),(.int .u8 0),(.int .u8 0),(.int .u8 0),(.int .u8 0),(.int .u8 0),(.int .u8 0),(.slice none 0 0),(.int .i64 0),(.slice none 0 0),(.int .i64 0)] [(0,1,(.int .u8 4)),(7,1,y16),(8,1,y18),(9,1,y20),(10,32,y22)]) h) fun y23 h=>
 aa (fM 116 y6 y23 h) fun _ h=>
 ao Tryd.prog Tryd.f17.results.toList (aN 24 (up (bs [x0,x1,x2]) [(6,y6),(7,y7),(8,y8),(9,y9),(11,y11),(12,y12),(13,y13),(14,y14),(15,y15),(16,y16),(17,y17),(18,y18),(19,y19),(20,y20),(21,y21),(22,y22),(23,y23)])) h
 |_=>none)
theorem t17_eq (C:ae) (x0 x1 x2:Value) (h:ab):bx Tryd.prog C Tryd.f17 [x0,x1,x2] h=t17 C x0 x1 x2 h:=
 (aI Tryd.prog C Tryd.f17 [x0,x1,x2] h (by kernel_rfl)).trans (by kernel_rfl)
end Go.Proofs.YtdnahgfgoajmcaaDoor

namespace Go.Proofs.YtdnahgfgoajmcaaDoor
open Go Go.Abs
noncomputable def t100 (C:ae) (x0 x1:Value) (h:ab):Out:=
 aa (box x1 h) fun y3 h=>
 aa (some ((.slice none 0 0),h)) fun _y4 h=>
 aa (some (x0,h)) fun y8 h=>
 aa (pu (aM y3 7) h) fun y9 h=>
 aa (ld1 y9 h) fun y10 h=>
 aa (pu (aM y3 8) h) fun y11 h=>
 aa (ld1 y11 h) fun y12 h=>
 aa (C 17 [y8,y10,y12] h) fun y13 h=>
 aa (fS [(.int .u8 0),(.int .i64 0),(.int .i64 0),(.int .u64 0),(.int .i64 0),(.int .i64 0),(.slice none 0 0),(.slice none 0 0),(.slice none 0 0),(.int .i64 0),(.int .u8 0),(.int .u8 0),(.int .u8 0),(.int .u8 0),(.int .u8 0),(.int .u8 0),(.int .u8 0),(.int .u8 0),(.int .u8 0),(.int .u8 0),(.int .u8 0),(.int .u8 0),(.int .u8 0),(.int .u8 0),(.int .u8 0),(.int .u8 0),(.int .u8 0),(.int .u8 0),(.int .u8 0),(.int .u8 0),(.int .u8 0),(.int .u8 0),(.int .u8 0),(.int .u8 0),(.int .u8 0),(.int .u8 0),(.int .u8 0),(.int .u8 0),(.int .u8 0),(.int .u8 0),(.int .u8 0),(.int .u8 0),(.slice none 0 0),(.bool false),(.int .u8 0),(.int .u8 0),(.int .u8 0),(.int .u8 0),(.int .u8 0),(.int .u8 0),(.int .u8 0),(.int .u8 0),(.int .u8 0),(.int .u8 0),(.int .u8 0),(.int .u8 0),(.int .u8 0),(.int .u8 0),(.int .u8 0),(.int .u8 0),(.int .u8 0),(.int .u8 0),(.int .u8 0),(.int .u8 0),(.int .u8 0),(.int .u8 0),(.int .u8 0),(.int .u8 0),(.int .u8 0),(.int .u8 0),(.int .u8 0),(.int .u8 0),(.int .u8 0),(.int .u8 0),(.int .u8 0),(.int .u8 0),(.int .i64 0),(.int .i64 0),(.int .i64 0),(.int .i64 0),(.int .u8 0),(.int .u8 0),(.int .u8 0),(.int .u8 0),(.int .u8 0),(.int .u8 0),(.int .u8 0),(.int .u8 0),(.int .u8 0),(.int .u8 0),(.int .u8 0),(.int .u8 0),(.int .u8 0),(.int .u8 0),(.int .u8 0),(.int .u8 0),(.int .u8 0),(.int .u8 0),(.int .u8 0),(.int .u8 0),(.int .u8 0),(.int .u8 0),(.int .u8 0),(.int .u8 0),(.int .u8 0),(.int .u8 0),(.int .u8 0),(.int .u8 0),(.int .u8 0),(.int .u8 0),(.int .u8 0),(.int .u8 0),(.slice none 0 0),(.int .i64 0),(.slice none 0 0),(.int .i64 0)] h) fun y5 h=>
 aa (fM 116 y5 y13 h) fun _ h=>
 aa (some (x0,h)) fun y14 h=>
 aa (pu (aM y3 7) h) fun y15 h=>
 aa (ld1 y15 h) fun y16 h=>
 aa (pu (aM y3 8) h) fun y17 h=>
 aa (ld1 y17 h) fun y18 h=>
 aa (C 20 [y14,y16,y18] h) fun y19 h=>
 aa (some (y19,h)) fun y6 h=>
 aa (pu (aM y5 9) h) fun y21 h=>
 aa (ld1 y21 h) fun y22 h=>
 aa (pu (aM y3 9) h) fun y23 h=>
 aa (ld1 y23 h) fun y24 h=>
 aa (pu (bin Tryd.prog .eql 3 y22 y24) h) fun y25 h=>
 aa (some (y25,h)) fun y26 h=>
 aa (aJ (fj y26==some true) (pu (aM y5 10) h) h) fun y27 h=>
 aa (aJ (fj y26==some true) (dZ 32 y27 h) h) fun y28 h=>
 aa (aJ (fj y26==some true) (pu (aM y3 10) h) h) fun y29 h=>
 aa (aJ (fj y26==some true) (dZ 32 y29 h) h) fun y30 h=>
 aa (aJ (fj y26==some true) (pu (bin Tryd.prog .eql 35 y28 y30) h) h) fun y31 h=>
 aa (match y26 with | .bool t=>some (if t then y31 else (.bool false),h)|_=>none) fun y32 h=>
 aa (some (y32,h)) fun y20 h=>
 (match y20 with
 | .bool true=>
 aa (some ((.slice none 0 0),h)) fun y4_1 h=>
 some (y4_1,h)
 | .bool false=>
 aa (some (y6,h)) fun y34 h=>
 aa (pu (cx y34) h) fun y35 h=>
 aa (pu (bin Tryd.prog .leq 3 y35 (.int .i64 8)) h) fun y36 h=>
 aa (some (y36,h)) fun y33 h=>
 (match y33 with
 | .bool true=>
 aa (dZ 116 y3 h) fun y37 h=>
 aa (some (y6,h)) fun y38 h=>
 aa (C 129 [y37,y38,(.bool true)] h) fun y39 h=>
 aa (du 116 (.agg #[(.int .u8 0),(.int .i64 0),(.int .i64 0),(.int .u64 0),(.int .i64 0),(.int .i64 0),(.slice none 0 0),(.slice none 0 0),(.slice none 0 0),(.int .i64 0),(.int .u8 0),(.int .u8 0),(.int .u8 0),(.int .u8 0),(.int .u8 0),(.int .u8 0),(.int .u8 0),(.int .u8 0),(.int .u8 0),(.int .u8 0),(.int .u8 0),(.int .u8 0),(.int .u8 0),(.int .u8 0),(.int .u8 0),(.int .u8 0),(.int .u8 0),(.int .u8 0),(.int .u8 0),(.int .u8 0),(.int .u8 0),(.int .u8 0),(.int .u8 0),(.int .u8 0),(.int .u8 0),(.int .u8 0),(.int .u8 0),(.int .u8 0),(.int .u8 0),(.int .u8 0),(.int .u8 0),(.int .u8 0),(.slice none 0 0),(.bool false),(.int .u8 0),(.int .u8 0),(.int .u8 0),(.int .u8 0),(.int .u8 0),(.int .u8 0),(.int .u8 0),(.int .u8 0),(.int .u8 0),(.int .u8 0),(.int .u8 0),(.int .u8 0),(.int .u8 0),(.int .u8 0),(.int .u8 0),(.int .u8 0),(.int .u8 0),(.int .u8 0),(.int .u8 0),(.int .u8 0),(.int .u8 0),(.int .u8 0),(.int .u8 0),(.int .u8 0),(.int .u8 0),(.int .u8 0),(.int .u8 0),(.int .u8 0),(.int .u8 0),(.int .u8 0),(.int .u8 0),(.int .u8 0),(.int .i64 0),(.int .i64 0),(.int .i64 0),(.int .i64 0),(.int .u8 0),(.int .u8 0),(.int .u8 0),(.int .u8 0),(.int .u8 0),(.int .u8 0),(.int .u8 0),(.int .u8 0),(.int .u8 0),(.int .u8 0),(.int .u8 0),(.int .u8 0),(.int .u8 0),(.int .u8 0),(.int .u8 0),(.int .u8 0),(.int .u8 0),(.int .u8 0),(.int .u8 0),(.int .u8 0),(.int .u8 0),(.int .u8 0),(.int .u8 0),(.int .u8 0),(.int .u8 0),(.int .u8 0),(.int .u8 0),(.int .u8 0),(.int .u8 0),(.int .u8 0),(.int .u8 0),(.int .u8 0),(.slice none 0 0),(.int .i64 0),(.slice none 0 0),(.int .i64 0)]) 1 [(0,y39)] h) fun y40 h=>
 aa (some (y40,h)) fun y4_1 h=>
 some (y4_1,h)
 | .bool false=>
 aa (some (y6,h)) fun y41 h=>
 aa (some (y6,h)) fun y42 h=>
 aa (pu (cx y42) h) fun y43 h=>
 aa (pu (bin Tryd.prog .quo 3 y43 (.int .i64 2)) h) fun y44 h=>
 aa (pu (cd 39 y41 y44) h) fun y45 h=>
 aa (dZ 39 y45 h) fun y46 h=>
 aa (C 67 [y46] h) fun y47 h=>
 aa (some (y47,h)) fun y7 h=>
 let g11_0:=h
 aa (some (x0,g11_0)) fun y48 g11_1=>
 aa (pu (aM y3 7) g11_1) fun y49 g11_2=>
 aa (ld1 y49 g11_2) fun y50 g11_3=>
 aa (some (y7,g11_3)) fun y51 g11_4=>
 aa (C 17 [y48,y50,y51] g11_4) fun y52 g11_5=>
 aa (some (x0,g11_5)) fun y53 g11_6=>
 aa (some (y7,g11_6)) fun y54 g11_7=>
 aa (pu (aM y3 8) g11_7) fun y55 g11_8=>
 aa (ld1 y55 g11_8) fun y56 g11_9=>
 aa (C 17 [y53,y54,y56] g11_9) fun y57 g11_10=>
 aa (du 116 (.agg #[(.int .u8 0),(.int .i64 0),(.int .i64 0),(.int .u64 0),(.int .i64 0),(.int .i64 0),(.slice none 0 0),(.slice none 0 0),(.slice none 0 0),(.int .i64 0),(.int .u8 0),(.int .u8 0),(.int .u8 0),(.int .u8 0),(.int .u8 0),(.int .u8 0),(.int .u8 0),(.int .u8 0),(.int .u8 0),(.int .u8 0),(.int .u8 0),(.int .u8 0),(.int .u8 0),(.int .u8 0),(.int .u8 0),(.int .u8 0),(.int .u8 0),(.int .u8 0),(.int .u8 0),(.int .u8 0),(.int .u8 0),(.int .u8 0),(.int .u8 0),(.int .u8 0),(.int .u8 0),(.int .u8 0),(.int .u8 0),(.int .u8 0),(.int .u8 0),(.int .u8 0),(.int .u8 0),(.int .u8 0),(.slice none 0 0),(.bool false),(.int .u8 0),(.int .u8 0),(.int .u8 0),(.int .u8 0),(.int .u8 0),(.int .u8 0),(.int .u8 0),(.int .u8 0),(.int .u8 0),(.int .u8 0),(.int .u8 0),(.int .u8 0),(.int .u8 0),(.int .u8 0),(.int .u8 0),(.int .u8 0),(.int .u8 0),(.int .u8 0),(.int .u8 0),(.int .u8 0),(.int .u8 0),(.int .u8 0),(.int .u8 0),(.int .u8 0),(.int .u8 0),(.int .u8 0),(.int .u8 0),(.int .u8 0),(.int .u8 0),(.int .u8 0),(.int .u8 0),(.int .u8 0),(.int .i64 0),(.int .i64 0),(.int .i64 0),(.int .i64 0),(.int .u8 0),(.int .u8 0),(.int .u8 0),(.int .u8 0),(.int .u8 0),(.int .u8 0),(.int .u8 0),(.int .u8 0),(.int .u8 0),(.int .u8 0),(.int .u8 0),(.int .u8 0),(.int .u8 0),(.int .u8 0),(.int .u8 0),(.int .u8 0),(.int .u8 0),(.int .u8 0),(.int .u8 0),(.int .u8 0),(.int .u8 0),(.int .u8 0),(.int .u8 0),(.int .u8 0),(.int .u8 0),(.int .u8 0),(.int .u8 0),(.int .u8 0),(.int .u8 0),(.int .u8 0),(.int .u8 0),(.int .u8 0),(.slice none 0 0),(.int .i64 0),(.slice none 0 0),(.int .i64 0)]) 2 [(0,y52),(1,y57)] g11_10) fun y58 g11_11=>
 aa (some (y58,g11_11)) fun y4_1 g11_12=>
 (match (cm true (ld1 y55 g11_4) y56&&true) with
 |true=>
 let h:=g11_12
 some (y4_1,h)
 |false=>none)
 |_=>none)
 |_=>none)
theorem t100_eq (C:ae) (x0 x1:Value) (h:ab):bx Tryd.prog C Tryd.f100 [x0,x1] h=t100 C x0 x1 h:=
 (aI Tryd.prog C Tryd.f100 [x0,x1] h (by kernel_rfl)).trans (by kernel_rfl)
noncomputable def k50_8 (C:ae) (e:Env) (h:ab):Out:=bR Tryd.prog C (partOf Tryd.f50 [1,1,1,1,1]) e h (ao Tryd.prog Tryd.f50.results.toList) (ao Tryd.prog Tryd.f50.results.toList) (fun _ _ _=>none)
noncomputable def b50_10 (C:ae) (i:Nat) (e:Env) (h:ab):Out:=if i=1 then (k50_8 C) e h else (fun _ _ _=>none) i e h
noncomputable def t50 (C:ae) (x0 x1:Value) (h:ab):Out:=
 aa (box x1 h) fun y3 h=>
 aa (some ((.slice none 0 0),h)) fun y4 h=>
 aa (some ((.int .i64 0),h)) fun y5 h=>
 aa (some (x0,h)) fun y8 h=>
 aa (pu (bin Tryd.prog .eql 25 y8 (.pointer none)) h) fun y9 h=>
 (match y9 with
 | .bool true=>
 aa (some ((.slice none 0 0),h)) fun y4_1 h=>
 aa (some ((.int .i64 1),h)) fun y5_1 h=>
 some (.tuple #[y4_1,y5_1],h)
 | .bool false=>
 aa (some ((.slice none 0 0),h)) fun _y6 h=>
 aa (pu (aM y3 0) h) fun y11 h=>
 aa (ld1 y11 h) fun y12 h=>
 aa (pu (bin Tryd.prog .eql 31 y12 (.int .u8 4)) h) fun y13 h=>
 aa (some (y13,h)) fun y14 h=>
 aa (aJ (fj y14==some true) (pu (aM y3 9) h) h) fun y15 h=>
 aa (aJ (fj y14==some true) (ld1 y15 h) h) fun y16 h=>
 aa (aJ (fj y14==some true) (pu (bin Tryd.prog .geq 3 y16 (.int .i64 0)) h) h) fun y17 h=>
 aa (match y14 with | .bool t=>some (if t then y17 else (.bool false),h)|_=>none) fun y18 h=>
 aa (some (y18,h)) fun y10 h=>
 (match y10 with
 | .bool true=>
 aa (some (x0,h)) fun y19 h=>
 aa (dZ 116 y3 h) fun y20 h=>
 aa (C 100 [y19,y20] h) fun y21 h=>
 aa (some (y21,h)) fun y6_1 h=>
 aa (some (y6_1,h)) fun y46 h=>
 aa (pu (cx y46) h) fun y47 h=>
 aa (some ((.int .i64 0),h)) fun y48 h=>
 fC (iter (au Tryd.prog C (partOf Tryd.f50 [1,1,1,1,0,1,0,0])) rounds (aN 65 (up (bs [x0,x1]) [(3,y3),(4,y4),(5,y5),(6,y6_1),(8,y8),(9,y9),(10,y10),(11,y11),(12,y12),(13,y13),(14,y14),(15,y15),(16,y16),(17,y17),(18,y18),(19,y19),(20,y20),(21,y21),(46,y46),(47,y47),(48,y48)])) h) (ao Tryd.prog Tryd.f50.results.toList) (b50_10 C)
 | .bool false=>
 aa (pu (aM y3 0) h) fun y23 h=>
 aa (ld1 y23 h) fun y24 h=>
 aa (pu (bin Tryd.prog .eql 31 y24 (.int .u8 5)) h) fun y25 h=>
 aa (some (y25,h)) fun y26 h=>
 aa (aJ (fj y26==some true) (pu (aM y3 42) h) h) fun y27 h=>
 aa (aJ (fj y26==some true) (ld1 y27 h) h) fun y28 h=>
 aa (aJ (fj y26==some true) (pu (cx y28) h) h) fun y29 h=>
 aa (aJ (fj y26==some true) (pu (bin Tryd.prog .gtr 3 y29 (.int .i64 64)) h) h) fun y30 h=>
 aa (match y26 with | .bool t=>some (if t then y30 else (.bool false),h)|_=>none) fun y31 h=>
 aa (some (y31,h)) fun y22 h=>
 (match y22 with
 | .bool true=>
 aa (some ((.slice none 0 0),h)) fun y4_1 h=>
 aa (some ((.int .i64 3),h)) fun y5_1 h=>
 some (.tuple #[y4_1,y5_1],h)
 | .bool false=>
 aa (pu (aM y3 0) h) fun y33 h=>
 aa (ld1 y33 h) fun y34 h=>
 aa (pu (bin Tryd.prog .eql 31 y34 (.int .u8 5)) h) fun y35 h=>
 aa (some (y35,h)) fun y36 h=>
 aa (aJ (fj y36==some true) (pu (aM y3 42) h) h) fun y37 h=>
 aa (aJ (fj y36==some true) (ld1 y37 h) h) fun y38 h=>
 aa (aJ (fj y36==some true) (some (.func (.func 101) #[] #[y3],h)) h) fun y39 h=>
 aa (aJ (fj y36==some true) (C 60 [y38,y39] h) h) fun y40 h=>
 aa (aJ (fj y36==some true) (pu (unA .not y40) h) h) fun y41 h=>
 aa (match y36 with | .bool t=>some (if t then y41 else (.bool false),h)|_=>none) fun y42 h=>
 aa (some (y42,h)) fun y32 h=>
 (match y32 with
 | .bool true=>
 aa (some (x0,h)) fun y43 h=>
 aa (dZ 116 y3 h) fun y44 h=>
 aa (C 103 [y43,y44] h) fun y45 h=>
 aa (some (y45,h)) fun y6_1 h=>
 aa (some (y6_1,h)) fun y46 h=>
 aa (pu (cx y46) h) fun y47 h=>
 aa (some ((.int .i64 0),h)) fun y48 h=>
 fC (iter (au Tryd.prog C (partOf Tryd.f50 [1,1,1,1,0,1,0,0])) rounds (aN 65 (up (bs [x0,x1]) [(3,y3),(4,y4),(5,y5),(6,y6_1),(8,y8),(9,y9),(10,y10),(11,y11),(12,y12),(13,y13),(14,y14),(15,y15),(16,y16),(17,y17),(18,y18),(22,y22),(23,y23),(24,y24),(25,y25),(26,y26),(27,y27),(28,y28),(29,y29),(30,y30),(31,y31),(32,y32),(33,y33),(34,y34),(35,y35),(36,y36),(37,y37),(38,y38),(39,y39),(40,y40),(41,y41),(42,y42),(43,y43),(44,y44),(45,y45),(46,y46),(47,y47),(48,y48)])) h) (ao Tryd.prog Tryd.f50.results.toList) (b50_10 C)
 | .bool false=>
 aa (some ((.slice none 0 0),h)) fun y4_1 h=>
 aa (some ((.int .i64 2),h)) fun y5_1 h=>
 some (.tuple #[y4_1,y5_1],h)
 |_=>none)
 |_=>none)
 |_=>none)
 |_=>none)
noncomputable def t50k50_8 (_C:ae) (x:Nat→Value) (h:ab):Out:=
 aa (some ((x 6),h)) fun y64 h=>
 aa (some (y64,h)) fun y4 h=>
 aa (some ((.int .i64 0),h)) fun y5 h=>
 some (.tuple #[y4,y5],h)
noncomputable def fW (_C:ae) (x:Nat→Value) (h:ab):Option (Ex×Env×ab):=
 aa (pu (bin Tryd.prog .lss 3 (x 48) (x 47)) h) fun y49 h=>
 (match y49 with
 | .bool true=>
 aa (some ((x 48),h)) fun y50 h=>
 aa (some (y50,h)) fun y7 h=>
 let g21_0:=h
 aa (some ((x 6),g21_0)) fun y51 g21_1=>
 aa (some (y7,g21_1)) fun y52 g21_2=>
 aa (some ((x 6),g21_2)) fun y53 g21_3=>
 aa (some (y7,g21_3)) fun y54 g21_4=>
 aa (pu (aM (x 3) 2) g21_4) fun y55 g21_5=>
 aa (ld1 y55 g21_5) fun y56 g21_6=>
 aa (pu (aM (x 3) 1) g21_6) fun y57 g21_7=>
 aa (ld1 y57 g21_7) fun y58 g21_8=>
 aa (pu (cd 116 y51 y52) g21_8) fun y59 g21_9=>
 aa (pu (aM y59 1) g21_9) fun y60 g21_10=>
 aa (fM 1 y60 y56 g21_10) fun _ g21_11=>
 aa (pu (cd 116 y53 y54) g21_11) fun y61 g21_12=>
 aa (pu (aM y61 2) g21_12) fun y62 g21_13=>
 aa (fM 1 y62 y58 g21_13) fun _ g21_14=>
 (match (cm true (ld1 y57 g21_11) y58&&true) with
 |true=>
 let h:=g21_14
 aa (pu (bin Tryd.prog .add 3 (x 48) (.int .i64 1)) h) fun y63 h=>
 aa (some (y63,h)) fun y48 h=>
 some (.normal,(aN 65 (up x [(7,y7),(48,y48),(49,y49),(50,y50),(51,y51),(52,y52),(53,y53),(54,y54),(55,y55),(56,y56),(57,y57),(58,y58),(59,y59),(60,y60),(61,y61),(62,y62),(63,y63)])),h)
 |false=>none)
 | .bool false=>
 some (.exit 1,(aN 65 (up x [(49,y49)])),h)
 |_=>none)
theorem t50_eq (C:ae) (x0 x1:Value) (h:ab):bx Tryd.prog C Tryd.f50 [x0,x1] h=t50 C x0 x1 h:=
 (aI Tryd.prog C Tryd.f50 [x0,x1] h (by kernel_rfl)).trans (by kernel_rfl)
theorem t50k50_8_eq (C:ae) (x:Nat→Value) (h:ab):k50_8 C (aN 65 x) h=t50k50_8 C x h:=
 br (b:=(partOf Tryd.f50 [1,1,1,1,1])) (kE:=(ao Tryd.prog Tryd.f50.results.toList)) (rE:=(ao Tryd.prog Tryd.f50.results.toList)) (xE:=(fun _ _ _=>none)) (T:=t50k50_8 C) (fun x h=>by kernel_rfl) x h
theorem t50l50_1111010_eq (C:ae) (x:Nat→Value) (h:ab):au Tryd.prog C (partOf Tryd.f50 [1,1,1,1,0,1,0,0]) (aN 65 x) h=fW C x h:=
 aE (T:=fW C) (fun x h=>by kernel_rfl) x h
end Go.Proofs.YtdnahgfgoajmcaaDoor

namespace Go.Proofs.YtdnahgfgoajmcaaDoor
open Go Go.Abs
noncomputable def t129 (C:ae) (x0 x1 x2:Value) (h:ab):Out:=
 aa (box x0 h) fun y3 h=>
 aa (fS [(.int .u8 0),(.int .i64 0),(.int .i64 0),(.int .u64 0),(.int .i64 0),(.int .i64 0),(.slice none 0 0),(.slice none 0 0),(.slice none 0 0),(.int .i64 0),(.int .u8 0),(.int .u8 0),(.int .u8 0),(.int .u8 0),(.int .u8 0),(.int .u8 0),(.int .u8 0),(.int .u8 0),(.int .u8 0),(.int .u8 0),(.int .u8 0),(.int .u8 0),(.int .u8 0),(.int .u8 0),(.int .u8 0),(.int .u8 0),(.int .u8 0),(.int .u8 0),(.int .u8 0),(.int .u8 0),(.int .u8 0),(.int .u8 0),(.int .u8 0),(.int .u8 0),(.int .u8 0),(.int .u8 0),(.int .u8 0),(.int .u8 0),(.int .u8 0),(.int .u8 0),(.int .u8 0),(.int .u8 0),(.slice none 0 0),(.bool false),(.int .u8 0),(.int .u8 0),(.int .u8 0),(.int .u8 0),(.int .u8 0),(.int .u8 0),(.int .u8 0),(.int .u8 0),(.int .u8 0),(.int .u8 0),(.int .u8 0),(.int .u8 0),(.int .u8 0),(.int .u8 0),(.int .u8 0),(.int .u8 0),(.int .u8 0),(.int .u8 0),(.int .u8 0),(.int .u8 0),(.int .u8 0),(.int .u8 0),(.int .u8 0),(.int .u8 0),(.int .u8 0),(.int .u8 0),(.int .u8 0),(.int .u8 0),(.int .u8 0),(.int .u8 0),(.int .u8 0),(.int .u8 0),(.int .i64 0),(.int .i64 0),(.int .i64 0),(.int .i64 0),(.int .u8 0),(.int .u8 0),(.int .u8 0),(.int .u8 0),(.int .u8 0),(.int .u8 0),(.int .u8 0),(.int .u8 0),(.int .u8 0),(.int .u8 0),(.int .u8 0),(.int .u8 0),(.int .u8 0),(.int .u8 0),(.int .u8 0),(.int .u8 0),(.int .u8 0),(.int .u8 0),(.int .u8 0),(.int .u8 0),(.int .u8 0),(.int .u8 0),(.int .u8 0),(.int .u8 0),(.int .u8 0),(.int .u8 0),(.int .u8 0),(.int .u8 0),(.int .u8 0),(.int .u8 0),(.int .u8 0),(.int .u8 0),(.slice none 0 0),(.int .i64 0),(.slice none 0 0),(.int .i64 0)] h) fun y6 h=>
 let g2_0:=h
 aa (pu (aM y3 7) g2_0) fun y7 g2_1=>
 aa (ld1 y7 g2_1) fun y8 g2_2=>
 aa (C 53 [y8] g2_2) fun y9 g2_3=>
 aa (pu (aM y3 8) g2_3) fun y10 g2_4=>
 aa (ld1 y10 g2_4) fun y11 g2_5=>
 aa (C 53 [y11] g2_5) fun y12 g2_6=>
 aa (some (x1,g2_6)) fun y13 g2_7=>
 aa (C 57 [y13] g2_7) fun y14 g2_8=>
 aa (some (x2,g2_8)) fun y15 g2_9=>
 aa (pu (ep [(.int .u8 0),(.int .i64 0),(.int .i64 0),(.int .u64 0),(.int .i64 0),(.int .i64 0),(.slice none 0 0),(.slice none 0 0),(.slice none 0 0),(.int .i64 0),(.int .u8 0),(.int .u8 0),(.int .u8 0),(.int .u8 0),(.int .u8 0),(.int .u8 0),(.int .u8 0),(.int .u8 0),(.int .u8 0),(.int .u8 0),(.int .u8 0),(.int .u8 0),(.int .u8 0),(.int .u8 0),(.int .u8 0),(.int .u8 0),(.int .u8 0),(.int .u8 0),(.int .u8 0),(.int .u8 0),(.int .u8 0),(.int .u8 0),(.int .u8 0),(.int .u8 0),(.int .u8 0),(.int .u8 0),(.int .u8 0),(.int .u8 0),(.int .u8 0),(.int .u8 0),(.int .u8 0),(.int .u8 0),(.slice none 0 0),(.bool false),(.int .u8 0),(.int .u8 0),(.int .u8 0),(.int .u8 0),(.int .u8 0),(.int .u8 0),(.int .u8 0),(.int .u8 0),(.int .u8 0),(.int .u8 0),(.int .u8 0),(.int .u8 0),(.int .u8 0),(.int .u8 0),(.int .u8 0),(.int .u8 0),(.int .u8 0),(.int .u8 0),(.int .u8 0),(.int .u8 0),(.int .u8 0),(.int .u8 0),(.int .u8 0),(.int .u8 0),(.int .u8 0),(.int .u8 0),(.int .u8 0),(.int .u8 0),(.int .u8 0),(.int .u8 0),(.int .u8 0),(.int .u8 0),(.int .i64 0),(.int .i64 0),(.int .i64 0),(.int .i64 0),(.int .u8 0),(.int .u8 0),(.int .u8 0),(.int .u8 0),(.int .u8 0),(.int .u8 0),(.int .u8 0),(.int .u8 0),(.int .u8 0),(.int .u8 0),(.int .u8 0),(.int .u8 0),(.int .u8 0),(.int .u8 0),(.int .u8 0),(.int .u8 0),(.int .u8 0),(.int .u8 0),(.int .u8 0),(.int .u8 0),(.int .u8 0),(.int .u8 0),(.int .u8 0),(.int .u8 0),(.int .u8 0),(.int .u8 0),(.int .u8 0),(.int .u8 0),(.int .u8 0),(.int .u8 0),(.int .u8 0),(.int .u8 0),(.slice none 0 0),(.int .i64 0),(.slice none 0 0),(.int .i64 0)] [(0,1,(.int .u8 5)),(7,1,y9),(8,1,y12),(42,1,y14),(43,1,y15)]) g2_9) fun y16 g2_10=>
 aa (fM 116 y6 y16 g2_10) fun _ g2_11=>
 (match (cm true (ld1 y10 g2_2) y11&&true) with
 |true=>
 let h:=g2_11
 ao Tryd.prog Tryd.f129.results.toList (aN 17 (up (bs [x0,x1,x2]) [(3,y3),(6,y6),(7,y7),(8,y8),(9,y9),(10,y10),(11,y11),(12,y12),(13,y13),(14,y14),(15,y15),(16,y16)])) h
 |false=>none)
theorem t129_eq (C:ae) (x0 x1 x2:Value) (h:ab):bx Tryd.prog C Tryd.f129 [x0,x1,x2] h=t129 C x0 x1 x2 h:=
 (aI Tryd.prog C Tryd.f129 [x0,x1,x2] h (by kernel_rfl)).trans (by kernel_rfl)
end Go.Proofs.YtdnahgfgoajmcaaDoor

namespace Go.Proofs.YtdnahgfgoajmcaaDoor
open Go Go.Abs
noncomputable def k13_15 (C:ae) (e:Env) (h:ab):Out:=bR Tryd.prog C (partOf Tryd.f13 [1,1,1,1,1,1,1,1,1,1]) e h (ao Tryd.prog Tryd.f13.results.toList) (ao Tryd.prog Tryd.f13.results.toList) (fun _ _ _=>none)
noncomputable def b13_17 (C:ae) (i:Nat) (e:Env) (h:ab):Out:=if i=0 then (k13_15 C) e h else (fun _ _ _=>none) i e h
noncomputable def k13_18 (C:ae) (e:Env) (h:ab):Out:=bR Tryd.prog C (partOf Tryd.f13 [1,1,1,1,1,1,1,1,1,1,1]) e h (ao Tryd.prog Tryd.f13.results.toList) (ao Tryd.prog Tryd.f13.results.toList) (fun _ _ _=>none)
noncomputable def b13_20 (C:ae) (i:Nat) (e:Env) (h:ab):Out:=if i=6 then (k13_18 C) e h else (fun _ _ _=>none) i e h
noncomputable def k13_23 (C:ae) (e:Env) (h:ab):Option (Ex×Env×ab):=bR Tryd.prog C (partOf Tryd.f13 [1,1,1,1,1,1,1,1,1,0,1,0,0,1,1]) e h (fun e h=>some (Ex.normal,e,h)) (fun e h=>some (Ex.ret,e,h)) (fun i e h=>some (Ex.exit i,e,h))
noncomputable def b13_24 (C:ae) (i:Nat) (e:Env) (h:ab):Option (Ex×Env×ab):=if i=1 then (k13_23 C) e h else (fun i e h=>some (Ex.exit i,e,h)) i e h
noncomputable def k13_26 (C:ae) (e:Env) (h:ab):Option (Ex×Env×ab):=bR Tryd.prog C (partOf Tryd.f13 [1,1,1,1,1,1,1,1,1,0,1,0,0,1,0,0,1,1]) e h (k13_23 C) (fun e h=>some (Ex.ret,e,h)) (b13_24 C)
noncomputable def b13_28 (C:ae) (i:Nat) (e:Env) (h:ab):Option (Ex×Env×ab):=if i=2 then (k13_26 C) e h else (b13_24 C) i e h
noncomputable def k13_32 (C:ae) (e:Env) (h:ab):Option (Ex×Env×ab):=bR Tryd.prog C (partOf Tryd.f13 [1,1,1,1,1,1,1,1,1,1,0,1,0,0,1,1]) e h (fun e h=>some (Ex.normal,e,h)) (fun e h=>some (Ex.ret,e,h)) (fun i e h=>some (Ex.exit i,e,h))
noncomputable def b13_33 (C:ae) (i:Nat) (e:Env) (h:ab):Option (Ex×Env×ab):=if i=7 then (k13_32 C) e h else (fun i e h=>some (Ex.exit i,e,h)) i e h
noncomputable def b13_35 (C:ae) (i:Nat) (e:Env) (h:ab):Option (Ex×Env×ab):=if i=8 then (k13_32 C) e h else (b13_33 C) i e h
noncomputable def b13_37 (C:ae) (i:Nat) (e:Env) (h:ab):Option (Ex×Env×ab):=if i=4 then (k13_23 C) e h else (b13_24 C) i e h
noncomputable def t13 (C:ae) (x0:Value) (h:ab):Out:=
 aa (some ((.bool false),h)) fun y2 h=>
 aa (some (x0,h)) fun y15 h=>
 aa (du 1 (.slice none 0 0) 1 [(0,y15)] h) fun y16 h=>
 aa (C 24 [y16] h) fun y17 h=>
 aa (pu (unA .not y17) h) fun y18 h=>
 (match y18 with
 | .bool true=>
 aa (C 14 [] h) fun y19 h=>
 aa (some (y19,h)) fun y2_1 h=>
 some (y2_1,h)
 | .bool false=>
 aa (C 15 [(.slice none 0 0)] h) fun y21 h=>
 aa (some (y21,h)) fun y20 h=>
 aa (pu (bf y20 0) h) fun y22 h=>
 aa (pu (bf y20 1) h) fun y23 h=>
 aa (some (y22,h)) fun y3 h=>
 aa (some (y23,h)) fun y4 h=>
 aa (some (y4,h)) fun y24 h=>
 aa (pu (bin Tryd.prog .neq 26 y24 (.int .i64 0)) h) fun y25 h=>
 (match y25 with
 | .bool true=>
 aa (some ((.bool false),h)) fun y2_1 h=>
 some (y2_1,h)
 | .bool false=>
 aa (some (x0,h)) fun y26 h=>
 aa (C 26 [y26] h) fun y27 h=>
 aa (some (y27,h)) fun y5 h=>
 aa (some (y3,h)) fun y28 h=>
 aa (some (y5,h)) fun y29 h=>
 aa (C 25 [y28,y29] h) fun y30 h=>
 aa (pu (bin Tryd.prog .neq 26 y30 (.int .i64 0)) h) fun y31 h=>
 (match y31 with
 | .bool true=>
 aa (some ((.bool false),h)) fun y2_1 h=>
 some (y2_1,h)
 | .bool false=>
 aa (some (y3,h)) fun y32 h=>
 aa (C 23 [y32] h) fun y33 h=>
 aa (some (y33,h)) fun y6 h=>
 aa (some (y5,h)) fun y34 h=>
 aa (some (y3,h)) fun y35 h=>
 aa (C 23 [y35] h) fun y36 h=>
 aa (some (y3,h)) fun y37 h=>
 aa (C 20 [y37,(.slice none 0 0),(.slice none 0 0)] h) fun y38 h=>
 aa (du 1 (.slice none 0 0) 3 [(0,y34),(1,y36),(2,y38)] h) fun y39 h=>
 aa (some (y39,h)) fun y7 h=>
 aa (some (y3,h)) fun y41 h=>
 aa (pu (ep [(.int .u8 0),(.int .i64 0),(.int .i64 0),(.int .u64 0),(.int .i64 0),(.int .i64 0),(.slice none 0 0),(.slice none 0 0),(.slice none 0 0),(.int .i64 0),(.int .u8 0),(.int .u8 0),(.int .u8 0),(.int .u8 0),(.int .u8 0),(.int .u8 0),(.int .u8 0),(.int .u8 0),(.int .u8 0),(.int .u8 0),(.int .u8 0),(.int .u8 0),(.int .u8 0),(.int .u8 0),(.int .u8 0),(.int .u8 0),(.int .u8 0),(.int .u8 0),(.int .u8 0),(.int .u8 0),(.int .u8 0),(.int .u8 0),(.int .u8 0),(.int .u8 0),(.int .u8 0),(.int .u8 0),(.int .u8 0),(.int .u8 0),(.int .u8 0),(.int .u8 0),(.int .u8 0),(.int .u8 0),(.slice none 0 0),(.bool false),(.int .u8 0),(.int .u8 0),(.int .u8 0),(.int .u8 0),(.int .u8 0),(.int .u8 0),(.int .u8 0),(.int .u8 0),(.int .u8 0),(.int .u8 0),(.int .u8 0),(.int .u8 0),(.int .u8 0),(.int .u8 0),(.int .u8 0),(.int .u8 0),(.int .u8 0),(.int .u8 0),(.int .u8 0),(.int .u8 0),(.int .u8 0),(.int .u8 0),(.int .u8 0),(.int .u8 0),(.int .u8 0),(.int .u8 0),(.int .u8 0),(.int .u8 0),(.int .u8 0),(.int .u8 0),(.int .u8 0),(.int .u8 0),(.int .i64 0),(.int .i64 0),(.int .i64 0),(.int .i64 0),(.int .u8 0),(.int .u8 0),(.int .u8 0),(.int .u8 0),(.int .u8 0),(.int .u8 0),(.int .u8 0),(.int .u8 0),(.int .u8 0),(.int .u8 0),(.int .u8 0),(.int .u8 0),(.int .u8 0),(.int .u8 0),(.int .u8 0),(.int .u8 0),(.int .u8 0),(.int .u8 0),(.int .u8 0),(.int .u8 0),(.int .u8 0),(.int .u8 0),(.int .u8 0),(.int .u8 0),(.int .u8 0),(.int .u8 0),(.int .u8 0),(.int .u8 0),(.int .u8 0),(.int .u8 0),(.int .u8 0),(.int .u8 0),(.slice none 0 0),(.int .i64 0),(.slice none 0 0),(.int .i64 0)] [(0,1,(.int .u8 4)),(9,1,(.int .i64 1048576))]) h) fun y42 h=>
 aa (C 50 [y41,y42] h) fun y43 h=>
 aa (some (y43,h)) fun y40 h=>
 aa (pu (bf y40 0) h) fun y44 h=>
 aa (pu (bf y40 1) h) fun y45 h=>
 aa (some (y44,h)) fun y8 h=>
 aa (some (y45,h)) fun y9 h=>
 aa (some ((.int .i64 0),h)) fun y10 h=>
 fC (iter (au Tryd.prog C (partOf Tryd.f13 [1,1,1,1,1,1,1,1,1,0,1,0,0])) rounds (aN 135 (up (bs [x0]) [(2,y2),(3,y3),(4,y4),(5,y5),(6,y6),(7,y7),(8,y8),(9,y9),(10,y10),(15,y15),(16,y16),(17,y17),(18,y18),(20,y20),(21,y21),(22,y22),(23,y23),(24,y24),(25,y25),(26,y26),(27,y27),(28,y28),(29,y29),(30,y30),(31,y31),(32,y32),(33,y33),(34,y34),(35,y35),(36,y36),(37,y37),(38,y38),(39,y39),(40,y40),(41,y41),(42,y42),(43,y43),(44,y44),(45,y45)])) h) (ao Tryd.prog Tryd.f13.results.toList) (b13_17 C)
 |_=>none)
 |_=>none)
 |_=>none)
noncomputable def t13k13_15 (C:ae) (x:Nat→Value) (h:ab):Out:=
 aa (some ((.int .i64 0),h)) fun y13 h=>
 fC (iter (au Tryd.prog C (partOf Tryd.f13 [1,1,1,1,1,1,1,1,1,1,0,1,0,0])) rounds (aN 135 (up x [(13,y13)])) h) (ao Tryd.prog Tryd.f13.results.toList) (b13_20 C)
noncomputable def fi (C:ae) (x:Nat→Value) (h:ab):Option (Ex×Env×ab):=
 aa (some ((x 10),h)) fun y46 h=>
 aa (some ((x 8),h)) fun y47 h=>
 aa (pu (cx y47) h) fun y48 h=>
 aa (pu (bin Tryd.prog .lss 3 y46 y48) h) fun y49 h=>
 (match y49 with
 | .bool true=>
 aa (some ((x 7),h)) fun y52 h=>
 aa (some ((x 8),h)) fun y53 h=>
 aa (some ((x 10),h)) fun y54 h=>
 aa (pu (cd 116 y53 y54) h) fun y55 h=>
 aa (pu (aM y55 42) h) fun y56 h=>
 aa (ld1 y56 h) fun y57 h=>
 aa (du 1 (.slice none 0 0) 1 [(0,y57)] h) fun y58 h=>
 aa (aO 1 24 y52 y58 h) fun y59 h=>
 aa (some (y59,h)) fun y7 h=>
 aa (some ((.int .i64 0),h)) fun y11 h=>
 fC (iter (au Tryd.prog C (partOf Tryd.f13 [1,1,1,1,1,1,1,1,1,0,1,0,0,1,0,0,1,0,1,0,0])) rounds (aN 135 (up x [(7,y7),(11,y11),(46,y46),(47,y47),(48,y48),(49,y49),(52,y52),(53,y53),(54,y54),(55,y55),(56,y56),(57,y57),(58,y58),(59,y59)])) h) (fun e h=>some (Ex.ret,e,h)) (b13_28 C)
 | .bool false=>
 some (.exit 0,(aN 135 (up x [(46,y46),(47,y47),(48,y48),(49,y49)])),h)
 |_=>none)
noncomputable def t13k13_18 (C:ae) (x:Nat→Value) (h:ab):Out:=
 aa (some ((x 3),h)) fun y122 h=>
 aa (C 23 [y122] h) fun y123 h=>
 aa (some ((x 6),h)) fun y124 h=>
 aa (C 19 [y123,y124] h) fun y125 h=>
 aa (some (y125,h)) fun y126 h=>
 aa (aJ (fj y126==some true) (some ((x 3),h)) h) fun y127 h=>
 aa (aJ (fj y126==some true) (C 20 [y127,(.slice none 0 0),(.slice none 0 0)] h) h) fun y128 h=>
 aa (aJ (fj y126==some true) (some ((x 6),h)) h) fun y129 h=>
 aa (aJ (fj y126==some true) (C 19 [y128,y129] h) h) fun y130 h=>
 aa (match y126 with | .bool t=>some (if t then y130 else (.bool false),h)|_=>none) fun y131 h=>
 aa (some (y131,h)) fun y132 h=>
 aa (aJ (fj y132==some true) (C 14 [] h) h) fun y133 h=>
 aa (match y132 with | .bool t=>some (if t then y133 else (.bool false),h)|_=>none) fun y134 h=>
 aa (some (y134,h)) fun y2 h=>
 some (y2,h)
noncomputable def eJ (C:ae) (x:Nat→Value) (h:ab):Option (Ex×Env×ab):=
 aa (some ((x 13),h)) fun y100 h=>
 aa (some ((x 7),h)) fun y101 h=>
 aa (pu (cx y101) h) fun y102 h=>
 aa (pu (bin Tryd.prog .lss 3 y100 y102) h) fun y103 h=>
 (match y103 with
 | .bool true=>
 aa (some ((.int .i64 0),h)) fun y14 h=>
 fC (iter (au Tryd.prog C (partOf Tryd.f13 [1,1,1,1,1,1,1,1,1,1,0,1,0,0,1,0,0,1,0,0])) rounds (aN 135 (up x [(14,y14),(100,y100),(101,y101),(102,y102),(103,y103)])) h) (fun e h=>some (Ex.ret,e,h)) (b13_35 C)
 | .bool false=>
 some (.exit 6,(aN 135 (up x [(100,y100),(101,y101),(102,y102),(103,y103)])),h)
 |_=>none)
noncomputable def t13k13_23 (_C:ae) (x:Nat→Value) (h:ab):Option (Ex×Env×ab):=
 aa (some ((x 10),h)) fun y50 h=>
 aa (pu (bin Tryd.prog .add 3 y50 (.int .i64 1)) h) fun y51 h=>
 aa (some (y51,h)) fun y10 h=>
 some (.normal,(aN 135 (up x [(10,y10),(50,y50),(51,y51)])),h)
noncomputable def t13k13_26 (C:ae) (x:Nat→Value) (h:ab):Option (Ex×Env×ab):=
 aa (some ((.int .i64 0),h)) fun y12 h=>
 fC (iter (au Tryd.prog C (partOf Tryd.f13 [1,1,1,1,1,1,1,1,1,0,1,0,0,1,0,0,1,1,1,0,0])) rounds (aN 135 (up x [(12,y12)])) h) (fun e h=>some (Ex.ret,e,h)) (b13_37 C)
noncomputable def cO (_C:ae) (x:Nat→Value) (h:ab):Option (Ex×Env×ab):=
 aa (some ((x 11),h)) fun y60 h=>
 aa (some ((x 8),h)) fun y61 h=>
 aa (some ((x 10),h)) fun y62 h=>
 aa (pu (cd 116 y61 y62) h) fun y63 h=>
 aa (pu (aM y63 7) h) fun y64 h=>
 aa (ld1 y64 h) fun y65 h=>
 aa (pu (cx y65) h) fun y66 h=>
 aa (pu (bin Tryd.prog .lss 3 y60 y66) h) fun y67 h=>
 (match y67 with
 | .bool true=>
 aa (some ((x 8),h)) fun y70 h=>
 aa (some ((x 10),h)) fun y71 h=>
 aa (pu (cd 116 y70 y71) h) fun y72 h=>
 aa (pu (aM y72 7) h) fun y73 h=>
 aa (ld1 y73 h) fun y74 h=>
 aa (some ((x 11),h)) fun y75 h=>
 aa (pu (cd 1 y74 y75) h) fun y76 h=>
 aa (ld1 y76 h) fun y77 h=>
 aa (pu (bin Tryd.prog .xor 5 y77 (.int .u8 255)) h) fun y78 h=>
 aa (pu (cd 1 y74 y75) h) fun y79 h=>
 aa (fM 1 y79 y78 h) fun _ h=>
 aa (some ((x 11),h)) fun y68 h=>
 aa (pu (bin Tryd.prog .add 3 y68 (.int .i64 1)) h) fun y69 h=>
 aa (some (y69,h)) fun y11 h=>
 some (.normal,(aN 135 (up x [(11,y11),(60,y60),(61,y61),(62,y62),(63,y63),(64,y64),(65,y65),(66,y66),(67,y67),(68,y68),(69,y69),(70,y70),(71,y71),(72,y72),(73,y73),(74,y74),(75,y75),(76,y76),(77,y77),(78,y78),(79,y79)])),h)
 | .bool false=>
 some (.exit 2,(aN 135 (up x [(60,y60),(61,y61),(62,y62),(63,y63),(64,y64),(65,y65),(66,y66),(67,y67)])),h)
 |_=>none)
noncomputable def t13k13_32 (_C:ae) (x:Nat→Value) (h:ab):Option (Ex×Env×ab):=
 aa (some ((x 13),h)) fun y104 h=>
 aa (pu (bin Tryd.prog .add 3 y104 (.int .i64 1)) h) fun y105 h=>
 aa (some (y105,h)) fun y13 h=>
 some (.normal,(aN 135 (up x [(13,y13),(104,y104),(105,y105)])),h)
noncomputable def de (_C:ae) (x:Nat→Value) (h:ab):Option (Ex×Env×ab):=
 aa (some ((x 14),h)) fun y106 h=>
 aa (some ((x 7),h)) fun y107 h=>
 aa (some ((x 13),h)) fun y108 h=>
 aa (pu (cd 1 y107 y108) h) fun y109 h=>
 aa (ld1 y109 h) fun y110 h=>
 aa (pu (cx y110) h) fun y111 h=>
 aa (pu (bin Tryd.prog .lss 3 y106 y111) h) fun y112 h=>
 (match y112 with
 | .bool true=>
 aa (some ((x 7),h)) fun y115 h=>
 aa (some ((x 13),h)) fun y116 h=>
 aa (pu (cd 1 y115 y116) h) fun y117 h=>
 aa (ld1 y117 h) fun y118 h=>
 aa (some ((x 14),h)) fun y119 h=>
 aa (pu (ep [(.int .u8 0),(.int .u8 0),(.int .u8 0),(.int .u8 0),(.int .u8 0),(.int .u8 0),(.int .u8 0),(.int .u8 0),(.int .u8 0),(.int .u8 0),(.int .u8 0),(.int .u8 0),(.int .u8 0),(.int .u8 0),(.int .u8 0),(.int .u8 0),(.int .u8 0),(.int .u8 0),(.int .u8 0),(.int .u8 0),(.int .u8 0),(.int .u8 0),(.int .u8 0),(.int .u8 0),(.int .u8 0),(.int .u8 0),(.int .u8 0),(.int .u8 0),(.int .u8 0),(.int .u8 0),(.int .u8 0),(.int .u8 0),(.int .u8 0),(.int .i64 0),(.int .u64 0),(.int .u64 0),(.bool false),(.int .i64 0),(.int .i64 0)] []) h) fun y120 h=>
 aa (pu (cd 39 y118 y119) h) fun y121 h=>
 aa (fM 39 y121 y120 h) fun _ h=>
 aa (some ((x 14),h)) fun y113 h=>
 aa (pu (bin Tryd.prog .add 3 y113 (.int .i64 1)) h) fun y114 h=>
 aa (some (y114,h)) fun y14 h=>
 some (.normal,(aN 135 (up x [(14,y14),(106,y106),(107,y107),(108,y108),(109,y109),(110,y110),(111,y111),(112,y112),(113,y113),(114,y114),(115,y115),(116,y116),(117,y117),(118,y118),(119,y119),(120,y120),(121,y121)])),h)
 | .bool false=>
 some (.exit 8,(aN 135 (up x [(106,y106),(107,y107),(108,y108),(109,y109),(110,y110),(111,y111),(112,y112)])),h)
 |_=>none)
noncomputable def cS (_C:ae) (x:Nat→Value) (h:ab):Option (Ex×Env×ab):=
 aa (some ((x 12),h)) fun y80 h=>
 aa (some ((x 8),h)) fun y81 h=>
 aa (some ((x 10),h)) fun y82 h=>
 aa (pu (cd 116 y81 y82) h) fun y83 h=>
 aa (pu (aM y83 8) h) fun y84 h=>
 aa (ld1 y84 h) fun y85 h=>
 aa (pu (cx y85) h) fun y86 h=>
 aa (pu (bin Tryd.prog .lss 3 y80 y86) h) fun y87 h=>
 (match y87 with
 | .bool true=>
 aa (some ((x 8),h)) fun y90 h=>
 aa (some ((x 10),h)) fun y91 h=>
 aa (pu (cd 116 y90 y91) h) fun y92 h=>
 aa (pu (aM y92 8) h) fun y93 h=>
 aa (ld1 y93 h) fun y94 h=>
 aa (some ((x 12),h)) fun y95 h=>
 aa (pu (cd 1 y94 y95) h) fun y96 h=>
 aa (ld1 y96 h) fun y97 h=>
 aa (pu (bin Tryd.prog .xor 5 y97 (.int .u8 255)) h) fun y98 h=>
 aa (pu (cd 1 y94 y95) h) fun y99 h=>
 aa (fM 1 y99 y98 h) fun _ h=>
 aa (some ((x 12),h)) fun y88 h=>
 aa (pu (bin Tryd.prog .add 3 y88 (.int .i64 1)) h) fun y89 h=>
 aa (some (y89,h)) fun y12 h=>
 some (.normal,(aN 135 (up x [(12,y12),(80,y80),(81,y81),(82,y82),(83,y83),(84,y84),(85,y85),(86,y86),(87,y87),(88,y88),(89,y89),(90,y90),(91,y91),(92,y92),(93,y93),(94,y94),(95,y95),(96,y96),(97,y97),(98,y98),(99,y99)])),h)
 | .bool false=>
 some (.exit 4,(aN 135 (up x [(80,y80),(81,y81),(82,y82),(83,y83),(84,y84),(85,y85),(86,y86),(87,y87)])),h)
 |_=>none)
theorem t13_eq (C:ae) (x0:Value) (h:ab):bx Tryd.prog C Tryd.f13 [x0] h=t13 C x0 h:=
 (aI Tryd.prog C Tryd.f13 [x0] h (by kernel_rfl)).trans (by kernel_rfl)
theorem t13k13_15_eq (C:ae) (x:Nat→Value) (h:ab):k13_15 C (aN 135 x) h=t13k13_15 C x h:=
 br (b:=(partOf Tryd.f13 [1,1,1,1,1,1,1,1,1,1])) (kE:=(ao Tryd.prog Tryd.f13.results.toList)) (rE:=(ao Tryd.prog Tryd.f13.results.toList)) (xE:=(fun _ _ _=>none)) (T:=t13k13_15 C) (fun x h=>by kernel_rfl) x h
theorem t13l13_111111111010_eq (C:ae) (x:Nat→Value) (h:ab):au Tryd.prog C (partOf Tryd.f13 [1,1,1,1,1,1,1,1,1,0,1,0,0]) (aN 135 x) h=fi C x h:=
 aE (T:=fi C) (fun x h=>by kernel_rfl) x h
theorem t13k13_18_eq (C:ae) (x:Nat→Value) (h:ab):k13_18 C (aN 135 x) h=t13k13_18 C x h:=
 br (b:=(partOf Tryd.f13 [1,1,1,1,1,1,1,1,1,1,1])) (kE:=(ao Tryd.prog Tryd.f13.results.toList)) (rE:=(ao Tryd.prog Tryd.f13.results.toList)) (xE:=(fun _ _ _=>none)) (T:=t13k13_18 C) (fun x h=>by kernel_rfl) x h
theorem t13l13_1111111111010_eq (C:ae) (x:Nat→Value) (h:ab):au Tryd.prog C (partOf Tryd.f13 [1,1,1,1,1,1,1,1,1,1,0,1,0,0]) (aN 135 x) h=eJ C x h:=
 aE (T:=eJ C) (fun x h=>by kernel_rfl) x h
theorem t13k13_23_eq (C:ae) (x:Nat→Value) (h:ab):k13_23 C (aN 135 x) h=t13k13_23 C x h:=
 br (b:=(partOf Tryd.f13 [1,1,1,1,1,1,1,1,1,0,1,0,0,1,1])) (kE:=(fun e h=>some (Ex.normal,e,h))) (rE:=(fun e h=>some (Ex.ret,e,h))) (xE:=(fun i e h=>some (Ex.exit i,e,h))) (T:=t13k13_23 C) (fun x h=>by kernel_rfl) x h
theorem t13k13_26_eq (C:ae) (x:Nat→Value) (h:ab):k13_26 C (aN 135 x) h=t13k13_26 C x h:=
 br (b:=(partOf Tryd.f13 [1,1,1,1,1,1,1,1,1,0,1,0,0,1,0,0,1,1])) (kE:=(k13_23 C)) (rE:=(fun e h=>some (Ex.ret,e,h))) (xE:=(b13_24 C)) (T:=t13k13_26 C) (fun x h=>by kernel_rfl) x h
theorem t13l13_11111111101001001010_eq (C:ae) (x:Nat→Value) (h:ab):au Tryd.prog C (partOf Tryd.f13 [1,1,1,1,1,1,1,1,1,0,1,0,0,1,0,0,1,0,1,0,0]) (aN 135 x) h=cO C x h:=
 aE (T:=cO C) (fun x h=>by kernel_rfl) x h
theorem t13k13_32_eq (C:ae) (x:Nat→Value) (h:ab):k13_32 C (aN 135 x) h=t13k13_32 C x h:=
 br (b:=(partOf Tryd.f13 [1,1,1,1,1,1,1,1,1,1,0,1,0,0,1,1])) (kE:=(fun e h=>some (Ex.normal,e,h))) (rE:=(fun e h=>some (Ex.ret,e,h))) (xE:=(fun i e h=>some (Ex.exit i,e,h))) (T:=t13k13_32 C) (fun x h=>by kernel_rfl) x h
theorem t13l13_1111111111010010010_eq (C:ae) (x:Nat→Value) (h:ab):au Tryd.prog C (partOf Tryd.f13 [1,1,1,1,1,1,1,1,1,1,0,1,0,0,1,0,0,1,0,0]) (aN 135 x) h=de C x h:=
 aE (T:=de C) (fun x h=>by kernel_rfl) x h
theorem t13l13_11111111101001001110_eq (C:ae) (x:Nat→Value) (h:ab):au Tryd.prog C (partOf Tryd.f13 [1,1,1,1,1,1,1,1,1,0,1,0,0,1,0,0,1,1,1,0,0]) (aN 135 x) h=cS C x h:=
 aE (T:=cS C) (fun x h=>by kernel_rfl) x h
end Go.Proofs.YtdnahgfgoajmcaaDoor

namespace Go.Proofs.YtdnahgfgoajmcaaDoor
open Go Go.Abs
end Go.Proofs.YtdnahgfgoajmcaaDoor

namespace Go.Proofs.YtdnahgfgoajmcaaDoor
open Go Go.Abs
end Go.Proofs.YtdnahgfgoajmcaaDoor

