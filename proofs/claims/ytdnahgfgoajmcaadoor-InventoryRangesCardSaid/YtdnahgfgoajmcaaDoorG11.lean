/-
  A part of the proof, spaces and names shortened by a program (a claim may hold 1,500,000 bytes).
  Conditions: as each theorem states.
-/
import Derived.Test.YtdnahgfgoajmcaaDoorG10
import Derived.Test.YtdnahgfgoajmcaaDoorProg
import Derived.KernelRfl
namespace Go.Proofs.YtdnahgfgoajmcaaDoor
open Go Go.Abs
noncomputable def k54_5 (C:ae) (e:Env) (h:ab):Out:=cj Tryd.prog C (partOf Tryd.f54 [1,1,1,1]) e h (aj Tryd.prog Tryd.f54.results.toList) (aj Tryd.prog Tryd.f54.results.toList) (fun _ _ _=>none)
noncomputable def b54_7 (C:ae) (i:Nat) (e:Env) (h:ab):Out:=if i=0 then (k54_5 C) e h else (fun _ _ _=>none) i e h
noncomputable def k54_9 (C:ae) (e:Env) (h:ab):Out:=cj Tryd.prog C (partOf Tryd.f54 [1,1,1,1,1,1]) e h (aj Tryd.prog Tryd.f54.results.toList) (aj Tryd.prog Tryd.f54.results.toList) (fun _ _ _=>none)
noncomputable def b54_11 (C:ae) (i:Nat) (e:Env) (h:ab):Out:=if i=4 then (k54_9 C) e h else (fun _ _ _=>none) i e h
noncomputable def k54_14 (C:ae) (e:Env) (h:ab):Option (Ex×Env×ab):=cj Tryd.prog C (partOf Tryd.f54 [1,1,1,0,1,0,0,1,1,1]) e h (fun e h=>some (Ex.normal,e,h)) (fun e h=>some (Ex.ret,e,h)) (fun i e h=>some (Ex.exit i,e,h))
noncomputable def b54_15 (C:ae) (i:Nat) (e:Env) (h:ab):Option (Ex×Env×ab):=if i=1 then (k54_14 C) e h else (fun i e h=>some (Ex.exit i,e,h)) i e h
noncomputable def k54_18 (C:ae) (e:Env) (h:ab):Option (Ex×Env×ab):=cj Tryd.prog C (partOf Tryd.f54 [1,1,1,0,1,0,0,1,1,0,0,1,1,1]) e h (k54_14 C) (fun e h=>some (Ex.ret,e,h)) (b54_15 C)
noncomputable def b54_20 (C:ae) (i:Nat) (e:Env) (h:ab):Option (Ex×Env×ab):=if i=2 then (k54_18 C) e h else (b54_15 C) i e h
noncomputable def t54 (C:ae) (x0:Value) (h:ab):Out:=
 aa (dJ (List.replicate 32 (.int .u8 0)) h) fun y2 h=>
 aa (some (x0,h)) fun y11 h=>
 aa (pu (cN y11) h) fun y12 h=>
 aa (pu (bin Tryd.prog .eql 3 y12 (.int .i64 0)) h) fun y13 h=>
 (match y13 with
 | .bool true=>
 aa (C 106 [(.slice none 0 0)] h) fun y14 h=>
 aa (eT 32 y2 y14 h) fun _ h=>
 aj Tryd.prog Tryd.f54.results.toList (aO 66 (up (bs [x0]) [(2,y2),(11,y11),(12,y12),(13,y13),(14,y14)])) h
 | .bool false=>
 aa (some ((.slice none 0 0),h)) fun y3 h=>
 aa (some (x0,h)) fun y15 h=>
 aa (pu (cN y15) h) fun y16 h=>
 aa (some ((.int .i64 0),h)) fun y17 h=>
 fl (iter (av Tryd.prog C (partOf Tryd.f54 [1,1,1,0,1,0,0])) rounds (aO 66 (up (bs [x0]) [(2,y2),(3,y3),(11,y11),(12,y12),(13,y13),(15,y15),(16,y16),(17,y17)])) h) (aj Tryd.prog Tryd.f54.results.toList) (b54_7 C)
 |_=>none)
noncomputable def t54k54_5 (C:ae) (x:Nat→Value) (h:ab):Out:=
 aa (some ((x 3),h)) fun y48 h=>
 aa (some ((x 3),h)) fun y49 h=>
 aa (pu (cN y49) h) fun y50 h=>
 aa (pu (bin Tryd.prog .sub 3 y50 (.int .i64 1)) h) fun y51 h=>
 aa (pu (df 32 y48 y51) h) fun y52 h=>
 aa (cT 32 y52 h) fun y53 h=>
 aa (dJ (List.replicate 32 (.int .u8 0)) h) fun y8 h=>
 aa (eT 32 y8 y53 h) fun _ h=>
 aa (some ((x 3),h)) fun y54 h=>
 aa (some ((x 3),h)) fun y55 h=>
 aa (pu (cN y55) h) fun y56 h=>
 aa (pu (bin Tryd.prog .sub 3 y56 (.int .i64 1)) h) fun y57 h=>
 aa (pu (slR 32 y54 none (some y57) none) h) fun y58 h=>
 aa (C 107 [y58] h) fun y59 h=>
 endN (av Tryd.prog C (partOf Tryd.f54 [1,1,1,1,1,0,1,0]) (aO 66 (up x [(8,y8),(48,y48),(49,y49),(50,y50),(51,y51),(52,y52),(53,y53),(54,y54),(55,y55),(56,y56),(57,y57),(58,y58),(59,y59)])) h) (k54_9 C) (aj Tryd.prog Tryd.f54.results.toList) (b54_11 C)
noncomputable def t54l54_111010 (C:ae) (x:Nat→Value) (h:ab):Option (Ex×Env×ab):=
 aa (pu (bin Tryd.prog .lss 3 (x 17) (x 16)) h) fun y18 h=>
 (match y18 with
 | .bool true=>
 aa (some ((x 17),h)) fun y19 h=>
 aa (pu (df 39 (x 15) (x 17)) h) fun y20 h=>
 aa (cT 39 y20 h) fun y21 h=>
 aa (dJ [(.int .u8 0),(.int .u8 0),(.int .u8 0),(.int .u8 0),(.int .u8 0),(.int .u8 0),(.int .u8 0),(.int .u8 0),(.int .u8 0),(.int .u8 0),(.int .u8 0),(.int .u8 0),(.int .u8 0),(.int .u8 0),(.int .u8 0),(.int .u8 0),(.int .u8 0),(.int .u8 0),(.int .u8 0),(.int .u8 0),(.int .u8 0),(.int .u8 0),(.int .u8 0),(.int .u8 0),(.int .u8 0),(.int .u8 0),(.int .u8 0),(.int .u8 0),(.int .u8 0),(.int .u8 0),(.int .u8 0),(.int .u8 0),(.int .u8 0),(.int .i64 0),(.int .u64 0),(.int .u64 0),(.bool false),(.int .i64 0),(.int .i64 0)] h) fun y5 h=>
 aa (some (y19,h)) fun y4 h=>
 aa (eT 39 y5 y21 h) fun _ h=>
 aa (cT 39 y5 h) fun y22 h=>
 aa (C 69 [y22] h) fun y23 h=>
 aa (dJ (List.replicate 32 (.int .u8 0)) h) fun y6 h=>
 aa (eT 32 y6 y23 h) fun _ h=>
 aa (some (y4,h)) fun y24 h=>
 aa (some (y24,h)) fun y7 h=>
 fl (iter (av Tryd.prog C (partOf Tryd.f54 [1,1,1,0,1,0,0,1,1,0,0,1,1,0,1,0,0])) rounds (aO 66 (up x [(4,y4),(5,y5),(6,y6),(7,y7),(18,y18),(19,y19),(20,y20),(21,y21),(22,y22),(23,y23),(24,y24)])) h) (fun e h=>some (Ex.ret,e,h)) (b54_20 C)
 | .bool false=>
 some (.exit 0,(aO 66 (up x [(18,y18)])),h)
 |_=>none)
noncomputable def t54k54_9 (_C:ae) (x:Nat→Value) (h:ab):Out:=
 aa (cT 32 (x 8) h) fun y65 h=>
 aa (eT 32 (x 2) y65 h) fun _ h=>
 aj Tryd.prog Tryd.f54.results.toList (aO 66 (up x [(65,y65)])) h
noncomputable def t54l54_11111010a (_C:ae) (x:Nat→Value) (h:ab):Option (Ex×Env×ab):=
 aa (dJ (List.replicate 32 (.int .u8 0)) h) fun y10 h=>
 aa (eT 32 y10 (x 61) h) fun _ h=>
 some (.normal,(aO 66 (up x [(10,y10)])),h)
noncomputable def t54l54_11111010b (C:ae) (x:Nat→Value) (h:ab):Option (Ex×Env×ab):=
 aa (cT 32 (x 10) h) fun y62 h=>
 aa (cT 32 (x 8) h) fun y63 h=>
 aa (C 70 [y62,y63] h) fun y64 h=>
 aa (eT 32 (x 8) y64 h) fun _ h=>
 some (.normal,(aO 66 (up x [(62,y62),(63,y63),(64,y64)])),h)
noncomputable def t54k54_14 (_C:ae) (x:Nat→Value) (h:ab):Option (Ex×Env×ab):=
 aa (pu (bin Tryd.prog .add 3 (x 17) (.int .i64 1)) h) fun y47 h=>
 aa (some (y47,h)) fun y17 h=>
 some (.normal,(aO 66 (up x [(17,y17),(47,y47)])),h)
noncomputable def t54k54_18 (C:ae) (x:Nat→Value) (h:ab):Option (Ex×Env×ab):=
 aa (some ((x 3),h)) fun y43 h=>
 aa (cT 32 (x 6) h) fun y44 h=>
 aa (cO 32 (.agg (List.replicate 32 (.int .u8 0)).toArray) 1 [(0,y44)] h) fun y45 h=>
 aa (aD 32 32 y43 y45 h) fun y46 h=>
 aa (some (y46,h)) fun y3 h=>
 k54_14 C (aO 66 (up x [(3,y3),(43,y43),(44,y44),(45,y45),(46,y46)])) h
noncomputable def dZ (C:ae) (x:Nat→Value) (h:ab):Option (Ex×Env×ab):=
 aa (some ((x 7),h)) fun y25 h=>
 aa (pu (bin Tryd.prog .and 3 y25 (.int .i64 1)) h) fun y26 h=>
 aa (pu (bin Tryd.prog .eql 3 y26 (.int .i64 1)) h) fun y27 h=>
 (match y27 with
 | .bool true=>
 aa (some ((x 3),h)) fun y30 h=>
 aa (some ((x 3),h)) fun y31 h=>
 aa (pu (cN y31) h) fun y32 h=>
 aa (pu (bin Tryd.prog .sub 3 y32 (.int .i64 1)) h) fun y33 h=>
 aa (pu (df 32 y30 y33) h) fun y34 h=>
 aa (cT 32 y34 h) fun y35 h=>
 aa (cT 32 (x 6) h) fun y36 h=>
 aa (C 70 [y35,y36] h) fun y37 h=>
 aa (eT 32 (x 6) y37 h) fun _ h=>
 aa (some ((x 3),h)) fun y38 h=>
 aa (some ((x 3),h)) fun y39 h=>
 aa (pu (cN y39) h) fun y40 h=>
 aa (pu (bin Tryd.prog .sub 3 y40 (.int .i64 1)) h) fun y41 h=>
 aa (pu (slR 32 y38 none (some y41) none) h) fun y42 h=>
 aa (some (y42,h)) fun y3 h=>
 aa (some ((x 7),h)) fun y28 h=>
 aa (pu (bin Tryd.prog .shr 3 y28 (.int .u64 1)) h) fun y29 h=>
 aa (some (y29,h)) fun y7 h=>
 some (.normal,(aO 66 (up x [(3,y3),(7,y7),(25,y25),(26,y26),(27,y27),(28,y28),(29,y29),(30,y30),(31,y31),(32,y32),(33,y33),(34,y34),(35,y35),(36,y36),(37,y37),(38,y38),(39,y39),(40,y40),(41,y41),(42,y42)])),h)
 | .bool false=>
 some (.exit 2,(aO 66 (up x [(25,y25),(26,y26),(27,y27)])),h)
 |_=>none)
theorem t54_eq (C:ae) (x0:Value) (h:ab):bw Tryd.prog C Tryd.f54 [x0] h=t54 C x0 h:=
 (aG Tryd.prog C Tryd.f54 [x0] h (by kernel_rfl)).trans (by kernel_rfl)
theorem t54k54_5_eq (C:ae) (x:Nat→Value) (h:ab):k54_5 C (aO 66 x) h=t54k54_5 C x h:=
 bk (b:=(partOf Tryd.f54 [1,1,1,1])) (kE:=(aj Tryd.prog Tryd.f54.results.toList)) (rE:=(aj Tryd.prog Tryd.f54.results.toList)) (xE:=(fun _ _ _=>none)) (T:=t54k54_5 C) (fun x h=>by kernel_rfl) x h
theorem t54l54_111010_eq (C:ae) (x:Nat→Value) (h:ab):av Tryd.prog C (partOf Tryd.f54 [1,1,1,0,1,0,0]) (aO 66 x) h=t54l54_111010 C x h:=
 aI (T:=t54l54_111010 C) (fun x h=>by kernel_rfl) x h
theorem t54k54_9_eq (C:ae) (x:Nat→Value) (h:ab):k54_9 C (aO 66 x) h=t54k54_9 C x h:=
 bk (b:=(partOf Tryd.f54 [1,1,1,1,1,1])) (kE:=(aj Tryd.prog Tryd.f54.results.toList)) (rE:=(aj Tryd.prog Tryd.f54.results.toList)) (xE:=(fun _ _ _=>none)) (T:=t54k54_9 C) (fun x h=>by kernel_rfl) x h
theorem t54l54_11111010a_eq (C:ae) (x:Nat→Value) (h:ab):av Tryd.prog C (rgA (partOf Tryd.f54 [1,1,1,1,1,0,1,0])) (aO 66 x) h=t54l54_11111010a C x h:=
 aI (T:=t54l54_11111010a C) (fun x h=>by kernel_rfl) x h
theorem t54l54_11111010b_eq (C:ae) (x:Nat→Value) (h:ab):av Tryd.prog C (rgB (partOf Tryd.f54 [1,1,1,1,1,0,1,0])) (aO 66 x) h=t54l54_11111010b C x h:=
 aI (T:=t54l54_11111010b C) (fun x h=>by kernel_rfl) x h
theorem t54k54_14_eq (C:ae) (x:Nat→Value) (h:ab):k54_14 C (aO 66 x) h=t54k54_14 C x h:=
 bk (b:=(partOf Tryd.f54 [1,1,1,0,1,0,0,1,1,1])) (kE:=(fun e h=>some (Ex.normal,e,h))) (rE:=(fun e h=>some (Ex.ret,e,h))) (xE:=(fun i e h=>some (Ex.exit i,e,h))) (T:=t54k54_14 C) (fun x h=>by kernel_rfl) x h
theorem t54k54_18_eq (C:ae) (x:Nat→Value) (h:ab):k54_18 C (aO 66 x) h=t54k54_18 C x h:=
 bk (b:=(partOf Tryd.f54 [1,1,1,0,1,0,0,1,1,0,0,1,1,1])) (kE:=(k54_14 C)) (rE:=(fun e h=>some (Ex.ret,e,h))) (xE:=(b54_15 C)) (T:=t54k54_18 C) (fun x h=>by kernel_rfl) x h
theorem t54l54_1110100110011010_eq (C:ae) (x:Nat→Value) (h:ab):av Tryd.prog C (partOf Tryd.f54 [1,1,1,0,1,0,0,1,1,0,0,1,1,0,1,0,0]) (aO 66 x) h=dZ C x h:=
 aI (T:=dZ C) (fun x h=>by kernel_rfl) x h
noncomputable def t107 (_C:ae) (x0:Value) (h:ab):Out:=
 aa (box x0 h) fun y1 h=>
 aa (some (.nilFunc,h)) fun _y2 h=>
 aa (some (.func (.func 135) #[] #[y1],h)) fun y3 h=>
 aa (some (y3,h)) fun y2_1 h=>
 some (y2_1,h)
theorem t107_eq (C:ae) (x0:Value) (h:ab):bw Tryd.prog C Tryd.f107 [x0] h=t107 C x0 h:=
 (aG Tryd.prog C Tryd.f107 [x0] h (by kernel_rfl)).trans (by kernel_rfl)
noncomputable def b135_1 (_C:ae) (i:Nat) (e:Env) (h:ab):Out:=if i=0 then (aj Tryd.prog Tryd.f135.results.toList) e h else (fun _ _ _=>none) i e h
noncomputable def t135 (C:ae) (x0 x1:Value) (h:ab):Out:=
 aa (ld1 x1 h) fun y4 h=>
 aa (pu (cN y4) h) fun y5 h=>
 aa (pu (bin Tryd.prog .sub 3 y5 (.int .i64 1)) h) fun y6 h=>
 aa (some (y6,h)) fun y3 h=>
 fl (iter (av Tryd.prog C (partOf Tryd.f135 [1,0,0])) rounds (aO 19 (up (bs [x0,x1]) [(3,y3),(4,y4),(5,y5),(6,y6)])) h) (aj Tryd.prog Tryd.f135.results.toList) (b135_1 C)
noncomputable def t135l135_10 (C:ae) (x:Nat→Value) (h:ab):Option (Ex×Env×ab):=
 aa (some ((x 3),h)) fun y7 h=>
 aa (pu (bin Tryd.prog .geq 3 y7 (.int .i64 0)) h) fun y8 h=>
 (match y8 with
 | .bool true=>
 aa (some ((x 0),h)) fun y11 h=>
 aa (some ((x 3),h)) fun y12 h=>
 aa (ld1 (x 1) h) fun y13 h=>
 aa (some ((x 3),h)) fun y14 h=>
 aa (pu (df 32 y13 y14) h) fun y15 h=>
 aa (cT 32 y15 h) fun y16 h=>
 aa (callA Tryd.prog C y11 [y12,y16] h) fun y17 h=>
 aa (pu (unA .not y17) h) fun y18 h=>
 (match y18 with
 | .bool true=>
 some (.ret,(aO 19 (up x [(7,y7),(8,y8),(11,y11),(12,y12),(13,y13),(14,y14),(15,y15),(16,y16),(17,y17),(18,y18)])),h)
 | .bool false=>
 aa (some ((x 3),h)) fun y9 h=>
 aa (pu (bin Tryd.prog .sub 3 y9 (.int .i64 1)) h) fun y10 h=>
 aa (some (y10,h)) fun y3 h=>
 some (.normal,(aO 19 (up x [(3,y3),(7,y7),(8,y8),(9,y9),(10,y10),(11,y11),(12,y12),(13,y13),(14,y14),(15,y15),(16,y16),(17,y17),(18,y18)])),h)
 |_=>none)
 | .bool false=>
 some (.exit 0,(aO 19 (up x [(7,y7),(8,y8)])),h)
 |_=>none)
theorem t135_eq (C:ae) (x0 x1:Value) (h:ab):bw Tryd.prog C Tryd.f135 [x0,x1] h=t135 C x0 x1 h:=
 (aG Tryd.prog C Tryd.f135 [x0,x1] h (by kernel_rfl)).trans (by kernel_rfl)
theorem t135l135_10_eq (C:ae) (x:Nat→Value) (h:ab):av Tryd.prog C (partOf Tryd.f135 [1,0,0]) (aO 19 x) h=t135l135_10 C x h:=
 aI (T:=t135l135_10 C) (fun x h=>by kernel_rfl) x h
noncomputable def t106 (C:ae) (x0:Value) (h:ab):Out:=
 aa (dJ (List.replicate 32 (.int .u8 0)) h) fun y2 h=>
 aa (C 121 [] h) fun y4 h=>
 aa (some (y4,h)) fun y3 h=>
 aa (some (y3,h)) fun y5 h=>
 aa (some (x0,h)) fun y6 h=>
 aa (C 122 [y5,y6] h) fun y7 h=>
 aa (some (y3,h)) fun y8 h=>
 aa (C 123 [y8] h) fun y9 h=>
 aa (eT 32 y2 y9 h) fun _ h=>
 aj Tryd.prog Tryd.f106.results.toList (aO 10 (up (bs [x0]) [(2,y2),(3,y3),(4,y4),(5,y5),(6,y6),(7,y7),(8,y8),(9,y9)])) h
theorem t106_eq (C:ae) (x0:Value) (h:ab):bw Tryd.prog C Tryd.f106 [x0] h=t106 C x0 h:=
 (aG Tryd.prog C Tryd.f106 [x0] h (by kernel_rfl)).trans (by kernel_rfl)
end Go.Proofs.YtdnahgfgoajmcaaDoor

namespace Go.Proofs.YtdnahgfgoajmcaaDoor
open Go Go.Abs
noncomputable def t60 (C:ae) (x0 x1:Value) (h:ab):Out:=
 aa (some ((.bool false),h)) fun _y4 h=>
 aa (some (x0,h)) fun y5 h=>
 aa (some (x1,h)) fun y6 h=>
 aa (C 113 [y5,y6] h) fun y7 h=>
 aa (pu (bin Tryd.prog .geq 3 y7 (.int .i64 0)) h) fun y8 h=>
 aa (some (y8,h)) fun y4_1 h=>
 some (y4_1,h)
theorem t60_eq (C:ae) (x0 x1:Value) (h:ab):bw Tryd.prog C Tryd.f60 [x0,x1] h=t60 C x0 x1 h:=
 (aG Tryd.prog C Tryd.f60 [x0,x1] h (by kernel_rfl)).trans (by kernel_rfl)
noncomputable def t26 (_C:ae) (x0:Value) (h:ab):Out:=
 aa (some ((.slice none 0 0),h)) fun _y2 h=>
 aa (cO 39 (.agg #[(.int .u8 0),(.int .u8 0),(.int .u8 0),(.int .u8 0),(.int .u8 0),(.int .u8 0),(.int .u8 0),(.int .u8 0),(.int .u8 0),(.int .u8 0),(.int .u8 0),(.int .u8 0),(.int .u8 0),(.int .u8 0),(.int .u8 0),(.int .u8 0),(.int .u8 0),(.int .u8 0),(.int .u8 0),(.int .u8 0),(.int .u8 0),(.int .u8 0),(.int .u8 0),(.int .u8 0),(.int .u8 0),(.int .u8 0),(.int .u8 0),(.int .u8 0),(.int .u8 0),(.int .u8 0),(.int .u8 0),(.int .u8 0),(.int .u8 0),(.int .i64 0),(.int .u64 0),(.int .u64 0),(.bool false),(.int .i64 0),(.int .i64 0)]) 0 [] h) fun y3 h=>
 aa (some (x0,h)) fun y4 h=>
 aa (aD 39 88 y3 y4 h) fun y5 h=>
 aa (some (y5,h)) fun y2_1 h=>
 some (y2_1,h)
theorem t26_eq (C:ae) (x0:Value) (h:ab):bw Tryd.prog C Tryd.f26 [x0] h=t26 C x0 h:=
 (aG Tryd.prog C Tryd.f26 [x0] h (by kernel_rfl)).trans (by kernel_rfl)
end Go.Proofs.YtdnahgfgoajmcaaDoor

namespace Go.Proofs.YtdnahgfgoajmcaaDoor
open Go Go.Abs
end Go.Proofs.YtdnahgfgoajmcaaDoor

namespace Go.Proofs.YtdnahgfgoajmcaaDoor
open Go Go.Abs
noncomputable def k113_1 (C:ae) (e:Env) (h:ab):Out:=cj Tryd.prog C (partOf Tryd.f113 [1,1]) e h (aj Tryd.prog Tryd.f113.results.toList) (aj Tryd.prog Tryd.f113.results.toList) (fun _ _ _=>none)
noncomputable def b113_3 (C:ae) (i:Nat) (e:Env) (h:ab):Out:=if i=0 then (k113_1 C) e h else (fun _ _ _=>none) i e h
noncomputable def t113 (C:ae) (x0 x1:Value) (h:ab):Out:=
 aa (some ((.int .i64 0),h)) fun y4 h=>
 aa (some (x0,h)) fun y6 h=>
 aa (pu (cN y6) h) fun y7 h=>
 aa (some ((.int .i64 0),h)) fun y8 h=>
 fl (iter (av Tryd.prog C (partOf Tryd.f113 [1,0,1,0,0])) rounds (aO 19 (up (bs [x0,x1]) [(4,y4),(6,y6),(7,y7),(8,y8)])) h) (aj Tryd.prog Tryd.f113.results.toList) (b113_3 C)
noncomputable def t113k113_1 (_C:ae) (_x:Nat→Value) (h:ab):Out:=
 aa (some ((.int .i64 (-1)),h)) fun y4 h=>
 some (y4,h)
noncomputable def t113l113_1010 (C:ae) (x:Nat→Value) (h:ab):Option (Ex×Env×ab):=
 aa (pu (bin Tryd.prog .lss 3 (x 8) (x 7)) h) fun y9 h=>
 (match y9 with
 | .bool true=>
 aa (some ((x 8),h)) fun y10 h=>
 aa (some (y10,h)) fun y5 h=>
 aa (some ((x 1),h)) fun y11 h=>
 aa (some ((x 0),h)) fun y12 h=>
 aa (some (y5,h)) fun y13 h=>
 aa (pu (df 39 y12 y13) h) fun y14 h=>
 aa (cT 39 y14 h) fun y15 h=>
 aa (callA Tryd.prog C y11 [y15] h) fun y16 h=>
 (match y16 with
 | .bool true=>
 aa (some (y5,h)) fun y17 h=>
 aa (some (y17,h)) fun y4 h=>
 some (.ret,(aO 19 (up x [(4,y4),(5,y5),(9,y9),(10,y10),(11,y11),(12,y12),(13,y13),(14,y14),(15,y15),(16,y16),(17,y17)])),h)
 | .bool false=>
 aa (pu (bin Tryd.prog .add 3 (x 8) (.int .i64 1)) h) fun y18 h=>
 aa (some (y18,h)) fun y8 h=>
 some (.normal,(aO 19 (up x [(5,y5),(8,y8),(9,y9),(10,y10),(11,y11),(12,y12),(13,y13),(14,y14),(15,y15),(16,y16),(18,y18)])),h)
 |_=>none)
 | .bool false=>
 some (.exit 0,(aO 19 (up x [(9,y9)])),h)
 |_=>none)
theorem t113_eq (C:ae) (x0 x1:Value) (h:ab):bw Tryd.prog C Tryd.f113 [x0,x1] h=t113 C x0 x1 h:=
 (aG Tryd.prog C Tryd.f113 [x0,x1] h (by kernel_rfl)).trans (by kernel_rfl)
theorem t113k113_1_eq (C:ae) (x:Nat→Value) (h:ab):k113_1 C (aO 19 x) h=t113k113_1 C x h:=
 bk (b:=(partOf Tryd.f113 [1,1])) (kE:=(aj Tryd.prog Tryd.f113.results.toList)) (rE:=(aj Tryd.prog Tryd.f113.results.toList)) (xE:=(fun _ _ _=>none)) (T:=t113k113_1 C) (fun x h=>by kernel_rfl) x h
theorem t113l113_1010_eq (C:ae) (x:Nat→Value) (h:ab):av Tryd.prog C (partOf Tryd.f113 [1,0,1,0,0]) (aO 19 x) h=t113l113_1010 C x h:=
 aI (T:=t113l113_1010 C) (fun x h=>by kernel_rfl) x h
end Go.Proofs.YtdnahgfgoajmcaaDoor

namespace Go.Proofs.YtdnahgfgoajmcaaDoor
open Go Go.Abs
noncomputable def b25_5 (_C:ae) (i:Nat) (e:Env) (h:ab):Option (Ex×Env×ab):=if i=0 then (fun e h=>some (Ex.normal,e,h)) e h else (fun i e h=>some (Ex.exit i,e,h)) i e h
noncomputable def k25_19 (C:ae) (e:Env) (h:ab):Option (Ex×Env×ab):=cj Tryd.prog C (partOf Tryd.f25 [1,1,1,1,0,1,0,0,1,1,1]) e h (fun e h=>some (Ex.normal,e,h)) (fun e h=>some (Ex.ret,e,h)) (fun i e h=>some (Ex.exit i,e,h))
noncomputable def b25_20 (C:ae) (i:Nat) (e:Env) (h:ab):Option (Ex×Env×ab):=if i=1 then (k25_19 C) e h else (fun i e h=>some (Ex.exit i,e,h)) i e h
noncomputable def b25_23 (C:ae) (i:Nat) (e:Env) (h:ab):Option (Ex×Env×ab):=if i=2 then (k25_19 C) e h else (b25_20 C) i e h
noncomputable def t25p25_0 (_C:ae) (x:Nat→Value) (h:ab):Option (Ex×Env×ab):=
 aa (some ((.int .i64 0),h)) fun y4 h=>
 some (.normal,(aO 103 (up x [(4,y4)])),h)
noncomputable def t25p25_10 (_C:ae) (x:Nat→Value) (h:ab):Option (Ex×Env×ab):=
 aa (some ((x 0),h)) fun y18 h=>
 aa (pu (bin Tryd.prog .eql 25 y18 (.pointer none)) h) fun y19 h=>
 (match y19 with
 | .bool true=>
 aa (some ((.int .i64 1),h)) fun y4 h=>
 some (.ret,(aO 103 (up x [(4,y4),(18,y18),(19,y19)])),h)
 | .bool false=>
 some (.normal,(aO 103 (up x [(18,y18),(19,y19)])),h)
 |_=>none)
noncomputable def t25p25_110 (C:ae) (x:Nat→Value) (h:ab):Option (Ex×Env×ab):=
 aa (some ((x 1),h)) fun y20 h=>
 aa (C 60 [y20,(.func (.func 61) #[] #[])] h) fun y21 h=>
 (match y21 with
 | .bool true=>
 aa (some ((.int .i64 2),h)) fun y4 h=>
 some (.ret,(aO 103 (up x [(4,y4),(20,y20),(21,y21)])),h)
 | .bool false=>
 some (.normal,(aO 103 (up x [(20,y20),(21,y21)])),h)
 |_=>none)
noncomputable def t25p25_1110 (_C:ae) (x:Nat→Value) (h:ab):Option (Ex×Env×ab):=
 aa (fX none Tryd.prog 98 h) fun y22 h=>
 aa (some (y22,h)) fun y5 h=>
 some (.normal,(aO 103 (up x [(5,y5),(22,y22)])),h)
noncomputable def gP (C:ae) (x:Nat→Value) (h:ab):Option (Ex×Env×ab):=
 aa (some ((x 0),h)) fun y23 h=>
 aa (pu (aN y23) h) fun y24 h=>
 aa (pu (aL y24 0) h) fun y25 h=>
 aa (ld1 y25 h) fun y26 h=>
 aa (some ((x 1),h)) fun y27 h=>
 aa (cO 1 (.slice none 0 0) 2 [(0,y26),(1,y27)] h) fun y28 h=>
 aa (pu (cN y28) h) fun y29 h=>
 aa (some ((.int .i64 0),h)) fun y30 h=>
 fl (iter (av Tryd.prog C (partOf Tryd.f25 [1,1,1,1,0,1,0,0])) rounds (aO 103 (up x [(23,y23),(24,y24),(25,y25),(26,y26),(27,y27),(28,y28),(29,y29),(30,y30)])) h) (fun e h=>some (Ex.ret,e,h)) (b25_5 C)
noncomputable def t25p25_111110 (_C:ae) (x:Nat→Value) (h:ab):Option (Ex×Env×ab):=
 aa (cO 39 (.agg #[(.int .u8 0),(.int .u8 0),(.int .u8 0),(.int .u8 0),(.int .u8 0),(.int .u8 0),(.int .u8 0),(.int .u8 0),(.int .u8 0),(.int .u8 0),(.int .u8 0),(.int .u8 0),(.int .u8 0),(.int .u8 0),(.int .u8 0),(.int .u8 0),(.int .u8 0),(.int .u8 0),(.int .u8 0),(.int .u8 0),(.int .u8 0),(.int .u8 0),(.int .u8 0),(.int .u8 0),(.int .u8 0),(.int .u8 0),(.int .u8 0),(.int .u8 0),(.int .u8 0),(.int .u8 0),(.int .u8 0),(.int .u8 0),(.int .u8 0),(.int .i64 0),(.int .u64 0),(.int .u64 0),(.bool false),(.int .i64 0),(.int .i64 0)]) 0 [] h) fun y61 h=>
 aa (some (y61,h)) fun y12 h=>
 some (.normal,(aO 103 (up x [(12,y12),(61,y61)])),h)
noncomputable def t25p25_11111100 (_C:ae) (x:Nat→Value) (h:ab):Option (Ex×Env×ab):=
 aa (some ((x 5),h)) fun y62 h=>
 aa (rangeA Tryd.prog 98 y62 h) fun y63 h=>
 some (.normal,(aO 103 (up x [(62,y62),(63,y63)])),h)
noncomputable def eJ (_C:ae) (x:Nat→Value) (h:ab):Option (Ex×Env×ab):=
 (match (x 65) with
 | .bool true=>
 aa (entryA (x 63) h) fun y66 h=>
 aa (pu (bm y66 0) h) fun y67 h=>
 aa (pu (bm y66 1) h) fun y68 h=>
 aa (dJ [(.int .u8 0),(.int .u8 0),(.int .u8 0),(.int .u8 0),(.int .u8 0),(.int .u8 0),(.int .u8 0),(.int .u8 0),(.int .u8 0),(.int .u8 0),(.int .u8 0),(.int .u8 0),(.int .u8 0),(.int .u8 0),(.int .u8 0),(.int .u8 0),(.int .u8 0),(.int .u8 0),(.int .u8 0),(.int .u8 0),(.int .u8 0),(.int .u8 0),(.int .u8 0),(.int .u8 0),(.int .u8 0),(.int .u8 0),(.int .u8 0),(.int .u8 0),(.int .u8 0),(.int .u8 0),(.int .u8 0),(.int .u8 0),(.int .u8 0),(.int .i64 0)] h) fun y13 h=>
 aa (dJ [(.int .u8 0),(.int .u8 0),(.int .u8 0),(.int .u8 0),(.int .u8 0),(.int .u8 0),(.int .u8 0),(.int .u8 0),(.int .u8 0),(.int .u8 0),(.int .u8 0),(.int .u8 0),(.int .u8 0),(.int .u8 0),(.int .u8 0),(.int .u8 0),(.int .u8 0),(.int .u8 0),(.int .u8 0),(.int .u8 0),(.int .u8 0),(.int .u8 0),(.int .u8 0),(.int .u8 0),(.int .u8 0),(.int .u8 0),(.int .u8 0),(.int .u8 0),(.int .u8 0),(.int .u8 0),(.int .u8 0),(.int .u8 0),(.int .u8 0),(.int .i64 0),(.int .u64 0),(.int .u64 0),(.bool false),(.int .i64 0),(.int .i64 0)] h) fun y14 h=>
 aa (eT 34 y13 y67 h) fun _ h=>
 aa (eT 39 y14 y68 h) fun _ h=>
 aa (pu (aL y13 0) h) fun y69 h=>
 aa (ld1 y69 h) fun y70 h=>
 aa (pu (bin Tryd.prog .eql 56 y70 (.int .u8 3)) h) fun y71 h=>
 (match y71 with
 | .bool true=>
 aa (some ((x 5),h)) fun y72 h=>
 aa (pu (aL y13 33) h) fun y73 h=>
 aa (ld1 y73 h) fun y74 h=>
 aa (pu (eW [(.int .u8 0),(.int .u8 0),(.int .u8 0),(.int .u8 0),(.int .u8 0),(.int .u8 0),(.int .u8 0),(.int .u8 0),(.int .u8 0),(.int .u8 0),(.int .u8 0),(.int .u8 0),(.int .u8 0),(.int .u8 0),(.int .u8 0),(.int .u8 0),(.int .u8 0),(.int .u8 0),(.int .u8 0),(.int .u8 0),(.int .u8 0),(.int .u8 0),(.int .u8 0),(.int .u8 0),(.int .u8 0),(.int .u8 0),(.int .u8 0),(.int .u8 0),(.int .u8 0),(.int .u8 0),(.int .u8 0),(.int .u8 0),(.int .u8 0),(.int .i64 0)] [(0,1,(.int .u8 1)),(33,1,y74)]) h) fun y75 h=>
 aa (fk Tryd.prog 98 y72 y75 false h) fun y76 h=>
 aa (dJ [(.int .u8 0),(.int .u8 0),(.int .u8 0),(.int .u8 0),(.int .u8 0),(.int .u8 0),(.int .u8 0),(.int .u8 0),(.int .u8 0),(.int .u8 0),(.int .u8 0),(.int .u8 0),(.int .u8 0),(.int .u8 0),(.int .u8 0),(.int .u8 0),(.int .u8 0),(.int .u8 0),(.int .u8 0),(.int .u8 0),(.int .u8 0),(.int .u8 0),(.int .u8 0),(.int .u8 0),(.int .u8 0),(.int .u8 0),(.int .u8 0),(.int .u8 0),(.int .u8 0),(.int .u8 0),(.int .u8 0),(.int .u8 0),(.int .u8 0),(.int .i64 0),(.int .u64 0),(.int .u64 0),(.bool false),(.int .i64 0),(.int .i64 0)] h) fun y15 h=>
 aa (eT 39 y15 y76 h) fun _ h=>
 aa (some ((x 5),h)) fun y78 h=>
 aa (pu (aL y13 1) h) fun y79 h=>
 aa (cT 32 y79 h) fun y80 h=>
 aa (pu (eW [(.int .u8 0),(.int .u8 0),(.int .u8 0),(.int .u8 0),(.int .u8 0),(.int .u8 0),(.int .u8 0),(.int .u8 0),(.int .u8 0),(.int .u8 0),(.int .u8 0),(.int .u8 0),(.int .u8 0),(.int .u8 0),(.int .u8 0),(.int .u8 0),(.int .u8 0),(.int .u8 0),(.int .u8 0),(.int .u8 0),(.int .u8 0),(.int .u8 0),(.int .u8 0),(.int .u8 0),(.int .u8 0),(.int .u8 0),(.int .u8 0),(.int .u8 0),(.int .u8 0),(.int .u8 0),(.int .u8 0),(.int .u8 0),(.int .u8 0),(.int .i64 0)] [(0,1,(.int .u8 2)),(1,32,y80)]) h) fun y81 h=>
 aa (fk Tryd.prog 98 y78 y81 true h) fun y82 h=>
 aa (some (y82,h)) fun y77 h=>
 aa (pu (bm y77 0) h) fun y83 h=>
 aa (pu (bm y77 1) h) fun y84 h=>
 aa (dJ [(.int .u8 0),(.int .u8 0),(.int .u8 0),(.int .u8 0),(.int .u8 0),(.int .u8 0),(.int .u8 0),(.int .u8 0),(.int .u8 0),(.int .u8 0),(.int .u8 0),(.int .u8 0),(.int .u8 0),(.int .u8 0),(.int .u8 0),(.int .u8 0),(.int .u8 0),(.int .u8 0),(.int .u8 0),(.int .u8 0),(.int .u8 0),(.int .u8 0),(.int .u8 0),(.int .u8 0),(.int .u8 0),(.int .u8 0),(.int .u8 0),(.int .u8 0),(.int .u8 0),(.int .u8 0),(.int .u8 0),(.int .u8 0),(.int .u8 0),(.int .i64 0),(.int .u64 0),(.int .u64 0),(.bool false),(.int .i64 0),(.int .i64 0)] h) fun y16 h=>
 aa (eT 39 y16 y83 h) fun _ h=>
 aa (some (y84,h)) fun y17 h=>
 aa (some (y17,h)) fun y85 h=>
 aa (some (y85,h)) fun y86 h=>
 aa (ai (aR y86==some false) (pu (aL y14 34) h) h) fun y87 h=>
 aa (ai (aR y86==some false) (ld1 y87 h) h) fun y88 h=>
 aa (ai (aR y86==some false) (pu (aL y15 34) h) h) fun y89 h=>
 aa (ai (aR y86==some false) (ld1 y89 h) h) fun y90 h=>
 aa (ai (aR y86==some false) (pu (bin Tryd.prog .lss 32 y88 y90) h) h) fun y91 h=>
 aa (match y86 with | .bool t=>some (if t then (.bool true) else y91,h)|_=>none) fun y92 h=>
 (match y92 with
 | .bool true=>
 some (.normal,(aO 103 (up x [(13,y13),(14,y14),(15,y15),(16,y16),(17,y17),(66,y66),(67,y67),(68,y68),(69,y69),(70,y70),(71,y71),(72,y72),(73,y73),(74,y74),(75,y75),(76,y76),(77,y77),(78,y78),(79,y79),(80,y80),(81,y81),(82,y82),(83,y83),(84,y84),(85,y85),(86,y86),(87,y87),(88,y88),(89,y89),(90,y90),(91,y91),(92,y92)])),h)
 | .bool false=>
 aa (some ((x 12),h)) fun y93 h=>
 aa (cT 39 y14 h) fun y94 h=>
 aa (cO 39 (.agg #[(.int .u8 0),(.int .u8 0),(.int .u8 0),(.int .u8 0),(.int .u8 0),(.int .u8 0),(.int .u8 0),(.int .u8 0),(.int .u8 0),(.int .u8 0),(.int .u8 0),(.int .u8 0),(.int .u8 0),(.int .u8 0),(.int .u8 0),(.int .u8 0),(.int .u8 0),(.int .u8 0),(.int .u8 0),(.int .u8 0),(.int .u8 0),(.int .u8 0),(.int .u8 0),(.int .u8 0),(.int .u8 0),(.int .u8 0),(.int .u8 0),(.int .u8 0),(.int .u8 0),(.int .u8 0),(.int .u8 0),(.int .u8 0),(.int .u8 0),(.int .i64 0),(.int .u64 0),(.int .u64 0),(.bool false),(.int .i64 0),(.int .i64 0)]) 1 [(0,y94)] h) fun y95 h=>
 aa (aD 39 88 y93 y95 h) fun y96 h=>
 aa (some (y96,h)) fun y12 h=>
 some (.normal,(aO 103 (up x [(12,y12),(13,y13),(14,y14),(15,y15),(16,y16),(17,y17),(66,y66),(67,y67),(68,y68),(69,y69),(70,y70),(71,y71),(72,y72),(73,y73),(74,y74),(75,y75),(76,y76),(77,y77),(78,y78),(79,y79),(80,y80),(81,y81),(82,y82),(83,y83),(84,y84),(85,y85),(86,y86),(87,y87),(88,y88),(89,y89),(90,y90),(91,y91),(92,y92),(93,y93),(94,y94),(95,y95),(96,y96)])),h)
 |_=>none)
 | .bool false=>
 aa (some ((x 12),h)) fun y93 h=>
 aa (cT 39 y14 h) fun y94 h=>
 aa (cO 39 (.agg #[(.int .u8 0),(.int .u8 0),(.int .u8 0),(.int .u8 0),(.int .u8 0),(.int .u8 0),(.int .u8 0),(.int .u8 0),(.int .u8 0),(.int .u8 0),(.int .u8 0),(.int .u8 0),(.int .u8 0),(.int .u8 0),(.int .u8 0),(.int .u8 0),(.int .u8 0),(.int .u8 0),(.int .u8 0),(.int .u8 0),(.int .u8 0),(.int .u8 0),(.int .u8 0),(.int .u8 0),(.int .u8 0),(.int .u8 0),(.int .u8 0),(.int .u8 0),(.int .u8 0),(.int .u8 0),(.int .u8 0),(.int .u8 0),(.int .u8 0),(.int .i64 0),(.int .u64 0),(.int .u64 0),(.bool false),(.int .i64 0),(.int .i64 0)]) 1 [(0,y94)] h) fun y95 h=>
 aa (aD 39 88 y93 y95 h) fun y96 h=>
 aa (some (y96,h)) fun y12 h=>
 some (.normal,(aO 103 (up x [(12,y12),(13,y13),(14,y14),(66,y66),(67,y67),(68,y68),(69,y69),(70,y70),(71,y71),(93,y93),(94,y94),(95,y95),(96,y96)])),h)
 |_=>none)
 | .bool false=>
 some (.exit 4,(aO 103 (up x [])),h)
 |_=>none)
noncomputable def t25p25_1111111 (C:ae) (x:Nat→Value) (h:ab):Option (Ex×Env×ab):=
 aa (some ((x 12),h)) fun y97 h=>
 aa (C 64 [y97,(.func (.func 65) #[] #[])] h) fun y98 h=>
 aa (some ((x 0),h)) fun y99 h=>
 aa (some ((x 12),h)) fun y100 h=>
 aa (pu (aN y99) h) fun y101 h=>
 aa (pu (aL y101 0) h) fun y102 h=>
 aa (eT 1 y102 y100 h) fun _ h=>
 aa (some ((.int .i64 0),h)) fun y4 h=>
 some (.ret,(aO 103 (up x [(4,y4),(97,y97),(98,y98),(99,y99),(100,y100),(101,y101),(102,y102)])),h)
noncomputable def t25l25_1111010 (C:ae) (x:Nat→Value) (h:ab):Option (Ex×Env×ab):=
 aa (pu (bin Tryd.prog .lss 3 (x 30) (x 29)) h) fun y31 h=>
 (match y31 with
 | .bool true=>
 aa (pu (df 1 (x 28) (x 30)) h) fun y32 h=>
 aa (ld1 y32 h) fun y33 h=>
 aa (some (y33,h)) fun y7 h=>
 aa (some (y7,h)) fun y34 h=>
 aa (pu (cN y34) h) fun y35 h=>
 aa (some ((.int .i64 0),h)) fun y36 h=>
 fl (iter (av Tryd.prog C (partOf Tryd.f25 [1,1,1,1,0,1,0,0,1,1,0,0,1,1,0,0])) rounds (aO 103 (up x [(7,y7),(31,y31),(32,y32),(33,y33),(34,y34),(35,y35),(36,y36)])) h) (fun e h=>some (Ex.ret,e,h)) (b25_23 C)
 | .bool false=>
 some (.exit 0,(aO 103 (up x [(31,y31)])),h)
 |_=>none)
noncomputable def t25k25_19 (_C:ae) (x:Nat→Value) (h:ab):Option (Ex×Env×ab):=
 aa (pu (bin Tryd.prog .add 3 (x 30) (.int .i64 1)) h) fun y60 h=>
 aa (some (y60,h)) fun y30 h=>
 some (.normal,(aO 103 (up x [(30,y30),(60,y60)])),h)
noncomputable def eE (C:ae) (x:Nat→Value) (h:ab):Option (Ex×Env×ab):=
 aa (pu (bin Tryd.prog .lss 3 (x 36) (x 35)) h) fun y37 h=>
 (match y37 with
 | .bool true=>
 aa (pu (df 39 (x 34) (x 36)) h) fun y38 h=>
 aa (cT 39 y38 h) fun y39 h=>
 aa (dJ [(.int .u8 0),(.int .u8 0),(.int .u8 0),(.int .u8 0),(.int .u8 0),(.int .u8 0),(.int .u8 0),(.int .u8 0),(.int .u8 0),(.int .u8 0),(.int .u8 0),(.int .u8 0),(.int .u8 0),(.int .u8 0),(.int .u8 0),(.int .u8 0),(.int .u8 0),(.int .u8 0),(.int .u8 0),(.int .u8 0),(.int .u8 0),(.int .u8 0),(.int .u8 0),(.int .u8 0),(.int .u8 0),(.int .u8 0),(.int .u8 0),(.int .u8 0),(.int .u8 0),(.int .u8 0),(.int .u8 0),(.int .u8 0),(.int .u8 0),(.int .i64 0),(.int .u64 0),(.int .u64 0),(.bool false),(.int .i64 0),(.int .i64 0)] h) fun y9 h=>
 aa (eT 39 y9 y39 h) fun _ h=>
 aa (some ((x 5),h)) fun y41 h=>
 aa (cT 39 y9 h) fun y42 h=>
 aa (C 62 [y42] h) fun y43 h=>
 aa (fk Tryd.prog 98 y41 y43 true h) fun y44 h=>
 aa (some (y44,h)) fun y40 h=>
 aa (pu (bm y40 0) h) fun y45 h=>
 aa (pu (bm y40 1) h) fun y46 h=>
 aa (dJ [(.int .u8 0),(.int .u8 0),(.int .u8 0),(.int .u8 0),(.int .u8 0),(.int .u8 0),(.int .u8 0),(.int .u8 0),(.int .u8 0),(.int .u8 0),(.int .u8 0),(.int .u8 0),(.int .u8 0),(.int .u8 0),(.int .u8 0),(.int .u8 0),(.int .u8 0),(.int .u8 0),(.int .u8 0),(.int .u8 0),(.int .u8 0),(.int .u8 0),(.int .u8 0),(.int .u8 0),(.int .u8 0),(.int .u8 0),(.int .u8 0),(.int .u8 0),(.int .u8 0),(.int .u8 0),(.int .u8 0),(.int .u8 0),(.int .u8 0),(.int .i64 0),(.int .u64 0),(.int .u64 0),(.bool false),(.int .i64 0),(.int .i64 0)] h) fun y10 h=>
 aa (eT 39 y10 y45 h) fun _ h=>
 aa (some (y46,h)) fun y11 h=>
 aa (some (y11,h)) fun y47 h=>
 aa (pu (unA .not y47) h) fun y48 h=>
 aa (some (y48,h)) fun y49 h=>
 aa (ai (aR y49==some false) (cT 39 y9 h) h) fun y50 h=>
 aa (ai (aR y49==some false) (cT 39 y10 h) h) fun y51 h=>
 aa (ai (aR y49==some false) (C 63 [y50,y51] h) h) fun y52 h=>
 aa (ai (aR y49==some false) (pu (bin Tryd.prog .gtr 3 y52 (.int .i64 0)) h) h) fun y53 h=>
 aa (match y49 with | .bool t=>some (if t then (.bool true) else y53,h)|_=>none) fun y54 h=>
 (match y54 with
 | .bool true=>
 let g31_0:=h
 aa (some ((x 5),g31_0)) fun y55 g31_1=>
 aa (cT 39 y9 g31_1) fun y56 g31_2=>
 aa (C 62 [y56] g31_2) fun y57 g31_3=>
 aa (cT 39 y9 g31_3) fun y58 g31_4=>
 aa (dF Tryd.prog 98 y55 y57 y58 g31_4) fun _ g31_5=>
 (match (bN true (cT 39 y9 g31_2) y58&&true) with
 |true=>
 let h:=g31_5
 aa (pu (bin Tryd.prog .add 3 (x 36) (.int .i64 1)) h) fun y59 h=>
 aa (some (y59,h)) fun y36 h=>
 some (.normal,(aO 103 (up x [(9,y9),(10,y10),(11,y11),(36,y36),(37,y37),(38,y38),(39,y39),(40,y40),(41,y41),(42,y42),(43,y43),(44,y44),(45,y45),(46,y46),(47,y47),(48,y48),(49,y49),(50,y50),(51,y51),(52,y52),(53,y53),(54,y54),(55,y55),(56,y56),(57,y57),(58,y58),(59,y59)])),h)
 |false=>none)
 | .bool false=>
 aa (pu (bin Tryd.prog .add 3 (x 36) (.int .i64 1)) h) fun y59 h=>
 aa (some (y59,h)) fun y36 h=>
 some (.normal,(aO 103 (up x [(9,y9),(10,y10),(11,y11),(36,y36),(37,y37),(38,y38),(39,y39),(40,y40),(41,y41),(42,y42),(43,y43),(44,y44),(45,y45),(46,y46),(47,y47),(48,y48),(49,y49),(50,y50),(51,y51),(52,y52),(53,y53),(54,y54),(59,y59)])),h)
 |_=>none)
 | .bool false=>
 some (.exit 2,(aO 103 (up x [(37,y37)])),h)
 |_=>none)
theorem t25p25_0_eq (C:ae) (x:Nat→Value) (h:ab):av Tryd.prog C (partOf Tryd.f25 [0]) (aO 103 x) h=t25p25_0 C x h:=
 aI (T:=t25p25_0 C) (fun x h=>by kernel_rfl) x h
theorem t25p25_10_eq (C:ae) (x:Nat→Value) (h:ab):av Tryd.prog C (partOf Tryd.f25 [1,0]) (aO 103 x) h=t25p25_10 C x h:=
 aI (T:=t25p25_10 C) (fun x h=>by kernel_rfl) x h
theorem t25p25_110_eq (C:ae) (x:Nat→Value) (h:ab):av Tryd.prog C (partOf Tryd.f25 [1,1,0]) (aO 103 x) h=t25p25_110 C x h:=
 aI (T:=t25p25_110 C) (fun x h=>by kernel_rfl) x h
theorem t25p25_1110_eq (C:ae) (x:Nat→Value) (h:ab):av Tryd.prog C (partOf Tryd.f25 [1,1,1,0]) (aO 103 x) h=t25p25_1110 C x h:=
 aI (T:=t25p25_1110 C) (fun x h=>by kernel_rfl) x h
theorem t25p25_11110_eq (C:ae) (x:Nat→Value) (h:ab):av Tryd.prog C (partOf Tryd.f25 [1,1,1,1,0]) (aO 103 x) h=gP C x h:=
 aI (T:=gP C) (fun x h=>by kernel_rfl) x h
theorem t25p25_111110_eq (C:ae) (x:Nat→Value) (h:ab):av Tryd.prog C (partOf Tryd.f25 [1,1,1,1,1,0]) (aO 103 x) h=t25p25_111110 C x h:=
 aI (T:=t25p25_111110 C) (fun x h=>by kernel_rfl) x h
theorem t25p25_11111100_eq (C:ae) (x:Nat→Value) (h:ab):av Tryd.prog C (partOf Tryd.f25 [1,1,1,1,1,1,0,0]) (aO 103 x) h=t25p25_11111100 C x h:=
 aI (T:=t25p25_11111100 C) (fun x h=>by kernel_rfl) x h
theorem t25p25_11111101001_eq (C:ae) (x:Nat→Value) (h:ab):av Tryd.prog C (partOf Tryd.f25 [1,1,1,1,1,1,0,1,0,0,1]) (aO 103 x) h=eJ C x h:=
 aI (T:=eJ C) (fun x h=>by kernel_rfl) x h
theorem t25p25_1111111_eq (C:ae) (x:Nat→Value) (h:ab):av Tryd.prog C (partOf Tryd.f25 [1,1,1,1,1,1,1]) (aO 103 x) h=t25p25_1111111 C x h:=
 aI (T:=t25p25_1111111 C) (fun x h=>by kernel_rfl) x h
theorem t25l25_1111010_eq (C:ae) (x:Nat→Value) (h:ab):av Tryd.prog C (partOf Tryd.f25 [1,1,1,1,0,1,0,0]) (aO 103 x) h=t25l25_1111010 C x h:=
 aI (T:=t25l25_1111010 C) (fun x h=>by kernel_rfl) x h
theorem t25k25_19_eq (C:ae) (x:Nat→Value) (h:ab):k25_19 C (aO 103 x) h=t25k25_19 C x h:=
 bk (b:=(partOf Tryd.f25 [1,1,1,1,0,1,0,0,1,1,1])) (kE:=(fun e h=>some (Ex.normal,e,h))) (rE:=(fun e h=>some (Ex.ret,e,h))) (xE:=(fun i e h=>some (Ex.exit i,e,h))) (T:=t25k25_19 C) (fun x h=>by kernel_rfl) x h
theorem t25l25_111101001100110_eq (C:ae) (x:Nat→Value) (h:ab):av Tryd.prog C (partOf Tryd.f25 [1,1,1,1,0,1,0,0,1,1,0,0,1,1,0,0]) (aO 103 x) h=eE C x h:=
 aI (T:=eE C) (fun x h=>by kernel_rfl) x h
noncomputable def t61 (C:ae) (x0:Value) (h:ab):Out:=
 aa (box x0 h) fun y1 h=>
 aa (some ((.bool false),h)) fun _y2 h=>
 aa (cT 39 y1 h) fun y3 h=>
 aa (C 42 [y3] h) fun y4 h=>
 aa (pu (unA .not y4) h) fun y5 h=>
 aa (some (y5,h)) fun y2_1 h=>
 some (y2_1,h)
theorem t61_eq (C:ae) (x0:Value) (h:ab):bw Tryd.prog C Tryd.f61 [x0] h=t61 C x0 h:=
 (aG Tryd.prog C Tryd.f61 [x0] h (by kernel_rfl)).trans (by kernel_rfl)
noncomputable def t57 (_C:ae) (x0:Value) (h:ab):Out:=
 aa (some ((.slice none 0 0),h)) fun _y2 h=>
 aa (some (x0,h)) fun y3 h=>
 aa (pu (bin Tryd.prog .eql 22 y3 (.slice none 0 0)) h) fun y4 h=>
 (match y4 with
 | .bool true=>
 aa (some ((.slice none 0 0),h)) fun y2_1 h=>
 some (y2_1,h)
 | .bool false=>
 aa (cO 39 (.agg #[(.int .u8 0),(.int .u8 0),(.int .u8 0),(.int .u8 0),(.int .u8 0),(.int .u8 0),(.int .u8 0),(.int .u8 0),(.int .u8 0),(.int .u8 0),(.int .u8 0),(.int .u8 0),(.int .u8 0),(.int .u8 0),(.int .u8 0),(.int .u8 0),(.int .u8 0),(.int .u8 0),(.int .u8 0),(.int .u8 0),(.int .u8 0),(.int .u8 0),(.int .u8 0),(.int .u8 0),(.int .u8 0),(.int .u8 0),(.int .u8 0),(.int .u8 0),(.int .u8 0),(.int .u8 0),(.int .u8 0),(.int .u8 0),(.int .u8 0),(.int .i64 0),(.int .u64 0),(.int .u64 0),(.bool false),(.int .i64 0),(.int .i64 0)]) 0 [] h) fun y5 h=>
 aa (some (x0,h)) fun y6 h=>
 aa (aD 39 88 y5 y6 h) fun y7 h=>
 aa (some (y7,h)) fun y2_1 h=>
 some (y2_1,h)
 |_=>none)
theorem t57_eq (C:ae) (x0:Value) (h:ab):bw Tryd.prog C Tryd.f57 [x0] h=t57 C x0 h:=
 (aG Tryd.prog C Tryd.f57 [x0] h (by kernel_rfl)).trans (by kernel_rfl)
noncomputable def t15 (C:ae) (x0:Value) (h:ab):Out:=
 aa (some ((.pointer none),h)) fun _y2 h=>
 aa (some ((.int .i64 0),h)) fun _y3 h=>
 aa (C 33 [] h) fun y5 h=>
 aa (some (y5,h)) fun y4 h=>
 aa (some (y4,h)) fun y6 h=>
 aa (pu (bin Tryd.prog .eql 25 y6 (.pointer none)) h) fun y7 h=>
 (match y7 with
 | .bool true=>
 aa (some ((.pointer none),h)) fun y2_1 h=>
 aa (some ((.int .i64 1),h)) fun y3_1 h=>
 some (.tuple #[y2_1,y3_1],h)
 | .bool false=>
 aa (some (y4,h)) fun y8 h=>
 aa (some (y4,h)) fun y9 h=>
 aa (some (x0,h)) fun y10 h=>
 aa (C 26 [y10] h) fun y11 h=>
 aa (C 25 [y9,y11] h) fun y12 h=>
 aa (some (y8,h)) fun y2_1 h=>
 aa (some (y12,h)) fun y3_1 h=>
 some (.tuple #[y2_1,y3_1],h)
 |_=>none)
theorem t15_eq (C:ae) (x0:Value) (h:ab):bw Tryd.prog C Tryd.f15 [x0] h=t15 C x0 h:=
 (aG Tryd.prog C Tryd.f15 [x0] h (by kernel_rfl)).trans (by kernel_rfl)
noncomputable def t33 (_C:ae) (h:ab):Out:=
 aa (some ((.pointer none),h)) fun _y0 h=>
 aa (pu (eW [(.slice none 0 0)] []) h) fun y1 h=>
 aa (box y1 h) fun y2 h=>
 aa (some (y2,h)) fun y0_1 h=>
 some (y0_1,h)
theorem t33_eq (C:ae) (h:ab):bw Tryd.prog C Tryd.f33 [] h=t33 C h:=
 (aG Tryd.prog C Tryd.f33 [] h (by kernel_rfl)).trans (by kernel_rfl)
noncomputable def t23 (C:ae) (x0:Value) (h:ab):Out:=
 aa (some ((.slice none 0 0),h)) fun _y2 h=>
 aa (some (x0,h)) fun y3 h=>
 aa (pu (bin Tryd.prog .eql 25 y3 (.pointer none)) h) fun y4 h=>
 (match y4 with
 | .bool true=>
 aa (some ((.slice none 0 0),h)) fun y2_1 h=>
 some (y2_1,h)
 | .bool false=>
 aa (some (x0,h)) fun y5 h=>
 aa (pu (aN y5) h) fun y6 h=>
 aa (pu (aL y6 0) h) fun y7 h=>
 aa (ld1 y7 h) fun y8 h=>
 aa (C 57 [y8] h) fun y9 h=>
 aa (some (y9,h)) fun y2_1 h=>
 some (y2_1,h)
 |_=>none)
theorem t23_eq (C:ae) (x0:Value) (h:ab):bw Tryd.prog C Tryd.f23 [x0] h=t23 C x0 h:=
 (aG Tryd.prog C Tryd.f23 [x0] h (by kernel_rfl)).trans (by kernel_rfl)
end Go.Proofs.YtdnahgfgoajmcaaDoor

namespace Go.Proofs.YtdnahgfgoajmcaaDoor
open Go Go.Abs
noncomputable def t65 (C:ae) (x0 x1:Value) (h:ab):Out:=
 aa (box x0 h) fun y2 h=>
 aa (box x1 h) fun y3 h=>
 aa (some ((.int .i64 0),h)) fun _y4 h=>
 let g2_0:=h
 aa (cT 39 y2 g2_0) fun y5 g2_1=>
 aa (C 67 [y5] g2_1) fun y6 g2_2=>
 aa (cT 39 y3 g2_2) fun y7 g2_3=>
 aa (C 67 [y7] g2_3) fun y8 g2_4=>
 aa (C 66 [y6,y8] g2_4) fun y9 g2_5=>
 aa (some (y9,g2_5)) fun y4_1 g2_6=>
 (match (bN true (cT 39 y3 g2_1) y7&&true) with
 |true=>
 let h:=g2_6
 some (y4_1,h)
 |false=>none)
theorem t65_eq (C:ae) (x0 x1:Value) (h:ab):bw Tryd.prog C Tryd.f65 [x0,x1] h=t65 C x0 x1 h:=
 (aG Tryd.prog C Tryd.f65 [x0,x1] h (by kernel_rfl)).trans (by kernel_rfl)
noncomputable def t66 (C:ae) (x0 x1:Value) (h:ab):Out:=
 aa (some ((.int .i64 0),h)) fun _y4 h=>
 aa (some (x0,h)) fun y5 h=>
 aa (some (x1,h)) fun y6 h=>
 aa (C 119 [y5,y6] h) fun y7 h=>
 aa (some (y7,h)) fun y4_1 h=>
 some (y4_1,h)
theorem t66_eq (C:ae) (x0 x1:Value) (h:ab):bw Tryd.prog C Tryd.f66 [x0,x1] h=t66 C x0 x1 h:=
 (aG Tryd.prog C Tryd.f66 [x0,x1] h (by kernel_rfl)).trans (by kernel_rfl)
end Go.Proofs.YtdnahgfgoajmcaaDoor

namespace Go.Proofs.YtdnahgfgoajmcaaDoor
open Go Go.Abs
noncomputable def k19_4 (C:ae) (e:Env) (h:ab):Out:=cj Tryd.prog C (partOf Tryd.f19 [1,1,1]) e h (aj Tryd.prog Tryd.f19.results.toList) (aj Tryd.prog Tryd.f19.results.toList) (fun _ _ _=>none)
noncomputable def b19_6 (C:ae) (i:Nat) (e:Env) (h:ab):Out:=if i=0 then (k19_4 C) e h else (fun _ _ _=>none) i e h
noncomputable def t19 (C:ae) (x0 x1:Value) (h:ab):Out:=
 aa (some ((.bool false),h)) fun y4 h=>
 aa (some (x0,h)) fun y6 h=>
 aa (pu (cN y6) h) fun y7 h=>
 aa (some (x1,h)) fun y8 h=>
 aa (pu (cN y8) h) fun y9 h=>
 aa (pu (bin Tryd.prog .neq 3 y7 y9) h) fun y10 h=>
 (match y10 with
 | .bool true=>
 aa (some ((.bool false),h)) fun y4_1 h=>
 some (y4_1,h)
 | .bool false=>
 aa (some ((.int .i64 0),h)) fun y5 h=>
 fl (iter (av Tryd.prog C (partOf Tryd.f19 [1,1,0,1,0,0])) rounds (aO 26 (up (bs [x0,x1]) [(4,y4),(5,y5),(6,y6),(7,y7),(8,y8),(9,y9),(10,y10)])) h) (aj Tryd.prog Tryd.f19.results.toList) (b19_6 C)
 |_=>none)
noncomputable def t19k19_4 (_C:ae) (_x:Nat→Value) (h:ab):Out:=
 aa (some ((.bool true),h)) fun y4 h=>
 some (y4,h)
noncomputable def t19l19_11010 (_C:ae) (x:Nat→Value) (h:ab):Option (Ex×Env×ab):=
 aa (some ((x 5),h)) fun y11 h=>
 aa (some ((x 0),h)) fun y12 h=>
 aa (pu (cN y12) h) fun y13 h=>
 aa (pu (bin Tryd.prog .lss 3 y11 y13) h) fun y14 h=>
 (match y14 with
 | .bool true=>
 aa (some ((x 0),h)) fun y17 h=>
 aa (some ((x 5),h)) fun y18 h=>
 aa (pu (df 39 y17 y18) h) fun y19 h=>
 aa (cT 39 y19 h) fun y20 h=>
 aa (some ((x 1),h)) fun y21 h=>
 aa (some ((x 5),h)) fun y22 h=>
 aa (pu (df 39 y21 y22) h) fun y23 h=>
 aa (cT 39 y23 h) fun y24 h=>
 aa (pu (bin Tryd.prog .neq 58 y20 y24) h) fun y25 h=>
 (match y25 with
 | .bool true=>
 aa (some ((.bool false),h)) fun y4 h=>
 some (.ret,(aO 26 (up x [(4,y4),(11,y11),(12,y12),(13,y13),(14,y14),(17,y17),(18,y18),(19,y19),(20,y20),(21,y21),(22,y22),(23,y23),(24,y24),(25,y25)])),h)
 | .bool false=>
 aa (some ((x 5),h)) fun y15 h=>
 aa (pu (bin Tryd.prog .add 3 y15 (.int .i64 1)) h) fun y16 h=>
 aa (some (y16,h)) fun y5 h=>
 some (.normal,(aO 26 (up x [(5,y5),(11,y11),(12,y12),(13,y13),(14,y14),(15,y15),(16,y16),(17,y17),(18,y18),(19,y19),(20,y20),(21,y21),(22,y22),(23,y23),(24,y24),(25,y25)])),h)
 |_=>none)
 | .bool false=>
 some (.exit 0,(aO 26 (up x [(11,y11),(12,y12),(13,y13),(14,y14)])),h)
 |_=>none)
theorem t19_eq (C:ae) (x0 x1:Value) (h:ab):bw Tryd.prog C Tryd.f19 [x0,x1] h=t19 C x0 x1 h:=
 (aG Tryd.prog C Tryd.f19 [x0,x1] h (by kernel_rfl)).trans (by kernel_rfl)
theorem t19k19_4_eq (C:ae) (x:Nat→Value) (h:ab):k19_4 C (aO 26 x) h=t19k19_4 C x h:=
 bk (b:=(partOf Tryd.f19 [1,1,1])) (kE:=(aj Tryd.prog Tryd.f19.results.toList)) (rE:=(aj Tryd.prog Tryd.f19.results.toList)) (xE:=(fun _ _ _=>none)) (T:=t19k19_4 C) (fun x h=>by kernel_rfl) x h
theorem t19l19_11010_eq (C:ae) (x:Nat→Value) (h:ab):av Tryd.prog C (partOf Tryd.f19 [1,1,0,1,0,0]) (aO 26 x) h=t19l19_11010 C x h:=
 aI (T:=t19l19_11010 C) (fun x h=>by kernel_rfl) x h
end Go.Proofs.YtdnahgfgoajmcaaDoor

namespace Go.Proofs.YtdnahgfgoajmcaaDoor
open Go Go.Abs
end Go.Proofs.YtdnahgfgoajmcaaDoor

namespace Go.Proofs.YtdnahgfgoajmcaaDoor
open Go Go.Abs
end Go.Proofs.YtdnahgfgoajmcaaDoor

namespace Go.Proofs.YtdnahgfgoajmcaaDoor
open Go Go.Abs
end Go.Proofs.YtdnahgfgoajmcaaDoor

namespace Go.Proofs.YtdnahgfgoajmcaaDoor
open Go Go.Abs
end Go.Proofs.YtdnahgfgoajmcaaDoor

namespace Go.Proofs.YtdnahgfgoajmcaaDoor
open Go Go.Abs
noncomputable def t56 (C:ae) (x0 x1:Value) (h:ab):Out:=
 aa (box x0 h) fun y2 h=>
 aa (box x1 h) fun y3 h=>
 aa (some ((.int .i64 0),h)) fun _y4 h=>
 aa (ld1 y2 h) fun y5 h=>
 aa (pu (aN y5) h) fun y6 h=>
 aa (pu (aL y6 0) h) fun y7 h=>
 aa (ld1 y7 h) fun y8 h=>
 aa (pu (cN y8) h) fun y9 h=>
 aa (some (.func (.func 112) #[] #[y2,y3],h)) fun y10 h=>
 aa (C 111 [y9,y10] h) fun y11 h=>
 aa (some (y11,h)) fun y4_1 h=>
 some (y4_1,h)
theorem t56_eq (C:ae) (x0 x1:Value) (h:ab):bw Tryd.prog C Tryd.f56 [x0,x1] h=t56 C x0 x1 h:=
 (aG Tryd.prog C Tryd.f56 [x0,x1] h (by kernel_rfl)).trans (by kernel_rfl)
noncomputable def k111_2 (C:ae) (e:Env) (h:ab):Out:=cj Tryd.prog C (partOf Tryd.f111 [1,1,1]) e h (aj Tryd.prog Tryd.f111.results.toList) (aj Tryd.prog Tryd.f111.results.toList) (fun _ _ _=>none)
noncomputable def b111_3 (C:ae) (i:Nat) (e:Env) (h:ab):Out:=if i=0 then (k111_2 C) e h else (fun _ _ _=>none) i e h
noncomputable def t111 (C:ae) (x0 x1:Value) (h:ab):Out:=
 aa (some ((.int .i64 0),h)) fun y4 h=>
 aa (some (x0,h)) fun y8 h=>
 aa (some ((.int .i64 0),h)) fun y5 h=>
 aa (some (y8,h)) fun y6 h=>
 fl (iter (av Tryd.prog C (partOf Tryd.f111 [1,1,0,0,0])) rounds (aO 26 (up (bs [x0,x1]) [(4,y4),(5,y5),(6,y6),(8,y8)])) h) (aj Tryd.prog Tryd.f111.results.toList) (b111_3 C)
noncomputable def t111k111_2 (_C:ae) (x:Nat→Value) (h:ab):Out:=
 aa (some ((x 5),h)) fun y25 h=>
 aa (some (y25,h)) fun y4 h=>
 some (y4,h)
noncomputable def t111l111_1100 (C:ae) (x:Nat→Value) (h:ab):Option (Ex×Env×ab):=
 aa (some ((x 5),h)) fun y9 h=>
 aa (some ((x 6),h)) fun y10 h=>
 aa (pu (bin Tryd.prog .lss 3 y9 y10) h) fun y11 h=>
 (match y11 with
 | .bool true=>
 aa (some ((x 5),h)) fun y12 h=>
 aa (some ((x 6),h)) fun y13 h=>
 aa (pu (bin Tryd.prog .add 3 y12 y13) h) fun y14 h=>
 aa (cvI .u64 y14 h) fun y15 h=>
 aa (pu (bin Tryd.prog .shr 111 y15 (.int .u64 1)) h) fun y16 h=>
 aa (cvI .i64 y16 h) fun y17 h=>
 aa (some (y17,h)) fun y7 h=>
 aa (some ((x 1),h)) fun y18 h=>
 aa (some (y7,h)) fun y19 h=>
 aa (callA Tryd.prog C y18 [y19] h) fun y20 h=>
 aa (pu (unA .not y20) h) fun y21 h=>
 (match y21 with
 | .bool true=>
 aa (some (y7,h)) fun y22 h=>
 aa (pu (bin Tryd.prog .add 3 y22 (.int .i64 1)) h) fun y23 h=>
 aa (some (y23,h)) fun y5 h=>
 some (.normal,(aO 26 (up x [(5,y5),(7,y7),(9,y9),(10,y10),(11,y11),(12,y12),(13,y13),(14,y14),(15,y15),(16,y16),(17,y17),(18,y18),(19,y19),(20,y20),(21,y21),(22,y22),(23,y23)])),h)
 | .bool false=>
 aa (some (y7,h)) fun y24 h=>
 aa (some (y24,h)) fun y6 h=>
 some (.normal,(aO 26 (up x [(6,y6),(7,y7),(9,y9),(10,y10),(11,y11),(12,y12),(13,y13),(14,y14),(15,y15),(16,y16),(17,y17),(18,y18),(19,y19),(20,y20),(21,y21),(24,y24)])),h)
 |_=>none)
 | .bool false=>
 some (.exit 0,(aO 26 (up x [(9,y9),(10,y10),(11,y11)])),h)
 |_=>none)
theorem t111_eq (C:ae) (x0 x1:Value) (h:ab):bw Tryd.prog C Tryd.f111 [x0,x1] h=t111 C x0 x1 h:=
 (aG Tryd.prog C Tryd.f111 [x0,x1] h (by kernel_rfl)).trans (by kernel_rfl)
theorem t111k111_2_eq (C:ae) (x:Nat→Value) (h:ab):k111_2 C (aO 26 x) h=t111k111_2 C x h:=
 bk (b:=(partOf Tryd.f111 [1,1,1])) (kE:=(aj Tryd.prog Tryd.f111.results.toList)) (rE:=(aj Tryd.prog Tryd.f111.results.toList)) (xE:=(fun _ _ _=>none)) (T:=t111k111_2 C) (fun x h=>by kernel_rfl) x h
theorem t111l111_1100_eq (C:ae) (x:Nat→Value) (h:ab):av Tryd.prog C (partOf Tryd.f111 [1,1,0,0,0]) (aO 26 x) h=t111l111_1100 C x h:=
 aI (T:=t111l111_1100 C) (fun x h=>by kernel_rfl) x h
noncomputable def t112 (C:ae) (x0 x1 x2:Value) (h:ab):Out:=
 aa (some ((.bool false),h)) fun _y4 h=>
 let g2_0:=h
 aa (ld1 x1 g2_0) fun y5 g2_1=>
 aa (pu (aN y5) g2_1) fun y6 g2_2=>
 aa (pu (aL y6 0) g2_2) fun y7 g2_3=>
 aa (ld1 y7 g2_3) fun y8 g2_4=>
 aa (some (x0,g2_4)) fun y9 g2_5=>
 aa (pu (df 39 y8 y9) g2_5) fun y10 g2_6=>
 aa (cT 39 y10 g2_6) fun y11 g2_7=>
 aa (C 67 [y11] g2_7) fun y12 g2_8=>
 aa (ld1 x2 g2_8) fun y13 g2_9=>
 aa (C 66 [y12,y13] g2_9) fun y14 g2_10=>
 aa (pu (bin Tryd.prog .geq 3 y14 (.int .i64 0)) g2_10) fun y15 g2_11=>
 aa (some (y15,g2_11)) fun y4_1 g2_12=>
 (match (bN true (ld1 x2 g2_7) y13&&true) with
 |true=>
 let h:=g2_12
 some (y4_1,h)
 |false=>none)
theorem t112_eq (C:ae) (x0 x1 x2:Value) (h:ab):bw Tryd.prog C Tryd.f112 [x0,x1,x2] h=t112 C x0 x1 x2 h:=
 (aG Tryd.prog C Tryd.f112 [x0,x1,x2] h (by kernel_rfl)).trans (by kernel_rfl)
end Go.Proofs.YtdnahgfgoajmcaaDoor

namespace Go.Proofs.YtdnahgfgoajmcaaDoor
open Go Go.Abs
noncomputable def t20 (C:ae) (x0 x1 x2:Value) (h:ab):Out:=
 aa (some ((.slice none 0 0),h)) fun _y6 h=>
 aa (some (x0,h)) fun y9 h=>
 aa (pu (bin Tryd.prog .eql 25 y9 (.pointer none)) h) fun y10 h=>
 (match y10 with
 | .bool true=>
 aa (some ((.slice none 0 0),h)) fun y6_1 h=>
 some (y6_1,h)
 | .bool false=>
 let g5_0:=h
 aa (some (x0,g5_0)) fun y11 g5_1=>
 aa (some (x1,g5_1)) fun y12 g5_2=>
 aa (C 56 [y11,y12] g5_2) fun y13 g5_3=>
 aa (some (x0,g5_3)) fun y14 g5_4=>
 aa (pu (aN y14) g5_4) fun y15 g5_5=>
 aa (pu (aL y15 0) g5_5) fun y16 g5_6=>
 aa (ld1 y16 g5_6) fun y17 g5_7=>
 aa (pu (cN y17) g5_7) fun y18 g5_8=>
 aa (some (y13,g5_8)) fun y7 g5_9=>
 aa (some (y18,g5_9)) fun y8 g5_10=>
 (match (bN true (ld1 y16 g5_2) y17&&(bN true (pu (cN y17) g5_2) y18&&true)) with
 |true=>
 let h:=g5_10
 aa (some (x2,h)) fun y19 h=>
 aa (pu (cN y19) h) fun y20 h=>
 aa (pu (bin Tryd.prog .gtr 3 y20 (.int .i64 0)) h) fun y21 h=>
 (match y21 with
 | .bool true=>
 aa (some (y7,h)) fun y22 h=>
 aa (some (x0,h)) fun y23 h=>
 aa (some (x2,h)) fun y24 h=>
 aa (C 56 [y23,y24] h) fun y25 h=>
 aa (pu (eY true y22 [y25]) h) fun y26 h=>
 aa (some (y26,h)) fun y8_1 h=>
 aa (some (x0,h)) fun y27 h=>
 aa (pu (aN y27) h) fun y28 h=>
 aa (pu (aL y28 0) h) fun y29 h=>
 aa (ld1 y29 h) fun y30 h=>
 aa (some (y7,h)) fun y31 h=>
 aa (some (y8_1,h)) fun y32 h=>
 aa (pu (slR 39 y30 (some y31) (some y32) none) h) fun y33 h=>
 aa (C 57 [y33] h) fun y34 h=>
 aa (some (y34,h)) fun y6_1 h=>
 some (y6_1,h)
 | .bool false=>
 aa (some (x0,h)) fun y27 h=>
 aa (pu (aN y27) h) fun y28 h=>
 aa (pu (aL y28 0) h) fun y29 h=>
 aa (ld1 y29 h) fun y30 h=>
 aa (some (y7,h)) fun y31 h=>
 aa (some (y8,h)) fun y32 h=>
 aa (pu (slR 39 y30 (some y31) (some y32) none) h) fun y33 h=>
 aa (C 57 [y33] h) fun y34 h=>
 aa (some (y34,h)) fun y6_1 h=>
 some (y6_1,h)
 |_=>none)
 |false=>none)
 |_=>none)
theorem t20_eq (C:ae) (x0 x1 x2:Value) (h:ab):bw Tryd.prog C Tryd.f20 [x0,x1,x2] h=t20 C x0 x1 x2 h:=
 (aG Tryd.prog C Tryd.f20 [x0,x1,x2] h (by kernel_rfl)).trans (by kernel_rfl)
noncomputable def t17 (C:ae) (x0 x1 x2:Value) (h:ab):Out:=
 aa (dJ [(.int .u8 0),(.int .i64 0),(.int .i64 0),(.int .u64 0),(.int .i64 0),(.int .i64 0),(.slice none 0 0),(.slice none 0 0),(.slice none 0 0),(.int .i64 0),(.int .u8 0),(.int .u8 0),(.int .u8 0),(.int .u8 0),(.int .u8 0),(.int .u8 0),(.int .u8 0),(.int .u8 0),(.int .u8 0),(.int .u8 0),(.int .u8 0),(.int .u8 0),(.int .u8 0),(.int .u8 0),(.int .u8 0),(.int .u8 0),(.int .u8 0),(.int .u8 0),(.int .u8 0),(.int .u8 0),(.int .u8 0),(.int .u8 0),(.int .u8 0),(.int .u8 0),(.int .u8 0),(.int .u8 0),(.int .u8 0),(.int .u8 0),(.int .u8 0),(.int .u8 0),(.int .u8 0),(.int .u8 0),(.slice none 0 0),(.bool false),(.int .u8 0),(.int .u8 0),(.int .u8 0),(.int .u8 0),(.int .u8 0),(.int .u8 0),(.int .u8 0),(.int .u8 0),(.int .u8 0),(.int .u8 0),(.int .u8 0),(.int .u8 0),(.int .u8 0),(.int .u8 0),(.int .u8 0),(.int .u8 0),(.int .u8 0),(.int .u8 0),(.int .u8 0),(.int .u8 0),(.int .u8 0),(.int .u8 0),(.int .u8 0),(.int .u8 0),(.int .u8 0),(.int .u8 0),(.int .u8 0),(.int .u8 0),(.int .u8 0),(.int .u8 0),(.int .u8 0),(.int .u8 0),(.int .i64 0),(.int .i64 0),(.int .i64 0),(.int .i64 0),(.int .u8 0),(.int .u8 0),(.int .u8 0),(.int .u8 0),(.int .u8 0),(.int .u8 0),(.int .u8 0),(.int .u8 0),(.int .u8 0),(.int .u8 0),(.int .u8 0),(.int .u8 0),(.int .u8 0),(.int .u8 0),(.int .u8 0),(.int .u8 0),(.int .u8 0),(.int .u8 0),(.int .u8 0),(.int .u8 0),(.int .u8 0),(.int .u8 0),(.int .u8 0),(.int .u8 0),(.int .u8 0),(.int .u8 0),(.int .u8 0),(.int .u8 0),(.int .u8 0),(.int .u8 0),(.int .u8 0),(.int .u8 0),(.slice none 0 0),(.int .i64 0),(.slice none 0 0),(.int .i64 0)] h) fun y6 h=>
 aa (some (x0,h)) fun y8 h=>
 aa (pu (bin Tryd.prog .eql 25 y8 (.pointer none)) h) fun y9 h=>
 (match y9 with
 | .bool true=>
 aa (pu (eW [(.int .u8 0),(.int .i64 0),(.int .i64 0),(.int .u64 0),(.int .i64 0),(.int .i64 0),(.slice none 0 0),(.slice none 0 0),(.slice none 0 0),(.int .i64 0),(.int .u8 0),(.int .u8 0),(.int .u8 0),(.int .u8 0),(.int .u8 0),(.int .u8 0),(.int .u8 0),(.int .u8 0),(.int .u8 0),(.int .u8 0),(.int .u8 0),(.int .u8 0),(.int .u8 0),(.int .u8 0),(.int .u8 0),(.int .u8 0),(.int .u8 0),(.int .u8 0),(.int .u8 0),(.int .u8 0),(.int .u8 0),(.int .u8 0),(.int .u8 0),(.int .u8 0),(.int .u8 0),(.int .u8 0),(.int .u8 0),(.int .u8 0),(.int .u8 0),(.int .u8 0),(.int .u8 0),(.int .u8 0),(.slice none 0 0),(.bool false),(.int .u8 0),(.int .u8 0),(.int .u8 0),(.int .u8 0),(.int .u8 0),(.int .u8 0),(.int .u8 0),(.int .u8 0),(.int .u8 0),(.int .u8 0),(.int .u8 0),(.int .u8 0),(.int .u8 0),(.int .u8 0),(.int .u8 0),(.int .u8 0),(.int .u8 0),(.int .u8 0),(.int .u8 0),(.int .u8 0),(.int .u8 0),(.int .u8 0),(.int .u8 0),(.int .u8 0),(.int .u8 0),(.int .u8 0),(.int .u8 0),(.int .u8 0),(.int .u8 0),(.int .u8 0),(.int .u8 0),(.int .u8 0),(.int .i64 0),(.int .i64 0),(.int .i64 0),(.int .i64 0),(.int .u8 0),(.int .u8 0),(.int .u8 0),(.int .u8 0),(.int .u8 0),(.int .u8 0),(.int .u8 0),(.int .u8 0),(.int .u8 0),(.int .u8 0),(.int .u8 0),(.int .u8 0),(.int .u8 0),(.int .u8 0),(.int .u8 0),(.int .u8 0),(.int .u8 0),(.int .u8 0),(.int .u8 0),(.int .u8 0),(.int .u8 0),(.int .u8 0),(.int .u8 0),(.int .u8 0),(.int .u8 0),(.int .u8 0),(.int .u8 0),(.int .u8 0),(.int .u8 0),(.int .u8 0),(.int .u8 0),(.int .u8 0),(.slice none 0 0),(.int .i64 0),(.slice none 0 0),(.int .i64 0)] []) h) fun y10 h=>
 aa (eT 116 y6 y10 h) fun _ h=>
 aj Tryd.prog Tryd.f17.results.toList (aO 24 (up (bs [x0,x1,x2]) [(6,y6),(8,y8),(9,y9),(10,y10)])) h
 | .bool false=>
 aa (some (x0,h)) fun y11 h=>
 aa (some (x1,h)) fun y12 h=>
 aa (some (x2,h)) fun y13 h=>
 aa (C 20 [y11,y12,y13] h) fun y14 h=>
 aa (some (y14,h)) fun y7 h=>
 aa (some (x1,h)) fun y15 h=>
 aa (C 53 [y15] h) fun y16 h=>
 aa (some (x2,h)) fun y17 h=>
 aa (C 53 [y17] h) fun y18 h=>
 aa (some (y7,h)) fun y19 h=>
 aa (pu (cN y19) h) fun y20 h=>
 aa (some (y7,h)) fun y21 h=>
 aa (C 54 [y21] h) fun y22 h=>
 aa (pu (eW [(.int .u8 0),(.int .i64 0),(.int .i64 0),(.int .u64 0),(.int .i64 0),(.int .i64 0),(.slice none 0 0),(.slice none 0 0),(.slice none 0 0),(.int .i64 0),(.int .u8 0),(.int .u8 0),(.int .u8 0),(.int .u8 0),(.int .u8 0),(.int .u8 0),(.int .u8 0),(.int .u8 0),(.int .u8 0),(.int .u8 0),(.int .u8 0),(.int .u8 0),(.int .u8 0),(.int .u8 0),(.int .u8 0),(.int .u8 0),(.int .u8 0),(.int .u8 0),(.int .u8 0),(.int .u8 0),(.int .u8 0),(.int .u8 0),(.int .u8 0),(.int .u8 0),(.int .u8 0),(.int .u8 0),(.int .u8 0),(.int .u8 0),(.int .u8 0),(.int .u8 0),(.int .u8 0),(.int .u8 0),(.slice none 0 0),(.bool false),(.int .u8 0),(.int .u8 0),(.int .u8 0),(.int .u8 0),(.int .u8 0),(.int .u8 0),(.int .u8 0),(.int .u8 0),(.int .u8 0),(.int .u8 0),(.int .u8 0),(.int .u8 0),(.int .u8 0),(.int .u8 0),(.int .u8 0),(.int .u8 0),(.int .u8 0),(.int .u8 0),(.int .u8 0),(.int .u8 0),(.int .u8 0),(.int .u8 0),(.int .u8 0),(.int .u8 0),(.int .u8 0),(.int .u8 0),(.int .u8 0),(.int .u8 0),(.int .u8 0),(.int .u8 0),(.int .u8 0),(.int .u8 0),(.int .i64 0),(.int .i64 0),(.int .i64 0),(.int .i64 0),(.int .u8 0),(.int .u8 0),(.int .u8 0),(.int .u8 0),(.int .u8 0),(.int .u8 0),(.int .u8 0),(.int .u8 0),(.int .u8 0),(.int .u8 0),(.int .u8 0),(.int .u8 0),(.int .u8 0),(.int .u8 0),(.int .u8 0),(.int .u8 0),(.int .u8 0),(.int .u8 0),(.int .u8 0),(.int .u8 0),(.int .u8 0),(.int .u8 0),(.int .u8 0),(.int .u8 0),(.int .u8 0),(.int .u8 0),(.int .u8 0),(.int .u8 0),(.int .u8 0),(.int .u8 0),(.int .u8 0),(.int .u8 0),(.slice none 0 0),(.int .i64 0),(.slice none 0 0),(.int .i64 0)] [(0,1,(.int .u8 4)),(7,1,y16),(8,1,y18),(9,1,y20),(10,32,y22)]) h) fun y23 h=>
 aa (eT 116 y6 y23 h) fun _ h=>
 aj Tryd.prog Tryd.f17.results.toList (aO 24 (up (bs [x0,x1,x2]) [(6,y6),(7,y7),(8,y8),(9,y9),(11,y11),(12,y12),(13,y13),(14,y14),(15,y15),(16,y16),(17,y17),(18,y18),(19,y19),(20,y20),(21,y21),(22,y22),(23,y23)])) h
 |_=>none)
theorem t17_eq (C:ae) (x0 x1 x2:Value) (h:ab):bw Tryd.prog C Tryd.f17 [x0,x1,x2] h=t17 C x0 x1 x2 h:=
 (aG Tryd.prog C Tryd.f17 [x0,x1,x2] h (by kernel_rfl)).trans (by kernel_rfl)
end Go.Proofs.YtdnahgfgoajmcaaDoor

namespace Go.Proofs.YtdnahgfgoajmcaaDoor
open Go Go.Abs
end Go.Proofs.YtdnahgfgoajmcaaDoor

namespace Go.Proofs.YtdnahgfgoajmcaaDoor
open Go Go.Abs
end Go.Proofs.YtdnahgfgoajmcaaDoor

namespace Go.Proofs.YtdnahgfgoajmcaaDoor
open Go Go.Abs
noncomputable def t16 (C:ae) (x0 x1:Value) (h:ab):Out:=
 aa (some ((.slice none 0 0),h)) fun _y4 h=>
 aa (some ((.int .i64 0),h)) fun _y5 h=>
 aa (cO 39 (.agg #[(.int .u8 0),(.int .u8 0),(.int .u8 0),(.int .u8 0),(.int .u8 0),(.int .u8 0),(.int .u8 0),(.int .u8 0),(.int .u8 0),(.int .u8 0),(.int .u8 0),(.int .u8 0),(.int .u8 0),(.int .u8 0),(.int .u8 0),(.int .u8 0),(.int .u8 0),(.int .u8 0),(.int .u8 0),(.int .u8 0),(.int .u8 0),(.int .u8 0),(.int .u8 0),(.int .u8 0),(.int .u8 0),(.int .u8 0),(.int .u8 0),(.int .u8 0),(.int .u8 0),(.int .u8 0),(.int .u8 0),(.int .u8 0),(.int .u8 0),(.int .i64 0),(.int .u64 0),(.int .u64 0),(.bool false),(.int .i64 0),(.int .i64 0)]) 0 [] h) fun y9 h=>
 aa (some (x0,h)) fun y10 h=>
 aa (aD 39 88 y9 y10 h) fun y11 h=>
 aa (some (x1,h)) fun y12 h=>
 aa (aD 39 88 y11 y12 h) fun y13 h=>
 aa (C 52 [y13] h) fun y14 h=>
 aa (some (y14,h)) fun y8 h=>
 aa (pu (bm y8 0) h) fun y15 h=>
 aa (pu (bm y8 1) h) fun y16 h=>
 aa (some (y15,h)) fun y6 h=>
 aa (some (y16,h)) fun y7 h=>
 aa (some (y7,h)) fun y17 h=>
 aa (pu (bin Tryd.prog .neq 26 y17 (.int .i64 0)) h) fun y18 h=>
 (match y18 with
 | .bool true=>
 aa (some (x0,h)) fun y19 h=>
 aa (some (y7,h)) fun y20 h=>
 aa (some (y19,h)) fun y4_1 h=>
 aa (some (y20,h)) fun y5_1 h=>
 some (.tuple #[y4_1,y5_1],h)
 | .bool false=>
 aa (some (y6,h)) fun y21 h=>
 aa (some (y21,h)) fun y4_1 h=>
 aa (some ((.int .i64 0),h)) fun y5_1 h=>
 some (.tuple #[y4_1,y5_1],h)
 |_=>none)
theorem t16_eq (C:ae) (x0 x1:Value) (h:ab):bw Tryd.prog C Tryd.f16 [x0,x1] h=t16 C x0 x1 h:=
 (aG Tryd.prog C Tryd.f16 [x0,x1] h (by kernel_rfl)).trans (by kernel_rfl)
noncomputable def k52_2 (C:ae) (e:Env) (h:ab):Out:=cj Tryd.prog C (partOf Tryd.f52 [1,1,1]) e h (aj Tryd.prog Tryd.f52.results.toList) (aj Tryd.prog Tryd.f52.results.toList) (fun _ _ _=>none)
noncomputable def b52_4 (C:ae) (i:Nat) (e:Env) (h:ab):Out:=if i=0 then (k52_2 C) e h else (fun _ _ _=>none) i e h
noncomputable def k52_8 (C:ae) (e:Env) (h:ab):Option (Ex×Env×ab):=cj Tryd.prog C (partOf Tryd.f52 [1,1,0,1,0,0,1,1]) e h (fun e h=>some (Ex.normal,e,h)) (fun e h=>some (Ex.ret,e,h)) (fun i e h=>some (Ex.exit i,e,h))
noncomputable def b52_9 (C:ae) (i:Nat) (e:Env) (h:ab):Option (Ex×Env×ab):=if i=1 then (k52_8 C) e h else (fun i e h=>some (Ex.exit i,e,h)) i e h
noncomputable def k52_16 (C:ae) (e:Env) (h:ab):Option (Ex×Env×ab):=cj Tryd.prog C (partOf Tryd.f52 [1,1,0,1,0,0,1,0,0,1,1,1,1]) e h (k52_8 C) (fun e h=>some (Ex.ret,e,h)) (b52_9 C)
noncomputable def b52_17 (C:ae) (i:Nat) (e:Env) (h:ab):Option (Ex×Env×ab):=if i=2 then (k52_16 C) e h else (b52_9 C) i e h
noncomputable def t52 (C:ae) (x0:Value) (h:ab):Out:=
 aa (some ((.slice none 0 0),h)) fun y2 h=>
 aa (some ((.int .i64 0),h)) fun y3 h=>
 aa (cO 39 (.agg #[(.int .u8 0),(.int .u8 0),(.int .u8 0),(.int .u8 0),(.int .u8 0),(.int .u8 0),(.int .u8 0),(.int .u8 0),(.int .u8 0),(.int .u8 0),(.int .u8 0),(.int .u8 0),(.int .u8 0),(.int .u8 0),(.int .u8 0),(.int .u8 0),(.int .u8 0),(.int .u8 0),(.int .u8 0),(.int .u8 0),(.int .u8 0),(.int .u8 0),(.int .u8 0),(.int .u8 0),(.int .u8 0),(.int .u8 0),(.int .u8 0),(.int .u8 0),(.int .u8 0),(.int .u8 0),(.int .u8 0),(.int .u8 0),(.int .u8 0),(.int .i64 0),(.int .u64 0),(.int .u64 0),(.bool false),(.int .i64 0),(.int .i64 0)]) 0 [] h) fun y7 h=>
 aa (some (y7,h)) fun y4 h=>
 aa (some ((.int .i64 0),h)) fun y5 h=>
 fl (iter (av Tryd.prog C (partOf Tryd.f52 [1,1,0,1,0,0])) rounds (aO 76 (up (bs [x0]) [(2,y2),(3,y3),(4,y4),(5,y5),(7,y7)])) h) (aj Tryd.prog Tryd.f52.results.toList) (b52_4 C)
noncomputable def t52k52_2 (_C:ae) (x:Nat→Value) (h:ab):Out:=
 aa (some ((x 4),h)) fun y75 h=>
 aa (some (y75,h)) fun y2 h=>
 aa (some ((.int .i64 0),h)) fun y3 h=>
 some (.tuple #[y2,y3],h)
noncomputable def t52l52_11010 (C:ae) (x:Nat→Value) (h:ab):Option (Ex×Env×ab):=
 aa (some ((x 5),h)) fun y8 h=>
 aa (some ((x 0),h)) fun y9 h=>
 aa (pu (cN y9) h) fun y10 h=>
 aa (pu (bin Tryd.prog .lss 3 y8 y10) h) fun y11 h=>
 (match y11 with
 | .bool true=>
 aa (some ((x 0),h)) fun y14 h=>
 aa (some ((x 5),h)) fun y15 h=>
 aa (pu (df 39 y14 y15) h) fun y16 h=>
 aa (cT 39 y16 h) fun y17 h=>
 aa (C 48 [y17] h) fun y18 h=>
 aa (pu (unA .not y18) h) fun y19 h=>
 (match y19 with
 | .bool true=>
 aa (some ((.slice none 0 0),h)) fun y2 h=>
 aa (some ((.int .i64 2),h)) fun y3 h=>
 some (.ret,(aO 76 (up x [(2,y2),(3,y3),(8,y8),(9,y9),(10,y10),(11,y11),(14,y14),(15,y15),(16,y16),(17,y17),(18,y18),(19,y19)])),h)
 | .bool false=>
 aa (some ((x 0),h)) fun y20 h=>
 aa (some ((x 5),h)) fun y21 h=>
 aa (pu (df 39 y20 y21) h) fun y22 h=>
 aa (cT 39 y22 h) fun y23 h=>
 aa (some ((x 0),h)) fun y24 h=>
 aa (C 105 [y23,y24] h) fun y25 h=>
 (match y25 with
 | .bool true=>
 aa (some ((x 5),h)) fun y12 h=>
 aa (pu (bin Tryd.prog .add 3 y12 (.int .i64 1)) h) fun y13 h=>
 aa (some (y13,h)) fun y5 h=>
 some (.normal,(aO 76 (up x [(5,y5),(8,y8),(9,y9),(10,y10),(11,y11),(12,y12),(13,y13),(14,y14),(15,y15),(16,y16),(17,y17),(18,y18),(19,y19),(20,y20),(21,y21),(22,y22),(23,y23),(24,y24),(25,y25)])),h)
 | .bool false=>
 aa (some ((.int .i64 0),h)) fun y6 h=>
 fl (iter (av Tryd.prog C (partOf Tryd.f52 [1,1,0,1,0,0,1,0,0,1,1,1,0,0,0])) rounds (aO 76 (up x [(6,y6),(8,y8),(9,y9),(10,y10),(11,y11),(14,y14),(15,y15),(16,y16),(17,y17),(18,y18),(19,y19),(20,y20),(21,y21),(22,y22),(23,y23),(24,y24),(25,y25)])) h) (fun e h=>some (Ex.ret,e,h)) (b52_17 C)
 |_=>none)
 |_=>none)
 | .bool false=>
 some (.exit 0,(aO 76 (up x [(8,y8),(9,y9),(10,y10),(11,y11)])),h)
 |_=>none)
noncomputable def t52k52_8 (_C:ae) (x:Nat→Value) (h:ab):Option (Ex×Env×ab):=
 aa (some ((x 5),h)) fun y12 h=>
 aa (pu (bin Tryd.prog .add 3 y12 (.int .i64 1)) h) fun y13 h=>
 aa (some (y13,h)) fun y5 h=>
 some (.normal,(aO 76 (up x [(5,y5),(12,y12),(13,y13)])),h)
noncomputable def t52k52_16 (C:ae) (x:Nat→Value) (h:ab):Option (Ex×Env×ab):=
 aa (some ((x 6),h)) fun y45 h=>
 aa (some ((x 4),h)) fun y46 h=>
 aa (pu (cN y46) h) fun y47 h=>
 aa (pu (bin Tryd.prog .lss 3 y45 y47) h) fun y48 h=>
 aa (some (y48,h)) fun y49 h=>
 aa (ai (aR y49==some true) (some ((x 4),h)) h) fun y50 h=>
 aa (ai (aR y49==some true) (some ((x 6),h)) h) fun y51 h=>
 aa (ai (aR y49==some true) (pu (df 39 y50 y51) h) h) fun y52 h=>
 aa (ai (aR y49==some true) (cT 39 y52 h) h) fun y53 h=>
 aa (ai (aR y49==some true) (some ((x 0),h)) h) fun y54 h=>
 aa (ai (aR y49==some true) (some ((x 5),h)) h) fun y55 h=>
 aa (ai (aR y49==some true) (pu (df 39 y54 y55) h) h) fun y56 h=>
 aa (ai (aR y49==some true) (cT 39 y56 h) h) fun y57 h=>
 aa (ai (aR y49==some true) (pu (bin Tryd.prog .eql 58 y53 y57) h) h) fun y58 h=>
 aa (match y49 with | .bool t=>some (if t then y58 else (.bool false),h)|_=>none) fun y59 h=>
 (match y59 with
 | .bool true=>
 b52_9 C 1 (aO 76 (up x [(45,y45),(46,y46),(47,y47),(48,y48),(49,y49),(50,y50),(51,y51),(52,y52),(53,y53),(54,y54),(55,y55),(56,y56),(57,y57),(58,y58),(59,y59)])) h
 | .bool false=>
 let g20_0:=h
 aa (some ((x 4),g20_0)) fun y61 g20_1=>
 aa (some ((x 6),g20_1)) fun y62 g20_2=>
 aa (pu (slR 39 y61 none (some y62) none) g20_2) fun y63 g20_3=>
 aa (some ((x 0),g20_3)) fun y65 g20_4=>
 aa (some ((x 5),g20_4)) fun y66 g20_5=>
 aa (pu (df 39 y65 y66) g20_5) fun y67 g20_6=>
 aa (cT 39 y67 g20_6) fun y68 g20_7=>
 aa (some ((x 4),g20_7)) fun y71 g20_8=>
 aa (some ((x 6),g20_8)) fun y72 g20_9=>
 aa (pu (slR 39 y71 (some y72) none none) g20_9) fun y73 g20_10=>
 aa (cO 39 (.agg #[(.int .u8 0),(.int .u8 0),(.int .u8 0),(.int .u8 0),(.int .u8 0),(.int .u8 0),(.int .u8 0),(.int .u8 0),(.int .u8 0),(.int .u8 0),(.int .u8 0),(.int .u8 0),(.int .u8 0),(.int .u8 0),(.int .u8 0),(.int .u8 0),(.int .u8 0),(.int .u8 0),(.int .u8 0),(.int .u8 0),(.int .u8 0),(.int .u8 0),(.int .u8 0),(.int .u8 0),(.int .u8 0),(.int .u8 0),(.int .u8 0),(.int .u8 0),(.int .u8 0),(.int .u8 0),(.int .u8 0),(.int .u8 0),(.int .u8 0),(.int .i64 0),(.int .u64 0),(.int .u64 0),(.bool false),(.int .i64 0),(.int .i64 0)]) 0 [] g20_10) fun y60 g20_11=>
 aa (aD 39 88 y60 y63 g20_11) fun y64 g20_12=>
 aa (cO 39 (.agg #[(.int .u8 0),(.int .u8 0),(.int .u8 0),(.int .u8 0),(.int .u8 0),(.int .u8 0),(.int .u8 0),(.int .u8 0),(.int .u8 0),(.int .u8 0),(.int .u8 0),(.int .u8 0),(.int .u8 0),(.int .u8 0),(.int .u8 0),(.int .u8 0),(.int .u8 0),(.int .u8 0),(.int .u8 0),(.int .u8 0),(.int .u8 0),(.int .u8 0),(.int .u8 0),(.int .u8 0),(.int .u8 0),(.int .u8 0),(.int .u8 0),(.int .u8 0),(.int .u8 0),(.int .u8 0),(.int .u8 0),(.int .u8 0),(.int .u8 0),(.int .i64 0),(.int .u64 0),(.int .u64 0),(.bool false),(.int .i64 0),(.int .i64 0)]) 1 [(0,y68)] g20_12) fun y69 g20_13=>
 aa (aD 39 88 y64 y69 g20_13) fun y70 g20_14=>
 aa (aD 39 88 y70 y73 g20_14) fun y74 g20_15=>
 aa (some (y74,g20_15)) fun y4 g20_16=>
 (match (bN true (cT 39 y67 g20_12) y68&&true) with
 |true=>
 let h:=g20_16
 k52_8 C (aO 76 (up x [(4,y4),(45,y45),(46,y46),(47,y47),(48,y48),(49,y49),(50,y50),(51,y51),(52,y52),(53,y53),(54,y54),(55,y55),(56,y56),(57,y57),(58,y58),(59,y59),(60,y60),(61,y61),(62,y62),(63,y63),(64,y64),(65,y65),(66,y66),(67,y67),(68,y68),(69,y69),(70,y70),(71,y71),(72,y72),(73,y73),(74,y74)])) h
 |false=>none)
 |_=>none)
noncomputable def fa (C:ae) (x:Nat→Value) (h:ab):Option (Ex×Env×ab):=
 let g23_0:=h
 aa (some ((x 6),g23_0)) fun y26 g23_1=>
 aa (some ((x 4),g23_1)) fun y27 g23_2=>
 aa (pu (cN y27) g23_2) fun y28 g23_3=>
 aa (pu (bin Tryd.prog .lss 3 y26 y28) g23_3) fun y29 g23_4=>
 aa (some (y29,g23_4)) fun y30 g23_5=>
 aa (ai (aR y30==some true) (some ((x 4),g23_5)) g23_5) fun y31 g23_6=>
 aa (ai (aR y30==some true) (some ((x 6),g23_6)) g23_6) fun y32 g23_7=>
 aa (ai (aR y30==some true) (pu (df 39 y31 y32) g23_7) g23_7) fun y33 g23_8=>
 aa (ai (aR y30==some true) (cT 39 y33 g23_8) g23_8) fun y34 g23_9=>
 aa (ai (aR y30==some true) (C 59 [y34] g23_9) g23_9) fun y35 g23_10=>
 aa (ai (aR y30==some true) (some ((x 0),g23_10)) g23_10) fun y36 g23_11=>
 aa (ai (aR y30==some true) (some ((x 5),g23_11)) g23_11) fun y37 g23_12=>
 aa (ai (aR y30==some true) (pu (df 39 y36 y37) g23_12) g23_12) fun y38 g23_13=>
 aa (ai (aR y30==some true) (cT 39 y38 g23_13) g23_13) fun y39 g23_14=>
 aa (ai (aR y30==some true) (C 59 [y39] g23_14) g23_14) fun y40 g23_15=>
 aa (ai (aR y30==some true) (pu (bin Tryd.prog .lss 9 y35 y40) g23_15) g23_15) fun y41 g23_16=>
 aa (match y30 with | .bool t=>some (if t then y41 else (.bool false),g23_16)|_=>none) fun y42 g23_17=>
 (match (bN (aR y30==some true) (cT 39 y38 g23_9) y39&&true) with
 |true=>
 let h:=g23_17
 (match y42 with
 | .bool true=>
 aa (some ((x 6),h)) fun y43 h=>
 aa (pu (bin Tryd.prog .add 3 y43 (.int .i64 1)) h) fun y44 h=>
 aa (some (y44,h)) fun y6 h=>
 some (.normal,(aO 76 (up x [(6,y6),(26,y26),(27,y27),(28,y28),(29,y29),(30,y30),(31,y31),(32,y32),(33,y33),(34,y34),(35,y35),(36,y36),(37,y37),(38,y38),(39,y39),(40,y40),(41,y41),(42,y42),(43,y43),(44,y44)])),h)
 | .bool false=>
 some (.exit 2,(aO 76 (up x [(26,y26),(27,y27),(28,y28),(29,y29),(30,y30),(31,y31),(32,y32),(33,y33),(34,y34),(35,y35),(36,y36),(37,y37),(38,y38),(39,y39),(40,y40),(41,y41),(42,y42)])),h)
 |_=>none)
 |false=>none)
theorem t52_eq (C:ae) (x0:Value) (h:ab):bw Tryd.prog C Tryd.f52 [x0] h=t52 C x0 h:=
 (aG Tryd.prog C Tryd.f52 [x0] h (by kernel_rfl)).trans (by kernel_rfl)
theorem t52k52_2_eq (C:ae) (x:Nat→Value) (h:ab):k52_2 C (aO 76 x) h=t52k52_2 C x h:=
 bk (b:=(partOf Tryd.f52 [1,1,1])) (kE:=(aj Tryd.prog Tryd.f52.results.toList)) (rE:=(aj Tryd.prog Tryd.f52.results.toList)) (xE:=(fun _ _ _=>none)) (T:=t52k52_2 C) (fun x h=>by kernel_rfl) x h
theorem t52l52_11010_eq (C:ae) (x:Nat→Value) (h:ab):av Tryd.prog C (partOf Tryd.f52 [1,1,0,1,0,0]) (aO 76 x) h=t52l52_11010 C x h:=
 aI (T:=t52l52_11010 C) (fun x h=>by kernel_rfl) x h
theorem t52k52_8_eq (C:ae) (x:Nat→Value) (h:ab):k52_8 C (aO 76 x) h=t52k52_8 C x h:=
 bk (b:=(partOf Tryd.f52 [1,1,0,1,0,0,1,1])) (kE:=(fun e h=>some (Ex.normal,e,h))) (rE:=(fun e h=>some (Ex.ret,e,h))) (xE:=(fun i e h=>some (Ex.exit i,e,h))) (T:=t52k52_8 C) (fun x h=>by kernel_rfl) x h
theorem t52k52_16_eq (C:ae) (x:Nat→Value) (h:ab):k52_16 C (aO 76 x) h=t52k52_16 C x h:=
 bk (b:=(partOf Tryd.f52 [1,1,0,1,0,0,1,0,0,1,1,1,1])) (kE:=(k52_8 C)) (rE:=(fun e h=>some (Ex.ret,e,h))) (xE:=(b52_9 C)) (T:=t52k52_16 C) (fun x h=>by kernel_rfl) x h
theorem t52l52_11010010011100_eq (C:ae) (x:Nat→Value) (h:ab):av Tryd.prog C (partOf Tryd.f52 [1,1,0,1,0,0,1,0,0,1,1,1,0,0,0]) (aO 76 x) h=fa C x h:=
 aI (T:=fa C) (fun x h=>by kernel_rfl) x h
noncomputable def k105_1 (C:ae) (e:Env) (h:ab):Out:=cj Tryd.prog C (partOf Tryd.f105 [1,1]) e h (aj Tryd.prog Tryd.f105.results.toList) (aj Tryd.prog Tryd.f105.results.toList) (fun _ _ _=>none)
noncomputable def b105_3 (C:ae) (i:Nat) (e:Env) (h:ab):Out:=if i=0 then (k105_1 C) e h else (fun _ _ _=>none) i e h
noncomputable def t105 (C:ae) (x0 x1:Value) (h:ab):Out:=
 aa (box x0 h) fun y2 h=>
 aa (some ((.bool false),h)) fun y4 h=>
 aa (some ((.int .i64 0),h)) fun y5 h=>
 fl (iter (av Tryd.prog C (partOf Tryd.f105 [1,0,1,0,0])) rounds (aO 61 (up (bs [x0,x1]) [(2,y2),(4,y4),(5,y5)])) h) (aj Tryd.prog Tryd.f105.results.toList) (b105_3 C)
noncomputable def t105k105_1 (_C:ae) (_x:Nat→Value) (h:ab):Out:=
 aa (some ((.bool false),h)) fun y4 h=>
 some (y4,h)
noncomputable def t105l105_1010 (C:ae) (x:Nat→Value) (h:ab):Option (Ex×Env×ab):=
 aa (some ((x 5),h)) fun y7 h=>
 aa (some ((x 1),h)) fun y8 h=>
 aa (pu (cN y8) h) fun y9 h=>
 aa (pu (bin Tryd.prog .lss 3 y7 y9) h) fun y10 h=>
 (match y10 with
 | .bool true=>
 aa (some ((x 1),h)) fun y13 h=>
 aa (some ((x 5),h)) fun y14 h=>
 aa (pu (df 39 y13 y14) h) fun y15 h=>
 aa (cT 39 y15 h) fun y16 h=>
 aa (dJ [(.int .u8 0),(.int .u8 0),(.int .u8 0),(.int .u8 0),(.int .u8 0),(.int .u8 0),(.int .u8 0),(.int .u8 0),(.int .u8 0),(.int .u8 0),(.int .u8 0),(.int .u8 0),(.int .u8 0),(.int .u8 0),(.int .u8 0),(.int .u8 0),(.int .u8 0),(.int .u8 0),(.int .u8 0),(.int .u8 0),(.int .u8 0),(.int .u8 0),(.int .u8 0),(.int .u8 0),(.int .u8 0),(.int .u8 0),(.int .u8 0),(.int .u8 0),(.int .u8 0),(.int .u8 0),(.int .u8 0),(.int .u8 0),(.int .u8 0),(.int .i64 0),(.int .u64 0),(.int .u64 0),(.bool false),(.int .i64 0),(.int .i64 0)] h) fun y6 h=>
 aa (eT 39 y6 y16 h) fun _ h=>
 aa (cT 39 y6 h) fun y17 h=>
 aa (cT 39 (x 2) h) fun y18 h=>
 aa (C 49 [y17,y18] h) fun y19 h=>
 aa (some (y19,h)) fun y20 h=>
 aa (ai (aR y20==some false) (pu (aL (x 2) 0) h) h) fun y21 h=>
 aa (ai (aR y20==some false) (ld1 y21 h) h) fun y22 h=>
 aa (ai (aR y20==some false) (pu (bin Tryd.prog .eql 56 y22 (.int .u8 3)) h) h) fun y23 h=>
 aa (ai (aR y20==some false) (some (y23,h)) h) fun y24 h=>
 aa (ai (aR y24==some true) (pu (aL y6 0) h) h) fun y25 h=>
 aa (ai (aR y24==some true) (ld1 y25 h) h) fun y26 h=>
 aa (ai (aR y24==some true) (pu (bin Tryd.prog .eql 56 y26 (.int .u8 1)) h) h) fun y27 h=>
 aa (ai (aR y20==some false) (match y24 with | .bool t=>some (if t then y27 else (.bool false),h)|_=>none) h) fun y28 h=>
 aa (ai (aR y20==some false) (some (y28,h)) h) fun y29 h=>
 aa (ai (aR y29==some true) (pu (aL y6 33) h) h) fun y30 h=>
 aa (ai (aR y29==some true) (ld1 y30 h) h) fun y31 h=>
 aa (ai (aR y29==some true) (pu (aL (x 2) 33) h) h) fun y32 h=>
 aa (ai (aR y29==some true) (ld1 y32 h) h) fun y33 h=>
 aa (ai (aR y29==some true) (pu (bin Tryd.prog .eql 3 y31 y33) h) h) fun y34 h=>
 aa (ai (aR y20==some false) (match y29 with | .bool t=>some (if t then y34 else (.bool false),h)|_=>none) h) fun y35 h=>
 aa (ai (aR y20==some false) (some (y35,h)) h) fun y36 h=>
 aa (ai (aR y36==some true) (pu (aL y6 34) h) h) fun y37 h=>
 aa (ai (aR y36==some true) (ld1 y37 h) h) fun y38 h=>
 aa (ai (aR y36==some true) (pu (aL (x 2) 34) h) h) fun y39 h=>
 aa (ai (aR y36==some true) (ld1 y39 h) h) fun y40 h=>
 aa (ai (aR y36==some true) (pu (bin Tryd.prog .gtr 32 y38 y40) h) h) fun y41 h=>
 aa (ai (aR y20==some false) (match y36 with | .bool t=>some (if t then y41 else (.bool false),h)|_=>none) h) fun y42 h=>
 aa (match y20 with | .bool t=>some (if t then (.bool true) else y42,h)|_=>none) fun y43 h=>
 aa (some (y43,h)) fun y44 h=>
 aa (ai (aR y44==some false) (pu (aL (x 2) 0) h) h) fun y45 h=>
 aa (ai (aR y44==some false) (ld1 y45 h) h) fun y46 h=>
 aa (ai (aR y44==some false) (pu (bin Tryd.prog .eql 56 y46 (.int .u8 3)) h) h) fun y47 h=>
 aa (ai (aR y44==some false) (some (y47,h)) h) fun y48 h=>
 aa (ai (aR y48==some true) (pu (aL y6 0) h) h) fun y49 h=>
 aa (ai (aR y48==some true) (ld1 y49 h) h) fun y50 h=>
 aa (ai (aR y48==some true) (pu (bin Tryd.prog .eql 56 y50 (.int .u8 2)) h) h) fun y51 h=>
 aa (ai (aR y44==some false) (match y48 with | .bool t=>some (if t then y51 else (.bool false),h)|_=>none) h) fun y52 h=>
 aa (ai (aR y44==some false) (some (y52,h)) h) fun y53 h=>
 aa (ai (aR y53==some true) (pu (aL y6 1) h) h) fun y54 h=>
 aa (ai (aR y53==some true) (cT 32 y54 h) h) fun y55 h=>
 aa (ai (aR y53==some true) (pu (aL (x 2) 1) h) h) fun y56 h=>
 aa (ai (aR y53==some true) (cT 32 y56 h) h) fun y57 h=>
 aa (ai (aR y53==some true) (pu (bin Tryd.prog .eql 35 y55 y57) h) h) fun y58 h=>
 aa (ai (aR y44==some false) (match y53 with | .bool t=>some (if t then y58 else (.bool false),h)|_=>none) h) fun y59 h=>
 aa (match y44 with | .bool t=>some (if t then (.bool true) else y59,h)|_=>none) fun y60 h=>
 (match y60 with
 | .bool true=>
 aa (some ((.bool true),h)) fun y4 h=>
 some (.ret,(aO 61 (up x [(4,y4),(6,y6),(7,y7),(8,y8),(9,y9),(10,y10),(13,y13),(14,y14),(15,y15),(16,y16),(17,y17),(18,y18),(19,y19),(20,y20),(21,y21),(22,y22),(23,y23),(24,y24),(25,y25),(26,y26),(27,y27),(28,y28),(29,y29),(30,y30),(31,y31),(32,y32),(33,y33),(34,y34),(35,y35),(36,y36),(37,y37),(38,y38),(39,y39),(40,y40),(41,y41),(42,y42),(43,y43),(44,y44),(45,y45),(46,y46),(47,y47),(48,y48),(49,y49),(50,y50),(51,y51),(52,y52),(53,y53),(54,y54),(55,y55),(56,y56),(57,y57),(58,y58),(59,y59),(60,y60)])),h)
 | .bool false=>
 aa (some ((x 5),h)) fun y11 h=>
 aa (pu (bin Tryd.prog .add 3 y11 (.int .i64 1)) h) fun y12 h=>
 aa (some (y12,h)) fun y5 h=>
 some (.normal,(aO 61 (up x [(5,y5),(6,y6),(7,y7),(8,y8),(9,y9),(10,y10),(11,y11),(12,y12),(13,y13),(14,y14),(15,y15),(16,y16),(17,y17),(18,y18),(19,y19),(20,y20),(21,y21),(22,y22),(23,y23),(24,y24),(25,y25),(26,y26),(27,y27),(28,y28),(29,y29),(30,y30),(31,y31),(32,y32),(33,y33),(34,y34),(35,y35),(36,y36),(37,y37),(38,y38),(39,y39),(40,y40),(41,y41),(42,y42),(43,y43),(44,y44),(45,y45),(46,y46),(47,y47),(48,y48),(49,y49),(50,y50),(51,y51),(52,y52),(53,y53),(54,y54),(55,y55),(56,y56),(57,y57),(58,y58),(59,y59),(60,y60)])),h)
 |_=>none)
 | .bool false=>
 some (.exit 0,(aO 61 (up x [(7,y7),(8,y8),(9,y9),(10,y10)])),h)
 |_=>none)
theorem t105_eq (C:ae) (x0 x1:Value) (h:ab):bw Tryd.prog C Tryd.f105 [x0,x1] h=t105 C x0 x1 h:=
 (aG Tryd.prog C Tryd.f105 [x0,x1] h (by kernel_rfl)).trans (by kernel_rfl)
theorem t105k105_1_eq (C:ae) (x:Nat→Value) (h:ab):k105_1 C (aO 61 x) h=t105k105_1 C x h:=
 bk (b:=(partOf Tryd.f105 [1,1])) (kE:=(aj Tryd.prog Tryd.f105.results.toList)) (rE:=(aj Tryd.prog Tryd.f105.results.toList)) (xE:=(fun _ _ _=>none)) (T:=t105k105_1 C) (fun x h=>by kernel_rfl) x h
theorem t105l105_1010_eq (C:ae) (x:Nat→Value) (h:ab):av Tryd.prog C (partOf Tryd.f105 [1,0,1,0,0]) (aO 61 x) h=t105l105_1010 C x h:=
 aI (T:=t105l105_1010 C) (fun x h=>by kernel_rfl) x h
end Go.Proofs.YtdnahgfgoajmcaaDoor

namespace Go.Proofs.YtdnahgfgoajmcaaDoor
open Go Go.Abs
end Go.Proofs.YtdnahgfgoajmcaaDoor

namespace Go.Proofs.YtdnahgfgoajmcaaDoor
open Go Go.Abs
noncomputable def t55 (C:ae) (x0:Value) (h:ab):Out:=
 aa (dJ (List.replicate 32 (.int .u8 0)) h) fun y2 h=>
 aa (some (x0,h)) fun y4 h=>
 aa (pu (cN y4) h) fun y5 h=>
 aa (pu (bin Tryd.prog .eql 3 y5 (.int .i64 0)) h) fun y6 h=>
 (match y6 with
 | .bool true=>
 aa (C 108 [(.slice none 0 0)] h) fun y7 h=>
 aa (eT 32 y2 y7 h) fun _ h=>
 aj Tryd.prog Tryd.f55.results.toList (aO 27 (up (bs [x0]) [(2,y2),(4,y4),(5,y5),(6,y6),(7,y7)])) h
 | .bool false=>
 aa (some (x0,h)) fun y8 h=>
 aa (pu (cN y8) h) fun y9 h=>
 aa (pu (bin Tryd.prog .eql 3 y9 (.int .i64 1)) h) fun y10 h=>
 (match y10 with
 | .bool true=>
 aa (some (x0,h)) fun y11 h=>
 aa (pu (df 39 y11 (.int .i64 0)) h) fun y12 h=>
 aa (cT 39 y12 h) fun y13 h=>
 aa (C 72 [y13] h) fun y14 h=>
 aa (eT 32 y2 y14 h) fun _ h=>
 aj Tryd.prog Tryd.f55.results.toList (aO 27 (up (bs [x0]) [(2,y2),(4,y4),(5,y5),(6,y6),(8,y8),(9,y9),(10,y10),(11,y11),(12,y12),(13,y13),(14,y14)])) h
 | .bool false=>
 aa (some (x0,h)) fun y15 h=>
 aa (pu (cN y15) h) fun y16 h=>
 aa (C 109 [y16] h) fun y17 h=>
 aa (some (y17,h)) fun y3 h=>
 aa (some (x0,h)) fun y18 h=>
 aa (some (y3,h)) fun y19 h=>
 aa (pu (slR 39 y18 none (some y19) none) h) fun y20 h=>
 aa (C 55 [y20] h) fun y21 h=>
 aa (some (x0,h)) fun y22 h=>
 aa (some (y3,h)) fun y23 h=>
 aa (pu (slR 39 y22 (some y23) none none) h) fun y24 h=>
 aa (C 55 [y24] h) fun y25 h=>
 aa (C 110 [y21,y25] h) fun y26 h=>
 aa (eT 32 y2 y26 h) fun _ h=>
 aj Tryd.prog Tryd.f55.results.toList (aO 27 (up (bs [x0]) [(2,y2),(3,y3),(4,y4),(5,y5),(6,y6),(8,y8),(9,y9),(10,y10),(15,y15),(16,y16),(17,y17),(18,y18),(19,y19),(20,y20),(21,y21),(22,y22),(23,y23),(24,y24),(25,y25),(26,y26)])) h
 |_=>none)
 |_=>none)
theorem t55_eq (C:ae) (x0:Value) (h:ab):bw Tryd.prog C Tryd.f55 [x0] h=t55 C x0 h:=
 (aG Tryd.prog C Tryd.f55 [x0] h (by kernel_rfl)).trans (by kernel_rfl)
end Go.Proofs.YtdnahgfgoajmcaaDoor

namespace Go.Proofs.YtdnahgfgoajmcaaDoor
open Go Go.Abs
noncomputable def t58 (_C:ae) (x0 x1 x2:Value) (h:ab):Out:=
 aa (some ((.bool false),h)) fun _y6 h=>
 aa (some (x0,h)) fun y7 h=>
 aa (some (x1,h)) fun y8 h=>
 aa (cvBS y8 h) fun y9 h=>
 aa (pu (bin Tryd.prog .geq 9 y7 y9) h) fun y10 h=>
 aa (some (y10,h)) fun y11 h=>
 aa (ai (aR y11==some true) (some (x2,h)) h) fun y12 h=>
 aa (ai (aR y11==some true) (pu (cN y12) h) h) fun y13 h=>
 aa (ai (aR y11==some true) (pu (bin Tryd.prog .eql 3 y13 (.int .i64 0)) h) h) fun y14 h=>
 aa (ai (aR y11==some true) (some (y14,h)) h) fun y15 h=>
 aa (ai (aR y15==some false) (some (x0,h)) h) fun y16 h=>
 aa (ai (aR y15==some false) (some (x2,h)) h) fun y17 h=>
 aa (ai (aR y15==some false) (cvBS y17 h) h) fun y18 h=>
 aa (ai (aR y15==some false) (pu (bin Tryd.prog .lss 9 y16 y18) h) h) fun y19 h=>
 aa (ai (aR y11==some true) (match y15 with | .bool t=>some (if t then (.bool true) else y19,h)|_=>none) h) fun y20 h=>
 aa (match y11 with | .bool t=>some (if t then y20 else (.bool false),h)|_=>none) fun y21 h=>
 aa (some (y21,h)) fun y6_1 h=>
 some (y6_1,h)
theorem t58_eq (C:ae) (x0 x1 x2:Value) (h:ab):bw Tryd.prog C Tryd.f58 [x0,x1,x2] h=t58 C x0 x1 x2 h:=
 (aG Tryd.prog C Tryd.f58 [x0,x1,x2] h (by kernel_rfl)).trans (by kernel_rfl)
noncomputable def k21_2 (C:ae) (e:Env) (h:ab):Out:=cj Tryd.prog C (partOf Tryd.f21 [1,1,1]) e h (aj Tryd.prog Tryd.f21.results.toList) (aj Tryd.prog Tryd.f21.results.toList) (fun _ _ _=>none)
noncomputable def b21_4 (C:ae) (i:Nat) (e:Env) (h:ab):Out:=if i=0 then (k21_2 C) e h else (fun _ _ _=>none) i e h
noncomputable def t21 (C:ae) (x0 x1 x2:Value) (h:ab):Out:=
 aa (some ((.slice none 0 0),h)) fun y6 h=>
 aa (cO 39 (.agg #[(.int .u8 0),(.int .u8 0),(.int .u8 0),(.int .u8 0),(.int .u8 0),(.int .u8 0),(.int .u8 0),(.int .u8 0),(.int .u8 0),(.int .u8 0),(.int .u8 0),(.int .u8 0),(.int .u8 0),(.int .u8 0),(.int .u8 0),(.int .u8 0),(.int .u8 0),(.int .u8 0),(.int .u8 0),(.int .u8 0),(.int .u8 0),(.int .u8 0),(.int .u8 0),(.int .u8 0),(.int .u8 0),(.int .u8 0),(.int .u8 0),(.int .u8 0),(.int .u8 0),(.int .u8 0),(.int .u8 0),(.int .u8 0),(.int .u8 0),(.int .i64 0),(.int .u64 0),(.int .u64 0),(.bool false),(.int .i64 0),(.int .i64 0)]) 0 [] h) fun y9 h=>
 aa (some (y9,h)) fun y7 h=>
 aa (some ((.int .i64 0),h)) fun y8 h=>
 fl (iter (av Tryd.prog C (partOf Tryd.f21 [1,1,0,1,0,0])) rounds (aO 32 (up (bs [x0,x1,x2]) [(6,y6),(7,y7),(8,y8),(9,y9)])) h) (aj Tryd.prog Tryd.f21.results.toList) (b21_4 C)
noncomputable def t21k21_2 (_C:ae) (x:Nat→Value) (h:ab):Out:=
 aa (some ((x 7),h)) fun y31 h=>
 aa (some (y31,h)) fun y6 h=>
 some (y6,h)
noncomputable def t21l21_11010 (C:ae) (x:Nat→Value) (h:ab):Option (Ex×Env×ab):=
 aa (some ((x 8),h)) fun y10 h=>
 aa (some ((x 0),h)) fun y11 h=>
 aa (pu (cN y11) h) fun y12 h=>
 aa (pu (bin Tryd.prog .lss 3 y10 y12) h) fun y13 h=>
 (match y13 with
 | .bool true=>
 aa (some ((x 0),h)) fun y16 h=>
 aa (some ((x 8),h)) fun y17 h=>
 aa (pu (df 39 y16 y17) h) fun y18 h=>
 aa (cT 39 y18 h) fun y19 h=>
 aa (C 59 [y19] h) fun y20 h=>
 aa (some ((x 1),h)) fun y21 h=>
 aa (some ((x 2),h)) fun y22 h=>
 aa (C 58 [y20,y21,y22] h) fun y23 h=>
 (match y23 with
 | .bool true=>
 aa (some ((x 7),h)) fun y24 h=>
 aa (some ((x 0),h)) fun y25 h=>
 aa (some ((x 8),h)) fun y26 h=>
 aa (pu (df 39 y25 y26) h) fun y27 h=>
 aa (cT 39 y27 h) fun y28 h=>
 aa (cO 39 (.agg #[(.int .u8 0),(.int .u8 0),(.int .u8 0),(.int .u8 0),(.int .u8 0),(.int .u8 0),(.int .u8 0),(.int .u8 0),(.int .u8 0),(.int .u8 0),(.int .u8 0),(.int .u8 0),(.int .u8 0),(.int .u8 0),(.int .u8 0),(.int .u8 0),(.int .u8 0),(.int .u8 0),(.int .u8 0),(.int .u8 0),(.int .u8 0),(.int .u8 0),(.int .u8 0),(.int .u8 0),(.int .u8 0),(.int .u8 0),(.int .u8 0),(.int .u8 0),(.int .u8 0),(.int .u8 0),(.int .u8 0),(.int .u8 0),(.int .u8 0),(.int .i64 0),(.int .u64 0),(.int .u64 0),(.bool false),(.int .i64 0),(.int .i64 0)]) 1 [(0,y28)] h) fun y29 h=>
 aa (aD 39 88 y24 y29 h) fun y30 h=>
 aa (some (y30,h)) fun y7 h=>
 aa (some ((x 8),h)) fun y14 h=>
 aa (pu (bin Tryd.prog .add 3 y14 (.int .i64 1)) h) fun y15 h=>
 aa (some (y15,h)) fun y8 h=>
 some (.normal,(aO 32 (up x [(7,y7),(8,y8),(10,y10),(11,y11),(12,y12),(13,y13),(14,y14),(15,y15),(16,y16),(17,y17),(18,y18),(19,y19),(20,y20),(21,y21),(22,y22),(23,y23),(24,y24),(25,y25),(26,y26),(27,y27),(28,y28),(29,y29),(30,y30)])),h)
 | .bool false=>
 aa (some ((x 8),h)) fun y14 h=>
 aa (pu (bin Tryd.prog .add 3 y14 (.int .i64 1)) h) fun y15 h=>
 aa (some (y15,h)) fun y8 h=>
 some (.normal,(aO 32 (up x [(8,y8),(10,y10),(11,y11),(12,y12),(13,y13),(14,y14),(15,y15),(16,y16),(17,y17),(18,y18),(19,y19),(20,y20),(21,y21),(22,y22),(23,y23)])),h)
 |_=>none)
 | .bool false=>
 some (.exit 0,(aO 32 (up x [(10,y10),(11,y11),(12,y12),(13,y13)])),h)
 |_=>none)
theorem t21_eq (C:ae) (x0 x1 x2:Value) (h:ab):bw Tryd.prog C Tryd.f21 [x0,x1,x2] h=t21 C x0 x1 x2 h:=
 (aG Tryd.prog C Tryd.f21 [x0,x1,x2] h (by kernel_rfl)).trans (by kernel_rfl)
theorem t21k21_2_eq (C:ae) (x:Nat→Value) (h:ab):k21_2 C (aO 32 x) h=t21k21_2 C x h:=
 bk (b:=(partOf Tryd.f21 [1,1,1])) (kE:=(aj Tryd.prog Tryd.f21.results.toList)) (rE:=(aj Tryd.prog Tryd.f21.results.toList)) (xE:=(fun _ _ _=>none)) (T:=t21k21_2 C) (fun x h=>by kernel_rfl) x h
theorem t21l21_11010_eq (C:ae) (x:Nat→Value) (h:ab):av Tryd.prog C (partOf Tryd.f21 [1,1,0,1,0,0]) (aO 32 x) h=t21l21_11010 C x h:=
 aI (T:=t21l21_11010 C) (fun x h=>by kernel_rfl) x h
noncomputable def t18 (C:ae) (x0 x1 x2:Value) (h:ab):Out:=
 aa (dJ [(.int .u8 0),(.int .i64 0),(.int .i64 0),(.int .u64 0),(.int .i64 0),(.int .i64 0),(.slice none 0 0),(.slice none 0 0),(.slice none 0 0),(.int .i64 0),(.int .u8 0),(.int .u8 0),(.int .u8 0),(.int .u8 0),(.int .u8 0),(.int .u8 0),(.int .u8 0),(.int .u8 0),(.int .u8 0),(.int .u8 0),(.int .u8 0),(.int .u8 0),(.int .u8 0),(.int .u8 0),(.int .u8 0),(.int .u8 0),(.int .u8 0),(.int .u8 0),(.int .u8 0),(.int .u8 0),(.int .u8 0),(.int .u8 0),(.int .u8 0),(.int .u8 0),(.int .u8 0),(.int .u8 0),(.int .u8 0),(.int .u8 0),(.int .u8 0),(.int .u8 0),(.int .u8 0),(.int .u8 0),(.slice none 0 0),(.bool false),(.int .u8 0),(.int .u8 0),(.int .u8 0),(.int .u8 0),(.int .u8 0),(.int .u8 0),(.int .u8 0),(.int .u8 0),(.int .u8 0),(.int .u8 0),(.int .u8 0),(.int .u8 0),(.int .u8 0),(.int .u8 0),(.int .u8 0),(.int .u8 0),(.int .u8 0),(.int .u8 0),(.int .u8 0),(.int .u8 0),(.int .u8 0),(.int .u8 0),(.int .u8 0),(.int .u8 0),(.int .u8 0),(.int .u8 0),(.int .u8 0),(.int .u8 0),(.int .u8 0),(.int .u8 0),(.int .u8 0),(.int .u8 0),(.int .i64 0),(.int .i64 0),(.int .i64 0),(.int .i64 0),(.int .u8 0),(.int .u8 0),(.int .u8 0),(.int .u8 0),(.int .u8 0),(.int .u8 0),(.int .u8 0),(.int .u8 0),(.int .u8 0),(.int .u8 0),(.int .u8 0),(.int .u8 0),(.int .u8 0),(.int .u8 0),(.int .u8 0),(.int .u8 0),(.int .u8 0),(.int .u8 0),(.int .u8 0),(.int .u8 0),(.int .u8 0),(.int .u8 0),(.int .u8 0),(.int .u8 0),(.int .u8 0),(.int .u8 0),(.int .u8 0),(.int .u8 0),(.int .u8 0),(.int .u8 0),(.int .u8 0),(.int .u8 0),(.slice none 0 0),(.int .i64 0),(.slice none 0 0),(.int .i64 0)] h) fun y6 h=>
 aa (some (x0,h)) fun y8 h=>
 aa (some (x1,h)) fun y9 h=>
 aa (some (x2,h)) fun y10 h=>
 aa (C 21 [y8,y9,y10] h) fun y11 h=>
 aa (some (y11,h)) fun y7 h=>
 aa (cO 1 (.int .u8 0) 0 [] h) fun y12 h=>
 aa (some (x1,h)) fun y13 h=>
 aa (aD 1 1 y12 y13 h) fun y14 h=>
 aa (cO 1 (.int .u8 0) 0 [] h) fun y15 h=>
 aa (some (x2,h)) fun y16 h=>
 aa (aD 1 1 y15 y16 h) fun y17 h=>
 aa (some (y7,h)) fun y18 h=>
 aa (pu (cN y18) h) fun y19 h=>
 aa (some (y7,h)) fun y20 h=>
 aa (C 55 [y20] h) fun y21 h=>
 aa (pu (eW [(.int .u8 0),(.int .i64 0),(.int .i64 0),(.int .u64 0),(.int .i64 0),(.int .i64 0),(.slice none 0 0),(.slice none 0 0),(.slice none 0 0),(.int .i64 0),(.int .u8 0),(.int .u8 0),(.int .u8 0),(.int .u8 0),(.int .u8 0),(.int .u8 0),(.int .u8 0),(.int .u8 0),(.int .u8 0),(.int .u8 0),(.int .u8 0),(.int .u8 0),(.int .u8 0),(.int .u8 0),(.int .u8 0),(.int .u8 0),(.int .u8 0),(.int .u8 0),(.int .u8 0),(.int .u8 0),(.int .u8 0),(.int .u8 0),(.int .u8 0),(.int .u8 0),(.int .u8 0),(.int .u8 0),(.int .u8 0),(.int .u8 0),(.int .u8 0),(.int .u8 0),(.int .u8 0),(.int .u8 0),(.slice none 0 0),(.bool false),(.int .u8 0),(.int .u8 0),(.int .u8 0),(.int .u8 0),(.int .u8 0),(.int .u8 0),(.int .u8 0),(.int .u8 0),(.int .u8 0),(.int .u8 0),(.int .u8 0),(.int .u8 0),(.int .u8 0),(.int .u8 0),(.int .u8 0),(.int .u8 0),(.int .u8 0),(.int .u8 0),(.int .u8 0),(.int .u8 0),(.int .u8 0),(.int .u8 0),(.int .u8 0),(.int .u8 0),(.int .u8 0),(.int .u8 0),(.int .u8 0),(.int .u8 0),(.int .u8 0),(.int .u8 0),(.int .u8 0),(.int .u8 0),(.int .i64 0),(.int .i64 0),(.int .i64 0),(.int .i64 0),(.int .u8 0),(.int .u8 0),(.int .u8 0),(.int .u8 0),(.int .u8 0),(.int .u8 0),(.int .u8 0),(.int .u8 0),(.int .u8 0),(.int .u8 0),(.int .u8 0),(.int .u8 0),(.int .u8 0),(.int .u8 0),(.int .u8 0),(.int .u8 0),(.int .u8 0),(.int .u8 0),(.int .u8 0),(.int .u8 0),(.int .u8 0),(.int .u8 0),(.int .u8 0),(.int .u8 0),(.int .u8 0),(.int .u8 0),(.int .u8 0),(.int .u8 0),(.int .u8 0),(.int .u8 0),(.int .u8 0),(.int .u8 0),(.slice none 0 0),(.int .i64 0),(.slice none 0 0),(.int .i64 0)] [(0,1,(.int .u8 4)),(7,1,y14),(8,1,y17),(9,1,y19),(10,32,y21)]) h) fun y22 h=>
 aa (eT 116 y6 y22 h) fun _ h=>
 aj Tryd.prog Tryd.f18.results.toList (aO 23 (up (bs [x0,x1,x2]) [(6,y6),(7,y7),(8,y8),(9,y9),(10,y10),(11,y11),(12,y12),(13,y13),(14,y14),(15,y15),(16,y16),(17,y17),(18,y18),(19,y19),(20,y20),(21,y21),(22,y22)])) h
theorem t18_eq (C:ae) (x0 x1 x2:Value) (h:ab):bw Tryd.prog C Tryd.f18 [x0,x1,x2] h=t18 C x0 x1 x2 h:=
 (aG Tryd.prog C Tryd.f18 [x0,x1,x2] h (by kernel_rfl)).trans (by kernel_rfl)
end Go.Proofs.YtdnahgfgoajmcaaDoor

namespace Go.Proofs.YtdnahgfgoajmcaaDoor
open Go Go.Abs
end Go.Proofs.YtdnahgfgoajmcaaDoor

namespace Go.Proofs.YtdnahgfgoajmcaaDoor
open Go Go.Abs
noncomputable def t22 (C:ae) (x0 x1:Value) (h:ab):Out:=
 aa (box x0 h) fun y2 h=>
 aa (box x1 h) fun y3 h=>
 aa (some ((.bool false),h)) fun _y4 h=>
 aa (pu (aL y2 0) h) fun y5 h=>
 aa (ld1 y5 h) fun y6 h=>
 aa (pu (aL y3 0) h) fun y7 h=>
 aa (ld1 y7 h) fun y8 h=>
 aa (pu (bin Tryd.prog .neq 31 y6 y8) h) fun y9 h=>
 aa (some (y9,h)) fun y10 h=>
 aa (ai (aR y10==some false) (pu (aL y2 1) h) h) fun y11 h=>
 aa (ai (aR y10==some false) (ld1 y11 h) h) fun y12 h=>
 aa (ai (aR y10==some false) (pu (aL y3 1) h) h) fun y13 h=>
 aa (ai (aR y10==some false) (ld1 y13 h) h) fun y14 h=>
 aa (ai (aR y10==some false) (pu (bin Tryd.prog .neq 3 y12 y14) h) h) fun y15 h=>
 aa (match y10 with | .bool t=>some (if t then (.bool true) else y15,h)|_=>none) fun y16 h=>
 aa (some (y16,h)) fun y17 h=>
 aa (ai (aR y17==some false) (pu (aL y2 2) h) h) fun y18 h=>
 aa (ai (aR y17==some false) (ld1 y18 h) h) fun y19 h=>
 aa (ai (aR y17==some false) (pu (aL y3 2) h) h) fun y20 h=>
 aa (ai (aR y17==some false) (ld1 y20 h) h) fun y21 h=>
 aa (ai (aR y17==some false) (pu (bin Tryd.prog .neq 3 y19 y21) h) h) fun y22 h=>
 aa (match y17 with | .bool t=>some (if t then (.bool true) else y22,h)|_=>none) fun y23 h=>
 aa (some (y23,h)) fun y24 h=>
 aa (ai (aR y24==some false) (pu (aL y2 7) h) h) fun y25 h=>
 aa (ai (aR y24==some false) (ld1 y25 h) h) fun y26 h=>
 aa (ai (aR y24==some false) (cvBS y26 h) h) fun y27 h=>
 aa (ai (aR y24==some false) (pu (aL y3 7) h) h) fun y28 h=>
 aa (ai (aR y24==some false) (ld1 y28 h) h) fun y29 h=>
 aa (ai (aR y24==some false) (cvBS y29 h) h) fun y30 h=>
 aa (ai (aR y24==some false) (pu (bin Tryd.prog .neq 9 y27 y30) h) h) fun y31 h=>
 aa (match y24 with | .bool t=>some (if t then (.bool true) else y31,h)|_=>none) fun y32 h=>
 aa (some (y32,h)) fun y33 h=>
 aa (ai (aR y33==some false) (pu (aL y2 8) h) h) fun y34 h=>
 aa (ai (aR y33==some false) (ld1 y34 h) h) fun y35 h=>
 aa (ai (aR y33==some false) (cvBS y35 h) h) fun y36 h=>
 aa (ai (aR y33==some false) (pu (aL y3 8) h) h) fun y37 h=>
 aa (ai (aR y33==some false) (ld1 y37 h) h) fun y38 h=>
 aa (ai (aR y33==some false) (cvBS y38 h) h) fun y39 h=>
 aa (ai (aR y33==some false) (pu (bin Tryd.prog .neq 9 y36 y39) h) h) fun y40 h=>
 aa (match y33 with | .bool t=>some (if t then (.bool true) else y40,h)|_=>none) fun y41 h=>
 aa (some (y41,h)) fun y42 h=>
 aa (ai (aR y42==some false) (pu (aL y2 9) h) h) fun y43 h=>
 aa (ai (aR y42==some false) (ld1 y43 h) h) fun y44 h=>
 aa (ai (aR y42==some false) (pu (aL y3 9) h) h) fun y45 h=>
 aa (ai (aR y42==some false) (ld1 y45 h) h) fun y46 h=>
 aa (ai (aR y42==some false) (pu (bin Tryd.prog .neq 3 y44 y46) h) h) fun y47 h=>
 aa (match y42 with | .bool t=>some (if t then (.bool true) else y47,h)|_=>none) fun y48 h=>
 aa (some (y48,h)) fun y49 h=>
 aa (ai (aR y49==some false) (pu (aL y2 10) h) h) fun y50 h=>
 aa (ai (aR y49==some false) (cT 32 y50 h) h) fun y51 h=>
 aa (ai (aR y49==some false) (pu (aL y3 10) h) h) fun y52 h=>
 aa (ai (aR y49==some false) (cT 32 y52 h) h) fun y53 h=>
 aa (ai (aR y49==some false) (pu (bin Tryd.prog .neq 35 y51 y53) h) h) fun y54 h=>
 aa (match y49 with | .bool t=>some (if t then (.bool true) else y54,h)|_=>none) fun y55 h=>
 aa (some (y55,h)) fun y56 h=>
 aa (ai (aR y56==some false) (pu (aL y2 43) h) h) fun y57 h=>
 aa (ai (aR y56==some false) (ld1 y57 h) h) fun y58 h=>
 aa (ai (aR y56==some false) (pu (aL y3 43) h) h) fun y59 h=>
 aa (ai (aR y56==some false) (ld1 y59 h) h) fun y60 h=>
 aa (ai (aR y56==some false) (pu (bin Tryd.prog .neq 4 y58 y60) h) h) fun y61 h=>
 aa (match y56 with | .bool t=>some (if t then (.bool true) else y61,h)|_=>none) fun y62 h=>
 aa (some (y62,h)) fun y63 h=>
 aa (ai (aR y63==some false) (pu (aL y2 42) h) h) fun y64 h=>
 aa (ai (aR y63==some false) (ld1 y64 h) h) fun y65 h=>
 aa (ai (aR y63==some false) (pu (aL y3 42) h) h) fun y66 h=>
 aa (ai (aR y63==some false) (ld1 y66 h) h) fun y67 h=>
 aa (ai (aR y63==some false) (C 19 [y65,y67] h) h) fun y68 h=>
 aa (ai (aR y63==some false) (pu (unA .not y68) h) h) fun y69 h=>
 aa (match y63 with | .bool t=>some (if t then (.bool true) else y69,h)|_=>none) fun y70 h=>
 (match y70 with
 | .bool true=>
 aa (some ((.bool false),h)) fun y4_1 h=>
 some (y4_1,h)
 | .bool false=>
 aa (pu (aL y2 3) h) fun y71 h=>
 aa (ld1 y71 h) fun y72 h=>
 aa (pu (bin Tryd.prog .eql 32 y72 (.int .u64 0)) h) fun y73 h=>
 aa (some (y73,h)) fun y74 h=>
 aa (ai (aR y74==some true) (pu (aL y2 4) h) h) fun y75 h=>
 aa (ai (aR y74==some true) (ld1 y75 h) h) fun y76 h=>
 aa (ai (aR y74==some true) (pu (bin Tryd.prog .eql 3 y76 (.int .i64 0)) h) h) fun y77 h=>
 aa (match y74 with | .bool t=>some (if t then y77 else (.bool false),h)|_=>none) fun y78 h=>
 aa (some (y78,h)) fun y79 h=>
 aa (ai (aR y79==some true) (pu (aL y2 5) h) h) fun y80 h=>
 aa (ai (aR y79==some true) (ld1 y80 h) h) fun y81 h=>
 aa (ai (aR y79==some true) (pu (bin Tryd.prog .eql 3 y81 (.int .i64 0)) h) h) fun y82 h=>
 aa (match y79 with | .bool t=>some (if t then y82 else (.bool false),h)|_=>none) fun y83 h=>
 aa (some (y83,h)) fun y84 h=>
 aa (ai (aR y84==some true) (pu (aL y2 6) h) h) fun y85 h=>
 aa (ai (aR y84==some true) (ld1 y85 h) h) fun y86 h=>
 aa (ai (aR y84==some true) (pu (cN y86) h) h) fun y87 h=>
 aa (ai (aR y84==some true) (pu (bin Tryd.prog .eql 3 y87 (.int .i64 0)) h) h) fun y88 h=>
 aa (match y84 with | .bool t=>some (if t then y88 else (.bool false),h)|_=>none) fun y89 h=>
 aa (some (y89,h)) fun y90 h=>
 aa (ai (aR y90==some true) (pu (aL y2 44) h) h) fun y91 h=>
 aa (ai (aR y90==some true) (cT 32 y91 h) h) fun y92 h=>
 aa (ai (aR y90==some true) (pu (eW (List.replicate 32 (.int .u8 0)) []) h) h) fun y93 h=>
 aa (ai (aR y90==some true) (pu (bin Tryd.prog .eql 35 y92 y93) h) h) fun y94 h=>
 aa (match y90 with | .bool t=>some (if t then y94 else (.bool false),h)|_=>none) fun y95 h=>
 aa (some (y95,h)) fun y96 h=>
 aa (ai (aR y96==some true) (pu (aL y2 76) h) h) fun y97 h=>
 aa (ai (aR y96==some true) (pu (aL y97 2) h) h) fun y98 h=>
 aa (ai (aR y96==some true) (ld1 y98 h) h) fun y99 h=>
 aa (ai (aR y96==some true) (pu (bin Tryd.prog .eql 3 y99 (.int .i64 0)) h) h) fun y100 h=>
 aa (match y96 with | .bool t=>some (if t then y100 else (.bool false),h)|_=>none) fun y101 h=>
 aa (some (y101,h)) fun y102 h=>
 aa (ai (aR y102==some true) (pu (aL y2 76) h) h) fun y103 h=>
 aa (ai (aR y102==some true) (pu (aL y103 36) h) h) fun y104 h=>
 aa (ai (aR y102==some true) (ld1 y104 h) h) fun y105 h=>
 aa (ai (aR y102==some true) (pu (cN y105) h) h) fun y106 h=>
 aa (ai (aR y102==some true) (pu (bin Tryd.prog .eql 3 y106 (.int .i64 0)) h) h) fun y107 h=>
 aa (match y102 with | .bool t=>some (if t then y107 else (.bool false),h)|_=>none) fun y108 h=>
 aa (some (y108,h)) fun y109 h=>
 aa (ai (aR y109==some true) (pu (aL y2 113) h) h) fun y110 h=>
 aa (ai (aR y109==some true) (pu (aL y110 0) h) h) fun y111 h=>
 aa (ai (aR y109==some true) (ld1 y111 h) h) fun y112 h=>
 aa (ai (aR y109==some true) (pu (bin Tryd.prog .eql 3 y112 (.int .i64 0)) h) h) fun y113 h=>
 aa (match y109 with | .bool t=>some (if t then y113 else (.bool false),h)|_=>none) fun y114 h=>
 aa (some (y114,h)) fun y115 h=>
 aa (ai (aR y115==some true) (pu (aL y2 113) h) h) fun y116 h=>
 aa (ai (aR y115==some true) (pu (aL y116 1) h) h) fun y117 h=>
 aa (ai (aR y115==some true) (ld1 y117 h) h) fun y118 h=>
 aa (ai (aR y115==some true) (pu (cN y118) h) h) fun y119 h=>
 aa (ai (aR y115==some true) (pu (bin Tryd.prog .eql 3 y119 (.int .i64 0)) h) h) fun y120 h=>
 aa (match y115 with | .bool t=>some (if t then y120 else (.bool false),h)|_=>none) fun y121 h=>
 aa (some (y121,h)) fun y122 h=>
 aa (ai (aR y122==some true) (pu (aL y2 115) h) h) fun y123 h=>
 aa (ai (aR y122==some true) (ld1 y123 h) h) fun y124 h=>
 aa (ai (aR y122==some true) (pu (bin Tryd.prog .eql 26 y124 (.int .i64 0)) h) h) fun y125 h=>
 aa (match y122 with | .bool t=>some (if t then y125 else (.bool false),h)|_=>none) fun y126 h=>
 aa (some (y126,h)) fun y4_1 h=>
 some (y4_1,h)
 |_=>none)
theorem t22_eq (C:ae) (x0 x1:Value) (h:ab):bw Tryd.prog C Tryd.f22 [x0,x1] h=t22 C x0 x1 h:=
 (aG Tryd.prog C Tryd.f22 [x0,x1] h (by kernel_rfl)).trans (by kernel_rfl)
end Go.Proofs.YtdnahgfgoajmcaaDoor

namespace Go.Proofs.YtdnahgfgoajmcaaDoor
open Go Go.Abs
end Go.Proofs.YtdnahgfgoajmcaaDoor

namespace Go.Proofs.YtdnahgfgoajmcaaDoor
open Go Go.Abs
noncomputable def t3 (C:ae) (x0 x1 x2:Value) (h:ab):Out:=
 aa (some ((.bool false),h)) fun _y6 h=>
 aa (some (x0,h)) fun y16 h=>
 aa (pu (cN y16) h) fun y17 h=>
 aa (pu (bin Tryd.prog .gtr 3 y17 (.int .i64 100)) h) fun y18 h=>
 aa (some (y18,h)) fun y19 h=>
 aa (ai (aR y19==some false) (some (x1,h)) h) fun y20 h=>
 aa (ai (aR y19==some false) (pu (cN y20) h) h) fun y21 h=>
 aa (ai (aR y19==some false) (pu (bin Tryd.prog .gtr 3 y21 (.int .i64 100)) h) h) fun y22 h=>
 aa (match y19 with | .bool t=>some (if t then (.bool true) else y22,h)|_=>none) fun y23 h=>
 aa (some (y23,h)) fun y24 h=>
 aa (ai (aR y24==some false) (some (x2,h)) h) fun y25 h=>
 aa (ai (aR y24==some false) (pu (cN y25) h) h) fun y26 h=>
 aa (ai (aR y24==some false) (pu (bin Tryd.prog .gtr 3 y26 (.int .i64 100)) h) h) fun y27 h=>
 aa (match y24 with | .bool t=>some (if t then (.bool true) else y27,h)|_=>none) fun y28 h=>
 (match y28 with
 | .bool true=>
 aa (C 14 [] h) fun y29 h=>
 aa (some (y29,h)) fun y6_1 h=>
 some (y6_1,h)
 | .bool false=>
 aa (some (x0,h)) fun y31 h=>
 aa (C 15 [y31] h) fun y32 h=>
 aa (some (y32,h)) fun y30 h=>
 aa (pu (bm y30 0) h) fun y33 h=>
 aa (pu (bm y30 1) h) fun y34 h=>
 aa (some (y33,h)) fun y7 h=>
 aa (some (y34,h)) fun y8 h=>
 aa (some (x0,h)) fun y36 h=>
 aa (C 16 [(.slice none 0 0),y36] h) fun y37 h=>
 aa (some (y37,h)) fun y35 h=>
 aa (pu (bm y35 0) h) fun y38 h=>
 aa (pu (bm y35 1) h) fun y39 h=>
 aa (some (y38,h)) fun y9 h=>
 aa (some (y39,h)) fun y10 h=>
 aa (some (y8,h)) fun y40 h=>
 aa (some (y10,h)) fun y41 h=>
 aa (pu (bin Tryd.prog .neq 26 y40 y41) h) fun y42 h=>
 (match y42 with
 | .bool true=>
 aa (some ((.bool false),h)) fun y6_1 h=>
 some (y6_1,h)
 | .bool false=>
 aa (cO 1 (.int .u8 0) 0 [] h) fun y43 h=>
 aa (some (x1,h)) fun y44 h=>
 aa (aD 1 1 y43 y44 h) fun y45 h=>
 aa (cO 1 (.int .u8 0) 0 [] h) fun y46 h=>
 aa (some (x2,h)) fun y47 h=>
 aa (aD 1 1 y46 y47 h) fun y48 h=>
 aa (some (y45,h)) fun y11 h=>
 aa (some (y48,h)) fun y12 h=>
 aa (some (y7,h)) fun y49 h=>
 aa (some (y11,h)) fun y50 h=>
 aa (some (y12,h)) fun y51 h=>
 aa (C 17 [y49,y50,y51] h) fun y52 h=>
 aa (some (y9,h)) fun y53 h=>
 aa (some (x1,h)) fun y54 h=>
 aa (some (x2,h)) fun y55 h=>
 aa (C 18 [y53,y54,y55] h) fun y56 h=>
 aa (dJ [(.int .u8 0),(.int .i64 0),(.int .i64 0),(.int .u64 0),(.int .i64 0),(.int .i64 0),(.slice none 0 0),(.slice none 0 0),(.slice none 0 0),(.int .i64 0),(.int .u8 0),(.int .u8 0),(.int .u8 0),(.int .u8 0),(.int .u8 0),(.int .u8 0),(.int .u8 0),(.int .u8 0),(.int .u8 0),(.int .u8 0),(.int .u8 0),(.int .u8 0),(.int .u8 0),(.int .u8 0),(.int .u8 0),(.int .u8 0),(.int .u8 0),(.int .u8 0),(.int .u8 0),(.int .u8 0),(.int .u8 0),(.int .u8 0),(.int .u8 0),(.int .u8 0),(.int .u8 0),(.int .u8 0),(.int .u8 0),(.int .u8 0),(.int .u8 0),(.int .u8 0),(.int .u8 0),(.int .u8 0),(.slice none 0 0),(.bool false),(.int .u8 0),(.int .u8 0),(.int .u8 0),(.int .u8 0),(.int .u8 0),(.int .u8 0),(.int .u8 0),(.int .u8 0),(.int .u8 0),(.int .u8 0),(.int .u8 0),(.int .u8 0),(.int .u8 0),(.int .u8 0),(.int .u8 0),(.int .u8 0),(.int .u8 0),(.int .u8 0),(.int .u8 0),(.int .u8 0),(.int .u8 0),(.int .u8 0),(.int .u8 0),(.int .u8 0),(.int .u8 0),(.int .u8 0),(.int .u8 0),(.int .u8 0),(.int .u8 0),(.int .u8 0),(.int .u8 0),(.int .u8 0),(.int .i64 0),(.int .i64 0),(.int .i64 0),(.int .i64 0),(.int .u8 0),(.int .u8 0),(.int .u8 0),(.int .u8 0),(.int .u8 0),(.int .u8 0),(.int .u8 0),(.int .u8 0),(.int .u8 0),(.int .u8 0),(.int .u8 0),(.int .u8 0),(.int .u8 0),(.int .u8 0),(.int .u8 0),(.int .u8 0),(.int .u8 0),(.int .u8 0),(.int .u8 0),(.int .u8 0),(.int .u8 0),(.int .u8 0),(.int .u8 0),(.int .u8 0),(.int .u8 0),(.int .u8 0),(.int .u8 0),(.int .u8 0),(.int .u8 0),(.int .u8 0),(.int .u8 0),(.int .u8 0),(.slice none 0 0),(.int .i64 0),(.slice none 0 0),(.int .i64 0)] h) fun y13 h=>
 aa (dJ [(.int .u8 0),(.int .i64 0),(.int .i64 0),(.int .u64 0),(.int .i64 0),(.int .i64 0),(.slice none 0 0),(.slice none 0 0),(.slice none 0 0),(.int .i64 0),(.int .u8 0),(.int .u8 0),(.int .u8 0),(.int .u8 0),(.int .u8 0),(.int .u8 0),(.int .u8 0),(.int .u8 0),(.int .u8 0),(.int .u8 0),(.int .u8 0),(.int .u8 0),(.int .u8 0),(.int .u8 0),(.int .u8 0),(.int .u8 0),(.int .u8 0),(.int .u8 0),(.int .u8 0),(.int .u8 0),(.int .u8 0),(.int .u8 0),(.int .u8 0),(.int .u8 0),(.int .u8 0),(.int .u8 0),(.int .u8 0),(.int .u8 0),(.int .u8 0),(.int .u8 0),(.int .u8 0),(.int .u8 0),(.slice none 0 0),(.bool false),(.int .u8 0),(.int .u8 0),(.int .u8 0),(.int .u8 0),(.int .u8 0),(.int .u8 0),(.int .u8 0),(.int .u8 0),(.int .u8 0),(.int .u8 0),(.int .u8 0),(.int .u8 0),(.int .u8 0),(.int .u8 0),(.int .u8 0),(.int .u8 0),(.int .u8 0),(.int .u8 0),(.int .u8 0),(.int .u8 0),(.int .u8 0),(.int .u8 0),(.int .u8 0),(.int .u8 0),(.int .u8 0),(.int .u8 0),(.int .u8 0),(.int .u8 0),(.int .u8 0),(.int .u8 0),(.int .u8 0),(.int .u8 0),(.int .i64 0),(.int .i64 0),(.int .i64 0),(.int .i64 0),(.int .u8 0),(.int .u8 0),(.int .u8 0),(.int .u8 0),(.int .u8 0),(.int .u8 0),(.int .u8 0),(.int .u8 0),(.int .u8 0),(.int .u8 0),(.int .u8 0),(.int .u8 0),(.int .u8 0),(.int .u8 0),(.int .u8 0),(.int .u8 0),(.int .u8 0),(.int .u8 0),(.int .u8 0),(.int .u8 0),(.int .u8 0),(.int .u8 0),(.int .u8 0),(.int .u8 0),(.int .u8 0),(.int .u8 0),(.int .u8 0),(.int .u8 0),(.int .u8 0),(.int .u8 0),(.int .u8 0),(.int .u8 0),(.slice none 0 0),(.int .i64 0),(.slice none 0 0),(.int .i64 0)] h) fun y14 h=>
 aa (eT 116 y13 y52 h) fun _ h=>
 aa (eT 116 y14 y56 h) fun _ h=>
 aa (some (y7,h)) fun y57 h=>
 aa (some (y11,h)) fun y58 h=>
 aa (some (y12,h)) fun y59 h=>
 aa (C 20 [y57,y58,y59] h) fun y60 h=>
 aa (some (y9,h)) fun y61 h=>
 aa (some (x1,h)) fun y62 h=>
 aa (some (x2,h)) fun y63 h=>
 aa (C 21 [y61,y62,y63] h) fun y64 h=>
 aa (C 19 [y60,y64] h) fun y65 h=>
 aa (pu (unA .not y65) h) fun y66 h=>
 aa (some (y66,h)) fun y67 h=>
 aa (ai (aR y67==some false) (cT 116 y13 h) h) fun y68 h=>
 aa (ai (aR y67==some false) (cT 116 y14 h) h) fun y69 h=>
 aa (ai (aR y67==some false) (C 22 [y68,y69] h) h) fun y70 h=>
 aa (ai (aR y67==some false) (pu (unA .not y70) h) h) fun y71 h=>
 aa (match y67 with | .bool t=>some (if t then (.bool true) else y71,h)|_=>none) fun y72 h=>
 aa (some (y72,h)) fun y73 h=>
 aa (ai (aR y73==some false) (some (y11,h)) h) fun y74 h=>
 aa (ai (aR y73==some false) (cvBS y74 h) h) fun y75 h=>
 aa (ai (aR y73==some false) (some (x1,h)) h) fun y76 h=>
 aa (ai (aR y73==some false) (cvBS y76 h) h) fun y77 h=>
 aa (ai (aR y73==some false) (pu (bin Tryd.prog .neq 9 y75 y77) h) h) fun y78 h=>
 aa (match y73 with | .bool t=>some (if t then (.bool true) else y78,h)|_=>none) fun y79 h=>
 aa (some (y79,h)) fun y80 h=>
 aa (ai (aR y80==some false) (some (y12,h)) h) fun y81 h=>
 aa (ai (aR y80==some false) (cvBS y81 h) h) fun y82 h=>
 aa (ai (aR y80==some false) (some (x2,h)) h) fun y83 h=>
 aa (ai (aR y80==some false) (cvBS y83 h) h) fun y84 h=>
 aa (ai (aR y80==some false) (pu (bin Tryd.prog .neq 9 y82 y84) h) h) fun y85 h=>
 aa (match y80 with | .bool t=>some (if t then (.bool true) else y85,h)|_=>none) fun y86 h=>
 (match y86 with
 | .bool true=>
 aa (some ((.bool false),h)) fun y6_1 h=>
 some (y6_1,h)
 | .bool false=>
 aa (some (x1,h)) fun y87 h=>
 aa (pu (cN y87) h) fun y88 h=>
 aa (pu (bin Tryd.prog .gtr 3 y88 (.int .i64 0)) h) fun y89 h=>
 aa (some (y89,h)) fun y90 h=>
 aa (ai (aR y90==some true) (some (x2,h)) h) fun y91 h=>
 aa (ai (aR y90==some true) (pu (cN y91) h) h) fun y92 h=>
 aa (ai (aR y90==some true) (pu (bin Tryd.prog .gtr 3 y92 (.int .i64 0)) h) h) fun y93 h=>
 aa (match y90 with | .bool t=>some (if t then y93 else (.bool false),h)|_=>none) fun y94 h=>
 aa (some (y94,h)) fun y95 h=>
 aa (ai (aR y95==some true) (some (x1,h)) h) fun y96 h=>
 aa (ai (aR y95==some true) (cvBS y96 h) h) fun y97 h=>
 aa (ai (aR y95==some true) (some (x2,h)) h) fun y98 h=>
 aa (ai (aR y95==some true) (cvBS y98 h) h) fun y99 h=>
 aa (ai (aR y95==some true) (pu (bin Tryd.prog .leq 9 y97 y99) h) h) fun y100 h=>
 aa (match y95 with | .bool t=>some (if t then y100 else (.bool false),h)|_=>none) fun y101 h=>
 (match y101 with
 | .bool true=>
 aa (some (y7,h)) fun y102 h=>
 aa (some (y11,h)) fun y103 h=>
 aa (C 20 [y102,(.slice none 0 0),y103] h) fun y104 h=>
 aa (some (y7,h)) fun y105 h=>
 aa (some (y11,h)) fun y106 h=>
 aa (some (y12,h)) fun y107 h=>
 aa (C 20 [y105,y106,y107] h) fun y108 h=>
 aa (some (y7,h)) fun y109 h=>
 aa (some (y12,h)) fun y110 h=>
 aa (C 20 [y109,y110,(.slice none 0 0)] h) fun y111 h=>
 aa (aD 39 88 y108 y111 h) fun y112 h=>
 aa (aD 39 88 y104 y112 h) fun y113 h=>
 aa (some (y113,h)) fun y15 h=>
 aa (some (y15,h)) fun y114 h=>
 aa (some (y7,h)) fun y115 h=>
 aa (C 23 [y115] h) fun y116 h=>
 aa (C 19 [y114,y116] h) fun y117 h=>
 aa (pu (unA .not y117) h) fun y118 h=>
 (match y118 with
 | .bool true=>
 aa (some ((.bool false),h)) fun y6_1 h=>
 some (y6_1,h)
 | .bool false=>
 aa (C 14 [] h) fun y119 h=>
 aa (some (y119,h)) fun y6_1 h=>
 some (y6_1,h)
 |_=>none)
 | .bool false=>
 aa (C 14 [] h) fun y119 h=>
 aa (some (y119,h)) fun y6_1 h=>
 some (y6_1,h)
 |_=>none)
 |_=>none)
 |_=>none)
 |_=>none)
theorem t3_eq (C:ae) (x0 x1 x2:Value) (h:ab):bw Tryd.prog C Tryd.f3 [x0,x1,x2] h=t3 C x0 x1 x2 h:=
 (aG Tryd.prog C Tryd.f3 [x0,x1,x2] h (by kernel_rfl)).trans (by kernel_rfl)
end Go.Proofs.YtdnahgfgoajmcaaDoor

