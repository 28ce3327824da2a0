/-
  A part of the proof, spaces and names shortened by a program (a claim may hold 1,500,000 bytes).
  Conditions: as each theorem states.
-/
import Derived.Test.YtdnahgfgoajmcaaDoorG10
import Derived.Test.YtdnahgfgoajmcaaDoorProg
import Derived.KernelRfl
namespace Go.Proofs.YtdnahgfgoajmcaaDoor
open Go Go.Abs
end Go.Proofs.YtdnahgfgoajmcaaDoor

namespace Go.Proofs.YtdnahgfgoajmcaaDoor
open Go Go.Abs
noncomputable def t60 (C:CallF) (x0 x1:Value) (h:Heap):Out:=
 thenV (some ((.bool false),h)) fun _y4 h=>
 thenV (some (x0,h)) fun y5 h=>
 thenV (some (x1,h)) fun y6 h=>
 thenV (C 113 [y5,y6] h) fun y7 h=>
 thenV (pu (bin Tryd.prog .geq 3 y7 (.int .i64 0)) h) fun y8 h=>
 thenV (some (y8,h)) fun y4_1 h=>
 some (y4_1,h)
theorem t60_eq (C:CallF) (x0 x1:Value) (h:Heap):bodyK Tryd.prog C Tryd.f60 [x0,x1] h=t60 C x0 x1 h:=
 (bodyB_eq Tryd.prog C Tryd.f60 [x0,x1] h (by kernel_rfl)).trans (by kernel_rfl)
noncomputable def t26 (_C:CallF) (x0:Value) (h:Heap):Out:=
 thenV (some ((.slice none 0 0),h)) fun _y2 h=>
 thenV (bslR 39 (.agg #[(.int .u8 0),(.int .u8 0),(.int .u8 0),(.int .u8 0),(.int .u8 0),(.int .u8 0),(.int .u8 0),(.int .u8 0),(.int .u8 0),(.int .u8 0),(.int .u8 0),(.int .u8 0),(.int .u8 0),(.int .u8 0),(.int .u8 0),(.int .u8 0),(.int .u8 0),(.int .u8 0),(.int .u8 0),(.int .u8 0),(.int .u8 0),(.int .u8 0),(.int .u8 0),(.int .u8 0),(.int .u8 0),(.int .u8 0),(.int .u8 0),(.int .u8 0),(.int .u8 0),(.int .u8 0),(.int .u8 0),(.int .u8 0),(.int .u8 0),(.int .i64 0),(.int .u64 0),(.int .u64 0),(.bool false),(.int .i64 0),(.int .i64 0)]) 0 [] h) fun y3 h=>
 thenV (some (x0,h)) fun y4 h=>
 thenV (appendA 39 88 y3 y4 h) fun y5 h=>
 thenV (some (y5,h)) fun y2_1 h=>
 some (y2_1,h)
theorem t26_eq (C:CallF) (x0:Value) (h:Heap):bodyK Tryd.prog C Tryd.f26 [x0] h=t26 C x0 h:=
 (bodyB_eq Tryd.prog C Tryd.f26 [x0] h (by kernel_rfl)).trans (by kernel_rfl)
end Go.Proofs.YtdnahgfgoajmcaaDoor

namespace Go.Proofs.YtdnahgfgoajmcaaDoor
open Go Go.Abs
end Go.Proofs.YtdnahgfgoajmcaaDoor

namespace Go.Proofs.YtdnahgfgoajmcaaDoor
open Go Go.Abs
noncomputable def k113_1 (C:CallF) (e:Env) (h:Heap):Out:=codeK Tryd.prog C (partOf Tryd.f113 [1,1]) e h (resultsA Tryd.prog Tryd.f113.results.toList) (resultsA Tryd.prog Tryd.f113.results.toList) (fun _ _ _=>none)
noncomputable def b113_3 (C:CallF) (i:Nat) (e:Env) (h:Heap):Out:=if i=0 then (k113_1 C) e h else (fun _ _ _=>none) i e h
noncomputable def t113 (C:CallF) (x0 x1:Value) (h:Heap):Out:=
 thenV (some ((.int .i64 0),h)) fun y4 h=>
 thenV (some (x0,h)) fun y6 h=>
 thenV (pu (lenL y6) h) fun y7 h=>
 thenV (some ((.int .i64 0),h)) fun y8 h=>
 endL (iter (codeA Tryd.prog C (partOf Tryd.f113 [1,0,1,0,0])) rounds (mkF 19 (up (bs [x0,x1]) [(4,y4),(6,y6),(7,y7),(8,y8)])) h) (resultsA Tryd.prog Tryd.f113.results.toList) (b113_3 C)
noncomputable def t113k113_1 (_C:CallF) (_x:Nat→Value) (h:Heap):Out:=
 thenV (some ((.int .i64 (-1)),h)) fun y4 h=>
 some (y4,h)
noncomputable def t113l113_1010 (C:CallF) (x:Nat→Value) (h:Heap):Option (Ex×Env×Heap):=
 thenV (pu (bin Tryd.prog .lss 3 (x 8) (x 7)) h) fun y9 h=>
 (match y9 with
 | .bool true=>
 thenV (some ((x 8),h)) fun y10 h=>
 thenV (some (y10,h)) fun y5 h=>
 thenV (some ((x 1),h)) fun y11 h=>
 thenV (some ((x 0),h)) fun y12 h=>
 thenV (some (y5,h)) fun y13 h=>
 thenV (pu (idxS 39 y12 y13) h) fun y14 h=>
 thenV (ldN 39 y14 h) fun y15 h=>
 thenV (callA Tryd.prog C y11 [y15] h) fun y16 h=>
 (match y16 with
 | .bool true=>
 thenV (some (y5,h)) fun y17 h=>
 thenV (some (y17,h)) fun y4 h=>
 some (.ret,(mkF 19 (up x [(4,y4),(5,y5),(9,y9),(10,y10),(11,y11),(12,y12),(13,y13),(14,y14),(15,y15),(16,y16),(17,y17)])),h)
 | .bool false=>
 thenV (pu (bin Tryd.prog .add 3 (x 8) (.int .i64 1)) h) fun y18 h=>
 thenV (some (y18,h)) fun y8 h=>
 some (.normal,(mkF 19 (up x [(5,y5),(8,y8),(9,y9),(10,y10),(11,y11),(12,y12),(13,y13),(14,y14),(15,y15),(16,y16),(18,y18)])),h)
 |_=>none)
 | .bool false=>
 some (.exit 0,(mkF 19 (up x [(9,y9)])),h)
 |_=>none)
theorem t113_eq (C:CallF) (x0 x1:Value) (h:Heap):bodyK Tryd.prog C Tryd.f113 [x0,x1] h=t113 C x0 x1 h:=
 (bodyB_eq Tryd.prog C Tryd.f113 [x0,x1] h (by kernel_rfl)).trans (by kernel_rfl)
theorem t113k113_1_eq (C:CallF) (x:Nat→Value) (h:Heap):k113_1 C (mkF 19 x) h=t113k113_1 C x h:=
 link_partF (b:=(partOf Tryd.f113 [1,1])) (kE:=(resultsA Tryd.prog Tryd.f113.results.toList)) (rE:=(resultsA Tryd.prog Tryd.f113.results.toList)) (xE:=(fun _ _ _=>none)) (T:=t113k113_1 C) (fun x h=>by kernel_rfl) x h
theorem t113l113_1010_eq (C:CallF) (x:Nat→Value) (h:Heap):codeA Tryd.prog C (partOf Tryd.f113 [1,0,1,0,0]) (mkF 19 x) h=t113l113_1010 C x h:=
 link_roundF (T:=t113l113_1010 C) (fun x h=>by kernel_rfl) x h
end Go.Proofs.YtdnahgfgoajmcaaDoor

namespace Go.Proofs.YtdnahgfgoajmcaaDoor
open Go Go.Abs
noncomputable def b25_5 (_C:CallF) (i:Nat) (e:Env) (h:Heap):Option (Ex×Env×Heap):=if i=0 then (fun e h=>some (Ex.normal,e,h)) e h else (fun i e h=>some (Ex.exit i,e,h)) i e h
noncomputable def k25_19 (C:CallF) (e:Env) (h:Heap):Option (Ex×Env×Heap):=codeK Tryd.prog C (partOf Tryd.f25 [1,1,1,1,0,1,0,0,1,1,1]) e h (fun e h=>some (Ex.normal,e,h)) (fun e h=>some (Ex.ret,e,h)) (fun i e h=>some (Ex.exit i,e,h))
noncomputable def b25_20 (C:CallF) (i:Nat) (e:Env) (h:Heap):Option (Ex×Env×Heap):=if i=1 then (k25_19 C) e h else (fun i e h=>some (Ex.exit i,e,h)) i e h
noncomputable def b25_23 (C:CallF) (i:Nat) (e:Env) (h:Heap):Option (Ex×Env×Heap):=if i=2 then (k25_19 C) e h else (b25_20 C) i e h
noncomputable def t25p25_0 (_C:CallF) (x:Nat→Value) (h:Heap):Option (Ex×Env×Heap):=
 thenV (some ((.int .i64 0),h)) fun y4 h=>
 some (.normal,(mkF 103 (up x [(4,y4)])),h)
noncomputable def t25p25_10 (_C:CallF) (x:Nat→Value) (h:Heap):Option (Ex×Env×Heap):=
 thenV (some ((x 0),h)) fun y18 h=>
 thenV (pu (bin Tryd.prog .eql 25 y18 (.pointer none)) h) fun y19 h=>
 (match y19 with
 | .bool true=>
 thenV (some ((.int .i64 1),h)) fun y4 h=>
 some (.ret,(mkF 103 (up x [(4,y4),(18,y18),(19,y19)])),h)
 | .bool false=>
 some (.normal,(mkF 103 (up x [(18,y18),(19,y19)])),h)
 |_=>none)
noncomputable def t25p25_110 (C:CallF) (x:Nat→Value) (h:Heap):Option (Ex×Env×Heap):=
 thenV (some ((x 1),h)) fun y20 h=>
 thenV (C 60 [y20,(.func (.func 61) #[] #[])] h) fun y21 h=>
 (match y21 with
 | .bool true=>
 thenV (some ((.int .i64 2),h)) fun y4 h=>
 some (.ret,(mkF 103 (up x [(4,y4),(20,y20),(21,y21)])),h)
 | .bool false=>
 some (.normal,(mkF 103 (up x [(20,y20),(21,y21)])),h)
 |_=>none)
noncomputable def t25p25_1110 (_C:CallF) (x:Nat→Value) (h:Heap):Option (Ex×Env×Heap):=
 thenV (makeMapA none Tryd.prog 98 h) fun y22 h=>
 thenV (some (y22,h)) fun y5 h=>
 some (.normal,(mkF 103 (up x [(5,y5),(22,y22)])),h)
noncomputable def t25p25_11110 (C:CallF) (x:Nat→Value) (h:Heap):Option (Ex×Env×Heap):=
 thenV (some ((x 0),h)) fun y23 h=>
 thenV (pu (nilCheckA y23) h) fun y24 h=>
 thenV (pu (addP y24 0) h) fun y25 h=>
 thenV (ld1 y25 h) fun y26 h=>
 thenV (some ((x 1),h)) fun y27 h=>
 thenV (bslR 1 (.slice none 0 0) 2 [(0,y26),(1,y27)] h) fun y28 h=>
 thenV (pu (lenL y28) h) fun y29 h=>
 thenV (some ((.int .i64 0),h)) fun y30 h=>
 endL (iter (codeA Tryd.prog C (partOf Tryd.f25 [1,1,1,1,0,1,0,0])) rounds (mkF 103 (up x [(23,y23),(24,y24),(25,y25),(26,y26),(27,y27),(28,y28),(29,y29),(30,y30)])) h) (fun e h=>some (Ex.ret,e,h)) (b25_5 C)
noncomputable def t25p25_111110 (_C:CallF) (x:Nat→Value) (h:Heap):Option (Ex×Env×Heap):=
 thenV (bslR 39 (.agg #[(.int .u8 0),(.int .u8 0),(.int .u8 0),(.int .u8 0),(.int .u8 0),(.int .u8 0),(.int .u8 0),(.int .u8 0),(.int .u8 0),(.int .u8 0),(.int .u8 0),(.int .u8 0),(.int .u8 0),(.int .u8 0),(.int .u8 0),(.int .u8 0),(.int .u8 0),(.int .u8 0),(.int .u8 0),(.int .u8 0),(.int .u8 0),(.int .u8 0),(.int .u8 0),(.int .u8 0),(.int .u8 0),(.int .u8 0),(.int .u8 0),(.int .u8 0),(.int .u8 0),(.int .u8 0),(.int .u8 0),(.int .u8 0),(.int .u8 0),(.int .i64 0),(.int .u64 0),(.int .u64 0),(.bool false),(.int .i64 0),(.int .i64 0)]) 0 [] h) fun y61 h=>
 thenV (some (y61,h)) fun y12 h=>
 some (.normal,(mkF 103 (up x [(12,y12),(61,y61)])),h)
noncomputable def t25p25_11111100 (_C:CallF) (x:Nat→Value) (h:Heap):Option (Ex×Env×Heap):=
 thenV (some ((x 5),h)) fun y62 h=>
 thenV (rangeA Tryd.prog 98 y62 h) fun y63 h=>
 some (.normal,(mkF 103 (up x [(62,y62),(63,y63)])),h)
noncomputable def t25p25_11111101001 (_C:CallF) (x:Nat→Value) (h:Heap):Option (Ex×Env×Heap):=
 (match (x 65) with
 | .bool true=>
 thenV (entryA (x 63) h) fun y66 h=>
 thenV (pu (extractA y66 0) h) fun y67 h=>
 thenV (pu (extractA y66 1) h) fun y68 h=>
 thenV (newC [(.int .u8 0),(.int .u8 0),(.int .u8 0),(.int .u8 0),(.int .u8 0),(.int .u8 0),(.int .u8 0),(.int .u8 0),(.int .u8 0),(.int .u8 0),(.int .u8 0),(.int .u8 0),(.int .u8 0),(.int .u8 0),(.int .u8 0),(.int .u8 0),(.int .u8 0),(.int .u8 0),(.int .u8 0),(.int .u8 0),(.int .u8 0),(.int .u8 0),(.int .u8 0),(.int .u8 0),(.int .u8 0),(.int .u8 0),(.int .u8 0),(.int .u8 0),(.int .u8 0),(.int .u8 0),(.int .u8 0),(.int .u8 0),(.int .u8 0),(.int .i64 0)] h) fun y13 h=>
 thenV (newC [(.int .u8 0),(.int .u8 0),(.int .u8 0),(.int .u8 0),(.int .u8 0),(.int .u8 0),(.int .u8 0),(.int .u8 0),(.int .u8 0),(.int .u8 0),(.int .u8 0),(.int .u8 0),(.int .u8 0),(.int .u8 0),(.int .u8 0),(.int .u8 0),(.int .u8 0),(.int .u8 0),(.int .u8 0),(.int .u8 0),(.int .u8 0),(.int .u8 0),(.int .u8 0),(.int .u8 0),(.int .u8 0),(.int .u8 0),(.int .u8 0),(.int .u8 0),(.int .u8 0),(.int .u8 0),(.int .u8 0),(.int .u8 0),(.int .u8 0),(.int .i64 0),(.int .u64 0),(.int .u64 0),(.bool false),(.int .i64 0),(.int .i64 0)] h) fun y14 h=>
 thenV (stN 34 y13 y67 h) fun _ h=>
 thenV (stN 39 y14 y68 h) fun _ h=>
 thenV (pu (addP y13 0) h) fun y69 h=>
 thenV (ld1 y69 h) fun y70 h=>
 thenV (pu (bin Tryd.prog .eql 56 y70 (.int .u8 3)) h) fun y71 h=>
 (match y71 with
 | .bool true=>
 thenV (some ((x 5),h)) fun y72 h=>
 thenV (pu (addP y13 33) h) fun y73 h=>
 thenV (ld1 y73 h) fun y74 h=>
 thenV (pu (bldR [(.int .u8 0),(.int .u8 0),(.int .u8 0),(.int .u8 0),(.int .u8 0),(.int .u8 0),(.int .u8 0),(.int .u8 0),(.int .u8 0),(.int .u8 0),(.int .u8 0),(.int .u8 0),(.int .u8 0),(.int .u8 0),(.int .u8 0),(.int .u8 0),(.int .u8 0),(.int .u8 0),(.int .u8 0),(.int .u8 0),(.int .u8 0),(.int .u8 0),(.int .u8 0),(.int .u8 0),(.int .u8 0),(.int .u8 0),(.int .u8 0),(.int .u8 0),(.int .u8 0),(.int .u8 0),(.int .u8 0),(.int .u8 0),(.int .u8 0),(.int .i64 0)] [(0,1,(.int .u8 1)),(33,1,y74)]) h) fun y75 h=>
 thenV (lookupA Tryd.prog 98 y72 y75 false h) fun y76 h=>
 thenV (newC [(.int .u8 0),(.int .u8 0),(.int .u8 0),(.int .u8 0),(.int .u8 0),(.int .u8 0),(.int .u8 0),(.int .u8 0),(.int .u8 0),(.int .u8 0),(.int .u8 0),(.int .u8 0),(.int .u8 0),(.int .u8 0),(.int .u8 0),(.int .u8 0),(.int .u8 0),(.int .u8 0),(.int .u8 0),(.int .u8 0),(.int .u8 0),(.int .u8 0),(.int .u8 0),(.int .u8 0),(.int .u8 0),(.int .u8 0),(.int .u8 0),(.int .u8 0),(.int .u8 0),(.int .u8 0),(.int .u8 0),(.int .u8 0),(.int .u8 0),(.int .i64 0),(.int .u64 0),(.int .u64 0),(.bool false),(.int .i64 0),(.int .i64 0)] h) fun y15 h=>
 thenV (stN 39 y15 y76 h) fun _ h=>
 thenV (some ((x 5),h)) fun y78 h=>
 thenV (pu (addP y13 1) h) fun y79 h=>
 thenV (ldN 32 y79 h) fun y80 h=>
 thenV (pu (bldR [(.int .u8 0),(.int .u8 0),(.int .u8 0),(.int .u8 0),(.int .u8 0),(.int .u8 0),(.int .u8 0),(.int .u8 0),(.int .u8 0),(.int .u8 0),(.int .u8 0),(.int .u8 0),(.int .u8 0),(.int .u8 0),(.int .u8 0),(.int .u8 0),(.int .u8 0),(.int .u8 0),(.int .u8 0),(.int .u8 0),(.int .u8 0),(.int .u8 0),(.int .u8 0),(.int .u8 0),(.int .u8 0),(.int .u8 0),(.int .u8 0),(.int .u8 0),(.int .u8 0),(.int .u8 0),(.int .u8 0),(.int .u8 0),(.int .u8 0),(.int .i64 0)] [(0,1,(.int .u8 2)),(1,32,y80)]) h) fun y81 h=>
 thenV (lookupA Tryd.prog 98 y78 y81 true h) fun y82 h=>
 thenV (some (y82,h)) fun y77 h=>
 thenV (pu (extractA y77 0) h) fun y83 h=>
 thenV (pu (extractA y77 1) h) fun y84 h=>
 thenV (newC [(.int .u8 0),(.int .u8 0),(.int .u8 0),(.int .u8 0),(.int .u8 0),(.int .u8 0),(.int .u8 0),(.int .u8 0),(.int .u8 0),(.int .u8 0),(.int .u8 0),(.int .u8 0),(.int .u8 0),(.int .u8 0),(.int .u8 0),(.int .u8 0),(.int .u8 0),(.int .u8 0),(.int .u8 0),(.int .u8 0),(.int .u8 0),(.int .u8 0),(.int .u8 0),(.int .u8 0),(.int .u8 0),(.int .u8 0),(.int .u8 0),(.int .u8 0),(.int .u8 0),(.int .u8 0),(.int .u8 0),(.int .u8 0),(.int .u8 0),(.int .i64 0),(.int .u64 0),(.int .u64 0),(.bool false),(.int .i64 0),(.int .i64 0)] h) fun y16 h=>
 thenV (stN 39 y16 y83 h) fun _ h=>
 thenV (some (y84,h)) fun y17 h=>
 thenV (some (y17,h)) fun y85 h=>
 thenV (some (y85,h)) fun y86 h=>
 thenV (guardK (bOf y86==some false) (pu (addP y14 34) h) h) fun y87 h=>
 thenV (guardK (bOf y86==some false) (ld1 y87 h) h) fun y88 h=>
 thenV (guardK (bOf y86==some false) (pu (addP y15 34) h) h) fun y89 h=>
 thenV (guardK (bOf y86==some false) (ld1 y89 h) h) fun y90 h=>
 thenV (guardK (bOf y86==some false) (pu (bin Tryd.prog .lss 32 y88 y90) h) h) fun y91 h=>
 thenV (match y86 with | .bool t=>some (if t then (.bool true) else y91,h)|_=>none) fun y92 h=>
 (match y92 with
 | .bool true=>
 some (.normal,(mkF 103 (up x [(13,y13),(14,y14),(15,y15),(16,y16),(17,y17),(66,y66),(67,y67),(68,y68),(69,y69),(70,y70),(71,y71),(72,y72),(73,y73),(74,y74),(75,y75),(76,y76),(77,y77),(78,y78),(79,y79),(80,y80),(81,y81),(82,y82),(83,y83),(84,y84),(85,y85),(86,y86),(87,y87),(88,y88),(89,y89),(90,y90),(91,y91),(92,y92)])),h)
 | .bool false=>
 thenV (some ((x 12),h)) fun y93 h=>
 thenV (ldN 39 y14 h) fun y94 h=>
 thenV (bslR 39 (.agg #[(.int .u8 0),(.int .u8 0),(.int .u8 0),(.int .u8 0),(.int .u8 0),(.int .u8 0),(.int .u8 0),(.int .u8 0),(.int .u8 0),(.int .u8 0),(.int .u8 0),(.int .u8 0),(.int .u8 0),(.int .u8 0),(.int .u8 0),(.int .u8 0),(.int .u8 0),(.int .u8 0),(.int .u8 0),(.int .u8 0),(.int .u8 0),(.int .u8 0),(.int .u8 0),(.int .u8 0),(.int .u8 0),(.int .u8 0),(.int .u8 0),(.int .u8 0),(.int .u8 0),(.int .u8 0),(.int .u8 0),(.int .u8 0),(.int .u8 0),(.int .i64 0),(.int .u64 0),(.int .u64 0),(.bool false),(.int .i64 0),(.int .i64 0)]) 1 [(0,y94)] h) fun y95 h=>
 thenV (appendA 39 88 y93 y95 h) fun y96 h=>
 thenV (some (y96,h)) fun y12 h=>
 some (.normal,(mkF 103 (up x [(12,y12),(13,y13),(14,y14),(15,y15),(16,y16),(17,y17),(66,y66),(67,y67),(68,y68),(69,y69),(70,y70),(71,y71),(72,y72),(73,y73),(74,y74),(75,y75),(76,y76),(77,y77),(78,y78),(79,y79),(80,y80),(81,y81),(82,y82),(83,y83),(84,y84),(85,y85),(86,y86),(87,y87),(88,y88),(89,y89),(90,y90),(91,y91),(92,y92),(93,y93),(94,y94),(95,y95),(96,y96)])),h)
 |_=>none)
 | .bool false=>
 thenV (some ((x 12),h)) fun y93 h=>
 thenV (ldN 39 y14 h) fun y94 h=>
 thenV (bslR 39 (.agg #[(.int .u8 0),(.int .u8 0),(.int .u8 0),(.int .u8 0),(.int .u8 0),(.int .u8 0),(.int .u8 0),(.int .u8 0),(.int .u8 0),(.int .u8 0),(.int .u8 0),(.int .u8 0),(.int .u8 0),(.int .u8 0),(.int .u8 0),(.int .u8 0),(.int .u8 0),(.int .u8 0),(.int .u8 0),(.int .u8 0),(.int .u8 0),(.int .u8 0),(.int .u8 0),(.int .u8 0),(.int .u8 0),(.int .u8 0),(.int .u8 0),(.int .u8 0),(.int .u8 0),(.int .u8 0),(.int .u8 0),(.int .u8 0),(.int .u8 0),(.int .i64 0),(.int .u64 0),(.int .u64 0),(.bool false),(.int .i64 0),(.int .i64 0)]) 1 [(0,y94)] h) fun y95 h=>
 thenV (appendA 39 88 y93 y95 h) fun y96 h=>
 thenV (some (y96,h)) fun y12 h=>
 some (.normal,(mkF 103 (up x [(12,y12),(13,y13),(14,y14),(66,y66),(67,y67),(68,y68),(69,y69),(70,y70),(71,y71),(93,y93),(94,y94),(95,y95),(96,y96)])),h)
 |_=>none)
 | .bool false=>
 some (.exit 4,(mkF 103 (up x [])),h)
 |_=>none)
noncomputable def t25p25_1111111 (C:CallF) (x:Nat→Value) (h:Heap):Option (Ex×Env×Heap):=
 thenV (some ((x 12),h)) fun y97 h=>
 thenV (C 64 [y97,(.func (.func 65) #[] #[])] h) fun y98 h=>
 thenV (some ((x 0),h)) fun y99 h=>
 thenV (some ((x 12),h)) fun y100 h=>
 thenV (pu (nilCheckA y99) h) fun y101 h=>
 thenV (pu (addP y101 0) h) fun y102 h=>
 thenV (stN 1 y102 y100 h) fun _ h=>
 thenV (some ((.int .i64 0),h)) fun y4 h=>
 some (.ret,(mkF 103 (up x [(4,y4),(97,y97),(98,y98),(99,y99),(100,y100),(101,y101),(102,y102)])),h)
noncomputable def t25l25_1111010 (C:CallF) (x:Nat→Value) (h:Heap):Option (Ex×Env×Heap):=
 thenV (pu (bin Tryd.prog .lss 3 (x 30) (x 29)) h) fun y31 h=>
 (match y31 with
 | .bool true=>
 thenV (pu (idxS 1 (x 28) (x 30)) h) fun y32 h=>
 thenV (ld1 y32 h) fun y33 h=>
 thenV (some (y33,h)) fun y7 h=>
 thenV (some (y7,h)) fun y34 h=>
 thenV (pu (lenL y34) h) fun y35 h=>
 thenV (some ((.int .i64 0),h)) fun y36 h=>
 endL (iter (codeA Tryd.prog C (partOf Tryd.f25 [1,1,1,1,0,1,0,0,1,1,0,0,1,1,0,0])) rounds (mkF 103 (up x [(7,y7),(31,y31),(32,y32),(33,y33),(34,y34),(35,y35),(36,y36)])) h) (fun e h=>some (Ex.ret,e,h)) (b25_23 C)
 | .bool false=>
 some (.exit 0,(mkF 103 (up x [(31,y31)])),h)
 |_=>none)
noncomputable def t25k25_19 (_C:CallF) (x:Nat→Value) (h:Heap):Option (Ex×Env×Heap):=
 thenV (pu (bin Tryd.prog .add 3 (x 30) (.int .i64 1)) h) fun y60 h=>
 thenV (some (y60,h)) fun y30 h=>
 some (.normal,(mkF 103 (up x [(30,y30),(60,y60)])),h)
noncomputable def t25l25_111101001100110 (C:CallF) (x:Nat→Value) (h:Heap):Option (Ex×Env×Heap):=
 thenV (pu (bin Tryd.prog .lss 3 (x 36) (x 35)) h) fun y37 h=>
 (match y37 with
 | .bool true=>
 thenV (pu (idxS 39 (x 34) (x 36)) h) fun y38 h=>
 thenV (ldN 39 y38 h) fun y39 h=>
 thenV (newC [(.int .u8 0),(.int .u8 0),(.int .u8 0),(.int .u8 0),(.int .u8 0),(.int .u8 0),(.int .u8 0),(.int .u8 0),(.int .u8 0),(.int .u8 0),(.int .u8 0),(.int .u8 0),(.int .u8 0),(.int .u8 0),(.int .u8 0),(.int .u8 0),(.int .u8 0),(.int .u8 0),(.int .u8 0),(.int .u8 0),(.int .u8 0),(.int .u8 0),(.int .u8 0),(.int .u8 0),(.int .u8 0),(.int .u8 0),(.int .u8 0),(.int .u8 0),(.int .u8 0),(.int .u8 0),(.int .u8 0),(.int .u8 0),(.int .u8 0),(.int .i64 0),(.int .u64 0),(.int .u64 0),(.bool false),(.int .i64 0),(.int .i64 0)] h) fun y9 h=>
 thenV (stN 39 y9 y39 h) fun _ h=>
 thenV (some ((x 5),h)) fun y41 h=>
 thenV (ldN 39 y9 h) fun y42 h=>
 thenV (C 62 [y42] h) fun y43 h=>
 thenV (lookupA Tryd.prog 98 y41 y43 true h) fun y44 h=>
 thenV (some (y44,h)) fun y40 h=>
 thenV (pu (extractA y40 0) h) fun y45 h=>
 thenV (pu (extractA y40 1) h) fun y46 h=>
 thenV (newC [(.int .u8 0),(.int .u8 0),(.int .u8 0),(.int .u8 0),(.int .u8 0),(.int .u8 0),(.int .u8 0),(.int .u8 0),(.int .u8 0),(.int .u8 0),(.int .u8 0),(.int .u8 0),(.int .u8 0),(.int .u8 0),(.int .u8 0),(.int .u8 0),(.int .u8 0),(.int .u8 0),(.int .u8 0),(.int .u8 0),(.int .u8 0),(.int .u8 0),(.int .u8 0),(.int .u8 0),(.int .u8 0),(.int .u8 0),(.int .u8 0),(.int .u8 0),(.int .u8 0),(.int .u8 0),(.int .u8 0),(.int .u8 0),(.int .u8 0),(.int .i64 0),(.int .u64 0),(.int .u64 0),(.bool false),(.int .i64 0),(.int .i64 0)] h) fun y10 h=>
 thenV (stN 39 y10 y45 h) fun _ h=>
 thenV (some (y46,h)) fun y11 h=>
 thenV (some (y11,h)) fun y47 h=>
 thenV (pu (unA .not y47) h) fun y48 h=>
 thenV (some (y48,h)) fun y49 h=>
 thenV (guardK (bOf y49==some false) (ldN 39 y9 h) h) fun y50 h=>
 thenV (guardK (bOf y49==some false) (ldN 39 y10 h) h) fun y51 h=>
 thenV (guardK (bOf y49==some false) (C 63 [y50,y51] h) h) fun y52 h=>
 thenV (guardK (bOf y49==some false) (pu (bin Tryd.prog .gtr 3 y52 (.int .i64 0)) h) h) fun y53 h=>
 thenV (match y49 with | .bool t=>some (if t then (.bool true) else y53,h)|_=>none) fun y54 h=>
 (match y54 with
 | .bool true=>
 let g31_0:=h
 thenV (some ((x 5),g31_0)) fun y55 g31_1=>
 thenV (ldN 39 y9 g31_1) fun y56 g31_2=>
 thenV (C 62 [y56] g31_2) fun y57 g31_3=>
 thenV (ldN 39 y9 g31_3) fun y58 g31_4=>
 thenV (mapUpdateA Tryd.prog 98 y55 y57 y58 g31_4) fun _ g31_5=>
 (match (chkR true (ldN 39 y9 g31_2) y58&&true) with
 |true=>
 let h:=g31_5
 thenV (pu (bin Tryd.prog .add 3 (x 36) (.int .i64 1)) h) fun y59 h=>
 thenV (some (y59,h)) fun y36 h=>
 some (.normal,(mkF 103 (up x [(9,y9),(10,y10),(11,y11),(36,y36),(37,y37),(38,y38),(39,y39),(40,y40),(41,y41),(42,y42),(43,y43),(44,y44),(45,y45),(46,y46),(47,y47),(48,y48),(49,y49),(50,y50),(51,y51),(52,y52),(53,y53),(54,y54),(55,y55),(56,y56),(57,y57),(58,y58),(59,y59)])),h)
 |false=>none)
 | .bool false=>
 thenV (pu (bin Tryd.prog .add 3 (x 36) (.int .i64 1)) h) fun y59 h=>
 thenV (some (y59,h)) fun y36 h=>
 some (.normal,(mkF 103 (up x [(9,y9),(10,y10),(11,y11),(36,y36),(37,y37),(38,y38),(39,y39),(40,y40),(41,y41),(42,y42),(43,y43),(44,y44),(45,y45),(46,y46),(47,y47),(48,y48),(49,y49),(50,y50),(51,y51),(52,y52),(53,y53),(54,y54),(59,y59)])),h)
 |_=>none)
 | .bool false=>
 some (.exit 2,(mkF 103 (up x [(37,y37)])),h)
 |_=>none)
theorem t25p25_0_eq (C:CallF) (x:Nat→Value) (h:Heap):codeA Tryd.prog C (partOf Tryd.f25 [0]) (mkF 103 x) h=t25p25_0 C x h:=
 link_roundF (T:=t25p25_0 C) (fun x h=>by kernel_rfl) x h
theorem t25p25_10_eq (C:CallF) (x:Nat→Value) (h:Heap):codeA Tryd.prog C (partOf Tryd.f25 [1,0]) (mkF 103 x) h=t25p25_10 C x h:=
 link_roundF (T:=t25p25_10 C) (fun x h=>by kernel_rfl) x h
theorem t25p25_110_eq (C:CallF) (x:Nat→Value) (h:Heap):codeA Tryd.prog C (partOf Tryd.f25 [1,1,0]) (mkF 103 x) h=t25p25_110 C x h:=
 link_roundF (T:=t25p25_110 C) (fun x h=>by kernel_rfl) x h
theorem t25p25_1110_eq (C:CallF) (x:Nat→Value) (h:Heap):codeA Tryd.prog C (partOf Tryd.f25 [1,1,1,0]) (mkF 103 x) h=t25p25_1110 C x h:=
 link_roundF (T:=t25p25_1110 C) (fun x h=>by kernel_rfl) x h
theorem t25p25_11110_eq (C:CallF) (x:Nat→Value) (h:Heap):codeA Tryd.prog C (partOf Tryd.f25 [1,1,1,1,0]) (mkF 103 x) h=t25p25_11110 C x h:=
 link_roundF (T:=t25p25_11110 C) (fun x h=>by kernel_rfl) x h
theorem t25p25_111110_eq (C:CallF) (x:Nat→Value) (h:Heap):codeA Tryd.prog C (partOf Tryd.f25 [1,1,1,1,1,0]) (mkF 103 x) h=t25p25_111110 C x h:=
 link_roundF (T:=t25p25_111110 C) (fun x h=>by kernel_rfl) x h
theorem t25p25_11111100_eq (C:CallF) (x:Nat→Value) (h:Heap):codeA Tryd.prog C (partOf Tryd.f25 [1,1,1,1,1,1,0,0]) (mkF 103 x) h=t25p25_11111100 C x h:=
 link_roundF (T:=t25p25_11111100 C) (fun x h=>by kernel_rfl) x h
theorem t25p25_11111101001_eq (C:CallF) (x:Nat→Value) (h:Heap):codeA Tryd.prog C (partOf Tryd.f25 [1,1,1,1,1,1,0,1,0,0,1]) (mkF 103 x) h=t25p25_11111101001 C x h:=
 link_roundF (T:=t25p25_11111101001 C) (fun x h=>by kernel_rfl) x h
theorem t25p25_1111111_eq (C:CallF) (x:Nat→Value) (h:Heap):codeA Tryd.prog C (partOf Tryd.f25 [1,1,1,1,1,1,1]) (mkF 103 x) h=t25p25_1111111 C x h:=
 link_roundF (T:=t25p25_1111111 C) (fun x h=>by kernel_rfl) x h
theorem t25l25_1111010_eq (C:CallF) (x:Nat→Value) (h:Heap):codeA Tryd.prog C (partOf Tryd.f25 [1,1,1,1,0,1,0,0]) (mkF 103 x) h=t25l25_1111010 C x h:=
 link_roundF (T:=t25l25_1111010 C) (fun x h=>by kernel_rfl) x h
theorem t25k25_19_eq (C:CallF) (x:Nat→Value) (h:Heap):k25_19 C (mkF 103 x) h=t25k25_19 C x h:=
 link_partF (b:=(partOf Tryd.f25 [1,1,1,1,0,1,0,0,1,1,1])) (kE:=(fun e h=>some (Ex.normal,e,h))) (rE:=(fun e h=>some (Ex.ret,e,h))) (xE:=(fun i e h=>some (Ex.exit i,e,h))) (T:=t25k25_19 C) (fun x h=>by kernel_rfl) x h
theorem t25l25_111101001100110_eq (C:CallF) (x:Nat→Value) (h:Heap):codeA Tryd.prog C (partOf Tryd.f25 [1,1,1,1,0,1,0,0,1,1,0,0,1,1,0,0]) (mkF 103 x) h=t25l25_111101001100110 C x h:=
 link_roundF (T:=t25l25_111101001100110 C) (fun x h=>by kernel_rfl) x h
noncomputable def t61 (C:CallF) (x0:Value) (h:Heap):Out:=
 thenV (box x0 h) fun y1 h=>
 thenV (some ((.bool false),h)) fun _y2 h=>
 thenV (ldN 39 y1 h) fun y3 h=>
 thenV (C 42 [y3] h) fun y4 h=>
 thenV (pu (unA .not y4) h) fun y5 h=>
 thenV (some (y5,h)) fun y2_1 h=>
 some (y2_1,h)
theorem t61_eq (C:CallF) (x0:Value) (h:Heap):bodyK Tryd.prog C Tryd.f61 [x0] h=t61 C x0 h:=
 (bodyB_eq Tryd.prog C Tryd.f61 [x0] h (by kernel_rfl)).trans (by kernel_rfl)
noncomputable def t57 (_C:CallF) (x0:Value) (h:Heap):Out:=
 thenV (some ((.slice none 0 0),h)) fun _y2 h=>
 thenV (some (x0,h)) fun y3 h=>
 thenV (pu (bin Tryd.prog .eql 22 y3 (.slice none 0 0)) h) fun y4 h=>
 (match y4 with
 | .bool true=>
 thenV (some ((.slice none 0 0),h)) fun y2_1 h=>
 some (y2_1,h)
 | .bool false=>
 thenV (bslR 39 (.agg #[(.int .u8 0),(.int .u8 0),(.int .u8 0),(.int .u8 0),(.int .u8 0),(.int .u8 0),(.int .u8 0),(.int .u8 0),(.int .u8 0),(.int .u8 0),(.int .u8 0),(.int .u8 0),(.int .u8 0),(.int .u8 0),(.int .u8 0),(.int .u8 0),(.int .u8 0),(.int .u8 0),(.int .u8 0),(.int .u8 0),(.int .u8 0),(.int .u8 0),(.int .u8 0),(.int .u8 0),(.int .u8 0),(.int .u8 0),(.int .u8 0),(.int .u8 0),(.int .u8 0),(.int .u8 0),(.int .u8 0),(.int .u8 0),(.int .u8 0),(.int .i64 0),(.int .u64 0),(.int .u64 0),(.bool false),(.int .i64 0),(.int .i64 0)]) 0 [] h) fun y5 h=>
 thenV (some (x0,h)) fun y6 h=>
 thenV (appendA 39 88 y5 y6 h) fun y7 h=>
 thenV (some (y7,h)) fun y2_1 h=>
 some (y2_1,h)
 |_=>none)
theorem t57_eq (C:CallF) (x0:Value) (h:Heap):bodyK Tryd.prog C Tryd.f57 [x0] h=t57 C x0 h:=
 (bodyB_eq Tryd.prog C Tryd.f57 [x0] h (by kernel_rfl)).trans (by kernel_rfl)
noncomputable def t33 (_C:CallF) (h:Heap):Out:=
 thenV (some ((.pointer none),h)) fun _y0 h=>
 thenV (pu (bldR [(.slice none 0 0)] []) h) fun y1 h=>
 thenV (box y1 h) fun y2 h=>
 thenV (some (y2,h)) fun y0_1 h=>
 some (y0_1,h)
theorem t33_eq (C:CallF) (h:Heap):bodyK Tryd.prog C Tryd.f33 [] h=t33 C h:=
 (bodyB_eq Tryd.prog C Tryd.f33 [] h (by kernel_rfl)).trans (by kernel_rfl)
noncomputable def t23 (C:CallF) (x0:Value) (h:Heap):Out:=
 thenV (some ((.slice none 0 0),h)) fun _y2 h=>
 thenV (some (x0,h)) fun y3 h=>
 thenV (pu (bin Tryd.prog .eql 25 y3 (.pointer none)) h) fun y4 h=>
 (match y4 with
 | .bool true=>
 thenV (some ((.slice none 0 0),h)) fun y2_1 h=>
 some (y2_1,h)
 | .bool false=>
 thenV (some (x0,h)) fun y5 h=>
 thenV (pu (nilCheckA y5) h) fun y6 h=>
 thenV (pu (addP y6 0) h) fun y7 h=>
 thenV (ld1 y7 h) fun y8 h=>
 thenV (C 57 [y8] h) fun y9 h=>
 thenV (some (y9,h)) fun y2_1 h=>
 some (y2_1,h)
 |_=>none)
theorem t23_eq (C:CallF) (x0:Value) (h:Heap):bodyK Tryd.prog C Tryd.f23 [x0] h=t23 C x0 h:=
 (bodyB_eq Tryd.prog C Tryd.f23 [x0] h (by kernel_rfl)).trans (by kernel_rfl)
end Go.Proofs.YtdnahgfgoajmcaaDoor

namespace Go.Proofs.YtdnahgfgoajmcaaDoor
open Go Go.Abs
noncomputable def t65 (C:CallF) (x0 x1:Value) (h:Heap):Out:=
 thenV (box x0 h) fun y2 h=>
 thenV (box x1 h) fun y3 h=>
 thenV (some ((.int .i64 0),h)) fun _y4 h=>
 let g2_0:=h
 thenV (ldN 39 y2 g2_0) fun y5 g2_1=>
 thenV (C 67 [y5] g2_1) fun y6 g2_2=>
 thenV (ldN 39 y3 g2_2) fun y7 g2_3=>
 thenV (C 67 [y7] g2_3) fun y8 g2_4=>
 thenV (C 66 [y6,y8] g2_4) fun y9 g2_5=>
 thenV (some (y9,g2_5)) fun y4_1 g2_6=>
 (match (chkR true (ldN 39 y3 g2_1) y7&&true) with
 |true=>
 let h:=g2_6
 some (y4_1,h)
 |false=>none)
theorem t65_eq (C:CallF) (x0 x1:Value) (h:Heap):bodyK Tryd.prog C Tryd.f65 [x0,x1] h=t65 C x0 x1 h:=
 (bodyB_eq Tryd.prog C Tryd.f65 [x0,x1] h (by kernel_rfl)).trans (by kernel_rfl)
noncomputable def t66 (C:CallF) (x0 x1:Value) (h:Heap):Out:=
 thenV (some ((.int .i64 0),h)) fun _y4 h=>
 thenV (some (x0,h)) fun y5 h=>
 thenV (some (x1,h)) fun y6 h=>
 thenV (C 119 [y5,y6] h) fun y7 h=>
 thenV (some (y7,h)) fun y4_1 h=>
 some (y4_1,h)
theorem t66_eq (C:CallF) (x0 x1:Value) (h:Heap):bodyK Tryd.prog C Tryd.f66 [x0,x1] h=t66 C x0 x1 h:=
 (bodyB_eq Tryd.prog C Tryd.f66 [x0,x1] h (by kernel_rfl)).trans (by kernel_rfl)
end Go.Proofs.YtdnahgfgoajmcaaDoor

namespace Go.Proofs.YtdnahgfgoajmcaaDoor
open Go Go.Abs
noncomputable def k19_4 (C:CallF) (e:Env) (h:Heap):Out:=codeK Tryd.prog C (partOf Tryd.f19 [1,1,1]) e h (resultsA Tryd.prog Tryd.f19.results.toList) (resultsA Tryd.prog Tryd.f19.results.toList) (fun _ _ _=>none)
noncomputable def b19_6 (C:CallF) (i:Nat) (e:Env) (h:Heap):Out:=if i=0 then (k19_4 C) e h else (fun _ _ _=>none) i e h
noncomputable def t19 (C:CallF) (x0 x1:Value) (h:Heap):Out:=
 thenV (some ((.bool false),h)) fun y4 h=>
 thenV (some (x0,h)) fun y6 h=>
 thenV (pu (lenL y6) h) fun y7 h=>
 thenV (some (x1,h)) fun y8 h=>
 thenV (pu (lenL y8) h) fun y9 h=>
 thenV (pu (bin Tryd.prog .neq 3 y7 y9) h) fun y10 h=>
 (match y10 with
 | .bool true=>
 thenV (some ((.bool false),h)) fun y4_1 h=>
 some (y4_1,h)
 | .bool false=>
 thenV (some ((.int .i64 0),h)) fun y5 h=>
 endL (iter (codeA Tryd.prog C (partOf Tryd.f19 [1,1,0,1,0,0])) rounds (mkF 26 (up (bs [x0,x1]) [(4,y4),(5,y5),(6,y6),(7,y7),(8,y8),(9,y9),(10,y10)])) h) (resultsA Tryd.prog Tryd.f19.results.toList) (b19_6 C)
 |_=>none)
noncomputable def t19k19_4 (_C:CallF) (_x:Nat→Value) (h:Heap):Out:=
 thenV (some ((.bool true),h)) fun y4 h=>
 some (y4,h)
noncomputable def t19l19_11010 (_C:CallF) (x:Nat→Value) (h:Heap):Option (Ex×Env×Heap):=
 thenV (some ((x 5),h)) fun y11 h=>
 thenV (some ((x 0),h)) fun y12 h=>
 thenV (pu (lenL y12) h) fun y13 h=>
 thenV (pu (bin Tryd.prog .lss 3 y11 y13) h) fun y14 h=>
 (match y14 with
 | .bool true=>
 thenV (some ((x 0),h)) fun y17 h=>
 thenV (some ((x 5),h)) fun y18 h=>
 thenV (pu (idxS 39 y17 y18) h) fun y19 h=>
 thenV (ldN 39 y19 h) fun y20 h=>
 thenV (some ((x 1),h)) fun y21 h=>
 thenV (some ((x 5),h)) fun y22 h=>
 thenV (pu (idxS 39 y21 y22) h) fun y23 h=>
 thenV (ldN 39 y23 h) fun y24 h=>
 thenV (pu (bin Tryd.prog .neq 58 y20 y24) h) fun y25 h=>
 (match y25 with
 | .bool true=>
 thenV (some ((.bool false),h)) fun y4 h=>
 some (.ret,(mkF 26 (up x [(4,y4),(11,y11),(12,y12),(13,y13),(14,y14),(17,y17),(18,y18),(19,y19),(20,y20),(21,y21),(22,y22),(23,y23),(24,y24),(25,y25)])),h)
 | .bool false=>
 thenV (some ((x 5),h)) fun y15 h=>
 thenV (pu (bin Tryd.prog .add 3 y15 (.int .i64 1)) h) fun y16 h=>
 thenV (some (y16,h)) fun y5 h=>
 some (.normal,(mkF 26 (up x [(5,y5),(11,y11),(12,y12),(13,y13),(14,y14),(15,y15),(16,y16),(17,y17),(18,y18),(19,y19),(20,y20),(21,y21),(22,y22),(23,y23),(24,y24),(25,y25)])),h)
 |_=>none)
 | .bool false=>
 some (.exit 0,(mkF 26 (up x [(11,y11),(12,y12),(13,y13),(14,y14)])),h)
 |_=>none)
theorem t19_eq (C:CallF) (x0 x1:Value) (h:Heap):bodyK Tryd.prog C Tryd.f19 [x0,x1] h=t19 C x0 x1 h:=
 (bodyB_eq Tryd.prog C Tryd.f19 [x0,x1] h (by kernel_rfl)).trans (by kernel_rfl)
theorem t19k19_4_eq (C:CallF) (x:Nat→Value) (h:Heap):k19_4 C (mkF 26 x) h=t19k19_4 C x h:=
 link_partF (b:=(partOf Tryd.f19 [1,1,1])) (kE:=(resultsA Tryd.prog Tryd.f19.results.toList)) (rE:=(resultsA Tryd.prog Tryd.f19.results.toList)) (xE:=(fun _ _ _=>none)) (T:=t19k19_4 C) (fun x h=>by kernel_rfl) x h
theorem t19l19_11010_eq (C:CallF) (x:Nat→Value) (h:Heap):codeA Tryd.prog C (partOf Tryd.f19 [1,1,0,1,0,0]) (mkF 26 x) h=t19l19_11010 C x h:=
 link_roundF (T:=t19l19_11010 C) (fun x h=>by kernel_rfl) x h
end Go.Proofs.YtdnahgfgoajmcaaDoor

namespace Go.Proofs.YtdnahgfgoajmcaaDoor
open Go Go.Abs
noncomputable def t68 (_C:CallF) (x0 x1:Value) (h:Heap):Out:=
 thenV (box x0 h) fun y2 h=>
 thenV (box x1 h) fun y3 h=>
 thenV (some (.nilFunc,h)) fun _y4 h=>
 thenV (some (.func (.func 120) #[] #[y2,y3],h)) fun y5 h=>
 thenV (some (y5,h)) fun y4_1 h=>
 some (y4_1,h)
theorem t68_eq (C:CallF) (x0 x1:Value) (h:Heap):bodyK Tryd.prog C Tryd.f68 [x0,x1] h=t68 C x0 x1 h:=
 (bodyB_eq Tryd.prog C Tryd.f68 [x0,x1] h (by kernel_rfl)).trans (by kernel_rfl)
noncomputable def b120_3 (_C:CallF) (i:Nat) (e:Env) (h:Heap):Out:=if i=0 then (resultsA Tryd.prog Tryd.f120.results.toList) e h else (fun _ _ _=>none) i e h
noncomputable def t120 (C:CallF) (x0 x1 x2:Value) (h:Heap):Out:=
 thenV (ld1 x1 h) fun y6 h=>
 thenV (pu (bin Tryd.prog .eql 25 y6 (.pointer none)) h) fun y7 h=>
 (match y7 with
 | .bool true=>
 some (.tuple #[],h)
 | .bool false=>
 thenV (ld1 x1 h) fun y8 h=>
 thenV (pu (nilCheckA y8) h) fun y9 h=>
 thenV (pu (addP y9 0) h) fun y10 h=>
 thenV (ld1 y10 h) fun y11 h=>
 thenV (pu (lenL y11) h) fun y12 h=>
 thenV (some ((.int .i64 0),h)) fun y13 h=>
 endL (iter (codeA Tryd.prog C (partOf Tryd.f120 [1,1,0,0])) rounds (mkF 28 (up (bs [x0,x1,x2]) [(6,y6),(7,y7),(8,y8),(9,y9),(10,y10),(11,y11),(12,y12),(13,y13)])) h) (resultsA Tryd.prog Tryd.f120.results.toList) (b120_3 C)
 |_=>none)
noncomputable def t120l120_110 (C:CallF) (x:Nat→Value) (h:Heap):Option (Ex×Env×Heap):=
 thenV (pu (bin Tryd.prog .lss 3 (x 13) (x 12)) h) fun y14 h=>
 (match y14 with
 | .bool true=>
 thenV (pu (idxS 39 (x 11) (x 13)) h) fun y15 h=>
 thenV (ldN 39 y15 h) fun y16 h=>
 thenV (newC [(.int .u8 0),(.int .u8 0),(.int .u8 0),(.int .u8 0),(.int .u8 0),(.int .u8 0),(.int .u8 0),(.int .u8 0),(.int .u8 0),(.int .u8 0),(.int .u8 0),(.int .u8 0),(.int .u8 0),(.int .u8 0),(.int .u8 0),(.int .u8 0),(.int .u8 0),(.int .u8 0),(.int .u8 0),(.int .u8 0),(.int .u8 0),(.int .u8 0),(.int .u8 0),(.int .u8 0),(.int .u8 0),(.int .u8 0),(.int .u8 0),(.int .u8 0),(.int .u8 0),(.int .u8 0),(.int .u8 0),(.int .u8 0),(.int .u8 0),(.int .i64 0),(.int .u64 0),(.int .u64 0),(.bool false),(.int .i64 0),(.int .i64 0)] h) fun y5 h=>
 thenV (stN 39 y5 y16 h) fun _ h=>
 thenV (pu (addP y5 0) h) fun y17 h=>
 thenV (ld1 y17 h) fun y18 h=>
 thenV (ld1 (x 2) h) fun y19 h=>
 thenV (pu (bin Tryd.prog .eql 56 y18 y19) h) fun y20 h=>
 thenV (some (y20,h)) fun y21 h=>
 thenV (guardK (bOf y21==some true) (some ((x 0),h)) h) fun y22 h=>
 thenV (guardK (bOf y21==some true) (ldN 39 y5 h) h) fun y23 h=>
 thenV (guardK (bOf y21==some true) (callA Tryd.prog C y22 [y23] h) h) fun y24 h=>
 thenV (guardK (bOf y21==some true) (pu (unA .not y24) h) h) fun y25 h=>
 thenV (match y21 with | .bool t=>some (if t then y25 else (.bool false),h)|_=>none) fun y26 h=>
 (match y26 with
 | .bool true=>
 some (.ret,(mkF 28 (up x [(5,y5),(14,y14),(15,y15),(16,y16),(17,y17),(18,y18),(19,y19),(20,y20),(21,y21),(22,y22),(23,y23),(24,y24),(25,y25),(26,y26)])),h)
 | .bool false=>
 thenV (pu (bin Tryd.prog .add 3 (x 13) (.int .i64 1)) h) fun y27 h=>
 thenV (some (y27,h)) fun y13 h=>
 some (.normal,(mkF 28 (up x [(5,y5),(13,y13),(14,y14),(15,y15),(16,y16),(17,y17),(18,y18),(19,y19),(20,y20),(21,y21),(22,y22),(23,y23),(24,y24),(25,y25),(26,y26),(27,y27)])),h)
 |_=>none)
 | .bool false=>
 some (.exit 0,(mkF 28 (up x [(14,y14)])),h)
 |_=>none)
theorem t120_eq (C:CallF) (x0 x1 x2:Value) (h:Heap):bodyK Tryd.prog C Tryd.f120 [x0,x1,x2] h=t120 C x0 x1 x2 h:=
 (bodyB_eq Tryd.prog C Tryd.f120 [x0,x1,x2] h (by kernel_rfl)).trans (by kernel_rfl)
theorem t120l120_110_eq (C:CallF) (x:Nat→Value) (h:Heap):codeA Tryd.prog C (partOf Tryd.f120 [1,1,0,0]) (mkF 28 x) h=t120l120_110 C x h:=
 link_roundF (T:=t120l120_110 C) (fun x h=>by kernel_rfl) x h
noncomputable def k28_1 (C:CallF) (e:Env) (h:Heap):Out:=codeK Tryd.prog C (partOf Tryd.f28 [1,1]) e h (resultsA Tryd.prog Tryd.f28.results.toList) (resultsA Tryd.prog Tryd.f28.results.toList) (fun _ _ _=>none)
noncomputable def b28_3 (C:CallF) (i:Nat) (e:Env) (h:Heap):Out:=if i=0 then (k28_1 C) e h else (fun _ _ _=>none) i e h
noncomputable def t28 (C:CallF) (x0 x1:Value) (h:Heap):Out:=
 thenV (box x1 h) fun y3 h=>
 thenV (newC [(.bool false)] h) fun y4 h=>
 thenV (some (x0,h)) fun y6 h=>
 thenV (C 68 [y6,(.int .u8 2)] h) fun y7 h=>
 endN (codeA Tryd.prog C (partOf Tryd.f28 [1,0,1,0]) (mkF 13 (up (bs [x0,x1]) [(3,y3),(4,y4),(6,y6),(7,y7)])) h) (k28_1 C) (resultsA Tryd.prog Tryd.f28.results.toList) (b28_3 C)
noncomputable def t28k28_1 (_C:CallF) (x:Nat→Value) (h:Heap):Out:=
 thenV (stN 1 (x 4) (.bool false) h) fun _ h=>
 resultsA Tryd.prog Tryd.f28.results.toList (mkF 13 (up x [])) h
noncomputable def t28l28_1010a (_C:CallF) (x:Nat→Value) (h:Heap):Option (Ex×Env×Heap):=
 thenV (newC [(.int .u8 0),(.int .u8 0),(.int .u8 0),(.int .u8 0),(.int .u8 0),(.int .u8 0),(.int .u8 0),(.int .u8 0),(.int .u8 0),(.int .u8 0),(.int .u8 0),(.int .u8 0),(.int .u8 0),(.int .u8 0),(.int .u8 0),(.int .u8 0),(.int .u8 0),(.int .u8 0),(.int .u8 0),(.int .u8 0),(.int .u8 0),(.int .u8 0),(.int .u8 0),(.int .u8 0),(.int .u8 0),(.int .u8 0),(.int .u8 0),(.int .u8 0),(.int .u8 0),(.int .u8 0),(.int .u8 0),(.int .u8 0),(.int .u8 0),(.int .i64 0),(.int .u64 0),(.int .u64 0),(.bool false),(.int .i64 0),(.int .i64 0)] h) fun y5 h=>
 thenV (stN 39 y5 (x 8) h) fun _ h=>
 some (.normal,(mkF 13 (up x [(5,y5)])),h)
noncomputable def t28l28_1010b (_C:CallF) (x:Nat→Value) (h:Heap):Option (Ex×Env×Heap):=
 thenV (pu (addP (x 5) 1) h) fun y9 h=>
 thenV (ldN 32 y9 h) fun y10 h=>
 thenV (ldN 32 (x 3) h) fun y11 h=>
 thenV (pu (bin Tryd.prog .eql 35 y10 y11) h) fun y12 h=>
 (match y12 with
 | .bool true=>
 thenV (stN 1 (x 4) (.bool true) h) fun _ h=>
 some (.ret,(mkF 13 (up x [(9,y9),(10,y10),(11,y11),(12,y12)])),h)
 | .bool false=>
 some (.normal,(mkF 13 (up x [(9,y9),(10,y10),(11,y11),(12,y12)])),h)
 |_=>none)
theorem t28_eq (C:CallF) (x0 x1:Value) (h:Heap):bodyK Tryd.prog C Tryd.f28 [x0,x1] h=t28 C x0 x1 h:=
 (bodyB_eq Tryd.prog C Tryd.f28 [x0,x1] h (by kernel_rfl)).trans (by kernel_rfl)
theorem t28k28_1_eq (C:CallF) (x:Nat→Value) (h:Heap):k28_1 C (mkF 13 x) h=t28k28_1 C x h:=
 link_partF (b:=(partOf Tryd.f28 [1,1])) (kE:=(resultsA Tryd.prog Tryd.f28.results.toList)) (rE:=(resultsA Tryd.prog Tryd.f28.results.toList)) (xE:=(fun _ _ _=>none)) (T:=t28k28_1 C) (fun x h=>by kernel_rfl) x h
theorem t28l28_1010a_eq (C:CallF) (x:Nat→Value) (h:Heap):codeA Tryd.prog C (rgA (partOf Tryd.f28 [1,0,1,0])) (mkF 13 x) h=t28l28_1010a C x h:=
 link_roundF (T:=t28l28_1010a C) (fun x h=>by kernel_rfl) x h
theorem t28l28_1010b_eq (C:CallF) (x:Nat→Value) (h:Heap):codeA Tryd.prog C (rgB (partOf Tryd.f28 [1,0,1,0])) (mkF 13 x) h=t28l28_1010b C x h:=
 link_roundF (T:=t28l28_1010b C) (fun x h=>by kernel_rfl) x h
noncomputable def k29_1 (C:CallF) (e:Env) (h:Heap):Out:=codeK Tryd.prog C (partOf Tryd.f29 [1,1]) e h (resultsA Tryd.prog Tryd.f29.results.toList) (resultsA Tryd.prog Tryd.f29.results.toList) (fun _ _ _=>none)
noncomputable def b29_3 (C:CallF) (i:Nat) (e:Env) (h:Heap):Out:=if i=0 then (k29_1 C) e h else (fun _ _ _=>none) i e h
noncomputable def t29 (C:CallF) (x0 x1:Value) (h:Heap):Out:=
 thenV (box x1 h) fun y3 h=>
 thenV (newC [(.int .u64 0)] h) fun y4 h=>
 thenV (some (x0,h)) fun y6 h=>
 thenV (C 68 [y6,(.int .u8 1)] h) fun y7 h=>
 endN (codeA Tryd.prog C (partOf Tryd.f29 [1,0,1,0]) (mkF 15 (up (bs [x0,x1]) [(3,y3),(4,y4),(6,y6),(7,y7)])) h) (k29_1 C) (resultsA Tryd.prog Tryd.f29.results.toList) (b29_3 C)
noncomputable def t29k29_1 (_C:CallF) (x:Nat→Value) (h:Heap):Out:=
 thenV (stN 1 (x 4) (.int .u64 0) h) fun _ h=>
 resultsA Tryd.prog Tryd.f29.results.toList (mkF 15 (up x [])) h
noncomputable def t29l29_1010a (_C:CallF) (x:Nat→Value) (h:Heap):Option (Ex×Env×Heap):=
 thenV (newC [(.int .u8 0),(.int .u8 0),(.int .u8 0),(.int .u8 0),(.int .u8 0),(.int .u8 0),(.int .u8 0),(.int .u8 0),(.int .u8 0),(.int .u8 0),(.int .u8 0),(.int .u8 0),(.int .u8 0),(.int .u8 0),(.int .u8 0),(.int .u8 0),(.int .u8 0),(.int .u8 0),(.int .u8 0),(.int .u8 0),(.int .u8 0),(.int .u8 0),(.int .u8 0),(.int .u8 0),(.int .u8 0),(.int .u8 0),(.int .u8 0),(.int .u8 0),(.int .u8 0),(.int .u8 0),(.int .u8 0),(.int .u8 0),(.int .u8 0),(.int .i64 0),(.int .u64 0),(.int .u64 0),(.bool false),(.int .i64 0),(.int .i64 0)] h) fun y5 h=>
 thenV (stN 39 y5 (x 8) h) fun _ h=>
 some (.normal,(mkF 15 (up x [(5,y5)])),h)
noncomputable def t29l29_1010b (_C:CallF) (x:Nat→Value) (h:Heap):Option (Ex×Env×Heap):=
 thenV (pu (addP (x 5) 33) h) fun y9 h=>
 thenV (ld1 y9 h) fun y10 h=>
 thenV (ld1 (x 3) h) fun y11 h=>
 thenV (pu (bin Tryd.prog .eql 3 y10 y11) h) fun y12 h=>
 (match y12 with
 | .bool true=>
 thenV (pu (addP (x 5) 34) h) fun y13 h=>
 thenV (ld1 y13 h) fun y14 h=>
 thenV (stN 1 (x 4) y14 h) fun _ h=>
 some (.ret,(mkF 15 (up x [(9,y9),(10,y10),(11,y11),(12,y12),(13,y13),(14,y14)])),h)
 | .bool false=>
 some (.normal,(mkF 15 (up x [(9,y9),(10,y10),(11,y11),(12,y12)])),h)
 |_=>none)
theorem t29_eq (C:CallF) (x0 x1:Value) (h:Heap):bodyK Tryd.prog C Tryd.f29 [x0,x1] h=t29 C x0 x1 h:=
 (bodyB_eq Tryd.prog C Tryd.f29 [x0,x1] h (by kernel_rfl)).trans (by kernel_rfl)
theorem t29k29_1_eq (C:CallF) (x:Nat→Value) (h:Heap):k29_1 C (mkF 15 x) h=t29k29_1 C x h:=
 link_partF (b:=(partOf Tryd.f29 [1,1])) (kE:=(resultsA Tryd.prog Tryd.f29.results.toList)) (rE:=(resultsA Tryd.prog Tryd.f29.results.toList)) (xE:=(fun _ _ _=>none)) (T:=t29k29_1 C) (fun x h=>by kernel_rfl) x h
theorem t29l29_1010a_eq (C:CallF) (x:Nat→Value) (h:Heap):codeA Tryd.prog C (rgA (partOf Tryd.f29 [1,0,1,0])) (mkF 15 x) h=t29l29_1010a C x h:=
 link_roundF (T:=t29l29_1010a C) (fun x h=>by kernel_rfl) x h
theorem t29l29_1010b_eq (C:CallF) (x:Nat→Value) (h:Heap):codeA Tryd.prog C (rgB (partOf Tryd.f29 [1,0,1,0])) (mkF 15 x) h=t29l29_1010b C x h:=
 link_roundF (T:=t29l29_1010b C) (fun x h=>by kernel_rfl) x h
end Go.Proofs.YtdnahgfgoajmcaaDoor

namespace Go.Proofs.YtdnahgfgoajmcaaDoor
open Go Go.Abs
noncomputable def k77_1 (C:CallF) (e:Env) (h:Heap):Out:=codeK Tryd.prog C (partOf Tryd.f77 [1,1]) e h (resultsA Tryd.prog Tryd.f77.results.toList) (resultsA Tryd.prog Tryd.f77.results.toList) (fun _ _ _=>none)
noncomputable def b77_3 (C:CallF) (i:Nat) (e:Env) (h:Heap):Out:=if i=0 then (k77_1 C) e h else (fun _ _ _=>none) i e h
noncomputable def t77 (C:CallF) (x0 x1:Value) (h:Heap):Out:=
 thenV (some ((.int .u64 0),h)) fun y4 h=>
 thenV (some ((.int .i64 0),h)) fun y5 h=>
 endL (iter (codeA Tryd.prog C (partOf Tryd.f77 [1,0,1,0,0])) rounds (mkF 32 (up (bs [x0,x1]) [(4,y4),(5,y5)])) h) (resultsA Tryd.prog Tryd.f77.results.toList) (b77_3 C)
noncomputable def t77k77_1 (_C:CallF) (_x:Nat→Value) (h:Heap):Out:=
 thenV (some ((.int .u64 0),h)) fun y4 h=>
 some (y4,h)
noncomputable def t77l77_1010 (_C:CallF) (x:Nat→Value) (h:Heap):Option (Ex×Env×Heap):=
 thenV (some ((x 5),h)) fun y6 h=>
 thenV (some ((x 0),h)) fun y7 h=>
 thenV (pu (lenL y7) h) fun y8 h=>
 thenV (pu (bin Tryd.prog .lss 3 y6 y8) h) fun y9 h=>
 (match y9 with
 | .bool true=>
 thenV (some ((x 0),h)) fun y12 h=>
 thenV (some ((x 5),h)) fun y13 h=>
 thenV (pu (idxS 39 y12 y13) h) fun y14 h=>
 thenV (pu (addP y14 0) h) fun y15 h=>
 thenV (ld1 y15 h) fun y16 h=>
 thenV (pu (bin Tryd.prog .eql 56 y16 (.int .u8 1)) h) fun y17 h=>
 thenV (some (y17,h)) fun y18 h=>
 thenV (guardK (bOf y18==some true) (some ((x 0),h)) h) fun y19 h=>
 thenV (guardK (bOf y18==some true) (some ((x 5),h)) h) fun y20 h=>
 thenV (guardK (bOf y18==some true) (pu (idxS 39 y19 y20) h) h) fun y21 h=>
 thenV (guardK (bOf y18==some true) (pu (addP y21 33) h) h) fun y22 h=>
 thenV (guardK (bOf y18==some true) (ld1 y22 h) h) fun y23 h=>
 thenV (guardK (bOf y18==some true) (some ((x 1),h)) h) fun y24 h=>
 thenV (guardK (bOf y18==some true) (pu (bin Tryd.prog .eql 3 y23 y24) h) h) fun y25 h=>
 thenV (match y18 with | .bool t=>some (if t then y25 else (.bool false),h)|_=>none) fun y26 h=>
 (match y26 with
 | .bool true=>
 thenV (some ((x 0),h)) fun y27 h=>
 thenV (some ((x 5),h)) fun y28 h=>
 thenV (pu (idxS 39 y27 y28) h) fun y29 h=>
 thenV (pu (addP y29 34) h) fun y30 h=>
 thenV (ld1 y30 h) fun y31 h=>
 thenV (some (y31,h)) fun y4 h=>
 some (.ret,(mkF 32 (up x [(4,y4),(6,y6),(7,y7),(8,y8),(9,y9),(12,y12),(13,y13),(14,y14),(15,y15),(16,y16),(17,y17),(18,y18),(19,y19),(20,y20),(21,y21),(22,y22),(23,y23),(24,y24),(25,y25),(26,y26),(27,y27),(28,y28),(29,y29),(30,y30),(31,y31)])),h)
 | .bool false=>
 thenV (some ((x 5),h)) fun y10 h=>
 thenV (pu (bin Tryd.prog .add 3 y10 (.int .i64 1)) h) fun y11 h=>
 thenV (some (y11,h)) fun y5 h=>
 some (.normal,(mkF 32 (up x [(5,y5),(6,y6),(7,y7),(8,y8),(9,y9),(10,y10),(11,y11),(12,y12),(13,y13),(14,y14),(15,y15),(16,y16),(17,y17),(18,y18),(19,y19),(20,y20),(21,y21),(22,y22),(23,y23),(24,y24),(25,y25),(26,y26)])),h)
 |_=>none)
 | .bool false=>
 some (.exit 0,(mkF 32 (up x [(6,y6),(7,y7),(8,y8),(9,y9)])),h)
 |_=>none)
theorem t77_eq (C:CallF) (x0 x1:Value) (h:Heap):bodyK Tryd.prog C Tryd.f77 [x0,x1] h=t77 C x0 x1 h:=
 (bodyB_eq Tryd.prog C Tryd.f77 [x0,x1] h (by kernel_rfl)).trans (by kernel_rfl)
theorem t77k77_1_eq (C:CallF) (x:Nat→Value) (h:Heap):k77_1 C (mkF 32 x) h=t77k77_1 C x h:=
 link_partF (b:=(partOf Tryd.f77 [1,1])) (kE:=(resultsA Tryd.prog Tryd.f77.results.toList)) (rE:=(resultsA Tryd.prog Tryd.f77.results.toList)) (xE:=(fun _ _ _=>none)) (T:=t77k77_1 C) (fun x h=>by kernel_rfl) x h
theorem t77l77_1010_eq (C:CallF) (x:Nat→Value) (h:Heap):codeA Tryd.prog C (partOf Tryd.f77 [1,0,1,0,0]) (mkF 32 x) h=t77l77_1010 C x h:=
 link_roundF (T:=t77l77_1010 C) (fun x h=>by kernel_rfl) x h
noncomputable def k78_1 (C:CallF) (e:Env) (h:Heap):Out:=codeK Tryd.prog C (partOf Tryd.f78 [1,1]) e h (resultsA Tryd.prog Tryd.f78.results.toList) (resultsA Tryd.prog Tryd.f78.results.toList) (fun _ _ _=>none)
noncomputable def b78_3 (C:CallF) (i:Nat) (e:Env) (h:Heap):Out:=if i=0 then (k78_1 C) e h else (fun _ _ _=>none) i e h
noncomputable def t78 (C:CallF) (x0 x1:Value) (h:Heap):Out:=
 thenV (box x1 h) fun y3 h=>
 thenV (some ((.bool false),h)) fun y4 h=>
 thenV (some ((.int .i64 0),h)) fun y5 h=>
 endL (iter (codeA Tryd.prog C (partOf Tryd.f78 [1,0,1,0,0])) rounds (mkF 27 (up (bs [x0,x1]) [(3,y3),(4,y4),(5,y5)])) h) (resultsA Tryd.prog Tryd.f78.results.toList) (b78_3 C)
noncomputable def t78k78_1 (_C:CallF) (_x:Nat→Value) (h:Heap):Out:=
 thenV (some ((.bool false),h)) fun y4 h=>
 some (y4,h)
noncomputable def t78l78_1010 (_C:CallF) (x:Nat→Value) (h:Heap):Option (Ex×Env×Heap):=
 thenV (some ((x 5),h)) fun y6 h=>
 thenV (some ((x 0),h)) fun y7 h=>
 thenV (pu (lenL y7) h) fun y8 h=>
 thenV (pu (bin Tryd.prog .lss 3 y6 y8) h) fun y9 h=>
 (match y9 with
 | .bool true=>
 thenV (some ((x 0),h)) fun y12 h=>
 thenV (some ((x 5),h)) fun y13 h=>
 thenV (pu (idxS 39 y12 y13) h) fun y14 h=>
 thenV (pu (addP y14 0) h) fun y15 h=>
 thenV (ld1 y15 h) fun y16 h=>
 thenV (pu (bin Tryd.prog .eql 56 y16 (.int .u8 2)) h) fun y17 h=>
 thenV (some (y17,h)) fun y18 h=>
 thenV (guardK (bOf y18==some true) (some ((x 0),h)) h) fun y19 h=>
 thenV (guardK (bOf y18==some true) (some ((x 5),h)) h) fun y20 h=>
 thenV (guardK (bOf y18==some true) (pu (idxS 39 y19 y20) h) h) fun y21 h=>
 thenV (guardK (bOf y18==some true) (pu (addP y21 1) h) h) fun y22 h=>
 thenV (guardK (bOf y18==some true) (ldN 32 y22 h) h) fun y23 h=>
 thenV (guardK (bOf y18==some true) (ldN 32 (x 3) h) h) fun y24 h=>
 thenV (guardK (bOf y18==some true) (pu (bin Tryd.prog .eql 35 y23 y24) h) h) fun y25 h=>
 thenV (match y18 with | .bool t=>some (if t then y25 else (.bool false),h)|_=>none) fun y26 h=>
 (match y26 with
 | .bool true=>
 thenV (some ((.bool true),h)) fun y4 h=>
 some (.ret,(mkF 27 (up x [(4,y4),(6,y6),(7,y7),(8,y8),(9,y9),(12,y12),(13,y13),(14,y14),(15,y15),(16,y16),(17,y17),(18,y18),(19,y19),(20,y20),(21,y21),(22,y22),(23,y23),(24,y24),(25,y25),(26,y26)])),h)
 | .bool false=>
 thenV (some ((x 5),h)) fun y10 h=>
 thenV (pu (bin Tryd.prog .add 3 y10 (.int .i64 1)) h) fun y11 h=>
 thenV (some (y11,h)) fun y5 h=>
 some (.normal,(mkF 27 (up x [(5,y5),(6,y6),(7,y7),(8,y8),(9,y9),(10,y10),(11,y11),(12,y12),(13,y13),(14,y14),(15,y15),(16,y16),(17,y17),(18,y18),(19,y19),(20,y20),(21,y21),(22,y22),(23,y23),(24,y24),(25,y25),(26,y26)])),h)
 |_=>none)
 | .bool false=>
 some (.exit 0,(mkF 27 (up x [(6,y6),(7,y7),(8,y8),(9,y9)])),h)
 |_=>none)
theorem t78_eq (C:CallF) (x0 x1:Value) (h:Heap):bodyK Tryd.prog C Tryd.f78 [x0,x1] h=t78 C x0 x1 h:=
 (bodyB_eq Tryd.prog C Tryd.f78 [x0,x1] h (by kernel_rfl)).trans (by kernel_rfl)
theorem t78k78_1_eq (C:CallF) (x:Nat→Value) (h:Heap):k78_1 C (mkF 27 x) h=t78k78_1 C x h:=
 link_partF (b:=(partOf Tryd.f78 [1,1])) (kE:=(resultsA Tryd.prog Tryd.f78.results.toList)) (rE:=(resultsA Tryd.prog Tryd.f78.results.toList)) (xE:=(fun _ _ _=>none)) (T:=t78k78_1 C) (fun x h=>by kernel_rfl) x h
theorem t78l78_1010_eq (C:CallF) (x:Nat→Value) (h:Heap):codeA Tryd.prog C (partOf Tryd.f78 [1,0,1,0,0]) (mkF 27 x) h=t78l78_1010 C x h:=
 link_roundF (T:=t78l78_1010 C) (fun x h=>by kernel_rfl) x h
noncomputable def k74_1 (C:CallF) (e:Env) (h:Heap):Out:=codeK Tryd.prog C (partOf Tryd.f74 [1,1]) e h (resultsA Tryd.prog Tryd.f74.results.toList) (resultsA Tryd.prog Tryd.f74.results.toList) (fun _ _ _=>none)
noncomputable def b74_3 (C:CallF) (i:Nat) (e:Env) (h:Heap):Out:=if i=0 then (k74_1 C) e h else (fun _ _ _=>none) i e h
noncomputable def t74 (C:CallF) (x0 x1 x2:Value) (h:Heap):Out:=
 thenV (box x1 h) fun y4 h=>
 thenV (newC [(.int .u8 0),(.int .u8 0),(.int .u8 0),(.int .u8 0),(.int .u8 0),(.int .u8 0),(.int .u8 0),(.int .u8 0),(.int .u8 0),(.int .u8 0),(.int .u8 0),(.int .u8 0),(.int .u8 0),(.int .u8 0),(.int .u8 0),(.int .u8 0),(.int .u8 0),(.int .u8 0),(.int .u8 0),(.int .u8 0),(.int .u8 0),(.int .u8 0),(.int .u8 0),(.int .u8 0),(.int .u8 0),(.int .u8 0),(.int .u8 0),(.int .u8 0),(.int .u8 0),(.int .u8 0),(.int .u8 0),(.int .u8 0),(.int .u8 0),(.int .i64 0),(.int .u64 0),(.int .u64 0),(.bool false),(.int .i64 0),(.int .i64 0)] h) fun y6 h=>
 thenV (some ((.bool false),h)) fun y7 h=>
 thenV (some ((.int .i64 0),h)) fun y8 h=>
 endL (iter (codeA Tryd.prog C (partOf Tryd.f74 [1,0,1,0,0])) rounds (mkF 44 (up (bs [x0,x1,x2]) [(4,y4),(6,y6),(7,y7),(8,y8)])) h) (resultsA Tryd.prog Tryd.f74.results.toList) (b74_3 C)
noncomputable def t74k74_1 (_C:CallF) (x:Nat→Value) (h:Heap):Out:=
 thenV (pu (bldR [(.int .u8 0),(.int .u8 0),(.int .u8 0),(.int .u8 0),(.int .u8 0),(.int .u8 0),(.int .u8 0),(.int .u8 0),(.int .u8 0),(.int .u8 0),(.int .u8 0),(.int .u8 0),(.int .u8 0),(.int .u8 0),(.int .u8 0),(.int .u8 0),(.int .u8 0),(.int .u8 0),(.int .u8 0),(.int .u8 0),(.int .u8 0),(.int .u8 0),(.int .u8 0),(.int .u8 0),(.int .u8 0),(.int .u8 0),(.int .u8 0),(.int .u8 0),(.int .u8 0),(.int .u8 0),(.int .u8 0),(.int .u8 0),(.int .u8 0),(.int .i64 0),(.int .u64 0),(.int .u64 0),(.bool false),(.int .i64 0),(.int .i64 0)] []) h) fun y43 h=>
 thenV (stN 39 (x 6) y43 h) fun _ h=>
 thenV (some ((.bool false),h)) fun y7 h=>
 resultsA Tryd.prog Tryd.f74.results.toList (mkF 44 (up x [(7,y7),(43,y43)])) h
noncomputable def t74l74_1010 (_C:CallF) (x:Nat→Value) (h:Heap):Option (Ex×Env×Heap):=
 thenV (some ((x 8),h)) fun y9 h=>
 thenV (some ((x 0),h)) fun y10 h=>
 thenV (pu (lenL y10) h) fun y11 h=>
 thenV (pu (bin Tryd.prog .lss 3 y9 y11) h) fun y12 h=>
 (match y12 with
 | .bool true=>
 thenV (some ((x 0),h)) fun y15 h=>
 thenV (some ((x 8),h)) fun y16 h=>
 thenV (pu (idxS 39 y15 y16) h) fun y17 h=>
 thenV (pu (addP y17 0) h) fun y18 h=>
 thenV (ld1 y18 h) fun y19 h=>
 thenV (pu (bin Tryd.prog .eql 56 y19 (.int .u8 3)) h) fun y20 h=>
 thenV (some (y20,h)) fun y21 h=>
 thenV (guardK (bOf y21==some true) (some ((x 0),h)) h) fun y22 h=>
 thenV (guardK (bOf y21==some true) (some ((x 8),h)) h) fun y23 h=>
 thenV (guardK (bOf y21==some true) (pu (idxS 39 y22 y23) h) h) fun y24 h=>
 thenV (guardK (bOf y21==some true) (pu (addP y24 1) h) h) fun y25 h=>
 thenV (guardK (bOf y21==some true) (ldN 32 y25 h) h) fun y26 h=>
 thenV (guardK (bOf y21==some true) (ldN 32 (x 4) h) h) fun y27 h=>
 thenV (guardK (bOf y21==some true) (pu (bin Tryd.prog .eql 35 y26 y27) h) h) fun y28 h=>
 thenV (match y21 with | .bool t=>some (if t then y28 else (.bool false),h)|_=>none) fun y29 h=>
 thenV (some (y29,h)) fun y30 h=>
 thenV (guardK (bOf y30==some true) (some ((x 0),h)) h) fun y31 h=>
 thenV (guardK (bOf y30==some true) (some ((x 8),h)) h) fun y32 h=>
 thenV (guardK (bOf y30==some true) (pu (idxS 39 y31 y32) h) h) fun y33 h=>
 thenV (guardK (bOf y30==some true) (pu (addP y33 33) h) h) fun y34 h=>
 thenV (guardK (bOf y30==some true) (ld1 y34 h) h) fun y35 h=>
 thenV (guardK (bOf y30==some true) (some ((x 2),h)) h) fun y36 h=>
 thenV (guardK (bOf y30==some true) (pu (bin Tryd.prog .eql 3 y35 y36) h) h) fun y37 h=>
 thenV (match y30 with | .bool t=>some (if t then y37 else (.bool false),h)|_=>none) fun y38 h=>
 (match y38 with
 | .bool true=>
 thenV (some ((x 0),h)) fun y39 h=>
 thenV (some ((x 8),h)) fun y40 h=>
 thenV (pu (idxS 39 y39 y40) h) fun y41 h=>
 thenV (ldN 39 y41 h) fun y42 h=>
 thenV (stN 39 (x 6) y42 h) fun _ h=>
 thenV (some ((.bool true),h)) fun y7 h=>
 some (.ret,(mkF 44 (up x [(7,y7),(9,y9),(10,y10),(11,y11),(12,y12),(15,y15),(16,y16),(17,y17),(18,y18),(19,y19),(20,y20),(21,y21),(22,y22),(23,y23),(24,y24),(25,y25),(26,y26),(27,y27),(28,y28),(29,y29),(30,y30),(31,y31),(32,y32),(33,y33),(34,y34),(35,y35),(36,y36),(37,y37),(38,y38),(39,y39),(40,y40),(41,y41),(42,y42)])),h)
 | .bool false=>
 thenV (some ((x 8),h)) fun y13 h=>
 thenV (pu (bin Tryd.prog .add 3 y13 (.int .i64 1)) h) fun y14 h=>
 thenV (some (y14,h)) fun y8 h=>
 some (.normal,(mkF 44 (up x [(8,y8),(9,y9),(10,y10),(11,y11),(12,y12),(13,y13),(14,y14),(15,y15),(16,y16),(17,y17),(18,y18),(19,y19),(20,y20),(21,y21),(22,y22),(23,y23),(24,y24),(25,y25),(26,y26),(27,y27),(28,y28),(29,y29),(30,y30),(31,y31),(32,y32),(33,y33),(34,y34),(35,y35),(36,y36),(37,y37),(38,y38)])),h)
 |_=>none)
 | .bool false=>
 some (.exit 0,(mkF 44 (up x [(9,y9),(10,y10),(11,y11),(12,y12)])),h)
 |_=>none)
theorem t74_eq (C:CallF) (x0 x1 x2:Value) (h:Heap):bodyK Tryd.prog C Tryd.f74 [x0,x1,x2] h=t74 C x0 x1 x2 h:=
 (bodyB_eq Tryd.prog C Tryd.f74 [x0,x1,x2] h (by kernel_rfl)).trans (by kernel_rfl)
theorem t74k74_1_eq (C:CallF) (x:Nat→Value) (h:Heap):k74_1 C (mkF 44 x) h=t74k74_1 C x h:=
 link_partF (b:=(partOf Tryd.f74 [1,1])) (kE:=(resultsA Tryd.prog Tryd.f74.results.toList)) (rE:=(resultsA Tryd.prog Tryd.f74.results.toList)) (xE:=(fun _ _ _=>none)) (T:=t74k74_1 C) (fun x h=>by kernel_rfl) x h
theorem t74l74_1010_eq (C:CallF) (x:Nat→Value) (h:Heap):codeA Tryd.prog C (partOf Tryd.f74 [1,0,1,0,0]) (mkF 44 x) h=t74l74_1010 C x h:=
 link_roundF (T:=t74l74_1010 C) (fun x h=>by kernel_rfl) x h
noncomputable def k76_1 (C:CallF) (e:Env) (h:Heap):Out:=codeK Tryd.prog C (partOf Tryd.f76 [1,1]) e h (resultsA Tryd.prog Tryd.f76.results.toList) (resultsA Tryd.prog Tryd.f76.results.toList) (fun _ _ _=>none)
noncomputable def b76_3 (C:CallF) (i:Nat) (e:Env) (h:Heap):Out:=if i=0 then (k76_1 C) e h else (fun _ _ _=>none) i e h
noncomputable def t76 (C:CallF) (x0 x1:Value) (h:Heap):Out:=
 thenV (box x1 h) fun y3 h=>
 thenV (some ((.int .i64 0),h)) fun y4 h=>
 thenV (some ((.int .i64 0),h)) fun y5 h=>
 thenV (some ((.int .i64 0),h)) fun y6 h=>
 endL (iter (codeA Tryd.prog C (partOf Tryd.f76 [1,0,1,0,0])) rounds (mkF 45 (up (bs [x0,x1]) [(3,y3),(4,y4),(5,y5),(6,y6)])) h) (resultsA Tryd.prog Tryd.f76.results.toList) (b76_3 C)
noncomputable def t76k76_1 (_C:CallF) (_x:Nat→Value) (h:Heap):Out:=
 thenV (some ((.int .i64 0),h)) fun y4 h=>
 thenV (some ((.int .i64 0),h)) fun y5 h=>
 some (.tuple #[y4,y5],h)
noncomputable def t76l76_1010 (_C:CallF) (x:Nat→Value) (h:Heap):Option (Ex×Env×Heap):=
 thenV (some ((x 6),h)) fun y7 h=>
 thenV (some ((x 0),h)) fun y8 h=>
 thenV (pu (lenL y8) h) fun y9 h=>
 thenV (pu (bin Tryd.prog .lss 3 y7 y9) h) fun y10 h=>
 (match y10 with
 | .bool true=>
 thenV (some ((x 0),h)) fun y13 h=>
 thenV (some ((x 6),h)) fun y14 h=>
 thenV (pu (idxS 39 y13 y14) h) fun y15 h=>
 thenV (pu (addP y15 0) h) fun y16 h=>
 thenV (ld1 y16 h) fun y17 h=>
 thenV (pu (bin Tryd.prog .eql 56 y17 (.int .u8 3)) h) fun y18 h=>
 thenV (some (y18,h)) fun y19 h=>
 thenV (guardK (bOf y19==some true) (some ((x 0),h)) h) fun y20 h=>
 thenV (guardK (bOf y19==some true) (some ((x 6),h)) h) fun y21 h=>
 thenV (guardK (bOf y19==some true) (pu (idxS 39 y20 y21) h) h) fun y22 h=>
 thenV (guardK (bOf y19==some true) (pu (addP y22 36) h) h) fun y23 h=>
 thenV (guardK (bOf y19==some true) (ld1 y23 h) h) fun y24 h=>
 thenV (match y19 with | .bool t=>some (if t then y24 else (.bool false),h)|_=>none) fun y25 h=>
 thenV (some (y25,h)) fun y26 h=>
 thenV (guardK (bOf y26==some true) (some ((x 0),h)) h) fun y27 h=>
 thenV (guardK (bOf y26==some true) (some ((x 6),h)) h) fun y28 h=>
 thenV (guardK (bOf y26==some true) (pu (idxS 39 y27 y28) h) h) fun y29 h=>
 thenV (guardK (bOf y26==some true) (pu (addP y29 1) h) h) fun y30 h=>
 thenV (guardK (bOf y26==some true) (ldN 32 y30 h) h) fun y31 h=>
 thenV (guardK (bOf y26==some true) (ldN 32 (x 3) h) h) fun y32 h=>
 thenV (guardK (bOf y26==some true) (pu (bin Tryd.prog .eql 35 y31 y32) h) h) fun y33 h=>
 thenV (match y26 with | .bool t=>some (if t then y33 else (.bool false),h)|_=>none) fun y34 h=>
 (match y34 with
 | .bool true=>
 thenV (some ((x 0),h)) fun y35 h=>
 thenV (some ((x 6),h)) fun y36 h=>
 thenV (pu (idxS 39 y35 y36) h) fun y37 h=>
 thenV (pu (addP y37 37) h) fun y38 h=>
 thenV (ld1 y38 h) fun y39 h=>
 thenV (some ((x 0),h)) fun y40 h=>
 thenV (some ((x 6),h)) fun y41 h=>
 thenV (pu (idxS 39 y40 y41) h) fun y42 h=>
 thenV (pu (addP y42 38) h) fun y43 h=>
 thenV (ld1 y43 h) fun y44 h=>
 thenV (some (y39,h)) fun y4 h=>
 thenV (some (y44,h)) fun y5 h=>
 some (.ret,(mkF 45 (up x [(4,y4),(5,y5),(7,y7),(8,y8),(9,y9),(10,y10),(13,y13),(14,y14),(15,y15),(16,y16),(17,y17),(18,y18),(19,y19),(20,y20),(21,y21),(22,y22),(23,y23),(24,y24),(25,y25),(26,y26),(27,y27),(28,y28),(29,y29),(30,y30),(31,y31),(32,y32),(33,y33),(34,y34),(35,y35),(36,y36),(37,y37),(38,y38),(39,y39),(40,y40),(41,y41),(42,y42),(43,y43),(44,y44)])),h)
 | .bool false=>
 thenV (some ((x 6),h)) fun y11 h=>
 thenV (pu (bin Tryd.prog .add 3 y11 (.int .i64 1)) h) fun y12 h=>
 thenV (some (y12,h)) fun y6 h=>
 some (.normal,(mkF 45 (up x [(6,y6),(7,y7),(8,y8),(9,y9),(10,y10),(11,y11),(12,y12),(13,y13),(14,y14),(15,y15),(16,y16),(17,y17),(18,y18),(19,y19),(20,y20),(21,y21),(22,y22),(23,y23),(24,y24),(25,y25),(26,y26),(27,y27),(28,y28),(29,y29),(30,y30),(31,y31),(32,y32),(33,y33),(34,y34)])),h)
 |_=>none)
 | .bool false=>
 some (.exit 0,(mkF 45 (up x [(7,y7),(8,y8),(9,y9),(10,y10)])),h)
 |_=>none)
theorem t76_eq (C:CallF) (x0 x1:Value) (h:Heap):bodyK Tryd.prog C Tryd.f76 [x0,x1] h=t76 C x0 x1 h:=
 (bodyB_eq Tryd.prog C Tryd.f76 [x0,x1] h (by kernel_rfl)).trans (by kernel_rfl)
theorem t76k76_1_eq (C:CallF) (x:Nat→Value) (h:Heap):k76_1 C (mkF 45 x) h=t76k76_1 C x h:=
 link_partF (b:=(partOf Tryd.f76 [1,1])) (kE:=(resultsA Tryd.prog Tryd.f76.results.toList)) (rE:=(resultsA Tryd.prog Tryd.f76.results.toList)) (xE:=(fun _ _ _=>none)) (T:=t76k76_1 C) (fun x h=>by kernel_rfl) x h
theorem t76l76_1010_eq (C:CallF) (x:Nat→Value) (h:Heap):codeA Tryd.prog C (partOf Tryd.f76 [1,0,1,0,0]) (mkF 45 x) h=t76l76_1010 C x h:=
 link_roundF (T:=t76l76_1010 C) (fun x h=>by kernel_rfl) x h
noncomputable def k80_2 (C:CallF) (e:Env) (h:Heap):Out:=codeK Tryd.prog C (partOf Tryd.f80 [1,1,1]) e h (resultsA Tryd.prog Tryd.f80.results.toList) (resultsA Tryd.prog Tryd.f80.results.toList) (fun _ _ _=>none)
noncomputable def b80_4 (C:CallF) (i:Nat) (e:Env) (h:Heap):Out:=if i=0 then (k80_2 C) e h else (fun _ _ _=>none) i e h
noncomputable def t80 (C:CallF) (x0 x1:Value) (h:Heap):Out:=
 thenV (box x1 h) fun y3 h=>
 thenV (some ((.slice none 0 0),h)) fun y4 h=>
 thenV (bslR 1 (.int .i64 0) 0 [] h) fun y7 h=>
 thenV (some (y7,h)) fun y5 h=>
 thenV (some ((.int .i64 0),h)) fun y6 h=>
 endL (iter (codeA Tryd.prog C (partOf Tryd.f80 [1,1,0,1,0,0])) rounds (mkF 45 (up (bs [x0,x1]) [(3,y3),(4,y4),(5,y5),(6,y6),(7,y7)])) h) (resultsA Tryd.prog Tryd.f80.results.toList) (b80_4 C)
noncomputable def t80k80_2 (_C:CallF) (x:Nat→Value) (h:Heap):Out:=
 thenV (some ((x 5),h)) fun y44 h=>
 thenV (some (y44,h)) fun y4 h=>
 some (y4,h)
noncomputable def t80l80_11010 (_C:CallF) (x:Nat→Value) (h:Heap):Option (Ex×Env×Heap):=
 thenV (some ((x 6),h)) fun y8 h=>
 thenV (some ((x 0),h)) fun y9 h=>
 thenV (pu (lenL y9) h) fun y10 h=>
 thenV (pu (bin Tryd.prog .lss 3 y8 y10) h) fun y11 h=>
 (match y11 with
 | .bool true=>
 thenV (some ((x 0),h)) fun y14 h=>
 thenV (some ((x 6),h)) fun y15 h=>
 thenV (pu (idxS 39 y14 y15) h) fun y16 h=>
 thenV (pu (addP y16 0) h) fun y17 h=>
 thenV (ld1 y17 h) fun y18 h=>
 thenV (pu (bin Tryd.prog .eql 56 y18 (.int .u8 3)) h) fun y19 h=>
 thenV (some (y19,h)) fun y20 h=>
 thenV (guardK (bOf y20==some true) (some ((x 0),h)) h) fun y21 h=>
 thenV (guardK (bOf y20==some true) (some ((x 6),h)) h) fun y22 h=>
 thenV (guardK (bOf y20==some true) (pu (idxS 39 y21 y22) h) h) fun y23 h=>
 thenV (guardK (bOf y20==some true) (pu (addP y23 36) h) h) fun y24 h=>
 thenV (guardK (bOf y20==some true) (ld1 y24 h) h) fun y25 h=>
 thenV (match y20 with | .bool t=>some (if t then y25 else (.bool false),h)|_=>none) fun y26 h=>
 thenV (some (y26,h)) fun y27 h=>
 thenV (guardK (bOf y27==some true) (some ((x 0),h)) h) fun y28 h=>
 thenV (guardK (bOf y27==some true) (some ((x 6),h)) h) fun y29 h=>
 thenV (guardK (bOf y27==some true) (pu (idxS 39 y28 y29) h) h) fun y30 h=>
 thenV (guardK (bOf y27==some true) (pu (addP y30 1) h) h) fun y31 h=>
 thenV (guardK (bOf y27==some true) (ldN 32 y31 h) h) fun y32 h=>
 thenV (guardK (bOf y27==some true) (ldN 32 (x 3) h) h) fun y33 h=>
 thenV (guardK (bOf y27==some true) (pu (bin Tryd.prog .eql 35 y32 y33) h) h) fun y34 h=>
 thenV (match y27 with | .bool t=>some (if t then y34 else (.bool false),h)|_=>none) fun y35 h=>
 (match y35 with
 | .bool true=>
 thenV (some ((x 5),h)) fun y36 h=>
 thenV (some ((x 0),h)) fun y37 h=>
 thenV (some ((x 6),h)) fun y38 h=>
 thenV (pu (idxS 39 y37 y38) h) fun y39 h=>
 thenV (pu (addP y39 33) h) fun y40 h=>
 thenV (ld1 y40 h) fun y41 h=>
 thenV (bslR 1 (.int .i64 0) 1 [(0,y41)] h) fun y42 h=>
 thenV (appendA 1 8 y36 y42 h) fun y43 h=>
 thenV (some (y43,h)) fun y5 h=>
 thenV (some ((x 6),h)) fun y12 h=>
 thenV (pu (bin Tryd.prog .add 3 y12 (.int .i64 1)) h) fun y13 h=>
 thenV (some (y13,h)) fun y6 h=>
 some (.normal,(mkF 45 (up x [(5,y5),(6,y6),(8,y8),(9,y9),(10,y10),(11,y11),(12,y12),(13,y13),(14,y14),(15,y15),(16,y16),(17,y17),(18,y18),(19,y19),(20,y20),(21,y21),(22,y22),(23,y23),(24,y24),(25,y25),(26,y26),(27,y27),(28,y28),(29,y29),(30,y30),(31,y31),(32,y32),(33,y33),(34,y34),(35,y35),(36,y36),(37,y37),(38,y38),(39,y39),(40,y40),(41,y41),(42,y42),(43,y43)])),h)
 | .bool false=>
 thenV (some ((x 6),h)) fun y12 h=>
 thenV (pu (bin Tryd.prog .add 3 y12 (.int .i64 1)) h) fun y13 h=>
 thenV (some (y13,h)) fun y6 h=>
 some (.normal,(mkF 45 (up x [(6,y6),(8,y8),(9,y9),(10,y10),(11,y11),(12,y12),(13,y13),(14,y14),(15,y15),(16,y16),(17,y17),(18,y18),(19,y19),(20,y20),(21,y21),(22,y22),(23,y23),(24,y24),(25,y25),(26,y26),(27,y27),(28,y28),(29,y29),(30,y30),(31,y31),(32,y32),(33,y33),(34,y34),(35,y35)])),h)
 |_=>none)
 | .bool false=>
 some (.exit 0,(mkF 45 (up x [(8,y8),(9,y9),(10,y10),(11,y11)])),h)
 |_=>none)
theorem t80_eq (C:CallF) (x0 x1:Value) (h:Heap):bodyK Tryd.prog C Tryd.f80 [x0,x1] h=t80 C x0 x1 h:=
 (bodyB_eq Tryd.prog C Tryd.f80 [x0,x1] h (by kernel_rfl)).trans (by kernel_rfl)
theorem t80k80_2_eq (C:CallF) (x:Nat→Value) (h:Heap):k80_2 C (mkF 45 x) h=t80k80_2 C x h:=
 link_partF (b:=(partOf Tryd.f80 [1,1,1])) (kE:=(resultsA Tryd.prog Tryd.f80.results.toList)) (rE:=(resultsA Tryd.prog Tryd.f80.results.toList)) (xE:=(fun _ _ _=>none)) (T:=t80k80_2 C) (fun x h=>by kernel_rfl) x h
theorem t80l80_11010_eq (C:CallF) (x:Nat→Value) (h:Heap):codeA Tryd.prog C (partOf Tryd.f80 [1,1,0,1,0,0]) (mkF 45 x) h=t80l80_11010 C x h:=
 link_roundF (T:=t80l80_11010 C) (fun x h=>by kernel_rfl) x h
noncomputable def k36_2 (C:CallF) (e:Env) (h:Heap):Out:=codeK Tryd.prog C (partOf Tryd.f36 [1,1,1]) e h (resultsA Tryd.prog Tryd.f36.results.toList) (resultsA Tryd.prog Tryd.f36.results.toList) (fun _ _ _=>none)
noncomputable def b36_4 (C:CallF) (i:Nat) (e:Env) (h:Heap):Out:=if i=0 then (k36_2 C) e h else (fun _ _ _=>none) i e h
noncomputable def t36 (C:CallF) (x0:Value) (h:Heap):Out:=
 thenV (some ((.slice none 0 0),h)) fun y2 h=>
 thenV (bslR 32 (.agg (List.replicate 32 (.int .u8 0)).toArray) 0 [] h) fun y5 h=>
 thenV (some (y5,h)) fun y3 h=>
 thenV (some ((.int .i64 0),h)) fun y4 h=>
 endL (iter (codeA Tryd.prog C (partOf Tryd.f36 [1,1,0,1,0,0])) rounds (mkF 53 (up (bs [x0]) [(2,y2),(3,y3),(4,y4),(5,y5)])) h) (resultsA Tryd.prog Tryd.f36.results.toList) (b36_4 C)
noncomputable def t36k36_2 (_C:CallF) (x:Nat→Value) (h:Heap):Out:=
 thenV (some ((x 3),h)) fun y52 h=>
 thenV (some (y52,h)) fun y2 h=>
 some (y2,h)
noncomputable def t36l36_11010 (_C:CallF) (x:Nat→Value) (h:Heap):Option (Ex×Env×Heap):=
 thenV (some ((x 4),h)) fun y6 h=>
 thenV (some ((x 0),h)) fun y7 h=>
 thenV (pu (lenL y7) h) fun y8 h=>
 thenV (pu (bin Tryd.prog .lss 3 y6 y8) h) fun y9 h=>
 (match y9 with
 | .bool true=>
 thenV (some ((x 0),h)) fun y12 h=>
 thenV (some ((x 4),h)) fun y13 h=>
 thenV (pu (idxS 39 y12 y13) h) fun y14 h=>
 thenV (pu (addP y14 0) h) fun y15 h=>
 thenV (ld1 y15 h) fun y16 h=>
 thenV (pu (bin Tryd.prog .eql 56 y16 (.int .u8 3)) h) fun y17 h=>
 thenV (some (y17,h)) fun y18 h=>
 thenV (guardK (bOf y18==some true) (some ((x 0),h)) h) fun y19 h=>
 thenV (guardK (bOf y18==some true) (some ((x 4),h)) h) fun y20 h=>
 thenV (guardK (bOf y18==some true) (pu (idxS 39 y19 y20) h) h) fun y21 h=>
 thenV (guardK (bOf y18==some true) (pu (addP y21 36) h) h) fun y22 h=>
 thenV (guardK (bOf y18==some true) (ld1 y22 h) h) fun y23 h=>
 thenV (match y18 with | .bool t=>some (if t then y23 else (.bool false),h)|_=>none) fun y24 h=>
 thenV (some (y24,h)) fun y25 h=>
 thenV (guardK (bOf y25==some true) (some ((x 3),h)) h) fun y26 h=>
 thenV (guardK (bOf y25==some true) (pu (lenL y26) h) h) fun y27 h=>
 thenV (guardK (bOf y25==some true) (pu (bin Tryd.prog .eql 3 y27 (.int .i64 0)) h) h) fun y28 h=>
 thenV (guardK (bOf y25==some true) (some (y28,h)) h) fun y29 h=>
 thenV (guardK (bOf y29==some false) (some ((x 3),h)) h) fun y30 h=>
 thenV (guardK (bOf y29==some false) (some ((x 3),h)) h) fun y31 h=>
 thenV (guardK (bOf y29==some false) (pu (lenL y31) h) h) fun y32 h=>
 thenV (guardK (bOf y29==some false) (pu (bin Tryd.prog .sub 3 y32 (.int .i64 1)) h) h) fun y33 h=>
 thenV (guardK (bOf y29==some false) (pu (idxS 32 y30 y33) h) h) fun y34 h=>
 thenV (guardK (bOf y29==some false) (ldN 32 y34 h) h) fun y35 h=>
 thenV (guardK (bOf y29==some false) (some ((x 0),h)) h) fun y36 h=>
 thenV (guardK (bOf y29==some false) (some ((x 4),h)) h) fun y37 h=>
 thenV (guardK (bOf y29==some false) (pu (idxS 39 y36 y37) h) h) fun y38 h=>
 thenV (guardK (bOf y29==some false) (pu (addP y38 1) h) h) fun y39 h=>
 thenV (guardK (bOf y29==some false) (ldN 32 y39 h) h) fun y40 h=>
 thenV (guardK (bOf y29==some false) (pu (bin Tryd.prog .neq 35 y35 y40) h) h) fun y41 h=>
 thenV (guardK (bOf y25==some true) (match y29 with | .bool t=>some (if t then (.bool true) else y41,h)|_=>none) h) fun y42 h=>
 thenV (match y25 with | .bool t=>some (if t then y42 else (.bool false),h)|_=>none) fun y43 h=>
 (match y43 with
 | .bool true=>
 thenV (some ((x 3),h)) fun y44 h=>
 thenV (some ((x 0),h)) fun y45 h=>
 thenV (some ((x 4),h)) fun y46 h=>
 thenV (pu (idxS 39 y45 y46) h) fun y47 h=>
 thenV (pu (addP y47 1) h) fun y48 h=>
 thenV (ldN 32 y48 h) fun y49 h=>
 thenV (bslR 32 (.agg (List.replicate 32 (.int .u8 0)).toArray) 1 [(0,y49)] h) fun y50 h=>
 thenV (appendA 32 32 y44 y50 h) fun y51 h=>
 thenV (some (y51,h)) fun y3 h=>
 thenV (some ((x 4),h)) fun y10 h=>
 thenV (pu (bin Tryd.prog .add 3 y10 (.int .i64 1)) h) fun y11 h=>
 thenV (some (y11,h)) fun y4 h=>
 some (.normal,(mkF 53 (up x [(3,y3),(4,y4),(6,y6),(7,y7),(8,y8),(9,y9),(10,y10),(11,y11),(12,y12),(13,y13),(14,y14),(15,y15),(16,y16),(17,y17),(18,y18),(19,y19),(20,y20),(21,y21),(22,y22),(23,y23),(24,y24),(25,y25),(26,y26),(27,y27),(28,y28),(29,y29),(30,y30),(31,y31),(32,y32),(33,y33),(34,y34),(35,y35),(36,y36),(37,y37),(38,y38),(39,y39),(40,y40),(41,y41),(42,y42),(43,y43),(44,y44),(45,y45),(46,y46),(47,y47),(48,y48),(49,y49),(50,y50),(51,y51)])),h)
 | .bool false=>
 thenV (some ((x 4),h)) fun y10 h=>
 thenV (pu (bin Tryd.prog .add 3 y10 (.int .i64 1)) h) fun y11 h=>
 thenV (some (y11,h)) fun y4 h=>
 some (.normal,(mkF 53 (up x [(4,y4),(6,y6),(7,y7),(8,y8),(9,y9),(10,y10),(11,y11),(12,y12),(13,y13),(14,y14),(15,y15),(16,y16),(17,y17),(18,y18),(19,y19),(20,y20),(21,y21),(22,y22),(23,y23),(24,y24),(25,y25),(26,y26),(27,y27),(28,y28),(29,y29),(30,y30),(31,y31),(32,y32),(33,y33),(34,y34),(35,y35),(36,y36),(37,y37),(38,y38),(39,y39),(40,y40),(41,y41),(42,y42),(43,y43)])),h)
 |_=>none)
 | .bool false=>
 some (.exit 0,(mkF 53 (up x [(6,y6),(7,y7),(8,y8),(9,y9)])),h)
 |_=>none)
theorem t36_eq (C:CallF) (x0:Value) (h:Heap):bodyK Tryd.prog C Tryd.f36 [x0] h=t36 C x0 h:=
 (bodyB_eq Tryd.prog C Tryd.f36 [x0] h (by kernel_rfl)).trans (by kernel_rfl)
theorem t36k36_2_eq (C:CallF) (x:Nat→Value) (h:Heap):k36_2 C (mkF 53 x) h=t36k36_2 C x h:=
 link_partF (b:=(partOf Tryd.f36 [1,1,1])) (kE:=(resultsA Tryd.prog Tryd.f36.results.toList)) (rE:=(resultsA Tryd.prog Tryd.f36.results.toList)) (xE:=(fun _ _ _=>none)) (T:=t36k36_2 C) (fun x h=>by kernel_rfl) x h
theorem t36l36_11010_eq (C:CallF) (x:Nat→Value) (h:Heap):codeA Tryd.prog C (partOf Tryd.f36 [1,1,0,1,0,0]) (mkF 53 x) h=t36l36_11010 C x h:=
 link_roundF (T:=t36l36_11010 C) (fun x h=>by kernel_rfl) x h
end Go.Proofs.YtdnahgfgoajmcaaDoor

namespace Go.Proofs.YtdnahgfgoajmcaaDoor
open Go Go.Abs
noncomputable def k104_2 (C:CallF) (e:Env) (h:Heap):Out:=codeK Tryd.prog C (partOf Tryd.f104 [1,1,1]) e h (resultsA Tryd.prog Tryd.f104.results.toList) (resultsA Tryd.prog Tryd.f104.results.toList) (fun _ _ _=>none)
noncomputable def b104_4 (C:CallF) (i:Nat) (e:Env) (h:Heap):Out:=if i=0 then (k104_2 C) e h else (fun _ _ _=>none) i e h
noncomputable def t104 (C:CallF) (x0 x1:Value) (h:Heap):Out:=
 thenV (box x1 h) fun y3 h=>
 thenV (some ((.slice none 0 0),h)) fun y4 h=>
 thenV (newC [(.slice none 0 0)] h) fun y5 h=>
 thenV (some (x0,h)) fun y7 h=>
 thenV (C 68 [y7,(.int .u8 3)] h) fun y8 h=>
 endN (codeA Tryd.prog C (partOf Tryd.f104 [1,1,0,1,0]) (mkF 23 (up (bs [x0,x1]) [(3,y3),(4,y4),(5,y5),(7,y7),(8,y8)])) h) (k104_2 C) (resultsA Tryd.prog Tryd.f104.results.toList) (b104_4 C)
noncomputable def t104k104_2 (_C:CallF) (x:Nat→Value) (h:Heap):Out:=
 thenV (ld1 (x 5) h) fun y22 h=>
 thenV (some (y22,h)) fun y4 h=>
 some (y4,h)
noncomputable def t104l104_11010a (_C:CallF) (x:Nat→Value) (h:Heap):Option (Ex×Env×Heap):=
 thenV (newC [(.int .u8 0),(.int .u8 0),(.int .u8 0),(.int .u8 0),(.int .u8 0),(.int .u8 0),(.int .u8 0),(.int .u8 0),(.int .u8 0),(.int .u8 0),(.int .u8 0),(.int .u8 0),(.int .u8 0),(.int .u8 0),(.int .u8 0),(.int .u8 0),(.int .u8 0),(.int .u8 0),(.int .u8 0),(.int .u8 0),(.int .u8 0),(.int .u8 0),(.int .u8 0),(.int .u8 0),(.int .u8 0),(.int .u8 0),(.int .u8 0),(.int .u8 0),(.int .u8 0),(.int .u8 0),(.int .u8 0),(.int .u8 0),(.int .u8 0),(.int .i64 0),(.int .u64 0),(.int .u64 0),(.bool false),(.int .i64 0),(.int .i64 0)] h) fun y6 h=>
 thenV (stN 39 y6 (x 9) h) fun _ h=>
 some (.normal,(mkF 23 (up x [(6,y6)])),h)
noncomputable def t104l104_11010b (_C:CallF) (x:Nat→Value) (h:Heap):Option (Ex×Env×Heap):=
 thenV (pu (addP (x 6) 36) h) fun y10 h=>
 thenV (ld1 y10 h) fun y11 h=>
 thenV (some (y11,h)) fun y12 h=>
 thenV (guardK (bOf y12==some true) (pu (addP (x 6) 1) h) h) fun y13 h=>
 thenV (guardK (bOf y12==some true) (ldN 32 y13 h) h) fun y14 h=>
 thenV (guardK (bOf y12==some true) (ldN 32 (x 3) h) h) fun y15 h=>
 thenV (guardK (bOf y12==some true) (pu (bin Tryd.prog .eql 35 y14 y15) h) h) fun y16 h=>
 thenV (match y12 with | .bool t=>some (if t then y16 else (.bool false),h)|_=>none) fun y17 h=>
 (match y17 with
 | .bool true=>
 thenV (ld1 (x 5) h) fun y18 h=>
 thenV (ldN 39 (x 6) h) fun y19 h=>
 thenV (bslR 39 (.agg #[(.int .u8 0),(.int .u8 0),(.int .u8 0),(.int .u8 0),(.int .u8 0),(.int .u8 0),(.int .u8 0),(.int .u8 0),(.int .u8 0),(.int .u8 0),(.int .u8 0),(.int .u8 0),(.int .u8 0),(.int .u8 0),(.int .u8 0),(.int .u8 0),(.int .u8 0),(.int .u8 0),(.int .u8 0),(.int .u8 0),(.int .u8 0),(.int .u8 0),(.int .u8 0),(.int .u8 0),(.int .u8 0),(.int .u8 0),(.int .u8 0),(.int .u8 0),(.int .u8 0),(.int .u8 0),(.int .u8 0),(.int .u8 0),(.int .u8 0),(.int .i64 0),(.int .u64 0),(.int .u64 0),(.bool false),(.int .i64 0),(.int .i64 0)]) 1 [(0,y19)] h) fun y20 h=>
 thenV (appendA 39 88 y18 y20 h) fun y21 h=>
 thenV (stN 1 (x 5) y21 h) fun _ h=>
 some (.normal,(mkF 23 (up x [(10,y10),(11,y11),(12,y12),(13,y13),(14,y14),(15,y15),(16,y16),(17,y17),(18,y18),(19,y19),(20,y20),(21,y21)])),h)
 | .bool false=>
 some (.normal,(mkF 23 (up x [(10,y10),(11,y11),(12,y12),(13,y13),(14,y14),(15,y15),(16,y16),(17,y17)])),h)
 |_=>none)
theorem t104_eq (C:CallF) (x0 x1:Value) (h:Heap):bodyK Tryd.prog C Tryd.f104 [x0,x1] h=t104 C x0 x1 h:=
 (bodyB_eq Tryd.prog C Tryd.f104 [x0,x1] h (by kernel_rfl)).trans (by kernel_rfl)
theorem t104k104_2_eq (C:CallF) (x:Nat→Value) (h:Heap):k104_2 C (mkF 23 x) h=t104k104_2 C x h:=
 link_partF (b:=(partOf Tryd.f104 [1,1,1])) (kE:=(resultsA Tryd.prog Tryd.f104.results.toList)) (rE:=(resultsA Tryd.prog Tryd.f104.results.toList)) (xE:=(fun _ _ _=>none)) (T:=t104k104_2 C) (fun x h=>by kernel_rfl) x h
theorem t104l104_11010a_eq (C:CallF) (x:Nat→Value) (h:Heap):codeA Tryd.prog C (rgA (partOf Tryd.f104 [1,1,0,1,0])) (mkF 23 x) h=t104l104_11010a C x h:=
 link_roundF (T:=t104l104_11010a C) (fun x h=>by kernel_rfl) x h
theorem t104l104_11010b_eq (C:CallF) (x:Nat→Value) (h:Heap):codeA Tryd.prog C (rgB (partOf Tryd.f104 [1,1,0,1,0])) (mkF 23 x) h=t104l104_11010b C x h:=
 link_roundF (T:=t104l104_11010b C) (fun x h=>by kernel_rfl) x h
noncomputable def t75 (C:CallF) (x0 x1:Value) (h:Heap):Out:=
 thenV (box x1 h) fun y3 h=>
 thenV (some ((.int .i64 0),h)) fun _y4 h=>
 thenV (some ((.int .i64 0),h)) fun _y5 h=>
 thenV (some (x0,h)) fun y7 h=>
 thenV (ldN 32 y3 h) fun y8 h=>
 thenV (C 104 [y7,y8] h) fun y9 h=>
 thenV (some (y9,h)) fun y6 h=>
 thenV (some (y6,h)) fun y10 h=>
 thenV (pu (lenL y10) h) fun y11 h=>
 thenV (pu (bin Tryd.prog .gtr 3 y11 (.int .i64 0)) h) fun y12 h=>
 (match y12 with
 | .bool true=>
 thenV (some (y6,h)) fun y13 h=>
 thenV (pu (idxS 39 y13 (.int .i64 0)) h) fun y14 h=>
 thenV (pu (addP y14 37) h) fun y15 h=>
 thenV (ld1 y15 h) fun y16 h=>
 thenV (some (y6,h)) fun y17 h=>
 thenV (pu (idxS 39 y17 (.int .i64 0)) h) fun y18 h=>
 thenV (pu (addP y18 38) h) fun y19 h=>
 thenV (ld1 y19 h) fun y20 h=>
 thenV (some (y16,h)) fun y4_1 h=>
 thenV (some (y20,h)) fun y5_1 h=>
 some (.tuple #[y4_1,y5_1],h)
 | .bool false=>
 thenV (some ((.int .i64 0),h)) fun y4_1 h=>
 thenV (some ((.int .i64 0),h)) fun y5_1 h=>
 some (.tuple #[y4_1,y5_1],h)
 |_=>none)
theorem t75_eq (C:CallF) (x0 x1:Value) (h:Heap):bodyK Tryd.prog C Tryd.f75 [x0,x1] h=t75 C x0 x1 h:=
 (bodyB_eq Tryd.prog C Tryd.f75 [x0,x1] h (by kernel_rfl)).trans (by kernel_rfl)
noncomputable def k51_2 (C:CallF) (e:Env) (h:Heap):Out:=codeK Tryd.prog C (partOf Tryd.f51 [1,1,1]) e h (resultsA Tryd.prog Tryd.f51.results.toList) (resultsA Tryd.prog Tryd.f51.results.toList) (fun _ _ _=>none)
noncomputable def b51_4 (C:CallF) (i:Nat) (e:Env) (h:Heap):Out:=if i=0 then (k51_2 C) e h else (fun _ _ _=>none) i e h
noncomputable def t51 (C:CallF) (x0 x1:Value) (h:Heap):Out:=
 thenV (box x1 h) fun y3 h=>
 thenV (some ((.slice none 0 0),h)) fun y4 h=>
 thenV (some ((.slice none 0 0),h)) fun y5 h=>
 thenV (some (x0,h)) fun y8 h=>
 thenV (ldN 32 y3 h) fun y9 h=>
 thenV (C 104 [y8,y9] h) fun y10 h=>
 thenV (pu (lenL y10) h) fun y11 h=>
 thenV (some ((.int .i64 0),h)) fun y12 h=>
 endL (iter (codeA Tryd.prog C (partOf Tryd.f51 [1,1,0,1,0,0])) rounds (mkF 23 (up (bs [x0,x1]) [(3,y3),(4,y4),(5,y5),(8,y8),(9,y9),(10,y10),(11,y11),(12,y12)])) h) (resultsA Tryd.prog Tryd.f51.results.toList) (b51_4 C)
noncomputable def t51k51_2 (_C:CallF) (x:Nat→Value) (h:Heap):Out:=
 thenV (some ((x 5),h)) fun y22 h=>
 thenV (some (y22,h)) fun y4 h=>
 some (y4,h)
noncomputable def t51l51_11010 (_C:CallF) (x:Nat→Value) (h:Heap):Option (Ex×Env×Heap):=
 thenV (pu (bin Tryd.prog .lss 3 (x 12) (x 11)) h) fun y13 h=>
 (match y13 with
 | .bool true=>
 thenV (pu (idxS 39 (x 10) (x 12)) h) fun y14 h=>
 thenV (ldN 39 y14 h) fun y15 h=>
 thenV (newC [(.int .u8 0),(.int .u8 0),(.int .u8 0),(.int .u8 0),(.int .u8 0),(.int .u8 0),(.int .u8 0),(.int .u8 0),(.int .u8 0),(.int .u8 0),(.int .u8 0),(.int .u8 0),(.int .u8 0),(.int .u8 0),(.int .u8 0),(.int .u8 0),(.int .u8 0),(.int .u8 0),(.int .u8 0),(.int .u8 0),(.int .u8 0),(.int .u8 0),(.int .u8 0),(.int .u8 0),(.int .u8 0),(.int .u8 0),(.int .u8 0),(.int .u8 0),(.int .u8 0),(.int .u8 0),(.int .u8 0),(.int .u8 0),(.int .u8 0),(.int .i64 0),(.int .u64 0),(.int .u64 0),(.bool false),(.int .i64 0),(.int .i64 0)] h) fun y7 h=>
 thenV (stN 39 y7 y15 h) fun _ h=>
 thenV (some ((x 5),h)) fun y16 h=>
 thenV (pu (addP y7 33) h) fun y17 h=>
 thenV (ld1 y17 h) fun y18 h=>
 thenV (bslR 1 (.int .i64 0) 1 [(0,y18)] h) fun y19 h=>
 thenV (appendA 1 8 y16 y19 h) fun y20 h=>
 thenV (some (y20,h)) fun y5 h=>
 thenV (pu (bin Tryd.prog .add 3 (x 12) (.int .i64 1)) h) fun y21 h=>
 thenV (some (y21,h)) fun y12 h=>
 some (.normal,(mkF 23 (up x [(5,y5),(7,y7),(12,y12),(13,y13),(14,y14),(15,y15),(16,y16),(17,y17),(18,y18),(19,y19),(20,y20),(21,y21)])),h)
 | .bool false=>
 some (.exit 0,(mkF 23 (up x [(13,y13)])),h)
 |_=>none)
theorem t51_eq (C:CallF) (x0 x1:Value) (h:Heap):bodyK Tryd.prog C Tryd.f51 [x0,x1] h=t51 C x0 x1 h:=
 (bodyB_eq Tryd.prog C Tryd.f51 [x0,x1] h (by kernel_rfl)).trans (by kernel_rfl)
theorem t51k51_2_eq (C:CallF) (x:Nat→Value) (h:Heap):k51_2 C (mkF 23 x) h=t51k51_2 C x h:=
 link_partF (b:=(partOf Tryd.f51 [1,1,1])) (kE:=(resultsA Tryd.prog Tryd.f51.results.toList)) (rE:=(resultsA Tryd.prog Tryd.f51.results.toList)) (xE:=(fun _ _ _=>none)) (T:=t51k51_2 C) (fun x h=>by kernel_rfl) x h
theorem t51l51_11010_eq (C:CallF) (x:Nat→Value) (h:Heap):codeA Tryd.prog C (partOf Tryd.f51 [1,1,0,1,0,0]) (mkF 23 x) h=t51l51_11010 C x h:=
 link_roundF (T:=t51l51_11010 C) (fun x h=>by kernel_rfl) x h
noncomputable def k35_2 (C:CallF) (e:Env) (h:Heap):Out:=codeK Tryd.prog C (partOf Tryd.f35 [1,1,1]) e h (resultsA Tryd.prog Tryd.f35.results.toList) (resultsA Tryd.prog Tryd.f35.results.toList) (fun _ _ _=>none)
noncomputable def b35_4 (C:CallF) (i:Nat) (e:Env) (h:Heap):Out:=if i=0 then (k35_2 C) e h else (fun _ _ _=>none) i e h
noncomputable def t35 (C:CallF) (x0:Value) (h:Heap):Out:=
 thenV (some ((.slice none 0 0),h)) fun y2 h=>
 thenV (newC [(.slice none 0 0)] h) fun y3 h=>
 thenV (some (x0,h)) fun y5 h=>
 thenV (C 68 [y5,(.int .u8 3)] h) fun y6 h=>
 endN (codeA Tryd.prog C (partOf Tryd.f35 [1,1,0,1,0]) (mkF 32 (up (bs [x0]) [(2,y2),(3,y3),(5,y5),(6,y6)])) h) (k35_2 C) (resultsA Tryd.prog Tryd.f35.results.toList) (b35_4 C)
noncomputable def t35k35_2 (_C:CallF) (x:Nat→Value) (h:Heap):Out:=
 thenV (ld1 (x 3) h) fun y31 h=>
 thenV (some (y31,h)) fun y2 h=>
 some (y2,h)
noncomputable def t35l35_11010a (_C:CallF) (x:Nat→Value) (h:Heap):Option (Ex×Env×Heap):=
 thenV (newC [(.int .u8 0),(.int .u8 0),(.int .u8 0),(.int .u8 0),(.int .u8 0),(.int .u8 0),(.int .u8 0),(.int .u8 0),(.int .u8 0),(.int .u8 0),(.int .u8 0),(.int .u8 0),(.int .u8 0),(.int .u8 0),(.int .u8 0),(.int .u8 0),(.int .u8 0),(.int .u8 0),(.int .u8 0),(.int .u8 0),(.int .u8 0),(.int .u8 0),(.int .u8 0),(.int .u8 0),(.int .u8 0),(.int .u8 0),(.int .u8 0),(.int .u8 0),(.int .u8 0),(.int .u8 0),(.int .u8 0),(.int .u8 0),(.int .u8 0),(.int .i64 0),(.int .u64 0),(.int .u64 0),(.bool false),(.int .i64 0),(.int .i64 0)] h) fun y4 h=>
 thenV (stN 39 y4 (x 7) h) fun _ h=>
 some (.normal,(mkF 32 (up x [(4,y4)])),h)
noncomputable def t35l35_11010b (_C:CallF) (x:Nat→Value) (h:Heap):Option (Ex×Env×Heap):=
 thenV (pu (addP (x 4) 36) h) fun y8 h=>
 thenV (ld1 y8 h) fun y9 h=>
 thenV (some (y9,h)) fun y10 h=>
 thenV (guardK (bOf y10==some true) (ld1 (x 3) h) h) fun y11 h=>
 thenV (guardK (bOf y10==some true) (pu (lenL y11) h) h) fun y12 h=>
 thenV (guardK (bOf y10==some true) (pu (bin Tryd.prog .eql 3 y12 (.int .i64 0)) h) h) fun y13 h=>
 thenV (guardK (bOf y10==some true) (some (y13,h)) h) fun y14 h=>
 thenV (guardK (bOf y14==some false) (ld1 (x 3) h) h) fun y15 h=>
 thenV (guardK (bOf y14==some false) (ld1 (x 3) h) h) fun y16 h=>
 thenV (guardK (bOf y14==some false) (pu (lenL y16) h) h) fun y17 h=>
 thenV (guardK (bOf y14==some false) (pu (bin Tryd.prog .sub 3 y17 (.int .i64 1)) h) h) fun y18 h=>
 thenV (guardK (bOf y14==some false) (pu (idxS 32 y15 y18) h) h) fun y19 h=>
 thenV (guardK (bOf y14==some false) (ldN 32 y19 h) h) fun y20 h=>
 thenV (guardK (bOf y14==some false) (pu (addP (x 4) 1) h) h) fun y21 h=>
 thenV (guardK (bOf y14==some false) (ldN 32 y21 h) h) fun y22 h=>
 thenV (guardK (bOf y14==some false) (pu (bin Tryd.prog .neq 35 y20 y22) h) h) fun y23 h=>
 thenV (guardK (bOf y10==some true) (match y14 with | .bool t=>some (if t then (.bool true) else y23,h)|_=>none) h) fun y24 h=>
 thenV (match y10 with | .bool t=>some (if t then y24 else (.bool false),h)|_=>none) fun y25 h=>
 (match y25 with
 | .bool true=>
 thenV (ld1 (x 3) h) fun y26 h=>
 thenV (pu (addP (x 4) 1) h) fun y27 h=>
 thenV (ldN 32 y27 h) fun y28 h=>
 thenV (bslR 32 (.agg (List.replicate 32 (.int .u8 0)).toArray) 1 [(0,y28)] h) fun y29 h=>
 thenV (appendA 32 32 y26 y29 h) fun y30 h=>
 thenV (stN 1 (x 3) y30 h) fun _ h=>
 some (.normal,(mkF 32 (up x [(8,y8),(9,y9),(10,y10),(11,y11),(12,y12),(13,y13),(14,y14),(15,y15),(16,y16),(17,y17),(18,y18),(19,y19),(20,y20),(21,y21),(22,y22),(23,y23),(24,y24),(25,y25),(26,y26),(27,y27),(28,y28),(29,y29),(30,y30)])),h)
 | .bool false=>
 some (.normal,(mkF 32 (up x [(8,y8),(9,y9),(10,y10),(11,y11),(12,y12),(13,y13),(14,y14),(15,y15),(16,y16),(17,y17),(18,y18),(19,y19),(20,y20),(21,y21),(22,y22),(23,y23),(24,y24),(25,y25)])),h)
 |_=>none)
theorem t35_eq (C:CallF) (x0:Value) (h:Heap):bodyK Tryd.prog C Tryd.f35 [x0] h=t35 C x0 h:=
 (bodyB_eq Tryd.prog C Tryd.f35 [x0] h (by kernel_rfl)).trans (by kernel_rfl)
theorem t35k35_2_eq (C:CallF) (x:Nat→Value) (h:Heap):k35_2 C (mkF 32 x) h=t35k35_2 C x h:=
 link_partF (b:=(partOf Tryd.f35 [1,1,1])) (kE:=(resultsA Tryd.prog Tryd.f35.results.toList)) (rE:=(resultsA Tryd.prog Tryd.f35.results.toList)) (xE:=(fun _ _ _=>none)) (T:=t35k35_2 C) (fun x h=>by kernel_rfl) x h
theorem t35l35_11010a_eq (C:CallF) (x:Nat→Value) (h:Heap):codeA Tryd.prog C (rgA (partOf Tryd.f35 [1,1,0,1,0])) (mkF 32 x) h=t35l35_11010a C x h:=
 link_roundF (T:=t35l35_11010a C) (fun x h=>by kernel_rfl) x h
theorem t35l35_11010b_eq (C:CallF) (x:Nat→Value) (h:Heap):codeA Tryd.prog C (rgB (partOf Tryd.f35 [1,1,0,1,0])) (mkF 32 x) h=t35l35_11010b C x h:=
 link_roundF (T:=t35l35_11010b C) (fun x h=>by kernel_rfl) x h
end Go.Proofs.YtdnahgfgoajmcaaDoor

namespace Go.Proofs.YtdnahgfgoajmcaaDoor
open Go Go.Abs
noncomputable def k79_4 (C:CallF) (e:Env) (h:Heap):Out:=codeK Tryd.prog C (partOf Tryd.f79 [1,1,1]) e h (resultsA Tryd.prog Tryd.f79.results.toList) (resultsA Tryd.prog Tryd.f79.results.toList) (fun _ _ _=>none)
noncomputable def b79_6 (C:CallF) (i:Nat) (e:Env) (h:Heap):Out:=if i=0 then (k79_4 C) e h else (fun _ _ _=>none) i e h
noncomputable def t79 (C:CallF) (x0 x1:Value) (h:Heap):Out:=
 thenV (some ((.bool false),h)) fun y4 h=>
 thenV (some (x0,h)) fun y6 h=>
 thenV (pu (lenL y6) h) fun y7 h=>
 thenV (some (x1,h)) fun y8 h=>
 thenV (pu (lenL y8) h) fun y9 h=>
 thenV (pu (bin Tryd.prog .neq 3 y7 y9) h) fun y10 h=>
 (match y10 with
 | .bool true=>
 thenV (some ((.bool false),h)) fun y4_1 h=>
 some (y4_1,h)
 | .bool false=>
 thenV (some ((.int .i64 0),h)) fun y5 h=>
 endL (iter (codeA Tryd.prog C (partOf Tryd.f79 [1,1,0,1,0,0])) rounds (mkF 26 (up (bs [x0,x1]) [(4,y4),(5,y5),(6,y6),(7,y7),(8,y8),(9,y9),(10,y10)])) h) (resultsA Tryd.prog Tryd.f79.results.toList) (b79_6 C)
 |_=>none)
noncomputable def t79k79_4 (_C:CallF) (_x:Nat→Value) (h:Heap):Out:=
 thenV (some ((.bool true),h)) fun y4 h=>
 some (y4,h)
noncomputable def t79l79_11010 (_C:CallF) (x:Nat→Value) (h:Heap):Option (Ex×Env×Heap):=
 thenV (some ((x 5),h)) fun y11 h=>
 thenV (some ((x 0),h)) fun y12 h=>
 thenV (pu (lenL y12) h) fun y13 h=>
 thenV (pu (bin Tryd.prog .lss 3 y11 y13) h) fun y14 h=>
 (match y14 with
 | .bool true=>
 thenV (some ((x 0),h)) fun y17 h=>
 thenV (some ((x 5),h)) fun y18 h=>
 thenV (pu (idxS 1 y17 y18) h) fun y19 h=>
 thenV (ld1 y19 h) fun y20 h=>
 thenV (some ((x 1),h)) fun y21 h=>
 thenV (some ((x 5),h)) fun y22 h=>
 thenV (pu (idxS 1 y21 y22) h) fun y23 h=>
 thenV (ld1 y23 h) fun y24 h=>
 thenV (pu (bin Tryd.prog .neq 3 y20 y24) h) fun y25 h=>
 (match y25 with
 | .bool true=>
 thenV (some ((.bool false),h)) fun y4 h=>
 some (.ret,(mkF 26 (up x [(4,y4),(11,y11),(12,y12),(13,y13),(14,y14),(17,y17),(18,y18),(19,y19),(20,y20),(21,y21),(22,y22),(23,y23),(24,y24),(25,y25)])),h)
 | .bool false=>
 thenV (some ((x 5),h)) fun y15 h=>
 thenV (pu (bin Tryd.prog .add 3 y15 (.int .i64 1)) h) fun y16 h=>
 thenV (some (y16,h)) fun y5 h=>
 some (.normal,(mkF 26 (up x [(5,y5),(11,y11),(12,y12),(13,y13),(14,y14),(15,y15),(16,y16),(17,y17),(18,y18),(19,y19),(20,y20),(21,y21),(22,y22),(23,y23),(24,y24),(25,y25)])),h)
 |_=>none)
 | .bool false=>
 some (.exit 0,(mkF 26 (up x [(11,y11),(12,y12),(13,y13),(14,y14)])),h)
 |_=>none)
theorem t79_eq (C:CallF) (x0 x1:Value) (h:Heap):bodyK Tryd.prog C Tryd.f79 [x0,x1] h=t79 C x0 x1 h:=
 (bodyB_eq Tryd.prog C Tryd.f79 [x0,x1] h (by kernel_rfl)).trans (by kernel_rfl)
theorem t79k79_4_eq (C:CallF) (x:Nat→Value) (h:Heap):k79_4 C (mkF 26 x) h=t79k79_4 C x h:=
 link_partF (b:=(partOf Tryd.f79 [1,1,1])) (kE:=(resultsA Tryd.prog Tryd.f79.results.toList)) (rE:=(resultsA Tryd.prog Tryd.f79.results.toList)) (xE:=(fun _ _ _=>none)) (T:=t79k79_4 C) (fun x h=>by kernel_rfl) x h
theorem t79l79_11010_eq (C:CallF) (x:Nat→Value) (h:Heap):codeA Tryd.prog C (partOf Tryd.f79 [1,1,0,1,0,0]) (mkF 26 x) h=t79l79_11010 C x h:=
 link_roundF (T:=t79l79_11010 C) (fun x h=>by kernel_rfl) x h
noncomputable def k34_4 (C:CallF) (e:Env) (h:Heap):Out:=codeK Tryd.prog C (partOf Tryd.f34 [1,1,1]) e h (resultsA Tryd.prog Tryd.f34.results.toList) (resultsA Tryd.prog Tryd.f34.results.toList) (fun _ _ _=>none)
noncomputable def b34_6 (C:CallF) (i:Nat) (e:Env) (h:Heap):Out:=if i=0 then (k34_4 C) e h else (fun _ _ _=>none) i e h
noncomputable def t34 (C:CallF) (x0 x1:Value) (h:Heap):Out:=
 thenV (some ((.bool false),h)) fun y4 h=>
 thenV (some (x0,h)) fun y6 h=>
 thenV (pu (lenL y6) h) fun y7 h=>
 thenV (some (x1,h)) fun y8 h=>
 thenV (pu (lenL y8) h) fun y9 h=>
 thenV (pu (bin Tryd.prog .neq 3 y7 y9) h) fun y10 h=>
 (match y10 with
 | .bool true=>
 thenV (some ((.bool false),h)) fun y4_1 h=>
 some (y4_1,h)
 | .bool false=>
 thenV (some ((.int .i64 0),h)) fun y5 h=>
 endL (iter (codeA Tryd.prog C (partOf Tryd.f34 [1,1,0,1,0,0])) rounds (mkF 26 (up (bs [x0,x1]) [(4,y4),(5,y5),(6,y6),(7,y7),(8,y8),(9,y9),(10,y10)])) h) (resultsA Tryd.prog Tryd.f34.results.toList) (b34_6 C)
 |_=>none)
noncomputable def t34k34_4 (_C:CallF) (_x:Nat→Value) (h:Heap):Out:=
 thenV (some ((.bool true),h)) fun y4 h=>
 some (y4,h)
noncomputable def t34l34_11010 (_C:CallF) (x:Nat→Value) (h:Heap):Option (Ex×Env×Heap):=
 thenV (some ((x 5),h)) fun y11 h=>
 thenV (some ((x 0),h)) fun y12 h=>
 thenV (pu (lenL y12) h) fun y13 h=>
 thenV (pu (bin Tryd.prog .lss 3 y11 y13) h) fun y14 h=>
 (match y14 with
 | .bool true=>
 thenV (some ((x 0),h)) fun y17 h=>
 thenV (some ((x 5),h)) fun y18 h=>
 thenV (pu (idxS 32 y17 y18) h) fun y19 h=>
 thenV (ldN 32 y19 h) fun y20 h=>
 thenV (some ((x 1),h)) fun y21 h=>
 thenV (some ((x 5),h)) fun y22 h=>
 thenV (pu (idxS 32 y21 y22) h) fun y23 h=>
 thenV (ldN 32 y23 h) fun y24 h=>
 thenV (pu (bin Tryd.prog .neq 35 y20 y24) h) fun y25 h=>
 (match y25 with
 | .bool true=>
 thenV (some ((.bool false),h)) fun y4 h=>
 some (.ret,(mkF 26 (up x [(4,y4),(11,y11),(12,y12),(13,y13),(14,y14),(17,y17),(18,y18),(19,y19),(20,y20),(21,y21),(22,y22),(23,y23),(24,y24),(25,y25)])),h)
 | .bool false=>
 thenV (some ((x 5),h)) fun y15 h=>
 thenV (pu (bin Tryd.prog .add 3 y15 (.int .i64 1)) h) fun y16 h=>
 thenV (some (y16,h)) fun y5 h=>
 some (.normal,(mkF 26 (up x [(5,y5),(11,y11),(12,y12),(13,y13),(14,y14),(15,y15),(16,y16),(17,y17),(18,y18),(19,y19),(20,y20),(21,y21),(22,y22),(23,y23),(24,y24),(25,y25)])),h)
 |_=>none)
 | .bool false=>
 some (.exit 0,(mkF 26 (up x [(11,y11),(12,y12),(13,y13),(14,y14)])),h)
 |_=>none)
theorem t34_eq (C:CallF) (x0 x1:Value) (h:Heap):bodyK Tryd.prog C Tryd.f34 [x0,x1] h=t34 C x0 x1 h:=
 (bodyB_eq Tryd.prog C Tryd.f34 [x0,x1] h (by kernel_rfl)).trans (by kernel_rfl)
theorem t34k34_4_eq (C:CallF) (x:Nat→Value) (h:Heap):k34_4 C (mkF 26 x) h=t34k34_4 C x h:=
 link_partF (b:=(partOf Tryd.f34 [1,1,1])) (kE:=(resultsA Tryd.prog Tryd.f34.results.toList)) (rE:=(resultsA Tryd.prog Tryd.f34.results.toList)) (xE:=(fun _ _ _=>none)) (T:=t34k34_4 C) (fun x h=>by kernel_rfl) x h
theorem t34l34_11010_eq (C:CallF) (x:Nat→Value) (h:Heap):codeA Tryd.prog C (partOf Tryd.f34 [1,1,0,1,0,0]) (mkF 26 x) h=t34l34_11010 C x h:=
 link_roundF (T:=t34l34_11010 C) (fun x h=>by kernel_rfl) x h
end Go.Proofs.YtdnahgfgoajmcaaDoor

namespace Go.Proofs.YtdnahgfgoajmcaaDoor
open Go Go.Abs
noncomputable def t73 (C:CallF) (x0 x1 x2:Value) (h:Heap):Out:=
 thenV (box x1 h) fun y4 h=>
 thenV (newC [(.int .u8 0),(.int .u8 0),(.int .u8 0),(.int .u8 0),(.int .u8 0),(.int .u8 0),(.int .u8 0),(.int .u8 0),(.int .u8 0),(.int .u8 0),(.int .u8 0),(.int .u8 0),(.int .u8 0),(.int .u8 0),(.int .u8 0),(.int .u8 0),(.int .u8 0),(.int .u8 0),(.int .u8 0),(.int .u8 0),(.int .u8 0),(.int .u8 0),(.int .u8 0),(.int .u8 0),(.int .u8 0),(.int .u8 0),(.int .u8 0),(.int .u8 0),(.int .u8 0),(.int .u8 0),(.int .u8 0),(.int .u8 0),(.int .u8 0),(.int .i64 0),(.int .u64 0),(.int .u64 0),(.bool false),(.int .i64 0),(.int .i64 0)] h) fun y6 h=>
 thenV (some ((.bool false),h)) fun _y7 h=>
 thenV (some (x0,h)) fun y10 h=>
 thenV (pu (bin Tryd.prog .eql 25 y10 (.pointer none)) h) fun y11 h=>
 thenV (some (y11,h)) fun y12 h=>
 thenV (guardK (bOf y12==some false) (some (x2,h)) h) fun y13 h=>
 thenV (guardK (bOf y12==some false) (pu (bin Tryd.prog .lss 3 y13 (.int .i64 0)) h) h) fun y14 h=>
 thenV (match y12 with | .bool t=>some (if t then (.bool true) else y14,h)|_=>none) fun y15 h=>
 thenV (some (y15,h)) fun y16 h=>
 thenV (guardK (bOf y16==some false) (some (x2,h)) h) fun y17 h=>
 thenV (guardK (bOf y16==some false) (pu (bin Tryd.prog .geq 3 y17 (.int .i64 16)) h) h) fun y18 h=>
 thenV (match y16 with | .bool t=>some (if t then (.bool true) else y18,h)|_=>none) fun y19 h=>
 (match y19 with
 | .bool true=>
 thenV (pu (bldR [(.int .u8 0),(.int .u8 0),(.int .u8 0),(.int .u8 0),(.int .u8 0),(.int .u8 0),(.int .u8 0),(.int .u8 0),(.int .u8 0),(.int .u8 0),(.int .u8 0),(.int .u8 0),(.int .u8 0),(.int .u8 0),(.int .u8 0),(.int .u8 0),(.int .u8 0),(.int .u8 0),(.int .u8 0),(.int .u8 0),(.int .u8 0),(.int .u8 0),(.int .u8 0),(.int .u8 0),(.int .u8 0),(.int .u8 0),(.int .u8 0),(.int .u8 0),(.int .u8 0),(.int .u8 0),(.int .u8 0),(.int .u8 0),(.int .u8 0),(.int .i64 0),(.int .u64 0),(.int .u64 0),(.bool false),(.int .i64 0),(.int .i64 0)] []) h) fun y20 h=>
 thenV (stN 39 y6 y20 h) fun _ h=>
 thenV (some ((.bool false),h)) fun y7_1 h=>
 resultsA Tryd.prog Tryd.f73.results.toList (mkF 56 (up (bs [x0,x1,x2]) [(4,y4),(6,y6),(7,y7_1),(10,y10),(11,y11),(12,y12),(13,y13),(14,y14),(15,y15),(16,y16),(17,y17),(18,y18),(19,y19),(20,y20)])) h
 | .bool false=>
 thenV (ldN 32 y4 h) fun y21 h=>
 thenV (some (x2,h)) fun y22 h=>
 thenV (pu (bldR [(.int .u8 0),(.int .u8 0),(.int .u8 0),(.int .u8 0),(.int .u8 0),(.int .u8 0),(.int .u8 0),(.int .u8 0),(.int .u8 0),(.int .u8 0),(.int .u8 0),(.int .u8 0),(.int .u8 0),(.int .u8 0),(.int .u8 0),(.int .u8 0),(.int .u8 0),(.int .u8 0),(.int .u8 0),(.int .u8 0),(.int .u8 0),(.int .u8 0),(.int .u8 0),(.int .u8 0),(.int .u8 0),(.int .u8 0),(.int .u8 0),(.int .u8 0),(.int .u8 0),(.int .u8 0),(.int .u8 0),(.int .u8 0),(.int .u8 0),(.int .i64 0),(.int .u64 0),(.int .u64 0),(.bool false),(.int .i64 0),(.int .i64 0)] [(0,1,(.int .u8 3)),(1,32,y21),(33,1,y22)]) h) fun y23 h=>
 thenV (newC [(.int .u8 0),(.int .u8 0),(.int .u8 0),(.int .u8 0),(.int .u8 0),(.int .u8 0),(.int .u8 0),(.int .u8 0),(.int .u8 0),(.int .u8 0),(.int .u8 0),(.int .u8 0),(.int .u8 0),(.int .u8 0),(.int .u8 0),(.int .u8 0),(.int .u8 0),(.int .u8 0),(.int .u8 0),(.int .u8 0),(.int .u8 0),(.int .u8 0),(.int .u8 0),(.int .u8 0),(.int .u8 0),(.int .u8 0),(.int .u8 0),(.int .u8 0),(.int .u8 0),(.int .u8 0),(.int .u8 0),(.int .u8 0),(.int .u8 0),(.int .i64 0),(.int .u64 0),(.int .u64 0),(.bool false),(.int .i64 0),(.int .i64 0)] h) fun y8 h=>
 thenV (stN 39 y8 y23 h) fun _ h=>
 thenV (some (x0,h)) fun y24 h=>
 thenV (ldN 39 y8 h) fun y25 h=>
 thenV (C 67 [y25] h) fun y26 h=>
 thenV (C 56 [y24,y26] h) fun y27 h=>
 thenV (some (y27,h)) fun y9 h=>
 let g8_0:=h
 thenV (some (y9,g8_0)) fun y28 g8_1=>
 thenV (some (x0,g8_1)) fun y29 g8_2=>
 thenV (pu (nilCheckA y29) g8_2) fun y30 g8_3=>
 thenV (pu (addP y30 0) g8_3) fun y31 g8_4=>
 thenV (ld1 y31 g8_4) fun y32 g8_5=>
 thenV (pu (lenL y32) g8_5) fun y33 g8_6=>
 thenV (pu (bin Tryd.prog .lss 3 y28 y33) g8_6) fun y34 g8_7=>
 thenV (some (y34,g8_7)) fun y35 g8_8=>
 thenV (guardK (bOf y35==some true) (some (x0,g8_8)) g8_8) fun y36 g8_9=>
 thenV (guardK (bOf y35==some true) (pu (nilCheckA y36) g8_9) g8_9) fun y37 g8_10=>
 thenV (guardK (bOf y35==some true) (pu (addP y37 0) g8_10) g8_10) fun y38 g8_11=>
 thenV (guardK (bOf y35==some true) (ld1 y38 g8_11) g8_11) fun y39 g8_12=>
 thenV (guardK (bOf y35==some true) (some (y9,g8_12)) g8_12) fun y40 g8_13=>
 thenV (guardK (bOf y35==some true) (pu (idxS 39 y39 y40) g8_13) g8_13) fun y41 g8_14=>
 thenV (guardK (bOf y35==some true) (ldN 39 y41 g8_14) g8_14) fun y42 g8_15=>
 thenV (guardK (bOf y35==some true) (C 62 [y42] g8_15) g8_15) fun y43 g8_16=>
 thenV (guardK (bOf y35==some true) (ldN 39 y8 g8_16) g8_16) fun y44 g8_17=>
 thenV (guardK (bOf y35==some true) (C 62 [y44] g8_17) g8_17) fun y45 g8_18=>
 thenV (guardK (bOf y35==some true) (pu (bin Tryd.prog .eql 101 y43 y45) g8_18) g8_18) fun y46 g8_19=>
 thenV (match y35 with | .bool t=>some (if t then y46 else (.bool false),g8_19)|_=>none) fun y47 g8_20=>
 (match (chkR (bOf y35==some true) (ldN 39 y8 g8_15) y44&&true) with
 |true=>
 let h:=g8_20
 (match y47 with
 | .bool true=>
 thenV (some (x0,h)) fun y48 h=>
 thenV (pu (nilCheckA y48) h) fun y49 h=>
 thenV (pu (addP y49 0) h) fun y50 h=>
 thenV (ld1 y50 h) fun y51 h=>
 thenV (some (y9,h)) fun y52 h=>
 thenV (pu (idxS 39 y51 y52) h) fun y53 h=>
 thenV (ldN 39 y53 h) fun y54 h=>
 thenV (stN 39 y6 y54 h) fun _ h=>
 thenV (some ((.bool true),h)) fun y7_1 h=>
 resultsA Tryd.prog Tryd.f73.results.toList (mkF 56 (up (bs [x0,x1,x2]) [(4,y4),(6,y6),(7,y7_1),(8,y8),(9,y9),(10,y10),(11,y11),(12,y12),(13,y13),(14,y14),(15,y15),(16,y16),(17,y17),(18,y18),(19,y19),(21,y21),(22,y22),(23,y23),(24,y24),(25,y25),(26,y26),(27,y27),(28,y28),(29,y29),(30,y30),(31,y31),(32,y32),(33,y33),(34,y34),(35,y35),(36,y36),(37,y37),(38,y38),(39,y39),(40,y40),(41,y41),(42,y42),(43,y43),(44,y44),(45,y45),(46,y46),(47,y47),(48,y48),(49,y49),(50,y50),(51,y51),(52,y52),(53,y53),(54,y54)])) h
 | .bool false=>
 thenV (pu (bldR [(.int .u8 0),(.int .u8 0),(.int .u8 0),(.int .u8 0),(.int .u8 0),(.int .u8 0),(.int .u8 0),(.int .u8 0),(.int .u8 0),(.int .u8 0),(.int .u8 0),(.int .u8 0),(.int .u8 0),(.int .u8 0),(.int .u8 0),(.int .u8 0),(.int .u8 0),(.int .u8 0),(.int .u8 0),(.int .u8 0),(.int .u8 0),(.int .u8 0),(.int .u8 0),(.int .u8 0),(.int .u8 0),(.int .u8 0),(.int .u8 0),(.int .u8 0),(.int .u8 0),(.int .u8 0),(.int .u8 0),(.int .u8 0),(.int .u8 0),(.int .i64 0),(.int .u64 0),(.int .u64 0),(.bool false),(.int .i64 0),(.int .i64 0)] []) h) fun y55 h=>
 thenV (stN 39 y6 y55 h) fun _ h=>
 thenV (some ((.bool false),h)) fun y7_1 h=>
 resultsA Tryd.prog Tryd.f73.results.toList (mkF 56 (up (bs [x0,x1,x2]) [(4,y4),(6,y6),(7,y7_1),(8,y8),(9,y9),(10,y10),(11,y11),(12,y12),(13,y13),(14,y14),(15,y15),(16,y16),(17,y17),(18,y18),(19,y19),(21,y21),(22,y22),(23,y23),(24,y24),(25,y25),(26,y26),(27,y27),(28,y28),(29,y29),(30,y30),(31,y31),(32,y32),(33,y33),(34,y34),(35,y35),(36,y36),(37,y37),(38,y38),(39,y39),(40,y40),(41,y41),(42,y42),(43,y43),(44,y44),(45,y45),(46,y46),(47,y47),(55,y55)])) h
 |_=>none)
 |false=>none)
 |_=>none)
theorem t73_eq (C:CallF) (x0 x1 x2:Value) (h:Heap):bodyK Tryd.prog C Tryd.f73 [x0,x1,x2] h=t73 C x0 x1 x2 h:=
 (bodyB_eq Tryd.prog C Tryd.f73 [x0,x1,x2] h (by kernel_rfl)).trans (by kernel_rfl)
noncomputable def t56 (C:CallF) (x0 x1:Value) (h:Heap):Out:=
 thenV (box x0 h) fun y2 h=>
 thenV (box x1 h) fun y3 h=>
 thenV (some ((.int .i64 0),h)) fun _y4 h=>
 thenV (ld1 y2 h) fun y5 h=>
 thenV (pu (nilCheckA y5) h) fun y6 h=>
 thenV (pu (addP y6 0) h) fun y7 h=>
 thenV (ld1 y7 h) fun y8 h=>
 thenV (pu (lenL y8) h) fun y9 h=>
 thenV (some (.func (.func 112) #[] #[y2,y3],h)) fun y10 h=>
 thenV (C 111 [y9,y10] h) fun y11 h=>
 thenV (some (y11,h)) fun y4_1 h=>
 some (y4_1,h)
theorem t56_eq (C:CallF) (x0 x1:Value) (h:Heap):bodyK Tryd.prog C Tryd.f56 [x0,x1] h=t56 C x0 x1 h:=
 (bodyB_eq Tryd.prog C Tryd.f56 [x0,x1] h (by kernel_rfl)).trans (by kernel_rfl)
noncomputable def k111_2 (C:CallF) (e:Env) (h:Heap):Out:=codeK Tryd.prog C (partOf Tryd.f111 [1,1,1]) e h (resultsA Tryd.prog Tryd.f111.results.toList) (resultsA Tryd.prog Tryd.f111.results.toList) (fun _ _ _=>none)
noncomputable def b111_3 (C:CallF) (i:Nat) (e:Env) (h:Heap):Out:=if i=0 then (k111_2 C) e h else (fun _ _ _=>none) i e h
noncomputable def t111 (C:CallF) (x0 x1:Value) (h:Heap):Out:=
 thenV (some ((.int .i64 0),h)) fun y4 h=>
 thenV (some (x0,h)) fun y8 h=>
 thenV (some ((.int .i64 0),h)) fun y5 h=>
 thenV (some (y8,h)) fun y6 h=>
 endL (iter (codeA Tryd.prog C (partOf Tryd.f111 [1,1,0,0,0])) rounds (mkF 26 (up (bs [x0,x1]) [(4,y4),(5,y5),(6,y6),(8,y8)])) h) (resultsA Tryd.prog Tryd.f111.results.toList) (b111_3 C)
noncomputable def t111k111_2 (_C:CallF) (x:Nat→Value) (h:Heap):Out:=
 thenV (some ((x 5),h)) fun y25 h=>
 thenV (some (y25,h)) fun y4 h=>
 some (y4,h)
noncomputable def t111l111_1100 (C:CallF) (x:Nat→Value) (h:Heap):Option (Ex×Env×Heap):=
 thenV (some ((x 5),h)) fun y9 h=>
 thenV (some ((x 6),h)) fun y10 h=>
 thenV (pu (bin Tryd.prog .lss 3 y9 y10) h) fun y11 h=>
 (match y11 with
 | .bool true=>
 thenV (some ((x 5),h)) fun y12 h=>
 thenV (some ((x 6),h)) fun y13 h=>
 thenV (pu (bin Tryd.prog .add 3 y12 y13) h) fun y14 h=>
 thenV (cvI .u64 y14 h) fun y15 h=>
 thenV (pu (bin Tryd.prog .shr 111 y15 (.int .u64 1)) h) fun y16 h=>
 thenV (cvI .i64 y16 h) fun y17 h=>
 thenV (some (y17,h)) fun y7 h=>
 thenV (some ((x 1),h)) fun y18 h=>
 thenV (some (y7,h)) fun y19 h=>
 thenV (callA Tryd.prog C y18 [y19] h) fun y20 h=>
 thenV (pu (unA .not y20) h) fun y21 h=>
 (match y21 with
 | .bool true=>
 thenV (some (y7,h)) fun y22 h=>
 thenV (pu (bin Tryd.prog .add 3 y22 (.int .i64 1)) h) fun y23 h=>
 thenV (some (y23,h)) fun y5 h=>
 some (.normal,(mkF 26 (up x [(5,y5),(7,y7),(9,y9),(10,y10),(11,y11),(12,y12),(13,y13),(14,y14),(15,y15),(16,y16),(17,y17),(18,y18),(19,y19),(20,y20),(21,y21),(22,y22),(23,y23)])),h)
 | .bool false=>
 thenV (some (y7,h)) fun y24 h=>
 thenV (some (y24,h)) fun y6 h=>
 some (.normal,(mkF 26 (up x [(6,y6),(7,y7),(9,y9),(10,y10),(11,y11),(12,y12),(13,y13),(14,y14),(15,y15),(16,y16),(17,y17),(18,y18),(19,y19),(20,y20),(21,y21),(24,y24)])),h)
 |_=>none)
 | .bool false=>
 some (.exit 0,(mkF 26 (up x [(9,y9),(10,y10),(11,y11)])),h)
 |_=>none)
theorem t111_eq (C:CallF) (x0 x1:Value) (h:Heap):bodyK Tryd.prog C Tryd.f111 [x0,x1] h=t111 C x0 x1 h:=
 (bodyB_eq Tryd.prog C Tryd.f111 [x0,x1] h (by kernel_rfl)).trans (by kernel_rfl)
theorem t111k111_2_eq (C:CallF) (x:Nat→Value) (h:Heap):k111_2 C (mkF 26 x) h=t111k111_2 C x h:=
 link_partF (b:=(partOf Tryd.f111 [1,1,1])) (kE:=(resultsA Tryd.prog Tryd.f111.results.toList)) (rE:=(resultsA Tryd.prog Tryd.f111.results.toList)) (xE:=(fun _ _ _=>none)) (T:=t111k111_2 C) (fun x h=>by kernel_rfl) x h
theorem t111l111_1100_eq (C:CallF) (x:Nat→Value) (h:Heap):codeA Tryd.prog C (partOf Tryd.f111 [1,1,0,0,0]) (mkF 26 x) h=t111l111_1100 C x h:=
 link_roundF (T:=t111l111_1100 C) (fun x h=>by kernel_rfl) x h
noncomputable def t112 (C:CallF) (x0 x1 x2:Value) (h:Heap):Out:=
 thenV (some ((.bool false),h)) fun _y4 h=>
 let g2_0:=h
 thenV (ld1 x1 g2_0) fun y5 g2_1=>
 thenV (pu (nilCheckA y5) g2_1) fun y6 g2_2=>
 thenV (pu (addP y6 0) g2_2) fun y7 g2_3=>
 thenV (ld1 y7 g2_3) fun y8 g2_4=>
 thenV (some (x0,g2_4)) fun y9 g2_5=>
 thenV (pu (idxS 39 y8 y9) g2_5) fun y10 g2_6=>
 thenV (ldN 39 y10 g2_6) fun y11 g2_7=>
 thenV (C 67 [y11] g2_7) fun y12 g2_8=>
 thenV (ld1 x2 g2_8) fun y13 g2_9=>
 thenV (C 66 [y12,y13] g2_9) fun y14 g2_10=>
 thenV (pu (bin Tryd.prog .geq 3 y14 (.int .i64 0)) g2_10) fun y15 g2_11=>
 thenV (some (y15,g2_11)) fun y4_1 g2_12=>
 (match (chkR true (ld1 x2 g2_7) y13&&true) with
 |true=>
 let h:=g2_12
 some (y4_1,h)
 |false=>none)
theorem t112_eq (C:CallF) (x0 x1 x2:Value) (h:Heap):bodyK Tryd.prog C Tryd.f112 [x0,x1,x2] h=t112 C x0 x1 x2 h:=
 (bodyB_eq Tryd.prog C Tryd.f112 [x0,x1,x2] h (by kernel_rfl)).trans (by kernel_rfl)
end Go.Proofs.YtdnahgfgoajmcaaDoor

