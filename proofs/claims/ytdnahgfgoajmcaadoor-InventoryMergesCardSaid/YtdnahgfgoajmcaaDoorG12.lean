/-
  A part of the proof, spaces and names shortened by a program (a claim may hold 1,500,000 bytes).
  Conditions: as each theorem states.
-/
import Derived.Test.YtdnahgfgoajmcaaDoorG11
import Derived.Test.YtdnahgfgoajmcaaDoorProg
import Derived.KernelRfl
namespace Go.Proofs.YtdnahgfgoajmcaaDoor
open Go Go.Abs
noncomputable def t16 (C:CallF) (x0 x1:Value) (h:Heap):Out:=
 thenV (some ((.slice none 0 0),h)) fun y4 h=>
 thenV (some ((.int .i64 0),h)) fun y5 h=>
 thenV (bslR 39 (.agg #[(.int .u8 0),(.int .u8 0),(.int .u8 0),(.int .u8 0),(.int .u8 0),(.int .u8 0),(.int .u8 0),(.int .u8 0),(.int .u8 0),(.int .u8 0),(.int .u8 0),(.int .u8 0),(.int .u8 0),(.int .u8 0),(.int .u8 0),(.int .u8 0),(.int .u8 0),(.int .u8 0),(.int .u8 0),(.int .u8 0),(.int .u8 0),(.int .u8 0),(.int .u8 0),(.int .u8 0),(.int .u8 0),(.int .u8 0),(.int .u8 0),(.int .u8 0),(.int .u8 0),(.int .u8 0),(.int .u8 0),(.int .u8 0),(.int .u8 0),(.int .i64 0),(.int .u64 0),(.int .u64 0),(.bool false),(.int .i64 0),(.int .i64 0)]) 0 [] h) fun y9 h=>
 thenV (some (x0,h)) fun y10 h=>
 thenV (appendA 39 88 y9 y10 h) fun y11 h=>
 thenV (some (x1,h)) fun y12 h=>
 thenV (appendA 39 88 y11 y12 h) fun y13 h=>
 thenV (C 52 [y13] h) fun y14 h=>
 thenV (some (y14,h)) fun y8 h=>
 thenV (pu (extractA y8 0) h) fun y15 h=>
 thenV (pu (extractA y8 1) h) fun y16 h=>
 thenV (some (y15,h)) fun y6 h=>
 thenV (some (y16,h)) fun y7 h=>
 thenV (some (y7,h)) fun y17 h=>
 thenV (pu (bin Tryd.prog .neq 26 y17 (.int .i64 0)) h) fun y18 h=>
 (match y18 with
 | .bool true=>
 thenV (some (x0,h)) fun y19 h=>
 thenV (some (y7,h)) fun y20 h=>
 thenV (some (y19,h)) fun y4_1 h=>
 thenV (some (y20,h)) fun y5_1 h=>
 some (.tuple #[y4_1,y5_1],h)
 | .bool false=>
 thenV (some (y6,h)) fun y21 h=>
 thenV (some (y21,h)) fun y4_1 h=>
 thenV (some ((.int .i64 0),h)) fun y5_1 h=>
 some (.tuple #[y4_1,y5_1],h)
 |_=>none)
theorem t16_eq (C:CallF) (x0 x1:Value) (h:Heap):bodyK Tryd.prog C Tryd.f16 [x0,x1] h=t16 C x0 x1 h:=
 (bodyB_eq Tryd.prog C Tryd.f16 [x0,x1] h (by kernel_rfl)).trans (by kernel_rfl)
noncomputable def k52_2 (C:CallF) (e:Env) (h:Heap):Out:=codeK Tryd.prog C (partOf Tryd.f52 [1,1,1]) e h (resultsA Tryd.prog Tryd.f52.results.toList) (resultsA Tryd.prog Tryd.f52.results.toList) (fun _ _ _=>none)
noncomputable def b52_4 (C:CallF) (i:Nat) (e:Env) (h:Heap):Out:=if i=0 then (k52_2 C) e h else (fun _ _ _=>none) i e h
noncomputable def k52_8 (C:CallF) (e:Env) (h:Heap):Option (Ex×Env×Heap):=codeK Tryd.prog C (partOf Tryd.f52 [1,1,0,1,0,0,1,1]) e h (fun e h=>some (Ex.normal,e,h)) (fun e h=>some (Ex.ret,e,h)) (fun i e h=>some (Ex.exit i,e,h))
noncomputable def b52_9 (C:CallF) (i:Nat) (e:Env) (h:Heap):Option (Ex×Env×Heap):=if i=1 then (k52_8 C) e h else (fun i e h=>some (Ex.exit i,e,h)) i e h
noncomputable def k52_16 (C:CallF) (e:Env) (h:Heap):Option (Ex×Env×Heap):=codeK Tryd.prog C (partOf Tryd.f52 [1,1,0,1,0,0,1,0,0,1,1,1,1]) e h (k52_8 C) (fun e h=>some (Ex.ret,e,h)) (b52_9 C)
noncomputable def b52_17 (C:CallF) (i:Nat) (e:Env) (h:Heap):Option (Ex×Env×Heap):=if i=2 then (k52_16 C) e h else (b52_9 C) i e h
noncomputable def t52 (C:CallF) (x0:Value) (h:Heap):Out:=
 thenV (some ((.slice none 0 0),h)) fun y2 h=>
 thenV (some ((.int .i64 0),h)) fun y3 h=>
 thenV (bslR 39 (.agg #[(.int .u8 0),(.int .u8 0),(.int .u8 0),(.int .u8 0),(.int .u8 0),(.int .u8 0),(.int .u8 0),(.int .u8 0),(.int .u8 0),(.int .u8 0),(.int .u8 0),(.int .u8 0),(.int .u8 0),(.int .u8 0),(.int .u8 0),(.int .u8 0),(.int .u8 0),(.int .u8 0),(.int .u8 0),(.int .u8 0),(.int .u8 0),(.int .u8 0),(.int .u8 0),(.int .u8 0),(.int .u8 0),(.int .u8 0),(.int .u8 0),(.int .u8 0),(.int .u8 0),(.int .u8 0),(.int .u8 0),(.int .u8 0),(.int .u8 0),(.int .i64 0),(.int .u64 0),(.int .u64 0),(.bool false),(.int .i64 0),(.int .i64 0)]) 0 [] h) fun y7 h=>
 thenV (some (y7,h)) fun y4 h=>
 thenV (some ((.int .i64 0),h)) fun y5 h=>
 endL (iter (codeA Tryd.prog C (partOf Tryd.f52 [1,1,0,1,0,0])) rounds (mkF 76 (up (bs [x0]) [(2,y2),(3,y3),(4,y4),(5,y5),(7,y7)])) h) (resultsA Tryd.prog Tryd.f52.results.toList) (b52_4 C)
noncomputable def t52k52_2 (C:CallF) (x:Nat→Value) (h:Heap):Out:=
 thenV (some ((x 4),h)) fun y75 h=>
 thenV (some (y75,h)) fun y2 h=>
 thenV (some ((.int .i64 0),h)) fun y3 h=>
 some (.tuple #[y2,y3],h)
noncomputable def t52l52_11010 (C:CallF) (x:Nat→Value) (h:Heap):Option (Ex×Env×Heap):=
 thenV (some ((x 5),h)) fun y8 h=>
 thenV (some ((x 0),h)) fun y9 h=>
 thenV (pu (lenL y9) h) fun y10 h=>
 thenV (pu (bin Tryd.prog .lss 3 y8 y10) h) fun y11 h=>
 (match y11 with
 | .bool true=>
 thenV (some ((x 0),h)) fun y14 h=>
 thenV (some ((x 5),h)) fun y15 h=>
 thenV (pu (idxS 39 y14 y15) h) fun y16 h=>
 thenV (ldN 39 y16 h) fun y17 h=>
 thenV (C 48 [y17] h) fun y18 h=>
 thenV (pu (unA .not y18) h) fun y19 h=>
 (match y19 with
 | .bool true=>
 thenV (some ((.slice none 0 0),h)) fun y2 h=>
 thenV (some ((.int .i64 2),h)) fun y3 h=>
 some (.ret,(mkF 76 (up x [(2,y2),(3,y3),(8,y8),(9,y9),(10,y10),(11,y11),(14,y14),(15,y15),(16,y16),(17,y17),(18,y18),(19,y19)])),h)
 | .bool false=>
 thenV (some ((x 0),h)) fun y20 h=>
 thenV (some ((x 5),h)) fun y21 h=>
 thenV (pu (idxS 39 y20 y21) h) fun y22 h=>
 thenV (ldN 39 y22 h) fun y23 h=>
 thenV (some ((x 0),h)) fun y24 h=>
 thenV (C 105 [y23,y24] h) fun y25 h=>
 (match y25 with
 | .bool true=>
 thenV (some ((x 5),h)) fun y12 h=>
 thenV (pu (bin Tryd.prog .add 3 y12 (.int .i64 1)) h) fun y13 h=>
 thenV (some (y13,h)) fun y5 h=>
 some (.normal,(mkF 76 (up x [(5,y5),(8,y8),(9,y9),(10,y10),(11,y11),(12,y12),(13,y13),(14,y14),(15,y15),(16,y16),(17,y17),(18,y18),(19,y19),(20,y20),(21,y21),(22,y22),(23,y23),(24,y24),(25,y25)])),h)
 | .bool false=>
 thenV (some ((.int .i64 0),h)) fun y6 h=>
 endL (iter (codeA Tryd.prog C (partOf Tryd.f52 [1,1,0,1,0,0,1,0,0,1,1,1,0,0,0])) rounds (mkF 76 (up x [(6,y6),(8,y8),(9,y9),(10,y10),(11,y11),(14,y14),(15,y15),(16,y16),(17,y17),(18,y18),(19,y19),(20,y20),(21,y21),(22,y22),(23,y23),(24,y24),(25,y25)])) h) (fun e h=>some (Ex.ret,e,h)) (b52_17 C)
 |_=>none)
 |_=>none)
 | .bool false=>
 some (.exit 0,(mkF 76 (up x [(8,y8),(9,y9),(10,y10),(11,y11)])),h)
 |_=>none)
noncomputable def t52k52_8 (C:CallF) (x:Nat→Value) (h:Heap):Option (Ex×Env×Heap):=
 thenV (some ((x 5),h)) fun y12 h=>
 thenV (pu (bin Tryd.prog .add 3 y12 (.int .i64 1)) h) fun y13 h=>
 thenV (some (y13,h)) fun y5 h=>
 some (.normal,(mkF 76 (up x [(5,y5),(12,y12),(13,y13)])),h)
noncomputable def t52k52_16 (C:CallF) (x:Nat→Value) (h:Heap):Option (Ex×Env×Heap):=
 thenV (some ((x 6),h)) fun y45 h=>
 thenV (some ((x 4),h)) fun y46 h=>
 thenV (pu (lenL y46) h) fun y47 h=>
 thenV (pu (bin Tryd.prog .lss 3 y45 y47) h) fun y48 h=>
 thenV (some (y48,h)) fun y49 h=>
 thenV (guardK (bOf y49==some true) (some ((x 4),h)) h) fun y50 h=>
 thenV (guardK (bOf y49==some true) (some ((x 6),h)) h) fun y51 h=>
 thenV (guardK (bOf y49==some true) (pu (idxS 39 y50 y51) h) h) fun y52 h=>
 thenV (guardK (bOf y49==some true) (ldN 39 y52 h) h) fun y53 h=>
 thenV (guardK (bOf y49==some true) (some ((x 0),h)) h) fun y54 h=>
 thenV (guardK (bOf y49==some true) (some ((x 5),h)) h) fun y55 h=>
 thenV (guardK (bOf y49==some true) (pu (idxS 39 y54 y55) h) h) fun y56 h=>
 thenV (guardK (bOf y49==some true) (ldN 39 y56 h) h) fun y57 h=>
 thenV (guardK (bOf y49==some true) (pu (bin Tryd.prog .eql 58 y53 y57) h) h) fun y58 h=>
 thenV (match y49 with | .bool t=>some (if t then y58 else (.bool false),h)|_=>none) fun y59 h=>
 (match y59 with
 | .bool true=>
 b52_9 C 1 (mkF 76 (up x [(45,y45),(46,y46),(47,y47),(48,y48),(49,y49),(50,y50),(51,y51),(52,y52),(53,y53),(54,y54),(55,y55),(56,y56),(57,y57),(58,y58),(59,y59)])) h
 | .bool false=>
 let g20_0:=h
 thenV (some ((x 4),g20_0)) fun y61 g20_1=>
 thenV (some ((x 6),g20_1)) fun y62 g20_2=>
 thenV (pu (slR 39 y61 none (some y62) none) g20_2) fun y63 g20_3=>
 thenV (some ((x 0),g20_3)) fun y65 g20_4=>
 thenV (some ((x 5),g20_4)) fun y66 g20_5=>
 thenV (pu (idxS 39 y65 y66) g20_5) fun y67 g20_6=>
 thenV (ldN 39 y67 g20_6) fun y68 g20_7=>
 thenV (some ((x 4),g20_7)) fun y71 g20_8=>
 thenV (some ((x 6),g20_8)) fun y72 g20_9=>
 thenV (pu (slR 39 y71 (some y72) none none) g20_9) fun y73 g20_10=>
 thenV (bslR 39 (.agg #[(.int .u8 0),(.int .u8 0),(.int .u8 0),(.int .u8 0),(.int .u8 0),(.int .u8 0),(.int .u8 0),(.int .u8 0),(.int .u8 0),(.int .u8 0),(.int .u8 0),(.int .u8 0),(.int .u8 0),(.int .u8 0),(.int .u8 0),(.int .u8 0),(.int .u8 0),(.int .u8 0),(.int .u8 0),(.int .u8 0),(.int .u8 0),(.int .u8 0),(.int .u8 0),(.int .u8 0),(.int .u8 0),(.int .u8 0),(.int .u8 0),(.int .u8 0),(.int .u8 0),(.int .u8 0),(.int .u8 0),(.int .u8 0),(.int .u8 0),(.int .i64 0),(.int .u64 0),(.int .u64 0),(.bool false),(.int .i64 0),(.int .i64 0)]) 0 [] g20_10) fun y60 g20_11=>
 thenV (appendA 39 88 y60 y63 g20_11) fun y64 g20_12=>
 thenV (bslR 39 (.agg #[(.int .u8 0),(.int .u8 0),(.int .u8 0),(.int .u8 0),(.int .u8 0),(.int .u8 0),(.int .u8 0),(.int .u8 0),(.int .u8 0),(.int .u8 0),(.int .u8 0),(.int .u8 0),(.int .u8 0),(.int .u8 0),(.int .u8 0),(.int .u8 0),(.int .u8 0),(.int .u8 0),(.int .u8 0),(.int .u8 0),(.int .u8 0),(.int .u8 0),(.int .u8 0),(.int .u8 0),(.int .u8 0),(.int .u8 0),(.int .u8 0),(.int .u8 0),(.int .u8 0),(.int .u8 0),(.int .u8 0),(.int .u8 0),(.int .u8 0),(.int .i64 0),(.int .u64 0),(.int .u64 0),(.bool false),(.int .i64 0),(.int .i64 0)]) 1 [(0,y68)] g20_12) fun y69 g20_13=>
 thenV (appendA 39 88 y64 y69 g20_13) fun y70 g20_14=>
 thenV (appendA 39 88 y70 y73 g20_14) fun y74 g20_15=>
 thenV (some (y74,g20_15)) fun y4 g20_16=>
 (match (chkR true (ldN 39 y67 g20_12) y68&&true) with
 |true=>
 let h:=g20_16
 k52_8 C (mkF 76 (up x [(4,y4),(45,y45),(46,y46),(47,y47),(48,y48),(49,y49),(50,y50),(51,y51),(52,y52),(53,y53),(54,y54),(55,y55),(56,y56),(57,y57),(58,y58),(59,y59),(60,y60),(61,y61),(62,y62),(63,y63),(64,y64),(65,y65),(66,y66),(67,y67),(68,y68),(69,y69),(70,y70),(71,y71),(72,y72),(73,y73),(74,y74)])) h
 |false=>none)
 |_=>none)
noncomputable def t52l52_11010010011100 (C:CallF) (x:Nat→Value) (h:Heap):Option (Ex×Env×Heap):=
 let g23_0:=h
 thenV (some ((x 6),g23_0)) fun y26 g23_1=>
 thenV (some ((x 4),g23_1)) fun y27 g23_2=>
 thenV (pu (lenL y27) g23_2) fun y28 g23_3=>
 thenV (pu (bin Tryd.prog .lss 3 y26 y28) g23_3) fun y29 g23_4=>
 thenV (some (y29,g23_4)) fun y30 g23_5=>
 thenV (guardK (bOf y30==some true) (some ((x 4),g23_5)) g23_5) fun y31 g23_6=>
 thenV (guardK (bOf y30==some true) (some ((x 6),g23_6)) g23_6) fun y32 g23_7=>
 thenV (guardK (bOf y30==some true) (pu (idxS 39 y31 y32) g23_7) g23_7) fun y33 g23_8=>
 thenV (guardK (bOf y30==some true) (ldN 39 y33 g23_8) g23_8) fun y34 g23_9=>
 thenV (guardK (bOf y30==some true) (C 59 [y34] g23_9) g23_9) fun y35 g23_10=>
 thenV (guardK (bOf y30==some true) (some ((x 0),g23_10)) g23_10) fun y36 g23_11=>
 thenV (guardK (bOf y30==some true) (some ((x 5),g23_11)) g23_11) fun y37 g23_12=>
 thenV (guardK (bOf y30==some true) (pu (idxS 39 y36 y37) g23_12) g23_12) fun y38 g23_13=>
 thenV (guardK (bOf y30==some true) (ldN 39 y38 g23_13) g23_13) fun y39 g23_14=>
 thenV (guardK (bOf y30==some true) (C 59 [y39] g23_14) g23_14) fun y40 g23_15=>
 thenV (guardK (bOf y30==some true) (pu (bin Tryd.prog .lss 9 y35 y40) g23_15) g23_15) fun y41 g23_16=>
 thenV (match y30 with | .bool t=>some (if t then y41 else (.bool false),g23_16)|_=>none) fun y42 g23_17=>
 (match (chkR (bOf y30==some true) (ldN 39 y38 g23_9) y39&&true) with
 |true=>
 let h:=g23_17
 (match y42 with
 | .bool true=>
 thenV (some ((x 6),h)) fun y43 h=>
 thenV (pu (bin Tryd.prog .add 3 y43 (.int .i64 1)) h) fun y44 h=>
 thenV (some (y44,h)) fun y6 h=>
 some (.normal,(mkF 76 (up x [(6,y6),(26,y26),(27,y27),(28,y28),(29,y29),(30,y30),(31,y31),(32,y32),(33,y33),(34,y34),(35,y35),(36,y36),(37,y37),(38,y38),(39,y39),(40,y40),(41,y41),(42,y42),(43,y43),(44,y44)])),h)
 | .bool false=>
 some (.exit 2,(mkF 76 (up x [(26,y26),(27,y27),(28,y28),(29,y29),(30,y30),(31,y31),(32,y32),(33,y33),(34,y34),(35,y35),(36,y36),(37,y37),(38,y38),(39,y39),(40,y40),(41,y41),(42,y42)])),h)
 |_=>none)
 |false=>none)
theorem t52_eq (C:CallF) (x0:Value) (h:Heap):bodyK Tryd.prog C Tryd.f52 [x0] h=t52 C x0 h:=
 (bodyB_eq Tryd.prog C Tryd.f52 [x0] h (by kernel_rfl)).trans (by kernel_rfl)
theorem t52k52_2_eq (C:CallF) (x:Nat→Value) (h:Heap):k52_2 C (mkF 76 x) h=t52k52_2 C x h:=
 link_partF (b:=(partOf Tryd.f52 [1,1,1])) (kE:=(resultsA Tryd.prog Tryd.f52.results.toList)) (rE:=(resultsA Tryd.prog Tryd.f52.results.toList)) (xE:=(fun _ _ _=>none)) (T:=t52k52_2 C) (fun x h=>by kernel_rfl) x h
theorem t52l52_11010_eq (C:CallF) (x:Nat→Value) (h:Heap):codeA Tryd.prog C (partOf Tryd.f52 [1,1,0,1,0,0]) (mkF 76 x) h=t52l52_11010 C x h:=
 link_roundF (T:=t52l52_11010 C) (fun x h=>by kernel_rfl) x h
theorem t52k52_8_eq (C:CallF) (x:Nat→Value) (h:Heap):k52_8 C (mkF 76 x) h=t52k52_8 C x h:=
 link_partF (b:=(partOf Tryd.f52 [1,1,0,1,0,0,1,1])) (kE:=(fun e h=>some (Ex.normal,e,h))) (rE:=(fun e h=>some (Ex.ret,e,h))) (xE:=(fun i e h=>some (Ex.exit i,e,h))) (T:=t52k52_8 C) (fun x h=>by kernel_rfl) x h
theorem t52k52_16_eq (C:CallF) (x:Nat→Value) (h:Heap):k52_16 C (mkF 76 x) h=t52k52_16 C x h:=
 link_partF (b:=(partOf Tryd.f52 [1,1,0,1,0,0,1,0,0,1,1,1,1])) (kE:=(k52_8 C)) (rE:=(fun e h=>some (Ex.ret,e,h))) (xE:=(b52_9 C)) (T:=t52k52_16 C) (fun x h=>by kernel_rfl) x h
theorem t52l52_11010010011100_eq (C:CallF) (x:Nat→Value) (h:Heap):codeA Tryd.prog C (partOf Tryd.f52 [1,1,0,1,0,0,1,0,0,1,1,1,0,0,0]) (mkF 76 x) h=t52l52_11010010011100 C x h:=
 link_roundF (T:=t52l52_11010010011100 C) (fun x h=>by kernel_rfl) x h
noncomputable def k105_1 (C:CallF) (e:Env) (h:Heap):Out:=codeK Tryd.prog C (partOf Tryd.f105 [1,1]) e h (resultsA Tryd.prog Tryd.f105.results.toList) (resultsA Tryd.prog Tryd.f105.results.toList) (fun _ _ _=>none)
noncomputable def b105_3 (C:CallF) (i:Nat) (e:Env) (h:Heap):Out:=if i=0 then (k105_1 C) e h else (fun _ _ _=>none) i e h
noncomputable def t105 (C:CallF) (x0 x1:Value) (h:Heap):Out:=
 thenV (box x0 h) fun y2 h=>
 thenV (some ((.bool false),h)) fun y4 h=>
 thenV (some ((.int .i64 0),h)) fun y5 h=>
 endL (iter (codeA Tryd.prog C (partOf Tryd.f105 [1,0,1,0,0])) rounds (mkF 61 (up (bs [x0,x1]) [(2,y2),(4,y4),(5,y5)])) h) (resultsA Tryd.prog Tryd.f105.results.toList) (b105_3 C)
noncomputable def t105k105_1 (C:CallF) (x:Nat→Value) (h:Heap):Out:=
 thenV (some ((.bool false),h)) fun y4 h=>
 some (y4,h)
noncomputable def t105l105_1010 (C:CallF) (x:Nat→Value) (h:Heap):Option (Ex×Env×Heap):=
 thenV (some ((x 5),h)) fun y7 h=>
 thenV (some ((x 1),h)) fun y8 h=>
 thenV (pu (lenL y8) h) fun y9 h=>
 thenV (pu (bin Tryd.prog .lss 3 y7 y9) h) fun y10 h=>
 (match y10 with
 | .bool true=>
 thenV (some ((x 1),h)) fun y13 h=>
 thenV (some ((x 5),h)) fun y14 h=>
 thenV (pu (idxS 39 y13 y14) h) fun y15 h=>
 thenV (ldN 39 y15 h) fun y16 h=>
 thenV (newC [(.int .u8 0),(.int .u8 0),(.int .u8 0),(.int .u8 0),(.int .u8 0),(.int .u8 0),(.int .u8 0),(.int .u8 0),(.int .u8 0),(.int .u8 0),(.int .u8 0),(.int .u8 0),(.int .u8 0),(.int .u8 0),(.int .u8 0),(.int .u8 0),(.int .u8 0),(.int .u8 0),(.int .u8 0),(.int .u8 0),(.int .u8 0),(.int .u8 0),(.int .u8 0),(.int .u8 0),(.int .u8 0),(.int .u8 0),(.int .u8 0),(.int .u8 0),(.int .u8 0),(.int .u8 0),(.int .u8 0),(.int .u8 0),(.int .u8 0),(.int .i64 0),(.int .u64 0),(.int .u64 0),(.bool false),(.int .i64 0),(.int .i64 0)] h) fun y6 h=>
 thenV (stN 39 y6 y16 h) fun _ h=>
 thenV (ldN 39 y6 h) fun y17 h=>
 thenV (ldN 39 (x 2) h) fun y18 h=>
 thenV (C 49 [y17,y18] h) fun y19 h=>
 thenV (some (y19,h)) fun y20 h=>
 thenV (guardK (bOf y20==some false) (pu (addP (x 2) 0) h) h) fun y21 h=>
 thenV (guardK (bOf y20==some false) (ld1 y21 h) h) fun y22 h=>
 thenV (guardK (bOf y20==some false) (pu (bin Tryd.prog .eql 56 y22 (.int .u8 3)) h) h) fun y23 h=>
 thenV (guardK (bOf y20==some false) (some (y23,h)) h) fun y24 h=>
 thenV (guardK (bOf y24==some true) (pu (addP y6 0) h) h) fun y25 h=>
 thenV (guardK (bOf y24==some true) (ld1 y25 h) h) fun y26 h=>
 thenV (guardK (bOf y24==some true) (pu (bin Tryd.prog .eql 56 y26 (.int .u8 1)) h) h) fun y27 h=>
 thenV (guardK (bOf y20==some false) (match y24 with | .bool t=>some (if t then y27 else (.bool false),h)|_=>none) h) fun y28 h=>
 thenV (guardK (bOf y20==some false) (some (y28,h)) h) fun y29 h=>
 thenV (guardK (bOf y29==some true) (pu (addP y6 33) h) h) fun y30 h=>
 thenV (guardK (bOf y29==some true) (ld1 y30 h) h) fun y31 h=>
 thenV (guardK (bOf y29==some true) (pu (addP (x 2) 33) h) h) fun y32 h=>
 thenV (guardK (bOf y29==some true) (ld1 y32 h) h) fun y33 h=>
 thenV (guardK (bOf y29==some true) (pu (bin Tryd.prog .eql 3 y31 y33) h) h) fun y34 h=>
 thenV (guardK (bOf y20==some false) (match y29 with | .bool t=>some (if t then y34 else (.bool false),h)|_=>none) h) fun y35 h=>
 thenV (guardK (bOf y20==some false) (some (y35,h)) h) fun y36 h=>
 thenV (guardK (bOf y36==some true) (pu (addP y6 34) h) h) fun y37 h=>
 thenV (guardK (bOf y36==some true) (ld1 y37 h) h) fun y38 h=>
 thenV (guardK (bOf y36==some true) (pu (addP (x 2) 34) h) h) fun y39 h=>
 thenV (guardK (bOf y36==some true) (ld1 y39 h) h) fun y40 h=>
 thenV (guardK (bOf y36==some true) (pu (bin Tryd.prog .gtr 32 y38 y40) h) h) fun y41 h=>
 thenV (guardK (bOf y20==some false) (match y36 with | .bool t=>some (if t then y41 else (.bool false),h)|_=>none) h) fun y42 h=>
 thenV (match y20 with | .bool t=>some (if t then (.bool true) else y42,h)|_=>none) fun y43 h=>
 thenV (some (y43,h)) fun y44 h=>
 thenV (guardK (bOf y44==some false) (pu (addP (x 2) 0) h) h) fun y45 h=>
 thenV (guardK (bOf y44==some false) (ld1 y45 h) h) fun y46 h=>
 thenV (guardK (bOf y44==some false) (pu (bin Tryd.prog .eql 56 y46 (.int .u8 3)) h) h) fun y47 h=>
 thenV (guardK (bOf y44==some false) (some (y47,h)) h) fun y48 h=>
 thenV (guardK (bOf y48==some true) (pu (addP y6 0) h) h) fun y49 h=>
 thenV (guardK (bOf y48==some true) (ld1 y49 h) h) fun y50 h=>
 thenV (guardK (bOf y48==some true) (pu (bin Tryd.prog .eql 56 y50 (.int .u8 2)) h) h) fun y51 h=>
 thenV (guardK (bOf y44==some false) (match y48 with | .bool t=>some (if t then y51 else (.bool false),h)|_=>none) h) fun y52 h=>
 thenV (guardK (bOf y44==some false) (some (y52,h)) h) fun y53 h=>
 thenV (guardK (bOf y53==some true) (pu (addP y6 1) h) h) fun y54 h=>
 thenV (guardK (bOf y53==some true) (ldN 32 y54 h) h) fun y55 h=>
 thenV (guardK (bOf y53==some true) (pu (addP (x 2) 1) h) h) fun y56 h=>
 thenV (guardK (bOf y53==some true) (ldN 32 y56 h) h) fun y57 h=>
 thenV (guardK (bOf y53==some true) (pu (bin Tryd.prog .eql 35 y55 y57) h) h) fun y58 h=>
 thenV (guardK (bOf y44==some false) (match y53 with | .bool t=>some (if t then y58 else (.bool false),h)|_=>none) h) fun y59 h=>
 thenV (match y44 with | .bool t=>some (if t then (.bool true) else y59,h)|_=>none) fun y60 h=>
 (match y60 with
 | .bool true=>
 thenV (some ((.bool true),h)) fun y4 h=>
 some (.ret,(mkF 61 (up x [(4,y4),(6,y6),(7,y7),(8,y8),(9,y9),(10,y10),(13,y13),(14,y14),(15,y15),(16,y16),(17,y17),(18,y18),(19,y19),(20,y20),(21,y21),(22,y22),(23,y23),(24,y24),(25,y25),(26,y26),(27,y27),(28,y28),(29,y29),(30,y30),(31,y31),(32,y32),(33,y33),(34,y34),(35,y35),(36,y36),(37,y37),(38,y38),(39,y39),(40,y40),(41,y41),(42,y42),(43,y43),(44,y44),(45,y45),(46,y46),(47,y47),(48,y48),(49,y49),(50,y50),(51,y51),(52,y52),(53,y53),(54,y54),(55,y55),(56,y56),(57,y57),(58,y58),(59,y59),(60,y60)])),h)
 | .bool false=>
 thenV (some ((x 5),h)) fun y11 h=>
 thenV (pu (bin Tryd.prog .add 3 y11 (.int .i64 1)) h) fun y12 h=>
 thenV (some (y12,h)) fun y5 h=>
 some (.normal,(mkF 61 (up x [(5,y5),(6,y6),(7,y7),(8,y8),(9,y9),(10,y10),(11,y11),(12,y12),(13,y13),(14,y14),(15,y15),(16,y16),(17,y17),(18,y18),(19,y19),(20,y20),(21,y21),(22,y22),(23,y23),(24,y24),(25,y25),(26,y26),(27,y27),(28,y28),(29,y29),(30,y30),(31,y31),(32,y32),(33,y33),(34,y34),(35,y35),(36,y36),(37,y37),(38,y38),(39,y39),(40,y40),(41,y41),(42,y42),(43,y43),(44,y44),(45,y45),(46,y46),(47,y47),(48,y48),(49,y49),(50,y50),(51,y51),(52,y52),(53,y53),(54,y54),(55,y55),(56,y56),(57,y57),(58,y58),(59,y59),(60,y60)])),h)
 |_=>none)
 | .bool false=>
 some (.exit 0,(mkF 61 (up x [(7,y7),(8,y8),(9,y9),(10,y10)])),h)
 |_=>none)
theorem t105_eq (C:CallF) (x0 x1:Value) (h:Heap):bodyK Tryd.prog C Tryd.f105 [x0,x1] h=t105 C x0 x1 h:=
 (bodyB_eq Tryd.prog C Tryd.f105 [x0,x1] h (by kernel_rfl)).trans (by kernel_rfl)
theorem t105k105_1_eq (C:CallF) (x:Nat→Value) (h:Heap):k105_1 C (mkF 61 x) h=t105k105_1 C x h:=
 link_partF (b:=(partOf Tryd.f105 [1,1])) (kE:=(resultsA Tryd.prog Tryd.f105.results.toList)) (rE:=(resultsA Tryd.prog Tryd.f105.results.toList)) (xE:=(fun _ _ _=>none)) (T:=t105k105_1 C) (fun x h=>by kernel_rfl) x h
theorem t105l105_1010_eq (C:CallF) (x:Nat→Value) (h:Heap):codeA Tryd.prog C (partOf Tryd.f105 [1,0,1,0,0]) (mkF 61 x) h=t105l105_1010 C x h:=
 link_roundF (T:=t105l105_1010 C) (fun x h=>by kernel_rfl) x h
end Go.Proofs.YtdnahgfgoajmcaaDoor

namespace Go.Proofs.YtdnahgfgoajmcaaDoor
open Go Go.Abs
end Go.Proofs.YtdnahgfgoajmcaaDoor

namespace Go.Proofs.YtdnahgfgoajmcaaDoor
open Go Go.Abs
noncomputable def t37 (C:CallF) (x0 x1 x2 x3:Value) (h:Heap):Out:=
 thenV (box x2 h) fun y6 h=>
 thenV (some ((.bool false),h)) fun y8 h=>
 thenV (some (x0,h)) fun y18 h=>
 thenV (ldN 32 y6 h) fun y19 h=>
 thenV (some (x3,h)) fun y20 h=>
 thenV (C 73 [y18,y19,y20] h) fun y21 h=>
 thenV (some (y21,h)) fun y17 h=>
 thenV (pu (extractA y17 0) h) fun y22 h=>
 thenV (pu (extractA y17 1) h) fun y23 h=>
 thenV (newC [(.int .u8 0),(.int .u8 0),(.int .u8 0),(.int .u8 0),(.int .u8 0),(.int .u8 0),(.int .u8 0),(.int .u8 0),(.int .u8 0),(.int .u8 0),(.int .u8 0),(.int .u8 0),(.int .u8 0),(.int .u8 0),(.int .u8 0),(.int .u8 0),(.int .u8 0),(.int .u8 0),(.int .u8 0),(.int .u8 0),(.int .u8 0),(.int .u8 0),(.int .u8 0),(.int .u8 0),(.int .u8 0),(.int .u8 0),(.int .u8 0),(.int .u8 0),(.int .u8 0),(.int .u8 0),(.int .u8 0),(.int .u8 0),(.int .u8 0),(.int .i64 0),(.int .u64 0),(.int .u64 0),(.bool false),(.int .i64 0),(.int .i64 0)] h) fun y9 h=>
 thenV (stN 39 y9 y22 h) fun _ h=>
 thenV (some (y23,h)) fun y10 h=>
 thenV (some (x1,h)) fun y25 h=>
 thenV (ldN 32 y6 h) fun y26 h=>
 thenV (some (x3,h)) fun y27 h=>
 thenV (C 74 [y25,y26,y27] h) fun y28 h=>
 thenV (some (y28,h)) fun y24 h=>
 thenV (pu (extractA y24 0) h) fun y29 h=>
 thenV (pu (extractA y24 1) h) fun y30 h=>
 thenV (newC [(.int .u8 0),(.int .u8 0),(.int .u8 0),(.int .u8 0),(.int .u8 0),(.int .u8 0),(.int .u8 0),(.int .u8 0),(.int .u8 0),(.int .u8 0),(.int .u8 0),(.int .u8 0),(.int .u8 0),(.int .u8 0),(.int .u8 0),(.int .u8 0),(.int .u8 0),(.int .u8 0),(.int .u8 0),(.int .u8 0),(.int .u8 0),(.int .u8 0),(.int .u8 0),(.int .u8 0),(.int .u8 0),(.int .u8 0),(.int .u8 0),(.int .u8 0),(.int .u8 0),(.int .u8 0),(.int .u8 0),(.int .u8 0),(.int .u8 0),(.int .i64 0),(.int .u64 0),(.int .u64 0),(.bool false),(.int .i64 0),(.int .i64 0)] h) fun y11 h=>
 thenV (stN 39 y11 y29 h) fun _ h=>
 thenV (some (y30,h)) fun y12 h=>
 thenV (some (x0,h)) fun y32 h=>
 thenV (ldN 32 y6 h) fun y33 h=>
 thenV (C 75 [y32,y33] h) fun y34 h=>
 thenV (some (y34,h)) fun y31 h=>
 thenV (pu (extractA y31 0) h) fun y35 h=>
 thenV (pu (extractA y31 1) h) fun y36 h=>
 thenV (some (y35,h)) fun y13 h=>
 thenV (some (y36,h)) fun y14 h=>
 thenV (some (x1,h)) fun y38 h=>
 thenV (ldN 32 y6 h) fun y39 h=>
 thenV (C 76 [y38,y39] h) fun y40 h=>
 thenV (some (y40,h)) fun y37 h=>
 thenV (pu (extractA y37 0) h) fun y41 h=>
 thenV (pu (extractA y37 1) h) fun y42 h=>
 thenV (some (y41,h)) fun y15 h=>
 thenV (some (y42,h)) fun y16 h=>
 let g6_0:=h
 thenV (ldN 39 y9 g6_0) fun y43 g6_1=>
 thenV (ldN 39 y11 g6_1) fun y44 g6_2=>
 thenV (pu (bin Tryd.prog .eql 58 y43 y44) g6_2) fun y45 g6_3=>
 thenV (some (y45,g6_3)) fun y46 g6_4=>
 thenV (guardK (bOf y46==some true) (some (y10,g6_4)) g6_4) fun y47 g6_5=>
 thenV (guardK (bOf y46==some true) (some (y12,g6_5)) g6_5) fun y48 g6_6=>
 thenV (guardK (bOf y46==some true) (pu (bin Tryd.prog .eql 4 y47 y48) g6_6) g6_6) fun y49 g6_7=>
 thenV (match y46 with | .bool t=>some (if t then y49 else (.bool false),g6_7)|_=>none) fun y50 g6_8=>
 thenV (some (y50,g6_8)) fun y51 g6_9=>
 thenV (guardK (bOf y51==some true) (some (y13,g6_9)) g6_9) fun y52 g6_10=>
 thenV (guardK (bOf y51==some true) (some (y15,g6_10)) g6_10) fun y53 g6_11=>
 thenV (guardK (bOf y51==some true) (pu (bin Tryd.prog .eql 3 y52 y53) g6_11) g6_11) fun y54 g6_12=>
 thenV (match y51 with | .bool t=>some (if t then y54 else (.bool false),g6_12)|_=>none) fun y55 g6_13=>
 thenV (some (y55,g6_13)) fun y56 g6_14=>
 thenV (guardK (bOf y56==some true) (some (y14,g6_14)) g6_14) fun y57 g6_15=>
 thenV (guardK (bOf y56==some true) (some (y16,g6_15)) g6_15) fun y58 g6_16=>
 thenV (guardK (bOf y56==some true) (pu (bin Tryd.prog .eql 3 y57 y58) g6_16) g6_16) fun y59 g6_17=>
 thenV (match y56 with | .bool t=>some (if t then y59 else (.bool false),g6_17)|_=>none) fun y60 g6_18=>
 thenV (some (y60,g6_18)) fun y61 g6_19=>
 thenV (guardK (bOf y61==some true) (some (x0,g6_19)) g6_19) fun y62 g6_20=>
 thenV (guardK (bOf y61==some true) (some (x3,g6_20)) g6_20) fun y63 g6_21=>
 thenV (guardK (bOf y61==some true) (C 29 [y62,y63] g6_21) g6_21) fun y64 g6_22=>
 thenV (guardK (bOf y61==some true) (some (x1,g6_22)) g6_22) fun y65 g6_23=>
 thenV (guardK (bOf y61==some true) (some (x3,g6_23)) g6_23) fun y66 g6_24=>
 thenV (guardK (bOf y61==some true) (C 77 [y65,y66] g6_24) g6_24) fun y67 g6_25=>
 thenV (guardK (bOf y61==some true) (pu (bin Tryd.prog .eql 32 y64 y67) g6_25) g6_25) fun y68 g6_26=>
 thenV (match y61 with | .bool t=>some (if t then y68 else (.bool false),g6_26)|_=>none) fun y69 g6_27=>
 thenV (some (y69,g6_27)) fun y70 g6_28=>
 thenV (guardK (bOf y70==some true) (some (x0,g6_28)) g6_28) fun y71 g6_29=>
 thenV (guardK (bOf y70==some true) (ldN 32 y6 g6_29) g6_29) fun y72 g6_30=>
 thenV (guardK (bOf y70==some true) (C 28 [y71,y72] g6_30) g6_30) fun y73 g6_31=>
 thenV (guardK (bOf y70==some true) (some (x1,g6_31)) g6_31) fun y74 g6_32=>
 thenV (guardK (bOf y70==some true) (ldN 32 y6 g6_32) g6_32) fun y75 g6_33=>
 thenV (guardK (bOf y70==some true) (C 78 [y74,y75] g6_33) g6_33) fun y76 g6_34=>
 thenV (guardK (bOf y70==some true) (pu (bin Tryd.prog .eql 4 y73 y76) g6_34) g6_34) fun y77 g6_35=>
 thenV (match y70 with | .bool t=>some (if t then y77 else (.bool false),g6_35)|_=>none) fun y78 g6_36=>
 thenV (some (y78,g6_36)) fun y79 g6_37=>
 thenV (guardK (bOf y79==some true) (some (x0,g6_37)) g6_37) fun y80 g6_38=>
 thenV (guardK (bOf y79==some true) (ldN 32 y6 g6_38) g6_38) fun y81 g6_39=>
 thenV (guardK (bOf y79==some true) (C 51 [y80,y81] g6_39) g6_39) fun y82 g6_40=>
 thenV (guardK (bOf y79==some true) (some (x1,g6_40)) g6_40) fun y83 g6_41=>
 thenV (guardK (bOf y79==some true) (ldN 32 y6 g6_41) g6_41) fun y84 g6_42=>
 thenV (guardK (bOf y79==some true) (C 80 [y83,y84] g6_42) g6_42) fun y85 g6_43=>
 thenV (guardK (bOf y79==some true) (C 79 [y82,y85] g6_43) g6_43) fun y86 g6_44=>
 thenV (match y79 with | .bool t=>some (if t then y86 else (.bool false),g6_44)|_=>none) fun y87 g6_45=>
 thenV (some (y87,g6_45)) fun y8_1 g6_46=>
 (match (chkR (bOf y70==some true) (ldN 32 y6 g6_30) y75&&(chkR (bOf y79==some true) (ldN 32 y6 g6_39) y84&&true)) with
 |true=>
 let h:=g6_46
 some (y8_1,h)
 |false=>none)
theorem t37_eq (C:CallF) (x0 x1 x2 x3:Value) (h:Heap):bodyK Tryd.prog C Tryd.f37 [x0,x1,x2,x3] h=t37 C x0 x1 x2 x3 h:=
 (bodyB_eq Tryd.prog C Tryd.f37 [x0,x1,x2,x3] h (by kernel_rfl)).trans (by kernel_rfl)
noncomputable def k7_9 (C:CallF) (e:Env) (h:Heap):Out:=codeK Tryd.prog C (partOf Tryd.f7 [1,1,1,1,1,1]) e h (resultsA Tryd.prog Tryd.f7.results.toList) (resultsA Tryd.prog Tryd.f7.results.toList) (fun _ _ _=>none)
noncomputable def b7_11 (C:CallF) (i:Nat) (e:Env) (h:Heap):Out:=if i=0 then (k7_9 C) e h else (fun _ _ _=>none) i e h
noncomputable def k7_15 (C:CallF) (e:Env) (h:Heap):Option (Ex×Env×Heap):=codeK Tryd.prog C (partOf Tryd.f7 [1,1,1,1,1,0,1,0,0,1,1]) e h (fun e h=>some (Ex.normal,e,h)) (fun e h=>some (Ex.ret,e,h)) (fun i e h=>some (Ex.exit i,e,h))
noncomputable def b7_16 (C:CallF) (i:Nat) (e:Env) (h:Heap):Option (Ex×Env×Heap):=if i=1 then (k7_15 C) e h else (fun i e h=>some (Ex.exit i,e,h)) i e h
noncomputable def b7_28 (C:CallF) (i:Nat) (e:Env) (h:Heap):Option (Ex×Env×Heap):=if i=2 then (k7_15 C) e h else (b7_16 C) i e h
noncomputable def t7 (C:CallF) (x0:Value) (h:Heap):Out:=
 thenV (some ((.bool false),h)) fun y2 h=>
 thenV (some (x0,h)) fun y11 h=>
 thenV (pu (lenL y11) h) fun y12 h=>
 thenV (pu (bin Tryd.prog .gtr 3 y12 (.int .i64 12)) h) fun y13 h=>
 (match y13 with
 | .bool true=>
 thenV (C 14 [] h) fun y14 h=>
 thenV (some (y14,h)) fun y2_1 h=>
 some (y2_1,h)
 | .bool false=>
 thenV (C 33 [] h) fun y15 h=>
 thenV (some (y15,h)) fun y3 h=>
 thenV (some (y3,h)) fun y16 h=>
 thenV (pu (bin Tryd.prog .eql 25 y16 (.pointer none)) h) fun y17 h=>
 (match y17 with
 | .bool true=>
 thenV (some ((.bool false),h)) fun y2_1 h=>
 some (y2_1,h)
 | .bool false=>
 thenV (bslR 39 (.agg #[(.int .u8 0),(.int .u8 0),(.int .u8 0),(.int .u8 0),(.int .u8 0),(.int .u8 0),(.int .u8 0),(.int .u8 0),(.int .u8 0),(.int .u8 0),(.int .u8 0),(.int .u8 0),(.int .u8 0),(.int .u8 0),(.int .u8 0),(.int .u8 0),(.int .u8 0),(.int .u8 0),(.int .u8 0),(.int .u8 0),(.int .u8 0),(.int .u8 0),(.int .u8 0),(.int .u8 0),(.int .u8 0),(.int .u8 0),(.int .u8 0),(.int .u8 0),(.int .u8 0),(.int .u8 0),(.int .u8 0),(.int .u8 0),(.int .u8 0),(.int .i64 0),(.int .u64 0),(.int .u64 0),(.bool false),(.int .i64 0),(.int .i64 0)]) 0 [] h) fun y18 h=>
 thenV (some (y18,h)) fun y4 h=>
 thenV (some ((.int .i64 0),h)) fun y5 h=>
 endL (iter (codeA Tryd.prog C (partOf Tryd.f7 [1,1,1,1,1,0,1,0,0])) rounds (mkF 107 (up (bs [x0]) [(2,y2),(3,y3),(4,y4),(5,y5),(11,y11),(12,y12),(13,y13),(15,y15),(16,y16),(17,y17),(18,y18)])) h) (resultsA Tryd.prog Tryd.f7.results.toList) (b7_11 C)
 |_=>none)
 |_=>none)
noncomputable def t7k7_9 (C:CallF) (x:Nat→Value) (h:Heap):Out:=
 thenV (C 14 [] h) fun y106 h=>
 thenV (some (y106,h)) fun y2 h=>
 some (y2,h)
noncomputable def t7l7_11111010 (C:CallF) (x:Nat→Value) (h:Heap):Option (Ex×Env×Heap):=
 thenV (some ((x 5),h)) fun y19 h=>
 thenV (some ((x 0),h)) fun y20 h=>
 thenV (pu (lenL y20) h) fun y21 h=>
 thenV (pu (bin Tryd.prog .lss 3 y19 y21) h) fun y22 h=>
 (match y22 with
 | .bool true=>
 thenV (some ((x 0),h)) fun y25 h=>
 thenV (some ((x 5),h)) fun y26 h=>
 thenV (pu (idxS 1 y25 y26) h) fun y27 h=>
 thenV (ld1 y27 h) fun y28 h=>
 thenV (pu (lenL y28) h) fun y29 h=>
 thenV (pu (bin Tryd.prog .gtr 3 y29 (.int .i64 40)) h) fun y30 h=>
 (match y30 with
 | .bool true=>
 thenV (C 14 [] h) fun y31 h=>
 thenV (some (y31,h)) fun y2 h=>
 some (.ret,(mkF 107 (up x [(2,y2),(19,y19),(20,y20),(21,y21),(22,y22),(25,y25),(26,y26),(27,y27),(28,y28),(29,y29),(30,y30),(31,y31)])),h)
 | .bool false=>
 thenV (some ((x 0),h)) fun y32 h=>
 thenV (some ((x 5),h)) fun y33 h=>
 thenV (pu (idxS 1 y32 y33) h) fun y34 h=>
 thenV (ld1 y34 h) fun y35 h=>
 thenV (C 26 [y35] h) fun y36 h=>
 thenV (some (y36,h)) fun y6 h=>
 thenV (some ((x 3),h)) fun y37 h=>
 thenV (some (y6,h)) fun y38 h=>
 thenV (C 25 [y37,y38] h) fun y39 h=>
 thenV (some (y39,h)) fun y7 h=>
 thenV (some ((x 4),h)) fun y41 h=>
 thenV (some ((x 0),h)) fun y42 h=>
 thenV (some ((x 5),h)) fun y43 h=>
 thenV (pu (idxS 1 y42 y43) h) fun y44 h=>
 thenV (ld1 y44 h) fun y45 h=>
 thenV (C 16 [y41,y45] h) fun y46 h=>
 thenV (some (y46,h)) fun y40 h=>
 thenV (pu (extractA y40 0) h) fun y47 h=>
 thenV (pu (extractA y40 1) h) fun y48 h=>
 thenV (some (y47,h)) fun y8 h=>
 thenV (some (y48,h)) fun y9 h=>
 thenV (some (y8,h)) fun y49 h=>
 thenV (some (y49,h)) fun y4 h=>
 thenV (some (y7,h)) fun y50 h=>
 thenV (some (y9,h)) fun y51 h=>
 thenV (pu (bin Tryd.prog .neq 26 y50 y51) h) fun y52 h=>
 thenV (some (y52,h)) fun y53 h=>
 thenV (guardK (bOf y53==some false) (some (y6,h)) h) fun y54 h=>
 thenV (guardK (bOf y53==some false) (some ((x 0),h)) h) fun y55 h=>
 thenV (guardK (bOf y53==some false) (some ((x 5),h)) h) fun y56 h=>
 thenV (guardK (bOf y53==some false) (pu (idxS 1 y55 y56) h) h) fun y57 h=>
 thenV (guardK (bOf y53==some false) (ld1 y57 h) h) fun y58 h=>
 thenV (guardK (bOf y53==some false) (C 19 [y54,y58] h) h) fun y59 h=>
 thenV (guardK (bOf y53==some false) (pu (unA .not y59) h) h) fun y60 h=>
 thenV (match y53 with | .bool t=>some (if t then (.bool true) else y60,h)|_=>none) fun y61 h=>
 thenV (some (y61,h)) fun y62 h=>
 thenV (guardK (bOf y62==some false) (some ((x 3),h)) h) fun y63 h=>
 thenV (guardK (bOf y62==some false) (C 23 [y63] h) h) fun y64 h=>
 thenV (guardK (bOf y62==some false) (some (y4,h)) h) fun y65 h=>
 thenV (guardK (bOf y62==some false) (C 19 [y64,y65] h) h) fun y66 h=>
 thenV (guardK (bOf y62==some false) (pu (unA .not y66) h) h) fun y67 h=>
 thenV (match y62 with | .bool t=>some (if t then (.bool true) else y67,h)|_=>none) fun y68 h=>
 thenV (some (y68,h)) fun y69 h=>
 thenV (guardK (bOf y69==some false) (some ((x 3),h)) h) fun y70 h=>
 thenV (guardK (bOf y69==some false) (C 35 [y70] h) h) fun y71 h=>
 thenV (guardK (bOf y69==some false) (some (y4,h)) h) fun y72 h=>
 thenV (guardK (bOf y69==some false) (C 36 [y72] h) h) fun y73 h=>
 thenV (guardK (bOf y69==some false) (C 34 [y71,y73] h) h) fun y74 h=>
 thenV (guardK (bOf y69==some false) (pu (unA .not y74) h) h) fun y75 h=>
 thenV (match y69 with | .bool t=>some (if t then (.bool true) else y75,h)|_=>none) fun y76 h=>
 (match y76 with
 | .bool true=>
 thenV (some ((.bool false),h)) fun y2 h=>
 some (.ret,(mkF 107 (up x [(2,y2),(4,y4),(6,y6),(7,y7),(8,y8),(9,y9),(19,y19),(20,y20),(21,y21),(22,y22),(25,y25),(26,y26),(27,y27),(28,y28),(29,y29),(30,y30),(32,y32),(33,y33),(34,y34),(35,y35),(36,y36),(37,y37),(38,y38),(39,y39),(40,y40),(41,y41),(42,y42),(43,y43),(44,y44),(45,y45),(46,y46),(47,y47),(48,y48),(49,y49),(50,y50),(51,y51),(52,y52),(53,y53),(54,y54),(55,y55),(56,y56),(57,y57),(58,y58),(59,y59),(60,y60),(61,y61),(62,y62),(63,y63),(64,y64),(65,y65),(66,y66),(67,y67),(68,y68),(69,y69),(70,y70),(71,y71),(72,y72),(73,y73),(74,y74),(75,y75),(76,y76)])),h)
 | .bool false=>
 thenV (some ((.int .i64 0),h)) fun y10 h=>
 endL (iter (codeA Tryd.prog C (partOf Tryd.f7 [1,1,1,1,1,0,1,0,0,1,0,0,1,1,1,1,1,1,1,0,0])) rounds (mkF 107 (up x [(4,y4),(6,y6),(7,y7),(8,y8),(9,y9),(10,y10),(19,y19),(20,y20),(21,y21),(22,y22),(25,y25),(26,y26),(27,y27),(28,y28),(29,y29),(30,y30),(32,y32),(33,y33),(34,y34),(35,y35),(36,y36),(37,y37),(38,y38),(39,y39),(40,y40),(41,y41),(42,y42),(43,y43),(44,y44),(45,y45),(46,y46),(47,y47),(48,y48),(49,y49),(50,y50),(51,y51),(52,y52),(53,y53),(54,y54),(55,y55),(56,y56),(57,y57),(58,y58),(59,y59),(60,y60),(61,y61),(62,y62),(63,y63),(64,y64),(65,y65),(66,y66),(67,y67),(68,y68),(69,y69),(70,y70),(71,y71),(72,y72),(73,y73),(74,y74),(75,y75),(76,y76)])) h) (fun e h=>some (Ex.ret,e,h)) (b7_28 C)
 |_=>none)
 |_=>none)
 | .bool false=>
 some (.exit 0,(mkF 107 (up x [(19,y19),(20,y20),(21,y21),(22,y22)])),h)
 |_=>none)
noncomputable def t7k7_15 (C:CallF) (x:Nat→Value) (h:Heap):Option (Ex×Env×Heap):=
 thenV (some ((x 5),h)) fun y23 h=>
 thenV (pu (bin Tryd.prog .add 3 y23 (.int .i64 1)) h) fun y24 h=>
 thenV (some (y24,h)) fun y5 h=>
 some (.normal,(mkF 107 (up x [(5,y5),(23,y23),(24,y24)])),h)
noncomputable def t7l7_11111010010011111110 (C:CallF) (x:Nat→Value) (h:Heap):Option (Ex×Env×Heap):=
 thenV (some ((x 10),h)) fun y77 h=>
 thenV (some ((x 0),h)) fun y78 h=>
 thenV (some ((x 5),h)) fun y79 h=>
 thenV (pu (idxS 1 y78 y79) h) fun y80 h=>
 thenV (ld1 y80 h) fun y81 h=>
 thenV (pu (lenL y81) h) fun y82 h=>
 thenV (pu (bin Tryd.prog .lss 3 y77 y82) h) fun y83 h=>
 (match y83 with
 | .bool true=>
 thenV (some ((x 3),h)) fun y86 h=>
 thenV (some ((x 4),h)) fun y87 h=>
 thenV (some ((x 0),h)) fun y88 h=>
 thenV (some ((x 5),h)) fun y89 h=>
 thenV (pu (idxS 1 y88 y89) h) fun y90 h=>
 thenV (ld1 y90 h) fun y91 h=>
 thenV (some ((x 10),h)) fun y92 h=>
 thenV (pu (idxS 39 y91 y92) h) fun y93 h=>
 thenV (pu (addP y93 1) h) fun y94 h=>
 thenV (ldN 32 y94 h) fun y95 h=>
 thenV (some ((x 0),h)) fun y96 h=>
 thenV (some ((x 5),h)) fun y97 h=>
 thenV (pu (idxS 1 y96 y97) h) fun y98 h=>
 thenV (ld1 y98 h) fun y99 h=>
 thenV (some ((x 10),h)) fun y100 h=>
 thenV (pu (idxS 39 y99 y100) h) fun y101 h=>
 thenV (pu (addP y101 33) h) fun y102 h=>
 thenV (ld1 y102 h) fun y103 h=>
 thenV (C 37 [y86,y87,y95,y103] h) fun y104 h=>
 thenV (pu (unA .not y104) h) fun y105 h=>
 (match y105 with
 | .bool true=>
 thenV (some ((.bool false),h)) fun y2 h=>
 some (.ret,(mkF 107 (up x [(2,y2),(77,y77),(78,y78),(79,y79),(80,y80),(81,y81),(82,y82),(83,y83),(86,y86),(87,y87),(88,y88),(89,y89),(90,y90),(91,y91),(92,y92),(93,y93),(94,y94),(95,y95),(96,y96),(97,y97),(98,y98),(99,y99),(100,y100),(101,y101),(102,y102),(103,y103),(104,y104),(105,y105)])),h)
 | .bool false=>
 thenV (some ((x 10),h)) fun y84 h=>
 thenV (pu (bin Tryd.prog .add 3 y84 (.int .i64 1)) h) fun y85 h=>
 thenV (some (y85,h)) fun y10 h=>
 some (.normal,(mkF 107 (up x [(10,y10),(77,y77),(78,y78),(79,y79),(80,y80),(81,y81),(82,y82),(83,y83),(84,y84),(85,y85),(86,y86),(87,y87),(88,y88),(89,y89),(90,y90),(91,y91),(92,y92),(93,y93),(94,y94),(95,y95),(96,y96),(97,y97),(98,y98),(99,y99),(100,y100),(101,y101),(102,y102),(103,y103),(104,y104),(105,y105)])),h)
 |_=>none)
 | .bool false=>
 some (.exit 2,(mkF 107 (up x [(77,y77),(78,y78),(79,y79),(80,y80),(81,y81),(82,y82),(83,y83)])),h)
 |_=>none)
theorem t7_eq (C:CallF) (x0:Value) (h:Heap):bodyK Tryd.prog C Tryd.f7 [x0] h=t7 C x0 h:=
 (bodyB_eq Tryd.prog C Tryd.f7 [x0] h (by kernel_rfl)).trans (by kernel_rfl)
theorem t7k7_9_eq (C:CallF) (x:Nat→Value) (h:Heap):k7_9 C (mkF 107 x) h=t7k7_9 C x h:=
 link_partF (b:=(partOf Tryd.f7 [1,1,1,1,1,1])) (kE:=(resultsA Tryd.prog Tryd.f7.results.toList)) (rE:=(resultsA Tryd.prog Tryd.f7.results.toList)) (xE:=(fun _ _ _=>none)) (T:=t7k7_9 C) (fun x h=>by kernel_rfl) x h
theorem t7l7_11111010_eq (C:CallF) (x:Nat→Value) (h:Heap):codeA Tryd.prog C (partOf Tryd.f7 [1,1,1,1,1,0,1,0,0]) (mkF 107 x) h=t7l7_11111010 C x h:=
 link_roundF (T:=t7l7_11111010 C) (fun x h=>by kernel_rfl) x h
theorem t7k7_15_eq (C:CallF) (x:Nat→Value) (h:Heap):k7_15 C (mkF 107 x) h=t7k7_15 C x h:=
 link_partF (b:=(partOf Tryd.f7 [1,1,1,1,1,0,1,0,0,1,1])) (kE:=(fun e h=>some (Ex.normal,e,h))) (rE:=(fun e h=>some (Ex.ret,e,h))) (xE:=(fun i e h=>some (Ex.exit i,e,h))) (T:=t7k7_15 C) (fun x h=>by kernel_rfl) x h
theorem t7l7_11111010010011111110_eq (C:CallF) (x:Nat→Value) (h:Heap):codeA Tryd.prog C (partOf Tryd.f7 [1,1,1,1,1,0,1,0,0,1,0,0,1,1,1,1,1,1,1,0,0]) (mkF 107 x) h=t7l7_11111010010011111110 C x h:=
 link_roundF (T:=t7l7_11111010010011111110 C) (fun x h=>by kernel_rfl) x h
end Go.Proofs.YtdnahgfgoajmcaaDoor

