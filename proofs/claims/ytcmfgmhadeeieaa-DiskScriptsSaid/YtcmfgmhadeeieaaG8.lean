/-
  A part of the proof, spaces and names shortened by a program (a claim may hold 1,500,000 bytes).
  Conditions: as each theorem states.
-/
import Derived.Test.YtcmfgmhadeeieaaG7
import Derived.Test.YtcmfgmhadeeieaaProg
import Derived.KernelRfl
namespace Go.Proofs.Ytcmfgmhadeeieaa
open Go Go.Abs
noncomputable def t35 (_C:ak) (x0:Value) (h:af):Out:=
 ad (dp [(.slice none 0 0),(.bool false),(.bool false),(.int .i64 0),(.int .i64 0),(.int .i64 0)] h) fun y2 h=>
 ad (some ((.int .i64 0),h)) fun _y3 h=>
 ad (some (x0,h)) fun y4 h=>
 ad (pu (bin Try.prog .lss 3 y4 (.int .i64 4)) h) fun y5 h=>
 ad (some (y5,h)) fun y6 h=>
 ad (ah (aO y6==some false) (some (x0,h)) h) fun y7 h=>
 ad (ah (aO y6==some false) (pu (bin Try.prog .gtr 3 y7 (.int .i64 4096)) h) h) fun y8 h=>
 ad (match y6 with | .bool t=>some (if t then (.bool true) else y8,h)|_=>none) fun y9 h=>
 (match y9 with
 | .bool true=>
 ad (pu (ff [(.slice none 0 0),(.bool false),(.bool false),(.int .i64 0),(.int .i64 0),(.int .i64 0)] []) h) fun bH h=>
 ad (bK 6 y2 bH h) fun _ h=>
 ad (some ((.int .i64 2),h)) fun y3_1 h=>
 al Try.prog Try.f35.results.toList (aZ 15 (up (bs [x0]) [(2,y2),(3,y3_1),(4,y4),(5,y5),(6,y6),(7,y7),(8,y8),(9,y9),(10,bH)])) h
 | .bool false=>
 ad (some (x0,h)) fun bQ h=>
 ad (pu (bin Try.prog .mul 3 (.int .i64 128) bQ) h) fun y12 h=>
 ad (mkR 1 1 (.int .u8 0) y12 y12 h) fun y13 h=>
 ad (pu (ff [(.slice none 0 0),(.bool false),(.bool false),(.int .i64 0),(.int .i64 0),(.int .i64 0)] [(0,1,y13)]) h) fun y14 h=>
 ad (bK 6 y2 y14 h) fun _ h=>
 ad (some ((.int .i64 0),h)) fun y3_1 h=>
 al Try.prog Try.f35.results.toList (aZ 15 (up (bs [x0]) [(2,y2),(3,y3_1),(4,y4),(5,y5),(6,y6),(7,y7),(8,y8),(9,y9),(11,bQ),(12,y12),(13,y13),(14,y14)])) h
 |_=>none)
theorem t35_eq (C:ak) (x0:Value) (h:af):bk Try.prog C Try.f35 [x0] h=t35 C x0 h:=
 (aN Try.prog C Try.f35 [x0] h (by kernel_rfl)).trans (by kernel_rfl)
noncomputable def t38 (C:ak) (x0:Value) (h:af):Out:=
 ad (box x0 h) fun y1 h=>
 ad (dp [(.slice none 0 0),(.bool false),(.bool false),(.int .i64 0),(.int .i64 0),(.int .i64 0)] h) fun y2 h=>
 ad (dp [(.int .i64 0),(.int .i64 0),(.int .u64 0),(.int .i64 0),(.int .u64 0),(.bool false),(.int .i64 0),(.bool false)] h) fun y3 h=>
 ad (some ((.slice none 0 0),h)) fun _y4 h=>
 ad (some ((.int .i64 0),h)) fun _y5 h=>
 ad (pu (aI y1 1) h) fun y8 h=>
 ad (aV y8 h) fun y9 h=>
 (match y9 with
 | .bool true=>
 ad (bD 6 y1 h) fun bH h=>
 ad (pu (ff [(.int .i64 0),(.int .i64 0),(.int .u64 0),(.int .i64 0),(.int .u64 0),(.bool false),(.int .i64 0),(.bool false)] [(7,1,(.bool true))]) h) fun bQ h=>
 ad (bK 6 y2 bH h) fun _ h=>
 ad (bK 8 y3 bQ h) fun _ h=>
 ad (some ((.slice none 0 0),h)) fun y4_1 h=>
 ad (some ((.int .i64 9),h)) fun y5_1 h=>
 al Try.prog Try.f38.results.toList (aZ 34 (up (bs [x0]) [(1,y1),(2,y2),(3,y3),(4,y4_1),(5,y5_1),(8,y8),(9,y9),(10,bH),(11,bQ)])) h
 | .bool false=>
 ad (pu (aI y1 5) h) fun y12 h=>
 ad (aV y12 h) fun y13 h=>
 ad (pu (bin Try.prog .add 3 y13 (.int .i64 1)) h) fun y14 h=>
 ad (pu (aI y1 5) h) fun y15 h=>
 ad (bK 1 y15 y14 h) fun _ h=>
 ad (bD 6 y1 h) fun y17 h=>
 ad (C 65 [y17] h) fun y18 h=>
 ad (some (y18,h)) fun y16 h=>
 ad (pu (aA y16 0) h) fun y19 h=>
 ad (pu (aA y16 1) h) fun y20 h=>
 ad (dp [(.bool false),(.int .u64 0),(.int .i64 0)] h) fun y7 h=>
 ad (some (y19,h)) fun y6 h=>
 ad (bK 3 y7 y20 h) fun _ h=>
 let g7_0:=h
 ad (bD 6 y1 g7_0) fun y21 g7_1=>
 ad (pu (aI y1 5) g7_1) fun y22 g7_2=>
 ad (aV y22 g7_2) fun y23 g7_3=>
 ad (some (y6,g7_3)) fun y24 g7_4=>
 ad (pu (aI y7 1) g7_4) fun y25 g7_5=>
 ad (aV y25 g7_5) fun y26 g7_6=>
 ad (pu (aI y7 2) g7_6) fun y27 g7_7=>
 ad (aV y27 g7_7) fun y28 g7_8=>
 ad (bD 6 y1 g7_8) fun y29 g7_9=>
 ad (C 66 [y29] g7_9) fun y30 g7_10=>
 ad (pu (ff [(.int .i64 0),(.int .i64 0),(.int .u64 0),(.int .i64 0),(.int .u64 0),(.bool false),(.int .i64 0),(.bool false)] [(0,1,y23),(1,1,y24),(2,1,y26),(3,1,y28),(4,1,y30)]) g7_10) fun y31 g7_11=>
 ad (bD 6 y1 g7_11) fun y32 g7_12=>
 ad (C 67 [y32] g7_12) fun y33 g7_13=>
 ad (bK 6 y2 y21 g7_13) fun _ g7_14=>
 ad (bK 8 y3 y31 g7_14) fun _ g7_15=>
 ad (some (y33,g7_15)) fun y4_1 g7_16=>
 ad (some ((.int .i64 0),g7_16)) fun y5_1 g7_17=>
 (match (bU true (bD 6 y1 g7_10) y21&&(bU true (bD 6 y1 g7_13) y21&&(bU true (aV y22 g7_10) y23&&(bU true (aV y22 g7_13) y23&&(bU true (aV y22 g7_14) y23&&(bU true (aV y25 g7_10) y26&&(bU true (aV y25 g7_13) y26&&(bU true (aV y25 g7_14) y26&&(bU true (aV y27 g7_10) y28&&(bU true (aV y27 g7_13) y28&&(bU true (aV y27 g7_14) y28&&(bU true (bD 6 y1 g7_9) y32&&true)))))))))))) with
 |true=>
 let h:=g7_17
 al Try.prog Try.f38.results.toList (aZ 34 (up (bs [x0]) [(1,y1),(2,y2),(3,y3),(4,y4_1),(5,y5_1),(6,y6),(7,y7),(8,y8),(9,y9),(12,y12),(13,y13),(14,y14),(15,y15),(16,y16),(17,y17),(18,y18),(19,y19),(20,y20),(21,y21),(22,y22),(23,y23),(24,y24),(25,y25),(26,y26),(27,y27),(28,y28),(29,y29),(30,y30),(31,y31),(32,y32),(33,y33)])) h
 |false=>none)
 |_=>none)
theorem t38_eq (C:ak) (x0:Value) (h:af):bk Try.prog C Try.f38 [x0] h=t38 C x0 h:=
 (aN Try.prog C Try.f38 [x0] h (by kernel_rfl)).trans (by kernel_rfl)
noncomputable def k40_10 (C:ak) (e:Env) (h:af):Out:=cF Try.prog C (partOf Try.f40 [1,1,1,1,1]) e h (al Try.prog Try.f40.results.toList) (al Try.prog Try.f40.results.toList) (fun _ _ _=>none)
noncomputable def b40_12 (C:ak) (i:Nat) (e:Env) (h:af):Out:=if i=0 then (k40_10 C) e h else (fun _ _ _=>none) i e h
noncomputable def k40_22 (C:ak) (e:Env) (h:af):Out:=cF Try.prog C (partOf Try.f40 [1,1,1,1,1,1,1,1,1,1,1]) e h (al Try.prog Try.f40.results.toList) (al Try.prog Try.f40.results.toList) (fun _ _ _=>none)
noncomputable def b40_24 (C:ak) (i:Nat) (e:Env) (h:af):Out:=if i=2 then (k40_22 C) e h else (fun _ _ _=>none) i e h
noncomputable def t40 (C:ak) (x0 x1 x2:Value) (h:af):Out:=
 ad (box x0 h) fun y3 h=>
 ad (box x1 h) fun y4 h=>
 ad (dp [(.slice none 0 0),(.bool false),(.bool false),(.int .i64 0),(.int .i64 0),(.int .i64 0)] h) fun y6 h=>
 ad (dp [(.int .i64 0),(.int .i64 0),(.int .u64 0),(.int .i64 0),(.int .u64 0),(.bool false),(.int .i64 0),(.bool false)] h) fun y7 h=>
 ad (some ((.slice none 0 0),h)) fun y8 h=>
 ad (some ((.int .i64 0),h)) fun y9 h=>
 ad (pu (aI y4 7) h) fun y18 h=>
 ad (aV y18 h) fun y19 h=>
 (match y19 with
 | .bool true=>
 let g4_0:=h
 ad (bD 6 y3 g4_0) fun y20 g4_1=>
 ad (bD 8 y4 g4_1) fun y21 g4_2=>
 ad (bK 6 y6 y20 g4_2) fun _ g4_3=>
 ad (bK 8 y7 y21 g4_3) fun _ g4_4=>
 ad (some ((.slice none 0 0),g4_4)) fun y8_1 g4_5=>
 ad (some ((.int .i64 1),g4_5)) fun y9_1 g4_6=>
 (match (bU true (bD 8 y4 g4_3) y21&&true) with
 |true=>
 let h:=g4_6
 al Try.prog Try.f40.results.toList (aZ 142 (up (bs [x0,x1,x2]) [(3,y3),(4,y4),(6,y6),(7,y7),(8,y8_1),(9,y9_1),(18,y18),(19,y19),(20,y20),(21,y21)])) h
 |false=>none)
 | .bool false=>
 ad (bD 6 y3 h) fun y22 h=>
 ad (bD 8 y4 h) fun y23 h=>
 ad (C 68 [y22,y23] h) fun y24 h=>
 ad (pu (unA .not y24) h) fun y25 h=>
 (match y25 with
 | .bool true=>
 let g8_0:=h
 ad (bD 6 y3 g8_0) fun y26 g8_1=>
 ad (bD 8 y4 g8_1) fun y27 g8_2=>
 ad (bK 6 y6 y26 g8_2) fun _ g8_3=>
 ad (bK 8 y7 y27 g8_3) fun _ g8_4=>
 ad (some ((.slice none 0 0),g8_4)) fun y8_1 g8_5=>
 ad (some ((.int .i64 9),g8_5)) fun y9_1 g8_6=>
 (match (bU true (bD 8 y4 g8_3) y27&&true) with
 |true=>
 let h:=g8_6
 al Try.prog Try.f40.results.toList (aZ 142 (up (bs [x0,x1,x2]) [(3,y3),(4,y4),(6,y6),(7,y7),(8,y8_1),(9,y9_1),(18,y18),(19,y19),(22,y22),(23,y23),(24,y24),(25,y25),(26,y26),(27,y27)])) h
 |false=>none)
 | .bool false=>
 ad (some ((.int .i64 0),h)) fun bH h=>
 ad (some ((.int .i64 0),h)) fun bQ h=>
 dI (iter (aL Try.prog C (partOf Try.f40 [1,1,1,1,0,1,0,0])) rounds (aZ 142 (up (bs [x0,x1,x2]) [(3,y3),(4,y4),(6,y6),(7,y7),(8,y8),(9,y9),(10,bH),(11,bQ),(18,y18),(19,y19),(22,y22),(23,y23),(24,y24),(25,y25)])) h) (al Try.prog Try.f40.results.toList) (b40_12 C)
 |_=>none)
 |_=>none)
noncomputable def t40k40_10 (C:ak) (x:Nat→Value) (h:af):Out:=
 ad (some ((x 10),h)) fun y50 h=>
 ad (bD 6 (x 3) h) fun y51 h=>
 ad (C 46 [y51] h) fun y52 h=>
 ad (pu (bin Try.prog .gtr 3 y50 y52) h) fun y53 h=>
 ad (some (y53,h)) fun y54 h=>
 ad (ah (aO y54==some false) (pu (aI (x 4) 4) h) h) fun y55 h=>
 ad (ah (aO y54==some false) (aV y55 h) h) fun y56 h=>
 ad (ah (aO y54==some false) (pu (bin Try.prog .eql 58 y56 (.int .u64 18446744073709551615)) h) h) fun y57 h=>
 ad (match y54 with | .bool t=>some (if t then (.bool true) else y57,h)|_=>none) fun y58 h=>
 (match y58 with
 | .bool true=>
 let g16_0:=h
 ad (bD 6 (x 3) g16_0) fun y59 g16_1=>
 ad (bD 8 (x 4) g16_1) fun y60 g16_2=>
 ad (bK 6 (x 6) y59 g16_2) fun _ g16_3=>
 ad (bK 8 (x 7) y60 g16_3) fun _ g16_4=>
 ad (some ((.slice none 0 0),g16_4)) fun y8 g16_5=>
 ad (some ((.int .i64 8),g16_5)) fun y9 g16_6=>
 (match (bU true (bD 8 (x 4) g16_3) y60&&true) with
 |true=>
 let h:=g16_6
 al Try.prog Try.f40.results.toList (aZ 142 (up x [(8,y8),(9,y9),(50,y50),(51,y51),(52,y52),(53,y53),(54,y54),(55,y55),(56,y56),(57,y57),(58,y58),(59,y59),(60,y60)])) h
 |false=>none)
 | .bool false=>
 ad (some ((.int .i64 0),h)) fun y12 h=>
 ad (some ((.int .i64 0),h)) fun y13 h=>
 ad (pu (aI (x 4) 1) h) fun y61 h=>
 ad (aV y61 h) fun y62 h=>
 ad (pu (bin Try.prog .geq 3 y62 (.int .i64 0)) h) fun y63 h=>
 (match y63 with
 | .bool true=>
 ad (pu (aI (x 4) 3) h) fun y64 h=>
 ad (aV y64 h) fun y65 h=>
 ad (pu (bin Try.prog .sub 3 (.int .i64 1) y65) h) fun y66 h=>
 ad (pu (aI (x 4) 1) h) fun y67 h=>
 ad (aV y67 h) fun y68 h=>
 ad (pu (bin Try.prog .sub 3 (.int .i64 1) y68) h) fun y69 h=>
 ad (some (y66,h)) fun y12_1 h=>
 ad (some (y69,h)) fun y13_1 h=>
 ad (dY 1 (.int .i64 0) 0 [] h) fun y70 h=>
 ad (some ((.int .i64 0),h)) fun y14 h=>
 ad (some (y70,h)) fun y15 h=>
 ad (some ((.int .i64 0),h)) fun y16 h=>
 ad (some ((.int .i64 0),h)) fun y17 h=>
 dI (iter (aL Try.prog C (partOf Try.f40 [1,1,1,1,1,1,1,1,1,1,0,1,0,0])) rounds (aZ 142 (up x [(12,y12_1),(13,y13_1),(14,y14),(15,y15),(16,y16),(17,y17),(50,y50),(51,y51),(52,y52),(53,y53),(54,y54),(55,y55),(56,y56),(57,y57),(58,y58),(61,y61),(62,y62),(63,y63),(64,y64),(65,y65),(66,y66),(67,y67),(68,y68),(69,y69),(70,y70)])) h) (al Try.prog Try.f40.results.toList) (b40_24 C)
 | .bool false=>
 ad (dY 1 (.int .i64 0) 0 [] h) fun y70 h=>
 ad (some ((.int .i64 0),h)) fun y14 h=>
 ad (some (y70,h)) fun y15 h=>
 ad (some ((.int .i64 0),h)) fun y16 h=>
 ad (some ((.int .i64 0),h)) fun y17 h=>
 dI (iter (aL Try.prog C (partOf Try.f40 [1,1,1,1,1,1,1,1,1,1,0,1,0,0])) rounds (aZ 142 (up x [(12,y12),(13,y13),(14,y14),(15,y15),(16,y16),(17,y17),(50,y50),(51,y51),(52,y52),(53,y53),(54,y54),(55,y55),(56,y56),(57,y57),(58,y58),(61,y61),(62,y62),(63,y63),(70,y70)])) h) (al Try.prog Try.f40.results.toList) (b40_24 C)
 |_=>none)
 |_=>none)
noncomputable def iw (C:ak) (x:Nat→Value) (h:af):Option (Ex×Env×af):=
 ad (some ((x 11),h)) fun y28 h=>
 ad (some ((x 2),h)) fun y29 h=>
 ad (pu (cK y29) h) fun y30 h=>
 ad (pu (bin Try.prog .lss 3 y28 y30) h) fun y31 h=>
 (match y31 with
 | .bool true=>
 ad (some ((x 2),h)) fun y34 h=>
 ad (some ((x 11),h)) fun y35 h=>
 ad (pu (bV 1 y34 y35) h) fun y36 h=>
 ad (aV y36 h) fun y37 h=>
 ad (pu (cK y37) h) fun y38 h=>
 ad (pu (bin Try.prog .gtr 3 y38 (.int .i64 20000)) h) fun y39 h=>
 (match y39 with
 | .bool true=>
 let g32_0:=h
 ad (bD 6 (x 3) g32_0) fun y40 g32_1=>
 ad (bD 8 (x 4) g32_1) fun y41 g32_2=>
 ad (bK 6 (x 6) y40 g32_2) fun _ g32_3=>
 ad (bK 8 (x 7) y41 g32_3) fun _ g32_4=>
 ad (some ((.slice none 0 0),g32_4)) fun y8 g32_5=>
 ad (some ((.int .i64 3),g32_5)) fun y9 g32_6=>
 (match (bU true (bD 8 (x 4) g32_3) y41&&true) with
 |true=>
 let h:=g32_6
 some (.ret,(aZ 142 (up x [(8,y8),(9,y9),(28,y28),(29,y29),(30,y30),(31,y31),(34,y34),(35,y35),(36,y36),(37,y37),(38,y38),(39,y39),(40,y40),(41,y41)])),h)
 |false=>none)
 | .bool false=>
 ad (some ((x 10),h)) fun y42 h=>
 ad (some ((x 2),h)) fun y43 h=>
 ad (some ((x 11),h)) fun y44 h=>
 ad (pu (bV 1 y43 y44) h) fun y45 h=>
 ad (aV y45 h) fun y46 h=>
 ad (pu (cK y46) h) fun y47 h=>
 ad (C 16 [y47] h) fun y48 h=>
 ad (pu (bin Try.prog .add 3 y42 y48) h) fun y49 h=>
 ad (some (y49,h)) fun bH h=>
 ad (some ((x 11),h)) fun y32 h=>
 ad (pu (bin Try.prog .add 3 y32 (.int .i64 1)) h) fun y33 h=>
 ad (some (y33,h)) fun bQ h=>
 some (.normal,(aZ 142 (up x [(10,bH),(11,bQ),(28,y28),(29,y29),(30,y30),(31,y31),(32,y32),(33,y33),(34,y34),(35,y35),(36,y36),(37,y37),(38,y38),(39,y39),(42,y42),(43,y43),(44,y44),(45,y45),(46,y46),(47,y47),(48,y48),(49,y49)])),h)
 |_=>none)
 | .bool false=>
 some (.exit 0,(aZ 142 (up x [(28,y28),(29,y29),(30,y30),(31,y31)])),h)
 |_=>none)
noncomputable def t40k40_22 (C:ak) (x:Nat→Value) (h:af):Out:=
 let g35_0:=h
 ad (bD 6 (x 3) g35_0) fun y109 g35_1=>
 ad (some ((x 13),g35_1)) fun y110 g35_2=>
 ad (pu (aI (x 4) 4) g35_2) fun y111 g35_3=>
 ad (aV y111 g35_3) fun y112 g35_4=>
 ad (pu (bin Try.prog .add 58 y112 (.int .u64 1)) g35_4) fun y113 g35_5=>
 ad (some ((x 12),g35_5)) fun y114 g35_6=>
 ad (C 71 [y113,y114] g35_6) fun y115 g35_7=>
 ad (C 70 [y109,y110,y115] g35_7) fun y116 g35_8=>
 ad (some (y116,g35_8)) fun y108 g35_9=>
 ad (pu (aA y108 0) g35_9) fun y117 g35_10=>
 ad (pu (aA y108 1) g35_10) fun y118 g35_11=>
 ad (bK 6 (x 3) y117 g35_11) fun _ g35_12=>
 ad (some (y118,g35_12)) fun y16 g35_13=>
 (match (bU true (bD 6 (x 3) g35_7) y109&&true) with
 |true=>
 let h:=g35_13
 ad (some (y16,h)) fun y119 h=>
 ad (pu (bin Try.prog .neq 28 y119 (.int .i64 0)) h) fun y120 h=>
 (match y120 with
 | .bool true=>
 let g38_0:=h
 ad (bD 6 (x 3) g38_0) fun y121 g38_1=>
 ad (bD 8 (x 4) g38_1) fun y122 g38_2=>
 ad (some (y16,g38_2)) fun y123 g38_3=>
 ad (bK 6 (x 6) y121 g38_3) fun _ g38_4=>
 ad (bK 8 (x 7) y122 g38_4) fun _ g38_5=>
 ad (some ((.slice none 0 0),g38_5)) fun y8 g38_6=>
 ad (some (y123,g38_6)) fun y9 g38_7=>
 (match (bU true (bD 8 (x 4) g38_4) y122&&true) with
 |true=>
 let h:=g38_7
 al Try.prog Try.f40.results.toList (aZ 142 (up x [(8,y8),(9,y9),(16,y16),(108,y108),(109,y109),(110,y110),(111,y111),(112,y112),(113,y113),(114,y114),(115,y115),(116,y116),(117,y117),(118,y118),(119,y119),(120,y120),(121,y121),(122,y122),(123,y123)])) h
 |false=>none)
 | .bool false=>
 ad (some ((x 13),h)) fun y124 h=>
 ad (some ((x 12),h)) fun y125 h=>
 ad (pu (aI (x 4) 4) h) fun y126 h=>
 ad (aV y126 h) fun y127 h=>
 ad (pu (bin Try.prog .add 58 y127 (.int .u64 1)) h) fun y128 h=>
 ad (pu (aI (x 4) 4) h) fun y129 h=>
 ad (aV y129 h) fun y130 h=>
 ad (pu (bin Try.prog .add 58 y130 (.int .u64 1)) h) fun y131 h=>
 ad (some ((x 14),h)) fun y132 h=>
 ad (pu (aI (x 4) 1) h) fun y133 h=>
 ad (bK 1 y133 y124 h) fun _ h=>
 ad (pu (aI (x 4) 3) h) fun y134 h=>
 ad (bK 1 y134 y125 h) fun _ h=>
 ad (pu (aI (x 4) 2) h) fun y135 h=>
 ad (bK 1 y135 y128 h) fun _ h=>
 ad (pu (aI (x 4) 4) h) fun y136 h=>
 ad (bK 1 y136 y131 h) fun _ h=>
 ad (pu (aI (x 4) 5) h) fun y137 h=>
 ad (bK 1 y137 (.bool true) h) fun _ h=>
 ad (pu (aI (x 4) 6) h) fun y138 h=>
 ad (bK 1 y138 y132 h) fun _ h=>
 let g41_0:=h
 ad (bD 6 (x 3) g41_0) fun y139 g41_1=>
 ad (bD 8 (x 4) g41_1) fun y140 g41_2=>
 ad (some ((x 15),g41_2)) fun y141 g41_3=>
 ad (bK 6 (x 6) y139 g41_3) fun _ g41_4=>
 ad (bK 8 (x 7) y140 g41_4) fun _ g41_5=>
 ad (some (y141,g41_5)) fun y8 g41_6=>
 ad (some ((.int .i64 0),g41_6)) fun y9 g41_7=>
 (match (bU true (bD 8 (x 4) g41_4) y140&&true) with
 |true=>
 let h:=g41_7
 al Try.prog Try.f40.results.toList (aZ 142 (up x [(8,y8),(9,y9),(16,y16),(108,y108),(109,y109),(110,y110),(111,y111),(112,y112),(113,y113),(114,y114),(115,y115),(116,y116),(117,y117),(118,y118),(119,y119),(120,y120),(124,y124),(125,y125),(126,y126),(127,y127),(128,y128),(129,y129),(130,y130),(131,y131),(132,y132),(133,y133),(134,y134),(135,y135),(136,y136),(137,y137),(138,y138),(139,y139),(140,y140),(141,y141)])) h
 |false=>none)
 |_=>none)
 |false=>none)
noncomputable def eU (C:ak) (x:Nat→Value) (h:af):Option (Ex×Env×af):=
 ad (some ((x 17),h)) fun y71 h=>
 ad (some ((x 2),h)) fun y72 h=>
 ad (pu (cK y72) h) fun y73 h=>
 ad (pu (bin Try.prog .lss 3 y71 y73) h) fun y74 h=>
 (match y74 with
 | .bool true=>
 ad (bD 6 (x 3) h) fun y78 h=>
 ad (some ((x 12),h)) fun y79 h=>
 ad (pu (aI (x 4) 4) h) fun y80 h=>
 ad (aV y80 h) fun y81 h=>
 ad (pu (bin Try.prog .add 58 y81 (.int .u64 1)) h) fun y82 h=>
 ad (some ((x 14),h)) fun y83 h=>
 ad (some ((x 2),h)) fun y84 h=>
 ad (some ((x 17),h)) fun y85 h=>
 ad (pu (bV 1 y84 y85) h) fun y86 h=>
 ad (aV y86 h) fun y87 h=>
 ad (C 69 [y78,y79,y82,y83,y87] h) fun y88 h=>
 ad (some (y88,h)) fun y77 h=>
 ad (pu (aA y77 0) h) fun y89 h=>
 ad (pu (aA y77 1) h) fun y90 h=>
 ad (bK 6 (x 3) y89 h) fun _ h=>
 ad (some (y90,h)) fun y16 h=>
 ad (some (y16,h)) fun y91 h=>
 ad (pu (bin Try.prog .neq 28 y91 (.int .i64 0)) h) fun y92 h=>
 (match y92 with
 | .bool true=>
 let g50_0:=h
 ad (bD 6 (x 3) g50_0) fun y93 g50_1=>
 ad (bD 8 (x 4) g50_1) fun y94 g50_2=>
 ad (some (y16,g50_2)) fun y95 g50_3=>
 ad (bK 6 (x 6) y93 g50_3) fun _ g50_4=>
 ad (bK 8 (x 7) y94 g50_4) fun _ g50_5=>
 ad (some ((.slice none 0 0),g50_5)) fun y8 g50_6=>
 ad (some (y95,g50_6)) fun y9 g50_7=>
 (match (bU true (bD 8 (x 4) g50_4) y94&&true) with
 |true=>
 let h:=g50_7
 some (.ret,(aZ 142 (up x [(8,y8),(9,y9),(16,y16),(71,y71),(72,y72),(73,y73),(74,y74),(77,y77),(78,y78),(79,y79),(80,y80),(81,y81),(82,y82),(83,y83),(84,y84),(85,y85),(86,y86),(87,y87),(88,y88),(89,y89),(90,y90),(91,y91),(92,y92),(93,y93),(94,y94),(95,y95)])),h)
 |false=>none)
 | .bool false=>
 ad (some ((x 15),h)) fun y96 h=>
 ad (some ((x 14),h)) fun y97 h=>
 ad (dY 1 (.int .i64 0) 1 [(0,y97)] h) fun y98 h=>
 ad (bt 1 8 y96 y98 h) fun y99 h=>
 ad (some (y99,h)) fun y15 h=>
 ad (some ((x 14),h)) fun y100 h=>
 ad (some ((x 2),h)) fun y101 h=>
 ad (some ((x 17),h)) fun y102 h=>
 ad (pu (bV 1 y101 y102) h) fun y103 h=>
 ad (aV y103 h) fun y104 h=>
 ad (pu (cK y104) h) fun y105 h=>
 ad (C 16 [y105] h) fun y106 h=>
 ad (pu (bin Try.prog .add 3 y100 y106) h) fun y107 h=>
 ad (some (y107,h)) fun y14 h=>
 ad (some ((x 17),h)) fun y75 h=>
 ad (pu (bin Try.prog .add 3 y75 (.int .i64 1)) h) fun y76 h=>
 ad (some (y76,h)) fun y17 h=>
 some (.normal,(aZ 142 (up x [(14,y14),(15,y15),(16,y16),(17,y17),(71,y71),(72,y72),(73,y73),(74,y74),(75,y75),(76,y76),(77,y77),(78,y78),(79,y79),(80,y80),(81,y81),(82,y82),(83,y83),(84,y84),(85,y85),(86,y86),(87,y87),(88,y88),(89,y89),(90,y90),(91,y91),(92,y92),(96,y96),(97,y97),(98,y98),(99,y99),(100,y100),(101,y101),(102,y102),(103,y103),(104,y104),(105,y105),(106,y106),(107,y107)])),h)
 |_=>none)
 | .bool false=>
 some (.exit 2,(aZ 142 (up x [(71,y71),(72,y72),(73,y73),(74,y74)])),h)
 |_=>none)
theorem t40_eq (C:ak) (x0 x1 x2:Value) (h:af):bk Try.prog C Try.f40 [x0,x1,x2] h=t40 C x0 x1 x2 h:=
 (aN Try.prog C Try.f40 [x0,x1,x2] h (by kernel_rfl)).trans (by kernel_rfl)
theorem t40k40_10_eq (C:ak) (x:Nat→Value) (h:af):k40_10 C (aZ 142 x) h=t40k40_10 C x h:=
 bo (b:=(partOf Try.f40 [1,1,1,1,1])) (kE:=(al Try.prog Try.f40.results.toList)) (rE:=(al Try.prog Try.f40.results.toList)) (xE:=(fun _ _ _=>none)) (T:=t40k40_10 C) (fun x h=>by kernel_rfl) x h
theorem t40l40_1111010_eq (C:ak) (x:Nat→Value) (h:af):aL Try.prog C (partOf Try.f40 [1,1,1,1,0,1,0,0]) (aZ 142 x) h=iw C x h:=
 bg (T:=iw C) (fun x h=>by kernel_rfl) x h
theorem t40k40_22_eq (C:ak) (x:Nat→Value) (h:af):k40_22 C (aZ 142 x) h=t40k40_22 C x h:=
 bo (b:=(partOf Try.f40 [1,1,1,1,1,1,1,1,1,1,1])) (kE:=(al Try.prog Try.f40.results.toList)) (rE:=(al Try.prog Try.f40.results.toList)) (xE:=(fun _ _ _=>none)) (T:=t40k40_22 C) (fun x h=>by kernel_rfl) x h
theorem t40l40_1111111111010_eq (C:ak) (x:Nat→Value) (h:af):aL Try.prog C (partOf Try.f40 [1,1,1,1,1,1,1,1,1,1,0,1,0,0]) (aZ 142 x) h=eU C x h:=
 bg (T:=eU C) (fun x h=>by kernel_rfl) x h
noncomputable def t42 (C:ak) (x0 x1 x2:Value) (h:af):Out:=
 ad (box x0 h) fun y3 h=>
 ad (box x1 h) fun y4 h=>
 ad (dp [(.slice none 0 0),(.bool false),(.bool false),(.int .i64 0),(.int .i64 0),(.int .i64 0)] h) fun y6 h=>
 ad (dp [(.int .i64 0),(.int .i64 0),(.int .u64 0),(.int .i64 0),(.int .u64 0),(.bool false),(.int .i64 0),(.bool false)] h) fun y7 h=>
 ad (some ((.int .i64 0),h)) fun _y8 h=>
 ad (some ((.int .i64 0),h)) fun _y9 h=>
 ad (pu (aI y4 7) h) fun y12 h=>
 ad (aV y12 h) fun y13 h=>
 (match y13 with
 | .bool true=>
 let g4_0:=h
 ad (bD 6 y3 g4_0) fun y14 g4_1=>
 ad (bD 8 y4 g4_1) fun y15 g4_2=>
 ad (bK 6 y6 y14 g4_2) fun _ g4_3=>
 ad (bK 8 y7 y15 g4_3) fun _ g4_4=>
 ad (some ((.int .i64 0),g4_4)) fun y8_1 g4_5=>
 ad (some ((.int .i64 1),g4_5)) fun y9_1 g4_6=>
 (match (bU true (bD 8 y4 g4_3) y15&&true) with
 |true=>
 let h:=g4_6
 al Try.prog Try.f42.results.toList (aZ 69 (up (bs [x0,x1,x2]) [(3,y3),(4,y4),(6,y6),(7,y7),(8,y8_1),(9,y9_1),(12,y12),(13,y13),(14,y14),(15,y15)])) h
 |false=>none)
 | .bool false=>
 ad (bD 6 y3 h) fun y16 h=>
 ad (bD 8 y4 h) fun y17 h=>
 ad (C 68 [y16,y17] h) fun y18 h=>
 ad (pu (unA .not y18) h) fun y19 h=>
 (match y19 with
 | .bool true=>
 let g8_0:=h
 ad (bD 6 y3 g8_0) fun y20 g8_1=>
 ad (bD 8 y4 g8_1) fun y21 g8_2=>
 ad (bK 6 y6 y20 g8_2) fun _ g8_3=>
 ad (bK 8 y7 y21 g8_3) fun _ g8_4=>
 ad (some ((.int .i64 0),g8_4)) fun y8_1 g8_5=>
 ad (some ((.int .i64 9),g8_5)) fun y9_1 g8_6=>
 (match (bU true (bD 8 y4 g8_3) y21&&true) with
 |true=>
 let h:=g8_6
 al Try.prog Try.f42.results.toList (aZ 69 (up (bs [x0,x1,x2]) [(3,y3),(4,y4),(6,y6),(7,y7),(8,y8_1),(9,y9_1),(12,y12),(13,y13),(16,y16),(17,y17),(18,y18),(19,y19),(20,y20),(21,y21)])) h
 |false=>none)
 | .bool false=>
 ad (pu (aI y4 5) h) fun y22 h=>
 ad (aV y22 h) fun y23 h=>
 ad (pu (unA .not y23) h) fun y24 h=>
 (match y24 with
 | .bool true=>
 let g12_0:=h
 ad (bD 6 y3 g12_0) fun y25 g12_1=>
 ad (bD 8 y4 g12_1) fun y26 g12_2=>
 ad (bK 6 y6 y25 g12_2) fun _ g12_3=>
 ad (bK 8 y7 y26 g12_3) fun _ g12_4=>
 ad (some ((.int .i64 0),g12_4)) fun y8_1 g12_5=>
 ad (some ((.int .i64 30),g12_5)) fun y9_1 g12_6=>
 (match (bU true (bD 8 y4 g12_3) y26&&true) with
 |true=>
 let h:=g12_6
 al Try.prog Try.f42.results.toList (aZ 69 (up (bs [x0,x1,x2]) [(3,y3),(4,y4),(6,y6),(7,y7),(8,y8_1),(9,y9_1),(12,y12),(13,y13),(16,y16),(17,y17),(18,y18),(19,y19),(22,y22),(23,y23),(24,y24),(25,y25),(26,y26)])) h
 |false=>none)
 | .bool false=>
 ad (some (x2,h)) fun y27 h=>
 ad (pu (cK y27) h) fun y28 h=>
 ad (pu (bin Try.prog .gtr 3 y28 (.int .i64 20000)) h) fun y29 h=>
 (match y29 with
 | .bool true=>
 let g16_0:=h
 ad (bD 6 y3 g16_0) fun y30 g16_1=>
 ad (bD 8 y4 g16_1) fun y31 g16_2=>
 ad (bK 6 y6 y30 g16_2) fun _ g16_3=>
 ad (bK 8 y7 y31 g16_3) fun _ g16_4=>
 ad (some ((.int .i64 0),g16_4)) fun y8_1 g16_5=>
 ad (some ((.int .i64 3),g16_5)) fun y9_1 g16_6=>
 (match (bU true (bD 8 y4 g16_3) y31&&true) with
 |true=>
 let h:=g16_6
 al Try.prog Try.f42.results.toList (aZ 69 (up (bs [x0,x1,x2]) [(3,y3),(4,y4),(6,y6),(7,y7),(8,y8_1),(9,y9_1),(12,y12),(13,y13),(16,y16),(17,y17),(18,y18),(19,y19),(22,y22),(23,y23),(24,y24),(27,y27),(28,y28),(29,y29),(30,y30),(31,y31)])) h
 |false=>none)
 | .bool false=>
 let g19_0:=h
 ad (some (x2,g19_0)) fun y32 g19_1=>
 ad (pu (cK y32) g19_1) fun y33 g19_2=>
 ad (C 16 [y33] g19_2) fun y34 g19_3=>
 ad (bD 6 y3 g19_3) fun y35 g19_4=>
 ad (bD 8 y4 g19_4) fun y36 g19_5=>
 ad (C 73 [y35,y36] g19_5) fun y37 g19_6=>
 ad (pu (bin Try.prog .gtr 3 y34 y37) g19_6) fun y38 g19_7=>
 (match (bU true (bD 6 y3 g19_2) y35&&(bU true (bD 8 y4 g19_2) y36&&true)) with
 |true=>
 let h:=g19_7
 (match y38 with
 | .bool true=>
 let g21_0:=h
 ad (bD 6 y3 g21_0) fun y39 g21_1=>
 ad (bD 8 y4 g21_1) fun y40 g21_2=>
 ad (bK 6 y6 y39 g21_2) fun _ g21_3=>
 ad (bK 8 y7 y40 g21_3) fun _ g21_4=>
 ad (some ((.int .i64 0),g21_4)) fun y8_1 g21_5=>
 ad (some ((.int .i64 8),g21_5)) fun y9_1 g21_6=>
 (match (bU true (bD 8 y4 g21_3) y40&&true) with
 |true=>
 let h:=g21_6
 al Try.prog Try.f42.results.toList (aZ 69 (up (bs [x0,x1,x2]) [(3,y3),(4,y4),(6,y6),(7,y7),(8,y8_1),(9,y9_1),(12,y12),(13,y13),(16,y16),(17,y17),(18,y18),(19,y19),(22,y22),(23,y23),(24,y24),(27,y27),(28,y28),(29,y29),(32,y32),(33,y33),(34,y34),(35,y35),(36,y36),(37,y37),(38,y38),(39,y39),(40,y40)])) h
 |false=>none)
 | .bool false=>
 ad (pu (aI y4 6) h) fun y41 h=>
 ad (aV y41 h) fun y42 h=>
 ad (some (y42,h)) fun bH h=>
 ad (bD 6 y3 h) fun y44 h=>
 ad (pu (aI y4 3) h) fun y45 h=>
 ad (aV y45 h) fun y46 h=>
 ad (pu (aI y4 2) h) fun y47 h=>
 ad (aV y47 h) fun y48 h=>
 ad (some (bH,h)) fun y49 h=>
 ad (some (x2,h)) fun y50 h=>
 ad (C 69 [y44,y46,y48,y49,y50] h) fun y51 h=>
 ad (some (y51,h)) fun y43 h=>
 ad (pu (aA y43 0) h) fun y52 h=>
 ad (pu (aA y43 1) h) fun y53 h=>
 ad (bK 6 y3 y52 h) fun _ h=>
 ad (some (y53,h)) fun bQ h=>
 ad (some (bQ,h)) fun y54 h=>
 ad (pu (bin Try.prog .neq 28 y54 (.int .i64 0)) h) fun y55 h=>
 (match y55 with
 | .bool true=>
 let g27_0:=h
 ad (bD 6 y3 g27_0) fun y56 g27_1=>
 ad (bD 8 y4 g27_1) fun y57 g27_2=>
 ad (some (bQ,g27_2)) fun y58 g27_3=>
 ad (bK 6 y6 y56 g27_3) fun _ g27_4=>
 ad (bK 8 y7 y57 g27_4) fun _ g27_5=>
 ad (some ((.int .i64 0),g27_5)) fun y8_1 g27_6=>
 ad (some (y58,g27_6)) fun y9_1 g27_7=>
 (match (bU true (bD 8 y4 g27_4) y57&&true) with
 |true=>
 let h:=g27_7
 al Try.prog Try.f42.results.toList (aZ 69 (up (bs [x0,x1,x2]) [(3,y3),(4,y4),(6,y6),(7,y7),(8,y8_1),(9,y9_1),(10,bH),(11,bQ),(12,y12),(13,y13),(16,y16),(17,y17),(18,y18),(19,y19),(22,y22),(23,y23),(24,y24),(27,y27),(28,y28),(29,y29),(32,y32),(33,y33),(34,y34),(35,y35),(36,y36),(37,y37),(38,y38),(41,y41),(42,y42),(43,y43),(44,y44),(45,y45),(46,y46),(47,y47),(48,y48),(49,y49),(50,y50),(51,y51),(52,y52),(53,y53),(54,y54),(55,y55),(56,y56),(57,y57),(58,y58)])) h
 |false=>none)
 | .bool false=>
 let g29_0:=h
 ad (pu (aI y4 6) g29_0) fun y59 g29_1=>
 ad (aV y59 g29_1) fun y60 g29_2=>
 ad (some (x2,g29_2)) fun y61 g29_3=>
 ad (pu (cK y61) g29_3) fun y62 g29_4=>
 ad (C 16 [y62] g29_4) fun y63 g29_5=>
 ad (pu (bin Try.prog .add 3 y60 y63) g29_5) fun y64 g29_6=>
 ad (pu (aI y4 6) g29_6) fun y65 g29_7=>
 ad (bK 1 y65 y64 g29_7) fun _ g29_8=>
 (match (bU true (aV y59 g29_5) y60&&true) with
 |true=>
 let h:=g29_8
 let g31_0:=h
 ad (bD 6 y3 g31_0) fun y66 g31_1=>
 ad (bD 8 y4 g31_1) fun y67 g31_2=>
 ad (some (bH,g31_2)) fun y68 g31_3=>
 ad (bK 6 y6 y66 g31_3) fun _ g31_4=>
 ad (bK 8 y7 y67 g31_4) fun _ g31_5=>
 ad (some (y68,g31_5)) fun y8_1 g31_6=>
 ad (some ((.int .i64 0),g31_6)) fun y9_1 g31_7=>
 (match (bU true (bD 8 y4 g31_4) y67&&true) with
 |true=>
 let h:=g31_7
 al Try.prog Try.f42.results.toList (aZ 69 (up (bs [x0,x1,x2]) [(3,y3),(4,y4),(6,y6),(7,y7),(8,y8_1),(9,y9_1),(10,bH),(11,bQ),(12,y12),(13,y13),(16,y16),(17,y17),(18,y18),(19,y19),(22,y22),(23,y23),(24,y24),(27,y27),(28,y28),(29,y29),(32,y32),(33,y33),(34,y34),(35,y35),(36,y36),(37,y37),(38,y38),(41,y41),(42,y42),(43,y43),(44,y44),(45,y45),(46,y46),(47,y47),(48,y48),(49,y49),(50,y50),(51,y51),(52,y52),(53,y53),(54,y54),(55,y55),(59,y59),(60,y60),(61,y61),(62,y62),(63,y63),(64,y64),(65,y65),(66,y66),(67,y67),(68,y68)])) h
 |false=>none)
 |false=>none)
 |_=>none)
 |_=>none)
 |false=>none)
 |_=>none)
 |_=>none)
 |_=>none)
 |_=>none)
theorem t42_eq (C:ak) (x0 x1 x2:Value) (h:af):bk Try.prog C Try.f42 [x0,x1,x2] h=t42 C x0 x1 x2 h:=
 (aN Try.prog C Try.f42 [x0,x1,x2] h (by kernel_rfl)).trans (by kernel_rfl)
noncomputable def k44_4 (C:ak) (e:Env) (h:af):Out:=cF Try.prog C (partOf Try.f44 [1,1,1]) e h (al Try.prog Try.f44.results.toList) (al Try.prog Try.f44.results.toList) (fun _ _ _=>none)
noncomputable def b44_6 (C:ak) (i:Nat) (e:Env) (h:af):Out:=if i=0 then (k44_4 C) e h else (fun _ _ _=>none) i e h
noncomputable def t44 (C:ak) (x0 x1:Value) (h:af):Out:=
 ad (some ((.bool false),h)) fun y4 h=>
 ad (some (x0,h)) fun y6 h=>
 ad (pu (cK y6) h) fun y7 h=>
 ad (some (x1,h)) fun y8 h=>
 ad (pu (cK y8) h) fun y9 h=>
 ad (pu (bin Try.prog .neq 3 y7 y9) h) fun bH h=>
 (match bH with
 | .bool true=>
 ad (some ((.bool false),h)) fun y4_1 h=>
 some (y4_1,h)
 | .bool false=>
 ad (some ((.int .i64 0),h)) fun y5 h=>
 dI (iter (aL Try.prog C (partOf Try.f44 [1,1,0,1,0,0])) rounds (aZ 43 (up (bs [x0,x1]) [(4,y4),(5,y5),(6,y6),(7,y7),(8,y8),(9,y9),(10,bH)])) h) (al Try.prog Try.f44.results.toList) (b44_6 C)
 |_=>none)
noncomputable def t44k44_4 (_C:ak) (_x:Nat→Value) (h:af):Out:=
 ad (some ((.bool true),h)) fun y4 h=>
 some (y4,h)
noncomputable def t44l44_11010 (_C:ak) (x:Nat→Value) (h:af):Option (Ex×Env×af):=
 ad (some ((x 5),h)) fun bQ h=>
 ad (some ((x 0),h)) fun y12 h=>
 ad (pu (cK y12) h) fun y13 h=>
 ad (pu (bin Try.prog .lss 3 bQ y13) h) fun y14 h=>
 (match y14 with
 | .bool true=>
 ad (some ((x 0),h)) fun y17 h=>
 ad (some ((x 5),h)) fun y18 h=>
 ad (pu (bV 2 y17 y18) h) fun y19 h=>
 ad (pu (aI y19 0) h) fun y20 h=>
 ad (aV y20 h) fun y21 h=>
 ad (some ((x 1),h)) fun y22 h=>
 ad (some ((x 5),h)) fun y23 h=>
 ad (pu (bV 2 y22 y23) h) fun y24 h=>
 ad (pu (aI y24 0) h) fun y25 h=>
 ad (aV y25 h) fun y26 h=>
 ad (pu (bin Try.prog .neq 3 y21 y26) h) fun y27 h=>
 ad (some (y27,h)) fun y28 h=>
 ad (ah (aO y28==some false) (some ((x 0),h)) h) fun y29 h=>
 ad (ah (aO y28==some false) (some ((x 5),h)) h) fun y30 h=>
 ad (ah (aO y28==some false) (pu (bV 2 y29 y30) h) h) fun y31 h=>
 ad (ah (aO y28==some false) (pu (aI y31 1) h) h) fun y32 h=>
 ad (ah (aO y28==some false) (aV y32 h) h) fun y33 h=>
 ad (ah (aO y28==some false) (fB y33 h) h) fun y34 h=>
 ad (ah (aO y28==some false) (some ((x 1),h)) h) fun y35 h=>
 ad (ah (aO y28==some false) (some ((x 5),h)) h) fun y36 h=>
 ad (ah (aO y28==some false) (pu (bV 2 y35 y36) h) h) fun y37 h=>
 ad (ah (aO y28==some false) (pu (aI y37 1) h) h) fun y38 h=>
 ad (ah (aO y28==some false) (aV y38 h) h) fun y39 h=>
 ad (ah (aO y28==some false) (fB y39 h) h) fun y40 h=>
 ad (ah (aO y28==some false) (pu (bin Try.prog .neq 9 y34 y40) h) h) fun y41 h=>
 ad (match y28 with | .bool t=>some (if t then (.bool true) else y41,h)|_=>none) fun y42 h=>
 (match y42 with
 | .bool true=>
 ad (some ((.bool false),h)) fun y4 h=>
 some (.ret,(aZ 43 (up x [(4,y4),(11,bQ),(12,y12),(13,y13),(14,y14),(17,y17),(18,y18),(19,y19),(20,y20),(21,y21),(22,y22),(23,y23),(24,y24),(25,y25),(26,y26),(27,y27),(28,y28),(29,y29),(30,y30),(31,y31),(32,y32),(33,y33),(34,y34),(35,y35),(36,y36),(37,y37),(38,y38),(39,y39),(40,y40),(41,y41),(42,y42)])),h)
 | .bool false=>
 ad (some ((x 5),h)) fun y15 h=>
 ad (pu (bin Try.prog .add 3 y15 (.int .i64 1)) h) fun y16 h=>
 ad (some (y16,h)) fun y5 h=>
 some (.normal,(aZ 43 (up x [(5,y5),(11,bQ),(12,y12),(13,y13),(14,y14),(15,y15),(16,y16),(17,y17),(18,y18),(19,y19),(20,y20),(21,y21),(22,y22),(23,y23),(24,y24),(25,y25),(26,y26),(27,y27),(28,y28),(29,y29),(30,y30),(31,y31),(32,y32),(33,y33),(34,y34),(35,y35),(36,y36),(37,y37),(38,y38),(39,y39),(40,y40),(41,y41),(42,y42)])),h)
 |_=>none)
 | .bool false=>
 some (.exit 0,(aZ 43 (up x [(11,bQ),(12,y12),(13,y13),(14,y14)])),h)
 |_=>none)
theorem t44_eq (C:ak) (x0 x1:Value) (h:af):bk Try.prog C Try.f44 [x0,x1] h=t44 C x0 x1 h:=
 (aN Try.prog C Try.f44 [x0,x1] h (by kernel_rfl)).trans (by kernel_rfl)
theorem t44k44_4_eq (C:ak) (x:Nat→Value) (h:af):k44_4 C (aZ 43 x) h=t44k44_4 C x h:=
 bo (b:=(partOf Try.f44 [1,1,1])) (kE:=(al Try.prog Try.f44.results.toList)) (rE:=(al Try.prog Try.f44.results.toList)) (xE:=(fun _ _ _=>none)) (T:=t44k44_4 C) (fun x h=>by kernel_rfl) x h
theorem t44l44_11010_eq (C:ak) (x:Nat→Value) (h:af):aL Try.prog C (partOf Try.f44 [1,1,0,1,0,0]) (aZ 43 x) h=t44l44_11010 C x h:=
 bg (T:=t44l44_11010 C) (fun x h=>by kernel_rfl) x h
noncomputable def t45 (C:ak) (x0 x1:Value) (h:af):Out:=
 ad (box x0 h) fun y2 h=>
 ad (box x1 h) fun y3 h=>
 ad (some ((.bool false),h)) fun _y4 h=>
 ad (bD 6 y3 h) fun y5 h=>
 ad (pu (aI y2 1) h) fun y6 h=>
 ad (bD 8 y6 h) fun y7 h=>
 ad (C 68 [y5,y7] h) fun y8 h=>
 ad (pu (unA .not y8) h) fun y9 h=>
 (match y9 with
 | .bool true=>
 ad (pu (aI y2 0) h) fun bH h=>
 ad (aV bH h) fun bQ h=>
 ad (C 34 [bQ] h) fun y12 h=>
 ad (pu (bin Try.prog .eql 58 y12 (.int .u64 0)) h) fun y13 h=>
 ad (some (y13,h)) fun y14 h=>
 ad (ah (aO y14==some true) (pu (aI y2 0) h) h) fun y15 h=>
 ad (ah (aO y14==some true) (aV y15 h) h) fun y16 h=>
 ad (ah (aO y14==some true) (C 22 [y16] h) h) fun y17 h=>
 ad (ah (aO y14==some true) (pu (bin Try.prog .eql 3 y17 (.int .i64 0)) h) h) fun y18 h=>
 ad (match y14 with | .bool t=>some (if t then y18 else (.bool false),h)|_=>none) fun y19 h=>
 ad (some (y19,h)) fun y20 h=>
 ad (ah (aO y20==some true) (pu (aI y2 0) h) h) fun y21 h=>
 ad (ah (aO y20==some true) (aV y21 h) h) fun y22 h=>
 ad (ah (aO y20==some true) (C 26 [y22] h) h) fun y23 h=>
 ad (ah (aO y20==some true) (pu (bin Try.prog .eql 3 y23 (.int .i64 0)) h) h) fun y24 h=>
 ad (match y20 with | .bool t=>some (if t then y24 else (.bool false),h)|_=>none) fun y25 h=>
 ad (some (y25,h)) fun y26 h=>
 ad (ah (aO y26==some true) (pu (aI y2 0) h) h) fun y27 h=>
 ad (ah (aO y26==some true) (aV y27 h) h) fun y28 h=>
 ad (ah (aO y26==some true) (C 74 [y28] h) h) fun y29 h=>
 ad (ah (aO y26==some true) (pu (bin Try.prog .eql 3 y29 (.int .i64 0)) h) h) fun y30 h=>
 ad (match y26 with | .bool t=>some (if t then y30 else (.bool false),h)|_=>none) fun y31 h=>
 ad (some (y31,h)) fun y4_1 h=>
 some (y4_1,h)
 | .bool false=>
 let g5_0:=h
 ad (pu (aI y2 0) g5_0) fun y32 g5_1=>
 ad (aV y32 g5_1) fun y33 g5_2=>
 ad (C 34 [y33] g5_2) fun y34 g5_3=>
 ad (pu (aI y2 1) g5_3) fun y35 g5_4=>
 ad (pu (aI y35 2) g5_4) fun y36 g5_5=>
 ad (aV y36 g5_5) fun y37 g5_6=>
 ad (pu (bin Try.prog .eql 58 y34 y37) g5_6) fun y38 g5_7=>
 ad (some (y38,g5_7)) fun y39 g5_8=>
 ad (ah (aO y39==some true) (pu (aI y2 0) g5_8) g5_8) fun y40 g5_9=>
 ad (ah (aO y39==some true) (aV y40 g5_9) g5_9) fun y41 g5_10=>
 ad (ah (aO y39==some true) (C 22 [y41] g5_10) g5_10) fun y42 g5_11=>
 ad (ah (aO y39==some true) (bD 6 y3 g5_11) g5_11) fun y43 g5_12=>
 ad (ah (aO y39==some true) (C 46 [y43] g5_12) g5_12) fun y44 g5_13=>
 ad (ah (aO y39==some true) (pu (bin Try.prog .eql 3 y42 y44) g5_13) g5_13) fun y45 g5_14=>
 ad (match y39 with | .bool t=>some (if t then y45 else (.bool false),g5_14)|_=>none) fun y46 g5_15=>
 ad (some (y46,g5_15)) fun y47 g5_16=>
 ad (ah (aO y47==some true) (pu (aI y2 0) g5_16) g5_16) fun y48 g5_17=>
 ad (ah (aO y47==some true) (aV y48 g5_17) g5_17) fun y49 g5_18=>
 ad (ah (aO y47==some true) (C 26 [y49] g5_18) g5_18) fun y50 g5_19=>
 ad (ah (aO y47==some true) (bD 6 y3 g5_19) g5_19) fun y51 g5_20=>
 ad (ah (aO y47==some true) (pu (aI y2 1) g5_20) g5_20) fun y52 g5_21=>
 ad (ah (aO y47==some true) (bD 8 y52 g5_21) g5_21) fun y53 g5_22=>
 ad (ah (aO y47==some true) (C 73 [y51,y53] g5_22) g5_22) fun y54 g5_23=>
 ad (ah (aO y47==some true) (pu (bin Try.prog .eql 3 y50 y54) g5_23) g5_23) fun y55 g5_24=>
 ad (match y47 with | .bool t=>some (if t then y55 else (.bool false),g5_24)|_=>none) fun y56 g5_25=>
 ad (some (y56,g5_25)) fun y57 g5_26=>
 ad (ah (aO y57==some true) (pu (aI y2 0) g5_26) g5_26) fun y58 g5_27=>
 ad (ah (aO y57==some true) (aV y58 g5_27) g5_27) fun y59 g5_28=>
 ad (ah (aO y57==some true) (C 74 [y59] g5_28) g5_28) fun y60 g5_29=>
 ad (ah (aO y57==some true) (bD 6 y3 g5_29) g5_29) fun y61 g5_30=>
 ad (ah (aO y57==some true) (pu (aI y2 1) g5_30) g5_30) fun y62 g5_31=>
 ad (ah (aO y57==some true) (bD 8 y62 g5_31) g5_31) fun y63 g5_32=>
 ad (ah (aO y57==some true) (C 75 [y61,y63] g5_32) g5_32) fun y64 g5_33=>
 ad (ah (aO y57==some true) (pu (bin Try.prog .eql 3 y60 y64) g5_33) g5_33) fun y65 g5_34=>
 ad (match y57 with | .bool t=>some (if t then y65 else (.bool false),g5_34)|_=>none) fun y66 g5_35=>
 ad (some (y66,g5_35)) fun y4_1 g5_36=>
 (match (bU true (aV y36 g5_2) y37&&(bU (aO y39==some true) (bD 6 y3 g5_10) y43&&(bU (aO y47==some true) (bD 6 y3 g5_18) y51&&(bU (aO y47==some true) (bD 8 y52 g5_18) y53&&(bU (aO y57==some true) (bD 6 y3 g5_28) y61&&(bU (aO y57==some true) (bD 8 y62 g5_28) y63&&true)))))) with
 |true=>
 let h:=g5_36
 some (y4_1,h)
 |false=>none)
 |_=>none)
theorem t45_eq (C:ak) (x0 x1:Value) (h:af):bk Try.prog C Try.f45 [x0,x1] h=t45 C x0 x1 h:=
 (aN Try.prog C Try.f45 [x0,x1] h (by kernel_rfl)).trans (by kernel_rfl)
noncomputable def t46 (C:ak) (x0:Value) (h:af):Out:=
 ad (box x0 h) fun y1 h=>
 ad (some ((.int .i64 0),h)) fun _y2 h=>
 ad (bD 6 y1 h) fun y3 h=>
 ad (C 51 [y3] h) fun y4 h=>
 ad (pu (bin Try.prog .sub 3 y4 (.int .i64 2)) h) fun y5 h=>
 ad (pu (bin Try.prog .quo 3 y5 (.int .i64 2)) h) fun y6 h=>
 ad (some (y6,h)) fun y2_1 h=>
 some (y2_1,h)
theorem t46_eq (C:ak) (x0:Value) (h:af):bk Try.prog C Try.f46 [x0] h=t46 C x0 h:=
 (aN Try.prog C Try.f46 [x0] h (by kernel_rfl)).trans (by kernel_rfl)
noncomputable def t47 (C:ak) (x0 x1 x2:Value) (h:af):Out:=
 ad (box x0 h) fun y3 h=>
 ad (box x1 h) fun y4 h=>
 ad (some ((.slice none 0 0),h)) fun _y6 h=>
 ad (some ((.int .i64 0),h)) fun _y7 h=>
 ad (pu (aI y4 7) h) fun bQ h=>
 ad (aV bQ h) fun y12 h=>
 (match y12 with
 | .bool true=>
 ad (some ((.slice none 0 0),h)) fun y6_1 h=>
 ad (some ((.int .i64 1),h)) fun y7_1 h=>
 some (.tuple #[y6_1,y7_1],h)
 | .bool false=>
 ad (bD 6 y3 h) fun y13 h=>
 ad (bD 8 y4 h) fun y14 h=>
 ad (C 68 [y13,y14] h) fun y15 h=>
 ad (pu (unA .not y15) h) fun y16 h=>
 (match y16 with
 | .bool true=>
 ad (some ((.slice none 0 0),h)) fun y6_1 h=>
 ad (some ((.int .i64 9),h)) fun y7_1 h=>
 some (.tuple #[y6_1,y7_1],h)
 | .bool false=>
 ad (pu (aI y4 1) h) fun y17 h=>
 ad (aV y17 h) fun y18 h=>
 ad (pu (bin Try.prog .lss 3 y18 (.int .i64 0)) h) fun y19 h=>
 (match y19 with
 | .bool true=>
 ad (some ((.slice none 0 0),h)) fun y6_1 h=>
 ad (some ((.int .i64 6),h)) fun y7_1 h=>
 some (.tuple #[y6_1,y7_1],h)
 | .bool false=>
 ad (bD 6 y3 h) fun y21 h=>
 ad (pu (aI y4 3) h) fun y22 h=>
 ad (aV y22 h) fun y23 h=>
 ad (pu (aI y4 2) h) fun y24 h=>
 ad (aV y24 h) fun y25 h=>
 ad (some (x2,h)) fun y26 h=>
 ad (C 76 [y21,y23,y25,y26] h) fun y27 h=>
 ad (some (y27,h)) fun y20 h=>
 ad (pu (aA y20 0) h) fun y28 h=>
 ad (pu (aA y20 1) h) fun y29 h=>
 ad (pu (aA y20 2) h) fun y30 h=>
 ad (some (y28,h)) fun y8 h=>
 ad (some (y29,h)) fun _y9 h=>
 ad (some (y30,h)) fun bH h=>
 ad (some (bH,h)) fun y31 h=>
 ad (pu (unA .not y31) h) fun y32 h=>
 (match y32 with
 | .bool true=>
 ad (some ((.slice none 0 0),h)) fun y6_1 h=>
 ad (some ((.int .i64 6),h)) fun y7_1 h=>
 some (.tuple #[y6_1,y7_1],h)
 | .bool false=>
 ad (some (y8,h)) fun y33 h=>
 ad (some (y33,h)) fun y6_1 h=>
 ad (some ((.int .i64 0),h)) fun y7_1 h=>
 some (.tuple #[y6_1,y7_1],h)
 |_=>none)
 |_=>none)
 |_=>none)
 |_=>none)
theorem t47_eq (C:ak) (x0 x1 x2:Value) (h:af):bk Try.prog C Try.f47 [x0,x1,x2] h=t47 C x0 x1 x2 h:=
 (aN Try.prog C Try.f47 [x0,x1,x2] h (by kernel_rfl)).trans (by kernel_rfl)
noncomputable def t49 (C:ak) (x0 x1 x2:Value) (h:af):Out:=
 ad (box x1 h) fun y4 h=>
 ad (box x2 h) fun y5 h=>
 ad (dp [(.slice none 0 0),(.bool false),(.bool false),(.int .i64 0),(.int .i64 0),(.int .i64 0)] h) fun y6 h=>
 ad (some ((.bool false),h)) fun _y7 h=>
 ad (some ((.int .i64 0),h)) fun y8 h=>
 ad (some ((.int .i64 0),h)) fun y9 h=>
 ad (pu (aI y5 0) h) fun y14 h=>
 ad (aV y14 h) fun y15 h=>
 ad (pu (bin Try.prog .eql 3 y15 (.int .i64 1)) h) fun y17 h=>
 ad (some (y17,h)) fun y16 h=>
 (match y16 with
 | .bool true=>
 ad (some (x0,h)) fun y19 h=>
 ad (pu (aI y5 1) h) fun y20 h=>
 ad (aV y20 h) fun y21 h=>
 ad (C 20 [y19,y21] h) fun y22 h=>
 ad (some (y22,h)) fun y18 h=>
 ad (pu (aA y18 0) h) fun y23 h=>
 ad (pu (aA y18 1) h) fun y24 h=>
 ad (some (y23,h)) fun bH h=>
 ad (some (y24,h)) fun bQ h=>
 ad (bD 6 y4 h) fun y26 h=>
 ad (pu (aI y5 1) h) fun y27 h=>
 ad (aV y27 h) fun y28 h=>
 ad (C 77 [y26,y28] h) fun y29 h=>
 ad (some (y29,h)) fun y25 h=>
 ad (pu (aA y25 0) h) fun y30 h=>
 ad (pu (aA y25 1) h) fun y31 h=>
 ad (some (y30,h)) fun y12 h=>
 ad (some (y31,h)) fun y13 h=>
 let g9_0:=h
 ad (bD 6 y4 g9_0) fun y32 g9_1=>
 ad (some (bQ,g9_1)) fun y33 g9_2=>
 ad (some (y13,g9_2)) fun y34 g9_3=>
 ad (pu (bin Try.prog .eql 28 y33 y34) g9_3) fun y35 g9_4=>
 ad (some (y35,g9_4)) fun y36 g9_5=>
 ad (ah (aO y36==some true) (some (bH,g9_5)) g9_5) fun y37 g9_6=>
 ad (ah (aO y36==some true) (fB y37 g9_6) g9_6) fun y38 g9_7=>
 ad (ah (aO y36==some true) (some (y12,g9_7)) g9_7) fun y39 g9_8=>
 ad (ah (aO y36==some true) (fB y39 g9_8) g9_8) fun y40 g9_9=>
 ad (ah (aO y36==some true) (pu (bin Try.prog .eql 9 y38 y40) g9_9) g9_9) fun y41 g9_10=>
 ad (match y36 with | .bool t=>some (if t then y41 else (.bool false),g9_10)|_=>none) fun y42 g9_11=>
 ad (bK 6 y6 y32 g9_11) fun _ g9_12=>
 ad (some (y42,g9_12)) fun y7_1 g9_13=>
 (match (bU (aO y36==some true) (fB y37 g9_12) y38&&(bU (aO y36==some true) (fB y39 g9_12) y40&&true)) with
 |true=>
 let h:=g9_13
 al Try.prog Try.f49.results.toList (aZ 122 (up (bs [x0,x1,x2]) [(4,y4),(5,y5),(6,y6),(7,y7_1),(8,y8),(9,y9),(10,bH),(11,bQ),(12,y12),(13,y13),(14,y14),(15,y15),(16,y16),(17,y17),(18,y18),(19,y19),(20,y20),(21,y21),(22,y22),(23,y23),(24,y24),(25,y25),(26,y26),(27,y27),(28,y28),(29,y29),(30,y30),(31,y31),(32,y32),(33,y33),(34,y34),(35,y35),(36,y36),(37,y37),(38,y38),(39,y39),(40,y40),(41,y41),(42,y42)])) h
 |false=>none)
 | .bool false=>
 ad (pu (bin Try.prog .eql 3 y15 (.int .i64 2)) h) fun y44 h=>
 ad (some (y44,h)) fun y43 h=>
 (match y43 with
 | .bool true=>
 let g12_0:=h
 ad (some (x0,g12_0)) fun y45 g12_1=>
 ad (pu (aI y5 1) g12_1) fun y46 g12_2=>
 ad (aV y46 g12_2) fun y47 g12_3=>
 ad (pu (aI y5 4) g12_3) fun y49 g12_4=>
 ad (aV y49 g12_4) fun y50 g12_5=>
 ad (dY 1 (.int .u8 0) 0 [] g12_5) fun y48 g12_6=>
 ad (bt 1 1 y48 y50 g12_6) fun y51 g12_7=>
 ad (C 19 [y45,y47,y51] g12_7) fun y52 g12_8=>
 ad (some (y52,g12_8)) fun y8_1 g12_9=>
 (match (bU true (aV y46 g12_7) y47&&true) with
 |true=>
 let h:=g12_9
 ad (bD 6 y4 h) fun y54 h=>
 ad (pu (aI y5 1) h) fun y55 h=>
 ad (aV y55 h) fun y56 h=>
 ad (pu (aI y5 4) h) fun y57 h=>
 ad (aV y57 h) fun y58 h=>
 ad (C 70 [y54,y56,y58] h) fun y59 h=>
 ad (some (y59,h)) fun y53 h=>
 ad (pu (aA y53 0) h) fun y60 h=>
 ad (pu (aA y53 1) h) fun y61 h=>
 ad (bK 6 y4 y60 h) fun _ h=>
 ad (some (y61,h)) fun y9_1 h=>
 ad (bD 6 y4 h) fun y118 h=>
 ad (some (y8_1,h)) fun y119 h=>
 ad (some (y9_1,h)) fun y120 h=>
 ad (pu (bin Try.prog .eql 28 y119 y120) h) fun y121 h=>
 ad (bK 6 y6 y118 h) fun _ h=>
 ad (some (y121,h)) fun y7_1 h=>
 al Try.prog Try.f49.results.toList (aZ 122 (up (bs [x0,x1,x2]) [(4,y4),(5,y5),(6,y6),(7,y7_1),(8,y8_1),(9,y9_1),(14,y14),(15,y15),(16,y16),(17,y17),(43,y43),(44,y44),(45,y45),(46,y46),(47,y47),(48,y48),(49,y49),(50,y50),(51,y51),(52,y52),(53,y53),(54,y54),(55,y55),(56,y56),(57,y57),(58,y58),(59,y59),(60,y60),(61,y61),(118,y118),(119,y119),(120,y120),(121,y121)])) h
 |false=>none)
 | .bool false=>
 ad (pu (bin Try.prog .eql 3 y15 (.int .i64 3)) h) fun y63 h=>
 ad (some (y63,h)) fun y62 h=>
 (match y62 with
 | .bool true=>
 ad (some (x0,h)) fun y64 h=>
 ad (pu (aI y5 1) h) fun y65 h=>
 ad (aV y65 h) fun y66 h=>
 ad (pu (aI y5 2) h) fun y67 h=>
 ad (aV y67 h) fun y68 h=>
 ad (C 48 [y64,y66,y68] h) fun y69 h=>
 ad (some (y69,h)) fun y8_1 h=>
 ad (bD 6 y4 h) fun y71 h=>
 ad (pu (aI y5 1) h) fun y72 h=>
 ad (aV y72 h) fun y73 h=>
 ad (pu (aI y5 2) h) fun y74 h=>
 ad (aV y74 h) fun y75 h=>
 ad (C 78 [y71,y73,y75] h) fun y76 h=>
 ad (some (y76,h)) fun y70 h=>
 ad (pu (aA y70 0) h) fun y77 h=>
 ad (pu (aA y70 1) h) fun y78 h=>
 ad (bK 6 y4 y77 h) fun _ h=>
 ad (some (y78,h)) fun y9_1 h=>
 ad (bD 6 y4 h) fun y118 h=>
 ad (some (y8_1,h)) fun y119 h=>
 ad (some (y9_1,h)) fun y120 h=>
 ad (pu (bin Try.prog .eql 28 y119 y120) h) fun y121 h=>
 ad (bK 6 y6 y118 h) fun _ h=>
 ad (some (y121,h)) fun y7_1 h=>
 al Try.prog Try.f49.results.toList (aZ 122 (up (bs [x0,x1,x2]) [(4,y4),(5,y5),(6,y6),(7,y7_1),(8,y8_1),(9,y9_1),(14,y14),(15,y15),(16,y16),(17,y17),(43,y43),(44,y44),(62,y62),(63,y63),(64,y64),(65,y65),(66,y66),(67,y67),(68,y68),(69,y69),(70,y70),(71,y71),(72,y72),(73,y73),(74,y74),(75,y75),(76,y76),(77,y77),(78,y78),(118,y118),(119,y119),(120,y120),(121,y121)])) h
 | .bool false=>
 ad (pu (bin Try.prog .eql 3 y15 (.int .i64 4)) h) fun y80 h=>
 ad (some (y80,h)) fun y79 h=>
 (match y79 with
 | .bool true=>
 ad (some (x0,h)) fun y81 h=>
 ad (C 32 [y81] h) fun y82 h=>
 ad (bD 6 y4 h) fun y83 h=>
 ad (C 79 [y83] h) fun y84 h=>
 ad (bK 6 y4 y84 h) fun _ h=>
 ad (bD 6 y4 h) fun y118 h=>
 ad (some (y8,h)) fun y119 h=>
 ad (some (y9,h)) fun y120 h=>
 ad (pu (bin Try.prog .eql 28 y119 y120) h) fun y121 h=>
 ad (bK 6 y6 y118 h) fun _ h=>
 ad (some (y121,h)) fun y7_1 h=>
 al Try.prog Try.f49.results.toList (aZ 122 (up (bs [x0,x1,x2]) [(4,y4),(5,y5),(6,y6),(7,y7_1),(8,y8),(9,y9),(14,y14),(15,y15),(16,y16),(17,y17),(43,y43),(44,y44),(62,y62),(63,y63),(79,y79),(80,y80),(81,y81),(82,y82),(83,y83),(84,y84),(118,y118),(119,y119),(120,y120),(121,y121)])) h
 | .bool false=>
 ad (pu (bin Try.prog .eql 3 y15 (.int .i64 5)) h) fun y86 h=>
 ad (some (y86,h)) fun y85 h=>
 (match y85 with
 | .bool true=>
 ad (some (x0,h)) fun y87 h=>
 ad (C 33 [y87] h) fun y88 h=>
 ad (bD 6 y4 h) fun y89 h=>
 ad (C 80 [y89] h) fun y90 h=>
 ad (bK 6 y4 y90 h) fun _ h=>
 ad (bD 6 y4 h) fun y118 h=>
 ad (some (y8,h)) fun y119 h=>
 ad (some (y9,h)) fun y120 h=>
 ad (pu (bin Try.prog .eql 28 y119 y120) h) fun y121 h=>
 ad (bK 6 y6 y118 h) fun _ h=>
 ad (some (y121,h)) fun y7_1 h=>
 al Try.prog Try.f49.results.toList (aZ 122 (up (bs [x0,x1,x2]) [(4,y4),(5,y5),(6,y6),(7,y7_1),(8,y8),(9,y9),(14,y14),(15,y15),(16,y16),(17,y17),(43,y43),(44,y44),(62,y62),(63,y63),(79,y79),(80,y80),(85,y85),(86,y86),(87,y87),(88,y88),(89,y89),(90,y90),(118,y118),(119,y119),(120,y120),(121,y121)])) h
 | .bool false=>
 ad (pu (bin Try.prog .eql 3 y15 (.int .i64 6)) h) fun y92 h=>
 ad (some (y92,h)) fun y91 h=>
 (match y91 with
 | .bool true=>
 ad (some (x0,h)) fun y93 h=>
 ad (C 81 [y93] h) fun y94 h=>
 ad (some (y94,h)) fun y8_1 h=>
 ad (bD 6 y4 h) fun y95 h=>
 ad (C 82 [y95] h) fun y96 h=>
 ad (bK 6 y4 y96 h) fun _ h=>
 ad (bD 6 y4 h) fun y118 h=>
 ad (some (y8_1,h)) fun y119 h=>
 ad (some (y9,h)) fun y120 h=>
 ad (pu (bin Try.prog .eql 28 y119 y120) h) fun y121 h=>
 ad (bK 6 y6 y118 h) fun _ h=>
 ad (some (y121,h)) fun y7_1 h=>
 al Try.prog Try.f49.results.toList (aZ 122 (up (bs [x0,x1,x2]) [(4,y4),(5,y5),(6,y6),(7,y7_1),(8,y8_1),(9,y9),(14,y14),(15,y15),(16,y16),(17,y17),(43,y43),(44,y44),(62,y62),(63,y63),(79,y79),(80,y80),(85,y85),(86,y86),(91,y91),(92,y92),(93,y93),(94,y94),(95,y95),(96,y96),(118,y118),(119,y119),(120,y120),(121,y121)])) h
 | .bool false=>
 ad (pu (bin Try.prog .eql 3 y15 (.int .i64 7)) h) fun y98 h=>
 ad (some (y98,h)) fun y97 h=>
 (match y97 with
 | .bool true=>
 ad (some (x0,h)) fun y99 h=>
 ad (pu (aI y5 1) h) fun y100 h=>
 ad (aV y100 h) fun y101 h=>
 ad (pu (aI y5 2) h) fun y102 h=>
 ad (aV y102 h) fun y103 h=>
 ad (pu (aI y5 3) h) fun y104 h=>
 ad (aV y104 h) fun y105 h=>
 ad (C 31 [y99,y101,y103,y105] h) fun y106 h=>
 ad (some (y106,h)) fun y8_1 h=>
 ad (bD 6 y4 h) fun y108 h=>
 ad (pu (aI y5 1) h) fun y109 h=>
 ad (aV y109 h) fun y110 h=>
 ad (pu (aI y5 2) h) fun y111 h=>
 ad (aV y111 h) fun y112 h=>
 ad (pu (aI y5 3) h) fun y113 h=>
 ad (aV y113 h) fun y114 h=>
 ad (C 83 [y108,y110,y112,y114] h) fun y115 h=>
 ad (some (y115,h)) fun y107 h=>
 ad (pu (aA y107 0) h) fun y116 h=>
 ad (pu (aA y107 1) h) fun y117 h=>
 ad (bK 6 y4 y116 h) fun _ h=>
 ad (some (y117,h)) fun y9_1 h=>
 ad (bD 6 y4 h) fun y118 h=>
 ad (some (y8_1,h)) fun y119 h=>
 ad (some (y9_1,h)) fun y120 h=>
 ad (pu (bin Try.prog .eql 28 y119 y120) h) fun y121 h=>
 ad (bK 6 y6 y118 h) fun _ h=>
 ad (some (y121,h)) fun y7_1 h=>
 al Try.prog Try.f49.results.toList (aZ 122 (up (bs [x0,x1,x2]) [(4,y4),(5,y5),(6,y6),(7,y7_1),(8,y8_1),(9,y9_1),(14,y14),(15,y15),(16,y16),(17,y17),(43,y43),(44,y44),(62,y62),(63,y63),(79,y79),(80,y80),(85,y85),(86,y86),(91,y91),(92,y92),(97,y97),(98,y98),(99,y99),(100,y100),(101,y101),(102,y102),(103,y103),(104,y104),(105,y105),(106,y106),(107,y107),(108,y108),(109,y109),(110,y110),(111,y111),(112,y112),(113,y113),(114,y114),(115,y115),(116,y116),(117,y117),(118,y118),(119,y119),(120,y120),(121,y121)])) h
 | .bool false=>
 ad (bD 6 y4 h) fun y118 h=>
 ad (some (y8,h)) fun y119 h=>
 ad (some (y9,h)) fun y120 h=>
 ad (pu (bin Try.prog .eql 28 y119 y120) h) fun y121 h=>
 ad (bK 6 y6 y118 h) fun _ h=>
 ad (some (y121,h)) fun y7_1 h=>
 al Try.prog Try.f49.results.toList (aZ 122 (up (bs [x0,x1,x2]) [(4,y4),(5,y5),(6,y6),(7,y7_1),(8,y8),(9,y9),(14,y14),(15,y15),(16,y16),(17,y17),(43,y43),(44,y44),(62,y62),(63,y63),(79,y79),(80,y80),(85,y85),(86,y86),(91,y91),(92,y92),(97,y97),(98,y98),(118,y118),(119,y119),(120,y120),(121,y121)])) h
 |_=>none)
 |_=>none)
 |_=>none)
 |_=>none)
 |_=>none)
 |_=>none)
 |_=>none)
theorem t49_eq (C:ak) (x0 x1 x2:Value) (h:af):bk Try.prog C Try.f49 [x0,x1,x2] h=t49 C x0 x1 x2 h:=
 (aN Try.prog C Try.f49 [x0,x1,x2] h (by kernel_rfl)).trans (by kernel_rfl)
noncomputable def t51 (_C:ak) (x0:Value) (h:af):Out:=
 ad (box x0 h) fun y1 h=>
 ad (some ((.int .i64 0),h)) fun _y2 h=>
 ad (pu (aI y1 0) h) fun y3 h=>
 ad (aV y3 h) fun y4 h=>
 ad (pu (cK y4) h) fun y5 h=>
 ad (pu (bin Try.prog .quo 3 y5 (.int .i64 128)) h) fun y6 h=>
 ad (some (y6,h)) fun y2_1 h=>
 some (y2_1,h)
theorem t51_eq (C:ak) (x0:Value) (h:af):bk Try.prog C Try.f51 [x0] h=t51 C x0 h:=
 (aN Try.prog C Try.f51 [x0] h (by kernel_rfl)).trans (by kernel_rfl)
noncomputable def k52_4 (C:ak) (e:Env) (h:af):Out:=cF Try.prog C (partOf Try.f52 [1,1,1]) e h (al Try.prog Try.f52.results.toList) (al Try.prog Try.f52.results.toList) (fun _ _ _=>none)
noncomputable def b52_6 (C:ak) (i:Nat) (e:Env) (h:af):Out:=if i=0 then (k52_4 C) e h else (fun _ _ _=>none) i e h
noncomputable def t52 (C:ak) (x0 x1:Value) (h:af):Out:=
 ad (some ((.bool false),h)) fun y4 h=>
 ad (some (x0,h)) fun y6 h=>
 ad (pu (cK y6) h) fun y7 h=>
 ad (some (x1,h)) fun y8 h=>
 ad (pu (cK y8) h) fun y9 h=>
 ad (pu (bin Try.prog .neq 3 y7 y9) h) fun bH h=>
 (match bH with
 | .bool true=>
 ad (some ((.bool false),h)) fun y4_1 h=>
 some (y4_1,h)
 | .bool false=>
 ad (some ((.int .i64 0),h)) fun y5 h=>
 dI (iter (aL Try.prog C (partOf Try.f52 [1,1,0,1,0,0])) rounds (aZ 26 (up (bs [x0,x1]) [(4,y4),(5,y5),(6,y6),(7,y7),(8,y8),(9,y9),(10,bH)])) h) (al Try.prog Try.f52.results.toList) (b52_6 C)
 |_=>none)
noncomputable def t52k52_4 (_C:ak) (_x:Nat→Value) (h:af):Out:=
 ad (some ((.bool true),h)) fun y4 h=>
 some (y4,h)
noncomputable def t52l52_11010 (_C:ak) (x:Nat→Value) (h:af):Option (Ex×Env×af):=
 ad (some ((x 5),h)) fun bQ h=>
 ad (some ((x 0),h)) fun y12 h=>
 ad (pu (cK y12) h) fun y13 h=>
 ad (pu (bin Try.prog .lss 3 bQ y13) h) fun y14 h=>
 (match y14 with
 | .bool true=>
 ad (some ((x 0),h)) fun y17 h=>
 ad (some ((x 5),h)) fun y18 h=>
 ad (pu (bV 1 y17 y18) h) fun y19 h=>
 ad (aV y19 h) fun y20 h=>
 ad (some ((x 1),h)) fun y21 h=>
 ad (some ((x 5),h)) fun y22 h=>
 ad (pu (bV 1 y21 y22) h) fun y23 h=>
 ad (aV y23 h) fun y24 h=>
 ad (pu (bin Try.prog .neq 3 y20 y24) h) fun y25 h=>
 (match y25 with
 | .bool true=>
 ad (some ((.bool false),h)) fun y4 h=>
 some (.ret,(aZ 26 (up x [(4,y4),(11,bQ),(12,y12),(13,y13),(14,y14),(17,y17),(18,y18),(19,y19),(20,y20),(21,y21),(22,y22),(23,y23),(24,y24),(25,y25)])),h)
 | .bool false=>
 ad (some ((x 5),h)) fun y15 h=>
 ad (pu (bin Try.prog .add 3 y15 (.int .i64 1)) h) fun y16 h=>
 ad (some (y16,h)) fun y5 h=>
 some (.normal,(aZ 26 (up x [(5,y5),(11,bQ),(12,y12),(13,y13),(14,y14),(15,y15),(16,y16),(17,y17),(18,y18),(19,y19),(20,y20),(21,y21),(22,y22),(23,y23),(24,y24),(25,y25)])),h)
 |_=>none)
 | .bool false=>
 some (.exit 0,(aZ 26 (up x [(11,bQ),(12,y12),(13,y13),(14,y14)])),h)
 |_=>none)
theorem t52_eq (C:ak) (x0 x1:Value) (h:af):bk Try.prog C Try.f52 [x0,x1] h=t52 C x0 x1 h:=
 (aN Try.prog C Try.f52 [x0,x1] h (by kernel_rfl)).trans (by kernel_rfl)
theorem t52k52_4_eq (C:ak) (x:Nat→Value) (h:af):k52_4 C (aZ 26 x) h=t52k52_4 C x h:=
 bo (b:=(partOf Try.f52 [1,1,1])) (kE:=(al Try.prog Try.f52.results.toList)) (rE:=(al Try.prog Try.f52.results.toList)) (xE:=(fun _ _ _=>none)) (T:=t52k52_4 C) (fun x h=>by kernel_rfl) x h
theorem t52l52_11010_eq (C:ak) (x:Nat→Value) (h:af):aL Try.prog C (partOf Try.f52 [1,1,0,1,0,0]) (aZ 26 x) h=t52l52_11010 C x h:=
 bg (T:=t52l52_11010 C) (fun x h=>by kernel_rfl) x h
noncomputable def t65 (C:ak) (x0:Value) (h:af):Out:=
 ad (box x0 h) fun y1 h=>
 ad (some ((.int .i64 0),h)) fun _y2 h=>
 ad (dp [(.bool false),(.int .u64 0),(.int .i64 0)] h) fun y3 h=>
 let g2_0:=h
 ad (bD 6 y1 g2_0) fun y6 g2_1=>
 ad (C 96 [y6,(.int .i64 0)] g2_1) fun y7 g2_2=>
 ad (bD 6 y1 g2_2) fun y8 g2_3=>
 ad (C 96 [y8,(.int .i64 1)] g2_3) fun y9 g2_4=>
 ad (dp [(.bool false),(.int .u64 0),(.int .i64 0)] g2_4) fun y4 g2_5=>
 ad (dp [(.bool false),(.int .u64 0),(.int .i64 0)] g2_5) fun y5 g2_6=>
 ad (bK 3 y4 y7 g2_6) fun _ g2_7=>
 ad (bK 3 y5 y9 g2_7) fun _ g2_8=>
 (match (bU true (bD 6 y1 g2_1) y8&&true) with
 |true=>
 let h:=g2_8
 ad (pu (aI y5 0) h) fun bH h=>
 ad (aV bH h) fun bQ h=>
 ad (some (bQ,h)) fun y12 h=>
 ad (ah (aO y12==some true) (pu (aI y4 0) h) h) fun y13 h=>
 ad (ah (aO y12==some true) (aV y13 h) h) fun y14 h=>
 ad (ah (aO y12==some true) (pu (unA .not y14) h) h) fun y15 h=>
 ad (ah (aO y12==some true) (some (y15,h)) h) fun y16 h=>
 ad (ah (aO y16==some false) (pu (aI y5 1) h) h) fun y17 h=>
 ad (ah (aO y16==some false) (aV y17 h) h) fun y18 h=>
 ad (ah (aO y16==some false) (pu (aI y4 1) h) h) fun y19 h=>
 ad (ah (aO y16==some false) (aV y19 h) h) fun y20 h=>
 ad (ah (aO y16==some false) (pu (bin Try.prog .gtr 58 y18 y20) h) h) fun y21 h=>
 ad (ah (aO y12==some true) (match y16 with | .bool t=>some (if t then (.bool true) else y21,h)|_=>none) h) fun y22 h=>
 ad (match y12 with | .bool t=>some (if t then y22 else (.bool false),h)|_=>none) fun y23 h=>
 (match y23 with
 | .bool true=>
 ad (bD 3 y5 h) fun y24 h=>
 ad (some ((.int .i64 1),h)) fun y2_1 h=>
 ad (bK 3 y3 y24 h) fun _ h=>
 al Try.prog Try.f65.results.toList (aZ 29 (up (bs [x0]) [(1,y1),(2,y2_1),(3,y3),(4,y4),(5,y5),(6,y6),(7,y7),(8,y8),(9,y9),(10,bH),(11,bQ),(12,y12),(13,y13),(14,y14),(15,y15),(16,y16),(17,y17),(18,y18),(19,y19),(20,y20),(21,y21),(22,y22),(23,y23),(24,y24)])) h
 | .bool false=>
 ad (pu (aI y4 0) h) fun y25 h=>
 ad (aV y25 h) fun y26 h=>
 (match y26 with
 | .bool true=>
 ad (bD 3 y4 h) fun y27 h=>
 ad (some ((.int .i64 0),h)) fun y2_1 h=>
 ad (bK 3 y3 y27 h) fun _ h=>
 al Try.prog Try.f65.results.toList (aZ 29 (up (bs [x0]) [(1,y1),(2,y2_1),(3,y3),(4,y4),(5,y5),(6,y6),(7,y7),(8,y8),(9,y9),(10,bH),(11,bQ),(12,y12),(13,y13),(14,y14),(15,y15),(16,y16),(17,y17),(18,y18),(19,y19),(20,y20),(21,y21),(22,y22),(23,y23),(25,y25),(26,y26),(27,y27)])) h
 | .bool false=>
 ad (pu (ff [(.bool false),(.int .u64 0),(.int .i64 0)] []) h) fun y28 h=>
 ad (some ((.int .i64 (-1)),h)) fun y2_1 h=>
 ad (bK 3 y3 y28 h) fun _ h=>
 al Try.prog Try.f65.results.toList (aZ 29 (up (bs [x0]) [(1,y1),(2,y2_1),(3,y3),(4,y4),(5,y5),(6,y6),(7,y7),(8,y8),(9,y9),(10,bH),(11,bQ),(12,y12),(13,y13),(14,y14),(15,y15),(16,y16),(17,y17),(18,y18),(19,y19),(20,y20),(21,y21),(22,y22),(23,y23),(25,y25),(26,y26),(28,y28)])) h
 |_=>none)
 |_=>none)
 |false=>none)
theorem t65_eq (C:ak) (x0:Value) (h:af):bk Try.prog C Try.f65 [x0] h=t65 C x0 h:=
 (aN Try.prog C Try.f65 [x0] h (by kernel_rfl)).trans (by kernel_rfl)
noncomputable def k66_2 (C:ak) (e:Env) (h:af):Out:=cF Try.prog C (partOf Try.f66 [1,1,1]) e h (al Try.prog Try.f66.results.toList) (al Try.prog Try.f66.results.toList) (fun _ _ _=>none)
noncomputable def b66_4 (C:ak) (i:Nat) (e:Env) (h:af):Out:=if i=0 then (k66_2 C) e h else (fun _ _ _=>none) i e h
noncomputable def k66_8 (C:ak) (e:Env) (h:af):Option (Ex×Env×af):=cF Try.prog C (partOf Try.f66 [1,1,0,1,0,0,1,1]) e h (fun e h=>some (Ex.normal,e,h)) (fun e h=>some (Ex.ret,e,h)) (fun i e h=>some (Ex.exit i,e,h))
noncomputable def b66_9 (C:ak) (i:Nat) (e:Env) (h:af):Option (Ex×Env×af):=if i=1 then (k66_8 C) e h else (fun i e h=>some (Ex.exit i,e,h)) i e h
noncomputable def b66_14 (C:ak) (i:Nat) (e:Env) (h:af):Option (Ex×Env×af):=if i=2 then (k66_8 C) e h else (b66_9 C) i e h
noncomputable def t66 (C:ak) (x0:Value) (h:af):Out:=
 ad (box x0 h) fun y1 h=>
 ad (some ((.int .u64 0),h)) fun y2 h=>
 ad (some ((.int .u64 0),h)) fun y3 h=>
 ad (some ((.int .i64 0),h)) fun y4 h=>
 dI (iter (aL Try.prog C (partOf Try.f66 [1,1,0,1,0,0])) rounds (aZ 46 (up (bs [x0]) [(1,y1),(2,y2),(3,y3),(4,y4)])) h) (al Try.prog Try.f66.results.toList) (b66_4 C)
noncomputable def t66k66_2 (_C:ak) (x:Nat→Value) (h:af):Out:=
 ad (some ((x 3),h)) fun y45 h=>
 ad (some (y45,h)) fun y2 h=>
 some (y2,h)
noncomputable def t66l66_11010 (C:ak) (x:Nat→Value) (h:af):Option (Ex×Env×af):=
 ad (some ((x 4),h)) fun y8 h=>
 ad (pu (bin Try.prog .lss 3 y8 (.int .i64 2)) h) fun y9 h=>
 (match y9 with
 | .bool true=>
 ad (bD 6 (x 1) h) fun y12 h=>
 ad (some ((x 4),h)) fun y13 h=>
 ad (C 96 [y12,y13] h) fun y14 h=>
 ad (dp [(.bool false),(.int .u64 0),(.int .i64 0)] h) fun y5 h=>
 ad (bK 3 y5 y14 h) fun _ h=>
 ad (pu (aI y5 0) h) fun y15 h=>
 ad (aV y15 h) fun y16 h=>
 ad (some (y16,h)) fun y17 h=>
 ad (ah (aO y17==some true) (pu (aI y5 1) h) h) fun y18 h=>
 ad (ah (aO y17==some true) (aV y18 h) h) fun y19 h=>
 ad (ah (aO y17==some true) (some ((x 3),h)) h) fun y20 h=>
 ad (ah (aO y17==some true) (pu (bin Try.prog .gtr 58 y19 y20) h) h) fun y21 h=>
 ad (match y17 with | .bool t=>some (if t then y21 else (.bool false),h)|_=>none) fun y22 h=>
 (match y22 with
 | .bool true=>
 ad (pu (aI y5 1) h) fun y23 h=>
 ad (aV y23 h) fun y24 h=>
 ad (some (y24,h)) fun y3 h=>
 ad (some ((.int .i64 0),h)) fun y6 h=>
 dI (iter (aL Try.prog C (partOf Try.f66 [1,1,0,1,0,0,1,0,0,1,1,0,0])) rounds (aZ 46 (up x [(3,y3),(5,y5),(6,y6),(8,y8),(9,y9),(12,y12),(13,y13),(14,y14),(15,y15),(16,y16),(17,y17),(18,y18),(19,y19),(20,y20),(21,y21),(22,y22),(23,y23),(24,y24)])) h) (fun e h=>some (Ex.ret,e,h)) (b66_14 C)
 | .bool false=>
 ad (some ((.int .i64 0),h)) fun y6 h=>
 dI (iter (aL Try.prog C (partOf Try.f66 [1,1,0,1,0,0,1,0,0,1,1,0,0])) rounds (aZ 46 (up x [(5,y5),(6,y6),(8,y8),(9,y9),(12,y12),(13,y13),(14,y14),(15,y15),(16,y16),(17,y17),(18,y18),(19,y19),(20,y20),(21,y21),(22,y22)])) h) (fun e h=>some (Ex.ret,e,h)) (b66_14 C)
 |_=>none)
 | .bool false=>
 some (.exit 0,(aZ 46 (up x [(8,y8),(9,y9)])),h)
 |_=>none)
noncomputable def t66k66_8 (_C:ak) (x:Nat→Value) (h:af):Option (Ex×Env×af):=
 ad (some ((x 4),h)) fun bH h=>
 ad (pu (bin Try.prog .add 3 bH (.int .i64 1)) h) fun bQ h=>
 ad (some (bQ,h)) fun y4 h=>
 some (.normal,(aZ 46 (up x [(4,y4),(10,bH),(11,bQ)])),h)
noncomputable def fa (C:ak) (x:Nat→Value) (h:af):Option (Ex×Env×af):=
 ad (some ((x 6),h)) fun y25 h=>
 ad (bD 6 (x 1) h) fun y26 h=>
 ad (C 46 [y26] h) fun y27 h=>
 ad (pu (bin Try.prog .lss 3 y25 y27) h) fun y28 h=>
 (match y28 with
 | .bool true=>
 ad (bD 6 (x 1) h) fun y31 h=>
 ad (some ((x 4),h)) fun y32 h=>
 ad (some ((x 6),h)) fun y33 h=>
 ad (C 97 [y31,y32,y33] h) fun y34 h=>
 ad (dp [(.bool false),(.int .u64 0),(.int .i64 0),(.int .i64 0),(.slice none 0 0)] h) fun y7 h=>
 ad (bK 5 y7 y34 h) fun _ h=>
 ad (pu (aI y7 0) h) fun y35 h=>
 ad (aV y35 h) fun y36 h=>
 ad (some (y36,h)) fun y37 h=>
 ad (ah (aO y37==some true) (pu (aI y7 1) h) h) fun y38 h=>
 ad (ah (aO y37==some true) (aV y38 h) h) fun y39 h=>
 ad (ah (aO y37==some true) (some ((x 3),h)) h) fun y40 h=>
 ad (ah (aO y37==some true) (pu (bin Try.prog .gtr 58 y39 y40) h) h) fun y41 h=>
 ad (match y37 with | .bool t=>some (if t then y41 else (.bool false),h)|_=>none) fun y42 h=>
 (match y42 with
 | .bool true=>
 ad (pu (aI y7 1) h) fun y43 h=>
 ad (aV y43 h) fun y44 h=>
 ad (some (y44,h)) fun y3 h=>
 ad (some ((x 6),h)) fun y29 h=>
 ad (pu (bin Try.prog .add 3 y29 (.int .i64 1)) h) fun y30 h=>
 ad (some (y30,h)) fun y6 h=>
 some (.normal,(aZ 46 (up x [(3,y3),(6,y6),(7,y7),(25,y25),(26,y26),(27,y27),(28,y28),(29,y29),(30,y30),(31,y31),(32,y32),(33,y33),(34,y34),(35,y35),(36,y36),(37,y37),(38,y38),(39,y39),(40,y40),(41,y41),(42,y42),(43,y43),(44,y44)])),h)
 | .bool false=>
 ad (some ((x 6),h)) fun y29 h=>
 ad (pu (bin Try.prog .add 3 y29 (.int .i64 1)) h) fun y30 h=>
 ad (some (y30,h)) fun y6 h=>
 some (.normal,(aZ 46 (up x [(6,y6),(7,y7),(25,y25),(26,y26),(27,y27),(28,y28),(29,y29),(30,y30),(31,y31),(32,y32),(33,y33),(34,y34),(35,y35),(36,y36),(37,y37),(38,y38),(39,y39),(40,y40),(41,y41),(42,y42)])),h)
 |_=>none)
 | .bool false=>
 some (.exit 2,(aZ 46 (up x [(25,y25),(26,y26),(27,y27),(28,y28)])),h)
 |_=>none)
theorem t66_eq (C:ak) (x0:Value) (h:af):bk Try.prog C Try.f66 [x0] h=t66 C x0 h:=
 (aN Try.prog C Try.f66 [x0] h (by kernel_rfl)).trans (by kernel_rfl)
theorem t66k66_2_eq (C:ak) (x:Nat→Value) (h:af):k66_2 C (aZ 46 x) h=t66k66_2 C x h:=
 bo (b:=(partOf Try.f66 [1,1,1])) (kE:=(al Try.prog Try.f66.results.toList)) (rE:=(al Try.prog Try.f66.results.toList)) (xE:=(fun _ _ _=>none)) (T:=t66k66_2 C) (fun x h=>by kernel_rfl) x h
theorem t66l66_11010_eq (C:ak) (x:Nat→Value) (h:af):aL Try.prog C (partOf Try.f66 [1,1,0,1,0,0]) (aZ 46 x) h=t66l66_11010 C x h:=
 bg (T:=t66l66_11010 C) (fun x h=>by kernel_rfl) x h
theorem t66k66_8_eq (C:ak) (x:Nat→Value) (h:af):k66_8 C (aZ 46 x) h=t66k66_8 C x h:=
 bo (b:=(partOf Try.f66 [1,1,0,1,0,0,1,1])) (kE:=(fun e h=>some (Ex.normal,e,h))) (rE:=(fun e h=>some (Ex.ret,e,h))) (xE:=(fun i e h=>some (Ex.exit i,e,h))) (T:=t66k66_8 C) (fun x h=>by kernel_rfl) x h
theorem t66l66_110100100110_eq (C:ak) (x:Nat→Value) (h:af):aL Try.prog C (partOf Try.f66 [1,1,0,1,0,0,1,0,0,1,1,0,0]) (aZ 46 x) h=fa C x h:=
 bg (T:=fa C) (fun x h=>by kernel_rfl) x h
noncomputable def k67_6 (C:ak) (e:Env) (h:af):Out:=cF Try.prog C (partOf Try.f67 [1,1,1,1,1]) e h (al Try.prog Try.f67.results.toList) (al Try.prog Try.f67.results.toList) (fun _ _ _=>none)
noncomputable def b67_8 (C:ak) (i:Nat) (e:Env) (h:af):Out:=if i=0 then (k67_6 C) e h else (fun _ _ _=>none) i e h
noncomputable def t67 (C:ak) (x0:Value) (h:af):Out:=
 ad (box x0 h) fun y1 h=>
 ad (some ((.slice none 0 0),h)) fun y2 h=>
 ad (bD 6 y1 h) fun bQ h=>
 ad (C 65 [bQ] h) fun y12 h=>
 ad (some (y12,h)) fun bH h=>
 ad (pu (aA bH 0) h) fun y13 h=>
 ad (pu (aA bH 1) h) fun y14 h=>
 ad (dp [(.bool false),(.int .u64 0),(.int .i64 0)] h) fun y4 h=>
 ad (some (y13,h)) fun y3 h=>
 ad (bK 3 y4 y14 h) fun _ h=>
 ad (dY 2 (.agg #[(.int .i64 0),(.slice none 0 0)]) 0 [] h) fun y15 h=>
 ad (some (y15,h)) fun y5 h=>
 ad (some (y3,h)) fun y16 h=>
 ad (pu (bin Try.prog .lss 3 y16 (.int .i64 0)) h) fun y17 h=>
 (match y17 with
 | .bool true=>
 ad (some (y5,h)) fun y18 h=>
 ad (some (y18,h)) fun y2_1 h=>
 some (y2_1,h)
 | .bool false=>
 ad (some ((.int .i64 0),h)) fun y6 h=>
 dI (iter (aL Try.prog C (partOf Try.f67 [1,1,1,1,0,1,0,0])) rounds (aZ 48 (up (bs [x0]) [(1,y1),(2,y2),(3,y3),(4,y4),(5,y5),(6,y6),(10,bH),(11,bQ),(12,y12),(13,y13),(14,y14),(15,y15),(16,y16),(17,y17)])) h) (al Try.prog Try.f67.results.toList) (b67_8 C)
 |_=>none)
noncomputable def t67k67_6 (_C:ak) (x:Nat→Value) (h:af):Out:=
 ad (some ((x 5),h)) fun y47 h=>
 ad (some (y47,h)) fun y2 h=>
 some (y2,h)
noncomputable def iB (C:ak) (x:Nat→Value) (h:af):Option (Ex×Env×af):=
 ad (some ((x 6),h)) fun y19 h=>
 ad (bD 6 (x 1) h) fun y20 h=>
 ad (C 46 [y20] h) fun y21 h=>
 ad (pu (bin Try.prog .lss 3 y19 y21) h) fun y22 h=>
 (match y22 with
 | .bool true=>
 ad (bD 6 (x 1) h) fun y24 h=>
 ad (pu (aI (x 4) 2) h) fun y25 h=>
 ad (aV y25 h) fun y26 h=>
 ad (pu (aI (x 4) 1) h) fun y27 h=>
 ad (aV y27 h) fun y28 h=>
 ad (some ((x 6),h)) fun y29 h=>
 ad (C 76 [y24,y26,y28,y29] h) fun y30 h=>
 ad (some (y30,h)) fun y23 h=>
 ad (pu (aA y23 0) h) fun y31 h=>
 ad (pu (aA y23 1) h) fun y32 h=>
 ad (pu (aA y23 2) h) fun y33 h=>
 ad (some (y31,h)) fun y7 h=>
 ad (some (y32,h)) fun y8 h=>
 ad (some (y33,h)) fun y9 h=>
 ad (some (y9,h)) fun y34 h=>
 ad (pu (unA .not y34) h) fun y35 h=>
 (match y35 with
 | .bool true=>
 ad (some ((x 6),h)) fun y36 h=>
 ad (pu (bin Try.prog .add 3 y36 (.int .i64 1)) h) fun y37 h=>
 ad (some (y37,h)) fun y6 h=>
 some (.normal,(aZ 48 (up x [(6,y6),(7,y7),(8,y8),(9,y9),(19,y19),(20,y20),(21,y21),(22,y22),(23,y23),(24,y24),(25,y25),(26,y26),(27,y27),(28,y28),(29,y29),(30,y30),(31,y31),(32,y32),(33,y33),(34,y34),(35,y35),(36,y36),(37,y37)])),h)
 | .bool false=>
 ad (some ((x 5),h)) fun y38 h=>
 ad (some ((x 6),h)) fun y39 h=>
 ad (some (y7,h)) fun y40 h=>
 ad (pu (ff [(.int .i64 0),(.slice none 0 0)] [(0,1,y39),(1,1,y40)]) h) fun y41 h=>
 ad (dY 2 (.agg #[(.int .i64 0),(.slice none 0 0)]) 1 [(0,y41)] h) fun y42 h=>
 ad (bt 2 32 y38 y42 h) fun y43 h=>
 ad (some (y43,h)) fun y5 h=>
 ad (some ((x 6),h)) fun y44 h=>
 ad (some (y8,h)) fun y45 h=>
 ad (pu (bin Try.prog .add 3 y44 y45) h) fun y46 h=>
 ad (some (y46,h)) fun y6 h=>
 some (.normal,(aZ 48 (up x [(5,y5),(6,y6),(7,y7),(8,y8),(9,y9),(19,y19),(20,y20),(21,y21),(22,y22),(23,y23),(24,y24),(25,y25),(26,y26),(27,y27),(28,y28),(29,y29),(30,y30),(31,y31),(32,y32),(33,y33),(34,y34),(35,y35),(38,y38),(39,y39),(40,y40),(41,y41),(42,y42),(43,y43),(44,y44),(45,y45),(46,y46)])),h)
 |_=>none)
 | .bool false=>
 some (.exit 0,(aZ 48 (up x [(19,y19),(20,y20),(21,y21),(22,y22)])),h)
 |_=>none)
theorem t67_eq (C:ak) (x0:Value) (h:af):bk Try.prog C Try.f67 [x0] h=t67 C x0 h:=
 (aN Try.prog C Try.f67 [x0] h (by kernel_rfl)).trans (by kernel_rfl)
theorem t67k67_6_eq (C:ak) (x:Nat→Value) (h:af):k67_6 C (aZ 48 x) h=t67k67_6 C x h:=
 bo (b:=(partOf Try.f67 [1,1,1,1,1])) (kE:=(al Try.prog Try.f67.results.toList)) (rE:=(al Try.prog Try.f67.results.toList)) (xE:=(fun _ _ _=>none)) (T:=t67k67_6 C) (fun x h=>by kernel_rfl) x h
theorem t67l67_1111010_eq (C:ak) (x:Nat→Value) (h:af):aL Try.prog C (partOf Try.f67 [1,1,1,1,0,1,0,0]) (aZ 48 x) h=iB C x h:=
 bg (T:=iB C) (fun x h=>by kernel_rfl) x h
noncomputable def t68 (_C:ak) (x0 x1:Value) (h:af):Out:=
 ad (box x0 h) fun y2 h=>
 ad (box x1 h) fun y3 h=>
 ad (some ((.bool false),h)) fun _y4 h=>
 ad (pu (aI y2 1) h) fun y5 h=>
 ad (aV y5 h) fun y6 h=>
 ad (pu (unA .not y6) h) fun y7 h=>
 ad (some (y7,h)) fun y8 h=>
 ad (ah (aO y8==some true) (pu (aI y3 7) h) h) fun y9 h=>
 ad (ah (aO y8==some true) (aV y9 h) h) fun bH h=>
 ad (ah (aO y8==some true) (pu (unA .not bH) h) h) fun bQ h=>
 ad (match y8 with | .bool t=>some (if t then bQ else (.bool false),h)|_=>none) fun y12 h=>
 ad (some (y12,h)) fun y13 h=>
 ad (ah (aO y13==some true) (pu (aI y2 5) h) h) fun y14 h=>
 ad (ah (aO y13==some true) (aV y14 h) h) fun y15 h=>
 ad (ah (aO y13==some true) (pu (aI y3 0) h) h) fun y16 h=>
 ad (ah (aO y13==some true) (aV y16 h) h) fun y17 h=>
 ad (ah (aO y13==some true) (pu (bin Try.prog .eql 3 y15 y17) h) h) fun y18 h=>
 ad (match y13 with | .bool t=>some (if t then y18 else (.bool false),h)|_=>none) fun y19 h=>
 ad (some (y19,h)) fun y4_1 h=>
 some (y4_1,h)
theorem t68_eq (C:ak) (x0 x1:Value) (h:af):bk Try.prog C Try.f68 [x0,x1] h=t68 C x0 x1 h:=
 (aN Try.prog C Try.f68 [x0,x1] h (by kernel_rfl)).trans (by kernel_rfl)
noncomputable def k69_2 (C:ak) (e:Env) (h:af):Out:=cF Try.prog C (partOf Try.f69 [1,1,1]) e h (al Try.prog Try.f69.results.toList) (al Try.prog Try.f69.results.toList) (fun _ _ _=>none)
noncomputable def b69_4 (C:ak) (i:Nat) (e:Env) (h:af):Out:=if i=0 then (k69_2 C) e h else (fun _ _ _=>none) i e h
noncomputable def t69 (C:ak) (x0 x1 x2 x3 x4:Value) (h:af):Out:=
 ad (box x0 h) fun y5 h=>
 ad (dp [(.slice none 0 0),(.bool false),(.bool false),(.int .i64 0),(.int .i64 0),(.int .i64 0)] h) fun bH h=>
 ad (some ((.int .i64 0),h)) fun bQ h=>
 ad (some (x4,h)) fun y16 h=>
 ad (pu (cK y16) h) fun y17 h=>
 ad (C 16 [y17] h) fun y18 h=>
 ad (some (y18,h)) fun y12 h=>
 ad (some ((.int .i64 0),h)) fun y13 h=>
 dI (iter (aL Try.prog C (partOf Try.f69 [1,1,0,1,0,0])) rounds (aZ 64 (up (bs [x0,x1,x2,x3,x4]) [(5,y5),(10,bH),(11,bQ),(12,y12),(13,y13),(16,y16),(17,y17),(18,y18)])) h) (al Try.prog Try.f69.results.toList) (b69_4 C)
noncomputable def t69k69_2 (_C:ak) (x:Nat→Value) (h:af):Out:=
 ad (bD 6 (x 5) h) fun y63 h=>
 ad (bK 6 (x 10) y63 h) fun _ h=>
 ad (some ((.int .i64 0),h)) fun bQ h=>
 al Try.prog Try.f69.results.toList (aZ 64 (up x [(11,bQ),(63,y63)])) h
noncomputable def t69l69_11010 (C:ak) (x:Nat→Value) (h:af):Option (Ex×Env×af):=
 ad (some ((x 13),h)) fun y19 h=>
 ad (some ((x 12),h)) fun y20 h=>
 ad (pu (bin Try.prog .lss 3 y19 y20) h) fun y21 h=>
 (match y21 with
 | .bool true=>
 ad (some ((x 13),h)) fun y24 h=>
 ad (pu (bin Try.prog .add 3 y24 (.int .i64 1)) h) fun y25 h=>
 ad (pu (bin Try.prog .mul 3 (.int .i64 106) y25) h) fun y26 h=>
 ad (some (y26,h)) fun y14 h=>
 ad (some (y14,h)) fun y27 h=>
 ad (some ((x 4),h)) fun y28 h=>
 ad (pu (cK y28) h) fun y29 h=>
 ad (pu (bin Try.prog .gtr 3 y27 y29) h) fun y30 h=>
 (match y30 with
 | .bool true=>
 ad (some ((x 4),h)) fun y31 h=>
 ad (pu (cK y31) h) fun y32 h=>
 ad (some (y32,h)) fun y14_1 h=>
 ad (some ((.int .i64 0),h)) fun _y15 h=>
 let g15_0:=h
 ad (bD 6 (x 5) g15_0) fun y34 g15_1=>
 ad (some ((x 1),g15_1)) fun y35 g15_2=>
 ad (bD 6 (x 5) g15_2) fun y36 g15_3=>
 ad (C 46 [y36] g15_3) fun y37 g15_4=>
 ad (pu (bin Try.prog .mul 3 y35 y37) g15_4) fun y38 g15_5=>
 ad (pu (bin Try.prog .add 3 (.int .i64 2) y38) g15_5) fun y39 g15_6=>
 ad (some ((x 3),g15_6)) fun y40 g15_7=>
 ad (pu (bin Try.prog .add 3 y39 y40) g15_7) fun y41 g15_8=>
 ad (some ((x 13),g15_8)) fun y42 g15_9=>
 ad (pu (bin Try.prog .add 3 y41 y42) g15_9) fun y43 g15_10=>
 ad (some ((x 2),g15_10)) fun y44 g15_11=>
 ad (some ((x 3),g15_11)) fun y45 g15_12=>
 ad (some ((x 13),g15_12)) fun y46 g15_13=>
 ad (pu (bin Try.prog .add 3 y45 y46) g15_13) fun y47 g15_14=>
 ad (some ((x 13),g15_14)) fun y48 g15_15=>
 ad (some ((x 12),g15_15)) fun y49 g15_16=>
 ad (some ((x 4),g15_16)) fun y50 g15_17=>
 ad (some ((x 13),g15_17)) fun y51 g15_18=>
 ad (pu (bin Try.prog .mul 3 (.int .i64 106) y51) g15_18) fun y52 g15_19=>
 ad (some (y14_1,g15_19)) fun y53 g15_20=>
 ad (pu (slR 1 y50 (some y52) (some y53) none) g15_20) fun y54 g15_21=>
 ad (C 98 [y44,y47,y48,y49,y54] g15_21) fun y55 g15_22=>
 ad (C 70 [y34,y43,y55] g15_22) fun y56 g15_23=>
 ad (some (y56,g15_23)) fun y33 g15_24=>
 ad (pu (aA y33 0) g15_24) fun y57 g15_25=>
 ad (pu (aA y33 1) g15_25) fun y58 g15_26=>
 ad (bK 6 (x 5) y57 g15_26) fun _ g15_27=>
 ad (some (y58,g15_27)) fun y15_1 g15_28=>
 (match (bU true (bD 6 (x 5) g15_4) y34&&(bU true (bD 6 (x 5) g15_22) y34&&true)) with
 |true=>
 let h:=g15_28
 ad (some (y15_1,h)) fun y59 h=>
 ad (pu (bin Try.prog .neq 28 y59 (.int .i64 0)) h) fun y60 h=>
 (match y60 with
 | .bool true=>
 ad (bD 6 (x 5) h) fun y61 h=>
 ad (some (y15_1,h)) fun y62 h=>
 ad (bK 6 (x 10) y61 h) fun _ h=>
 ad (some (y62,h)) fun bQ h=>
 some (.ret,(aZ 64 (up x [(11,bQ),(14,y14_1),(15,y15_1),(19,y19),(20,y20),(21,y21),(24,y24),(25,y25),(26,y26),(27,y27),(28,y28),(29,y29),(30,y30),(31,y31),(32,y32),(33,y33),(34,y34),(35,y35),(36,y36),(37,y37),(38,y38),(39,y39),(40,y40),(41,y41),(42,y42),(43,y43),(44,y44),(45,y45),(46,y46),(47,y47),(48,y48),(49,y49),(50,y50),(51,y51),(52,y52),(53,y53),(54,y54),(55,y55),(56,y56),(57,y57),(58,y58),(59,y59),(60,y60),(61,y61),(62,y62)])),h)
 | .bool false=>
 ad (some ((x 13),h)) fun y22 h=>
 ad (pu (bin Try.prog .add 3 y22 (.int .i64 1)) h) fun y23 h=>
 ad (some (y23,h)) fun y13 h=>
 some (.normal,(aZ 64 (up x [(13,y13),(14,y14_1),(15,y15_1),(19,y19),(20,y20),(21,y21),(22,y22),(23,y23),(24,y24),(25,y25),(26,y26),(27,y27),(28,y28),(29,y29),(30,y30),(31,y31),(32,y32),(33,y33),(34,y34),(35,y35),(36,y36),(37,y37),(38,y38),(39,y39),(40,y40),(41,y41),(42,y42),(43,y43),(44,y44),(45,y45),(46,y46),(47,y47),(48,y48),(49,y49),(50,y50),(51,y51),(52,y52),(53,y53),(54,y54),(55,y55),(56,y56),(57,y57),(58,y58),(59,y59),(60,y60)])),h)
 |_=>none)
 |false=>none)
 | .bool false=>
 ad (some ((.int .i64 0),h)) fun _y15 h=>
 let g18_0:=h
 ad (bD 6 (x 5) g18_0) fun y34 g18_1=>
 ad (some ((x 1),g18_1)) fun y35 g18_2=>
 ad (bD 6 (x 5) g18_2) fun y36 g18_3=>
 ad (C 46 [y36] g18_3) fun y37 g18_4=>
 ad (pu (bin Try.prog .mul 3 y35 y37) g18_4) fun y38 g18_5=>
 ad (pu (bin Try.prog .add 3 (.int .i64 2) y38) g18_5) fun y39 g18_6=>
 ad (some ((x 3),g18_6)) fun y40 g18_7=>
 ad (pu (bin Try.prog .add 3 y39 y40) g18_7) fun y41 g18_8=>
 ad (some ((x 13),g18_8)) fun y42 g18_9=>
 ad (pu (bin Try.prog .add 3 y41 y42) g18_9) fun y43 g18_10=>
 ad (some ((x 2),g18_10)) fun y44 g18_11=>
 ad (some ((x 3),g18_11)) fun y45 g18_12=>
 ad (some ((x 13),g18_12)) fun y46 g18_13=>
 ad (pu (bin Try.prog .add 3 y45 y46) g18_13) fun y47 g18_14=>
 ad (some ((x 13),g18_14)) fun y48 g18_15=>
 ad (some ((x 12),g18_15)) fun y49 g18_16=>
 ad (some ((x 4),g18_16)) fun y50 g18_17=>
 ad (some ((x 13),g18_17)) fun y51 g18_18=>
 ad (pu (bin Try.prog .mul 3 (.int .i64 106) y51) g18_18) fun y52 g18_19=>
 ad (some (y14,g18_19)) fun y53 g18_20=>
 ad (pu (slR 1 y50 (some y52) (some y53) none) g18_20) fun y54 g18_21=>
 ad (C 98 [y44,y47,y48,y49,y54] g18_21) fun y55 g18_22=>
 ad (C 70 [y34,y43,y55] g18_22) fun y56 g18_23=>
 ad (some (y56,g18_23)) fun y33 g18_24=>
 ad (pu (aA y33 0) g18_24) fun y57 g18_25=>
 ad (pu (aA y33 1) g18_25) fun y58 g18_26=>
 ad (bK 6 (x 5) y57 g18_26) fun _ g18_27=>
 ad (some (y58,g18_27)) fun y15_1 g18_28=>
 (match (bU true (bD 6 (x 5) g18_4) y34&&(bU true (bD 6 (x 5) g18_22) y34&&true)) with
 |true=>
 let h:=g18_28
 ad (some (y15_1,h)) fun y59 h=>
 ad (pu (bin Try.prog .neq 28 y59 (.int .i64 0)) h) fun y60 h=>
 (match y60 with
 | .bool true=>
 ad (bD 6 (x 5) h) fun y61 h=>
 ad (some (y15_1,h)) fun y62 h=>
 ad (bK 6 (x 10) y61 h) fun _ h=>
 ad (some (y62,h)) fun bQ h=>
 some (.ret,(aZ 64 (up x [(11,bQ),(14,y14),(15,y15_1),(19,y19),(20,y20),(21,y21),(24,y24),(25,y25),(26,y26),(27,y27),(28,y28),(29,y29),(30,y30),(33,y33),(34,y34),(35,y35),(36,y36),(37,y37),(38,y38),(39,y39),(40,y40),(41,y41),(42,y42),(43,y43),(44,y44),(45,y45),(46,y46),(47,y47),(48,y48),(49,y49),(50,y50),(51,y51),(52,y52),(53,y53),(54,y54),(55,y55),(56,y56),(57,y57),(58,y58),(59,y59),(60,y60),(61,y61),(62,y62)])),h)
 | .bool false=>
 ad (some ((x 13),h)) fun y22 h=>
 ad (pu (bin Try.prog .add 3 y22 (.int .i64 1)) h) fun y23 h=>
 ad (some (y23,h)) fun y13 h=>
 some (.normal,(aZ 64 (up x [(13,y13),(14,y14),(15,y15_1),(19,y19),(20,y20),(21,y21),(22,y22),(23,y23),(24,y24),(25,y25),(26,y26),(27,y27),(28,y28),(29,y29),(30,y30),(33,y33),(34,y34),(35,y35),(36,y36),(37,y37),(38,y38),(39,y39),(40,y40),(41,y41),(42,y42),(43,y43),(44,y44),(45,y45),(46,y46),(47,y47),(48,y48),(49,y49),(50,y50),(51,y51),(52,y52),(53,y53),(54,y54),(55,y55),(56,y56),(57,y57),(58,y58),(59,y59),(60,y60)])),h)
 |_=>none)
 |false=>none)
 |_=>none)
 | .bool false=>
 some (.exit 0,(aZ 64 (up x [(19,y19),(20,y20),(21,y21)])),h)
 |_=>none)
theorem t69_eq (C:ak) (x0 x1 x2 x3 x4:Value) (h:af):bk Try.prog C Try.f69 [x0,x1,x2,x3,x4] h=t69 C x0 x1 x2 x3 x4 h:=
 (aN Try.prog C Try.f69 [x0,x1,x2,x3,x4] h (by kernel_rfl)).trans (by kernel_rfl)
theorem t69k69_2_eq (C:ak) (x:Nat→Value) (h:af):k69_2 C (aZ 64 x) h=t69k69_2 C x h:=
 bo (b:=(partOf Try.f69 [1,1,1])) (kE:=(al Try.prog Try.f69.results.toList)) (rE:=(al Try.prog Try.f69.results.toList)) (xE:=(fun _ _ _=>none)) (T:=t69k69_2 C) (fun x h=>by kernel_rfl) x h
theorem t69l69_11010_eq (C:ak) (x:Nat→Value) (h:af):aL Try.prog C (partOf Try.f69 [1,1,0,1,0,0]) (aZ 64 x) h=t69l69_11010 C x h:=
 bg (T:=t69l69_11010 C) (fun x h=>by kernel_rfl) x h
noncomputable def t70 (C:ak) (x0 x1 x2:Value) (h:af):Out:=
 ad (box x0 h) fun y3 h=>
 ad (dp [(.slice none 0 0),(.bool false),(.bool false),(.int .i64 0),(.int .i64 0),(.int .i64 0)] h) fun y6 h=>
 ad (some ((.int .i64 0),h)) fun _y7 h=>
 ad (pu (aI y3 1) h) fun y8 h=>
 ad (aV y8 h) fun y9 h=>
 (match y9 with
 | .bool true=>
 ad (bD 6 y3 h) fun bH h=>
 ad (bK 6 y6 bH h) fun _ h=>
 ad (some ((.int .i64 9),h)) fun y7_1 h=>
 al Try.prog Try.f70.results.toList (aZ 48 (up (bs [x0,x1,x2]) [(3,y3),(6,y6),(7,y7_1),(8,y8),(9,y9),(10,bH)])) h
 | .bool false=>
 ad (some (x1,h)) fun bQ h=>
 ad (pu (bin Try.prog .lss 3 bQ (.int .i64 0)) h) fun y12 h=>
 ad (some (y12,h)) fun y13 h=>
 ad (ah (aO y13==some false) (some (x1,h)) h) fun y14 h=>
 ad (ah (aO y13==some false) (bD 6 y3 h) h) fun y15 h=>
 ad (ah (aO y13==some false) (C 51 [y15] h) h) fun y16 h=>
 ad (ah (aO y13==some false) (pu (bin Try.prog .geq 3 y14 y16) h) h) fun y17 h=>
 ad (match y13 with | .bool t=>some (if t then (.bool true) else y17,h)|_=>none) fun y18 h=>
 (match y18 with
 | .bool true=>
 ad (bD 6 y3 h) fun y19 h=>
 ad (bK 6 y6 y19 h) fun _ h=>
 ad (some ((.int .i64 2),h)) fun y7_1 h=>
 al Try.prog Try.f70.results.toList (aZ 48 (up (bs [x0,x1,x2]) [(3,y3),(6,y6),(7,y7_1),(8,y8),(9,y9),(11,bQ),(12,y12),(13,y13),(14,y14),(15,y15),(16,y16),(17,y17),(18,y18),(19,y19)])) h
 | .bool false=>
 ad (some (x2,h)) fun y20 h=>
 ad (pu (cK y20) h) fun y21 h=>
 ad (pu (bin Try.prog .neq 3 y21 (.int .i64 128)) h) fun y22 h=>
 (match y22 with
 | .bool true=>
 ad (bD 6 y3 h) fun y23 h=>
 ad (bK 6 y6 y23 h) fun _ h=>
 ad (some ((.int .i64 10),h)) fun y7_1 h=>
 al Try.prog Try.f70.results.toList (aZ 48 (up (bs [x0,x1,x2]) [(3,y3),(6,y6),(7,y7_1),(8,y8),(9,y9),(11,bQ),(12,y12),(13,y13),(14,y14),(15,y15),(16,y16),(17,y17),(18,y18),(20,y20),(21,y21),(22,y22),(23,y23)])) h
 | .bool false=>
 ad (pu (aI y3 2) h) fun y24 h=>
 ad (aV y24 h) fun y25 h=>
 ad (some (y25,h)) fun y26 h=>
 ad (ah (aO y26==some true) (pu (aI y3 3) h) h) fun y27 h=>
 ad (ah (aO y26==some true) (aV y27 h) h) fun y28 h=>
 ad (ah (aO y26==some true) (pu (bin Try.prog .eql 3 y28 (.int .i64 0)) h) h) fun y29 h=>
 ad (match y26 with | .bool t=>some (if t then y29 else (.bool false),h)|_=>none) fun y30 h=>
 (match y30 with
 | .bool true=>
 ad (bD 6 y3 h) fun y31 h=>
 ad (some (x1,h)) fun y32 h=>
 ad (some (x2,h)) fun y33 h=>
 ad (pu (aI y3 4) h) fun y34 h=>
 ad (aV y34 h) fun y35 h=>
 ad (C 99 [y31,y32,y33,y35] h) fun y36 h=>
 ad (C 79 [y36] h) fun y37 h=>
 ad (bK 6 y6 y37 h) fun _ h=>
 ad (some ((.int .i64 9),h)) fun y7_1 h=>
 al Try.prog Try.f70.results.toList (aZ 48 (up (bs [x0,x1,x2]) [(3,y3),(6,y6),(7,y7_1),(8,y8),(9,y9),(11,bQ),(12,y12),(13,y13),(14,y14),(15,y15),(16,y16),(17,y17),(18,y18),(20,y20),(21,y21),(22,y22),(24,y24),(25,y25),(26,y26),(27,y27),(28,y28),(29,y29),(30,y30),(31,y31),(32,y32),(33,y33),(34,y34),(35,y35),(36,y36),(37,y37)])) h
 | .bool false=>
 ad (pu (aI y3 2) h) fun y38 h=>
 ad (aV y38 h) fun y39 h=>
 (match y39 with
 | .bool true=>
 ad (pu (aI y3 3) h) fun y40 h=>
 ad (aV y40 h) fun y41 h=>
 ad (pu (bin Try.prog .sub 3 y41 (.int .i64 1)) h) fun y42 h=>
 ad (pu (aI y3 3) h) fun y43 h=>
 ad (bK 1 y43 y42 h) fun _ h=>
 ad (bD 6 y3 h) fun y44 h=>
 ad (some (x1,h)) fun y45 h=>
 ad (some (x2,h)) fun y46 h=>
 ad (C 99 [y44,y45,y46,(.int .i64 128)] h) fun y47 h=>
 ad (bK 6 y6 y47 h) fun _ h=>
 ad (some ((.int .i64 0),h)) fun y7_1 h=>
 al Try.prog Try.f70.results.toList (aZ 48 (up (bs [x0,x1,x2]) [(3,y3),(6,y6),(7,y7_1),(8,y8),(9,y9),(11,bQ),(12,y12),(13,y13),(14,y14),(15,y15),(16,y16),(17,y17),(18,y18),(20,y20),(21,y21),(22,y22),(24,y24),(25,y25),(26,y26),(27,y27),(28,y28),(29,y29),(30,y30),(38,y38),(39,y39),(40,y40),(41,y41),(42,y42),(43,y43),(44,y44),(45,y45),(46,y46),(47,y47)])) h
 | .bool false=>
 ad (bD 6 y3 h) fun y44 h=>
 ad (some (x1,h)) fun y45 h=>
 ad (some (x2,h)) fun y46 h=>
 ad (C 99 [y44,y45,y46,(.int .i64 128)] h) fun y47 h=>
 ad (bK 6 y6 y47 h) fun _ h=>
 ad (some ((.int .i64 0),h)) fun y7_1 h=>
 al Try.prog Try.f70.results.toList (aZ 48 (up (bs [x0,x1,x2]) [(3,y3),(6,y6),(7,y7_1),(8,y8),(9,y9),(11,bQ),(12,y12),(13,y13),(14,y14),(15,y15),(16,y16),(17,y17),(18,y18),(20,y20),(21,y21),(22,y22),(24,y24),(25,y25),(26,y26),(27,y27),(28,y28),(29,y29),(30,y30),(38,y38),(39,y39),(44,y44),(45,y45),(46,y46),(47,y47)])) h
 |_=>none)
 |_=>none)
 |_=>none)
 |_=>none)
 |_=>none)
theorem t70_eq (C:ak) (x0 x1 x2:Value) (h:af):bk Try.prog C Try.f70 [x0,x1,x2] h=t70 C x0 x1 x2 h:=
 (aN Try.prog C Try.f70 [x0,x1,x2] h (by kernel_rfl)).trans (by kernel_rfl)
noncomputable def t71 (C:ak) (x0 x1:Value) (h:af):Out:=
 ad (some ((.slice none 0 0),h)) fun _y4 h=>
 ad (dY 1 (.int .u8 0) 4 [(0,(.int .u8 83)),(1,(.int .u8 84)),(2,(.int .u8 79)),(3,(.int .u8 76))] h) fun y6 h=>
 ad (some (x0,h)) fun y7 h=>
 ad (C 100 [y7,(.int .i64 8)] h) fun y8 h=>
 ad (bt 1 1 y6 y8 h) fun y9 h=>
 ad (some (y9,h)) fun y5 h=>
 ad (some (y5,h)) fun bH h=>
 ad (some (x1,h)) fun bQ h=>
 ad (cvI .u8 bQ h) fun y12 h=>
 ad (dY 1 (.int .u8 0) 1 [(0,y12)] h) fun y13 h=>
 ad (bt 1 1 bH y13 h) fun y14 h=>
 ad (C 101 [y14] h) fun y15 h=>
 ad (some (y15,h)) fun y4_1 h=>
 some (y4_1,h)
theorem t71_eq (C:ak) (x0 x1:Value) (h:af):bk Try.prog C Try.f71 [x0,x1] h=t71 C x0 x1 h:=
 (aN Try.prog C Try.f71 [x0,x1] h (by kernel_rfl)).trans (by kernel_rfl)
noncomputable def t72 (C:ak) (x0:Value) (h:af):Out:=
 ad (some ((.bool false),h)) fun _y2 h=>
 ad (some (x0,h)) fun y3 h=>
 ad (pu (slR 1 y3 none (some (.int .i64 4)) none) h) fun y4 h=>
 ad (C 102 [y4] h) fun y5 h=>
 ad (some (x0,h)) fun y6 h=>
 ad (pu (slR 1 y6 (some (.int .i64 4)) none none) h) fun y7 h=>
 ad (C 103 [y7] h) fun y8 h=>
 ad (cvI .u64 y8 h) fun y9 h=>
 ad (pu (bin Try.prog .eql 58 y5 y9) h) fun bH h=>
 ad (some (bH,h)) fun y2_1 h=>
 some (y2_1,h)
theorem t72_eq (C:ak) (x0:Value) (h:af):bk Try.prog C Try.f72 [x0] h=t72 C x0 h:=
 (aN Try.prog C Try.f72 [x0] h (by kernel_rfl)).trans (by kernel_rfl)
noncomputable def t73 (C:ak) (x0 x1:Value) (h:af):Out:=
 ad (box x0 h) fun y2 h=>
 ad (box x1 h) fun y3 h=>
 ad (some ((.int .i64 0),h)) fun _y4 h=>
 ad (bD 6 y2 h) fun y5 h=>
 ad (bD 8 y3 h) fun y6 h=>
 ad (C 68 [y5,y6] h) fun y7 h=>
 ad (pu (unA .not y7) h) fun y8 h=>
 ad (some (y8,h)) fun y9 h=>
 ad (ah (aO y9==some false) (pu (aI y3 5) h) h) fun bH h=>
 ad (ah (aO y9==some false) (aV bH h) h) fun bQ h=>
 ad (ah (aO y9==some false) (pu (unA .not bQ) h) h) fun y12 h=>
 ad (match y9 with | .bool t=>some (if t then (.bool true) else y12,h)|_=>none) fun y13 h=>
 (match y13 with
 | .bool true=>
 ad (some ((.int .i64 0),h)) fun y4_1 h=>
 some (y4_1,h)
 | .bool false=>
 let g5_0:=h
 ad (bD 6 y2 g5_0) fun y14 g5_1=>
 ad (C 46 [y14] g5_1) fun y15 g5_2=>
 ad (pu (aI y3 6) g5_2) fun y16 g5_3=>
 ad (aV y16 g5_3) fun y17 g5_4=>
 ad (pu (bin Try.prog .sub 3 y15 y17) g5_4) fun y18 g5_5=>
 ad (some (y18,g5_5)) fun y4_1 g5_6=>
 (match (bU true (aV y16 g5_1) y17&&true) with
 |true=>
 let h:=g5_6
 some (y4_1,h)
 |false=>none)
 |_=>none)
theorem t73_eq (C:ak) (x0 x1:Value) (h:af):bk Try.prog C Try.f73 [x0,x1] h=t73 C x0 x1 h:=
 (aN Try.prog C Try.f73 [x0,x1] h (by kernel_rfl)).trans (by kernel_rfl)
noncomputable def t75 (C:ak) (x0 x1:Value) (h:af):Out:=
 ad (box x0 h) fun y2 h=>
 ad (box x1 h) fun y3 h=>
 ad (some ((.int .i64 0),h)) fun _y4 h=>
 ad (bD 6 y2 h) fun y5 h=>
 ad (bD 8 y3 h) fun y6 h=>
 ad (C 68 [y5,y6] h) fun y7 h=>
 ad (pu (unA .not y7) h) fun y8 h=>
 ad (some (y8,h)) fun y9 h=>
 ad (ah (aO y9==some false) (pu (aI y3 1) h) h) fun bH h=>
 ad (ah (aO y9==some false) (aV bH h) h) fun bQ h=>
 ad (ah (aO y9==some false) (pu (bin Try.prog .lss 3 bQ (.int .i64 0)) h) h) fun y12 h=>
 ad (match y9 with | .bool t=>some (if t then (.bool true) else y12,h)|_=>none) fun y13 h=>
 (match y13 with
 | .bool true=>
 ad (some ((.int .i64 0),h)) fun y4_1 h=>
 some (y4_1,h)
 | .bool false=>
 let g5_0:=h
 ad (pu (aI y3 3) g5_0) fun y14 g5_1=>
 ad (aV y14 g5_1) fun y15 g5_2=>
 ad (bD 6 y2 g5_2) fun y16 g5_3=>
 ad (C 46 [y16] g5_3) fun y17 g5_4=>
 ad (pu (bin Try.prog .mul 3 y15 y17) g5_4) fun y18 g5_5=>
 ad (pu (bin Try.prog .add 3 (.int .i64 2) y18) g5_5) fun y19 g5_6=>
 ad (some (y19,g5_6)) fun y4_1 g5_7=>
 (match (bU true (aV y14 g5_4) y15&&true) with
 |true=>
 let h:=g5_7
 some (y4_1,h)
 |false=>none)
 |_=>none)
theorem t75_eq (C:ak) (x0 x1:Value) (h:af):bk Try.prog C Try.f75 [x0,x1] h=t75 C x0 x1 h:=
 (aN Try.prog C Try.f75 [x0,x1] h (by kernel_rfl)).trans (by kernel_rfl)
noncomputable def k76_10 (C:ak) (e:Env) (h:af):Out:=cF Try.prog C (partOf Try.f76 [1,1,1,1,1,1]) e h (al Try.prog Try.f76.results.toList) (al Try.prog Try.f76.results.toList) (fun _ _ _=>none)
noncomputable def b76_12 (C:ak) (i:Nat) (e:Env) (h:af):Out:=if i=0 then (k76_10 C) e h else (fun _ _ _=>none) i e h
noncomputable def t76 (C:ak) (x0 x1 x2 x3:Value) (h:af):Out:=
 ad (box x0 h) fun y4 h=>
 ad (some ((.slice none 0 0),h)) fun y8 h=>
 ad (some ((.int .i64 0),h)) fun y9 h=>
 ad (some ((.bool false),h)) fun bH h=>
 ad (some (x3,h)) fun y15 h=>
 ad (pu (bin Try.prog .lss 3 y15 (.int .i64 0)) h) fun y16 h=>
 ad (some (y16,h)) fun y17 h=>
 ad (ah (aO y17==some false) (some (x3,h)) h) fun y18 h=>
 ad (ah (aO y17==some false) (bD 6 y4 h) h) fun y19 h=>
 ad (ah (aO y17==some false) (C 46 [y19] h) h) fun y20 h=>
 ad (ah (aO y17==some false) (pu (bin Try.prog .geq 3 y18 y20) h) h) fun y21 h=>
 ad (match y17 with | .bool t=>some (if t then (.bool true) else y21,h)|_=>none) fun y22 h=>
 (match y22 with
 | .bool true=>
 ad (some ((.slice none 0 0),h)) fun y8_1 h=>
 ad (some ((.int .i64 0),h)) fun y9_1 h=>
 ad (some ((.bool false),h)) fun y10_1 h=>
 some (.tuple #[y8_1,y9_1,y10_1],h)
 | .bool false=>
 ad (bD 6 y4 h) fun y23 h=>
 ad (some (x1,h)) fun y24 h=>
 ad (some (x3,h)) fun y25 h=>
 ad (C 97 [y23,y24,y25] h) fun y26 h=>
 ad (dp [(.bool false),(.int .u64 0),(.int .i64 0),(.int .i64 0),(.slice none 0 0)] h) fun bQ h=>
 ad (bK 5 bQ y26 h) fun _ h=>
 let g7_0:=h
 ad (pu (aI bQ 0) g7_0) fun y27 g7_1=>
 ad (aV y27 g7_1) fun y28 g7_2=>
 ad (pu (unA .not y28) g7_2) fun y29 g7_3=>
 ad (some (y29,g7_3)) fun y30 g7_4=>
 ad (ah (aO y30==some false) (pu (aI bQ 1) g7_4) g7_4) fun y31 g7_5=>
 ad (ah (aO y30==some false) (aV y31 g7_5) g7_5) fun y32 g7_6=>
 ad (ah (aO y30==some false) (some (x2,g7_6)) g7_6) fun y33 g7_7=>
 ad (ah (aO y30==some false) (pu (bin Try.prog .neq 58 y32 y33) g7_7) g7_7) fun y34 g7_8=>
 ad (match y30 with | .bool t=>some (if t then (.bool true) else y34,g7_8)|_=>none) fun y35 g7_9=>
 ad (some (y35,g7_9)) fun y36 g7_10=>
 ad (ah (aO y36==some false) (pu (aI bQ 2) g7_10) g7_10) fun y37 g7_11=>
 ad (ah (aO y36==some false) (aV y37 g7_11) g7_11) fun y38 g7_12=>
 ad (ah (aO y36==some false) (pu (bin Try.prog .neq 3 y38 (.int .i64 0)) g7_12) g7_12) fun y39 g7_13=>
 ad (match y36 with | .bool t=>some (if t then (.bool true) else y39,g7_13)|_=>none) fun y40 g7_14=>
 ad (some (y40,g7_14)) fun y41 g7_15=>
 ad (ah (aO y41==some false) (pu (aI bQ 3) g7_15) g7_15) fun y42 g7_16=>
 ad (ah (aO y41==some false) (aV y42 g7_16) g7_16) fun y43 g7_17=>
 ad (ah (aO y41==some false) (bD 6 y4 g7_17) g7_17) fun y44 g7_18=>
 ad (ah (aO y41==some false) (C 46 [y44] g7_18) g7_18) fun y45 g7_19=>
 ad (ah (aO y41==some false) (some (x3,g7_19)) g7_19) fun y46 g7_20=>
 ad (ah (aO y41==some false) (pu (bin Try.prog .sub 3 y45 y46) g7_20) g7_20) fun y47 g7_21=>
 ad (ah (aO y41==some false) (pu (bin Try.prog .gtr 3 y43 y47) g7_21) g7_21) fun y48 g7_22=>
 ad (match y41 with | .bool t=>some (if t then (.bool true) else y48,g7_22)|_=>none) fun y49 g7_23=>
 (match (bU (aO y41==some false) (aV y42 g7_19) y43&&true) with
 |true=>
 let h:=g7_23
 (match y49 with
 | .bool true=>
 ad (some ((.slice none 0 0),h)) fun y8_1 h=>
 ad (some ((.int .i64 0),h)) fun y9_1 h=>
 ad (some ((.bool false),h)) fun y10_1 h=>
 some (.tuple #[y8_1,y9_1,y10_1],h)
 | .bool false=>
 ad (dY 1 (.int .u8 0) 0 [] h) fun y50 h=>
 ad (some (y50,h)) fun y12 h=>
 ad (some ((.int .i64 0),h)) fun y13 h=>
 dI (iter (aL Try.prog C (partOf Try.f76 [1,1,1,1,1,0,1,0,0])) rounds (aZ 92 (up (bs [x0,x1,x2,x3]) [(4,y4),(8,y8),(9,y9),(10,bH),(11,bQ),(12,y12),(13,y13),(15,y15),(16,y16),(17,y17),(18,y18),(19,y19),(20,y20),(21,y21),(22,y22),(23,y23),(24,y24),(25,y25),(26,y26),(27,y27),(28,y28),(29,y29),(30,y30),(31,y31),(32,y32),(33,y33),(34,y34),(35,y35),(36,y36),(37,y37),(38,y38),(39,y39),(40,y40),(41,y41),(42,y42),(43,y43),(44,y44),(45,y45),(46,y46),(47,y47),(48,y48),(49,y49),(50,y50)])) h) (al Try.prog Try.f76.results.toList) (b76_12 C)
 |_=>none)
 |false=>none)
 |_=>none)
noncomputable def t76k76_10 (_C:ak) (x:Nat→Value) (h:af):Out:=
 ad (some ((x 12),h)) fun y89 h=>
 ad (pu (aI (x 11) 3) h) fun y90 h=>
 ad (aV y90 h) fun y91 h=>
 ad (some (y89,h)) fun y8 h=>
 ad (some (y91,h)) fun y9 h=>
 ad (some ((.bool true),h)) fun bH h=>
 some (.tuple #[y8,y9,bH],h)
noncomputable def gS (C:ak) (x:Nat→Value) (h:af):Option (Ex×Env×af):=
 ad (some ((x 13),h)) fun y51 h=>
 ad (pu (aI (x 11) 3) h) fun y52 h=>
 ad (aV y52 h) fun y53 h=>
 ad (pu (bin Try.prog .lss 3 y51 y53) h) fun y54 h=>
 (match y54 with
 | .bool true=>
 ad (bD 6 (x 4) h) fun y57 h=>
 ad (some ((x 1),h)) fun y58 h=>
 ad (some ((x 3),h)) fun y59 h=>
 ad (some ((x 13),h)) fun y60 h=>
 ad (pu (bin Try.prog .add 3 y59 y60) h) fun y61 h=>
 ad (C 97 [y57,y58,y61] h) fun y62 h=>
 ad (dp [(.bool false),(.int .u64 0),(.int .i64 0),(.int .i64 0),(.slice none 0 0)] h) fun y14 h=>
 ad (bK 5 y14 y62 h) fun _ h=>
 ad (pu (aI y14 0) h) fun y63 h=>
 ad (aV y63 h) fun y64 h=>
 ad (pu (unA .not y64) h) fun y65 h=>
 ad (some (y65,h)) fun y66 h=>
 ad (ah (aO y66==some false) (pu (aI y14 1) h) h) fun y67 h=>
 ad (ah (aO y66==some false) (aV y67 h) h) fun y68 h=>
 ad (ah (aO y66==some false) (some ((x 2),h)) h) fun y69 h=>
 ad (ah (aO y66==some false) (pu (bin Try.prog .neq 58 y68 y69) h) h) fun y70 h=>
 ad (match y66 with | .bool t=>some (if t then (.bool true) else y70,h)|_=>none) fun y71 h=>
 ad (some (y71,h)) fun y72 h=>
 ad (ah (aO y72==some false) (pu (aI y14 2) h) h) fun y73 h=>
 ad (ah (aO y72==some false) (aV y73 h) h) fun y74 h=>
 ad (ah (aO y72==some false) (some ((x 13),h)) h) fun y75 h=>
 ad (ah (aO y72==some false) (pu (bin Try.prog .neq 3 y74 y75) h) h) fun y76 h=>
 ad (match y72 with | .bool t=>some (if t then (.bool true) else y76,h)|_=>none) fun y77 h=>
 ad (some (y77,h)) fun y78 h=>
 ad (ah (aO y78==some false) (pu (aI y14 3) h) h) fun y79 h=>
 ad (ah (aO y78==some false) (aV y79 h) h) fun y80 h=>
 ad (ah (aO y78==some false) (pu (aI (x 11) 3) h) h) fun y81 h=>
 ad (ah (aO y78==some false) (aV y81 h) h) fun y82 h=>
 ad (ah (aO y78==some false) (pu (bin Try.prog .neq 3 y80 y82) h) h) fun y83 h=>
 ad (match y78 with | .bool t=>some (if t then (.bool true) else y83,h)|_=>none) fun y84 h=>
 (match y84 with
 | .bool true=>
 ad (some ((.slice none 0 0),h)) fun y8 h=>
 ad (some ((.int .i64 0),h)) fun y9 h=>
 ad (some ((.bool false),h)) fun bH h=>
 some (.ret,(aZ 92 (up x [(8,y8),(9,y9),(10,bH),(14,y14),(51,y51),(52,y52),(53,y53),(54,y54),(57,y57),(58,y58),(59,y59),(60,y60),(61,y61),(62,y62),(63,y63),(64,y64),(65,y65),(66,y66),(67,y67),(68,y68),(69,y69),(70,y70),(71,y71),(72,y72),(73,y73),(74,y74),(75,y75),(76,y76),(77,y77),(78,y78),(79,y79),(80,y80),(81,y81),(82,y82),(83,y83),(84,y84)])),h)
 | .bool false=>
 ad (some ((x 12),h)) fun y85 h=>
 ad (pu (aI y14 4) h) fun y86 h=>
 ad (aV y86 h) fun y87 h=>
 ad (bt 1 1 y85 y87 h) fun y88 h=>
 ad (some (y88,h)) fun y12 h=>
 ad (some ((x 13),h)) fun y55 h=>
 ad (pu (bin Try.prog .add 3 y55 (.int .i64 1)) h) fun y56 h=>
 ad (some (y56,h)) fun y13 h=>
 some (.normal,(aZ 92 (up x [(12,y12),(13,y13),(14,y14),(51,y51),(52,y52),(53,y53),(54,y54),(55,y55),(56,y56),(57,y57),(58,y58),(59,y59),(60,y60),(61,y61),(62,y62),(63,y63),(64,y64),(65,y65),(66,y66),(67,y67),(68,y68),(69,y69),(70,y70),(71,y71),(72,y72),(73,y73),(74,y74),(75,y75),(76,y76),(77,y77),(78,y78),(79,y79),(80,y80),(81,y81),(82,y82),(83,y83),(84,y84),(85,y85),(86,y86),(87,y87),(88,y88)])),h)
 |_=>none)
 | .bool false=>
 some (.exit 0,(aZ 92 (up x [(51,y51),(52,y52),(53,y53),(54,y54)])),h)
 |_=>none)
theorem t76_eq (C:ak) (x0 x1 x2 x3:Value) (h:af):bk Try.prog C Try.f76 [x0,x1,x2,x3] h=t76 C x0 x1 x2 x3 h:=
 (aN Try.prog C Try.f76 [x0,x1,x2,x3] h (by kernel_rfl)).trans (by kernel_rfl)
theorem t76k76_10_eq (C:ak) (x:Nat→Value) (h:af):k76_10 C (aZ 92 x) h=t76k76_10 C x h:=
 bo (b:=(partOf Try.f76 [1,1,1,1,1,1])) (kE:=(al Try.prog Try.f76.results.toList)) (rE:=(al Try.prog Try.f76.results.toList)) (xE:=(fun _ _ _=>none)) (T:=t76k76_10 C) (fun x h=>by kernel_rfl) x h
theorem t76l76_11111010_eq (C:ak) (x:Nat→Value) (h:af):aL Try.prog C (partOf Try.f76 [1,1,1,1,1,0,1,0,0]) (aZ 92 x) h=gS C x h:=
 bg (T:=gS C) (fun x h=>by kernel_rfl) x h
noncomputable def t77 (C:ak) (x0 x1:Value) (h:af):Out:=
 ad (box x0 h) fun y2 h=>
 ad (some ((.slice none 0 0),h)) fun _y4 h=>
 ad (some ((.int .i64 0),h)) fun _y5 h=>
 ad (pu (aI y2 1) h) fun y6 h=>
 ad (aV y6 h) fun y7 h=>
 (match y7 with
 | .bool true=>
 ad (some ((.slice none 0 0),h)) fun y4_1 h=>
 ad (some ((.int .i64 9),h)) fun y5_1 h=>
 some (.tuple #[y4_1,y5_1],h)
 | .bool false=>
 ad (some (x1,h)) fun y8 h=>
 ad (pu (bin Try.prog .lss 3 y8 (.int .i64 0)) h) fun y9 h=>
 ad (some (y9,h)) fun bH h=>
 ad (ah (aO bH==some false) (some (x1,h)) h) fun bQ h=>
 ad (ah (aO bH==some false) (bD 6 y2 h) h) fun y12 h=>
 ad (ah (aO bH==some false) (C 51 [y12] h) h) fun y13 h=>
 ad (ah (aO bH==some false) (pu (bin Try.prog .geq 3 bQ y13) h) h) fun y14 h=>
 ad (match bH with | .bool t=>some (if t then (.bool true) else y14,h)|_=>none) fun y15 h=>
 (match y15 with
 | .bool true=>
 ad (some ((.slice none 0 0),h)) fun y4_1 h=>
 ad (some ((.int .i64 2),h)) fun y5_1 h=>
 some (.tuple #[y4_1,y5_1],h)
 | .bool false=>
 ad (bD 6 y2 h) fun y16 h=>
 ad (some (x1,h)) fun y17 h=>
 ad (C 104 [y16,y17] h) fun y18 h=>
 ad (some (y18,h)) fun y4_1 h=>
 ad (some ((.int .i64 0),h)) fun y5_1 h=>
 some (.tuple #[y4_1,y5_1],h)
 |_=>none)
 |_=>none)
theorem t77_eq (C:ak) (x0 x1:Value) (h:af):bk Try.prog C Try.f77 [x0,x1] h=t77 C x0 x1 h:=
 (aN Try.prog C Try.f77 [x0,x1] h (by kernel_rfl)).trans (by kernel_rfl)
noncomputable def t78 (_C:ak) (x0 x1 x2:Value) (h:af):Out:=
 ad (box x0 h) fun y3 h=>
 ad (dp [(.slice none 0 0),(.bool false),(.bool false),(.int .i64 0),(.int .i64 0),(.int .i64 0)] h) fun y6 h=>
 ad (some ((.int .i64 0),h)) fun _y7 h=>
 ad (pu (aI y3 1) h) fun y8 h=>
 ad (aV y8 h) fun y9 h=>
 (match y9 with
 | .bool true=>
 ad (bD 6 y3 h) fun bH h=>
 ad (bK 6 y6 bH h) fun _ h=>
 ad (some ((.int .i64 9),h)) fun y7_1 h=>
 al Try.prog Try.f78.results.toList (aZ 28 (up (bs [x0,x1,x2]) [(3,y3),(6,y6),(7,y7_1),(8,y8),(9,y9),(10,bH)])) h
 | .bool false=>
 ad (some (x1,h)) fun bQ h=>
 ad (pu (bin Try.prog .lss 3 bQ (.int .i64 0)) h) fun y12 h=>
 ad (some (y12,h)) fun y13 h=>
 ad (ah (aO y13==some false) (some (x2,h)) h) fun y14 h=>
 ad (ah (aO y13==some false) (pu (bin Try.prog .lss 3 y14 (.int .i64 0)) h) h) fun y15 h=>
 ad (match y13 with | .bool t=>some (if t then (.bool true) else y15,h)|_=>none) fun y16 h=>
 ad (some (y16,h)) fun y17 h=>
 ad (ah (aO y17==some false) (some (x2,h)) h) fun y18 h=>
 ad (ah (aO y17==some false) (pu (bin Try.prog .gtr 3 y18 (.int .i64 128)) h) h) fun y19 h=>
 ad (match y17 with | .bool t=>some (if t then (.bool true) else y19,h)|_=>none) fun y20 h=>
 (match y20 with
 | .bool true=>
 ad (bD 6 y3 h) fun y21 h=>
 ad (bK 6 y6 y21 h) fun _ h=>
 ad (some ((.int .i64 2),h)) fun y7_1 h=>
 al Try.prog Try.f78.results.toList (aZ 28 (up (bs [x0,x1,x2]) [(3,y3),(6,y6),(7,y7_1),(8,y8),(9,y9),(11,bQ),(12,y12),(13,y13),(14,y14),(15,y15),(16,y16),(17,y17),(18,y18),(19,y19),(20,y20),(21,y21)])) h
 | .bool false=>
 ad (some (x1,h)) fun y22 h=>
 ad (some (x2,h)) fun y23 h=>
 ad (pu (aI y3 2) h) fun y24 h=>
 ad (bK 1 y24 (.bool true) h) fun _ h=>
 ad (pu (aI y3 3) h) fun y25 h=>
 ad (bK 1 y25 y22 h) fun _ h=>
 ad (pu (aI y3 4) h) fun y26 h=>
 ad (bK 1 y26 y23 h) fun _ h=>
 ad (bD 6 y3 h) fun y27 h=>
 ad (bK 6 y6 y27 h) fun _ h=>
 ad (some ((.int .i64 0),h)) fun y7_1 h=>
 al Try.prog Try.f78.results.toList (aZ 28 (up (bs [x0,x1,x2]) [(3,y3),(6,y6),(7,y7_1),(8,y8),(9,y9),(11,bQ),(12,y12),(13,y13),(14,y14),(15,y15),(16,y16),(17,y17),(18,y18),(19,y19),(20,y20),(22,y22),(23,y23),(24,y24),(25,y25),(26,y26),(27,y27)])) h
 |_=>none)
 |_=>none)
theorem t78_eq (C:ak) (x0 x1 x2:Value) (h:af):bk Try.prog C Try.f78 [x0,x1,x2] h=t78 C x0 x1 x2 h:=
 (aN Try.prog C Try.f78 [x0,x1,x2] h (by kernel_rfl)).trans (by kernel_rfl)
noncomputable def t79 (_C:ak) (x0:Value) (h:af):Out:=
 ad (box x0 h) fun y1 h=>
 ad (dp [(.slice none 0 0),(.bool false),(.bool false),(.int .i64 0),(.int .i64 0),(.int .i64 0)] h) fun y2 h=>
 ad (pu (aI y1 1) h) fun y3 h=>
 ad (aV y3 h) fun y4 h=>
 ad (pu (unA .not y4) h) fun y5 h=>
 (match y5 with
 | .bool true=>
 ad (pu (aI y1 5) h) fun y6 h=>
 ad (aV y6 h) fun y7 h=>
 ad (pu (bin Try.prog .add 3 y7 (.int .i64 1)) h) fun y8 h=>
 ad (pu (aI y1 5) h) fun y9 h=>
 ad (bK 1 y9 y8 h) fun _ h=>
 ad (pu (aI y1 1) h) fun bH h=>
 ad (bK 1 bH (.bool true) h) fun _ h=>
 ad (pu (aI y1 2) h) fun bQ h=>
 ad (bK 1 bQ (.bool false) h) fun _ h=>
 ad (pu (aI y1 3) h) fun y12 h=>
 ad (bK 1 y12 (.int .i64 0) h) fun _ h=>
 ad (pu (aI y1 4) h) fun y13 h=>
 ad (bK 1 y13 (.int .i64 0) h) fun _ h=>
 ad (bD 6 y1 h) fun y14 h=>
 ad (bK 6 y2 y14 h) fun _ h=>
 al Try.prog Try.f79.results.toList (aZ 15 (up (bs [x0]) [(1,y1),(2,y2),(3,y3),(4,y4),(5,y5),(6,y6),(7,y7),(8,y8),(9,y9),(10,bH),(11,bQ),(12,y12),(13,y13),(14,y14)])) h
 | .bool false=>
 ad (pu (aI y1 1) h) fun bH h=>
 ad (bK 1 bH (.bool true) h) fun _ h=>
 ad (pu (aI y1 2) h) fun bQ h=>
 ad (bK 1 bQ (.bool false) h) fun _ h=>
 ad (pu (aI y1 3) h) fun y12 h=>
 ad (bK 1 y12 (.int .i64 0) h) fun _ h=>
 ad (pu (aI y1 4) h) fun y13 h=>
 ad (bK 1 y13 (.int .i64 0) h) fun _ h=>
 ad (bD 6 y1 h) fun y14 h=>
 ad (bK 6 y2 y14 h) fun _ h=>
 al Try.prog Try.f79.results.toList (aZ 15 (up (bs [x0]) [(1,y1),(2,y2),(3,y3),(4,y4),(5,y5),(10,bH),(11,bQ),(12,y12),(13,y13),(14,y14)])) h
 |_=>none)
theorem t79_eq (C:ak) (x0:Value) (h:af):bk Try.prog C Try.f79 [x0] h=t79 C x0 h:=
 (aN Try.prog C Try.f79 [x0] h (by kernel_rfl)).trans (by kernel_rfl)
noncomputable def t80 (_C:ak) (x0:Value) (h:af):Out:=
 ad (box x0 h) fun y1 h=>
 ad (dp [(.slice none 0 0),(.bool false),(.bool false),(.int .i64 0),(.int .i64 0),(.int .i64 0)] h) fun y2 h=>
 ad (pu (aI y1 1) h) fun y3 h=>
 ad (bK 1 y3 (.bool false) h) fun _ h=>
 ad (pu (aI y1 2) h) fun y4 h=>
 ad (bK 1 y4 (.bool false) h) fun _ h=>
 ad (pu (aI y1 3) h) fun y5 h=>
 ad (bK 1 y5 (.int .i64 0) h) fun _ h=>
 ad (pu (aI y1 4) h) fun y6 h=>
 ad (bK 1 y6 (.int .i64 0) h) fun _ h=>
 ad (bD 6 y1 h) fun y7 h=>
 ad (bK 6 y2 y7 h) fun _ h=>
 al Try.prog Try.f80.results.toList (aZ 8 (up (bs [x0]) [(1,y1),(2,y2),(3,y3),(4,y4),(5,y5),(6,y6),(7,y7)])) h
theorem t80_eq (C:ak) (x0:Value) (h:af):bk Try.prog C Try.f80 [x0] h=t80 C x0 h:=
 (aN Try.prog C Try.f80 [x0] h (by kernel_rfl)).trans (by kernel_rfl)
noncomputable def t82 (_C:ak) (x0:Value) (h:af):Out:=
 ad (box x0 h) fun y1 h=>
 ad (dp [(.slice none 0 0),(.bool false),(.bool false),(.int .i64 0),(.int .i64 0),(.int .i64 0)] h) fun y2 h=>
 ad (pu (aI y1 0) h) fun y3 h=>
 ad (aV y3 h) fun y4 h=>
 ad (pu (cK y4) h) fun y5 h=>
 ad (mkR 1 1 (.int .u8 0) y5 y5 h) fun y6 h=>
 ad (pu (aI y1 0) h) fun y7 h=>
 ad (bK 1 y7 y6 h) fun _ h=>
 ad (bD 6 y1 h) fun y8 h=>
 ad (bK 6 y2 y8 h) fun _ h=>
 al Try.prog Try.f82.results.toList (aZ 9 (up (bs [x0]) [(1,y1),(2,y2),(3,y3),(4,y4),(5,y5),(6,y6),(7,y7),(8,y8)])) h
theorem t82_eq (C:ak) (x0:Value) (h:af):bk Try.prog C Try.f82 [x0] h=t82 C x0 h:=
 (aN Try.prog C Try.f82 [x0] h (by kernel_rfl)).trans (by kernel_rfl)
noncomputable def t83 (C:ak) (x0 x1 x2 x3:Value) (h:af):Out:=
 ad (box x0 h) fun y4 h=>
 ad (dp [(.slice none 0 0),(.bool false),(.bool false),(.int .i64 0),(.int .i64 0),(.int .i64 0)] h) fun y8 h=>
 ad (some ((.int .i64 0),h)) fun _y9 h=>
 ad (some (x1,h)) fun bQ h=>
 ad (pu (bin Try.prog .lss 3 bQ (.int .i64 0)) h) fun y12 h=>
 ad (some (y12,h)) fun y13 h=>
 ad (ah (aO y13==some false) (some (x1,h)) h) fun y14 h=>
 ad (ah (aO y13==some false) (bD 6 y4 h) h) fun y15 h=>
 ad (ah (aO y13==some false) (C 51 [y15] h) h) fun y16 h=>
 ad (ah (aO y13==some false) (pu (bin Try.prog .geq 3 y14 y16) h) h) fun y17 h=>
 ad (match y13 with | .bool t=>some (if t then (.bool true) else y17,h)|_=>none) fun y18 h=>
 ad (some (y18,h)) fun y19 h=>
 ad (ah (aO y19==some false) (some (x2,h)) h) fun y20 h=>
 ad (ah (aO y19==some false) (pu (bin Try.prog .lss 3 y20 (.int .i64 0)) h) h) fun y21 h=>
 ad (match y19 with | .bool t=>some (if t then (.bool true) else y21,h)|_=>none) fun y22 h=>
 ad (some (y22,h)) fun y23 h=>
 ad (ah (aO y23==some false) (some (x2,h)) h) fun y24 h=>
 ad (ah (aO y23==some false) (pu (bin Try.prog .gtr 3 y24 (.int .i64 127)) h) h) fun y25 h=>
 ad (match y23 with | .bool t=>some (if t then (.bool true) else y25,h)|_=>none) fun y26 h=>
 (match y26 with
 | .bool true=>
 ad (bD 6 y4 h) fun y27 h=>
 ad (bK 6 y8 y27 h) fun _ h=>
 ad (some ((.int .i64 2),h)) fun y9_1 h=>
 al Try.prog Try.f83.results.toList (aZ 42 (up (bs [x0,x1,x2,x3]) [(4,y4),(8,y8),(9,y9_1),(11,bQ),(12,y12),(13,y13),(14,y14),(15,y15),(16,y16),(17,y17),(18,y18),(19,y19),(20,y20),(21,y21),(22,y22),(23,y23),(24,y24),(25,y25),(26,y26),(27,y27)])) h
 | .bool false=>
 ad (bD 6 y4 h) fun y28 h=>
 ad (some (x1,h)) fun y29 h=>
 ad (C 104 [y28,y29] h) fun y30 h=>
 ad (some (y30,h)) fun bH h=>
 ad (some (bH,h)) fun y31 h=>
 ad (some (x2,h)) fun y32 h=>
 ad (pu (bV 1 y31 y32) h) fun y33 h=>
 ad (aV y33 h) fun y34 h=>
 ad (some (x3,h)) fun y35 h=>
 ad (pu (bin Try.prog .xor 5 y34 y35) h) fun y36 h=>
 ad (pu (bV 1 y31 y32) h) fun y37 h=>
 ad (bK 1 y37 y36 h) fun _ h=>
 ad (bD 6 y4 h) fun y38 h=>
 ad (some (x1,h)) fun y39 h=>
 ad (some (bH,h)) fun y40 h=>
 ad (C 99 [y38,y39,y40,(.int .i64 128)] h) fun y41 h=>
 ad (bK 6 y8 y41 h) fun _ h=>
 ad (some ((.int .i64 0),h)) fun y9_1 h=>
 al Try.prog Try.f83.results.toList (aZ 42 (up (bs [x0,x1,x2,x3]) [(4,y4),(8,y8),(9,y9_1),(10,bH),(11,bQ),(12,y12),(13,y13),(14,y14),(15,y15),(16,y16),(17,y17),(18,y18),(19,y19),(20,y20),(21,y21),(22,y22),(23,y23),(24,y24),(25,y25),(26,y26),(28,y28),(29,y29),(30,y30),(31,y31),(32,y32),(33,y33),(34,y34),(35,y35),(36,y36),(37,y37),(38,y38),(39,y39),(40,y40),(41,y41)])) h
 |_=>none)
theorem t83_eq (C:ak) (x0 x1 x2 x3:Value) (h:af):bk Try.prog C Try.f83 [x0,x1,x2,x3] h=t83 C x0 x1 x2 x3 h:=
 (aN Try.prog C Try.f83 [x0,x1,x2,x3] h (by kernel_rfl)).trans (by kernel_rfl)
noncomputable def t96 (C:ak) (x0 x1:Value) (h:af):Out:=
 ad (box x0 h) fun y2 h=>
 ad (dp [(.bool false),(.int .u64 0),(.int .i64 0)] h) fun y4 h=>
 ad (bD 6 y2 h) fun y6 h=>
 ad (some (x1,h)) fun y7 h=>
 ad (C 104 [y6,y7] h) fun y8 h=>
 ad (some (y8,h)) fun y5 h=>
 ad (some (y5,h)) fun y9 h=>
 ad (C 72 [y9] h) fun bH h=>
 ad (pu (unA .not bH) h) fun bQ h=>
 ad (some (bQ,h)) fun y12 h=>
 ad (ah (aO y12==some false) (some (y5,h)) h) fun y13 h=>
 ad (ah (aO y12==some false) (pu (slR 1 y13 (some (.int .i64 4)) (some (.int .i64 8)) none) h) h) fun y14 h=>
 ad (ah (aO y12==some false) (fB y14 h) h) fun y15 h=>
 ad (ah (aO y12==some false) (pu (bin Try.prog .neq 9 y15 (.string ⟨#[83,84,79,76]⟩)) h) h) fun y16 h=>
 ad (match y12 with | .bool t=>some (if t then (.bool true) else y16,h)|_=>none) fun y17 h=>
 ad (some (y17,h)) fun y18 h=>
 ad (ah (aO y18==some false) (some (y5,h)) h) fun y19 h=>
 ad (ah (aO y18==some false) (pu (bV 1 y19 (.int .i64 16)) h) h) fun y20 h=>
 ad (ah (aO y18==some false) (aV y20 h) h) fun y21 h=>
 ad (ah (aO y18==some false) (pu (bin Try.prog .gtr 5 y21 (.int .u8 1)) h) h) fun y22 h=>
 ad (match y18 with | .bool t=>some (if t then (.bool true) else y22,h)|_=>none) fun y23 h=>
 (match y23 with
 | .bool true=>
 ad (pu (ff [(.bool false),(.int .u64 0),(.int .i64 0)] []) h) fun y24 h=>
 ad (bK 3 y4 y24 h) fun _ h=>
 al Try.prog Try.f96.results.toList (aZ 33 (up (bs [x0,x1]) [(2,y2),(4,y4),(5,y5),(6,y6),(7,y7),(8,y8),(9,y9),(10,bH),(11,bQ),(12,y12),(13,y13),(14,y14),(15,y15),(16,y16),(17,y17),(18,y18),(19,y19),(20,y20),(21,y21),(22,y22),(23,y23),(24,y24)])) h
 | .bool false=>
 let g6_0:=h
 ad (some (y5,g6_0)) fun y25 g6_1=>
 ad (pu (slR 1 y25 (some (.int .i64 8)) (some (.int .i64 16)) none) g6_1) fun y26 g6_2=>
 ad (C 102 [y26] g6_2) fun y27 g6_3=>
 ad (some (y5,g6_3)) fun y28 g6_4=>
 ad (pu (bV 1 y28 (.int .i64 16)) g6_4) fun y29 g6_5=>
 ad (aV y29 g6_5) fun y30 g6_6=>
 ad (cvI .i64 y30 g6_6) fun y31 g6_7=>
 ad (pu (ff [(.bool false),(.int .u64 0),(.int .i64 0)] [(0,1,(.bool true)),(1,1,y27),(2,1,y31)]) g6_7) fun y32 g6_8=>
 ad (bK 3 y4 y32 g6_8) fun _ g6_9=>
 (match (bU true (aV y29 g6_2) y30&&(bU true (cvI .i64 y30 g6_2) y31&&true)) with
 |true=>
 let h:=g6_9
 al Try.prog Try.f96.results.toList (aZ 33 (up (bs [x0,x1]) [(2,y2),(4,y4),(5,y5),(6,y6),(7,y7),(8,y8),(9,y9),(10,bH),(11,bQ),(12,y12),(13,y13),(14,y14),(15,y15),(16,y16),(17,y17),(18,y18),(19,y19),(20,y20),(21,y21),(22,y22),(23,y23),(25,y25),(26,y26),(27,y27),(28,y28),(29,y29),(30,y30),(31,y31),(32,y32)])) h
 |false=>none)
 |_=>none)
theorem t96_eq (C:ak) (x0 x1:Value) (h:af):bk Try.prog C Try.f96 [x0,x1] h=t96 C x0 x1 h:=
 (aN Try.prog C Try.f96 [x0,x1] h (by kernel_rfl)).trans (by kernel_rfl)
noncomputable def t97 (C:ak) (x0 x1 x2:Value) (h:af):Out:=
 ad (box x0 h) fun y3 h=>
 ad (dp [(.bool false),(.int .u64 0),(.int .i64 0),(.int .i64 0),(.slice none 0 0)] h) fun y6 h=>
 let g2_0:=h
 ad (bD 6 y3 g2_0) fun bH g2_1=>
 ad (some (x1,g2_1)) fun bQ g2_2=>
 ad (bD 6 y3 g2_2) fun y12 g2_3=>
 ad (C 46 [y12] g2_3) fun y13 g2_4=>
 ad (pu (bin Try.prog .mul 3 bQ y13) g2_4) fun y14 g2_5=>
 ad (pu (bin Try.prog .add 3 (.int .i64 2) y14) g2_5) fun y15 g2_6=>
 ad (some (x2,g2_6)) fun y16 g2_7=>
 ad (pu (bin Try.prog .add 3 y15 y16) g2_7) fun y17 g2_8=>
 ad (C 104 [bH,y17] g2_8) fun y18 g2_9=>
 ad (some (y18,g2_9)) fun y7 g2_10=>
 (match (bU true (bD 6 y3 g2_4) bH&&true) with
 |true=>
 let h:=g2_10
 let g4_0:=h
 ad (some (y7,g4_0)) fun y19 g4_1=>
 ad (pu (slR 1 y19 (some (.int .i64 4)) (some (.int .i64 12)) none) g4_1) fun y20 g4_2=>
 ad (C 102 [y20] g4_2) fun y21 g4_3=>
 ad (some (y7,g4_3)) fun y22 g4_4=>
 ad (pu (slR 1 y22 (some (.int .i64 16)) (some (.int .i64 18)) none) g4_4) fun y23 g4_5=>
 ad (C 102 [y23] g4_5) fun y24 g4_6=>
 ad (cvI .i64 y24 g4_6) fun y25 g4_7=>
 ad (some (y7,g4_7)) fun y26 g4_8=>
 ad (pu (slR 1 y26 (some (.int .i64 18)) (some (.int .i64 20)) none) g4_8) fun y27 g4_9=>
 ad (C 102 [y27] g4_9) fun y28 g4_10=>
 ad (cvI .i64 y28 g4_10) fun y29 g4_11=>
 ad (pu (ff [(.bool false),(.int .u64 0),(.int .i64 0),(.int .i64 0),(.slice none 0 0)] [(0,1,(.bool true)),(1,1,y21),(2,1,y25),(3,1,y29),(4,1,(.slice none 0 0))]) g4_11) fun y30 g4_12=>
 ad (dp [(.bool false),(.int .u64 0),(.int .i64 0),(.int .i64 0),(.slice none 0 0)] g4_12) fun y8 g4_13=>
 ad (bK 5 y8 y30 g4_13) fun _ g4_14=>
 (match (bU true (cvI .i64 y24 g4_10) y25&&true) with
 |true=>
 let h:=g4_14
 ad (some (y7,h)) fun y31 h=>
 ad (pu (slR 1 y31 (some (.int .i64 20)) (some (.int .i64 22)) none) h) fun y32 h=>
 ad (C 102 [y32] h) fun y33 h=>
 ad (cvI .i64 y33 h) fun y34 h=>
 ad (some (y34,h)) fun y9 h=>
 ad (some (y7,h)) fun y35 h=>
 ad (C 72 [y35] h) fun y36 h=>
 ad (pu (unA .not y36) h) fun y37 h=>
 ad (some (y37,h)) fun y38 h=>
 ad (ah (aO y38==some false) (some (y7,h)) h) fun y39 h=>
 ad (ah (aO y38==some false) (pu (slR 1 y39 (some (.int .i64 12)) (some (.int .i64 16)) none) h) h) fun y40 h=>
 ad (ah (aO y38==some false) (C 102 [y40] h) h) fun y41 h=>
 ad (ah (aO y38==some false) (some (x2,h)) h) fun y42 h=>
 ad (ah (aO y38==some false) (cvI .u64 y42 h) h) fun y43 h=>
 ad (ah (aO y38==some false) (pu (bin Try.prog .neq 58 y41 y43) h) h) fun y44 h=>
 ad (match y38 with | .bool t=>some (if t then (.bool true) else y44,h)|_=>none) fun y45 h=>
 ad (some (y45,h)) fun y46 h=>
 ad (ah (aO y46==some false) (pu (aI y8 3) h) h) fun y47 h=>
 ad (ah (aO y46==some false) (aV y47 h) h) fun y48 h=>
 ad (ah (aO y46==some false) (pu (bin Try.prog .lss 3 y48 (.int .i64 1)) h) h) fun y49 h=>
 ad (match y46 with | .bool t=>some (if t then (.bool true) else y49,h)|_=>none) fun y50 h=>
 ad (some (y50,h)) fun y51 h=>
 ad (ah (aO y51==some false) (pu (aI y8 2) h) h) fun y52 h=>
 ad (ah (aO y51==some false) (aV y52 h) h) fun y53 h=>
 ad (ah (aO y51==some false) (pu (aI y8 3) h) h) fun y54 h=>
 ad (ah (aO y51==some false) (aV y54 h) h) fun y55 h=>
 ad (ah (aO y51==some false) (pu (bin Try.prog .geq 3 y53 y55) h) h) fun y56 h=>
 ad (match y51 with | .bool t=>some (if t then (.bool true) else y56,h)|_=>none) fun y57 h=>
 ad (some (y57,h)) fun y58 h=>
 ad (ah (aO y58==some false) (some (y9,h)) h) fun y59 h=>
 ad (ah (aO y58==some false) (pu (bin Try.prog .gtr 3 y59 (.int .i64 106)) h) h) fun y60 h=>
 ad (match y58 with | .bool t=>some (if t then (.bool true) else y60,h)|_=>none) fun y61 h=>
 (match y61 with
 | .bool true=>
 ad (pu (ff [(.bool false),(.int .u64 0),(.int .i64 0),(.int .i64 0),(.slice none 0 0)] []) h) fun y62 h=>
 ad (bK 5 y6 y62 h) fun _ h=>
 al Try.prog Try.f97.results.toList (aZ 69 (up (bs [x0,x1,x2]) [(3,y3),(6,y6),(7,y7),(8,y8),(9,y9),(10,bH),(11,bQ),(12,y12),(13,y13),(14,y14),(15,y15),(16,y16),(17,y17),(18,y18),(19,y19),(20,y20),(21,y21),(22,y22),(23,y23),(24,y24),(25,y25),(26,y26),(27,y27),(28,y28),(29,y29),(30,y30),(31,y31),(32,y32),(33,y33),(34,y34),(35,y35),(36,y36),(37,y37),(38,y38),(39,y39),(40,y40),(41,y41),(42,y42),(43,y43),(44,y44),(45,y45),(46,y46),(47,y47),(48,y48),(49,y49),(50,y50),(51,y51),(52,y52),(53,y53),(54,y54),(55,y55),(56,y56),(57,y57),(58,y58),(59,y59),(60,y60),(61,y61),(62,y62)])) h
 | .bool false=>
 ad (some (y7,h)) fun y63 h=>
 ad (some (y9,h)) fun y64 h=>
 ad (pu (bin Try.prog .add 3 (.int .i64 22) y64) h) fun y65 h=>
 ad (pu (slR 1 y63 (some (.int .i64 22)) (some y65) none) h) fun y66 h=>
 ad (pu (aI y8 4) h) fun y67 h=>
 ad (bK 1 y67 y66 h) fun _ h=>
 ad (bD 5 y8 h) fun y68 h=>
 ad (bK 5 y6 y68 h) fun _ h=>
 al Try.prog Try.f97.results.toList (aZ 69 (up (bs [x0,x1,x2]) [(3,y3),(6,y6),(7,y7),(8,y8),(9,y9),(10,bH),(11,bQ),(12,y12),(13,y13),(14,y14),(15,y15),(16,y16),(17,y17),(18,y18),(19,y19),(20,y20),(21,y21),(22,y22),(23,y23),(24,y24),(25,y25),(26,y26),(27,y27),(28,y28),(29,y29),(30,y30),(31,y31),(32,y32),(33,y33),(34,y34),(35,y35),(36,y36),(37,y37),(38,y38),(39,y39),(40,y40),(41,y41),(42,y42),(43,y43),(44,y44),(45,y45),(46,y46),(47,y47),(48,y48),(49,y49),(50,y50),(51,y51),(52,y52),(53,y53),(54,y54),(55,y55),(56,y56),(57,y57),(58,y58),(59,y59),(60,y60),(61,y61),(63,y63),(64,y64),(65,y65),(66,y66),(67,y67),(68,y68)])) h
 |_=>none)
 |false=>none)
 |false=>none)
theorem t97_eq (C:ak) (x0 x1 x2:Value) (h:af):bk Try.prog C Try.f97 [x0,x1,x2] h=t97 C x0 x1 x2 h:=
 (aN Try.prog C Try.f97 [x0,x1,x2] h (by kernel_rfl)).trans (by kernel_rfl)
noncomputable def t98 (C:ak) (x0 x1 x2 x3 x4:Value) (h:af):Out:=
 ad (some ((.slice none 0 0),h)) fun _bH h=>
 ad (some (x0,h)) fun y12 h=>
 ad (C 100 [y12,(.int .i64 8)] h) fun y13 h=>
 ad (some (x1,h)) fun y14 h=>
 ad (cvI .u64 y14 h) fun y15 h=>
 ad (C 100 [y15,(.int .i64 4)] h) fun y16 h=>
 ad (bt 1 1 y13 y16 h) fun y17 h=>
 ad (some (y17,h)) fun bQ h=>
 ad (some (bQ,h)) fun y18 h=>
 ad (some (x2,h)) fun y19 h=>
 ad (cvI .u64 y19 h) fun y20 h=>
 ad (C 100 [y20,(.int .i64 2)] h) fun y21 h=>
 ad (bt 1 1 y18 y21 h) fun y22 h=>
 ad (some (x3,h)) fun y23 h=>
 ad (cvI .u64 y23 h) fun y24 h=>
 ad (C 100 [y24,(.int .i64 2)] h) fun y25 h=>
 ad (bt 1 1 y22 y25 h) fun y26 h=>
 ad (some (y26,h)) fun y11_1 h=>
 ad (some (y11_1,h)) fun y27 h=>
 ad (some (x4,h)) fun y28 h=>
 ad (pu (cK y28) h) fun y29 h=>
 ad (cvI .u64 y29 h) fun y30 h=>
 ad (C 100 [y30,(.int .i64 2)] h) fun y31 h=>
 ad (bt 1 1 y27 y31 h) fun y32 h=>
 ad (some (x4,h)) fun y33 h=>
 ad (bt 1 1 y32 y33 h) fun y34 h=>
 ad (C 101 [y34] h) fun y35 h=>
 ad (some (y35,h)) fun y10_1 h=>
 some (y10_1,h)
theorem t98_eq (C:ak) (x0 x1 x2 x3 x4:Value) (h:af):bk Try.prog C Try.f98 [x0,x1,x2,x3,x4] h=t98 C x0 x1 x2 x3 x4 h:=
 (aN Try.prog C Try.f98 [x0,x1,x2,x3,x4] h (by kernel_rfl)).trans (by kernel_rfl)
noncomputable def k99_2 (C:ak) (e:Env) (h:af):Out:=cF Try.prog C (partOf Try.f99 [1,1,1]) e h (al Try.prog Try.f99.results.toList) (al Try.prog Try.f99.results.toList) (fun _ _ _=>none)
noncomputable def b99_4 (C:ak) (i:Nat) (e:Env) (h:af):Out:=if i=0 then (k99_2 C) e h else (fun _ _ _=>none) i e h
noncomputable def t99 (C:ak) (x0 x1 x2 x3:Value) (h:af):Out:=
 ad (box x0 h) fun y4 h=>
 ad (dp [(.slice none 0 0),(.bool false),(.bool false),(.int .i64 0),(.int .i64 0),(.int .i64 0)] h) fun y8 h=>
 ad (dY 1 (.int .u8 0) 0 [] h) fun bQ h=>
 ad (pu (aI y4 0) h) fun y12 h=>
 ad (aV y12 h) fun y13 h=>
 ad (bt 1 1 bQ y13 h) fun y14 h=>
 ad (some (y14,h)) fun y9 h=>
 ad (some ((.int .i64 0),h)) fun bH h=>
 dI (iter (aL Try.prog C (partOf Try.f99 [1,1,0,1,0,0])) rounds (aZ 33 (up (bs [x0,x1,x2,x3]) [(4,y4),(8,y8),(9,y9),(10,bH),(11,bQ),(12,y12),(13,y13),(14,y14)])) h) (al Try.prog Try.f99.results.toList) (b99_4 C)
noncomputable def t99k99_2 (_C:ak) (x:Nat→Value) (h:af):Out:=
 ad (some ((x 9),h)) fun y30 h=>
 ad (pu (aI (x 4) 0) h) fun y31 h=>
 ad (bK 1 y31 y30 h) fun _ h=>
 ad (bD 6 (x 4) h) fun y32 h=>
 ad (bK 6 (x 8) y32 h) fun _ h=>
 al Try.prog Try.f99.results.toList (aZ 33 (up x [(30,y30),(31,y31),(32,y32)])) h
noncomputable def t99l99_11010 (_C:ak) (x:Nat→Value) (h:af):Option (Ex×Env×af):=
 ad (some ((x 10),h)) fun y15 h=>
 ad (some ((x 3),h)) fun y16 h=>
 ad (pu (bin Try.prog .lss 3 y15 y16) h) fun y17 h=>
 (match y17 with
 | .bool true=>
 ad (some ((x 9),h)) fun y20 h=>
 ad (some ((x 1),h)) fun y21 h=>
 ad (pu (bin Try.prog .mul 3 (.int .i64 128) y21) h) fun y22 h=>
 ad (some ((x 10),h)) fun y23 h=>
 ad (pu (bin Try.prog .add 3 y22 y23) h) fun y24 h=>
 ad (some ((x 2),h)) fun y25 h=>
 ad (some ((x 10),h)) fun y26 h=>
 ad (pu (bV 1 y25 y26) h) fun y27 h=>
 ad (aV y27 h) fun y28 h=>
 ad (pu (bV 1 y20 y24) h) fun y29 h=>
 ad (bK 1 y29 y28 h) fun _ h=>
 ad (some ((x 10),h)) fun y18 h=>
 ad (pu (bin Try.prog .add 3 y18 (.int .i64 1)) h) fun y19 h=>
 ad (some (y19,h)) fun bH h=>
 some (.normal,(aZ 33 (up x [(10,bH),(15,y15),(16,y16),(17,y17),(18,y18),(19,y19),(20,y20),(21,y21),(22,y22),(23,y23),(24,y24),(25,y25),(26,y26),(27,y27),(28,y28),(29,y29)])),h)
 | .bool false=>
 some (.exit 0,(aZ 33 (up x [(15,y15),(16,y16),(17,y17)])),h)
 |_=>none)
theorem t99_eq (C:ak) (x0 x1 x2 x3:Value) (h:af):bk Try.prog C Try.f99 [x0,x1,x2,x3] h=t99 C x0 x1 x2 x3 h:=
 (aN Try.prog C Try.f99 [x0,x1,x2,x3] h (by kernel_rfl)).trans (by kernel_rfl)
theorem t99k99_2_eq (C:ak) (x:Nat→Value) (h:af):k99_2 C (aZ 33 x) h=t99k99_2 C x h:=
 bo (b:=(partOf Try.f99 [1,1,1])) (kE:=(al Try.prog Try.f99.results.toList)) (rE:=(al Try.prog Try.f99.results.toList)) (xE:=(fun _ _ _=>none)) (T:=t99k99_2 C) (fun x h=>by kernel_rfl) x h
theorem t99l99_11010_eq (C:ak) (x:Nat→Value) (h:af):aL Try.prog C (partOf Try.f99 [1,1,0,1,0,0]) (aZ 33 x) h=t99l99_11010 C x h:=
 bg (T:=t99l99_11010 C) (fun x h=>by kernel_rfl) x h
noncomputable def k100_2 (C:ak) (e:Env) (h:af):Out:=cF Try.prog C (partOf Try.f100 [1,1,1]) e h (al Try.prog Try.f100.results.toList) (al Try.prog Try.f100.results.toList) (fun _ _ _=>none)
noncomputable def b100_4 (C:ak) (i:Nat) (e:Env) (h:af):Out:=if i=0 then (k100_2 C) e h else (fun _ _ _=>none) i e h
noncomputable def t100 (C:ak) (x0 x1:Value) (h:af):Out:=
 ad (some ((.slice none 0 0),h)) fun y4 h=>
 ad (dY 1 (.int .u8 0) 0 [] h) fun y7 h=>
 ad (some (y7,h)) fun y5 h=>
 ad (some (x1,h)) fun y8 h=>
 ad (pu (bin Try.prog .sub 3 y8 (.int .i64 1)) h) fun y9 h=>
 ad (some (y9,h)) fun y6 h=>
 dI (iter (aL Try.prog C (partOf Try.f100 [1,1,0,1,0,0])) rounds (aZ 24 (up (bs [x0,x1]) [(4,y4),(5,y5),(6,y6),(7,y7),(8,y8),(9,y9)])) h) (al Try.prog Try.f100.results.toList) (b100_4 C)
noncomputable def t100k100_2 (_C:ak) (x:Nat→Value) (h:af):Out:=
 ad (some ((x 5),h)) fun y23 h=>
 ad (some (y23,h)) fun y4 h=>
 some (y4,h)
noncomputable def t100l100_11010 (_C:ak) (x:Nat→Value) (h:af):Option (Ex×Env×af):=
 ad (some ((x 6),h)) fun bH h=>
 ad (pu (bin Try.prog .geq 3 bH (.int .i64 0)) h) fun bQ h=>
 (match bQ with
 | .bool true=>
 ad (some ((x 5),h)) fun y14 h=>
 ad (some ((x 0),h)) fun y15 h=>
 ad (some ((x 6),h)) fun y16 h=>
 ad (cvI .u64 y16 h) fun y17 h=>
 ad (pu (bin Try.prog .mul 149 (.int .u64 8) y17) h) fun y18 h=>
 ad (pu (bin Try.prog .shr 58 y15 y18) h) fun y19 h=>
 ad (cvI .u8 y19 h) fun y20 h=>
 ad (dY 1 (.int .u8 0) 1 [(0,y20)] h) fun y21 h=>
 ad (bt 1 1 y14 y21 h) fun y22 h=>
 ad (some (y22,h)) fun y5 h=>
 ad (some ((x 6),h)) fun y12 h=>
 ad (pu (bin Try.prog .sub 3 y12 (.int .i64 1)) h) fun y13 h=>
 ad (some (y13,h)) fun y6 h=>
 some (.normal,(aZ 24 (up x [(5,y5),(6,y6),(10,bH),(11,bQ),(12,y12),(13,y13),(14,y14),(15,y15),(16,y16),(17,y17),(18,y18),(19,y19),(20,y20),(21,y21),(22,y22)])),h)
 | .bool false=>
 some (.exit 0,(aZ 24 (up x [(10,bH),(11,bQ)])),h)
 |_=>none)
theorem t100_eq (C:ak) (x0 x1:Value) (h:af):bk Try.prog C Try.f100 [x0,x1] h=t100 C x0 x1 h:=
 (aN Try.prog C Try.f100 [x0,x1] h (by kernel_rfl)).trans (by kernel_rfl)
theorem t100k100_2_eq (C:ak) (x:Nat→Value) (h:af):k100_2 C (aZ 24 x) h=t100k100_2 C x h:=
 bo (b:=(partOf Try.f100 [1,1,1])) (kE:=(al Try.prog Try.f100.results.toList)) (rE:=(al Try.prog Try.f100.results.toList)) (xE:=(fun _ _ _=>none)) (T:=t100k100_2 C) (fun x h=>by kernel_rfl) x h
theorem t100l100_11010_eq (C:ak) (x:Nat→Value) (h:af):aL Try.prog C (partOf Try.f100 [1,1,0,1,0,0]) (aZ 24 x) h=t100l100_11010 C x h:=
 bg (T:=t100l100_11010 C) (fun x h=>by kernel_rfl) x h
noncomputable def k101_1 (C:ak) (e:Env) (h:af):Out:=cF Try.prog C (partOf Try.f101 [1,1]) e h (al Try.prog Try.f101.results.toList) (al Try.prog Try.f101.results.toList) (fun _ _ _=>none)
noncomputable def b101_2 (C:ak) (i:Nat) (e:Env) (h:af):Out:=if i=0 then (k101_1 C) e h else (fun _ _ _=>none) i e h
noncomputable def t101 (C:ak) (x0:Value) (h:af):Out:=
 ad (some ((.slice none 0 0),h)) fun y2 h=>
 dI (iter (aL Try.prog C (partOf Try.f101 [1,0,0,0])) rounds (aZ 15 (up (bs [x0]) [(2,y2)])) h) (al Try.prog Try.f101.results.toList) (b101_2 C)
noncomputable def t101k101_1 (C:ak) (x:Nat→Value) (h:af):Out:=
 ad (some ((x 0),h)) fun y9 h=>
 ad (C 103 [y9] h) fun bH h=>
 ad (cvI .u64 bH h) fun bQ h=>
 ad (C 100 [bQ,(.int .i64 4)] h) fun y12 h=>
 ad (some ((x 0),h)) fun y13 h=>
 ad (bt 1 1 y12 y13 h) fun y14 h=>
 ad (some (y14,h)) fun y2 h=>
 some (y2,h)
noncomputable def t101l101_100 (_C:ak) (x:Nat→Value) (h:af):Option (Ex×Env×af):=
 ad (some ((x 0),h)) fun y3 h=>
 ad (pu (cK y3) h) fun y4 h=>
 ad (pu (bin Try.prog .lss 3 y4 (.int .i64 124)) h) fun y5 h=>
 (match y5 with
 | .bool true=>
 ad (some ((x 0),h)) fun y6 h=>
 ad (dY 1 (.int .u8 0) 1 [(0,(.int .u8 0))] h) fun y7 h=>
 ad (bt 1 1 y6 y7 h) fun y8 h=>
 ad (some (y8,h)) fun y0 h=>
 some (.normal,(aZ 15 (up x [(0,y0),(3,y3),(4,y4),(5,y5),(6,y6),(7,y7),(8,y8)])),h)
 | .bool false=>
 some (.exit 0,(aZ 15 (up x [(3,y3),(4,y4),(5,y5)])),h)
 |_=>none)
theorem t101_eq (C:ak) (x0:Value) (h:af):bk Try.prog C Try.f101 [x0] h=t101 C x0 h:=
 (aN Try.prog C Try.f101 [x0] h (by kernel_rfl)).trans (by kernel_rfl)
theorem t101k101_1_eq (C:ak) (x:Nat→Value) (h:af):k101_1 C (aZ 15 x) h=t101k101_1 C x h:=
 bo (b:=(partOf Try.f101 [1,1])) (kE:=(al Try.prog Try.f101.results.toList)) (rE:=(al Try.prog Try.f101.results.toList)) (xE:=(fun _ _ _=>none)) (T:=t101k101_1 C) (fun x h=>by kernel_rfl) x h
theorem t101l101_100_eq (C:ak) (x:Nat→Value) (h:af):aL Try.prog C (partOf Try.f101 [1,0,0,0]) (aZ 15 x) h=t101l101_100 C x h:=
 bg (T:=t101l101_100 C) (fun x h=>by kernel_rfl) x h
noncomputable def k102_2 (C:ak) (e:Env) (h:af):Out:=cF Try.prog C (partOf Try.f102 [1,1,1]) e h (al Try.prog Try.f102.results.toList) (al Try.prog Try.f102.results.toList) (fun _ _ _=>none)
noncomputable def b102_4 (C:ak) (i:Nat) (e:Env) (h:af):Out:=if i=0 then (k102_2 C) e h else (fun _ _ _=>none) i e h
noncomputable def t102 (C:ak) (x0:Value) (h:af):Out:=
 ad (some ((.int .u64 0),h)) fun y2 h=>
 ad (some ((.int .u64 0),h)) fun y3 h=>
 ad (some ((.int .i64 0),h)) fun y4 h=>
 dI (iter (aL Try.prog C (partOf Try.f102 [1,1,0,1,0,0])) rounds (aZ 20 (up (bs [x0]) [(2,y2),(3,y3),(4,y4)])) h) (al Try.prog Try.f102.results.toList) (b102_4 C)
noncomputable def t102k102_2 (_C:ak) (x:Nat→Value) (h:af):Out:=
 ad (some ((x 3),h)) fun y19 h=>
 ad (some (y19,h)) fun y2 h=>
 some (y2,h)
noncomputable def t102l102_11010 (_C:ak) (x:Nat→Value) (h:af):Option (Ex×Env×af):=
 ad (some ((x 4),h)) fun y5 h=>
 ad (some ((x 0),h)) fun y6 h=>
 ad (pu (cK y6) h) fun y7 h=>
 ad (pu (bin Try.prog .lss 3 y5 y7) h) fun y8 h=>
 (match y8 with
 | .bool true=>
 ad (some ((x 3),h)) fun bQ h=>
 ad (pu (bin Try.prog .shl 58 bQ (.int .u64 8)) h) fun y12 h=>
 ad (some ((x 0),h)) fun y13 h=>
 ad (some ((x 4),h)) fun y14 h=>
 ad (pu (bV 1 y13 y14) h) fun y15 h=>
 ad (aV y15 h) fun y16 h=>
 ad (cvI .u64 y16 h) fun y17 h=>
 ad (pu (bin Try.prog .or 58 y12 y17) h) fun y18 h=>
 ad (some (y18,h)) fun y3 h=>
 ad (some ((x 4),h)) fun y9 h=>
 ad (pu (bin Try.prog .add 3 y9 (.int .i64 1)) h) fun bH h=>
 ad (some (bH,h)) fun y4 h=>
 some (.normal,(aZ 20 (up x [(3,y3),(4,y4),(5,y5),(6,y6),(7,y7),(8,y8),(9,y9),(10,bH),(11,bQ),(12,y12),(13,y13),(14,y14),(15,y15),(16,y16),(17,y17),(18,y18)])),h)
 | .bool false=>
 some (.exit 0,(aZ 20 (up x [(5,y5),(6,y6),(7,y7),(8,y8)])),h)
 |_=>none)
theorem t102_eq (C:ak) (x0:Value) (h:af):bk Try.prog C Try.f102 [x0] h=t102 C x0 h:=
 (aN Try.prog C Try.f102 [x0] h (by kernel_rfl)).trans (by kernel_rfl)
theorem t102k102_2_eq (C:ak) (x:Nat→Value) (h:af):k102_2 C (aZ 20 x) h=t102k102_2 C x h:=
 bo (b:=(partOf Try.f102 [1,1,1])) (kE:=(al Try.prog Try.f102.results.toList)) (rE:=(al Try.prog Try.f102.results.toList)) (xE:=(fun _ _ _=>none)) (T:=t102k102_2 C) (fun x h=>by kernel_rfl) x h
theorem t102l102_11010_eq (C:ak) (x:Nat→Value) (h:af):aL Try.prog C (partOf Try.f102 [1,1,0,1,0,0]) (aZ 20 x) h=t102l102_11010 C x h:=
 bg (T:=t102l102_11010 C) (fun x h=>by kernel_rfl) x h
noncomputable def k103_2 (C:ak) (e:Env) (h:af):Out:=cF Try.prog C (partOf Try.f103 [1,1,1]) e h (al Try.prog Try.f103.results.toList) (al Try.prog Try.f103.results.toList) (fun _ _ _=>none)
noncomputable def b103_4 (C:ak) (i:Nat) (e:Env) (h:af):Out:=if i=0 then (k103_2 C) e h else (fun _ _ _=>none) i e h
noncomputable def k103_8 (C:ak) (e:Env) (h:af):Option (Ex×Env×af):=cF Try.prog C (partOf Try.f103 [1,1,0,1,0,0,1,1]) e h (fun e h=>some (Ex.normal,e,h)) (fun e h=>some (Ex.ret,e,h)) (fun i e h=>some (Ex.exit i,e,h))
noncomputable def b103_9 (C:ak) (i:Nat) (e:Env) (h:af):Option (Ex×Env×af):=if i=1 then (k103_8 C) e h else (fun i e h=>some (Ex.exit i,e,h)) i e h
noncomputable def b103_12 (C:ak) (i:Nat) (e:Env) (h:af):Option (Ex×Env×af):=if i=2 then (k103_8 C) e h else (b103_9 C) i e h
noncomputable def t103 (C:ak) (x0:Value) (h:af):Out:=
 ad (some ((.int .u32 0),h)) fun y2 h=>
 ad (some ((.int .u32 4294967295),h)) fun y3 h=>
 ad (some ((.int .i64 0),h)) fun y4 h=>
 dI (iter (aL Try.prog C (partOf Try.f103 [1,1,0,1,0,0])) rounds (aZ 33 (up (bs [x0]) [(2,y2),(3,y3),(4,y4)])) h) (al Try.prog Try.f103.results.toList) (b103_4 C)
noncomputable def t103k103_2 (_C:ak) (x:Nat→Value) (h:af):Out:=
 ad (some ((x 3),h)) fun y31 h=>
 ad (pu (unA .xor y31) h) fun y32 h=>
 ad (some (y32,h)) fun y2 h=>
 some (y2,h)
noncomputable def t103l103_11010 (C:ak) (x:Nat→Value) (h:af):Option (Ex×Env×af):=
 ad (some ((x 4),h)) fun y6 h=>
 ad (some ((x 0),h)) fun y7 h=>
 ad (pu (cK y7) h) fun y8 h=>
 ad (pu (bin Try.prog .lss 3 y6 y8) h) fun y9 h=>
 (match y9 with
 | .bool true=>
 ad (some ((x 3),h)) fun y12 h=>
 ad (some ((x 0),h)) fun y13 h=>
 ad (some ((x 4),h)) fun y14 h=>
 ad (pu (bV 1 y13 y14) h) fun y15 h=>
 ad (aV y15 h) fun y16 h=>
 ad (cvI .u32 y16 h) fun y17 h=>
 ad (pu (bin Try.prog .xor 113 y12 y17) h) fun y18 h=>
 ad (some (y18,h)) fun y3 h=>
 ad (some ((.int .i64 0),h)) fun y5 h=>
 dI (iter (aL Try.prog C (partOf Try.f103 [1,1,0,1,0,0,1,0,0,1,1,0,0])) rounds (aZ 33 (up x [(3,y3),(5,y5),(6,y6),(7,y7),(8,y8),(9,y9),(12,y12),(13,y13),(14,y14),(15,y15),(16,y16),(17,y17),(18,y18)])) h) (fun e h=>some (Ex.ret,e,h)) (b103_12 C)
 | .bool false=>
 some (.exit 0,(aZ 33 (up x [(6,y6),(7,y7),(8,y8),(9,y9)])),h)
 |_=>none)
noncomputable def t103k103_8 (_C:ak) (x:Nat→Value) (h:af):Option (Ex×Env×af):=
 ad (some ((x 4),h)) fun bH h=>
 ad (pu (bin Try.prog .add 3 bH (.int .i64 1)) h) fun bQ h=>
 ad (some (bQ,h)) fun y4 h=>
 some (.normal,(aZ 33 (up x [(4,y4),(10,bH),(11,bQ)])),h)
noncomputable def fH (_C:ak) (x:Nat→Value) (h:af):Option (Ex×Env×af):=
 ad (some ((x 5),h)) fun y19 h=>
 ad (pu (bin Try.prog .lss 3 y19 (.int .i64 8)) h) fun y20 h=>
 (match y20 with
 | .bool true=>
 ad (some ((x 3),h)) fun y23 h=>
 ad (pu (bin Try.prog .and 113 y23 (.int .u32 1)) h) fun y24 h=>
 ad (pu (bin Try.prog .eql 113 y24 (.int .u32 1)) h) fun y25 h=>
 (match y25 with
 | .bool true=>
 ad (some ((x 3),h)) fun y26 h=>
 ad (pu (bin Try.prog .shr 113 y26 (.int .u64 1)) h) fun y27 h=>
 ad (pu (bin Try.prog .xor 113 y27 (.int .u32 2197175160)) h) fun y28 h=>
 ad (some (y28,h)) fun y3 h=>
 ad (some ((x 5),h)) fun y21 h=>
 ad (pu (bin Try.prog .add 3 y21 (.int .i64 1)) h) fun y22 h=>
 ad (some (y22,h)) fun y5 h=>
 some (.normal,(aZ 33 (up x [(3,y3),(5,y5),(19,y19),(20,y20),(21,y21),(22,y22),(23,y23),(24,y24),(25,y25),(26,y26),(27,y27),(28,y28)])),h)
 | .bool false=>
 ad (some ((x 3),h)) fun y29 h=>
 ad (pu (bin Try.prog .shr 113 y29 (.int .u64 1)) h) fun y30 h=>
 ad (some (y30,h)) fun y3 h=>
 ad (some ((x 5),h)) fun y21 h=>
 ad (pu (bin Try.prog .add 3 y21 (.int .i64 1)) h) fun y22 h=>
 ad (some (y22,h)) fun y5 h=>
 some (.normal,(aZ 33 (up x [(3,y3),(5,y5),(19,y19),(20,y20),(21,y21),(22,y22),(23,y23),(24,y24),(25,y25),(29,y29),(30,y30)])),h)
 |_=>none)
 | .bool false=>
 some (.exit 2,(aZ 33 (up x [(19,y19),(20,y20)])),h)
 |_=>none)
theorem t103_eq (C:ak) (x0:Value) (h:af):bk Try.prog C Try.f103 [x0] h=t103 C x0 h:=
 (aN Try.prog C Try.f103 [x0] h (by kernel_rfl)).trans (by kernel_rfl)
theorem t103k103_2_eq (C:ak) (x:Nat→Value) (h:af):k103_2 C (aZ 33 x) h=t103k103_2 C x h:=
 bo (b:=(partOf Try.f103 [1,1,1])) (kE:=(al Try.prog Try.f103.results.toList)) (rE:=(al Try.prog Try.f103.results.toList)) (xE:=(fun _ _ _=>none)) (T:=t103k103_2 C) (fun x h=>by kernel_rfl) x h
theorem t103l103_11010_eq (C:ak) (x:Nat→Value) (h:af):aL Try.prog C (partOf Try.f103 [1,1,0,1,0,0]) (aZ 33 x) h=t103l103_11010 C x h:=
 bg (T:=t103l103_11010 C) (fun x h=>by kernel_rfl) x h
theorem t103k103_8_eq (C:ak) (x:Nat→Value) (h:af):k103_8 C (aZ 33 x) h=t103k103_8 C x h:=
 bo (b:=(partOf Try.f103 [1,1,0,1,0,0,1,1])) (kE:=(fun e h=>some (Ex.normal,e,h))) (rE:=(fun e h=>some (Ex.ret,e,h))) (xE:=(fun i e h=>some (Ex.exit i,e,h))) (T:=t103k103_8 C) (fun x h=>by kernel_rfl) x h
theorem t103l103_110100100110_eq (C:ak) (x:Nat→Value) (h:af):aL Try.prog C (partOf Try.f103 [1,1,0,1,0,0,1,0,0,1,1,0,0]) (aZ 33 x) h=fH C x h:=
 bg (T:=fH C) (fun x h=>by kernel_rfl) x h
noncomputable def t104 (_C:ak) (x0 x1:Value) (h:af):Out:=
 ad (box x0 h) fun y2 h=>
 ad (some ((.slice none 0 0),h)) fun _y4 h=>
 ad (dY 1 (.int .u8 0) 0 [] h) fun y5 h=>
 ad (pu (aI y2 0) h) fun y6 h=>
 ad (aV y6 h) fun y7 h=>
 ad (some (x1,h)) fun y8 h=>
 ad (pu (bin Try.prog .mul 3 (.int .i64 128) y8) h) fun y9 h=>
 ad (some (x1,h)) fun bH h=>
 ad (pu (bin Try.prog .mul 3 (.int .i64 128) bH) h) fun bQ h=>
 ad (pu (bin Try.prog .add 3 bQ (.int .i64 128)) h) fun y12 h=>
 ad (pu (slR 1 y7 (some y9) (some y12) none) h) fun y13 h=>
 ad (bt 1 1 y5 y13 h) fun y14 h=>
 ad (some (y14,h)) fun y4_1 h=>
 some (y4_1,h)
theorem t104_eq (C:ak) (x0 x1:Value) (h:af):bk Try.prog C Try.f104 [x0,x1] h=t104 C x0 x1 h:=
 (aN Try.prog C Try.f104 [x0,x1] h (by kernel_rfl)).trans (by kernel_rfl)
noncomputable def k13_10 (C:ak) (e:Env) (h:af):Out:=cF Try.prog C (partOf Try.f13 [1,1,1,1,1,1,1]) e h (al Try.prog Try.f13.results.toList) (al Try.prog Try.f13.results.toList) (fun _ _ _=>none)
noncomputable def b13_12 (C:ak) (i:Nat) (e:Env) (h:af):Out:=if i=0 then (k13_10 C) e h else (fun _ _ _=>none) i e h
noncomputable def t13 (C:ak) (x0 x1:Value) (h:af):Out:=
 ad (some ((.bool false),h)) fun y4 h=>
 ad (some (x0,h)) fun y32 h=>
 ad (some (x1,h)) fun y33 h=>
 ad (C 17 [y32,y33] h) fun y34 h=>
 (match y34 with
 | .bool true=>
 ad (C 14 [] h) fun y35 h=>
 ad (some (y35,h)) fun y4_1 h=>
 some (y4_1,h)
 | .bool false=>
 ad (some (x0,h)) fun y37 h=>
 ad (C 18 [y37] h) fun y38 h=>
 ad (some (y38,h)) fun y36 h=>
 ad (pu (aA y36 0) h) fun y39 h=>
 ad (pu (aA y36 1) h) fun y40 h=>
 ad (some (y39,h)) fun y5 h=>
 ad (some (y40,h)) fun y6 h=>
 ad (some (x0,h)) fun y42 h=>
 ad (C 35 [y42] h) fun y43 h=>
 ad (some (y43,h)) fun y41 h=>
 ad (pu (aA y41 0) h) fun y44 h=>
 ad (pu (aA y41 1) h) fun y45 h=>
 ad (dp [(.slice none 0 0),(.bool false),(.bool false),(.int .i64 0),(.int .i64 0),(.int .i64 0)] h) fun y7 h=>
 ad (bK 6 y7 y44 h) fun _ h=>
 ad (some (y45,h)) fun y8 h=>
 ad (some (y6,h)) fun y46 h=>
 ad (some (y8,h)) fun y47 h=>
 ad (pu (bin Try.prog .neq 28 y46 y47) h) fun y48 h=>
 ad (some (y48,h)) fun y49 h=>
 ad (ah (aO y49==some false) (some (y8,h)) h) fun y50 h=>
 ad (ah (aO y49==some false) (pu (bin Try.prog .neq 28 y50 (.int .i64 0)) h) h) fun y51 h=>
 ad (match y49 with | .bool t=>some (if t then (.bool true) else y51,h)|_=>none) fun y52 h=>
 (match y52 with
 | .bool true=>
 ad (some (y6,h)) fun y53 h=>
 ad (some (y8,h)) fun y54 h=>
 ad (pu (bin Try.prog .eql 28 y53 y54) h) fun y55 h=>
 ad (some (y55,h)) fun y56 h=>
 ad (ah (aO y56==some true) (C 14 [] h) h) fun y57 h=>
 ad (match y56 with | .bool t=>some (if t then y57 else (.bool false),h)|_=>none) fun y58 h=>
 ad (some (y58,h)) fun y4_1 h=>
 some (y4_1,h)
 | .bool false=>
 ad (pu (ff [(.int .i64 0),(.int .i64 0),(.int .u64 0),(.int .i64 0),(.int .u64 0),(.bool false),(.int .i64 0),(.bool false)] [(7,1,(.bool true))]) h) fun y59 h=>
 ad (pu (ff [(.pointer none),(.int .i64 0),(.int .i64 0),(.int .u64 0),(.int .i64 0),(.int .u64 0),(.bool false),(.int .i64 0),(.bool false)] [(0,1,(.pointer none)),(1,8,y59)]) h) fun y60 h=>
 ad (pu (ff [(.int .i64 0),(.int .i64 0),(.int .u64 0),(.int .i64 0),(.int .u64 0),(.bool false),(.int .i64 0),(.bool false)] [(7,1,(.bool true))]) h) fun y61 h=>
 ad (pu (ff [(.pointer none),(.int .i64 0),(.int .i64 0),(.int .u64 0),(.int .i64 0),(.int .u64 0),(.bool false),(.int .i64 0),(.bool false)] [(0,1,(.pointer none)),(1,8,y61)]) h) fun y62 h=>
 ad (dp [(.pointer none),(.int .i64 0),(.int .i64 0),(.int .u64 0),(.int .i64 0),(.int .u64 0),(.bool false),(.int .i64 0),(.bool false)] h) fun y9 h=>
 ad (dp [(.pointer none),(.int .i64 0),(.int .i64 0),(.int .u64 0),(.int .i64 0),(.int .u64 0),(.bool false),(.int .i64 0),(.bool false)] h) fun bH h=>
 ad (bK 9 y9 y60 h) fun _ h=>
 ad (bK 9 bH y62 h) fun _ h=>
 ad (some ((.int .i64 0),h)) fun bQ h=>
 dI (iter (aL Try.prog C (partOf Try.f13 [1,1,1,1,1,1,0,1,0,0])) rounds (aZ 243 (up (bs [x0,x1]) [(4,y4),(5,y5),(6,y6),(7,y7),(8,y8),(9,y9),(10,bH),(11,bQ),(32,y32),(33,y33),(34,y34),(36,y36),(37,y37),(38,y38),(39,y39),(40,y40),(41,y41),(42,y42),(43,y43),(44,y44),(45,y45),(46,y46),(47,y47),(48,y48),(49,y49),(50,y50),(51,y51),(52,y52),(59,y59),(60,y60),(61,y61),(62,y62)])) h) (al Try.prog Try.f13.results.toList) (b13_12 C)
 |_=>none)
 |_=>none)
noncomputable def t13k13_10 (C:ak) (_x:Nat→Value) (h:af):Out:=
 ad (C 14 [] h) fun y242 h=>
 ad (some (y242,h)) fun y4 h=>
 some (y4,h)
noncomputable def bu (C:ak) (x:Nat→Value) (h:af):Option (Ex×Env×af):=
 ad (some ((x 11),h)) fun y63 h=>
 ad (some ((x 1),h)) fun y64 h=>
 ad (pu (cK y64) h) fun y65 h=>
 ad (pu (bin Try.prog .lss 3 y63 y65) h) fun y66 h=>
 (match y66 with
 | .bool true=>
 ad (some ((x 1),h)) fun y69 h=>
 ad (some ((x 11),h)) fun y70 h=>
 ad (pu (bV 6 y69 y70) h) fun y71 h=>
 ad (bD 6 y71 h) fun y72 h=>
 ad (dp [(.int .i64 0),(.int .i64 0),(.int .i64 0),(.int .u8 0),(.slice none 0 0),(.slice none 0 0)] h) fun y12 h=>
 ad (bK 6 y12 y72 h) fun _ h=>
 ad (some ((.bool true),h)) fun y13 h=>
 ad (pu (aI y12 0) h) fun y73 h=>
 ad (aV y73 h) fun y74 h=>
 ad (pu (bin Try.prog .eql 3 y74 (.int .i64 8)) h) fun y83 h=>
 ad (some (y83,h)) fun y82 h=>
 (match y82 with
 | .bool true=>
 ad (some ((x 5),h)) fun y85 h=>
 ad (C 21 [y85] h) fun y86 h=>
 ad (some (y86,h)) fun y84 h=>
 ad (pu (aA y84 0) h) fun y87 h=>
 ad (pu (aA y84 1) h) fun y88 h=>
 ad (pu (aA y84 2) h) fun y89 h=>
 ad (some (y87,h)) fun y14 h=>
 ad (some (y88,h)) fun y15 h=>
 ad (some (y89,h)) fun y16 h=>
 ad (dp [(.int .i64 0),(.int .i64 0),(.int .u64 0),(.int .i64 0),(.int .u64 0),(.bool false),(.int .i64 0),(.bool false)] h) fun y17 h=>
 ad (some ((.slice none 0 0),h)) fun _y18 h=>
 ad (some ((.int .i64 0),h)) fun _y19 h=>
 ad (bD 6 (x 7) h) fun y91 h=>
 ad (C 38 [y91] h) fun y92 h=>
 ad (some (y92,h)) fun y90 h=>
 ad (pu (aA y90 0) h) fun y93 h=>
 ad (pu (aA y90 1) h) fun y94 h=>
 ad (pu (aA y90 2) h) fun y95 h=>
 ad (pu (aA y90 3) h) fun y96 h=>
 ad (bK 6 (x 7) y93 h) fun _ h=>
 ad (bK 8 y17 y94 h) fun _ h=>
 ad (some (y95,h)) fun y18_1 h=>
 ad (some (y96,h)) fun y19_1 h=>
 ad (some (y16,h)) fun y97 h=>
 ad (some (y19_1,h)) fun y98 h=>
 ad (pu (bin Try.prog .eql 28 y97 y98) h) fun y99 h=>
 ad (some (y99,h)) fun y100 h=>
 ad (ah (aO y100==some true) (some (y15,h)) h) fun y101 h=>
 ad (ah (aO y100==some true) (some (y18_1,h)) h) fun y102 h=>
 ad (ah (aO y100==some true) (C 44 [y101,y102] h) h) fun y103 h=>
 ad (match y100 with | .bool t=>some (if t then y103 else (.bool false),h)|_=>none) fun y104 h=>
 ad (some (y104,h)) fun y105 h=>
 ad (ah (aO y105==some true) (some (y14,h)) h) fun y106 h=>
 ad (ah (aO y105==some true) (pu (bin Try.prog .eql 38 y106 (.pointer none)) h) h) fun y107 h=>
 ad (ah (aO y105==some true) (pu (aI y17 7) h) h) fun y108 h=>
 ad (ah (aO y105==some true) (aV y108 h) h) fun y109 h=>
 ad (ah (aO y105==some true) (pu (bin Try.prog .eql 4 y107 y109) h) h) fun y110 h=>
 ad (match y105 with | .bool t=>some (if t then y110 else (.bool false),h)|_=>none) fun y111 h=>
 ad (some (y111,h)) fun y13_1 h=>
 ad (some (y14,h)) fun y112 h=>
 ad (bD 8 y17 h) fun y113 h=>
 ad (pu (ff [(.pointer none),(.int .i64 0),(.int .i64 0),(.int .u64 0),(.int .i64 0),(.int .u64 0),(.bool false),(.int .i64 0),(.bool false)] [(0,1,y112),(1,8,y113)]) h) fun y114 h=>
 ad (bD 9 (x 9) h) fun y115 h=>
 ad (bK 9 (x 9) y114 h) fun _ h=>
 ad (bK 9 (x 10) y115 h) fun _ h=>
 let g30_0:=h
 ad (some (y13_1,g30_0)) fun y212 g30_1=>
 ad (pu (unA .not y212) g30_1) fun y213 g30_2=>
 ad (some (y213,g30_2)) fun y214 g30_3=>
 ad (ah (aO y214==some false) (bD 9 (x 9) g30_3) g30_3) fun y215 g30_4=>
 ad (ah (aO y214==some false) (bD 6 (x 7) g30_4) g30_4) fun y216 g30_5=>
 ad (ah (aO y214==some false) (C 45 [y215,y216] g30_5) g30_5) fun y217 g30_6=>
 ad (ah (aO y214==some false) (pu (unA .not y217) g30_6) g30_6) fun y218 g30_7=>
 ad (match y214 with | .bool t=>some (if t then (.bool true) else y218,g30_7)|_=>none) fun y219 g30_8=>
 ad (some (y219,g30_8)) fun y220 g30_9=>
 ad (ah (aO y220==some false) (bD 9 (x 10) g30_9) g30_9) fun y221 g30_10=>
 ad (ah (aO y220==some false) (bD 6 (x 7) g30_10) g30_10) fun y222 g30_11=>
 ad (ah (aO y220==some false) (C 45 [y221,y222] g30_11) g30_11) fun y223 g30_12=>
 ad (ah (aO y220==some false) (pu (unA .not y223) g30_12) g30_12) fun y224 g30_13=>
 ad (match y220 with | .bool t=>some (if t then (.bool true) else y224,g30_13)|_=>none) fun y225 g30_14=>
 ad (some (y225,g30_14)) fun y226 g30_15=>
 ad (ah (aO y226==some false) (some ((x 5),g30_15)) g30_15) fun y227 g30_16=>
 ad (ah (aO y226==some false) (C 36 [y227] g30_16) g30_16) fun y228 g30_17=>
 ad (ah (aO y226==some false) (pu (aI (x 7) 1) g30_17) g30_17) fun y229 g30_18=>
 ad (ah (aO y226==some false) (aV y229 g30_18) g30_18) fun y230 g30_19=>
 ad (ah (aO y226==some false) (pu (bin Try.prog .neq 4 y228 y230) g30_19) g30_19) fun y231 g30_20=>
 ad (match y226 with | .bool t=>some (if t then (.bool true) else y231,g30_20)|_=>none) fun y232 g30_21=>
 ad (some (y232,g30_21)) fun y233 g30_22=>
 ad (ah (aO y233==some false) (some ((x 5),g30_22)) g30_22) fun y234 g30_23=>
 ad (ah (aO y233==some false) (C 25 [y234] g30_23) g30_23) fun y235 g30_24=>
 ad (ah (aO y233==some false) (fB y235 g30_24) g30_24) fun y236 g30_25=>
 ad (ah (aO y233==some false) (pu (aI (x 7) 0) g30_25) g30_25) fun y237 g30_26=>
 ad (ah (aO y233==some false) (aV y237 g30_26) g30_26) fun y238 g30_27=>
 ad (ah (aO y233==some false) (fB y238 g30_27) g30_27) fun y239 g30_28=>
 ad (ah (aO y233==some false) (pu (bin Try.prog .neq 9 y236 y239) g30_28) g30_28) fun y240 g30_29=>
 ad (match y233 with | .bool t=>some (if t then (.bool true) else y240,g30_29)|_=>none) fun y241 g30_30=>
 (match (bU (aO y226==some false) (aV y229 g30_16) y230&&(bU (aO y233==some false) (aV y237 g30_23) y238&&(bU (aO y233==some false) (fB y238 g30_23) y239&&true))) with
 |true=>
 let h:=g30_30
 (match y241 with
 | .bool true=>
 ad (some ((.bool false),h)) fun y4 h=>
 some (.ret,(aZ 243 (up x [(4,y4),(12,y12),(13,y13_1),(14,y14),(15,y15),(16,y16),(17,y17),(18,y18_1),(19,y19_1),(63,y63),(64,y64),(65,y65),(66,y66),(69,y69),(70,y70),(71,y71),(72,y72),(73,y73),(74,y74),(82,y82),(83,y83),(84,y84),(85,y85),(86,y86),(87,y87),(88,y88),(89,y89),(90,y90),(91,y91),(92,y92),(93,y93),(94,y94),(95,y95),(96,y96),(97,y97),(98,y98),(99,y99),(100,y100),(101,y101),(102,y102),(103,y103),(104,y104),(105,y105),(106,y106),(107,y107),(108,y108),(109,y109),(110,y110),(111,y111),(112,y112),(113,y113),(114,y114),(115,y115),(212,y212),(213,y213),(214,y214),(215,y215),(216,y216),(217,y217),(218,y218),(219,y219),(220,y220),(221,y221),(222,y222),(223,y223),(224,y224),(225,y225),(226,y226),(227,y227),(228,y228),(229,y229),(230,y230),(231,y231),(232,y232),(233,y233),(234,y234),(235,y235),(236,y236),(237,y237),(238,y238),(239,y239),(240,y240),(241,y241)])),h)
 | .bool false=>
 ad (some ((x 11),h)) fun y67 h=>
 ad (pu (bin Try.prog .add 3 y67 (.int .i64 1)) h) fun y68 h=>
 ad (some (y68,h)) fun bQ h=>
 some (.normal,(aZ 243 (up x [(11,bQ),(12,y12),(13,y13_1),(14,y14),(15,y15),(16,y16),(17,y17),(18,y18_1),(19,y19_1),(63,y63),(64,y64),(65,y65),(66,y66),(67,y67),(68,y68),(69,y69),(70,y70),(71,y71),(72,y72),(73,y73),(74,y74),(82,y82),(83,y83),(84,y84),(85,y85),(86,y86),(87,y87),(88,y88),(89,y89),(90,y90),(91,y91),(92,y92),(93,y93),(94,y94),(95,y95),(96,y96),(97,y97),(98,y98),(99,y99),(100,y100),(101,y101),(102,y102),(103,y103),(104,y104),(105,y105),(106,y106),(107,y107),(108,y108),(109,y109),(110,y110),(111,y111),(112,y112),(113,y113),(114,y114),(115,y115),(212,y212),(213,y213),(214,y214),(215,y215),(216,y216),(217,y217),(218,y218),(219,y219),(220,y220),(221,y221),(222,y222),(223,y223),(224,y224),(225,y225),(226,y226),(227,y227),(228,y228),(229,y229),(230,y230),(231,y231),(232,y232),(233,y233),(234,y234),(235,y235),(236,y236),(237,y237),(238,y238),(239,y239),(240,y240),(241,y241)])),h)
 |_=>none)
 |false=>none)
 | .bool false=>
 ad (pu (bin Try.prog .eql 3 y74 (.int .i64 9)) h) fun y117 h=>
 ad (some (y117,h)) fun y116 h=>
 (match y116 with
 | .bool true=>
 let g34_0:=h
 ad (pu (aI (x 9) 0) g34_0) fun y119 g34_1=>
 ad (aV y119 g34_1) fun y120 g34_2=>
 ad (pu (aI y12 5) g34_2) fun y121 g34_3=>
 ad (aV y121 g34_3) fun y122 g34_4=>
 ad (C 24 [y122] g34_4) fun y123 g34_5=>
 ad (C 23 [y120,y123] g34_5) fun y124 g34_6=>
 ad (some (y124,g34_6)) fun y118 g34_7=>
 ad (pu (aA y118 0) g34_7) fun y125 g34_8=>
 ad (pu (aA y118 1) g34_8) fun y126 g34_9=>
 ad (some (y125,g34_9)) fun y20 g34_10=>
 ad (some (y126,g34_10)) fun y21 g34_11=>
 (match (bU true (aV y119 g34_5) y120&&true) with
 |true=>
 let h:=g34_11
 ad (some ((.slice none 0 0),h)) fun _y22 h=>
 ad (some ((.int .i64 0),h)) fun _y23 h=>
 ad (bD 6 (x 7) h) fun y128 h=>
 ad (pu (aI (x 9) 1) h) fun y129 h=>
 ad (bD 8 y129 h) fun y130 h=>
 ad (pu (aI y12 5) h) fun y131 h=>
 ad (aV y131 h) fun y132 h=>
 ad (C 40 [y128,y130,y132] h) fun y133 h=>
 ad (some (y133,h)) fun y127 h=>
 ad (pu (aA y127 0) h) fun y134 h=>
 ad (pu (aA y127 1) h) fun y135 h=>
 ad (pu (aA y127 2) h) fun y136 h=>
 ad (pu (aA y127 3) h) fun y137 h=>
 ad (bK 6 (x 7) y134 h) fun _ h=>
 ad (pu (aI (x 9) 1) h) fun y138 h=>
 ad (bK 8 y138 y135 h) fun _ h=>
 ad (some (y136,h)) fun y22_1 h=>
 ad (some (y137,h)) fun y23_1 h=>
 ad (some (y21,h)) fun y139 h=>
 ad (some (y23_1,h)) fun y140 h=>
 ad (pu (bin Try.prog .eql 28 y139 y140) h) fun y141 h=>
 ad (some (y141,h)) fun y142 h=>
 ad (ah (aO y142==some true) (some (y20,h)) h) fun y143 h=>
 ad (ah (aO y142==some true) (some (y22_1,h)) h) fun y144 h=>
 ad (ah (aO y142==some true) (C 52 [y143,y144] h) h) fun y145 h=>
 ad (match y142 with | .bool t=>some (if t then y145 else (.bool false),h)|_=>none) fun y146 h=>
 ad (some (y146,h)) fun y13_1 h=>
 let g38_0:=h
 ad (some (y13_1,g38_0)) fun y212 g38_1=>
 ad (pu (unA .not y212) g38_1) fun y213 g38_2=>
 ad (some (y213,g38_2)) fun y214 g38_3=>
 ad (ah (aO y214==some false) (bD 9 (x 9) g38_3) g38_3) fun y215 g38_4=>
 ad (ah (aO y214==some false) (bD 6 (x 7) g38_4) g38_4) fun y216 g38_5=>
 ad (ah (aO y214==some false) (C 45 [y215,y216] g38_5) g38_5) fun y217 g38_6=>
 ad (ah (aO y214==some false) (pu (unA .not y217) g38_6) g38_6) fun y218 g38_7=>
 ad (match y214 with | .bool t=>some (if t then (.bool true) else y218,g38_7)|_=>none) fun y219 g38_8=>
 ad (some (y219,g38_8)) fun y220 g38_9=>
 ad (ah (aO y220==some false) (bD 9 (x 10) g38_9) g38_9) fun y221 g38_10=>
 ad (ah (aO y220==some false) (bD 6 (x 7) g38_10) g38_10) fun y222 g38_11=>
 ad (ah (aO y220==some false) (C 45 [y221,y222] g38_11) g38_11) fun y223 g38_12=>
 ad (ah (aO y220==some false) (pu (unA .not y223) g38_12) g38_12) fun y224 g38_13=>
 ad (match y220 with | .bool t=>some (if t then (.bool true) else y224,g38_13)|_=>none) fun y225 g38_14=>
 ad (some (y225,g38_14)) fun y226 g38_15=>
 ad (ah (aO y226==some false) (some ((x 5),g38_15)) g38_15) fun y227 g38_16=>
 ad (ah (aO y226==some false) (C 36 [y227] g38_16) g38_16) fun y228 g38_17=>
 ad (ah (aO y226==some false) (pu (aI (x 7) 1) g38_17) g38_17) fun y229 g38_18=>
 ad (ah (aO y226==some false) (aV y229 g38_18) g38_18) fun y230 g38_19=>
 ad (ah (aO y226==some false) (pu (bin Try.prog .neq 4 y228 y230) g38_19) g38_19) fun y231 g38_20=>
 ad (match y226 with | .bool t=>some (if t then (.bool true) else y231,g38_20)|_=>none) fun y232 g38_21=>
 ad (some (y232,g38_21)) fun y233 g38_22=>
 ad (ah (aO y233==some false) (some ((x 5),g38_22)) g38_22) fun y234 g38_23=>
 ad (ah (aO y233==some false) (C 25 [y234] g38_23) g38_23) fun y235 g38_24=>
 ad (ah (aO y233==some false) (fB y235 g38_24) g38_24) fun y236 g38_25=>
 ad (ah (aO y233==some false) (pu (aI (x 7) 0) g38_25) g38_25) fun y237 g38_26=>
 ad (ah (aO y233==some false) (aV y237 g38_26) g38_26) fun y238 g38_27=>
 ad (ah (aO y233==some false) (fB y238 g38_27) g38_27) fun y239 g38_28=>
 ad (ah (aO y233==some false) (pu (bin Try.prog .neq 9 y236 y239) g38_28) g38_28) fun y240 g38_29=>
 ad (match y233 with | .bool t=>some (if t then (.bool true) else y240,g38_29)|_=>none) fun y241 g38_30=>
 (match (bU (aO y226==some false) (aV y229 g38_16) y230&&(bU (aO y233==some false) (aV y237 g38_23) y238&&(bU (aO y233==some false) (fB y238 g38_23) y239&&true))) with
 |true=>
 let h:=g38_30
 (match y241 with
 | .bool true=>
 ad (some ((.bool false),h)) fun y4 h=>
 some (.ret,(aZ 243 (up x [(4,y4),(12,y12),(13,y13_1),(20,y20),(21,y21),(22,y22_1),(23,y23_1),(63,y63),(64,y64),(65,y65),(66,y66),(69,y69),(70,y70),(71,y71),(72,y72),(73,y73),(74,y74),(82,y82),(83,y83),(116,y116),(117,y117),(118,y118),(119,y119),(120,y120),(121,y121),(122,y122),(123,y123),(124,y124),(125,y125),(126,y126),(127,y127),(128,y128),(129,y129),(130,y130),(131,y131),(132,y132),(133,y133),(134,y134),(135,y135),(136,y136),(137,y137),(138,y138),(139,y139),(140,y140),(141,y141),(142,y142),(143,y143),(144,y144),(145,y145),(146,y146),(212,y212),(213,y213),(214,y214),(215,y215),(216,y216),(217,y217),(218,y218),(219,y219),(220,y220),(221,y221),(222,y222),(223,y223),(224,y224),(225,y225),(226,y226),(227,y227),(228,y228),(229,y229),(230,y230),(231,y231),(232,y232),(233,y233),(234,y234),(235,y235),(236,y236),(237,y237),(238,y238),(239,y239),(240,y240),(241,y241)])),h)
 | .bool false=>
 ad (some ((x 11),h)) fun y67 h=>
 ad (pu (bin Try.prog .add 3 y67 (.int .i64 1)) h) fun y68 h=>
 ad (some (y68,h)) fun bQ h=>
 some (.normal,(aZ 243 (up x [(11,bQ),(12,y12),(13,y13_1),(20,y20),(21,y21),(22,y22_1),(23,y23_1),(63,y63),(64,y64),(65,y65),(66,y66),(67,y67),(68,y68),(69,y69),(70,y70),(71,y71),(72,y72),(73,y73),(74,y74),(82,y82),(83,y83),(116,y116),(117,y117),(118,y118),(119,y119),(120,y120),(121,y121),(122,y122),(123,y123),(124,y124),(125,y125),(126,y126),(127,y127),(128,y128),(129,y129),(130,y130),(131,y131),(132,y132),(133,y133),(134,y134),(135,y135),(136,y136),(137,y137),(138,y138),(139,y139),(140,y140),(141,y141),(142,y142),(143,y143),(144,y144),(145,y145),(146,y146),(212,y212),(213,y213),(214,y214),(215,y215),(216,y216),(217,y217),(218,y218),(219,y219),(220,y220),(221,y221),(222,y222),(223,y223),(224,y224),(225,y225),(226,y226),(227,y227),(228,y228),(229,y229),(230,y230),(231,y231),(232,y232),(233,y233),(234,y234),(235,y235),(236,y236),(237,y237),(238,y238),(239,y239),(240,y240),(241,y241)])),h)
 |_=>none)
 |false=>none)
 |false=>none)
 | .bool false=>
 ad (pu (bin Try.prog .eql 3 y74 (.int .i64 10)) h) fun y148 h=>
 ad (some (y148,h)) fun y147 h=>
 (match y147 with
 | .bool true=>
 let g41_0:=h
 ad (pu (aI (x 9) 0) g41_0) fun y150 g41_1=>
 ad (aV y150 g41_1) fun y151 g41_2=>
 ad (pu (aI y12 4) g41_2) fun y153 g41_3=>
 ad (aV y153 g41_3) fun y154 g41_4=>
 ad (dY 1 (.int .u8 0) 0 [] g41_4) fun y152 g41_5=>
 ad (bt 1 1 y152 y154 g41_5) fun y155 g41_6=>
 ad (C 27 [y151,y155] g41_6) fun y156 g41_7=>
 ad (some (y156,g41_7)) fun y149 g41_8=>
 ad (pu (aA y149 0) g41_8) fun y157 g41_9=>
 ad (pu (aA y149 1) g41_9) fun y158 g41_10=>
 ad (some (y157,g41_10)) fun y24 g41_11=>
 ad (some (y158,g41_11)) fun y25 g41_12=>
 (match (bU true (aV y150 g41_6) y151&&true) with
 |true=>
 let h:=g41_12
 ad (some ((.int .i64 0),h)) fun _y26 h=>
 ad (some ((.int .i64 0),h)) fun _y27 h=>
 ad (bD 6 (x 7) h) fun y160 h=>
 ad (pu (aI (x 9) 1) h) fun y161 h=>
 ad (bD 8 y161 h) fun y162 h=>
 ad (pu (aI y12 4) h) fun y163 h=>
 ad (aV y163 h) fun y164 h=>
 ad (C 42 [y160,y162,y164] h) fun y165 h=>
 ad (some (y165,h)) fun y159 h=>
 ad (pu (aA y159 0) h) fun y166 h=>
 ad (pu (aA y159 1) h) fun y167 h=>
 ad (pu (aA y159 2) h) fun y168 h=>
 ad (pu (aA y159 3) h) fun y169 h=>
 ad (bK 6 (x 7) y166 h) fun _ h=>
 ad (pu (aI (x 9) 1) h) fun y170 h=>
 ad (bK 8 y170 y167 h) fun _ h=>
 ad (some (y168,h)) fun y26_1 h=>
 ad (some (y169,h)) fun y27_1 h=>
 ad (some (y25,h)) fun y171 h=>
 ad (some (y27_1,h)) fun y172 h=>
 ad (pu (bin Try.prog .eql 28 y171 y172) h) fun y173 h=>
 ad (some (y173,h)) fun y174 h=>
 ad (ah (aO y174==some true) (some (y24,h)) h) fun y175 h=>
 ad (ah (aO y174==some true) (some (y26_1,h)) h) fun y176 h=>
 ad (ah (aO y174==some true) (pu (bin Try.prog .eql 3 y175 y176) h) h) fun y177 h=>
 ad (match y174 with | .bool t=>some (if t then y177 else (.bool false),h)|_=>none) fun y178 h=>
 ad (some (y178,h)) fun y13_1 h=>
 let g45_0:=h
 ad (some (y13_1,g45_0)) fun y212 g45_1=>
 ad (pu (unA .not y212) g45_1) fun y213 g45_2=>
 ad (some (y213,g45_2)) fun y214 g45_3=>
 ad (ah (aO y214==some false) (bD 9 (x 9) g45_3) g45_3) fun y215 g45_4=>
 ad (ah (aO y214==some false) (bD 6 (x 7) g45_4) g45_4) fun y216 g45_5=>
 ad (ah (aO y214==some false) (C 45 [y215,y216] g45_5) g45_5) fun y217 g45_6=>
 ad (ah (aO y214==some false) (pu (unA .not y217) g45_6) g45_6) fun y218 g45_7=>
 ad (match y214 with | .bool t=>some (if t then (.bool true) else y218,g45_7)|_=>none) fun y219 g45_8=>
 ad (some (y219,g45_8)) fun y220 g45_9=>
 ad (ah (aO y220==some false) (bD 9 (x 10) g45_9) g45_9) fun y221 g45_10=>
 ad (ah (aO y220==some false) (bD 6 (x 7) g45_10) g45_10) fun y222 g45_11=>
 ad (ah (aO y220==some false) (C 45 [y221,y222] g45_11) g45_11) fun y223 g45_12=>
 ad (ah (aO y220==some false) (pu (unA .not y223) g45_12) g45_12) fun y224 g45_13=>
 ad (match y220 with | .bool t=>some (if t then (.bool true) else y224,g45_13)|_=>none) fun y225 g45_14=>
 ad (some (y225,g45_14)) fun y226 g45_15=>
 ad (ah (aO y226==some false) (some ((x 5),g45_15)) g45_15) fun y227 g45_16=>
 ad (ah (aO y226==some false) (C 36 [y227] g45_16) g45_16) fun y228 g45_17=>
 ad (ah (aO y226==some false) (pu (aI (x 7) 1) g45_17) g45_17) fun y229 g45_18=>
 ad (ah (aO y226==some false) (aV y229 g45_18) g45_18) fun y230 g45_19=>
 ad (ah (aO y226==some false) (pu (bin Try.prog .neq 4 y228 y230) g45_19) g45_19) fun y231 g45_20=>
 ad (match y226 with | .bool t=>some (if t then (.bool true) else y231,g45_20)|_=>none) fun y232 g45_21=>
 ad (some (y232,g45_21)) fun y233 g45_22=>
 ad (ah (aO y233==some false) (some ((x 5),g45_22)) g45_22) fun y234 g45_23=>
 ad (ah (aO y233==some false) (C 25 [y234] g45_23) g45_23) fun y235 g45_24=>
 ad (ah (aO y233==some false) (fB y235 g45_24) g45_24) fun y236 g45_25=>
 ad (ah (aO y233==some false) (pu (aI (x 7) 0) g45_25) g45_25) fun y237 g45_26=>
 ad (ah (aO y233==some false) (aV y237 g45_26) g45_26) fun y238 g45_27=>
 ad (ah (aO y233==some false) (fB y238 g45_27) g45_27) fun y239 g45_28=>
 ad (ah (aO y233==some false) (pu (bin Try.prog .neq 9 y236 y239) g45_28) g45_28) fun y240 g45_29=>
 ad (match y233 with | .bool t=>some (if t then (.bool true) else y240,g45_29)|_=>none) fun y241 g45_30=>
 (match (bU (aO y226==some false) (aV y229 g45_16) y230&&(bU (aO y233==some false) (aV y237 g45_23) y238&&(bU (aO y233==some false) (fB y238 g45_23) y239&&true))) with
 |true=>
 let h:=g45_30
 (match y241 with
 | .bool true=>
 ad (some ((.bool false),h)) fun y4 h=>
 some (.ret,(aZ 243 (up x [(4,y4),(12,y12),(13,y13_1),(24,y24),(25,y25),(26,y26_1),(27,y27_1),(63,y63),(64,y64),(65,y65),(66,y66),(69,y69),(70,y70),(71,y71),(72,y72),(73,y73),(74,y74),(82,y82),(83,y83),(116,y116),(117,y117),(147,y147),(148,y148),(149,y149),(150,y150),(151,y151),(152,y152),(153,y153),(154,y154),(155,y155),(156,y156),(157,y157),(158,y158),(159,y159),(160,y160),(161,y161),(162,y162),(163,y163),(164,y164),(165,y165),(166,y166),(167,y167),(168,y168),(169,y169),(170,y170),(171,y171),(172,y172),(173,y173),(174,y174),(175,y175),(176,y176),(177,y177),(178,y178),(212,y212),(213,y213),(214,y214),(215,y215),(216,y216),(217,y217),(218,y218),(219,y219),(220,y220),(221,y221),(222,y222),(223,y223),(224,y224),(225,y225),(226,y226),(227,y227),(228,y228),(229,y229),(230,y230),(231,y231),(232,y232),(233,y233),(234,y234),(235,y235),(236,y236),(237,y237),(238,y238),(239,y239),(240,y240),(241,y241)])),h)
 | .bool false=>
 ad (some ((x 11),h)) fun y67 h=>
 ad (pu (bin Try.prog .add 3 y67 (.int .i64 1)) h) fun y68 h=>
 ad (some (y68,h)) fun bQ h=>
 some (.normal,(aZ 243 (up x [(11,bQ),(12,y12),(13,y13_1),(24,y24),(25,y25),(26,y26_1),(27,y27_1),(63,y63),(64,y64),(65,y65),(66,y66),(67,y67),(68,y68),(69,y69),(70,y70),(71,y71),(72,y72),(73,y73),(74,y74),(82,y82),(83,y83),(116,y116),(117,y117),(147,y147),(148,y148),(149,y149),(150,y150),(151,y151),(152,y152),(153,y153),(154,y154),(155,y155),(156,y156),(157,y157),(158,y158),(159,y159),(160,y160),(161,y161),(162,y162),(163,y163),(164,y164),(165,y165),(166,y166),(167,y167),(168,y168),(169,y169),(170,y170),(171,y171),(172,y172),(173,y173),(174,y174),(175,y175),(176,y176),(177,y177),(178,y178),(212,y212),(213,y213),(214,y214),(215,y215),(216,y216),(217,y217),(218,y218),(219,y219),(220,y220),(221,y221),(222,y222),(223,y223),(224,y224),(225,y225),(226,y226),(227,y227),(228,y228),(229,y229),(230,y230),(231,y231),(232,y232),(233,y233),(234,y234),(235,y235),(236,y236),(237,y237),(238,y238),(239,y239),(240,y240),(241,y241)])),h)
 |_=>none)
 |false=>none)
 |false=>none)
 | .bool false=>
 ad (pu (bin Try.prog .eql 3 y74 (.int .i64 11)) h) fun y180 h=>
 ad (some (y180,h)) fun y179 h=>
 (match y179 with
 | .bool true=>
 ad (pu (aI (x 9) 0) h) fun y182 h=>
 ad (aV y182 h) fun y183 h=>
 ad (pu (aI y12 1) h) fun y184 h=>
 ad (aV y184 h) fun y185 h=>
 ad (C 28 [y183,y185] h) fun y186 h=>
 ad (some (y186,h)) fun y181 h=>
 ad (pu (aA y181 0) h) fun y187 h=>
 ad (pu (aA y181 1) h) fun y188 h=>
 ad (some (y187,h)) fun y28 h=>
 ad (some (y188,h)) fun y29 h=>
 ad (bD 6 (x 7) h) fun y190 h=>
 ad (pu (aI (x 9) 1) h) fun y191 h=>
 ad (bD 8 y191 h) fun y192 h=>
 ad (pu (aI y12 1) h) fun y193 h=>
 ad (aV y193 h) fun y194 h=>
 ad (C 47 [y190,y192,y194] h) fun y195 h=>
 ad (some (y195,h)) fun y189 h=>
 ad (pu (aA y189 0) h) fun y196 h=>
 ad (pu (aA y189 1) h) fun y197 h=>
 ad (some (y196,h)) fun y30 h=>
 ad (some (y197,h)) fun y31 h=>
 ad (some (y29,h)) fun y198 h=>
 ad (some (y31,h)) fun y199 h=>
 ad (pu (bin Try.prog .eql 28 y198 y199) h) fun y200 h=>
 ad (some (y200,h)) fun y201 h=>
 ad (ah (aO y201==some true) (some (y28,h)) h) fun y202 h=>
 ad (ah (aO y201==some true) (fB y202 h) h) fun y203 h=>
 ad (ah (aO y201==some true) (some (y30,h)) h) fun y204 h=>
 ad (ah (aO y201==some true) (fB y204 h) h) fun y205 h=>
 ad (ah (aO y201==some true) (pu (bin Try.prog .eql 9 y203 y205) h) h) fun y206 h=>
 ad (match y201 with | .bool t=>some (if t then y206 else (.bool false),h)|_=>none) fun y207 h=>
 ad (some (y207,h)) fun y13_1 h=>
 let g49_0:=h
 ad (some (y13_1,g49_0)) fun y212 g49_1=>
 ad (pu (unA .not y212) g49_1) fun y213 g49_2=>
 ad (some (y213,g49_2)) fun y214 g49_3=>
 ad (ah (aO y214==some false) (bD 9 (x 9) g49_3) g49_3) fun y215 g49_4=>
 ad (ah (aO y214==some false) (bD 6 (x 7) g49_4) g49_4) fun y216 g49_5=>
 ad (ah (aO y214==some false) (C 45 [y215,y216] g49_5) g49_5) fun y217 g49_6=>
 ad (ah (aO y214==some false) (pu (unA .not y217) g49_6) g49_6) fun y218 g49_7=>
 ad (match y214 with | .bool t=>some (if t then (.bool true) else y218,g49_7)|_=>none) fun y219 g49_8=>
 ad (some (y219,g49_8)) fun y220 g49_9=>
 ad (ah (aO y220==some false) (bD 9 (x 10) g49_9) g49_9) fun y221 g49_10=>
 ad (ah (aO y220==some false) (bD 6 (x 7) g49_10) g49_10) fun y222 g49_11=>
 ad (ah (aO y220==some false) (C 45 [y221,y222] g49_11) g49_11) fun y223 g49_12=>
 ad (ah (aO y220==some false) (pu (unA .not y223) g49_12) g49_12) fun y224 g49_13=>
 ad (match y220 with | .bool t=>some (if t then (.bool true) else y224,g49_13)|_=>none) fun y225 g49_14=>
 ad (some (y225,g49_14)) fun y226 g49_15=>
 ad (ah (aO y226==some false) (some ((x 5),g49_15)) g49_15) fun y227 g49_16=>
 ad (ah (aO y226==some false) (C 36 [y227] g49_16) g49_16) fun y228 g49_17=>
 ad (ah (aO y226==some false) (pu (aI (x 7) 1) g49_17) g49_17) fun y229 g49_18=>
 ad (ah (aO y226==some false) (aV y229 g49_18) g49_18) fun y230 g49_19=>
 ad (ah (aO y226==some false) (pu (bin Try.prog .neq 4 y228 y230) g49_19) g49_19) fun y231 g49_20=>
 ad (match y226 with | .bool t=>some (if t then (.bool true) else y231,g49_20)|_=>none) fun y232 g49_21=>
 ad (some (y232,g49_21)) fun y233 g49_22=>
 ad (ah (aO y233==some false) (some ((x 5),g49_22)) g49_22) fun y234 g49_23=>
 ad (ah (aO y233==some false) (C 25 [y234] g49_23) g49_23) fun y235 g49_24=>
 ad (ah (aO y233==some false) (fB y235 g49_24) g49_24) fun y236 g49_25=>
 ad (ah (aO y233==some false) (pu (aI (x 7) 0) g49_25) g49_25) fun y237 g49_26=>
 ad (ah (aO y233==some false) (aV y237 g49_26) g49_26) fun y238 g49_27=>
 ad (ah (aO y233==some false) (fB y238 g49_27) g49_27) fun y239 g49_28=>
 ad (ah (aO y233==some false) (pu (bin Try.prog .neq 9 y236 y239) g49_28) g49_28) fun y240 g49_29=>
 ad (match y233 with | .bool t=>some (if t then (.bool true) else y240,g49_29)|_=>none) fun y241 g49_30=>
 (match (bU (aO y226==some false) (aV y229 g49_16) y230&&(bU (aO y233==some false) (aV y237 g49_23) y238&&(bU (aO y233==some false) (fB y238 g49_23) y239&&true))) with
 |true=>
 let h:=g49_30
 (match y241 with
 | .bool true=>
 ad (some ((.bool false),h)) fun y4 h=>
 some (.ret,(aZ 243 (up x [(4,y4),(12,y12),(13,y13_1),(28,y28),(29,y29),(30,y30),(31,y31),(63,y63),(64,y64),(65,y65),(66,y66),(69,y69),(70,y70),(71,y71),(72,y72),(73,y73),(74,y74),(82,y82),(83,y83),(116,y116),(117,y117),(147,y147),(148,y148),(179,y179),(180,y180),(181,y181),(182,y182),(183,y183),(184,y184),(185,y185),(186,y186),(187,y187),(188,y188),(189,y189),(190,y190),(191,y191),(192,y192),(193,y193),(194,y194),(195,y195),(196,y196),(197,y197),(198,y198),(199,y199),(200,y200),(201,y201),(202,y202),(203,y203),(204,y204),(205,y205),(206,y206),(207,y207),(212,y212),(213,y213),(214,y214),(215,y215),(216,y216),(217,y217),(218,y218),(219,y219),(220,y220),(221,y221),(222,y222),(223,y223),(224,y224),(225,y225),(226,y226),(227,y227),(228,y228),(229,y229),(230,y230),(231,y231),(232,y232),(233,y233),(234,y234),(235,y235),(236,y236),(237,y237),(238,y238),(239,y239),(240,y240),(241,y241)])),h)
 | .bool false=>
 ad (some ((x 11),h)) fun y67 h=>
 ad (pu (bin Try.prog .add 3 y67 (.int .i64 1)) h) fun y68 h=>
 ad (some (y68,h)) fun bQ h=>
 some (.normal,(aZ 243 (up x [(11,bQ),(12,y12),(13,y13_1),(28,y28),(29,y29),(30,y30),(31,y31),(63,y63),(64,y64),(65,y65),(66,y66),(67,y67),(68,y68),(69,y69),(70,y70),(71,y71),(72,y72),(73,y73),(74,y74),(82,y82),(83,y83),(116,y116),(117,y117),(147,y147),(148,y148),(179,y179),(180,y180),(181,y181),(182,y182),(183,y183),(184,y184),(185,y185),(186,y186),(187,y187),(188,y188),(189,y189),(190,y190),(191,y191),(192,y192),(193,y193),(194,y194),(195,y195),(196,y196),(197,y197),(198,y198),(199,y199),(200,y200),(201,y201),(202,y202),(203,y203),(204,y204),(205,y205),(206,y206),(207,y207),(212,y212),(213,y213),(214,y214),(215,y215),(216,y216),(217,y217),(218,y218),(219,y219),(220,y220),(221,y221),(222,y222),(223,y223),(224,y224),(225,y225),(226,y226),(227,y227),(228,y228),(229,y229),(230,y230),(231,y231),(232,y232),(233,y233),(234,y234),(235,y235),(236,y236),(237,y237),(238,y238),(239,y239),(240,y240),(241,y241)])),h)
 |_=>none)
 |false=>none)
 | .bool false=>
 ad (pu (bin Try.prog .eql 3 y74 (.int .i64 12)) h) fun y209 h=>
 ad (some (y209,h)) fun y208 h=>
 (match y208 with
 | .bool true=>
 ad (bD 9 (x 10) h) fun y210 h=>
 ad (bD 9 (x 9) h) fun y211 h=>
 ad (bK 9 (x 9) y210 h) fun _ h=>
 ad (bK 9 (x 10) y211 h) fun _ h=>
 let g51_0:=h
 ad (some (y13,g51_0)) fun y212 g51_1=>
 ad (pu (unA .not y212) g51_1) fun y213 g51_2=>
 ad (some (y213,g51_2)) fun y214 g51_3=>
 ad (ah (aO y214==some false) (bD 9 (x 9) g51_3) g51_3) fun y215 g51_4=>
 ad (ah (aO y214==some false) (bD 6 (x 7) g51_4) g51_4) fun y216 g51_5=>
 ad (ah (aO y214==some false) (C 45 [y215,y216] g51_5) g51_5) fun y217 g51_6=>
 ad (ah (aO y214==some false) (pu (unA .not y217) g51_6) g51_6) fun y218 g51_7=>
 ad (match y214 with | .bool t=>some (if t then (.bool true) else y218,g51_7)|_=>none) fun y219 g51_8=>
 ad (some (y219,g51_8)) fun y220 g51_9=>
 ad (ah (aO y220==some false) (bD 9 (x 10) g51_9) g51_9) fun y221 g51_10=>
 ad (ah (aO y220==some false) (bD 6 (x 7) g51_10) g51_10) fun y222 g51_11=>
 ad (ah (aO y220==some false) (C 45 [y221,y222] g51_11) g51_11) fun y223 g51_12=>
 ad (ah (aO y220==some false) (pu (unA .not y223) g51_12) g51_12) fun y224 g51_13=>
 ad (match y220 with | .bool t=>some (if t then (.bool true) else y224,g51_13)|_=>none) fun y225 g51_14=>
 ad (some (y225,g51_14)) fun y226 g51_15=>
 ad (ah (aO y226==some false) (some ((x 5),g51_15)) g51_15) fun y227 g51_16=>
 ad (ah (aO y226==some false) (C 36 [y227] g51_16) g51_16) fun y228 g51_17=>
 ad (ah (aO y226==some false) (pu (aI (x 7) 1) g51_17) g51_17) fun y229 g51_18=>
 ad (ah (aO y226==some false) (aV y229 g51_18) g51_18) fun y230 g51_19=>
 ad (ah (aO y226==some false) (pu (bin Try.prog .neq 4 y228 y230) g51_19) g51_19) fun y231 g51_20=>
 ad (match y226 with | .bool t=>some (if t then (.bool true) else y231,g51_20)|_=>none) fun y232 g51_21=>
 ad (some (y232,g51_21)) fun y233 g51_22=>
 ad (ah (aO y233==some false) (some ((x 5),g51_22)) g51_22) fun y234 g51_23=>
 ad (ah (aO y233==some false) (C 25 [y234] g51_23) g51_23) fun y235 g51_24=>
 ad (ah (aO y233==some false) (fB y235 g51_24) g51_24) fun y236 g51_25=>
 ad (ah (aO y233==some false) (pu (aI (x 7) 0) g51_25) g51_25) fun y237 g51_26=>
 ad (ah (aO y233==some false) (aV y237 g51_26) g51_26) fun y238 g51_27=>
 ad (ah (aO y233==some false) (fB y238 g51_27) g51_27) fun y239 g51_28=>
 ad (ah (aO y233==some false) (pu (bin Try.prog .neq 9 y236 y239) g51_28) g51_28) fun y240 g51_29=>
 ad (match y233 with | .bool t=>some (if t then (.bool true) else y240,g51_29)|_=>none) fun y241 g51_30=>
 (match (bU (aO y226==some false) (aV y229 g51_16) y230&&(bU (aO y233==some false) (aV y237 g51_23) y238&&(bU (aO y233==some false) (fB y238 g51_23) y239&&true))) with
 |true=>
 let h:=g51_30
 (match y241 with
 | .bool true=>
 ad (some ((.bool false),h)) fun y4 h=>
 some (.ret,(aZ 243 (up x [(4,y4),(12,y12),(13,y13),(63,y63),(64,y64),(65,y65),(66,y66),(69,y69),(70,y70),(71,y71),(72,y72),(73,y73),(74,y74),(82,y82),(83,y83),(116,y116),(117,y117),(147,y147),(148,y148),(179,y179),(180,y180),(208,y208),(209,y209),(210,y210),(211,y211),(212,y212),(213,y213),(214,y214),(215,y215),(216,y216),(217,y217),(218,y218),(219,y219),(220,y220),(221,y221),(222,y222),(223,y223),(224,y224),(225,y225),(226,y226),(227,y227),(228,y228),(229,y229),(230,y230),(231,y231),(232,y232),(233,y233),(234,y234),(235,y235),(236,y236),(237,y237),(238,y238),(239,y239),(240,y240),(241,y241)])),h)
 | .bool false=>
 ad (some ((x 11),h)) fun y67 h=>
 ad (pu (bin Try.prog .add 3 y67 (.int .i64 1)) h) fun y68 h=>
 ad (some (y68,h)) fun bQ h=>
 some (.normal,(aZ 243 (up x [(11,bQ),(12,y12),(13,y13),(63,y63),(64,y64),(65,y65),(66,y66),(67,y67),(68,y68),(69,y69),(70,y70),(71,y71),(72,y72),(73,y73),(74,y74),(82,y82),(83,y83),(116,y116),(117,y117),(147,y147),(148,y148),(179,y179),(180,y180),(208,y208),(209,y209),(210,y210),(211,y211),(212,y212),(213,y213),(214,y214),(215,y215),(216,y216),(217,y217),(218,y218),(219,y219),(220,y220),(221,y221),(222,y222),(223,y223),(224,y224),(225,y225),(226,y226),(227,y227),(228,y228),(229,y229),(230,y230),(231,y231),(232,y232),(233,y233),(234,y234),(235,y235),(236,y236),(237,y237),(238,y238),(239,y239),(240,y240),(241,y241)])),h)
 |_=>none)
 |false=>none)
 | .bool false=>
 ad (some ((x 5),h)) fun y76 h=>
 ad (bD 6 (x 7) h) fun y77 h=>
 ad (bD 6 y12 h) fun y78 h=>
 ad (C 49 [y76,y77,y78] h) fun y79 h=>
 ad (some (y79,h)) fun y75 h=>
 ad (pu (aA y75 0) h) fun y80 h=>
 ad (pu (aA y75 1) h) fun y81 h=>
 ad (bK 6 (x 7) y80 h) fun _ h=>
 ad (some (y81,h)) fun y13_1 h=>
 let g52_0:=h
 ad (some (y13_1,g52_0)) fun y212 g52_1=>
 ad (pu (unA .not y212) g52_1) fun y213 g52_2=>
 ad (some (y213,g52_2)) fun y214 g52_3=>
 ad (ah (aO y214==some false) (bD 9 (x 9) g52_3) g52_3) fun y215 g52_4=>
 ad (ah (aO y214==some false) (bD 6 (x 7) g52_4) g52_4) fun y216 g52_5=>
 ad (ah (aO y214==some false) (C 45 [y215,y216] g52_5) g52_5) fun y217 g52_6=>
 ad (ah (aO y214==some false) (pu (unA .not y217) g52_6) g52_6) fun y218 g52_7=>
 ad (match y214 with | .bool t=>some (if t then (.bool true) else y218,g52_7)|_=>none) fun y219 g52_8=>
 ad (some (y219,g52_8)) fun y220 g52_9=>
 ad (ah (aO y220==some false) (bD 9 (x 10) g52_9) g52_9) fun y221 g52_10=>
 ad (ah (aO y220==some false) (bD 6 (x 7) g52_10) g52_10) fun y222 g52_11=>
 ad (ah (aO y220==some false) (C 45 [y221,y222] g52_11) g52_11) fun y223 g52_12=>
 ad (ah (aO y220==some false) (pu (unA .not y223) g52_12) g52_12) fun y224 g52_13=>
 ad (match y220 with | .bool t=>some (if t then (.bool true) else y224,g52_13)|_=>none) fun y225 g52_14=>
 ad (some (y225,g52_14)) fun y226 g52_15=>
 ad (ah (aO y226==some false) (some ((x 5),g52_15)) g52_15) fun y227 g52_16=>
 ad (ah (aO y226==some false) (C 36 [y227] g52_16) g52_16) fun y228 g52_17=>
 ad (ah (aO y226==some false) (pu (aI (x 7) 1) g52_17) g52_17) fun y229 g52_18=>
 ad (ah (aO y226==some false) (aV y229 g52_18) g52_18) fun y230 g52_19=>
 ad (ah (aO y226==some false) (pu (bin Try.prog .neq 4 y228 y230) g52_19) g52_19) fun y231 g52_20=>
 ad (match y226 with | .bool t=>some (if t then (.bool true) else y231,g52_20)|_=>none) fun y232 g52_21=>
 ad (some (y232,g52_21)) fun y233 g52_22=>
 ad (ah (aO y233==some false) (some ((x 5),g52_22)) g52_22) fun y234 g52_23=>
 ad (ah (aO y233==some false) (C 25 [y234] g52_23) g52_23) fun y235 g52_24=>
 ad (ah (aO y233==some false) (fB y235 g52_24) g52_24) fun y236 g52_25=>
 ad (ah (aO y233==some false) (pu (aI (x 7) 0) g52_25) g52_25) fun y237 g52_26=>
 ad (ah (aO y233==some false) (aV y237 g52_26) g52_26) fun y238 g52_27=>
 ad (ah (aO y233==some false) (fB y238 g52_27) g52_27) fun y239 g52_28=>
 ad (ah (aO y233==some false) (pu (bin Try.prog .neq 9 y236 y239) g52_28) g52_28) fun y240 g52_29=>
 ad (match y233 with | .bool t=>some (if t then (.bool true) else y240,g52_29)|_=>none) fun y241 g52_30=>
 (match (bU (aO y226==some false) (aV y229 g52_16) y230&&(bU (aO y233==some false) (aV y237 g52_23) y238&&(bU (aO y233==some false) (fB y238 g52_23) y239&&true))) with
 |true=>
 let h:=g52_30
 (match y241 with
 | .bool true=>
 ad (some ((.bool false),h)) fun y4 h=>
 some (.ret,(aZ 243 (up x [(4,y4),(12,y12),(13,y13_1),(63,y63),(64,y64),(65,y65),(66,y66),(69,y69),(70,y70),(71,y71),(72,y72),(73,y73),(74,y74),(75,y75),(76,y76),(77,y77),(78,y78),(79,y79),(80,y80),(81,y81),(82,y82),(83,y83),(116,y116),(117,y117),(147,y147),(148,y148),(179,y179),(180,y180),(208,y208),(209,y209),(212,y212),(213,y213),(214,y214),(215,y215),(216,y216),(217,y217),(218,y218),(219,y219),(220,y220),(221,y221),(222,y222),(223,y223),(224,y224),(225,y225),(226,y226),(227,y227),(228,y228),(229,y229),(230,y230),(231,y231),(232,y232),(233,y233),(234,y234),(235,y235),(236,y236),(237,y237),(238,y238),(239,y239),(240,y240),(241,y241)])),h)
 | .bool false=>
 ad (some ((x 11),h)) fun y67 h=>
 ad (pu (bin Try.prog .add 3 y67 (.int .i64 1)) h) fun y68 h=>
 ad (some (y68,h)) fun bQ h=>
 some (.normal,(aZ 243 (up x [(11,bQ),(12,y12),(13,y13_1),(63,y63),(64,y64),(65,y65),(66,y66),(67,y67),(68,y68),(69,y69),(70,y70),(71,y71),(72,y72),(73,y73),(74,y74),(75,y75),(76,y76),(77,y77),(78,y78),(79,y79),(80,y80),(81,y81),(82,y82),(83,y83),(116,y116),(117,y117),(147,y147),(148,y148),(179,y179),(180,y180),(208,y208),(209,y209),(212,y212),(213,y213),(214,y214),(215,y215),(216,y216),(217,y217),(218,y218),(219,y219),(220,y220),(221,y221),(222,y222),(223,y223),(224,y224),(225,y225),(226,y226),(227,y227),(228,y228),(229,y229),(230,y230),(231,y231),(232,y232),(233,y233),(234,y234),(235,y235),(236,y236),(237,y237),(238,y238),(239,y239),(240,y240),(241,y241)])),h)
 |_=>none)
 |false=>none)
 |_=>none)
 |_=>none)
 |_=>none)
 |_=>none)
 |_=>none)
 | .bool false=>
 some (.exit 0,(aZ 243 (up x [(63,y63),(64,y64),(65,y65),(66,y66)])),h)
 |_=>none)
theorem t13_eq (C:ak) (x0 x1:Value) (h:af):bk Try.prog C Try.f13 [x0,x1] h=t13 C x0 x1 h:=
 (aN Try.prog C Try.f13 [x0,x1] h (by kernel_rfl)).trans (by kernel_rfl)
theorem t13k13_10_eq (C:ak) (x:Nat→Value) (h:af):k13_10 C (aZ 243 x) h=t13k13_10 C x h:=
 bo (b:=(partOf Try.f13 [1,1,1,1,1,1,1])) (kE:=(al Try.prog Try.f13.results.toList)) (rE:=(al Try.prog Try.f13.results.toList)) (xE:=(fun _ _ _=>none)) (T:=t13k13_10 C) (fun x h=>by kernel_rfl) x h
theorem t13l13_111111010_eq (C:ak) (x:Nat→Value) (h:af):aL Try.prog C (partOf Try.f13 [1,1,1,1,1,1,0,1,0,0]) (aZ 243 x) h=bu C x h:=
 bg (T:=bu C) (fun x h=>by kernel_rfl) x h
end Go.Proofs.Ytcmfgmhadeeieaa

