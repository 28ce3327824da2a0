/-
  A part of the proof, spaces and names shortened by a program (a claim may hold 1,500,000 bytes).
  Conditions: as each theorem states.
-/
import Derived.Test.YtjghlcdidopcpaaGreatDoorG6
import Derived.Test.YtjghlcdidopcpaaGreatDoorProg
import Derived.KernelRfl
namespace Go.Proofs.YtjghlcdidopcpaaGreatDoor
open Go Go.Abs
noncomputable def k25s0 (C:av) (e:Env) (h:ak):Out:=br Tryz.prog C (partOf Tryz.f25 []) e h (ax Tryz.prog Tryz.f25.results.toList) (ax Tryz.prog Tryz.f25.results.toList) (fun _ _ _=>none)
noncomputable def k25s1 (C:av) (e:Env) (h:ak):Out:=br Tryz.prog C (partOf Tryz.f25 [1]) e h (ax Tryz.prog Tryz.f25.results.toList) (ax Tryz.prog Tryz.f25.results.toList) (fun _ _ _=>none)
noncomputable def k25s2 (C:av) (e:Env) (h:ak):Out:=br Tryz.prog C (partOf Tryz.f25 [1,1]) e h (ax Tryz.prog Tryz.f25.results.toList) (ax Tryz.prog Tryz.f25.results.toList) (fun _ _ _=>none)
noncomputable def k25s3 (C:av) (e:Env) (h:ak):Out:=br Tryz.prog C (partOf Tryz.f25 [1,1,1]) e h (ax Tryz.prog Tryz.f25.results.toList) (ax Tryz.prog Tryz.f25.results.toList) (fun _ _ _=>none)
noncomputable def k25s4 (C:av) (e:Env) (h:ak):Out:=br Tryz.prog C (partOf Tryz.f25 [1,1,1,1]) e h (ax Tryz.prog Tryz.f25.results.toList) (ax Tryz.prog Tryz.f25.results.toList) (fun _ _ _=>none)
noncomputable def k25s5 (C:av) (e:Env) (h:ak):Out:=br Tryz.prog C (partOf Tryz.f25 [1,1,1,1,1]) e h (ax Tryz.prog Tryz.f25.results.toList) (ax Tryz.prog Tryz.f25.results.toList) (fun _ _ _=>none)
noncomputable def k25s6 (C:av) (e:Env) (h:ak):Out:=br Tryz.prog C (partOf Tryz.f25 [1,1,1,1,1,1]) e h (ax Tryz.prog Tryz.f25.results.toList) (ax Tryz.prog Tryz.f25.results.toList) (fun _ _ _=>none)
noncomputable def b25_8 (C:av) (i:Nat) (e:Env) (h:ak):Out:=if i=0 then (k25s5 C) e h else (fun _ _ _=>none) i e h
noncomputable def t25s0 (C:av) (x:Nat→Value) (h:ak):Out:=
 ae (box (x 0) h) fun y1 h=>
 ae (some ((.bool false),h)) fun y2 h=>
 k25s1 C (aX 142 (up x [(1,y1),(2,y2)])) h
noncomputable def t25s1 (C:av) (x:Nat→Value) (h:ak):Out:=
 let g1_0:=h
 ae (pu (az (x 1) 0) g1_0) fun y4 g1_1=>
 ae (aK y4 g1_1) fun y5 g1_2=>
 ae (pu (bin Tryz.prog .lss 24 y5 (.int .u8 1)) g1_2) fun y6 g1_3=>
 ae (some (y6,g1_3)) fun y7 g1_4=>
 ae (al (aH y7==some false) (pu (az (x 1) 0) g1_4) g1_4) fun y8 g1_5=>
 ae (al (aH y7==some false) (aK y8 g1_5) g1_5) fun y9 g1_6=>
 ae (al (aH y7==some false) (pu (bin Tryz.prog .gtr 24 y9 (.int .u8 13)) g1_6) g1_6) fun y10 g1_7=>
 ae (match y7 with | .bool t=>some (if t then (.bool true) else y10,g1_7)|_=>none) fun y11 g1_8=>
 ae (some (y11,g1_8)) fun y12 g1_9=>
 ae (al (aH y12==some false) (pu (az (x 1) 1) g1_9) g1_9) fun y13 g1_10=>
 ae (al (aH y12==some false) (aK y13 g1_10) g1_10) fun y14 g1_11=>
 ae (al (aH y12==some false) (C 59 [y14] g1_11) g1_11) fun y15 g1_12=>
 ae (al (aH y12==some false) (pu (unA .not y15) g1_12) g1_12) fun y16 g1_13=>
 ae (match y12 with | .bool t=>some (if t then (.bool true) else y16,g1_13)|_=>none) fun y17 g1_14=>
 ae (some (y17,g1_14)) fun y18 g1_15=>
 ae (al (aH y18==some false) (pu (az (x 1) 2) g1_15) g1_15) fun y19 g1_16=>
 ae (al (aH y18==some false) (aK y19 g1_16) g1_16) fun y20 g1_17=>
 ae (al (aH y18==some false) (C 59 [y20] g1_17) g1_17) fun y21 g1_18=>
 ae (al (aH y18==some false) (pu (unA .not y21) g1_18) g1_18) fun y22 g1_19=>
 ae (match y18 with | .bool t=>some (if t then (.bool true) else y22,g1_19)|_=>none) fun y23 g1_20=>
 ae (some (y23,g1_20)) fun y24 g1_21=>
 ae (al (aH y24==some false) (pu (az (x 1) 1) g1_21) g1_21) fun y25 g1_22=>
 ae (al (aH y24==some false) (aK y25 g1_22) g1_22) fun y26 g1_23=>
 ae (al (aH y24==some false) (pu (az (x 1) 2) g1_23) g1_23) fun y27 g1_24=>
 ae (al (aH y24==some false) (aK y27 g1_24) g1_24) fun y28 g1_25=>
 ae (al (aH y24==some false) (pu (bin Tryz.prog .eql 3 y26 y28) g1_25) g1_25) fun y29 g1_26=>
 ae (match y24 with | .bool t=>some (if t then (.bool true) else y29,g1_26)|_=>none) fun y30 g1_27=>
 ae (some (y30,g1_27)) fun y31 g1_28=>
 ae (al (aH y31==some false) (bP 116 (x 1) g1_28) g1_28) fun y32 g1_29=>
 ae (al (aH y31==some false) (bP 116 (x 1) g1_29) g1_29) fun y33 g1_30=>
 ae (al (aH y31==some false) (C 60 [y33] g1_30) g1_30) fun y34 g1_31=>
 ae (al (aH y31==some false) (C 15 [y32,y34] g1_31) g1_31) fun y35 g1_32=>
 ae (al (aH y31==some false) (pu (unA .not y35) g1_32) g1_32) fun y36 g1_33=>
 ae (match y31 with | .bool t=>some (if t then (.bool true) else y36,g1_33)|_=>none) fun y37 g1_34=>
 (match (cF (aH y31==some false) (bP 116 (x 1) g1_31) y32&&true) with
 |true=>
 let h:=g1_34
 (match y37 with
 | .bool true=>
 ae (some ((.bool false),h)) fun y2 h=>
 some (y2,h)
 | .bool false=>
 k25s2 C (aX 142 (up x [(4,y4),(5,y5),(6,y6),(7,y7),(8,y8),(9,y9),(10,y10),(11,y11),(12,y12),(13,y13),(14,y14),(15,y15),(16,y16),(17,y17),(18,y18),(19,y19),(20,y20),(21,y21),(22,y22),(23,y23),(24,y24),(25,y25),(26,y26),(27,y27),(28,y28),(29,y29),(30,y30),(31,y31),(32,y32),(33,y33),(34,y34),(35,y35),(36,y36),(37,y37)])) h
 |_=>none)
 |false=>none)
noncomputable def t25s2 (C:av) (x:Nat→Value) (h:ak):Out:=
 ae (pu (az (x 1) 0) h) fun y38 h=>
 ae (aK y38 h) fun y39 h=>
 ae (pu (bin Tryz.prog .leq 24 y39 (.int .u8 3)) h) fun y40 h=>
 ae (some (y40,h)) fun y41 h=>
 ae (al (aH y41==some true) (pu (az (x 1) 4) h) h) fun y42 h=>
 ae (al (aH y41==some true) (aK y42 h) h) fun y43 h=>
 ae (al (aH y41==some true) (C 59 [y43] h) h) fun y44 h=>
 ae (al (aH y41==some true) (pu (unA .not y44) h) h) fun y45 h=>
 ae (al (aH y41==some true) (some (y45,h)) h) fun y46 h=>
 ae (al (aH y46==some false) (pu (az (x 1) 5) h) h) fun y47 h=>
 ae (al (aH y46==some false) (aK y47 h) h) fun y48 h=>
 ae (al (aH y46==some false) (C 59 [y48] h) h) fun y49 h=>
 ae (al (aH y46==some false) (pu (unA .not y49) h) h) fun y50 h=>
 ae (al (aH y41==some true) (match y46 with | .bool t=>some (if t then (.bool true) else y50,h)|_=>none) h) fun y51 h=>
 ae (al (aH y41==some true) (some (y51,h)) h) fun y52 h=>
 ae (al (aH y52==some false) (pu (az (x 1) 6) h) h) fun y53 h=>
 ae (al (aH y52==some false) (aK y53 h) h) fun y54 h=>
 ae (al (aH y52==some false) (C 61 [y54] h) h) fun y55 h=>
 ae (al (aH y52==some false) (pu (unA .not y55) h) h) fun y56 h=>
 ae (al (aH y41==some true) (match y52 with | .bool t=>some (if t then (.bool true) else y56,h)|_=>none) h) fun y57 h=>
 ae (match y41 with | .bool t=>some (if t then y57 else (.bool false),h)|_=>none) fun y58 h=>
 (match y58 with
 | .bool true=>
 ae (some ((.bool false),h)) fun y2 h=>
 some (y2,h)
 | .bool false=>
 k25s3 C (aX 142 (up x [(38,y38),(39,y39),(40,y40),(41,y41),(42,y42),(43,y43),(44,y44),(45,y45),(46,y46),(47,y47),(48,y48),(49,y49),(50,y50),(51,y51),(52,y52),(53,y53),(54,y54),(55,y55),(56,y56),(57,y57),(58,y58)])) h
 |_=>none)
noncomputable def t25s3 (C:av) (x:Nat→Value) (h:ak):Out:=
 ae (pu (az (x 1) 7) h) fun y59 h=>
 ae (aK y59 h) fun y60 h=>
 ae (pu (bE y60) h) fun y61 h=>
 ae (pu (bin Tryz.prog .gtr 3 y61 (.int .i64 34)) h) fun y62 h=>
 ae (some (y62,h)) fun y63 h=>
 ae (al (aH y63==some false) (pu (az (x 1) 8) h) h) fun y64 h=>
 ae (al (aH y63==some false) (aK y64 h) h) fun y65 h=>
 ae (al (aH y63==some false) (pu (bE y65) h) h) fun y66 h=>
 ae (al (aH y63==some false) (pu (bin Tryz.prog .gtr 3 y66 (.int .i64 34)) h) h) fun y67 h=>
 ae (match y63 with | .bool t=>some (if t then (.bool true) else y67,h)|_=>none) fun y68 h=>
 ae (some (y68,h)) fun y69 h=>
 ae (al (aH y69==some false) (pu (az (x 1) 9) h) h) fun y70 h=>
 ae (al (aH y69==some false) (aK y70 h) h) fun y71 h=>
 ae (al (aH y69==some false) (pu (bin Tryz.prog .lss 3 y71 (.int .i64 0)) h) h) fun y72 h=>
 ae (match y69 with | .bool t=>some (if t then (.bool true) else y72,h)|_=>none) fun y73 h=>
 ae (some (y73,h)) fun y74 h=>
 ae (al (aH y74==some false) (pu (az (x 1) 9) h) h) fun y75 h=>
 ae (al (aH y74==some false) (aK y75 h) h) fun y76 h=>
 ae (al (aH y74==some false) (pu (bin Tryz.prog .gtr 3 y76 (.int .i64 1048576)) h) h) fun y77 h=>
 ae (match y74 with | .bool t=>some (if t then (.bool true) else y77,h)|_=>none) fun y78 h=>
 ae (some (y78,h)) fun y79 h=>
 ae (al (aH y79==some false) (pu (az (x 1) 42) h) h) fun y80 h=>
 ae (al (aH y79==some false) (aK y80 h) h) fun y81 h=>
 ae (al (aH y79==some false) (pu (bE y81) h) h) fun y82 h=>
 ae (al (aH y79==some false) (pu (bin Tryz.prog .gtr 3 y82 (.int .i64 64)) h) h) fun y83 h=>
 ae (match y79 with | .bool t=>some (if t then (.bool true) else y83,h)|_=>none) fun y84 h=>
 ae (some (y84,h)) fun y85 h=>
 ae (al (aH y85==some false) (pu (az (x 1) 115) h) h) fun y86 h=>
 ae (al (aH y85==some false) (aK y86 h) h) fun y87 h=>
 ae (al (aH y85==some false) (pu (bin Tryz.prog .lss 35 y87 (.int .i64 0)) h) h) fun y88 h=>
 ae (match y85 with | .bool t=>some (if t then (.bool true) else y88,h)|_=>none) fun y89 h=>
 ae (some (y89,h)) fun y90 h=>
 ae (al (aH y90==some false) (pu (az (x 1) 115) h) h) fun y91 h=>
 ae (al (aH y90==some false) (aK y91 h) h) fun y92 h=>
 ae (al (aH y90==some false) (pu (bin Tryz.prog .gtr 35 y92 (.int .i64 999)) h) h) fun y93 h=>
 ae (match y90 with | .bool t=>some (if t then (.bool true) else y93,h)|_=>none) fun y94 h=>
 (match y94 with
 | .bool true=>
 ae (some ((.bool false),h)) fun y2 h=>
 some (y2,h)
 | .bool false=>
 k25s4 C (aX 142 (up x [(59,y59),(60,y60),(61,y61),(62,y62),(63,y63),(64,y64),(65,y65),(66,y66),(67,y67),(68,y68),(69,y69),(70,y70),(71,y71),(72,y72),(73,y73),(74,y74),(75,y75),(76,y76),(77,y77),(78,y78),(79,y79),(80,y80),(81,y81),(82,y82),(83,y83),(84,y84),(85,y85),(86,y86),(87,y87),(88,y88),(89,y89),(90,y90),(91,y91),(92,y92),(93,y93),(94,y94)])) h
 |_=>none)
noncomputable def t25s4 (C:av) (x:Nat→Value) (h:ak):Out:=
 ae (some ((.int .i64 0),h)) fun y3 h=>
 ei (iter (aL Tryz.prog C (partOf Tryz.f25 [1,1,1,1,0,1,0,0])) rounds (aX 142 (up x [(3,y3)])) h) (ax Tryz.prog Tryz.f25.results.toList) (b25_8 C)
noncomputable def t25s5 (C:av) (x:Nat→Value) (h:ak):Out:=
 ae (pu (az (x 1) 0) h) fun y109 h=>
 ae (aK y109 h) fun y110 h=>
 ae (pu (bin Tryz.prog .eql 24 y110 (.int .u8 8)) h) fun y111 h=>
 ae (some (y111,h)) fun y112 h=>
 ae (al (aH y112==some false) (pu (az (x 1) 0) h) h) fun y113 h=>
 ae (al (aH y112==some false) (aK y113 h) h) fun y114 h=>
 ae (al (aH y112==some false) (pu (bin Tryz.prog .eql 24 y114 (.int .u8 10)) h) h) fun y115 h=>
 ae (match y112 with | .bool t=>some (if t then (.bool true) else y115,h)|_=>none) fun y116 h=>
 (match y116 with
 | .bool true=>
 ae (pu (az (x 1) 76) h) fun y117 h=>
 ae (bP 37 y117 h) fun y118 h=>
 ae (C 63 [y118] h) fun y119 h=>
 ae (some (y119,h)) fun y120 h=>
 ae (al (aH y120==some true) (pu (az (x 1) 113) h) h) fun y121 h=>
 ae (al (aH y120==some true) (pu (az y121 0) h) h) fun y122 h=>
 ae (al (aH y120==some true) (aK y122 h) h) fun y123 h=>
 ae (al (aH y120==some true) (pu (bin Tryz.prog .geq 3 y123 (.int .i64 0)) h) h) fun y124 h=>
 ae (match y120 with | .bool t=>some (if t then y124 else (.bool false),h)|_=>none) fun y125 h=>
 ae (some (y125,h)) fun y126 h=>
 ae (al (aH y126==some true) (pu (az (x 1) 113) h) h) fun y127 h=>
 ae (al (aH y126==some true) (pu (az y127 0) h) h) fun y128 h=>
 ae (al (aH y126==some true) (aK y128 h) h) fun y129 h=>
 ae (al (aH y126==some true) (pu (az (x 1) 76) h) h) fun y130 h=>
 ae (al (aH y126==some true) (pu (az y130 2) h) h) fun y131 h=>
 ae (al (aH y126==some true) (aK y131 h) h) fun y132 h=>
 ae (al (aH y126==some true) (pu (bin Tryz.prog .lss 3 y129 y132) h) h) fun y133 h=>
 ae (match y126 with | .bool t=>some (if t then y133 else (.bool false),h)|_=>none) fun y134 h=>
 ae (some (y134,h)) fun y135 h=>
 ae (al (aH y135==some true) (pu (az (x 1) 113) h) h) fun y136 h=>
 ae (al (aH y135==some true) (pu (az y136 1) h) h) fun y137 h=>
 ae (al (aH y135==some true) (aK y137 h) h) fun y138 h=>
 ae (al (aH y135==some true) (pu (bE y138) h) h) fun y139 h=>
 ae (al (aH y135==some true) (pu (bin Tryz.prog .leq 3 y139 (.int .i64 8192)) h) h) fun y140 h=>
 ae (match y135 with | .bool t=>some (if t then y140 else (.bool false),h)|_=>none) fun y141 h=>
 ae (some (y141,h)) fun y2 h=>
 some (y2,h)
 | .bool false=>
 k25s6 C (aX 142 (up x [(109,y109),(110,y110),(111,y111),(112,y112),(113,y113),(114,y114),(115,y115),(116,y116)])) h
 |_=>none)
noncomputable def t25s6 (_C:av) (_x:Nat→Value) (h:ak):Out:=
 ae (some ((.bool true),h)) fun y2 h=>
 some (y2,h)
noncomputable def fM (C:av) (x:Nat→Value) (h:ak):Option (Ex×Env×ak):=
 ae (some ((x 3),h)) fun y95 h=>
 ae (pu (az (x 1) 42) h) fun y96 h=>
 ae (aK y96 h) fun y97 h=>
 ae (pu (bE y97) h) fun y98 h=>
 ae (pu (bin Tryz.prog .lss 3 y95 y98) h) fun y99 h=>
 (match y99 with
 | .bool true=>
 ae (pu (az (x 1) 42) h) fun y102 h=>
 ae (aK y102 h) fun y103 h=>
 ae (some ((x 3),h)) fun y104 h=>
 ae (pu (cD 39 y103 y104) h) fun y105 h=>
 ae (bP 39 y105 h) fun y106 h=>
 ae (C 62 [y106] h) fun y107 h=>
 ae (pu (unA .not y107) h) fun y108 h=>
 (match y108 with
 | .bool true=>
 ae (some ((.bool false),h)) fun y2 h=>
 some (.ret,(aX 142 (up x [(2,y2),(95,y95),(96,y96),(97,y97),(98,y98),(99,y99),(102,y102),(103,y103),(104,y104),(105,y105),(106,y106),(107,y107),(108,y108)])),h)
 | .bool false=>
 ae (some ((x 3),h)) fun y100 h=>
 ae (pu (bin Tryz.prog .add 3 y100 (.int .i64 1)) h) fun y101 h=>
 ae (some (y101,h)) fun y3 h=>
 some (.normal,(aX 142 (up x [(3,y3),(95,y95),(96,y96),(97,y97),(98,y98),(99,y99),(100,y100),(101,y101),(102,y102),(103,y103),(104,y104),(105,y105),(106,y106),(107,y107),(108,y108)])),h)
 |_=>none)
 | .bool false=>
 some (.exit 0,(aX 142 (up x [(95,y95),(96,y96),(97,y97),(98,y98),(99,y99)])),h)
 |_=>none)
theorem t25s0_eq (C:av) (x:Nat→Value) (h:ak):k25s0 C (aX 142 x) h=t25s0 C x h:=
 cH (a:=partOf Tryz.f25 [0]) (c:=partOf Tryz.f25 [1]) (by kernel_rfl) (k25s1 C) rfl (T:=t25s0 C) (fun x h=>by kernel_rfl) x h
theorem t25s1_eq (C:av) (x:Nat→Value) (h:ak):k25s1 C (aX 142 x) h=t25s1 C x h:=
 cH (a:=partOf Tryz.f25 [1,0]) (c:=partOf Tryz.f25 [1,1]) (by kernel_rfl) (k25s2 C) rfl (T:=t25s1 C) (fun x h=>by kernel_rfl) x h
theorem t25s2_eq (C:av) (x:Nat→Value) (h:ak):k25s2 C (aX 142 x) h=t25s2 C x h:=
 cH (a:=partOf Tryz.f25 [1,1,0]) (c:=partOf Tryz.f25 [1,1,1]) (by kernel_rfl) (k25s3 C) rfl (T:=t25s2 C) (fun x h=>by kernel_rfl) x h
theorem t25s3_eq (C:av) (x:Nat→Value) (h:ak):k25s3 C (aX 142 x) h=t25s3 C x h:=
 cH (a:=partOf Tryz.f25 [1,1,1,0]) (c:=partOf Tryz.f25 [1,1,1,1]) (by kernel_rfl) (k25s4 C) rfl (T:=t25s3 C) (fun x h=>by kernel_rfl) x h
theorem t25s4_eq (C:av) (x:Nat→Value) (h:ak):k25s4 C (aX 142 x) h=t25s4 C x h:=
 cH (a:=partOf Tryz.f25 [1,1,1,1,0]) (c:=partOf Tryz.f25 [1,1,1,1,1]) (by kernel_rfl) (k25s5 C) rfl (T:=t25s4 C) (fun x h=>by kernel_rfl) x h
theorem t25s5_eq (C:av) (x:Nat→Value) (h:ak):k25s5 C (aX 142 x) h=t25s5 C x h:=
 cH (a:=partOf Tryz.f25 [1,1,1,1,1,0]) (c:=partOf Tryz.f25 [1,1,1,1,1,1]) (by kernel_rfl) (k25s6 C) rfl (T:=t25s5 C) (fun x h=>by kernel_rfl) x h
theorem t25s6_eq (C:av) (x:Nat→Value) (h:ak):k25s6 C (aX 142 x) h=t25s6 C x h:=
 bq (b:=partOf Tryz.f25 [1,1,1,1,1,1]) (kE:=(ax Tryz.prog Tryz.f25.results.toList)) (rE:=(ax Tryz.prog Tryz.f25.results.toList)) (xE:=(fun _ _ _=>none)) (T:=t25s6 C) (fun x h=>by kernel_rfl) x h
theorem t25_eq (C:av) (x0:Value) (h:ak):aY Tryz.prog C Tryz.f25 [x0] h=k25s0 C (aX 142 (bs [x0])) h:=by kernel_rfl
theorem t25l25_1111010_eq (C:av) (x:Nat→Value) (h:ak):aL Tryz.prog C (partOf Tryz.f25 [1,1,1,1,0,1,0,0]) (aX 142 x) h=fM C x h:=
 bn (T:=fM C) (fun x h=>by kernel_rfl) x h
end Go.Proofs.YtjghlcdidopcpaaGreatDoor

namespace Go.Proofs.YtjghlcdidopcpaaGreatDoor
open Go Go.Abs
end Go.Proofs.YtjghlcdidopcpaaGreatDoor

namespace Go.Proofs.YtjghlcdidopcpaaGreatDoor
open Go Go.Abs
end Go.Proofs.YtjghlcdidopcpaaGreatDoor

namespace Go.Proofs.YtjghlcdidopcpaaGreatDoor
open Go Go.Abs
end Go.Proofs.YtjghlcdidopcpaaGreatDoor

namespace Go.Proofs.YtjghlcdidopcpaaGreatDoor
open Go Go.Abs
end Go.Proofs.YtjghlcdidopcpaaGreatDoor

namespace Go.Proofs.YtjghlcdidopcpaaGreatDoor
open Go Go.Abs
end Go.Proofs.YtjghlcdidopcpaaGreatDoor

namespace Go.Proofs.YtjghlcdidopcpaaGreatDoor
open Go Go.Abs
end Go.Proofs.YtjghlcdidopcpaaGreatDoor

namespace Go.Proofs.YtjghlcdidopcpaaGreatDoor
open Go Go.Abs
end Go.Proofs.YtjghlcdidopcpaaGreatDoor

namespace Go.Proofs.YtjghlcdidopcpaaGreatDoor
open Go Go.Abs
noncomputable def t87 (C:av) (x0:Value) (h:ak):Out:=
 ae (some ((.slice none 0 0),h)) fun _y2 h=>
 ae (some (x0,h)) fun y3 h=>
 ae (pu (bE y3) h) fun y4 h=>
 ae (dU .u64 y4 h) fun y5 h=>
 ae (C 58 [y5,(.int .i64 2)] h) fun y6 h=>
 ae (some (x0,h)) fun y7 h=>
 ae (aO 1 1 y6 y7 h) fun y8 h=>
 ae (some (y8,h)) fun y2_1 h=>
 some (y2_1,h)
theorem t87_eq (C:av) (x0:Value) (h:ak):aY Tryz.prog C Tryz.f87 [x0] h=t87 C x0 h:=
 (aI Tryz.prog C Tryz.f87 [x0] h (by kernel_rfl)).trans (by kernel_rfl)
noncomputable def t88 (C:av) (x0:Value) (h:ak):Out:=
 ae (box x0 h) fun y1 h=>
 ae (some ((.slice none 0 0),h)) fun _y2 h=>
 ae (some ((.int .i64 0),h)) fun _y3 h=>
 ae (bP 39 y1 h) fun y5 h=>
 ae (C 62 [y5] h) fun y6 h=>
 ae (pu (unA .not y6) h) fun y7 h=>
 (match y7 with
 | .bool true=>
 ae (some ((.slice none 0 0),h)) fun y2_1 h=>
 ae (some ((.int .i64 2),h)) fun y3_1 h=>
 some (.tuple #[y2_1,y3_1],h)
 | .bool false=>
 ae (pu (az y1 0) h) fun y8 h=>
 ae (aK y8 h) fun y9 h=>
 ae (pu (az y1 1) h) fun y11 h=>
 ae (pu (bY 32 1 y11 none none none) h) fun y12 h=>
 ae (dD 1 (.int .u8 0) 1 [(0,y9)] h) fun y10 h=>
 ae (aO 1 1 y10 y12 h) fun y13 h=>
 ae (some (y13,h)) fun y4 h=>
 ae (some (y4,h)) fun y14 h=>
 ae (pu (az y1 33) h) fun y15 h=>
 ae (aK y15 h) fun y16 h=>
 ae (dU .u8 y16 h) fun y17 h=>
 ae (dD 1 (.int .u8 0) 1 [(0,y17)] h) fun y18 h=>
 ae (aO 1 1 y14 y18 h) fun y19 h=>
 ae (some (y19,h)) fun y4_1 h=>
 let g7_0:=h
 ae (some (y4_1,g7_0)) fun y20 g7_1=>
 ae (pu (az y1 34) g7_1) fun y21 g7_2=>
 ae (aK y21 g7_2) fun y22 g7_3=>
 ae (C 58 [y22,(.int .i64 8)] g7_3) fun y23 g7_4=>
 ae (aO 1 1 y20 y23 g7_4) fun y24 g7_5=>
 ae (pu (az y1 35) g7_5) fun y25 g7_6=>
 ae (aK y25 g7_6) fun y26 g7_7=>
 ae (C 58 [y26,(.int .i64 8)] g7_7) fun y27 g7_8=>
 ae (aO 1 1 y24 y27 g7_8) fun y28 g7_9=>
 ae (some (y28,g7_9)) fun y4_2 g7_10=>
 (match (cF true (aK y25 g7_3) y26&&(cF true (aK y25 g7_4) y26&&true)) with
 |true=>
 let h:=g7_10
 let g9_0:=h
 ae (some (y4_2,g9_0)) fun y29 g9_1=>
 ae (pu (az y1 36) g9_1) fun y30 g9_2=>
 ae (aK y30 g9_2) fun y31 g9_3=>
 ae (C 123 [y31] g9_3) fun y32 g9_4=>
 ae (dU .u8 y32 g9_4) fun y33 g9_5=>
 ae (pu (az y1 37) g9_5) fun y34 g9_6=>
 ae (aK y34 g9_6) fun y35 g9_7=>
 ae (dU .u8 y35 g9_7) fun y36 g9_8=>
 ae (pu (az y1 38) g9_8) fun y37 g9_9=>
 ae (aK y37 g9_9) fun y38 g9_10=>
 ae (dU .u8 y38 g9_10) fun y39 g9_11=>
 ae (dD 1 (.int .u8 0) 3 [(0,y33),(1,y36),(2,y39)] g9_11) fun y40 g9_12=>
 ae (aO 1 1 y29 y40 g9_12) fun y41 g9_13=>
 ae (some (y41,g9_13)) fun y2_1 g9_14=>
 ae (some ((.int .i64 0),g9_14)) fun y3_1 g9_15=>
 (match (cF true (aK y34 g9_3) y35&&(cF true (dU .u8 y35 g9_3) y36&&(cF true (aK y37 g9_3) y38&&(cF true (dU .u8 y38 g9_3) y39&&true)))) with
 |true=>
 let h:=g9_15
 some (.tuple #[y2_1,y3_1],h)
 |false=>none)
 |false=>none)
 |_=>none)
theorem t88_eq (C:av) (x0:Value) (h:ak):aY Tryz.prog C Tryz.f88 [x0] h=t88 C x0 h:=
 (aI Tryz.prog C Tryz.f88 [x0] h (by kernel_rfl)).trans (by kernel_rfl)
noncomputable def k89_6 (C:av) (e:Env) (h:ak):Out:=br Tryz.prog C (partOf Tryz.f89 [1,1,1,1,1]) e h (ax Tryz.prog Tryz.f89.results.toList) (ax Tryz.prog Tryz.f89.results.toList) (fun _ _ _=>none)
noncomputable def b89_8 (C:av) (i:Nat) (e:Env) (h:ak):Out:=if i=0 then (k89_6 C) e h else (fun _ _ _=>none) i e h
noncomputable def t89 (C:av) (x0:Value) (h:ak):Out:=
 ae (box x0 h) fun y1 h=>
 ae (some ((.slice none 0 0),h)) fun y2 h=>
 ae (some ((.int .i64 0),h)) fun y3 h=>
 ae (bP 37 y1 h) fun y7 h=>
 ae (C 63 [y7] h) fun y8 h=>
 ae (pu (unA .not y8) h) fun y9 h=>
 (match y9 with
 | .bool true=>
 ae (some ((.slice none 0 0),h)) fun y2_1 h=>
 ae (some ((.int .i64 2),h)) fun y3_1 h=>
 some (.tuple #[y2_1,y3_1],h)
 | .bool false=>
 ae (pu (az y1 0) h) fun y10 h=>
 ae (aK y10 h) fun y11 h=>
 ae (dU .u8 y11 h) fun y12 h=>
 ae (pu (az y1 1) h) fun y13 h=>
 ae (aK y13 h) fun y14 h=>
 ae (dU .u8 y14 h) fun y15 h=>
 ae (pu (az y1 2) h) fun y16 h=>
 ae (aK y16 h) fun y17 h=>
 ae (dU .u8 y17 h) fun y18 h=>
 ae (pu (az y1 3) h) fun y19 h=>
 ae (aK y19 h) fun y20 h=>
 ae (pu (bin Tryz.prog .shr 3 y20 (.int .u64 8)) h) fun y21 h=>
 ae (dU .u8 y21 h) fun y22 h=>
 ae (pu (az y1 3) h) fun y23 h=>
 ae (aK y23 h) fun y24 h=>
 ae (dU .u8 y24 h) fun y25 h=>
 ae (dD 1 (.int .u8 0) 7 [(0,(.int .u8 77)),(1,(.int .u8 1)),(2,y12),(3,y15),(4,y18),(5,y22),(6,y25)] h) fun y26 h=>
 ae (some (y26,h)) fun y4 h=>
 ae (some (y4,h)) fun y27 h=>
 ae (pu (az y1 4) h) fun y28 h=>
 ae (pu (bY 32 1 y28 none none none) h) fun y29 h=>
 ae (aO 1 1 y27 y29 h) fun y30 h=>
 ae (some (y30,h)) fun y4_1 h=>
 ae (some ((.int .i64 0),h)) fun y5 h=>
 ei (iter (aL Tryz.prog C (partOf Tryz.f89 [1,1,1,1,0,1,0,0])) rounds (aX 46 (up (bs [x0]) [(1,y1),(2,y2),(3,y3),(4,y4_1),(5,y5),(7,y7),(8,y8),(9,y9),(10,y10),(11,y11),(12,y12),(13,y13),(14,y14),(15,y15),(16,y16),(17,y17),(18,y18),(19,y19),(20,y20),(21,y21),(22,y22),(23,y23),(24,y24),(25,y25),(26,y26),(27,y27),(28,y28),(29,y29),(30,y30)])) h) (ax Tryz.prog Tryz.f89.results.toList) (b89_8 C)
 |_=>none)
noncomputable def t89k89_6 (_C:av) (x:Nat→Value) (h:ak):Out:=
 ae (some ((x 4),h)) fun y45 h=>
 ae (some (y45,h)) fun y2 h=>
 ae (some ((.int .i64 0),h)) fun y3 h=>
 some (.tuple #[y2,y3],h)
noncomputable def fJ (_C:av) (x:Nat→Value) (h:ak):Option (Ex×Env×ak):=
 ae (some ((x 5),h)) fun y31 h=>
 ae (pu (az (x 1) 2) h) fun y32 h=>
 ae (aK y32 h) fun y33 h=>
 ae (pu (bin Tryz.prog .lss 3 y31 y33) h) fun y34 h=>
 (match y34 with
 | .bool true=>
 ae (pu (az (x 1) 36) h) fun y37 h=>
 ae (aK y37 h) fun y38 h=>
 ae (some ((x 5),h)) fun y39 h=>
 ae (pu (cD 32 y38 y39) h) fun y40 h=>
 ae (bP 32 y40 h) fun y41 h=>
 ae (fz (List.replicate 32 (.int .u8 0)) h) fun y6 h=>
 ae (dH 32 y6 y41 h) fun _ h=>
 ae (some ((x 4),h)) fun y42 h=>
 ae (pu (bY 32 1 y6 none none none) h) fun y43 h=>
 ae (aO 1 1 y42 y43 h) fun y44 h=>
 ae (some (y44,h)) fun y4 h=>
 ae (some ((x 5),h)) fun y35 h=>
 ae (pu (bin Tryz.prog .add 3 y35 (.int .i64 1)) h) fun y36 h=>
 ae (some (y36,h)) fun y5 h=>
 some (.normal,(aX 46 (up x [(4,y4),(5,y5),(6,y6),(31,y31),(32,y32),(33,y33),(34,y34),(35,y35),(36,y36),(37,y37),(38,y38),(39,y39),(40,y40),(41,y41),(42,y42),(43,y43),(44,y44)])),h)
 | .bool false=>
 some (.exit 0,(aX 46 (up x [(31,y31),(32,y32),(33,y33),(34,y34)])),h)
 |_=>none)
theorem t89_eq (C:av) (x0:Value) (h:ak):aY Tryz.prog C Tryz.f89 [x0] h=t89 C x0 h:=
 (aI Tryz.prog C Tryz.f89 [x0] h (by kernel_rfl)).trans (by kernel_rfl)
theorem t89k89_6_eq (C:av) (x:Nat→Value) (h:ak):k89_6 C (aX 46 x) h=t89k89_6 C x h:=
 bq (b:=(partOf Tryz.f89 [1,1,1,1,1])) (kE:=(ax Tryz.prog Tryz.f89.results.toList)) (rE:=(ax Tryz.prog Tryz.f89.results.toList)) (xE:=(fun _ _ _=>none)) (T:=t89k89_6 C) (fun x h=>by kernel_rfl) x h
theorem t89l89_1111010_eq (C:av) (x:Nat→Value) (h:ak):aL Tryz.prog C (partOf Tryz.f89 [1,1,1,1,0,1,0,0]) (aX 46 x) h=fJ C x h:=
 bn (T:=fJ C) (fun x h=>by kernel_rfl) x h
noncomputable def t123 (_C:av) (x0:Value) (h:ak):Out:=
 ae (some ((.int .u64 0),h)) fun _y2 h=>
 ae (some (x0,h)) fun y3 h=>
 (match y3 with
 | .bool true=>
 ae (some ((.int .u64 1),h)) fun y2_1 h=>
 some (y2_1,h)
 | .bool false=>
 ae (some ((.int .u64 0),h)) fun y2_1 h=>
 some (y2_1,h)
 |_=>none)
theorem t123_eq (C:av) (x0:Value) (h:ak):aY Tryz.prog C Tryz.f123 [x0] h=t123 C x0 h:=
 (aI Tryz.prog C Tryz.f123 [x0] h (by kernel_rfl)).trans (by kernel_rfl)
end Go.Proofs.YtjghlcdidopcpaaGreatDoor

namespace Go.Proofs.YtjghlcdidopcpaaGreatDoor
open Go Go.Abs
noncomputable def k57s0 (C:av) (e:Env) (h:ak):Out:=br Tryz.prog C (partOf Tryz.f57 []) e h (ax Tryz.prog Tryz.f57.results.toList) (ax Tryz.prog Tryz.f57.results.toList) (fun _ _ _=>none)
noncomputable def k57s1 (C:av) (e:Env) (h:ak):Out:=br Tryz.prog C (partOf Tryz.f57 [1]) e h (ax Tryz.prog Tryz.f57.results.toList) (ax Tryz.prog Tryz.f57.results.toList) (fun _ _ _=>none)
noncomputable def k57s2 (C:av) (e:Env) (h:ak):Out:=br Tryz.prog C (partOf Tryz.f57 [1,1]) e h (ax Tryz.prog Tryz.f57.results.toList) (ax Tryz.prog Tryz.f57.results.toList) (fun _ _ _=>none)
noncomputable def k57s3 (C:av) (e:Env) (h:ak):Out:=br Tryz.prog C (partOf Tryz.f57 [1,1,1]) e h (ax Tryz.prog Tryz.f57.results.toList) (ax Tryz.prog Tryz.f57.results.toList) (fun _ _ _=>none)
noncomputable def k57s4 (C:av) (e:Env) (h:ak):Out:=br Tryz.prog C (partOf Tryz.f57 [1,1,1,1]) e h (ax Tryz.prog Tryz.f57.results.toList) (ax Tryz.prog Tryz.f57.results.toList) (fun _ _ _=>none)
noncomputable def b57_0 (C:av) (i:Nat) (e:Env) (h:ak):Out:=if i=0 then (k57s3 C) e h else (fun _ _ _=>none) i e h
noncomputable def k57_7 (C:av) (e:Env) (h:ak):Out:=br Tryz.prog C (partOf Tryz.f57 [1,1,0,0,1,0,1,1,1,1]) e h (k57s3 C) (ax Tryz.prog Tryz.f57.results.toList) (b57_0 C)
noncomputable def b57_9 (C:av) (i:Nat) (e:Env) (h:ak):Out:=if i=1 then (k57_7 C) e h else (b57_0 C) i e h
noncomputable def k57_21 (C:av) (e:Env) (h:ak):Out:=br Tryz.prog C (partOf Tryz.f57 [1,1,0,0,1,1,1,1,1,0,1,1,1,1]) e h (k57s3 C) (ax Tryz.prog Tryz.f57.results.toList) (b57_0 C)
noncomputable def b57_23 (C:av) (i:Nat) (e:Env) (h:ak):Out:=if i=3 then (k57_21 C) e h else (b57_0 C) i e h
noncomputable def t57s0 (C:av) (x:Nat→Value) (h:ak):Out:=
 ae (box (x 0) h) fun y1 h=>
 ae (some ((.slice none 0 0),h)) fun y2 h=>
 k57s1 C (aX 169 (up x [(1,y1),(2,y2)])) h
noncomputable def t57s1 (C:av) (x:Nat→Value) (h:ak):Out:=
 ae (dD 1 (.int .u8 0) 0 [] h) fun y11 h=>
 ae (some (y11,h)) fun y3 h=>
 k57s2 C (aX 169 (up x [(3,y3),(11,y11)])) h
noncomputable def t57s2 (C:av) (x:Nat→Value) (h:ak):Out:=
 ae (pu (az (x 1) 0) h) fun y13 h=>
 ae (aK y13 h) fun y14 h=>
 ae (pu (bin Tryz.prog .leq 24 y14 (.int .u8 3)) h) fun y15 h=>
 ae (some (y15,h)) fun y12 h=>
 (match y12 with
 | .bool true=>
 ae (pu (az (x 1) 4) h) fun y16 h=>
 ae (aK y16 h) fun y17 h=>
 ae (some (y17,h)) fun y4 h=>
 ae (pu (az (x 1) 0) h) fun y18 h=>
 ae (aK y18 h) fun y19 h=>
 ae (pu (bin Tryz.prog .eql 24 y19 (.int .u8 3)) h) fun y20 h=>
 (match y20 with
 | .bool true=>
 ae (pu (az (x 1) 5) h) fun y21 h=>
 ae (aK y21 h) fun y22 h=>
 ae (some (y22,h)) fun y4_1 h=>
 let g6_0:=h
 ae (pu (az (x 1) 3) g6_0) fun y23 g6_1=>
 ae (aK y23 g6_1) fun y24 g6_2=>
 ae (C 58 [y24,(.int .i64 8)] g6_2) fun y25 g6_3=>
 ae (some (y4_1,g6_3)) fun y26 g6_4=>
 ae (dU .u8 y26 g6_4) fun y27 g6_5=>
 ae (pu (az (x 1) 6) g6_5) fun y28 g6_6=>
 ae (aK y28 g6_6) fun y29 g6_7=>
 ae (pu (bE y29) g6_7) fun y30 g6_8=>
 ae (dU .u8 y30 g6_8) fun y31 g6_9=>
 ae (dD 1 (.int .u8 0) 2 [(0,y27),(1,y31)] g6_9) fun y32 g6_10=>
 ae (aO 1 1 y25 y32 g6_10) fun y33 g6_11=>
 ae (some (y33,g6_11)) fun y3 g6_12=>
 (match (cF true (dU .u8 y26 g6_2) y27&&(cF true (aK y28 g6_2) y29&&(cF true (pu (bE y29) g6_2) y30&&(cF true (dU .u8 y30 g6_2) y31&&true)))) with
 |true=>
 let h:=g6_12
 ae (some ((.int .i64 0),h)) fun y5 h=>
 ei (iter (aL Tryz.prog C (partOf Tryz.f57 [1,1,0,0,1,0,1,1,1,0,1,0,0])) rounds (aX 169 (up x [(3,y3),(4,y4_1),(5,y5),(12,y12),(13,y13),(14,y14),(15,y15),(16,y16),(17,y17),(18,y18),(19,y19),(20,y20),(21,y21),(22,y22),(23,y23),(24,y24),(25,y25),(26,y26),(27,y27),(28,y28),(29,y29),(30,y30),(31,y31),(32,y32),(33,y33)])) h) (ax Tryz.prog Tryz.f57.results.toList) (b57_9 C)
 |false=>none)
 | .bool false=>
 let g10_0:=h
 ae (pu (az (x 1) 3) g10_0) fun y23 g10_1=>
 ae (aK y23 g10_1) fun y24 g10_2=>
 ae (C 58 [y24,(.int .i64 8)] g10_2) fun y25 g10_3=>
 ae (some (y4,g10_3)) fun y26 g10_4=>
 ae (dU .u8 y26 g10_4) fun y27 g10_5=>
 ae (pu (az (x 1) 6) g10_5) fun y28 g10_6=>
 ae (aK y28 g10_6) fun y29 g10_7=>
 ae (pu (bE y29) g10_7) fun y30 g10_8=>
 ae (dU .u8 y30 g10_8) fun y31 g10_9=>
 ae (dD 1 (.int .u8 0) 2 [(0,y27),(1,y31)] g10_9) fun y32 g10_10=>
 ae (aO 1 1 y25 y32 g10_10) fun y33 g10_11=>
 ae (some (y33,g10_11)) fun y3 g10_12=>
 (match (cF true (dU .u8 y26 g10_2) y27&&(cF true (aK y28 g10_2) y29&&(cF true (pu (bE y29) g10_2) y30&&(cF true (dU .u8 y30 g10_2) y31&&true)))) with
 |true=>
 let h:=g10_12
 ae (some ((.int .i64 0),h)) fun y5 h=>
 ei (iter (aL Tryz.prog C (partOf Tryz.f57 [1,1,0,0,1,0,1,1,1,0,1,0,0])) rounds (aX 169 (up x [(3,y3),(4,y4),(5,y5),(12,y12),(13,y13),(14,y14),(15,y15),(16,y16),(17,y17),(18,y18),(19,y19),(20,y20),(23,y23),(24,y24),(25,y25),(26,y26),(27,y27),(28,y28),(29,y29),(30,y30),(31,y31),(32,y32),(33,y33)])) h) (ax Tryz.prog Tryz.f57.results.toList) (b57_9 C)
 |false=>none)
 |_=>none)
 | .bool false=>
 ae (pu (az (x 1) 0) h) fun y60 h=>
 ae (aK y60 h) fun y61 h=>
 ae (pu (bin Tryz.prog .eql 24 y61 (.int .u8 4)) h) fun y62 h=>
 ae (some (y62,h)) fun y59 h=>
 (match y59 with
 | .bool true=>
 let g13_0:=h
 ae (pu (az (x 1) 7) g13_0) fun y63 g13_1=>
 ae (aK y63 g13_1) fun y64 g13_2=>
 ae (C 87 [y64] g13_2) fun y65 g13_3=>
 ae (pu (az (x 1) 8) g13_3) fun y66 g13_4=>
 ae (aK y66 g13_4) fun y67 g13_5=>
 ae (C 87 [y67] g13_5) fun y68 g13_6=>
 ae (aO 1 1 y65 y68 g13_6) fun y69 g13_7=>
 ae (some (y69,g13_7)) fun y3 g13_8=>
 (match (cF true (aK y66 g13_2) y67&&true) with
 |true=>
 let h:=g13_8
 ae (some (y3,h)) fun y70 h=>
 ae (pu (az (x 1) 9) h) fun y71 h=>
 ae (aK y71 h) fun y72 h=>
 ae (dU .u64 y72 h) fun y73 h=>
 ae (C 58 [y73,(.int .i64 4)] h) fun y74 h=>
 ae (aO 1 1 y70 y74 h) fun y75 h=>
 ae (pu (az (x 1) 10) h) fun y76 h=>
 ae (pu (bY 32 1 y76 none none none) h) fun y77 h=>
 ae (aO 1 1 y75 y77 h) fun y78 h=>
 ae (some (y78,h)) fun y2 h=>
 some (y2,h)
 |false=>none)
 | .bool false=>
 ae (pu (az (x 1) 0) h) fun y80 h=>
 ae (aK y80 h) fun y81 h=>
 ae (pu (bin Tryz.prog .eql 24 y81 (.int .u8 5)) h) fun y82 h=>
 ae (some (y82,h)) fun y79 h=>
 (match y79 with
 | .bool true=>
 let g17_0:=h
 ae (pu (az (x 1) 7) g17_0) fun y83 g17_1=>
 ae (aK y83 g17_1) fun y84 g17_2=>
 ae (C 87 [y84] g17_2) fun y85 g17_3=>
 ae (pu (az (x 1) 8) g17_3) fun y86 g17_4=>
 ae (aK y86 g17_4) fun y87 g17_5=>
 ae (C 87 [y87] g17_5) fun y88 g17_6=>
 ae (aO 1 1 y85 y88 g17_6) fun y89 g17_7=>
 ae (some (y89,g17_7)) fun y3 g17_8=>
 (match (cF true (aK y86 g17_2) y87&&true) with
 |true=>
 let h:=g17_8
 ae (pu (az (x 1) 43) h) fun y90 h=>
 ae (aK y90 h) fun y91 h=>
 (match y91 with
 | .bool true=>
 ae (some (y3,h)) fun y92 h=>
 ae (dD 1 (.int .u8 0) 1 [(0,(.int .u8 1))] h) fun y93 h=>
 ae (aO 1 1 y92 y93 h) fun y94 h=>
 ae (some (y94,h)) fun y3_1 h=>
 ae (some (y3_1,h)) fun y98 h=>
 ae (pu (az (x 1) 42) h) fun y99 h=>
 ae (aK y99 h) fun y100 h=>
 ae (pu (bE y100) h) fun y101 h=>
 ae (dU .u64 y101 h) fun y102 h=>
 ae (C 58 [y102,(.int .i64 2)] h) fun y103 h=>
 ae (aO 1 1 y98 y103 h) fun y104 h=>
 ae (some (y104,h)) fun y3_2 h=>
 ae (some ((.int .i64 0),h)) fun y6 h=>
 ei (iter (aL Tryz.prog C (partOf Tryz.f57 [1,1,0,0,1,1,1,1,1,0,1,1,1,0,1,0,0])) rounds (aX 169 (up x [(3,y3_2),(6,y6),(12,y12),(13,y13),(14,y14),(15,y15),(59,y59),(60,y60),(61,y61),(62,y62),(79,y79),(80,y80),(81,y81),(82,y82),(83,y83),(84,y84),(85,y85),(86,y86),(87,y87),(88,y88),(89,y89),(90,y90),(91,y91),(92,y92),(93,y93),(94,y94),(98,y98),(99,y99),(100,y100),(101,y101),(102,y102),(103,y103),(104,y104)])) h) (ax Tryz.prog Tryz.f57.results.toList) (b57_23 C)
 | .bool false=>
 ae (some (y3,h)) fun y95 h=>
 ae (dD 1 (.int .u8 0) 1 [(0,(.int .u8 0))] h) fun y96 h=>
 ae (aO 1 1 y95 y96 h) fun y97 h=>
 ae (some (y97,h)) fun y3_1 h=>
 ae (some (y3_1,h)) fun y98 h=>
 ae (pu (az (x 1) 42) h) fun y99 h=>
 ae (aK y99 h) fun y100 h=>
 ae (pu (bE y100) h) fun y101 h=>
 ae (dU .u64 y101 h) fun y102 h=>
 ae (C 58 [y102,(.int .i64 2)] h) fun y103 h=>
 ae (aO 1 1 y98 y103 h) fun y104 h=>
 ae (some (y104,h)) fun y3_2 h=>
 ae (some ((.int .i64 0),h)) fun y6 h=>
 ei (iter (aL Tryz.prog C (partOf Tryz.f57 [1,1,0,0,1,1,1,1,1,0,1,1,1,0,1,0,0])) rounds (aX 169 (up x [(3,y3_2),(6,y6),(12,y12),(13,y13),(14,y14),(15,y15),(59,y59),(60,y60),(61,y61),(62,y62),(79,y79),(80,y80),(81,y81),(82,y82),(83,y83),(84,y84),(85,y85),(86,y86),(87,y87),(88,y88),(89,y89),(90,y90),(91,y91),(95,y95),(96,y96),(97,y97),(98,y98),(99,y99),(100,y100),(101,y101),(102,y102),(103,y103),(104,y104)])) h) (ax Tryz.prog Tryz.f57.results.toList) (b57_23 C)
 |_=>none)
 |false=>none)
 | .bool false=>
 k57s3 C (aX 169 (up x [(12,y12),(13,y13),(14,y14),(15,y15),(59,y59),(60,y60),(61,y61),(62,y62),(79,y79),(80,y80),(81,y81),(82,y82)])) h
 |_=>none)
 |_=>none)
 |_=>none)
noncomputable def t57s3 (C:av) (x:Nat→Value) (h:ak):Out:=
 ae (some ((x 3),h)) fun y125 h=>
 ae (pu (az (x 1) 44) h) fun y126 h=>
 ae (pu (bY 32 1 y126 none none none) h) fun y127 h=>
 ae (aO 1 1 y125 y127 h) fun y128 h=>
 ae (some (y128,h)) fun y3 h=>
 k57s4 C (aX 169 (up x [(3,y3),(125,y125),(126,y126),(127,y127),(128,y128)])) h
noncomputable def t57s4 (C:av) (x:Nat→Value) (h:ak):Out:=
 ae (pu (az (x 1) 0) h) fun y129 h=>
 ae (aK y129 h) fun y130 h=>
 ae (pu (bin Tryz.prog .eql 24 y130 (.int .u8 8)) h) fun y131 h=>
 ae (some (y131,h)) fun y132 h=>
 ae (al (aH y132==some false) (pu (az (x 1) 0) h) h) fun y133 h=>
 ae (al (aH y132==some false) (aK y133 h) h) fun y134 h=>
 ae (al (aH y132==some false) (pu (bin Tryz.prog .eql 24 y134 (.int .u8 10)) h) h) fun y135 h=>
 ae (match y132 with | .bool t=>some (if t then (.bool true) else y135,h)|_=>none) fun y136 h=>
 (match y136 with
 | .bool true=>
 ae (pu (az (x 1) 76) h) fun y138 h=>
 ae (bP 37 y138 h) fun y139 h=>
 ae (C 89 [y139] h) fun y140 h=>
 ae (some (y140,h)) fun y137 h=>
 ae (pu (aV y137 0) h) fun y141 h=>
 ae (pu (aV y137 1) h) fun y142 h=>
 ae (some (y141,h)) fun y9 h=>
 ae (some (y142,h)) fun _y10 h=>
 let g28_0:=h
 ae (some ((x 3),g28_0)) fun y143 g28_1=>
 ae (some (y9,g28_1)) fun y144 g28_2=>
 ae (C 87 [y144] g28_2) fun y145 g28_3=>
 ae (aO 1 1 y143 y145 g28_3) fun y146 g28_4=>
 ae (pu (az (x 1) 113) g28_4) fun y147 g28_5=>
 ae (pu (az y147 0) g28_5) fun y148 g28_6=>
 ae (aK y148 g28_6) fun y149 g28_7=>
 ae (dU .u64 y149 g28_7) fun y150 g28_8=>
 ae (C 58 [y150,(.int .i64 2)] g28_8) fun y151 g28_9=>
 ae (aO 1 1 y146 y151 g28_9) fun y152 g28_10=>
 ae (some (y152,g28_10)) fun y3 g28_11=>
 (match (cF true (aK y148 g28_2) y149&&(cF true (aK y148 g28_3) y149&&(cF true (dU .u64 y149 g28_2) y150&&(cF true (dU .u64 y149 g28_3) y150&&true)))) with
 |true=>
 let h:=g28_11
 ae (some (y3,h)) fun y153 h=>
 ae (pu (az (x 1) 113) h) fun y154 h=>
 ae (pu (az y154 1) h) fun y155 h=>
 ae (aK y155 h) fun y156 h=>
 ae (C 87 [y156] h) fun y157 h=>
 ae (aO 1 1 y153 y157 h) fun y158 h=>
 ae (some (y158,h)) fun y3_1 h=>
 ae (pu (az (x 1) 0) h) fun y159 h=>
 ae (aK y159 h) fun y160 h=>
 ae (pu (bin Tryz.prog .eql 24 y160 (.int .u8 11)) h) fun y161 h=>
 (match y161 with
 | .bool true=>
 ae (some (y3_1,h)) fun y162 h=>
 ae (pu (az (x 1) 115) h) fun y163 h=>
 ae (aK y163 h) fun y164 h=>
 ae (dU .u64 y164 h) fun y165 h=>
 ae (C 58 [y165,(.int .i64 2)] h) fun y166 h=>
 ae (aO 1 1 y162 y166 h) fun y167 h=>
 ae (some (y167,h)) fun y3_2 h=>
 ae (some (y3_2,h)) fun y168 h=>
 ae (some (y168,h)) fun y2 h=>
 some (y2,h)
 | .bool false=>
 ae (some (y3_1,h)) fun y168 h=>
 ae (some (y168,h)) fun y2 h=>
 some (y2,h)
 |_=>none)
 |false=>none)
 | .bool false=>
 ae (pu (az (x 1) 0) h) fun y159 h=>
 ae (aK y159 h) fun y160 h=>
 ae (pu (bin Tryz.prog .eql 24 y160 (.int .u8 11)) h) fun y161 h=>
 (match y161 with
 | .bool true=>
 ae (some ((x 3),h)) fun y162 h=>
 ae (pu (az (x 1) 115) h) fun y163 h=>
 ae (aK y163 h) fun y164 h=>
 ae (dU .u64 y164 h) fun y165 h=>
 ae (C 58 [y165,(.int .i64 2)] h) fun y166 h=>
 ae (aO 1 1 y162 y166 h) fun y167 h=>
 ae (some (y167,h)) fun y3 h=>
 ae (some (y3,h)) fun y168 h=>
 ae (some (y168,h)) fun y2 h=>
 some (y2,h)
 | .bool false=>
 ae (some ((x 3),h)) fun y168 h=>
 ae (some (y168,h)) fun y2 h=>
 some (y2,h)
 |_=>none)
 |_=>none)
noncomputable def t57k57_7 (_C:av) (x:Nat→Value) (h:ak):Out:=
 ae (some ((x 3),h)) fun y58 h=>
 ae (some (y58,h)) fun y2 h=>
 some (y2,h)
noncomputable def dx (C:av) (x:Nat→Value) (h:ak):Option (Ex×Env×ak):=
 ae (some ((x 5),h)) fun y34 h=>
 ae (pu (az (x 1) 6) h) fun y35 h=>
 ae (aK y35 h) fun y36 h=>
 ae (pu (bE y36) h) fun y37 h=>
 ae (pu (bin Tryz.prog .lss 3 y34 y37) h) fun y38 h=>
 (match y38 with
 | .bool true=>
 let g37_0:=h
 ae (some ((x 3),g37_0)) fun y41 g37_1=>
 ae (pu (az (x 1) 6) g37_1) fun y42 g37_2=>
 ae (aK y42 g37_2) fun y43 g37_3=>
 ae (some ((x 5),g37_3)) fun y44 g37_4=>
 ae (pu (cD 2 y43 y44) g37_4) fun y45 g37_5=>
 ae (pu (az y45 0) g37_5) fun y46 g37_6=>
 ae (aK y46 g37_6) fun y47 g37_7=>
 ae (C 58 [y47,(.int .i64 8)] g37_7) fun y48 g37_8=>
 ae (aO 1 1 y41 y48 g37_8) fun y49 g37_9=>
 ae (pu (az (x 1) 6) g37_9) fun y50 g37_10=>
 ae (aK y50 g37_10) fun y51 g37_11=>
 ae (some ((x 5),g37_11)) fun y52 g37_12=>
 ae (pu (cD 2 y51 y52) g37_12) fun y53 g37_13=>
 ae (pu (az y53 1) g37_13) fun y54 g37_14=>
 ae (aK y54 g37_14) fun y55 g37_15=>
 ae (dD 1 (.int .u8 0) 1 [(0,y55)] g37_15) fun y56 g37_16=>
 ae (aO 1 1 y49 y56 g37_16) fun y57 g37_17=>
 ae (some (y57,g37_17)) fun y3 g37_18=>
 (match (cF true (aK y50 g37_7) y51&&(cF true (aK y50 g37_8) y51&&(cF true (aK y54 g37_7) y55&&(cF true (aK y54 g37_8) y55&&true)))) with
 |true=>
 let h:=g37_18
 ae (some ((x 5),h)) fun y39 h=>
 ae (pu (bin Tryz.prog .add 3 y39 (.int .i64 1)) h) fun y40 h=>
 ae (some (y40,h)) fun y5 h=>
 some (.normal,(aX 169 (up x [(3,y3),(5,y5),(34,y34),(35,y35),(36,y36),(37,y37),(38,y38),(39,y39),(40,y40),(41,y41),(42,y42),(43,y43),(44,y44),(45,y45),(46,y46),(47,y47),(48,y48),(49,y49),(50,y50),(51,y51),(52,y52),(53,y53),(54,y54),(55,y55),(56,y56),(57,y57)])),h)
 |false=>none)
 | .bool false=>
 some (.exit 1,(aX 169 (up x [(34,y34),(35,y35),(36,y36),(37,y37),(38,y38)])),h)
 |_=>none)
noncomputable def t57k57_21 (_C:av) (x:Nat→Value) (h:ak):Out:=
 ae (some ((x 3),h)) fun y124 h=>
 ae (some (y124,h)) fun y2 h=>
 some (y2,h)
noncomputable def cV (C:av) (x:Nat→Value) (h:ak):Option (Ex×Env×ak):=
 ae (some ((x 6),h)) fun y105 h=>
 ae (pu (az (x 1) 42) h) fun y106 h=>
 ae (aK y106 h) fun y107 h=>
 ae (pu (bE y107) h) fun y108 h=>
 ae (pu (bin Tryz.prog .lss 3 y105 y108) h) fun y109 h=>
 (match y109 with
 | .bool true=>
 ae (pu (az (x 1) 42) h) fun y113 h=>
 ae (aK y113 h) fun y114 h=>
 ae (some ((x 6),h)) fun y115 h=>
 ae (pu (cD 39 y114 y115) h) fun y116 h=>
 ae (bP 39 y116 h) fun y117 h=>
 ae (C 88 [y117] h) fun y118 h=>
 ae (some (y118,h)) fun y112 h=>
 ae (pu (aV y112 0) h) fun y119 h=>
 ae (pu (aV y112 1) h) fun y120 h=>
 ae (some (y119,h)) fun y7 h=>
 ae (some (y120,h)) fun y8 h=>
 ae (some ((x 3),h)) fun y121 h=>
 ae (some (y7,h)) fun y122 h=>
 ae (aO 1 1 y121 y122 h) fun y123 h=>
 ae (some (y123,h)) fun y3 h=>
 ae (some ((x 6),h)) fun y110 h=>
 ae (pu (bin Tryz.prog .add 3 y110 (.int .i64 1)) h) fun y111 h=>
 ae (some (y111,h)) fun y6 h=>
 some (.normal,(aX 169 (up x [(3,y3),(6,y6),(7,y7),(8,y8),(105,y105),(106,y106),(107,y107),(108,y108),(109,y109),(110,y110),(111,y111),(112,y112),(113,y113),(114,y114),(115,y115),(116,y116),(117,y117),(118,y118),(119,y119),(120,y120),(121,y121),(122,y122),(123,y123)])),h)
 | .bool false=>
 some (.exit 3,(aX 169 (up x [(105,y105),(106,y106),(107,y107),(108,y108),(109,y109)])),h)
 |_=>none)
theorem t57s0_eq (C:av) (x:Nat→Value) (h:ak):k57s0 C (aX 169 x) h=t57s0 C x h:=
 cH (a:=partOf Tryz.f57 [0]) (c:=partOf Tryz.f57 [1]) (by kernel_rfl) (k57s1 C) rfl (T:=t57s0 C) (fun x h=>by kernel_rfl) x h
theorem t57s1_eq (C:av) (x:Nat→Value) (h:ak):k57s1 C (aX 169 x) h=t57s1 C x h:=
 cH (a:=partOf Tryz.f57 [1,0]) (c:=partOf Tryz.f57 [1,1]) (by kernel_rfl) (k57s2 C) rfl (T:=t57s1 C) (fun x h=>by kernel_rfl) x h
theorem t57s2_eq (C:av) (x:Nat→Value) (h:ak):k57s2 C (aX 169 x) h=t57s2 C x h:=
 cH (a:=partOf Tryz.f57 [1,1,0]) (c:=partOf Tryz.f57 [1,1,1]) (by kernel_rfl) (k57s3 C) rfl (T:=t57s2 C) (fun x h=>by kernel_rfl) x h
theorem t57s3_eq (C:av) (x:Nat→Value) (h:ak):k57s3 C (aX 169 x) h=t57s3 C x h:=
 cH (a:=partOf Tryz.f57 [1,1,1,0]) (c:=partOf Tryz.f57 [1,1,1,1]) (by kernel_rfl) (k57s4 C) rfl (T:=t57s3 C) (fun x h=>by kernel_rfl) x h
theorem t57s4_eq (C:av) (x:Nat→Value) (h:ak):k57s4 C (aX 169 x) h=t57s4 C x h:=
 bq (b:=partOf Tryz.f57 [1,1,1,1]) (kE:=(ax Tryz.prog Tryz.f57.results.toList)) (rE:=(ax Tryz.prog Tryz.f57.results.toList)) (xE:=(fun _ _ _=>none)) (T:=t57s4 C) (fun x h=>by kernel_rfl) x h
theorem t57_eq (C:av) (x0:Value) (h:ak):aY Tryz.prog C Tryz.f57 [x0] h=k57s0 C (aX 169 (bs [x0])) h:=by kernel_rfl
theorem t57k57_7_eq (C:av) (x:Nat→Value) (h:ak):k57_7 C (aX 169 x) h=t57k57_7 C x h:=
 bq (b:=(partOf Tryz.f57 [1,1,0,0,1,0,1,1,1,1])) (kE:=(k57s3 C)) (rE:=(ax Tryz.prog Tryz.f57.results.toList)) (xE:=(b57_0 C)) (T:=t57k57_7 C) (fun x h=>by kernel_rfl) x h
theorem t57l57_110010111010_eq (C:av) (x:Nat→Value) (h:ak):aL Tryz.prog C (partOf Tryz.f57 [1,1,0,0,1,0,1,1,1,0,1,0,0]) (aX 169 x) h=dx C x h:=
 bn (T:=dx C) (fun x h=>by kernel_rfl) x h
theorem t57k57_21_eq (C:av) (x:Nat→Value) (h:ak):k57_21 C (aX 169 x) h=t57k57_21 C x h:=
 bq (b:=(partOf Tryz.f57 [1,1,0,0,1,1,1,1,1,0,1,1,1,1])) (kE:=(k57s3 C)) (rE:=(ax Tryz.prog Tryz.f57.results.toList)) (xE:=(b57_0 C)) (T:=t57k57_21 C) (fun x h=>by kernel_rfl) x h
theorem t57l57_1100111110111010_eq (C:av) (x:Nat→Value) (h:ak):aL Tryz.prog C (partOf Tryz.f57 [1,1,0,0,1,1,1,1,1,0,1,1,1,0,1,0,0]) (aX 169 x) h=cV C x h:=
 bn (T:=cV C) (fun x h=>by kernel_rfl) x h
end Go.Proofs.YtjghlcdidopcpaaGreatDoor

namespace Go.Proofs.YtjghlcdidopcpaaGreatDoor
open Go Go.Abs
noncomputable def t8 (C:av) (x0:Value) (h:ak):Out:=
 ae (box x0 h) fun y1 h=>
 ae (some ((.bool false),h)) fun _y2 h=>
 ae (bP 116 y1 h) fun y10 h=>
 ae (C 18 [y10] h) fun y11 h=>
 (match y11 with
 | .bool true=>
 ae (C 12 [] h) fun y12 h=>
 ae (some (y12,h)) fun y2_1 h=>
 some (y2_1,h)
 | .bool false=>
 ae (bP 116 y1 h) fun y13 h=>
 ae (C 20 [y13] h) fun y14 h=>
 ae (fz Zl h) fun y3 h=>
 ae (dH 116 y3 y14 h) fun _ h=>
 ae (bP 116 y3 h) fun y16 h=>
 ae (C 21 [y16] h) fun y17 h=>
 ae (some (y17,h)) fun y15 h=>
 ae (pu (aV y15 0) h) fun y18 h=>
 ae (pu (aV y15 1) h) fun y19 h=>
 ae (some (y18,h)) fun y4 h=>
 ae (some (y19,h)) fun y5 h=>
 ae (bP 116 y1 h) fun y21 h=>
 ae (C 23 [y21] h) fun y22 h=>
 ae (some (y22,h)) fun y20 h=>
 ae (pu (aV y20 0) h) fun y23 h=>
 ae (pu (aV y20 1) h) fun y24 h=>
 ae (some (y23,h)) fun y6 h=>
 ae (some (y24,h)) fun y7 h=>
 ae (bP 116 y3 h) fun y26 h=>
 ae (C 24 [y26] h) fun y27 h=>
 ae (some (y27,h)) fun y25 h=>
 ae (pu (aV y25 0) h) fun y28 h=>
 ae (pu (aV y25 1) h) fun y29 h=>
 ae (some (y28,h)) fun y8 h=>
 ae (some (y29,h)) fun y9 h=>
 let g10_0:=h
 ae (some (y5,g10_0)) fun y30 g10_1=>
 ae (some (y7,g10_1)) fun y31 g10_2=>
 ae (pu (bin Tryz.prog .neq 35 y30 y31) g10_2) fun y32 g10_3=>
 ae (some (y32,g10_3)) fun y33 g10_4=>
 ae (al (aH y33==some false) (some (y4,g10_4)) g10_4) fun y34 g10_5=>
 ae (al (aH y33==some false) (cvBS y34 g10_5) g10_5) fun y35 g10_6=>
 ae (al (aH y33==some false) (some (y6,g10_6)) g10_6) fun y36 g10_7=>
 ae (al (aH y33==some false) (cvBS y36 g10_7) g10_7) fun y37 g10_8=>
 ae (al (aH y33==some false) (pu (bin Tryz.prog .neq 9 y35 y37) g10_8) g10_8) fun y38 g10_9=>
 ae (match y33 with | .bool t=>some (if t then (.bool true) else y38,g10_9)|_=>none) fun y39 g10_10=>
 ae (some (y39,g10_10)) fun y40 g10_11=>
 ae (al (aH y40==some false) (some (y9,g10_11)) g10_11) fun y41 g10_12=>
 ae (al (aH y40==some false) (some (y7,g10_12)) g10_12) fun y42 g10_13=>
 ae (al (aH y40==some false) (pu (bin Tryz.prog .neq 35 y41 y42) g10_13) g10_13) fun y43 g10_14=>
 ae (match y40 with | .bool t=>some (if t then (.bool true) else y43,g10_14)|_=>none) fun y44 g10_15=>
 ae (some (y44,g10_15)) fun y45 g10_16=>
 ae (al (aH y45==some false) (some (y8,g10_16)) g10_16) fun y46 g10_17=>
 ae (al (aH y45==some false) (some (y6,g10_17)) g10_17) fun y47 g10_18=>
 ae (al (aH y45==some false) (pu (bE y47) g10_18) g10_18) fun y48 g10_19=>
 ae (al (aH y45==some false) (pu (bin Tryz.prog .neq 3 y46 y48) g10_19) g10_19) fun y49 g10_20=>
 ae (match y45 with | .bool t=>some (if t then (.bool true) else y49,g10_20)|_=>none) fun y50 g10_21=>
 ae (some (y50,g10_21)) fun y51 g10_22=>
 ae (al (aH y51==some false) (bP 116 y3 g10_22) g10_22) fun y52 g10_23=>
 ae (al (aH y51==some false) (C 19 [y52] g10_23) g10_23) fun y53 g10_24=>
 ae (al (aH y51==some false) (pu (bin Tryz.prog .eql 35 y53 (.int .i64 0)) g10_24) g10_24) fun y54 g10_25=>
 ae (al (aH y51==some false) (bP 116 y1 g10_25) g10_25) fun y55 g10_26=>
 ae (al (aH y51==some false) (C 25 [y55] g10_26) g10_26) fun y56 g10_27=>
 ae (al (aH y51==some false) (pu (bin Tryz.prog .neq 4 y54 y56) g10_27) g10_27) fun y57 g10_28=>
 ae (match y51 with | .bool t=>some (if t then (.bool true) else y57,g10_28)|_=>none) fun y58 g10_29=>
 ae (some (y58,g10_29)) fun y59 g10_30=>
 ae (al (aH y59==some false) (bP 116 y1 g10_30) g10_30) fun y60 g10_31=>
 ae (al (aH y59==some false) (C 25 [y60] g10_31) g10_31) fun y61 g10_32=>
 ae (al (aH y59==some false) (pu (unA .not y61) g10_32) g10_32) fun y62 g10_33=>
 ae (al (aH y59==some false) (some (y62,g10_33)) g10_33) fun y63 g10_34=>
 ae (al (aH y63==some true) (bP 116 y3 g10_34) g10_34) fun y64 g10_35=>
 ae (al (aH y63==some true) (C 19 [y64] g10_35) g10_35) fun y65 g10_36=>
 ae (al (aH y63==some true) (pu (bin Tryz.prog .neq 35 y65 (.int .i64 2)) g10_36) g10_36) fun y66 g10_37=>
 ae (al (aH y59==some false) (match y63 with | .bool t=>some (if t then y66 else (.bool false),g10_37)|_=>none) g10_37) fun y67 g10_38=>
 ae (match y59 with | .bool t=>some (if t then (.bool true) else y67,g10_38)|_=>none) fun y68 g10_39=>
 (match (cF (aH y51==some false) (bP 116 y1 g10_23) y55&&true) with
 |true=>
 let h:=g10_39
 (match y68 with
 | .bool true=>
 ae (some ((.bool false),h)) fun y2_1 h=>
 some (y2_1,h)
 | .bool false=>
 let g13_0:=h
 ae (bP 116 y3 g13_0) fun y69 g13_1=>
 ae (C 26 [y69] g13_1) fun y70 g13_2=>
 ae (bP 116 y1 g13_2) fun y71 g13_3=>
 ae (C 27 [y71] g13_3) fun y72 g13_4=>
 ae (pu (bin Tryz.prog .eql 9 y70 y72) g13_4) fun y73 g13_5=>
 ae (some (y73,g13_5)) fun y74 g13_6=>
 ae (al (aH y74==some true) (bP 116 y3 g13_6) g13_6) fun y75 g13_7=>
 ae (al (aH y74==some true) (bP 116 y1 g13_7) g13_7) fun y76 g13_8=>
 ae (al (aH y74==some true) (C 15 [y75,y76] g13_8) g13_8) fun y77 g13_9=>
 ae (match y74 with | .bool t=>some (if t then y77 else (.bool false),g13_9)|_=>none) fun y78 g13_10=>
 ae (some (y78,g13_10)) fun y79 g13_11=>
 ae (al (aH y79==some true) (C 12 [] g13_11) g13_11) fun y80 g13_12=>
 ae (match y79 with | .bool t=>some (if t then y80 else (.bool false),g13_12)|_=>none) fun y81 g13_13=>
 ae (some (y81,g13_13)) fun y2_1 g13_14=>
 (match (cF true (bP 116 y1 g13_1) y71&&true) with
 |true=>
 let h:=g13_14
 some (y2_1,h)
 |false=>none)
 |_=>none)
 |false=>none)
 |_=>none)
theorem t8_eq (C:av) (x0:Value) (h:ak):aY Tryz.prog C Tryz.f8 [x0] h=t8 C x0 h:=
 (aI Tryz.prog C Tryz.f8 [x0] h (by kernel_rfl)).trans (by kernel_rfl)
noncomputable def t16 (C:av) (x0:Value) (h:ak):Out:=
 ae (some ((.string ⟨#[]⟩),h)) fun _y2 h=>
 ae (some (x0,h)) fun y6 h=>
 ae (C 35 [y6] h) fun y7 h=>
 ae (some (y7,h)) fun y5 h=>
 ae (pu (aV y5 0) h) fun y8 h=>
 ae (pu (aV y5 1) h) fun y9 h=>
 ae (fz [(.string ⟨#[]⟩),.nilFunc,.nilFunc,.nilFunc,.nilFunc] h) fun y3 h=>
 ae (dH 5 y3 y8 h) fun _ h=>
 ae (some (y9,h)) fun _y4 h=>
 ae (pu (az y3 0) h) fun y10 h=>
 ae (aK y10 h) fun y11 h=>
 ae (some (y11,h)) fun y2_1 h=>
 some (y2_1,h)
theorem t16_eq (C:av) (x0:Value) (h:ak):aY Tryz.prog C Tryz.f16 [x0] h=t16 C x0 h:=
 (aI Tryz.prog C Tryz.f16 [x0] h (by kernel_rfl)).trans (by kernel_rfl)
noncomputable def t17 (_C:av) (x0:Value) (h:ak):Out:=
 ae (some ((.string ⟨#[]⟩),h)) fun _y2 h=>
 ae (dD 1 (.string ⟨#[]⟩) 14 [(0,(.string ⟨#[]⟩)),(1,(.string ⟨#[112,105,110,103]⟩)),(2,(.string ⟨#[97,99,107]⟩)),(3,(.string ⟨#[112,105,110,103,114,101,113]⟩)),(4,(.string ⟨#[115,117,109]⟩)),(5,(.string ⟨#[105,116,101,109,115]⟩)),(6,(.string ⟨#[99,108,97,105,109]⟩)),(7,(.string ⟨#[102,101,116,99,104]⟩)),(8,(.string ⟨#[111,102,102,101,114]⟩)),(9,(.string ⟨#[108,97,99,107]⟩)),(10,(.string ⟨#[105,110,115,116,97,108,108]⟩)),(11,(.string ⟨#[115,116,111,114,101,100]⟩)),(12,(.string ⟨#[97,115,107]⟩)),(13,(.string ⟨#[107,101,101,112]⟩))] h) fun y4 h=>
 ae (some (y4,h)) fun y3 h=>
 ae (some (x0,h)) fun y5 h=>
 ae (pu (bin Tryz.prog .gtr 24 y5 (.int .u8 13)) h) fun y6 h=>
 (match y6 with
 | .bool true=>
 ae (some ((.string ⟨#[]⟩),h)) fun y2_1 h=>
 some (y2_1,h)
 | .bool false=>
 ae (some (y3,h)) fun y7 h=>
 ae (some (x0,h)) fun y8 h=>
 ae (pu (cD 1 y7 y8) h) fun y9 h=>
 ae (aK y9 h) fun y10 h=>
 ae (some (y10,h)) fun y2_1 h=>
 some (y2_1,h)
 |_=>none)
theorem t17_eq (C:av) (x0:Value) (h:ak):aY Tryz.prog C Tryz.f17 [x0] h=t17 C x0 h:=
 (aI Tryz.prog C Tryz.f17 [x0] h (by kernel_rfl)).trans (by kernel_rfl)
noncomputable def t23 (C:av) (x0:Value) (h:ak):Out:=
 ae (box x0 h) fun y1 h=>
 ae (some ((.slice none 0 0),h)) fun _y2 h=>
 ae (some ((.int .i64 0),h)) fun _y3 h=>
 ae (bP 116 y1 h) fun y6 h=>
 ae (C 25 [y6] h) fun y7 h=>
 ae (pu (unA .not y7) h) fun y8 h=>
 (match y8 with
 | .bool true=>
 ae (some ((.slice none 0 0),h)) fun y2_1 h=>
 ae (some ((.int .i64 2),h)) fun y3_1 h=>
 some (.tuple #[y2_1,y3_1],h)
 | .bool false=>
 ae (bP 116 y1 h) fun y9 h=>
 ae (C 57 [y9] h) fun y10 h=>
 ae (some (y10,h)) fun y4 h=>
 let g6_0:=h
 ae (pu (az y1 0) g6_0) fun y11 g6_1=>
 ae (aK y11 g6_1) fun y12 g6_2=>
 ae (pu (az y1 1) g6_2) fun y13 g6_3=>
 ae (aK y13 g6_3) fun y14 g6_4=>
 ae (dU .u8 y14 g6_4) fun y15 g6_5=>
 ae (pu (az y1 2) g6_5) fun y16 g6_6=>
 ae (aK y16 g6_6) fun y17 g6_7=>
 ae (dU .u8 y17 g6_7) fun y18 g6_8=>
 ae (some (y4,g6_8)) fun y20 g6_9=>
 ae (pu (bE y20) g6_9) fun y21 g6_10=>
 ae (dU .u64 y21 g6_10) fun y22 g6_11=>
 ae (C 58 [y22,(.int .i64 4)] g6_11) fun y23 g6_12=>
 ae (dD 1 (.int .u8 0) 6 [(0,(.int .u8 83)),(1,(.int .u8 87)),(2,(.int .u8 1)),(3,y12),(4,y15),(5,y18)] g6_12) fun y19 g6_13=>
 ae (aO 1 1 y19 y23 g6_13) fun y24 g6_14=>
 ae (some (y24,g6_14)) fun y5 g6_15=>
 (match (cF true (aK y11 g6_12) y12&&(cF true (aK y13 g6_12) y14&&(cF true (dU .u8 y14 g6_12) y15&&(cF true (aK y16 g6_12) y17&&(cF true (dU .u8 y17 g6_12) y18&&true))))) with
 |true=>
 let h:=g6_15
 ae (some (y5,h)) fun y25 h=>
 ae (some (y4,h)) fun y26 h=>
 ae (aO 1 1 y25 y26 h) fun y27 h=>
 ae (some (y27,h)) fun y5_1 h=>
 ae (some (y5_1,h)) fun y28 h=>
 ae (some (y5_1,h)) fun y29 h=>
 ae (C 39 [y29] h) fun y30 h=>
 ae (dU .u64 y30 h) fun y31 h=>
 ae (C 58 [y31,(.int .i64 4)] h) fun y32 h=>
 ae (aO 1 1 y28 y32 h) fun y33 h=>
 ae (some (y33,h)) fun y2_1 h=>
 ae (some ((.int .i64 0),h)) fun y3_1 h=>
 some (.tuple #[y2_1,y3_1],h)
 |false=>none)
 |_=>none)
theorem t23_eq (C:av) (x0:Value) (h:ak):aY Tryz.prog C Tryz.f23 [x0] h=t23 C x0 h:=
 (aI Tryz.prog C Tryz.f23 [x0] h (by kernel_rfl)).trans (by kernel_rfl)
noncomputable def t26 (C:av) (x0:Value) (h:ak):Out:=
 ae (box x0 h) fun y1 h=>
 ae (some ((.string ⟨#[]⟩),h)) fun _y2 h=>
 ae (bP 116 y1 h) fun y4 h=>
 ae (C 19 [y4] h) fun y5 h=>
 ae (pu (bin Tryz.prog .neq 35 y5 (.int .i64 0)) h) fun y6 h=>
 (match y6 with
 | .bool true=>
 ae (some ((.string ⟨#[]⟩),h)) fun y2_1 h=>
 some (y2_1,h)
 | .bool false=>
 let g5_0:=h
 ae (pu (az y1 1) g5_0) fun y7 g5_1=>
 ae (aK y7 g5_1) fun y8 g5_2=>
 ae (C 64 [y8] g5_2) fun y9 g5_3=>
 ae (pu (bin Tryz.prog .add 9 y9 (.string ⟨#[62]⟩)) g5_3) fun y10 g5_4=>
 ae (pu (az y1 2) g5_4) fun y11 g5_5=>
 ae (aK y11 g5_5) fun y12 g5_6=>
 ae (C 64 [y12] g5_6) fun y13 g5_7=>
 ae (pu (bin Tryz.prog .add 9 y10 y13) g5_7) fun y14 g5_8=>
 ae (pu (bin Tryz.prog .add 9 y14 (.string ⟨#[32]⟩)) g5_8) fun y15 g5_9=>
 ae (pu (az y1 0) g5_9) fun y16 g5_10=>
 ae (aK y16 g5_10) fun y17 g5_11=>
 ae (C 16 [y17] g5_11) fun y18 g5_12=>
 ae (pu (bin Tryz.prog .add 9 y15 y18) g5_12) fun y19 g5_13=>
 ae (some (y19,g5_13)) fun y3 g5_14=>
 (match (cF true (aK y11 g5_2) y12&&(cF true (aK y16 g5_2) y17&&(cF true (aK y16 g5_6) y17&&true))) with
 |true=>
 let h:=g5_14
 ae (pu (az y1 0) h) fun y20 h=>
 ae (aK y20 h) fun y21 h=>
 ae (pu (bin Tryz.prog .geq 24 y21 (.int .u8 6)) h) fun y22 h=>
 (match y22 with
 | .bool true=>
 ae (some (y3,h)) fun y23 h=>
 ae (pu (az y1 44) h) fun y24 h=>
 ae (bP 32 y24 h) fun y25 h=>
 ae (C 65 [y25] h) fun y26 h=>
 ae (pu (slS y26 none (some (.int .i64 8)) none) h) fun y27 h=>
 ae (pu (bin Tryz.prog .add 9 (.string ⟨#[32]⟩) y27) h) fun y28 h=>
 ae (pu (bin Tryz.prog .add 9 y23 y28) h) fun y29 h=>
 ae (some (y29,h)) fun y3_1 h=>
 ae (some (y3_1,h)) fun y30 h=>
 ae (some (y30,h)) fun y2_1 h=>
 some (y2_1,h)
 | .bool false=>
 ae (some (y3,h)) fun y30 h=>
 ae (some (y30,h)) fun y2_1 h=>
 some (y2_1,h)
 |_=>none)
 |false=>none)
 |_=>none)
theorem t26_eq (C:av) (x0:Value) (h:ak):aY Tryz.prog C Tryz.f26 [x0] h=t26 C x0 h:=
 (aI Tryz.prog C Tryz.f26 [x0] h (by kernel_rfl)).trans (by kernel_rfl)
noncomputable def t27 (C:av) (x0:Value) (h:ak):Out:=
 ae (box x0 h) fun y1 h=>
 ae (some ((.string ⟨#[]⟩),h)) fun _y2 h=>
 ae (bP 116 y1 h) fun y4 h=>
 ae (C 25 [y4] h) fun y5 h=>
 ae (pu (unA .not y5) h) fun y6 h=>
 (match y6 with
 | .bool true=>
 ae (some ((.string ⟨#[]⟩),h)) fun y2_1 h=>
 some (y2_1,h)
 | .bool false=>
 let g5_0:=h
 ae (pu (az y1 1) g5_0) fun y7 g5_1=>
 ae (aK y7 g5_1) fun y8 g5_2=>
 ae (C 66 [y8] g5_2) fun y9 g5_3=>
 ae (pu (bin Tryz.prog .add 9 y9 (.string ⟨#[62]⟩)) g5_3) fun y10 g5_4=>
 ae (pu (az y1 2) g5_4) fun y11 g5_5=>
 ae (aK y11 g5_5) fun y12 g5_6=>
 ae (C 66 [y12] g5_6) fun y13 g5_7=>
 ae (pu (bin Tryz.prog .add 9 y10 y13) g5_7) fun y14 g5_8=>
 ae (pu (bin Tryz.prog .add 9 y14 (.string ⟨#[32]⟩)) g5_8) fun y15 g5_9=>
 ae (pu (az y1 0) g5_9) fun y16 g5_10=>
 ae (aK y16 g5_10) fun y17 g5_11=>
 ae (C 17 [y17] g5_11) fun y18 g5_12=>
 ae (pu (bin Tryz.prog .add 9 y15 y18) g5_12) fun y19 g5_13=>
 ae (some (y19,g5_13)) fun y3 g5_14=>
 (match (cF true (aK y11 g5_2) y12&&(cF true (aK y16 g5_2) y17&&(cF true (aK y16 g5_6) y17&&true))) with
 |true=>
 let h:=g5_14
 ae (pu (az y1 0) h) fun y20 h=>
 ae (aK y20 h) fun y21 h=>
 ae (pu (bin Tryz.prog .geq 24 y21 (.int .u8 6)) h) fun y22 h=>
 (match y22 with
 | .bool true=>
 ae (some (y3,h)) fun y23 h=>
 ae (pu (az y1 44) h) fun y24 h=>
 ae (bP 32 y24 h) fun y25 h=>
 ae (C 67 [y25] h) fun y26 h=>
 ae (pu (slS y26 none (some (.int .i64 8)) none) h) fun y27 h=>
 ae (pu (bin Tryz.prog .add 9 (.string ⟨#[32]⟩) y27) h) fun y28 h=>
 ae (pu (bin Tryz.prog .add 9 y23 y28) h) fun y29 h=>
 ae (some (y29,h)) fun y3_1 h=>
 ae (some (y3_1,h)) fun y30 h=>
 ae (some (y30,h)) fun y2_1 h=>
 some (y2_1,h)
 | .bool false=>
 ae (some (y3,h)) fun y30 h=>
 ae (some (y30,h)) fun y2_1 h=>
 some (y2_1,h)
 |_=>none)
 |false=>none)
 |_=>none)
theorem t27_eq (C:av) (x0:Value) (h:ak):aY Tryz.prog C Tryz.f27 [x0] h=t27 C x0 h:=
 (aI Tryz.prog C Tryz.f27 [x0] h (by kernel_rfl)).trans (by kernel_rfl)
noncomputable def t64 (C:av) (x0:Value) (h:ak):Out:=
 ae (some ((.string ⟨#[]⟩),h)) fun _y2 h=>
 ae (some (x0,h)) fun y3 h=>
 ae (C 93 [y3] h) fun y4 h=>
 ae (some (y4,h)) fun y2_1 h=>
 some (y2_1,h)
theorem t64_eq (C:av) (x0:Value) (h:ak):aY Tryz.prog C Tryz.f64 [x0] h=t64 C x0 h:=
 (aI Tryz.prog C Tryz.f64 [x0] h (by kernel_rfl)).trans (by kernel_rfl)
noncomputable def k65_2 (C:av) (e:Env) (h:ak):Out:=br Tryz.prog C (partOf Tryz.f65 [1,1,1]) e h (ax Tryz.prog Tryz.f65.results.toList) (ax Tryz.prog Tryz.f65.results.toList) (fun _ _ _=>none)
noncomputable def b65_4 (C:av) (i:Nat) (e:Env) (h:ak):Out:=if i=0 then (k65_2 C) e h else (fun _ _ _=>none) i e h
noncomputable def t65 (C:av) (x0:Value) (h:ak):Out:=
 ae (box x0 h) fun y1 h=>
 ae (some ((.string ⟨#[]⟩),h)) fun y2 h=>
 ae (mkR 1 1 (.int .u8 0) (.int .i64 0) (.int .i64 64) h) fun y6 h=>
 ae (some (y6,h)) fun y3 h=>
 ae (bP 32 y1 h) fun y7 h=>
 ae (some ((.int .i64 0),h)) fun y8 h=>
 ei (iter (aL Tryz.prog C (partOf Tryz.f65 [1,1,0,1,0,0])) rounds (aX 23 (up (bs [x0]) [(1,y1),(2,y2),(3,y3),(6,y6),(7,y7),(8,y8)])) h) (ax Tryz.prog Tryz.f65.results.toList) (b65_4 C)
noncomputable def t65k65_2 (_C:av) (x:Nat→Value) (h:ak):Out:=
 ae (some ((x 3),h)) fun y21 h=>
 ae (cvBS y21 h) fun y22 h=>
 ae (some (y22,h)) fun y2 h=>
 some (y2,h)
noncomputable def t65l65_11010 (_C:av) (x:Nat→Value) (h:ak):Option (Ex×Env×ak):=
 ae (pu (bin Tryz.prog .lss 3 (x 8) (.int .i64 32)) h) fun y9 h=>
 (match y9 with
 | .bool true=>
 ae (pu (ixA1 32 1 (x 7) (x 8)) h) fun y10 h=>
 ae (some (y10,h)) fun y5 h=>
 ae (some ((x 3),h)) fun y11 h=>
 ae (some (y5,h)) fun y12 h=>
 ae (pu (bin Tryz.prog .shr 5 y12 (.int .u64 4)) h) fun y13 h=>
 ae (pu (ixS (.string ⟨#[48,49,50,51,52,53,54,55,56,57,97,98,99,100,101,102]⟩) y13) h) fun y14 h=>
 ae (some (y5,h)) fun y15 h=>
 ae (pu (bin Tryz.prog .and 5 y15 (.int .u8 15)) h) fun y16 h=>
 ae (pu (ixS (.string ⟨#[48,49,50,51,52,53,54,55,56,57,97,98,99,100,101,102]⟩) y16) h) fun y17 h=>
 ae (dD 1 (.int .u8 0) 2 [(0,y14),(1,y17)] h) fun y18 h=>
 ae (aO 1 1 y11 y18 h) fun y19 h=>
 ae (some (y19,h)) fun y3 h=>
 ae (pu (bin Tryz.prog .add 3 (x 8) (.int .i64 1)) h) fun y20 h=>
 ae (some (y20,h)) fun y8 h=>
 some (.normal,(aX 23 (up x [(3,y3),(5,y5),(8,y8),(9,y9),(10,y10),(11,y11),(12,y12),(13,y13),(14,y14),(15,y15),(16,y16),(17,y17),(18,y18),(19,y19),(20,y20)])),h)
 | .bool false=>
 some (.exit 0,(aX 23 (up x [(9,y9)])),h)
 |_=>none)
theorem t65_eq (C:av) (x0:Value) (h:ak):aY Tryz.prog C Tryz.f65 [x0] h=t65 C x0 h:=
 (aI Tryz.prog C Tryz.f65 [x0] h (by kernel_rfl)).trans (by kernel_rfl)
theorem t65k65_2_eq (C:av) (x:Nat→Value) (h:ak):k65_2 C (aX 23 x) h=t65k65_2 C x h:=
 bq (b:=(partOf Tryz.f65 [1,1,1])) (kE:=(ax Tryz.prog Tryz.f65.results.toList)) (rE:=(ax Tryz.prog Tryz.f65.results.toList)) (xE:=(fun _ _ _=>none)) (T:=t65k65_2 C) (fun x h=>by kernel_rfl) x h
theorem t65l65_11010_eq (C:av) (x:Nat→Value) (h:ak):aL Tryz.prog C (partOf Tryz.f65 [1,1,0,1,0,0]) (aX 23 x) h=t65l65_11010 C x h:=
 bn (T:=t65l65_11010 C) (fun x h=>by kernel_rfl) x h
noncomputable def t66 (_C:av) (x0:Value) (h:ak):Out:=
 ae (some ((.string ⟨#[]⟩),h)) fun _y2 h=>
 ae (some (x0,h)) fun y3 h=>
 ae (pu (bin Tryz.prog .geq 3 y3 (.int .i64 10)) h) fun y4 h=>
 (match y4 with
 | .bool true=>
 ae (some (x0,h)) fun y5 h=>
 ae (pu (bin Tryz.prog .add 3 (.int .i64 48) y5) h) fun y6 h=>
 ae (pu (bin Tryz.prog .sub 3 y6 (.int .i64 10)) h) fun y7 h=>
 ae (dU .u8 y7 h) fun y8 h=>
 ae (dD 1 (.int .u8 0) 1 [(0,y8)] h) fun y9 h=>
 ae (cvBS y9 h) fun y10 h=>
 ae (pu (bin Tryz.prog .add 9 (.string ⟨#[49]⟩) y10) h) fun y11 h=>
 ae (some (y11,h)) fun y2_1 h=>
 some (y2_1,h)
 | .bool false=>
 ae (some (x0,h)) fun y12 h=>
 ae (pu (bin Tryz.prog .add 3 (.int .i64 48) y12) h) fun y13 h=>
 ae (dU .u8 y13 h) fun y14 h=>
 ae (dD 1 (.int .u8 0) 1 [(0,y14)] h) fun y15 h=>
 ae (cvBS y15 h) fun y16 h=>
 ae (some (y16,h)) fun y2_1 h=>
 some (y2_1,h)
 |_=>none)
theorem t66_eq (C:av) (x0:Value) (h:ak):aY Tryz.prog C Tryz.f66 [x0] h=t66 C x0 h:=
 (aI Tryz.prog C Tryz.f66 [x0] h (by kernel_rfl)).trans (by kernel_rfl)
noncomputable def k67_2 (C:av) (e:Env) (h:ak):Out:=br Tryz.prog C (partOf Tryz.f67 [1,1,1]) e h (ax Tryz.prog Tryz.f67.results.toList) (ax Tryz.prog Tryz.f67.results.toList) (fun _ _ _=>none)
noncomputable def b67_4 (C:av) (i:Nat) (e:Env) (h:ak):Out:=if i=0 then (k67_2 C) e h else (fun _ _ _=>none) i e h
noncomputable def t67 (C:av) (x0:Value) (h:ak):Out:=
 ae (box x0 h) fun y1 h=>
 ae (some ((.string ⟨#[]⟩),h)) fun y2 h=>
 ae (some ((.string ⟨#[]⟩),h)) fun y3 h=>
 ae (some ((.int .i64 0),h)) fun y4 h=>
 ei (iter (aL Tryz.prog C (partOf Tryz.f67 [1,1,0,1,0,0])) rounds (aX 25 (up (bs [x0]) [(1,y1),(2,y2),(3,y3),(4,y4)])) h) (ax Tryz.prog Tryz.f67.results.toList) (b67_4 C)
noncomputable def t67k67_2 (_C:av) (x:Nat→Value) (h:ak):Out:=
 ae (some ((x 3),h)) fun y24 h=>
 ae (some (y24,h)) fun y2 h=>
 some (y2,h)
noncomputable def t67l67_11010 (_C:av) (x:Nat→Value) (h:ak):Option (Ex×Env×ak):=
 ae (some ((x 4),h)) fun y5 h=>
 ae (pu (bin Tryz.prog .lss 3 y5 (.int .i64 32)) h) fun y6 h=>
 (match y6 with
 | .bool true=>
 ae (some ((x 3),h)) fun y9 h=>
 ae (some ((x 4),h)) fun y10 h=>
 ae (pu (idxA 32 1 (x 1) y10) h) fun y11 h=>
 ae (aK y11 h) fun y12 h=>
 ae (pu (bin Tryz.prog .shr 5 y12 (.int .u64 4)) h) fun y13 h=>
 ae (pu (slS (.string ⟨#[48,49,50,51,52,53,54,55,56,57,97,98,99,100,101,102]⟩) (some y13) none none) h) fun y14 h=>
 ae (pu (slS y14 none (some (.int .i64 1)) none) h) fun y15 h=>
 ae (some ((x 4),h)) fun y16 h=>
 ae (pu (idxA 32 1 (x 1) y16) h) fun y17 h=>
 ae (aK y17 h) fun y18 h=>
 ae (pu (bin Tryz.prog .and 5 y18 (.int .u8 15)) h) fun y19 h=>
 ae (pu (slS (.string ⟨#[48,49,50,51,52,53,54,55,56,57,97,98,99,100,101,102]⟩) (some y19) none none) h) fun y20 h=>
 ae (pu (slS y20 none (some (.int .i64 1)) none) h) fun y21 h=>
 ae (pu (bin Tryz.prog .add 9 y15 y21) h) fun y22 h=>
 ae (pu (bin Tryz.prog .add 9 y9 y22) h) fun y23 h=>
 ae (some (y23,h)) fun y3 h=>
 ae (some ((x 4),h)) fun y7 h=>
 ae (pu (bin Tryz.prog .add 3 y7 (.int .i64 1)) h) fun y8 h=>
 ae (some (y8,h)) fun y4 h=>
 some (.normal,(aX 25 (up x [(3,y3),(4,y4),(5,y5),(6,y6),(7,y7),(8,y8),(9,y9),(10,y10),(11,y11),(12,y12),(13,y13),(14,y14),(15,y15),(16,y16),(17,y17),(18,y18),(19,y19),(20,y20),(21,y21),(22,y22),(23,y23)])),h)
 | .bool false=>
 some (.exit 0,(aX 25 (up x [(5,y5),(6,y6)])),h)
 |_=>none)
theorem t67_eq (C:av) (x0:Value) (h:ak):aY Tryz.prog C Tryz.f67 [x0] h=t67 C x0 h:=
 (aI Tryz.prog C Tryz.f67 [x0] h (by kernel_rfl)).trans (by kernel_rfl)
theorem t67k67_2_eq (C:av) (x:Nat→Value) (h:ak):k67_2 C (aX 25 x) h=t67k67_2 C x h:=
 bq (b:=(partOf Tryz.f67 [1,1,1])) (kE:=(ax Tryz.prog Tryz.f67.results.toList)) (rE:=(ax Tryz.prog Tryz.f67.results.toList)) (xE:=(fun _ _ _=>none)) (T:=t67k67_2 C) (fun x h=>by kernel_rfl) x h
theorem t67l67_11010_eq (C:av) (x:Nat→Value) (h:ak):aL Tryz.prog C (partOf Tryz.f67 [1,1,0,1,0,0]) (aX 25 x) h=t67l67_11010 C x h:=
 bn (T:=t67l67_11010 C) (fun x h=>by kernel_rfl) x h
noncomputable def t93 (C:av) (x0:Value) (h:ak):Out:=
 ae (some ((.string ⟨#[]⟩),h)) fun _y2 h=>
 ae (some (x0,h)) fun y3 h=>
 ae (C 124 [y3,(.int .i64 10)] h) fun y4 h=>
 ae (some (y4,h)) fun y2_1 h=>
 some (y2_1,h)
theorem t93_eq (C:av) (x0:Value) (h:ak):aY Tryz.prog C Tryz.f93 [x0] h=t93 C x0 h:=
 (aI Tryz.prog C Tryz.f93 [x0] h (by kernel_rfl)).trans (by kernel_rfl)
noncomputable def t124 (C:av) (x0 x1:Value) (h:ak):Out:=
 ae (some ((.string ⟨#[]⟩),h)) fun _y4 h=>
 ae (some (x1,h)) fun y10 h=>
 ae (pu (bin Tryz.prog .eql 3 y10 (.int .i64 10)) h) fun y11 h=>
 (match y11 with
 | .bool true=>
 ae (some (x0,h)) fun y12 h=>
 ae (pu (bin Tryz.prog .leq 2 (.int .i64 0) y12) h) fun y13 h=>
 ae (some (y13,h)) fun y14 h=>
 ae (al (aH y14==some true) (some (x0,h)) h) fun y15 h=>
 ae (al (aH y14==some true) (pu (bin Tryz.prog .lss 2 y15 (.int .i64 100)) h) h) fun y16 h=>
 ae (match y14 with | .bool t=>some (if t then y16 else (.bool false),h)|_=>none) fun y17 h=>
 (match y17 with
 | .bool true=>
 ae (some (x0,h)) fun y18 h=>
 ae (C 141 [y18] h) fun y19 h=>
 ae (some (y19,h)) fun y4_1 h=>
 some (y4_1,h)
 | .bool false=>
 ae (fz (List.replicate 24 (.int .u8 0)) h) fun y5 h=>
 ae (some (x0,h)) fun y20 h=>
 ae (dU .u64 y20 h) fun y21 h=>
 ae (some (y21,h)) fun y6 h=>
 ae (some (x0,h)) fun y22 h=>
 ae (pu (bin Tryz.prog .lss 2 y22 (.int .i64 0)) h) fun y23 h=>
 (match y23 with
 | .bool true=>
 ae (some (y6,h)) fun y24 h=>
 ae (pu (unA .neg y24) h) fun y25 h=>
 ae (some (y25,h)) fun y6_1 h=>
 ae (some (y6_1,h)) fun y26 h=>
 ae (C 142 [y26] h) fun y27 h=>
 ae (some (y27,h)) fun y7 h=>
 ae (some (y7,h)) fun y28 h=>
 ae (pu (bin Tryz.prog .add 3 (.int .i64 1) y28) h) fun y29 h=>
 ae (pu (bY 24 1 y5 (some (.int .i64 1)) (some y29) none) h) fun y30 h=>
 ae (some (y6_1,h)) fun y31 h=>
 ae (C 143 [y30,y31] h) fun _y32 h=>
 ae (some (x0,h)) fun y33 h=>
 ae (pu (bin Tryz.prog .lss 2 y33 (.int .i64 0)) h) fun y34 h=>
 (match y34 with
 | .bool true=>
 ae (pu (idxA 24 1 y5 (.int .i64 0)) h) fun y35 h=>
 ae (dH 1 y35 (.int .u8 45) h) fun _ h=>
 ae (some (y7,h)) fun y36 h=>
 ae (pu (bin Tryz.prog .add 3 (.int .i64 1) y36) h) fun y37 h=>
 ae (pu (bY 24 1 y5 none (some y37) none) h) fun y38 h=>
 ae (cvBS y38 h) fun y39 h=>
 ae (some (y39,h)) fun y4_1 h=>
 some (y4_1,h)
 | .bool false=>
 ae (some (y7,h)) fun y40 h=>
 ae (pu (bin Tryz.prog .add 3 (.int .i64 1) y40) h) fun y41 h=>
 ae (pu (bY 24 1 y5 (some (.int .i64 1)) (some y41) none) h) fun y42 h=>
 ae (cvBS y42 h) fun y43 h=>
 ae (some (y43,h)) fun y4_1 h=>
 some (y4_1,h)
 |_=>none)
 | .bool false=>
 ae (some (y6,h)) fun y26 h=>
 ae (C 142 [y26] h) fun y27 h=>
 ae (some (y27,h)) fun y7 h=>
 ae (some (y7,h)) fun y28 h=>
 ae (pu (bin Tryz.prog .add 3 (.int .i64 1) y28) h) fun y29 h=>
 ae (pu (bY 24 1 y5 (some (.int .i64 1)) (some y29) none) h) fun y30 h=>
 ae (some (y6,h)) fun y31 h=>
 ae (C 143 [y30,y31] h) fun _y32 h=>
 ae (some (x0,h)) fun y33 h=>
 ae (pu (bin Tryz.prog .lss 2 y33 (.int .i64 0)) h) fun y34 h=>
 (match y34 with
 | .bool true=>
 ae (pu (idxA 24 1 y5 (.int .i64 0)) h) fun y35 h=>
 ae (dH 1 y35 (.int .u8 45) h) fun _ h=>
 ae (some (y7,h)) fun y36 h=>
 ae (pu (bin Tryz.prog .add 3 (.int .i64 1) y36) h) fun y37 h=>
 ae (pu (bY 24 1 y5 none (some y37) none) h) fun y38 h=>
 ae (cvBS y38 h) fun y39 h=>
 ae (some (y39,h)) fun y4_1 h=>
 some (y4_1,h)
 | .bool false=>
 ae (some (y7,h)) fun y40 h=>
 ae (pu (bin Tryz.prog .add 3 (.int .i64 1) y40) h) fun y41 h=>
 ae (pu (bY 24 1 y5 (some (.int .i64 1)) (some y41) none) h) fun y42 h=>
 ae (cvBS y42 h) fun y43 h=>
 ae (some (y43,h)) fun y4_1 h=>
 some (y4_1,h)
 |_=>none)
 |_=>none)
 |_=>none)
 | .bool false=>
 ae (some (x0,h)) fun y45 h=>
 ae (dU .u64 y45 h) fun y46 h=>
 ae (some (x1,h)) fun y47 h=>
 ae (some (x0,h)) fun y48 h=>
 ae (pu (bin Tryz.prog .lss 2 y48 (.int .i64 0)) h) fun y49 h=>
 ae (C 144 [(.slice none 0 0),y46,y47,y49,(.bool false)] h) fun y50 h=>
 ae (some (y50,h)) fun y44 h=>
 ae (pu (aV y44 0) h) fun y51 h=>
 ae (pu (aV y44 1) h) fun y52 h=>
 ae (some (y51,h)) fun _y8 h=>
 ae (some (y52,h)) fun y9 h=>
 ae (some (y9,h)) fun y53 h=>
 ae (some (y53,h)) fun y4_1 h=>
 some (y4_1,h)
 |_=>none)
theorem t124_eq (C:av) (x0 x1:Value) (h:ak):aY Tryz.prog C Tryz.f124 [x0,x1] h=t124 C x0 x1 h:=
 (aI Tryz.prog C Tryz.f124 [x0,x1] h (by kernel_rfl)).trans (by kernel_rfl)
noncomputable def t141 (_C:av) (x0:Value) (h:ak):Out:=
 ae (some ((.string ⟨#[]⟩),h)) fun _y2 h=>
 ae (some (x0,h)) fun y3 h=>
 ae (pu (bin Tryz.prog .lss 3 y3 (.int .i64 10)) h) fun y4 h=>
 (match y4 with
 | .bool true=>
 ae (some (x0,h)) fun y5 h=>
 ae (some (x0,h)) fun y6 h=>
 ae (pu (bin Tryz.prog .add 3 y6 (.int .i64 1)) h) fun y7 h=>
 ae (pu (slS (.string ⟨#[48,49,50,51,52,53,54,55,56,57,97,98,99,100,101,102,103,104,105,106,107,108,109,110,111,112,113,114,115,116,117,118,119,120,121,122]⟩) (some y5) (some y7) none) h) fun y8 h=>
 ae (some (y8,h)) fun y2_1 h=>
 some (y2_1,h)
 | .bool false=>
 ae (some (x0,h)) fun y9 h=>
 ae (pu (bin Tryz.prog .mul 3 y9 (.int .i64 2)) h) fun y10 h=>
 ae (some (x0,h)) fun y11 h=>
 ae (pu (bin Tryz.prog .mul 3 y11 (.int .i64 2)) h) fun y12 h=>
 ae (pu (bin Tryz.prog .add 3 y12 (.int .i64 2)) h) fun y13 h=>
 ae (pu (slS (.string ⟨#[48,48,48,49,48,50,48,51,48,52,48,53,48,54,48,55,48,56,48,57,49,48,49,49,49,50,49,51,49,52,49,53,49,54,49,55,49,56,49,57,50,48,50,49,50,50,50,51,50,52,50,53,50,54,50,55,50,56,50,57,51,48,51,49,51,50,51,51,51,52,51,53,51,54,51,55,51,56,51,57,52,48,52,49,52,50,52,51,52,52,52,53,52,54,52,55,52,56,52,57,53,48,53,49,53,50,53,51,53,52,53,53,53,54,53,55,53,56,53,57,54,48,54,49,54,50,54,51,54,52,54,53,54,54,54,55,54,56,54,57,55,48,55,49,55,50,55,51,55,52,55,53,55,54,55,55,55,56,55,57,56,48,56,49,56,50,56,51,56,52,56,53,56,54,56,55,56,56,56,57,57,48,57,49,57,50,57,51,57,52,57,53,57,54,57,55,57,56,57,57]⟩) (some y10) (some y13) none) h) fun y14 h=>
 ae (some (y14,h)) fun y2_1 h=>
 some (y2_1,h)
 |_=>none)
theorem t141_eq (C:av) (x0:Value) (h:ak):aY Tryz.prog C Tryz.f141 [x0] h=t141 C x0 h:=
 (aI Tryz.prog C Tryz.f141 [x0] h (by kernel_rfl)).trans (by kernel_rfl)
end Go.Proofs.YtjghlcdidopcpaaGreatDoor

