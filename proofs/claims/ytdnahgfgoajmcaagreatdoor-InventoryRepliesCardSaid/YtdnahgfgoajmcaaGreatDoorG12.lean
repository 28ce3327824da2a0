/-
  A part of the proof, spaces and names shortened by a program (a claim may hold 1,500,000 bytes).
  Conditions: as each theorem states.
-/
import Derived.Test.YtdnahgfgoajmcaaGreatDoorG11
import Derived.Test.YtdnahgfgoajmcaaGreatDoorProg
import Derived.KernelRfl
namespace Go.Proofs.YtdnahgfgoajmcaaGreatDoor
open Go Go.Abs Tryz
section
variable (C:aj) (i:Nat) (x:fK) (e:aW) (h:ad)
noncomputable def rO:aS:=codeK prog C (au f10 [1,1,1,1]) e h (cE f10) (cE f10) eT
noncomputable def CS:aS:=codeK prog C (au f10 [1,1,1,1,1]) e h (cE f10) (cE f10) eT
noncomputable def lQ:aS:=if i=7 then (CS C) e h else eT i e h
noncomputable def B5:aS:=codeK prog C (au f10 [1,1,1,0,1,1,1,1]) e h (rO C) (cE f10) eT
noncomputable def Ct:aS:=if i=1 then (B5 C) e h else eT i e h
noncomputable def C1:aS:=codeK prog C (au f10 [1,1,1,0,1,1,1,1,1,1,1,1]) e h (rO C) (cE f10) eT
noncomputable def Ce:aS:=if i=3 then (C1 C) e h else eT i e h
noncomputable def Cd:aS:=if i=5 then (rO C) e h else eT i e h
noncomputable def tz10 (C:aj) (x0 x1:Value) (h:ad):aS:=
 ab (box x1 h) fun y3 h=>ab (some (.slice none 0 0,h)) fun y4 h=>ab (some (.slice none 0 0,h)) fun y5 h=>ab (some (.int .i64 0,h)) fun y6 h=>ab (pu (aH y3 0) h) fun y16 h=>ab (ld1 y16 h) fun y17 h=>ab (pu (aC prog .neq 31 y17 (.int .u8 4)) h) fun y18 h=>ab (some (y18,h)) fun y19 h=>ab (ai (aR y19==some true) (pu (aH y3 0) h) h) fun y20 h=>ab (ai (aR y19==some true) (ld1 y20 h) h) fun y21 h=>ab (ai (aR y19==some true) (pu (aC prog .neq 31 y21 (.int .u8 5)) h) h) fun y22 h=>ab (match y19 with | .bool t=>some (if t then y22 else (.bool false),h)|_=>none) fun y23 h=>ab (some (y23,h)) fun y24 h=>ab (ai (aR y24==some false) (pu (aH y3 0) h) h) fun y25 h=>
 ab (ai (aR y24==some false) (ld1 y25 h) h) fun y26 h=>ab (ai (aR y24==some false) (pu (aC prog .eql 31 y26 (.int .u8 4)) h) h) fun y27 h=>ab (ai (aR y24==some false) (some (y27,h)) h) fun y28 h=>ab (ai (aR y28==some true) (pu (aH y3 9) h) h) fun y29 h=>ab (ai (aR y28==some true) (ld1 y29 h) h) fun y30 h=>ab (ai (aR y28==some true) (pu (aC prog .lss 3 y30 (.int .i64 0)) h) h) fun y31 h=>ab (ai (aR y24==some false) (match y28 with | .bool t=>some (if t then y31 else (.bool false),h)|_=>none) h) fun y32 h=>ab (match y24 with | .bool t=>some (if t then (.bool true) else y32,h)|_=>none) fun y33 h=>(match y33 with
 | .bool true=>ab (some (x0,h)) fun y34 h=>ab (some (y34,h)) fun y4_1 h=>ab (some (.slice none 0 0,h)) fun y5_1 h=>ab (some (.int .i64 2,h)) fun y6_1 h=>some (.tuple #[y4_1,y5_1,y6_1],h)
 | .bool false=>ab (cg 116 (.agg wF) 0 [] h) fun y35 h=>ab (some (y35,h)) fun y7 h=>ab (pu (aH y3 0) h) fun y36 h=>ab (ld1 y36 h) fun y37 h=>ab (pu (aC prog .eql 31 y37 (.int .u8 4)) h) fun y38 h=>(match y38 with
 | .bool true=>ab (some (x0,h)) fun y39 h=>ab (pu (aH y3 7) h) fun y40 h=>ab (ld1 y40 h) fun y41 h=>ab (pu (aH y3 8) h) fun y42 h=>ab (ld1 y42 h) fun y43 h=>ab (C 32 [y39,y41,y43] h) fun y44 h=>ab (some (y44,h)) fun y8 h=>let g10_0:=h
 ab (some (y8,g10_0)) fun y67 g10_1=>ab (pu (lenL y67) g10_1) fun y68 g10_2=>ab (pu (aH y3 9) g10_2) fun y69 g10_3=>ab (ld1 y69 g10_3) fun y70 g10_4=>ab (pu (aC prog .eql 3 y68 y70) g10_4) fun y71 g10_5=>ab (some (y71,g10_5)) fun y72 g10_6=>ab (ai (aR y72==some true) (some (y8,g10_6)) g10_6) fun y73 g10_7=>ab (ai (aR y72==some true) (C 33 [y73] g10_7) g10_7) fun y74 g10_8=>ab (ai (aR y72==some true) (pu (aH y3 10) g10_8) g10_8) fun y75 g10_9=>ab (ai (aR y72==some true) (cx 32 y75 g10_9) g10_9) fun y76 g10_10=>ab (ai (aR y72==some true) (pu (aC prog .eql 36 y74 y76) g10_10) g10_10) fun y77 g10_11=>
 ab (match y72 with | .bool t=>some (if t then y77 else (.bool false),g10_11)|_=>none) fun y78 g10_12=>ab (some (y78,g10_12)) fun y66 g10_13=>(match (bF (aR y72==some true) (cx 32 y75 g10_7) y76&&true) with
 |true=>let h:=g10_13
 (match y66 with
 | .bool true=>ab (some (.int .i64 0,h)) fun y15 h=>dj (iter (codeA prog C (au f10 [1,1,1,1,0,1,0,0])) aB (aL 206 (up (bs [x0,x1]) [(3,y3),(4,y4),(5,y5),(6,y6),(7,y7),(8,y8),(15,y15),(16,y16),(17,y17),(18,y18),(19,y19),(20,y20),(21,y21),(22,y22),(23,y23),(24,y24),(25,y25),(26,y26),(27,y27),(28,y28),(29,y29),(30,y30),(31,y31),(32,y32),(33,y33),(35,y35),(36,y36),(37,y37),(38,y38),(39,y39),(40,y40),(41,y41),(42,y42),(43,y43),(44,y44),(66,y66),(67,y67),(68,y68),(69,y69),(70,y70),(71,y71),(72,y72),(73,y73),(74,y74),(75,y75),(76,y76),(77,y77),(78,y78)])) h) (cE f10) (lQ C)
 | .bool false=>ab (some (y8,h)) fun y80 h=>ab (pu (lenL y80) h) fun y81 h=>ab (pu (aC prog .leq 3 y81 (.int .i64 8)) h) fun y82 h=>ab (some (y82,h)) fun y79 h=>(match y79 with
 | .bool true=>ab (some (y7,h)) fun y83 h=>ab (pu (aH y3 7) h) fun y84 h=>ab (ld1 y84 h) fun y85 h=>ab (pu (aH y3 8) h) fun y86 h=>ab (ld1 y86 h) fun y87 h=>ab (some (y8,h)) fun y88 h=>ab (pu (ei lF [(0,1,.int .u8 5),(7,1,y85),(8,1,y87),(42,1,y88),(43,1,.bool true)]) h) fun y89 h=>ab (cg 116 (.agg wF) 1 [(0,y89)] h) fun y90 h=>ab (appendA 116 352 y83 y90 h) fun y91 h=>ab (some (y91,h)) fun y7_1 h=>ab (some (.int .i64 0,h)) fun y15 h=>
 dj (iter (codeA prog C (au f10 [1,1,1,1,0,1,0,0])) aB (aL 206 (up (bs [x0,x1]) [(3,y3),(4,y4),(5,y5),(6,y6),(7,y7_1),(8,y8),(15,y15),(16,y16),(17,y17),(18,y18),(19,y19),(20,y20),(21,y21),(22,y22),(23,y23),(24,y24),(25,y25),(26,y26),(27,y27),(28,y28),(29,y29),(30,y30),(31,y31),(32,y32),(33,y33),(35,y35),(36,y36),(37,y37),(38,y38),(39,y39),(40,y40),(41,y41),(42,y42),(43,y43),(44,y44),(66,y66),(67,y67),(68,y68),(69,y69),(70,y70),(71,y71),(72,y72),(73,y73),(74,y74),(75,y75),(76,y76),(77,y77),(78,y78),(79,y79),(80,y80),(81,y81),(82,y82),(83,y83),(84,y84),(85,y85),(86,y86),(87,y87),(88,y88),(89,y89),(90,y90),(91,y91)])) h) (cE f10) (lQ C)
 | .bool false=>ab (some (y8,h)) fun y45 h=>ab (some (y8,h)) fun y46 h=>ab (pu (lenL y46) h) fun y47 h=>ab (pu (aC prog .quo 3 y47 (.int .i64 2)) h) fun y48 h=>ab (pu (idxS 39 y45 y48) h) fun y49 h=>ab (cx 39 y49 h) fun y50 h=>ab (C 34 [y50] h) fun y51 h=>ab (cvSB y51 h) fun y52 h=>ab (some (y52,h)) fun y9 h=>let g16_0:=h
 ab (some (y7,g16_0)) fun y53 g16_1=>ab (some (x0,g16_1)) fun y54 g16_2=>ab (pu (aH y3 7) g16_2) fun y55 g16_3=>ab (ld1 y55 g16_3) fun y56 g16_4=>ab (some (y9,g16_4)) fun y57 g16_5=>ab (C 35 [y54,y56,y57] g16_5) fun y58 g16_6=>ab (some (x0,g16_6)) fun y59 g16_7=>ab (some (y9,g16_7)) fun y60 g16_8=>ab (pu (aH y3 8) g16_8) fun y61 g16_9=>ab (ld1 y61 g16_9) fun y62 g16_10=>ab (C 35 [y59,y60,y62] g16_10) fun y63 g16_11=>ab (cg 116 (.agg wF) 2 [(0,y58),(1,y63)] g16_11) fun y64 g16_12=>ab (appendA 116 352 y53 y64 g16_12) fun y65 g16_13=>ab (some (y65,g16_13)) fun y7_1 g16_14=>(match (bF true (ld1 y61 g16_5) y62&&true) with
 |true=>let h:=g16_14
 ab (some (.int .i64 0,h)) fun y15 h=>
 dj (iter (codeA prog C (au f10 [1,1,1,1,0,1,0,0])) aB (aL 206 (up (bs [x0,x1]) [(3,y3),(4,y4),(5,y5),(6,y6),(7,y7_1),(8,y8),(9,y9),(15,y15),(16,y16),(17,y17),(18,y18),(19,y19),(20,y20),(21,y21),(22,y22),(23,y23),(24,y24),(25,y25),(26,y26),(27,y27),(28,y28),(29,y29),(30,y30),(31,y31),(32,y32),(33,y33),(35,y35),(36,y36),(37,y37),(38,y38),(39,y39),(40,y40),(41,y41),(42,y42),(43,y43),(44,y44),(45,y45),(46,y46),(47,y47),(48,y48),(49,y49),(50,y50),(51,y51),(52,y52),(53,y53),(54,y54),(55,y55),(56,y56),(57,y57),(58,y58),(59,y59),(60,y60),(61,y61),(62,y62),(63,y63),(64,y64),(65,y65),(66,y66),(67,y67),(68,y68),(69,y69),(70,y70),(71,y71),(72,y72),(73,y73),(74,y74),(75,y75),(76,y76),(77,y77),(78,y78),(79,y79),(80,y80),(81,y81),(82,y82)])) h) (cE f10) (lQ C)
 |false=>none)
 |_=>none)
 |_=>none)
 |false=>none)
 | .bool false=>ab (pu (aH y3 42) h) fun y92 h=>ab (ld1 y92 h) fun y93 h=>ab (pu (lenL y93) h) fun y94 h=>ab (pu (aC prog .gtr 3 y94 (.int .i64 64)) h) fun y95 h=>(match y95 with
 | .bool true=>ab (some (x0,h)) fun y96 h=>ab (some (y96,h)) fun y4_1 h=>ab (some (.slice none 0 0,h)) fun y5_1 h=>ab (some (.int .i64 3,h)) fun y6_1 h=>some (.tuple #[y4_1,y5_1,y6_1],h)
 | .bool false=>ab (some (.int .i64 0,h)) fun y10 h=>dj (iter (codeA prog C (au f10 [1,1,1,0,1,1,1,0,1,0,0])) aB (aL 206 (up (bs [x0,x1]) [(3,y3),(4,y4),(5,y5),(6,y6),(7,y7),(10,y10),(16,y16),(17,y17),(18,y18),(19,y19),(20,y20),(21,y21),(22,y22),(23,y23),(24,y24),(25,y25),(26,y26),(27,y27),(28,y28),(29,y29),(30,y30),(31,y31),(32,y32),(33,y33),(35,y35),(36,y36),(37,y37),(38,y38),(92,y92),(93,y93),(94,y94),(95,y95)])) h) (cE f10) (Ct C)
 |_=>none)
 |_=>none)
 |_=>none)
noncomputable def vt:aS:=
 ab (some (.int .i64 0,h)) fun y15 h=>dj (iter (codeA prog C (au f10 [1,1,1,1,0,1,0,0])) aB (aL 206 (up x [(15,y15)])) h) (cE f10) (lQ C)
noncomputable def sw (_:aj) (x:fK) (h:ad):aS:=
 ab (some (x 0,h)) fun y204 h=>ab (some (x 7,h)) fun y205 h=>ab (some (y204,h)) fun y4 h=>ab (some (y205,h)) fun y5 h=>ab (some (.int .i64 0,h)) fun y6 h=>some (.tuple #[y4,y5,y6],h)
noncomputable def gN (_:aj) (x:fK) (h:ad):fB:=
 ab (some (x 15,h)) fun y186 h=>ab (some (x 7,h)) fun y187 h=>ab (pu (lenL y187) h) fun y188 h=>ab (pu (aC prog .lss 3 y186 y188) h) fun y189 h=>(match y189 with
 | .bool true=>let g28_0:=h
 ab (some (x 7,g28_0)) fun y192 g28_1=>ab (some (x 15,g28_1)) fun y193 g28_2=>ab (some (x 7,g28_2)) fun y194 g28_3=>ab (some (x 15,g28_3)) fun y195 g28_4=>ab (pu (aH (x 3) 2) g28_4) fun y196 g28_5=>ab (ld1 y196 g28_5) fun y197 g28_6=>ab (pu (aH (x 3) 1) g28_6) fun y198 g28_7=>ab (ld1 y198 g28_7) fun y199 g28_8=>ab (pu (idxS 116 y192 y193) g28_8) fun y200 g28_9=>ab (pu (aH y200 1) g28_9) fun y201 g28_10=>ab (eo 1 y201 y197 g28_10) fun _ g28_11=>ab (pu (idxS 116 y194 y195) g28_11) fun y202 g28_12=>ab (pu (aH y202 2) g28_12) fun y203 g28_13=>ab (eo 1 y203 y199 g28_13) fun _ g28_14=>(match (bF true (ld1 y198 g28_11) y199&&true) with
 |true=>let h:=g28_14
 ab (some (x 15,h)) fun y190 h=>ab (pu (aC prog .add 3 y190 (.int .i64 1)) h) fun y191 h=>ab (some (y191,h)) fun y15 h=>some (.normal,(aL 206 (up x [(15,y15),(186,y186),(187,y187),(188,y188),(189,y189),(190,y190),(191,y191),(192,y192),(193,y193),(194,y194),(195,y195),(196,y196),(197,y197),(198,y198),(199,y199),(200,y200),(201,y201),(202,y202),(203,y203)])),h)
 |false=>none)
 | .bool false=>some (.exit 7,(aL 206 (up x [(186,y186),(187,y187),(188,y188),(189,y189)])),h)
 |_=>none)
noncomputable def rN:aS:=
 ab (some (x 0,h)) fun y127 h=>ab (pu (aH (x 3) 42) h) fun y128 h=>ab (ld1 y128 h) fun y129 h=>ab (C 7 [y127,y129] h) fun y130 h=>ab (some (y130,h)) fun y126 h=>ab (pu (extractA y126 0) h) fun y131 h=>ab (pu (extractA y126 1) h) fun y132 h=>ab (some (y131,h)) fun y0 h=>ab (cg 39 (.agg gI) 0 [] h) fun y133 h=>ab (some (y133,h)) fun y11 h=>ab (some (y0,h)) fun y134 h=>ab (pu (aH (x 3) 7) h) fun y135 h=>ab (ld1 y135 h) fun y136 h=>ab (pu (aH (x 3) 8) h) fun y137 h=>ab (ld1 y137 h) fun y138 h=>ab (C 32 [y134,y136,y138] h) fun y139 h=>ab (some (y139,h)) fun y12 h=>ab (some (.int .i64 0,h)) fun y13 h=>
 dj (iter (codeA prog C (au f10 [1,1,1,0,1,1,1,1,1,1,1,0,1,0,0])) aB (aL 206 (up x [(0,y0),(11,y11),(12,y12),(13,y13),(126,y126),(127,y127),(128,y128),(129,y129),(130,y130),(131,y131),(132,y132),(133,y133),(134,y134),(135,y135),(136,y136),(137,y137),(138,y138),(139,y139)])) h) (cE f10) (Ce C)
noncomputable def gQ:fB:=
 ab (some (x 10,h)) fun y97 h=>ab (pu (aH (x 3) 42) h) fun y98 h=>ab (ld1 y98 h) fun y99 h=>ab (pu (lenL y99) h) fun y100 h=>ab (pu (aC prog .lss 3 y97 y100) h) fun y101 h=>(match y101 with
 | .bool true=>let g40_0:=h
 ab (pu (aH (x 3) 42) g40_0) fun y104 g40_1=>ab (ld1 y104 g40_1) fun y105 g40_2=>ab (some (x 10,g40_2)) fun y106 g40_3=>ab (pu (idxS 39 y105 y106) g40_3) fun y107 g40_4=>ab (cx 39 y107 g40_4) fun y108 g40_5=>ab (C 36 [y108] g40_5) fun y109 g40_6=>ab (pu (unA .not y109) g40_6) fun y110 g40_7=>ab (some (y110,g40_7)) fun y111 g40_8=>ab (ai (aR y111==some false) (pu (aH (x 3) 42) g40_8) g40_8) fun y112 g40_9=>ab (ai (aR y111==some false) (ld1 y112 g40_9) g40_9) fun y113 g40_10=>ab (ai (aR y111==some false) (some (x 10,g40_10)) g40_10) fun y114 g40_11=>ab (ai (aR y111==some false) (pu (idxS 39 y113 y114) g40_11) g40_11) fun y115 g40_12=>
 ab (ai (aR y111==some false) (cx 39 y115 g40_12) g40_12) fun y116 g40_13=>ab (ai (aR y111==some false) (C 34 [y116] g40_13) g40_13) fun y117 g40_14=>ab (ai (aR y111==some false) (pu (aH (x 3) 7) g40_14) g40_14) fun y118 g40_15=>ab (ai (aR y111==some false) (ld1 y118 g40_15) g40_15) fun y119 g40_16=>ab (ai (aR y111==some false) (pu (aH (x 3) 8) g40_16) g40_16) fun y120 g40_17=>ab (ai (aR y111==some false) (ld1 y120 g40_17) g40_17) fun y121 g40_18=>ab (ai (aR y111==some false) (C 37 [y117,y119,y121] g40_18) g40_18) fun y122 g40_19=>ab (ai (aR y111==some false) (pu (unA .not y122) g40_19) g40_19) fun y123 g40_20=>
 ab (match y111 with | .bool t=>some (if t then (.bool true) else y123,g40_20)|_=>none) fun y124 g40_21=>(match (bF (aR y111==some false) (ld1 y118 g40_13) y119&&(bF (aR y111==some false) (ld1 y120 g40_13) y121&&true)) with
 |true=>let h:=g40_21
 (match y124 with
 | .bool true=>ab (some (x 0,h)) fun y125 h=>ab (some (y125,h)) fun y4 h=>ab (some (.slice none 0 0,h)) fun y5 h=>ab (some (.int .i64 2,h)) fun y6 h=>some (.ret,(aL 206 (up x [(4,y4),(5,y5),(6,y6),(97,y97),(98,y98),(99,y99),(100,y100),(101,y101),(104,y104),(105,y105),(106,y106),(107,y107),(108,y108),(109,y109),(110,y110),(111,y111),(112,y112),(113,y113),(114,y114),(115,y115),(116,y116),(117,y117),(118,y118),(119,y119),(120,y120),(121,y121),(122,y122),(123,y123),(124,y124),(125,y125)])),h)
 | .bool false=>ab (some (x 10,h)) fun y102 h=>ab (pu (aC prog .add 3 y102 (.int .i64 1)) h) fun y103 h=>ab (some (y103,h)) fun y10 h=>some (.normal,(aL 206 (up x [(10,y10),(97,y97),(98,y98),(99,y99),(100,y100),(101,y101),(102,y102),(103,y103),(104,y104),(105,y105),(106,y106),(107,y107),(108,y108),(109,y109),(110,y110),(111,y111),(112,y112),(113,y113),(114,y114),(115,y115),(116,y116),(117,y117),(118,y118),(119,y119),(120,y120),(121,y121),(122,y122),(123,y123),(124,y124)])),h)
 |_=>none)
 |false=>none)
 | .bool false=>some (.exit 1,(aL 206 (up x [(97,y97),(98,y98),(99,y99),(100,y100),(101,y101)])),h)
 |_=>none)
noncomputable def rI:aS:=
 dj (iter (codeA prog C (au f10 [1,1,1,0,1,1,1,1,1,1,1,1,0,0])) aB (aL 206 (up x [])) h) (cE f10) (Cd C)
noncomputable def fl:fB:=
 ab (some (x 13,h)) fun y140 h=>ab (some (x 12,h)) fun y141 h=>ab (pu (lenL y141) h) fun y142 h=>ab (pu (aC prog .lss 3 y140 y142) h) fun y143 h=>ab (some (y143,h)) fun y144 h=>ab (ai (aR y144==some true) (pu (aH (x 3) 43) h) h) fun y145 h=>ab (ai (aR y144==some true) (ld1 y145 h) h) fun y146 h=>ab (match y144 with | .bool t=>some (if t then y146 else (.bool false),h)|_=>none) fun y147 h=>(match y147 with
 | .bool true=>ab (some (x 12,h)) fun y150 h=>ab (some (x 13,h)) fun y151 h=>ab (pu (idxS 39 y150 y151) h) fun y152 h=>ab (cx 39 y152 h) fun y153 h=>ab (pu (aH (x 3) 42) h) fun y154 h=>ab (ld1 y154 h) fun y155 h=>ab (C 38 [y153,y155] h) fun y156 h=>ab (pu (unA .not y156) h) fun y157 h=>(match y157 with
 | .bool true=>ab (some (x 11,h)) fun y158 h=>ab (some (x 12,h)) fun y159 h=>ab (some (x 13,h)) fun y160 h=>ab (pu (idxS 39 y159 y160) h) fun y161 h=>ab (cx 39 y161 h) fun y162 h=>ab (cg 39 (.agg gI) 1 [(0,y162)] h) fun y163 h=>ab (appendA 39 88 y158 y163 h) fun y164 h=>ab (some (y164,h)) fun y11 h=>ab (some (x 13,h)) fun y148 h=>ab (pu (aC prog .add 3 y148 (.int .i64 1)) h) fun y149 h=>ab (some (y149,h)) fun y13 h=>
 some (.normal,(aL 206 (up x [(11,y11),(13,y13),(140,y140),(141,y141),(142,y142),(143,y143),(144,y144),(145,y145),(146,y146),(147,y147),(148,y148),(149,y149),(150,y150),(151,y151),(152,y152),(153,y153),(154,y154),(155,y155),(156,y156),(157,y157),(158,y158),(159,y159),(160,y160),(161,y161),(162,y162),(163,y163),(164,y164)])),h)
 | .bool false=>ab (some (x 13,h)) fun y148 h=>ab (pu (aC prog .add 3 y148 (.int .i64 1)) h) fun y149 h=>ab (some (y149,h)) fun y13 h=>some (.normal,(aL 206 (up x [(13,y13),(140,y140),(141,y141),(142,y142),(143,y143),(144,y144),(145,y145),(146,y146),(147,y147),(148,y148),(149,y149),(150,y150),(151,y151),(152,y152),(153,y153),(154,y154),(155,y155),(156,y156),(157,y157)])),h)
 |_=>none)
 | .bool false=>some (.exit 3,(aL 206 (up x [(140,y140),(141,y141),(142,y142),(143,y143),(144,y144),(145,y145),(146,y146),(147,y147)])),h)
 |_=>none)
noncomputable def fF (_:aj) (x:fK) (h:ad):fB:=
 ab (some (x 11,h)) fun y165 h=>ab (pu (lenL y165) h) fun y166 h=>ab (pu (aC prog .gtr 3 y166 (.int .i64 0)) h) fun y167 h=>(match y167 with
 | .bool true=>ab (some (x 11,h)) fun y168 h=>ab (pu (lenL y168) h) fun y169 h=>ab (some (y169,h)) fun y14 h=>ab (some (y14,h)) fun y170 h=>ab (pu (aC prog .gtr 3 y170 (.int .i64 64)) h) fun y171 h=>(match y171 with
 | .bool true=>ab (some (.int .i64 64,h)) fun y14_1 h=>ab (some (x 7,h)) fun y172 h=>ab (pu (aH (x 3) 7) h) fun y173 h=>ab (ld1 y173 h) fun y174 h=>ab (pu (aH (x 3) 8) h) fun y175 h=>ab (ld1 y175 h) fun y176 h=>ab (some (x 11,h)) fun y177 h=>ab (some (y14_1,h)) fun y178 h=>ab (pu (iw 39 y177 none (some y178) none) h) fun y179 h=>ab (pu (ei lF [(0,1,.int .u8 5),(7,1,y174),(8,1,y176),(42,1,y179)]) h) fun y180 h=>ab (cg 116 (.agg wF) 1 [(0,y180)] h) fun y181 h=>ab (appendA 116 352 y172 y181 h) fun y182 h=>ab (some (y182,h)) fun y7 h=>ab (some (x 11,h)) fun y183 h=>ab (some (y14_1,h)) fun y184 h=>ab (pu (iw 39 y183 (some y184) none none) h) fun y185 h=>ab (some (y185,h)) fun y11 h=>
 some (.normal,(aL 206 (up x [(7,y7),(11,y11),(14,y14_1),(165,y165),(166,y166),(167,y167),(168,y168),(169,y169),(170,y170),(171,y171),(172,y172),(173,y173),(174,y174),(175,y175),(176,y176),(177,y177),(178,y178),(179,y179),(180,y180),(181,y181),(182,y182),(183,y183),(184,y184),(185,y185)])),h)
 | .bool false=>ab (some (x 7,h)) fun y172 h=>ab (pu (aH (x 3) 7) h) fun y173 h=>ab (ld1 y173 h) fun y174 h=>ab (pu (aH (x 3) 8) h) fun y175 h=>ab (ld1 y175 h) fun y176 h=>ab (some (x 11,h)) fun y177 h=>ab (some (y14,h)) fun y178 h=>ab (pu (iw 39 y177 none (some y178) none) h) fun y179 h=>ab (pu (ei lF [(0,1,.int .u8 5),(7,1,y174),(8,1,y176),(42,1,y179)]) h) fun y180 h=>ab (cg 116 (.agg wF) 1 [(0,y180)] h) fun y181 h=>ab (appendA 116 352 y172 y181 h) fun y182 h=>ab (some (y182,h)) fun y7 h=>ab (some (x 11,h)) fun y183 h=>ab (some (y14,h)) fun y184 h=>ab (pu (iw 39 y183 (some y184) none none) h) fun y185 h=>ab (some (y185,h)) fun y11 h=>
 some (.normal,(aL 206 (up x [(7,y7),(11,y11),(14,y14),(165,y165),(166,y166),(167,y167),(168,y168),(169,y169),(170,y170),(171,y171),(172,y172),(173,y173),(174,y174),(175,y175),(176,y176),(177,y177),(178,y178),(179,y179),(180,y180),(181,y181),(182,y182),(183,y183),(184,y184),(185,y185)])),h)
 |_=>none)
 | .bool false=>some (.exit 5,(aL 206 (up x [(165,y165),(166,y166),(167,y167)])),h)
 |_=>none)
theorem xB (C:aj) (x0 x1:Value) (h:ad):ba prog C f10 [x0,x1] h=tz10 C x0 x1 h:=
 eH (by kernel_rfl) (by kernel_rfl)
theorem Ck:rO C (aL 206 x) h=vt C x h:=
 qM (T:=vt C) (fun x h=>by kernel_rfl) x h
theorem Ag:CS C (aL 206 x) h=sw C x h:=
 qM (T:=sw C) (fun x h=>by kernel_rfl) x h
theorem kO:codeA prog C (au f10 [1,1,1,1,0,1,0,0]) (aL 206 x) h=gN C x h:=
 aE (T:=gN C) (fun x h=>by kernel_rfl) x h
theorem Aw:B5 C (aL 206 x) h=rN C x h:=
 fN (b:=(au f10 [1,1,1,0,1,1,1,1])) (kE:=(rO C)) (rE:=(cE f10)) (xE:=eT) (T:=rN C) (fun x h=>by kernel_rfl) x h
theorem oF:codeA prog C (au f10 [1,1,1,0,1,1,1,0,1,0,0]) (aL 206 x) h=gQ C x h:=
 aE (T:=gQ C) (fun x h=>by kernel_rfl) x h
theorem AB:C1 C (aL 206 x) h=rI C x h:=
 fN (b:=(au f10 [1,1,1,0,1,1,1,1,1,1,1,1])) (kE:=(rO C)) (rE:=(cE f10)) (xE:=eT) (T:=rI C) (fun x h=>by kernel_rfl) x h
theorem kX:codeA prog C (au f10 [1,1,1,0,1,1,1,1,1,1,1,0,1,0,0]) (aL 206 x) h=fl C x h:=
 aE (T:=fl C) (fun x h=>by kernel_rfl) x h
theorem mH:codeA prog C (au f10 [1,1,1,0,1,1,1,1,1,1,1,1,0,0]) (aL 206 x) h=fF C x h:=
 aE (T:=fF C) (fun x h=>by kernel_rfl) x h
end
section
variable (C:aj) (i:Nat) (x:fK) (e:aW) (h:ad)
noncomputable def kz38_1:aS:=codeK prog C (au f38 [1,1]) e h (cE f38) (cE f38) eT
noncomputable def bz38_3:aS:=if i=0 then (kz38_1 C) e h else eT i e h
noncomputable def tz38 (C:aj) (x0 x1:Value) (h:ad):aS:=
 ab (box x0 h) fun y2 h=>ab (some (.bool false,h)) fun y4 h=>ab (some (.int .i64 0,h)) fun y5 h=>dj (iter (codeA prog C (au f38 [1,0,1,0,0])) aB (aL 18 (up (bs [x0,x1]) [(2,y2),(4,y4),(5,y5)])) h) (cE f38) (bz38_3 C)
noncomputable def vk (_:aj) (_:fK) (h:ad):aS:=
 ab (some (.bool false,h)) fun y4 h=>some (y4,h)
noncomputable def nU (_:aj) (x:fK) (h:ad):fB:=
 ab (some (x 5,h)) fun y6 h=>ab (some (x 1,h)) fun y7 h=>ab (pu (lenL y7) h) fun y8 h=>ab (pu (aC prog .lss 3 y6 y8) h) fun y9 h=>(match y9 with
 | .bool true=>ab (some (x 1,h)) fun y12 h=>ab (some (x 5,h)) fun y13 h=>ab (pu (idxS 39 y12 y13) h) fun y14 h=>ab (cx 39 y14 h) fun y15 h=>ab (cx 39 (x 2) h) fun y16 h=>ab (pu (aC prog .eql 66 y15 y16) h) fun y17 h=>(match y17 with
 | .bool true=>ab (some (.bool true,h)) fun y4 h=>some (.ret,(aL 18 (up x [(4,y4),(6,y6),(7,y7),(8,y8),(9,y9),(12,y12),(13,y13),(14,y14),(15,y15),(16,y16),(17,y17)])),h)
 | .bool false=>ab (some (x 5,h)) fun y10 h=>ab (pu (aC prog .add 3 y10 (.int .i64 1)) h) fun y11 h=>ab (some (y11,h)) fun y5 h=>some (.normal,(aL 18 (up x [(5,y5),(6,y6),(7,y7),(8,y8),(9,y9),(10,y10),(11,y11),(12,y12),(13,y13),(14,y14),(15,y15),(16,y16),(17,y17)])),h)
 |_=>none)
 | .bool false=>some (.exit 0,(aL 18 (up x [(6,y6),(7,y7),(8,y8),(9,y9)])),h)
 |_=>none)
theorem tz38_eq (C:aj) (x0 x1:Value) (h:ad):ba prog C f38 [x0,x1] h=tz38 C x0 x1 h:=
 eH (by kernel_rfl) (by kernel_rfl)
theorem B0:kz38_1 C (aL 18 x) h=vk C x h:=
 qM (T:=vk C) (fun x h=>by kernel_rfl) x h
theorem wS:codeA prog C (au f38 [1,0,1,0,0]) (aL 18 x) h=nU C x h:=
 aE (T:=nU C) (fun x h=>by kernel_rfl) x h
noncomputable def kz11_4:aS:=codeK prog C (au f11 [1,1,1]) e h (cE f11) (cE f11) eT
noncomputable def bz11_6:aS:=if i=0 then (kz11_4 C) e h else eT i e h
noncomputable def tz11 (C:aj) (x0 x1:Value) (h:ad):aS:=
 ab (some (.bool false,h)) fun y4 h=>ab (some (x0,h)) fun y6 h=>ab (pu (lenL y6) h) fun y7 h=>ab (some (x1,h)) fun y8 h=>ab (pu (lenL y8) h) fun y9 h=>ab (pu (aC prog .neq 3 y7 y9) h) fun y10 h=>(match y10 with
 | .bool true=>ab (some (.bool false,h)) fun y4_1 h=>some (y4_1,h)
 | .bool false=>ab (some (.int .i64 0,h)) fun y5 h=>dj (iter (codeA prog C (au f11 [1,1,0,1,0,0])) aB (aL 27 (up (bs [x0,x1]) [(4,y4),(5,y5),(6,y6),(7,y7),(8,y8),(9,y9),(10,y10)])) h) (cE f11) (bz11_6 C)
 |_=>none)
noncomputable def uX (_:aj) (_:fK) (h:ad):aS:=
 ab (some (.bool true,h)) fun y4 h=>some (y4,h)
noncomputable def mK:fB:=
 ab (some (x 5,h)) fun y11 h=>ab (some (x 0,h)) fun y12 h=>ab (pu (lenL y12) h) fun y13 h=>ab (pu (aC prog .lss 3 y11 y13) h) fun y14 h=>(match y14 with
 | .bool true=>ab (some (x 0,h)) fun y17 h=>ab (some (x 5,h)) fun y18 h=>ab (pu (idxS 116 y17 y18) h) fun y19 h=>ab (cx 116 y19 h) fun y20 h=>ab (some (x 1,h)) fun y21 h=>ab (some (x 5,h)) fun y22 h=>ab (pu (idxS 116 y21 y22) h) fun y23 h=>ab (cx 116 y23 h) fun y24 h=>ab (C 39 [y20,y24] h) fun y25 h=>ab (pu (unA .not y25) h) fun y26 h=>(match y26 with
 | .bool true=>ab (some (.bool false,h)) fun y4 h=>some (.ret,(aL 27 (up x [(4,y4),(11,y11),(12,y12),(13,y13),(14,y14),(17,y17),(18,y18),(19,y19),(20,y20),(21,y21),(22,y22),(23,y23),(24,y24),(25,y25),(26,y26)])),h)
 | .bool false=>ab (some (x 5,h)) fun y15 h=>ab (pu (aC prog .add 3 y15 (.int .i64 1)) h) fun y16 h=>ab (some (y16,h)) fun y5 h=>some (.normal,(aL 27 (up x [(5,y5),(11,y11),(12,y12),(13,y13),(14,y14),(15,y15),(16,y16),(17,y17),(18,y18),(19,y19),(20,y20),(21,y21),(22,y22),(23,y23),(24,y24),(25,y25),(26,y26)])),h)
 |_=>none)
 | .bool false=>some (.exit 0,(aL 27 (up x [(11,y11),(12,y12),(13,y13),(14,y14)])),h)
 |_=>none)
theorem tz11_eq (C:aj) (x0 x1:Value) (h:ad):ba prog C f11 [x0,x1] h=tz11 C x0 x1 h:=
 eH (by kernel_rfl) (by kernel_rfl)
theorem Ca:kz11_4 C (aL 27 x) h=uX C x h:=
 qM (T:=uX C) (fun x h=>by kernel_rfl) x h
theorem vB:codeA prog C (au f11 [1,1,0,1,0,0]) (aL 27 x) h=mK C x h:=
 aE (T:=mK C) (fun x h=>by kernel_rfl) x h
noncomputable def kz3_9:aS:=codeK prog C (au f3 [1,1,1,1,1,1]) e h (cE f3) (cE f3) eT
noncomputable def bz3_11:aS:=if i=0 then (kz3_9 C) e h else eT i e h
noncomputable def tz3 (C:aj) (x0 x1:Value) (h:ad):aS:=
 ab (some (.bool false,h)) fun y4 h=>ab (some (x0,h)) fun y17 h=>ab (pu (lenL y17) h) fun y18 h=>ab (pu (aC prog .gtr 3 y18 (.int .i64 60)) h) fun y19 h=>ab (some (y19,h)) fun y20 h=>ab (ai (aR y20==some false) (some (x1,h)) h) fun y21 h=>ab (ai (aR y20==some false) (pu (lenL y21) h) h) fun y22 h=>ab (ai (aR y20==some false) (pu (aC prog .gtr 3 y22 (.int .i64 12)) h) h) fun y23 h=>ab (match y20 with | .bool t=>some (if t then (.bool true) else y23,h)|_=>none) fun y24 h=>(match y24 with
 | .bool true=>ab (C 5 [] h) fun y25 h=>ab (some (y25,h)) fun y4_1 h=>some (y4_1,h)
 | .bool false=>ab (some (x0,h)) fun y27 h=>ab (C 6 [y27] h) fun y28 h=>ab (some (y28,h)) fun y26 h=>ab (pu (extractA y26 0) h) fun y29 h=>ab (pu (extractA y26 1) h) fun y30 h=>ab (some (y29,h)) fun y5 h=>ab (some (y30,h)) fun y6 h=>ab (some (x0,h)) fun y32 h=>ab (C 7 [.slice none 0 0,y32] h) fun y33 h=>ab (some (y33,h)) fun y31 h=>ab (pu (extractA y31 0) h) fun y34 h=>ab (pu (extractA y31 1) h) fun y35 h=>ab (some (y34,h)) fun y7 h=>ab (some (y35,h)) fun y8 h=>ab (some (y6,h)) fun y36 h=>ab (some (y8,h)) fun y37 h=>ab (pu (aC prog .neq 26 y36 y37) h) fun y38 h=>ab (some (y38,h)) fun y39 h=>ab (ai (aR y39==some false) (some (y6,h)) h) fun y40 h=>
 ab (ai (aR y39==some false) (pu (aC prog .neq 26 y40 (.int .i64 0)) h) h) fun y41 h=>ab (match y39 with | .bool t=>some (if t then (.bool true) else y41,h)|_=>none) fun y42 h=>(match y42 with
 | .bool true=>ab (some (y6,h)) fun y43 h=>ab (some (y8,h)) fun y44 h=>ab (pu (aC prog .eql 26 y43 y44) h) fun y45 h=>ab (some (y45,h)) fun y46 h=>ab (ai (aR y46==some true) (C 5 [] h) h) fun y47 h=>ab (match y46 with | .bool t=>some (if t then y47 else (.bool false),h)|_=>none) fun y48 h=>ab (some (y48,h)) fun y4_1 h=>some (y4_1,h)
 | .bool false=>ab (some (.int .i64 0,h)) fun y9 h=>dj (iter (codeA prog C (au f3 [1,1,1,1,1,0,1,0,0])) aB (aL 130 (up (bs [x0,x1]) [(4,y4),(5,y5),(6,y6),(7,y7),(8,y8),(9,y9),(17,y17),(18,y18),(19,y19),(20,y20),(21,y21),(22,y22),(23,y23),(24,y24),(26,y26),(27,y27),(28,y28),(29,y29),(30,y30),(31,y31),(32,y32),(33,y33),(34,y34),(35,y35),(36,y36),(37,y37),(38,y38),(39,y39),(40,y40),(41,y41),(42,y42)])) h) (cE f3) (bz3_11 C)
 |_=>none)
 |_=>none)
noncomputable def C0 (C:aj) (_:fK) (h:ad):aS:=
 ab (C 5 [] h) fun y129 h=>ab (some (y129,h)) fun y4 h=>some (y4,h)
noncomputable def kq:fB:=
 ab (some (x 9,h)) fun y49 h=>ab (some (x 1,h)) fun y50 h=>ab (pu (lenL y50) h) fun y51 h=>ab (pu (aC prog .lss 3 y49 y51) h) fun y52 h=>(match y52 with
 | .bool true=>ab (some (x 1,h)) fun y55 h=>ab (some (x 9,h)) fun y56 h=>ab (pu (idxS 116 y55 y56) h) fun y57 h=>ab (cx 116 y57 h) fun y58 h=>ab (dB lF h) fun y10 h=>ab (eo 116 y10 y58 h) fun _ h=>ab (pu (aH y10 42) h) fun y59 h=>ab (ld1 y59 h) fun y60 h=>ab (pu (lenL y60) h) fun y61 h=>ab (pu (aC prog .gtr 3 y61 (.int .i64 70)) h) fun y62 h=>ab (some (y62,h)) fun y63 h=>ab (ai (aR y63==some false) (pu (aH y10 7) h) h) fun y64 h=>ab (ai (aR y63==some false) (ld1 y64 h) h) fun y65 h=>ab (ai (aR y63==some false) (pu (lenL y65) h) h) fun y66 h=>ab (ai (aR y63==some false) (pu (aC prog .gtr 3 y66 (.int .i64 100)) h) h) fun y67 h=>
 ab (match y63 with | .bool t=>some (if t then (.bool true) else y67,h)|_=>none) fun y68 h=>ab (some (y68,h)) fun y69 h=>ab (ai (aR y69==some false) (pu (aH y10 8) h) h) fun y70 h=>ab (ai (aR y69==some false) (ld1 y70 h) h) fun y71 h=>ab (ai (aR y69==some false) (pu (lenL y71) h) h) fun y72 h=>ab (ai (aR y69==some false) (pu (aC prog .gtr 3 y72 (.int .i64 100)) h) h) fun y73 h=>ab (match y69 with | .bool t=>some (if t then (.bool true) else y73,h)|_=>none) fun y74 h=>(match y74 with
 | .bool true=>ab (C 5 [] h) fun y75 h=>ab (some (y75,h)) fun y4 h=>some (.ret,(aL 130 (up x [(4,y4),(10,y10),(49,y49),(50,y50),(51,y51),(52,y52),(55,y55),(56,y56),(57,y57),(58,y58),(59,y59),(60,y60),(61,y61),(62,y62),(63,y63),(64,y64),(65,y65),(66,y66),(67,y67),(68,y68),(69,y69),(70,y70),(71,y71),(72,y72),(73,y73),(74,y74),(75,y75)])),h)
 | .bool false=>ab (cx 116 y10 h) fun y76 h=>ab (dB lF h) fun y11 h=>ab (eo 116 y11 y76 h) fun _ h=>let g23_0:=h
 ab (pu (aH y10 42) g23_0) fun y77 g23_1=>ab (ld1 y77 g23_1) fun y78 g23_2=>ab (pu (aH y10 7) g23_2) fun y81 g23_3=>ab (ld1 y81 g23_3) fun y82 g23_4=>ab (pu (aH y10 8) g23_4) fun y85 g23_5=>ab (ld1 y85 g23_5) fun y86 g23_6=>ab (C 8 [y78] g23_6) fun y79 g23_7=>ab (cg 1 (.int .u8 0) 0 [] g23_7) fun y80 g23_8=>ab (appendA 1 1 y80 y82 g23_8) fun y83 g23_9=>ab (cg 1 (.int .u8 0) 0 [] g23_9) fun y84 g23_10=>ab (appendA 1 1 y84 y86 g23_10) fun y87 g23_11=>ab (pu (aH y11 42) g23_11) fun y88 g23_12=>ab (eo 1 y88 y79 g23_12) fun _ g23_13=>ab (pu (aH y11 7) g23_13) fun y89 g23_14=>ab (eo 1 y89 y83 g23_14) fun _ g23_15=>ab (pu (aH y11 8) g23_15) fun y90 g23_16=>ab (eo 1 y90 y87 g23_16) fun _ g23_17=>
 (match (bF true (ld1 y81 g23_7) y82&&(bF true (ld1 y85 g23_7) y86&&(bF true (ld1 y85 g23_9) y86&&true))) with
 |true=>let h:=g23_17
 ab (some (x 5,h)) fun y92 h=>ab (cx 116 y11 h) fun y93 h=>ab (C 9 [y92,y93] h) fun y94 h=>ab (some (y94,h)) fun y91 h=>ab (pu (extractA y91 0) h) fun y95 h=>ab (pu (extractA y91 1) h) fun y96 h=>ab (some (y95,h)) fun y12 h=>ab (some (y96,h)) fun y13 h=>ab (some (x 7,h)) fun y98 h=>ab (cx 116 y10 h) fun y99 h=>ab (C 10 [y98,y99] h) fun y100 h=>ab (some (y100,h)) fun y97 h=>ab (pu (extractA y97 0) h) fun y101 h=>ab (pu (extractA y97 1) h) fun y102 h=>ab (pu (extractA y97 2) h) fun y103 h=>ab (some (y101,h)) fun y14 h=>ab (some (y102,h)) fun y15 h=>ab (some (y103,h)) fun y16 h=>ab (some (y14,h)) fun y104 h=>ab (some (y104,h)) fun y7 h=>ab (some (y13,h)) fun y105 h=>
 ab (some (y16,h)) fun y106 h=>ab (pu (aC prog .neq 26 y105 y106) h) fun y107 h=>ab (some (y107,h)) fun y108 h=>ab (ai (aR y108==some false) (some (y12,h)) h) fun y109 h=>ab (ai (aR y108==some false) (some (y15,h)) h) fun y110 h=>ab (ai (aR y108==some false) (C 11 [y109,y110] h) h) fun y111 h=>ab (ai (aR y108==some false) (pu (unA .not y111) h) h) fun y112 h=>ab (match y108 with | .bool t=>some (if t then (.bool true) else y112,h)|_=>none) fun y113 h=>ab (some (y113,h)) fun y114 h=>ab (ai (aR y114==some false) (some (x 5,h)) h) fun y115 h=>ab (ai (aR y114==some false) (C 13 [y115] h) h) fun y116 h=>ab (ai (aR y114==some false) (some (y7,h)) h) fun y117 h=>
 ab (ai (aR y114==some false) (C 12 [y116,y117] h) h) fun y118 h=>ab (ai (aR y114==some false) (pu (unA .not y118) h) h) fun y119 h=>ab (match y114 with | .bool t=>some (if t then (.bool true) else y119,h)|_=>none) fun y120 h=>ab (some (y120,h)) fun y121 h=>ab (ai (aR y121==some false) (pu (aH y11 42) h) h) fun y122 h=>ab (ai (aR y121==some false) (ld1 y122 h) h) fun y123 h=>ab (ai (aR y121==some false) (pu (aH y10 42) h) h) fun y124 h=>ab (ai (aR y121==some false) (ld1 y124 h) h) fun y125 h=>ab (ai (aR y121==some false) (C 12 [y123,y125] h) h) fun y126 h=>ab (ai (aR y121==some false) (pu (unA .not y126) h) h) fun y127 h=>
 ab (match y121 with | .bool t=>some (if t then (.bool true) else y127,h)|_=>none) fun y128 h=>(match y128 with
 | .bool true=>ab (some (.bool false,h)) fun y4 h=>
 some (.ret,(aL 130 (up x [(4,y4),(7,y7),(10,y10),(11,y11),(12,y12),(13,y13),(14,y14),(15,y15),(16,y16),(49,y49),(50,y50),(51,y51),(52,y52),(55,y55),(56,y56),(57,y57),(58,y58),(59,y59),(60,y60),(61,y61),(62,y62),(63,y63),(64,y64),(65,y65),(66,y66),(67,y67),(68,y68),(69,y69),(70,y70),(71,y71),(72,y72),(73,y73),(74,y74),(76,y76),(77,y77),(78,y78),(79,y79),(80,y80),(81,y81),(82,y82),(83,y83),(84,y84),(85,y85),(86,y86),(87,y87),(88,y88),(89,y89),(90,y90),(91,y91),(92,y92),(93,y93),(94,y94),(95,y95),(96,y96),(97,y97),(98,y98),(99,y99),(100,y100),(101,y101),(102,y102),(103,y103),(104,y104),(105,y105),(106,y106),(107,y107),(108,y108),(109,y109),(110,y110),(111,y111),(112,y112),(113,y113),(114,y114),(115,y115),(116,y116),(117,y117),(118,y118),(119,y119),(120,y120),(121,y121),(122,y122),(123,y123),(124,y124),(125,y125),(126,y126),(127,y127),(128,y128)])),h)
 | .bool false=>ab (some (x 9,h)) fun y53 h=>ab (pu (aC prog .add 3 y53 (.int .i64 1)) h) fun y54 h=>ab (some (y54,h)) fun y9 h=>
 some (.normal,(aL 130 (up x [(7,y7),(9,y9),(10,y10),(11,y11),(12,y12),(13,y13),(14,y14),(15,y15),(16,y16),(49,y49),(50,y50),(51,y51),(52,y52),(53,y53),(54,y54),(55,y55),(56,y56),(57,y57),(58,y58),(59,y59),(60,y60),(61,y61),(62,y62),(63,y63),(64,y64),(65,y65),(66,y66),(67,y67),(68,y68),(69,y69),(70,y70),(71,y71),(72,y72),(73,y73),(74,y74),(76,y76),(77,y77),(78,y78),(79,y79),(80,y80),(81,y81),(82,y82),(83,y83),(84,y84),(85,y85),(86,y86),(87,y87),(88,y88),(89,y89),(90,y90),(91,y91),(92,y92),(93,y93),(94,y94),(95,y95),(96,y96),(97,y97),(98,y98),(99,y99),(100,y100),(101,y101),(102,y102),(103,y103),(104,y104),(105,y105),(106,y106),(107,y107),(108,y108),(109,y109),(110,y110),(111,y111),(112,y112),(113,y113),(114,y114),(115,y115),(116,y116),(117,y117),(118,y118),(119,y119),(120,y120),(121,y121),(122,y122),(123,y123),(124,y124),(125,y125),(126,y126),(127,y127),(128,y128)])),h)
 |_=>none)
 |false=>none)
 |_=>none)
 | .bool false=>some (.exit 0,(aL 130 (up x [(49,y49),(50,y50),(51,y51),(52,y52)])),h)
 |_=>none)
theorem tz3_eq (C:aj) (x0 x1:Value) (h:ad):ba prog C f3 [x0,x1] h=tz3 C x0 x1 h:=
 eH (by kernel_rfl) (by kernel_rfl)
theorem tz3k3_9_eq:kz3_9 C (aL 130 x) h=C0 C x h:=
 qM (T:=C0 C) (fun x h=>by kernel_rfl) x h
theorem ti:codeA prog C (au f3 [1,1,1,1,1,0,1,0,0]) (aL 130 x) h=kq C x h:=
 aE (T:=kq C) (fun x h=>by kernel_rfl) x h
end
section
variable (C:aj) (i:Nat) (x:fK) (e:aW) (h:ad)
noncomputable def k54_5:aS:=codeK prog C (au f42 [1,1,1,1]) e h (cE f42) (cE f42) eT
noncomputable def b54_7:aS:=if i=0 then (k54_5 C) e h else eT i e h
noncomputable def k54_9:aS:=codeK prog C (au f42 [1,1,1,1,1,1]) e h (cE f42) (cE f42) eT
noncomputable def b54_11:aS:=if i=4 then (k54_9 C) e h else eT i e h
noncomputable def xX:fB:=codeK prog C (au f42 [1,1,1,0,1,0,0,1,1,1]) e h (fun e h=>some (Ex.normal,e,h)) (fun e h=>some (Ex.ret,e,h)) (fun i e h=>some (Ex.exit i,e,h))
noncomputable def b54_15:fB:=if i=1 then (xX C) e h else (fun i e h=>some (Ex.exit i,e,h)) i e h
noncomputable def k54_18:fB:=codeK prog C (au f42 [1,1,1,0,1,0,0,1,1,0,0,1,1,1]) e h (xX C) (fun e h=>some (Ex.ret,e,h)) (b54_15 C)
noncomputable def b54_20:fB:=if i=2 then (k54_18 C) e h else (b54_15 C) i e h
noncomputable def t54 (C:aj) (x0:Value) (h:ad):aS:=
 ab (dB (List.replicate 32 (.int .u8 0)) h) fun y2 h=>ab (some (x0,h)) fun y11 h=>ab (pu (lenL y11) h) fun y12 h=>ab (pu (aC prog .eql 3 y12 (.int .i64 0)) h) fun y13 h=>(match y13 with
 | .bool true=>ab (C 73 [.slice none 0 0] h) fun y14 h=>ab (eo 32 y2 y14 h) fun _ h=>resultsA prog f42.results.toList (aL 66 (up (bs [x0]) [(2,y2),(11,y11),(12,y12),(13,y13),(14,y14)])) h
 | .bool false=>ab (some (.slice none 0 0,h)) fun y3 h=>ab (some (x0,h)) fun y15 h=>ab (pu (lenL y15) h) fun y16 h=>ab (some (.int .i64 0,h)) fun y17 h=>dj (iter (codeA prog C (au f42 [1,1,1,0,1,0,0])) aB (aL 66 (up (bs [x0]) [(2,y2),(3,y3),(11,y11),(12,y12),(13,y13),(15,y15),(16,y16),(17,y17)])) h) (cE f42) (b54_7 C)
 |_=>none)
noncomputable def zH:aS:=
 ab (some (x 3,h)) fun y48 h=>ab (some (x 3,h)) fun y49 h=>ab (pu (lenL y49) h) fun y50 h=>ab (pu (aC prog .sub 3 y50 (.int .i64 1)) h) fun y51 h=>ab (pu (idxS 32 y48 y51) h) fun y52 h=>ab (cx 32 y52 h) fun y53 h=>ab (dB (List.replicate 32 (.int .u8 0)) h) fun y8 h=>ab (eo 32 y8 y53 h) fun _ h=>ab (some (x 3,h)) fun y54 h=>ab (some (x 3,h)) fun y55 h=>ab (pu (lenL y55) h) fun y56 h=>ab (pu (aC prog .sub 3 y56 (.int .i64 1)) h) fun y57 h=>ab (pu (iw 32 y54 none (some y57) none) h) fun y58 h=>ab (C 76 [y58] h) fun y59 h=>
 endN (codeA prog C (au f42 [1,1,1,1,1,0,1,0]) (aL 66 (up x [(8,y8),(48,y48),(49,y49),(50,y50),(51,y51),(52,y52),(53,y53),(54,y54),(55,y55),(56,y56),(57,y57),(58,y58),(59,y59)])) h) (k54_9 C) (cE f42) (b54_11 C)
noncomputable def lZ:fB:=
 ab (pu (aC prog .lss 3 (x 17) (x 16)) h) fun y18 h=>(match y18 with
 | .bool true=>ab (some (x 17,h)) fun y19 h=>ab (pu (idxS 39 (x 15) (x 17)) h) fun y20 h=>ab (cx 39 y20 h) fun y21 h=>ab (dB kr h) fun y5 h=>ab (some (y19,h)) fun y4 h=>ab (eo 39 y5 y21 h) fun _ h=>ab (cx 39 y5 h) fun y22 h=>ab (C 74 [y22] h) fun y23 h=>ab (dB (List.replicate 32 (.int .u8 0)) h) fun y6 h=>ab (eo 32 y6 y23 h) fun _ h=>ab (some (y4,h)) fun y24 h=>ab (some (y24,h)) fun y7 h=>dj (iter (codeA prog C (au f42 [1,1,1,0,1,0,0,1,1,0,0,1,1,0,1,0,0])) aB (aL 66 (up x [(4,y4),(5,y5),(6,y6),(7,y7),(18,y18),(19,y19),(20,y20),(21,y21),(22,y22),(23,y23),(24,y24)])) h) (fun e h=>some (Ex.ret,e,h)) (b54_20 C)
 | .bool false=>some (.exit 0,(aL 66 (up x [(18,y18)])),h)
 |_=>none)
noncomputable def yp (_:aj) (x:fK) (h:ad):aS:=
 ab (cx 32 (x 8) h) fun y65 h=>ab (eo 32 (x 2) y65 h) fun _ h=>resultsA prog f42.results.toList (aL 66 (up x [(65,y65)])) h
noncomputable def iV (_:aj) (x:fK) (h:ad):fB:=
 ab (dB (List.replicate 32 (.int .u8 0)) h) fun y10 h=>ab (eo 32 y10 (x 61) h) fun _ h=>some (.normal,(aL 66 (up x [(10,y10)])),h)
noncomputable def iZ:fB:=
 ab (cx 32 (x 10) h) fun y62 h=>ab (cx 32 (x 8) h) fun y63 h=>ab (C 75 [y62,y63] h) fun y64 h=>ab (eo 32 (x 8) y64 h) fun _ h=>some (.normal,(aL 66 (up x [(62,y62),(63,y63),(64,y64)])),h)
noncomputable def uD (_:aj) (x:fK) (h:ad):fB:=
 ab (pu (aC prog .add 3 (x 17) (.int .i64 1)) h) fun y47 h=>ab (some (y47,h)) fun y17 h=>some (.normal,(aL 66 (up x [(17,y17),(47,y47)])),h)
noncomputable def vw:fB:=
 ab (some (x 3,h)) fun y43 h=>ab (cx 32 (x 6) h) fun y44 h=>ab (cg 32 (.agg (List.replicate 32 (.int .u8 0)).toArray) 1 [(0,y44)] h) fun y45 h=>ab (appendA 32 32 y43 y45 h) fun y46 h=>ab (some (y46,h)) fun y3 h=>xX C (aL 66 (up x [(3,y3),(43,y43),(44,y44),(45,y45),(46,y46)])) h
noncomputable def eJ:fB:=
 ab (some (x 7,h)) fun y25 h=>ab (pu (aC prog .and 3 y25 (.int .i64 1)) h) fun y26 h=>ab (pu (aC prog .eql 3 y26 (.int .i64 1)) h) fun y27 h=>(match y27 with
 | .bool true=>ab (some (x 3,h)) fun y30 h=>ab (some (x 3,h)) fun y31 h=>ab (pu (lenL y31) h) fun y32 h=>ab (pu (aC prog .sub 3 y32 (.int .i64 1)) h) fun y33 h=>ab (pu (idxS 32 y30 y33) h) fun y34 h=>ab (cx 32 y34 h) fun y35 h=>ab (cx 32 (x 6) h) fun y36 h=>ab (C 75 [y35,y36] h) fun y37 h=>ab (eo 32 (x 6) y37 h) fun _ h=>ab (some (x 3,h)) fun y38 h=>ab (some (x 3,h)) fun y39 h=>ab (pu (lenL y39) h) fun y40 h=>ab (pu (aC prog .sub 3 y40 (.int .i64 1)) h) fun y41 h=>ab (pu (iw 32 y38 none (some y41) none) h) fun y42 h=>ab (some (y42,h)) fun y3 h=>ab (some (x 7,h)) fun y28 h=>ab (pu (aC prog .shr 3 y28 (.int .u64 1)) h) fun y29 h=>ab (some (y29,h)) fun y7 h=>
 some (.normal,(aL 66 (up x [(3,y3),(7,y7),(25,y25),(26,y26),(27,y27),(28,y28),(29,y29),(30,y30),(31,y31),(32,y32),(33,y33),(34,y34),(35,y35),(36,y36),(37,y37),(38,y38),(39,y39),(40,y40),(41,y41),(42,y42)])),h)
 | .bool false=>some (.exit 2,(aL 66 (up x [(25,y25),(26,y26),(27,y27)])),h)
 |_=>none)
theorem t54_eq (C:aj) (x0:Value) (h:ad):ba prog C f42 [x0] h=t54 C x0 h:=
 eH (by kernel_rfl) (by kernel_rfl)
theorem t54k54_5_eq:k54_5 C (aL 66 x) h=zH C x h:=
 qM (T:=zH C) (fun x h=>by kernel_rfl) x h
theorem uU:codeA prog C (au f42 [1,1,1,0,1,0,0]) (aL 66 x) h=lZ C x h:=
 aE (T:=lZ C) (fun x h=>by kernel_rfl) x h
theorem t54k54_9_eq:k54_9 C (aL 66 x) h=yp C x h:=
 qM (T:=yp C) (fun x h=>by kernel_rfl) x h
theorem qP:codeA prog C (rgA (au f42 [1,1,1,1,1,0,1,0])) (aL 66 x) h=iV C x h:=
 aE (T:=iV C) (fun x h=>by kernel_rfl) x h
theorem qR:codeA prog C (rgB (au f42 [1,1,1,1,1,0,1,0])) (aL 66 x) h=iZ C x h:=
 aE (T:=iZ C) (fun x h=>by kernel_rfl) x h
theorem CB:xX C (aL 66 x) h=uD C x h:=
 fN (b:=(au f42 [1,1,1,0,1,0,0,1,1,1])) (kE:=(fun e h=>some (Ex.normal,e,h))) (rE:=(fun e h=>some (Ex.ret,e,h))) (xE:=(fun i e h=>some (Ex.exit i,e,h))) (T:=uD C) (fun x h=>by kernel_rfl) x h
theorem CL:k54_18 C (aL 66 x) h=vw C x h:=
 fN (b:=(au f42 [1,1,1,0,1,0,0,1,1,0,0,1,1,1])) (kE:=(xX C)) (rE:=(fun e h=>some (Ex.ret,e,h))) (xE:=(b54_15 C)) (T:=vw C) (fun x h=>by kernel_rfl) x h
theorem kz:codeA prog C (au f42 [1,1,1,0,1,0,0,1,1,0,0,1,1,0,1,0,0]) (aL 66 x) h=eJ C x h:=
 aE (T:=eJ C) (fun x h=>by kernel_rfl) x h
noncomputable def t107 (_:aj) (x0:Value) (h:ad):aS:=
 ab (box x0 h) fun y1 h=>ab (some (.nilFunc,h)) fun _ h=>ab (some (.func (.func 98) #[] #[y1],h)) fun y3 h=>ab (some (y3,h)) fun y2_1 h=>some (y2_1,h)
theorem t107_eq (C:aj) (x0:Value) (h:ad):ba prog C f76 [x0] h=t107 C x0 h:=
 eH (by kernel_rfl) (by kernel_rfl)
noncomputable def b135_1 (_:aj) (i:Nat) (e:aW) (h:ad):aS:=if i=0 then (cE f98) e h else eT i e h
noncomputable def t135 (C:aj) (x0 x1:Value) (h:ad):aS:=
 ab (ld1 x1 h) fun y4 h=>ab (pu (lenL y4) h) fun y5 h=>ab (pu (aC prog .sub 3 y5 (.int .i64 1)) h) fun y6 h=>ab (some (y6,h)) fun y3 h=>dj (iter (codeA prog C (au f98 [1,0,0])) aB (aL 19 (up (bs [x0,x1]) [(3,y3),(4,y4),(5,y5),(6,y6)])) h) (cE f98) (b135_1 C)
noncomputable def oW:fB:=
 ab (some (x 3,h)) fun y7 h=>ab (pu (aC prog .geq 3 y7 (.int .i64 0)) h) fun y8 h=>(match y8 with
 | .bool true=>ab (some (x 0,h)) fun y11 h=>ab (some (x 3,h)) fun y12 h=>ab (ld1 (x 1) h) fun y13 h=>ab (some (x 3,h)) fun y14 h=>ab (pu (idxS 32 y13 y14) h) fun y15 h=>ab (cx 32 y15 h) fun y16 h=>ab (callA prog C y11 [y12,y16] h) fun y17 h=>ab (pu (unA .not y17) h) fun y18 h=>(match y18 with
 | .bool true=>some (.ret,(aL 19 (up x [(7,y7),(8,y8),(11,y11),(12,y12),(13,y13),(14,y14),(15,y15),(16,y16),(17,y17),(18,y18)])),h)
 | .bool false=>ab (some (x 3,h)) fun y9 h=>ab (pu (aC prog .sub 3 y9 (.int .i64 1)) h) fun y10 h=>ab (some (y10,h)) fun y3 h=>some (.normal,(aL 19 (up x [(3,y3),(7,y7),(8,y8),(9,y9),(10,y10),(11,y11),(12,y12),(13,y13),(14,y14),(15,y15),(16,y16),(17,y17),(18,y18)])),h)
 |_=>none)
 | .bool false=>some (.exit 0,(aL 19 (up x [(7,y7),(8,y8)])),h)
 |_=>none)
theorem t135_eq (C:aj) (x0 x1:Value) (h:ad):ba prog C f98 [x0,x1] h=t135 C x0 x1 h:=
 eH (by kernel_rfl) (by kernel_rfl)
theorem xY:codeA prog C (au f98 [1,0,0]) (aL 19 x) h=oW C x h:=
 aE (T:=oW C) (fun x h=>by kernel_rfl) x h
noncomputable def t106 (C:aj) (x0:Value) (h:ad):aS:=
 ab (dB (List.replicate 32 (.int .u8 0)) h) fun y2 h=>ab (C 95 [] h) fun y4 h=>ab (some (y4,h)) fun y3 h=>ab (some (y3,h)) fun y5 h=>ab (some (x0,h)) fun y6 h=>ab (C 96 [y5,y6] h) fun y7 h=>ab (some (y3,h)) fun y8 h=>ab (C 97 [y8] h) fun y9 h=>ab (eo 32 y2 y9 h) fun _ h=>resultsA prog f73.results.toList (aL 10 (up (bs [x0]) [(2,y2),(3,y3),(4,y4),(5,y5),(6,y6),(7,y7),(8,y8),(9,y9)])) h
theorem t106_eq (C:aj) (x0:Value) (h:ad):ba prog C f73 [x0] h=t106 C x0 h:=
 eH (by kernel_rfl) (by kernel_rfl)
end
noncomputable def t60 (C:aj) (x0 x1:Value) (h:ad):aS:=
 ab (some (.bool false,h)) fun _ h=>ab (some (x0,h)) fun y5 h=>ab (some (x1,h)) fun y6 h=>ab (C 62 [y5,y6] h) fun y7 h=>ab (pu (aC prog .geq 3 y7 (.int .i64 0)) h) fun y8 h=>ab (some (y8,h)) fun y4_1 h=>some (y4_1,h)
theorem t60_eq (C:aj) (x0 x1:Value) (h:ad):ba prog C f28 [x0,x1] h=t60 C x0 x1 h:=
 eH (by kernel_rfl) (by kernel_rfl)
noncomputable def t26 (_:aj) (x0:Value) (h:ad):aS:=
 ab (some (.slice none 0 0,h)) fun _ h=>ab (cg 39 (.agg gI) 0 [] h) fun y3 h=>ab (some (x0,h)) fun y4 h=>ab (appendA 39 88 y3 y4 h) fun y5 h=>ab (some (y5,h)) fun y2_1 h=>some (y2_1,h)
theorem t26_eq (C:aj) (x0:Value) (h:ad):ba prog C f8 [x0] h=t26 C x0 h:=
 eH (by kernel_rfl) (by kernel_rfl)
section
variable (C:aj) (i:Nat) (x:fK) (e:aW) (h:ad)
noncomputable def k113_1:aS:=codeK prog C (au f62 [1,1]) e h (cE f62) (cE f62) eT
noncomputable def b113_3:aS:=if i=0 then (k113_1 C) e h else eT i e h
noncomputable def t113 (C:aj) (x0 x1:Value) (h:ad):aS:=
 ab (some (.int .i64 0,h)) fun y4 h=>ab (some (x0,h)) fun y6 h=>ab (pu (lenL y6) h) fun y7 h=>ab (some (.int .i64 0,h)) fun y8 h=>dj (iter (codeA prog C (au f62 [1,0,1,0,0])) aB (aL 19 (up (bs [x0,x1]) [(4,y4),(6,y6),(7,y7),(8,y8)])) h) (cE f62) (b113_3 C)
noncomputable def oh (_:aj) (_:fK) (h:ad):aS:=
 ab (some ((.int .i64 (-1)),h)) fun y4 h=>some (y4,h)
noncomputable def ji:fB:=
 ab (pu (aC prog .lss 3 (x 8) (x 7)) h) fun y9 h=>(match y9 with
 | .bool true=>ab (some (x 8,h)) fun y10 h=>ab (some (y10,h)) fun y5 h=>ab (some (x 1,h)) fun y11 h=>ab (some (x 0,h)) fun y12 h=>ab (some (y5,h)) fun y13 h=>ab (pu (idxS 39 y12 y13) h) fun y14 h=>ab (cx 39 y14 h) fun y15 h=>ab (callA prog C y11 [y15] h) fun y16 h=>(match y16 with
 | .bool true=>ab (some (y5,h)) fun y17 h=>ab (some (y17,h)) fun y4 h=>some (.ret,(aL 19 (up x [(4,y4),(5,y5),(9,y9),(10,y10),(11,y11),(12,y12),(13,y13),(14,y14),(15,y15),(16,y16),(17,y17)])),h)
 | .bool false=>ab (pu (aC prog .add 3 (x 8) (.int .i64 1)) h) fun y18 h=>ab (some (y18,h)) fun y8 h=>some (.normal,(aL 19 (up x [(5,y5),(8,y8),(9,y9),(10,y10),(11,y11),(12,y12),(13,y13),(14,y14),(15,y15),(16,y16),(18,y18)])),h)
 |_=>none)
 | .bool false=>some (.exit 0,(aL 19 (up x [(9,y9)])),h)
 |_=>none)
theorem t113_eq (C:aj) (x0 x1:Value) (h:ad):ba prog C f62 [x0,x1] h=t113 C x0 x1 h:=
 eH (by kernel_rfl) (by kernel_rfl)
theorem qX:k113_1 C (aL 19 x) h=oh C x h:=
 qM (T:=oh C) (fun x h=>by kernel_rfl) x h
theorem mM:codeA prog C (au f62 [1,0,1,0,0]) (aL 19 x) h=ji C x h:=
 aE (T:=ji C) (fun x h=>by kernel_rfl) x h
end
section
variable (C:aj) (i:Nat) (x:fK) (e:aW) (h:ad)
noncomputable def b25_5 (_:aj) (i:Nat) (e:aW) (h:ad):fB:=if i=0 then (fun e h=>some (Ex.normal,e,h)) e h else (fun i e h=>some (Ex.exit i,e,h)) i e h
noncomputable def De:fB:=codeK prog C (au f21 [1,1,1,1,0,1,0,0,1,1,1]) e h (fun e h=>some (Ex.normal,e,h)) (fun e h=>some (Ex.ret,e,h)) (fun i e h=>some (Ex.exit i,e,h))
noncomputable def b25_20:fB:=if i=1 then (De C) e h else (fun i e h=>some (Ex.exit i,e,h)) i e h
noncomputable def b25_23:fB:=if i=2 then (De C) e h else (b25_20 C) i e h
noncomputable def t25p25_0 (_:aj) (x:fK) (h:ad):fB:=
 ab (some (.int .i64 0,h)) fun y4 h=>some (.normal,(aL 103 (up x [(4,y4)])),h)
noncomputable def vI (_:aj) (x:fK) (h:ad):fB:=
 ab (some (x 0,h)) fun y18 h=>ab (pu (aC prog .eql 25 y18 (.pointer none)) h) fun y19 h=>(match y19 with
 | .bool true=>ab (some (.int .i64 1,h)) fun y4 h=>some (.ret,(aL 103 (up x [(4,y4),(18,y18),(19,y19)])),h)
 | .bool false=>some (.normal,(aL 103 (up x [(18,y18),(19,y19)])),h)
 |_=>none)
noncomputable def ou:fB:=
 ab (some (x 1,h)) fun y20 h=>ab (C 28 [y20,(.func (.func 46) #[] #[])] h) fun y21 h=>(match y21 with
 | .bool true=>ab (some (.int .i64 2,h)) fun y4 h=>some (.ret,(aL 103 (up x [(4,y4),(20,y20),(21,y21)])),h)
 | .bool false=>some (.normal,(aL 103 (up x [(20,y20),(21,y21)])),h)
 |_=>none)
noncomputable def pt (_:aj) (x:fK) (h:ad):fB:=
 ab (gD none prog 91 h) fun y22 h=>ab (some (y22,h)) fun y5 h=>some (.normal,(aL 103 (up x [(5,y5),(22,y22)])),h)
noncomputable def iI:fB:=
 ab (some (x 0,h)) fun y23 h=>ab (pu (nilCheckA y23) h) fun y24 h=>ab (pu (aH y24 0) h) fun y25 h=>ab (ld1 y25 h) fun y26 h=>ab (some (x 1,h)) fun y27 h=>ab (cg 1 (.slice none 0 0) 2 [(0,y26),(1,y27)] h) fun y28 h=>ab (pu (lenL y28) h) fun y29 h=>ab (some (.int .i64 0,h)) fun y30 h=>dj (iter (codeA prog C (au f21 [1,1,1,1,0,1,0,0])) aB (aL 103 (up x [(23,y23),(24,y24),(25,y25),(26,y26),(27,y27),(28,y28),(29,y29),(30,y30)])) h) (fun e h=>some (Ex.ret,e,h)) (b25_5 C)
noncomputable def mw (_:aj) (x:fK) (h:ad):fB:=
 ab (cg 39 (.agg gI) 0 [] h) fun y61 h=>ab (some (y61,h)) fun y12 h=>some (.normal,(aL 103 (up x [(12,y12),(61,y61)])),h)
noncomputable def jE (_:aj) (x:fK) (h:ad):fB:=
 ab (some (x 5,h)) fun y62 h=>ab (rangeA prog 91 y62 h) fun y63 h=>some (.normal,(aL 103 (up x [(62,y62),(63,y63)])),h)
noncomputable def eY (_:aj) (x:fK) (h:ad):fB:=
 (match (x 65) with
 | .bool true=>ab (entryA (x 63) h) fun y66 h=>ab (pu (extractA y66 0) h) fun y67 h=>ab (pu (extractA y66 1) h) fun y68 h=>ab (dB BD h) fun y13 h=>ab (dB kr h) fun y14 h=>ab (eo 34 y13 y67 h) fun _ h=>ab (eo 39 y14 y68 h) fun _ h=>ab (pu (aH y13 0) h) fun y69 h=>ab (ld1 y69 h) fun y70 h=>ab (pu (aC prog .eql 64 y70 (.int .u8 3)) h) fun y71 h=>(match y71 with
 | .bool true=>ab (some (x 5,h)) fun y72 h=>ab (pu (aH y13 33) h) fun y73 h=>ab (ld1 y73 h) fun y74 h=>ab (pu (ei BD [(0,1,.int .u8 1),(33,1,y74)]) h) fun y75 h=>ab (lookupA prog 91 y72 y75 false h) fun y76 h=>ab (dB kr h) fun y15 h=>ab (eo 39 y15 y76 h) fun _ h=>ab (some (x 5,h)) fun y78 h=>ab (pu (aH y13 1) h) fun y79 h=>ab (cx 32 y79 h) fun y80 h=>ab (pu (ei BD [(0,1,.int .u8 2),(1,32,y80)]) h) fun y81 h=>ab (lookupA prog 91 y78 y81 true h) fun y82 h=>ab (some (y82,h)) fun y77 h=>ab (pu (extractA y77 0) h) fun y83 h=>ab (pu (extractA y77 1) h) fun y84 h=>ab (dB kr h) fun y16 h=>ab (eo 39 y16 y83 h) fun _ h=>ab (some (y84,h)) fun y17 h=>ab (some (y17,h)) fun y85 h=>
 ab (some (y85,h)) fun y86 h=>ab (ai (aR y86==some false) (pu (aH y14 34) h) h) fun y87 h=>ab (ai (aR y86==some false) (ld1 y87 h) h) fun y88 h=>ab (ai (aR y86==some false) (pu (aH y15 34) h) h) fun y89 h=>ab (ai (aR y86==some false) (ld1 y89 h) h) fun y90 h=>ab (ai (aR y86==some false) (pu (aC prog .lss 32 y88 y90) h) h) fun y91 h=>ab (match y86 with | .bool t=>some (if t then (.bool true) else y91,h)|_=>none) fun y92 h=>(match y92 with
 | .bool true=>some (.normal,(aL 103 (up x [(13,y13),(14,y14),(15,y15),(16,y16),(17,y17),(66,y66),(67,y67),(68,y68),(69,y69),(70,y70),(71,y71),(72,y72),(73,y73),(74,y74),(75,y75),(76,y76),(77,y77),(78,y78),(79,y79),(80,y80),(81,y81),(82,y82),(83,y83),(84,y84),(85,y85),(86,y86),(87,y87),(88,y88),(89,y89),(90,y90),(91,y91),(92,y92)])),h)
 | .bool false=>ab (some (x 12,h)) fun y93 h=>ab (cx 39 y14 h) fun y94 h=>ab (cg 39 (.agg gI) 1 [(0,y94)] h) fun y95 h=>ab (appendA 39 88 y93 y95 h) fun y96 h=>ab (some (y96,h)) fun y12 h=>some (.normal,(aL 103 (up x [(12,y12),(13,y13),(14,y14),(15,y15),(16,y16),(17,y17),(66,y66),(67,y67),(68,y68),(69,y69),(70,y70),(71,y71),(72,y72),(73,y73),(74,y74),(75,y75),(76,y76),(77,y77),(78,y78),(79,y79),(80,y80),(81,y81),(82,y82),(83,y83),(84,y84),(85,y85),(86,y86),(87,y87),(88,y88),(89,y89),(90,y90),(91,y91),(92,y92),(93,y93),(94,y94),(95,y95),(96,y96)])),h)
 |_=>none)
 | .bool false=>ab (some (x 12,h)) fun y93 h=>ab (cx 39 y14 h) fun y94 h=>ab (cg 39 (.agg gI) 1 [(0,y94)] h) fun y95 h=>ab (appendA 39 88 y93 y95 h) fun y96 h=>ab (some (y96,h)) fun y12 h=>some (.normal,(aL 103 (up x [(12,y12),(13,y13),(14,y14),(66,y66),(67,y67),(68,y68),(69,y69),(70,y70),(71,y71),(93,y93),(94,y94),(95,y95),(96,y96)])),h)
 |_=>none)
 | .bool false=>some (.exit 4,(aL 103 (up x [])),h)
 |_=>none)
noncomputable def kx:fB:=
 ab (some (x 12,h)) fun y97 h=>ab (C 49 [y97,(.func (.func 50) #[] #[])] h) fun y98 h=>ab (some (x 0,h)) fun y99 h=>ab (some (x 12,h)) fun y100 h=>ab (pu (nilCheckA y99) h) fun y101 h=>ab (pu (aH y101 0) h) fun y102 h=>ab (eo 1 y102 y100 h) fun _ h=>ab (some (.int .i64 0,h)) fun y4 h=>some (.ret,(aL 103 (up x [(4,y4),(97,y97),(98,y98),(99,y99),(100,y100),(101,y101),(102,y102)])),h)
noncomputable def kI:fB:=
 ab (pu (aC prog .lss 3 (x 30) (x 29)) h) fun y31 h=>(match y31 with
 | .bool true=>ab (pu (idxS 1 (x 28) (x 30)) h) fun y32 h=>ab (ld1 y32 h) fun y33 h=>ab (some (y33,h)) fun y7 h=>ab (some (y7,h)) fun y34 h=>ab (pu (lenL y34) h) fun y35 h=>ab (some (.int .i64 0,h)) fun y36 h=>dj (iter (codeA prog C (au f21 [1,1,1,1,0,1,0,0,1,1,0,0,1,1,0,0])) aB (aL 103 (up x [(7,y7),(31,y31),(32,y32),(33,y33),(34,y34),(35,y35),(36,y36)])) h) (fun e h=>some (Ex.ret,e,h)) (b25_23 C)
 | .bool false=>some (.exit 0,(aL 103 (up x [(31,y31)])),h)
 |_=>none)
noncomputable def qo (_:aj) (x:fK) (h:ad):fB:=
 ab (pu (aC prog .add 3 (x 30) (.int .i64 1)) h) fun y60 h=>ab (some (y60,h)) fun y30 h=>some (.normal,(aL 103 (up x [(30,y30),(60,y60)])),h)
noncomputable def fk:fB:=
 ab (pu (aC prog .lss 3 (x 36) (x 35)) h) fun y37 h=>(match y37 with
 | .bool true=>ab (pu (idxS 39 (x 34) (x 36)) h) fun y38 h=>ab (cx 39 y38 h) fun y39 h=>ab (dB kr h) fun y9 h=>ab (eo 39 y9 y39 h) fun _ h=>ab (some (x 5,h)) fun y41 h=>ab (cx 39 y9 h) fun y42 h=>ab (C 47 [y42] h) fun y43 h=>ab (lookupA prog 91 y41 y43 true h) fun y44 h=>ab (some (y44,h)) fun y40 h=>ab (pu (extractA y40 0) h) fun y45 h=>ab (pu (extractA y40 1) h) fun y46 h=>ab (dB kr h) fun y10 h=>ab (eo 39 y10 y45 h) fun _ h=>ab (some (y46,h)) fun y11 h=>ab (some (y11,h)) fun y47 h=>ab (pu (unA .not y47) h) fun y48 h=>ab (some (y48,h)) fun y49 h=>ab (ai (aR y49==some false) (cx 39 y9 h) h) fun y50 h=>ab (ai (aR y49==some false) (cx 39 y10 h) h) fun y51 h=>
 ab (ai (aR y49==some false) (C 48 [y50,y51] h) h) fun y52 h=>ab (ai (aR y49==some false) (pu (aC prog .gtr 3 y52 (.int .i64 0)) h) h) fun y53 h=>ab (match y49 with | .bool t=>some (if t then (.bool true) else y53,h)|_=>none) fun y54 h=>(match y54 with
 | .bool true=>let g31_0:=h
 ab (some (x 5,g31_0)) fun y55 g31_1=>ab (cx 39 y9 g31_1) fun y56 g31_2=>ab (C 47 [y56] g31_2) fun y57 g31_3=>ab (cx 39 y9 g31_3) fun y58 g31_4=>ab (mapUpdateA prog 91 y55 y57 y58 g31_4) fun _ g31_5=>(match (bF true (cx 39 y9 g31_2) y58&&true) with
 |true=>let h:=g31_5
 ab (pu (aC prog .add 3 (x 36) (.int .i64 1)) h) fun y59 h=>ab (some (y59,h)) fun y36 h=>some (.normal,(aL 103 (up x [(9,y9),(10,y10),(11,y11),(36,y36),(37,y37),(38,y38),(39,y39),(40,y40),(41,y41),(42,y42),(43,y43),(44,y44),(45,y45),(46,y46),(47,y47),(48,y48),(49,y49),(50,y50),(51,y51),(52,y52),(53,y53),(54,y54),(55,y55),(56,y56),(57,y57),(58,y58),(59,y59)])),h)
 |false=>none)
 | .bool false=>ab (pu (aC prog .add 3 (x 36) (.int .i64 1)) h) fun y59 h=>ab (some (y59,h)) fun y36 h=>some (.normal,(aL 103 (up x [(9,y9),(10,y10),(11,y11),(36,y36),(37,y37),(38,y38),(39,y39),(40,y40),(41,y41),(42,y42),(43,y43),(44,y44),(45,y45),(46,y46),(47,y47),(48,y48),(49,y49),(50,y50),(51,y51),(52,y52),(53,y53),(54,y54),(59,y59)])),h)
 |_=>none)
 | .bool false=>some (.exit 2,(aL 103 (up x [(37,y37)])),h)
 |_=>none)
theorem t25p25_0_eq:codeA prog C (au f21 [0]) (aL 103 x) h=t25p25_0 C x h:=
 aE (T:=t25p25_0 C) (fun x h=>by kernel_rfl) x h
theorem Dj:codeA prog C (au f21 [1,0]) (aL 103 x) h=vI C x h:=
 aE (T:=vI C) (fun x h=>by kernel_rfl) x h
theorem re:codeA prog C (au f21 [1,1,0]) (aL 103 x) h=ou C x h:=
 aE (T:=ou C) (fun x h=>by kernel_rfl) x h
theorem yx:codeA prog C (au f21 [1,1,1,0]) (aL 103 x) h=pt C x h:=
 aE (T:=pt C) (fun x h=>by kernel_rfl) x h
theorem wP:codeA prog C (au f21 [1,1,1,1,0]) (aL 103 x) h=iI C x h:=
 aE (T:=iI C) (fun x h=>by kernel_rfl) x h
theorem uG:codeA prog C (au f21 [1,1,1,1,1,0]) (aL 103 x) h=mw C x h:=
 aE (T:=mw C) (fun x h=>by kernel_rfl) x h
theorem rM:codeA prog C (au f21 [1,1,1,1,1,1,0,0]) (aL 103 x) h=jE C x h:=
 aE (T:=jE C) (fun x h=>by kernel_rfl) x h
theorem iQ:codeA prog C (au f21 [1,1,1,1,1,1,0,1,0,0,1]) (aL 103 x) h=eY C x h:=
 aE (T:=eY C) (fun x h=>by kernel_rfl) x h
theorem sW:codeA prog C (au f21 [1,1,1,1,1,1,1]) (aL 103 x) h=kx C x h:=
 aE (T:=kx C) (fun x h=>by kernel_rfl) x h
theorem um:codeA prog C (au f21 [1,1,1,1,0,1,0,0]) (aL 103 x) h=kI C x h:=
 aE (T:=kI C) (fun x h=>by kernel_rfl) x h
theorem uc:De C (aL 103 x) h=qo C x h:=
 fN (b:=(au f21 [1,1,1,1,0,1,0,0,1,1,1])) (kE:=(fun e h=>some (Ex.normal,e,h))) (rE:=(fun e h=>some (Ex.ret,e,h))) (xE:=(fun i e h=>some (Ex.exit i,e,h))) (T:=qo C) (fun x h=>by kernel_rfl) x h
theorem kY:codeA prog C (au f21 [1,1,1,1,0,1,0,0,1,1,0,0,1,1,0,0]) (aL 103 x) h=fk C x h:=
 aE (T:=fk C) (fun x h=>by kernel_rfl) x h
noncomputable def t61 (C:aj) (x0:Value) (h:ad):aS:=
 ab (box x0 h) fun y1 h=>ab (some (.bool false,h)) fun _ h=>ab (cx 39 y1 h) fun y3 h=>ab (C 20 [y3] h) fun y4 h=>ab (pu (unA .not y4) h) fun y5 h=>ab (some (y5,h)) fun y2_1 h=>some (y2_1,h)
theorem t61_eq (C:aj) (x0:Value) (h:ad):ba prog C f46 [x0] h=t61 C x0 h:=
 eH (by kernel_rfl) (by kernel_rfl)
noncomputable def t57 (_:aj) (x0:Value) (h:ad):aS:=
 ab (some (.slice none 0 0,h)) fun _ h=>ab (some (x0,h)) fun y3 h=>ab (pu (aC prog .eql 22 y3 (.slice none 0 0)) h) fun y4 h=>(match y4 with
 | .bool true=>ab (some (.slice none 0 0,h)) fun y2_1 h=>some (y2_1,h)
 | .bool false=>ab (cg 39 (.agg gI) 0 [] h) fun y5 h=>ab (some (x0,h)) fun y6 h=>ab (appendA 39 88 y5 y6 h) fun y7 h=>ab (some (y7,h)) fun y2_1 h=>some (y2_1,h)
 |_=>none)
theorem Cf (C:aj) (x0:Value) (h:ad):ba prog C f40 [x0] h=t57 C x0 h:=
 eH (by kernel_rfl) (by kernel_rfl)
noncomputable def t15 (C:aj) (x0:Value) (h:ad):aS:=
 ab (some (.pointer none,h)) fun _ h=>ab (some (.int .i64 0,h)) fun _ h=>ab (C 19 [] h) fun y5 h=>ab (some (y5,h)) fun y4 h=>ab (some (y4,h)) fun y6 h=>ab (pu (aC prog .eql 25 y6 (.pointer none)) h) fun y7 h=>(match y7 with
 | .bool true=>ab (some (.pointer none,h)) fun y2_1 h=>ab (some (.int .i64 1,h)) fun y3_1 h=>some (.tuple #[y2_1,y3_1],h)
 | .bool false=>ab (some (y4,h)) fun y8 h=>ab (some (y4,h)) fun y9 h=>ab (some (x0,h)) fun y10 h=>ab (C 8 [y10] h) fun y11 h=>ab (C 21 [y9,y11] h) fun y12 h=>ab (some (y8,h)) fun y2_1 h=>ab (some (y12,h)) fun y3_1 h=>some (.tuple #[y2_1,y3_1],h)
 |_=>none)
theorem t15_eq (C:aj) (x0:Value) (h:ad):ba prog C f6 [x0] h=t15 C x0 h:=
 eH (by kernel_rfl) (by kernel_rfl)
noncomputable def t33 (_:aj) (h:ad):aS:=
 ab (some (.pointer none,h)) fun _ h=>ab (pu (ei [.slice none 0 0] []) h) fun y1 h=>ab (box y1 h) fun y2 h=>ab (some (y2,h)) fun y0_1 h=>some (y0_1,h)
theorem t33_eq (C:aj) (h:ad):ba prog C f19 [] h=t33 C h:=
 eH (by kernel_rfl) (by kernel_rfl)
noncomputable def t23 (C:aj) (x0:Value) (h:ad):aS:=
 ab (some (.slice none 0 0,h)) fun _ h=>ab (some (x0,h)) fun y3 h=>ab (pu (aC prog .eql 25 y3 (.pointer none)) h) fun y4 h=>(match y4 with
 | .bool true=>ab (some (.slice none 0 0,h)) fun y2_1 h=>some (y2_1,h)
 | .bool false=>ab (some (x0,h)) fun y5 h=>ab (pu (nilCheckA y5) h) fun y6 h=>ab (pu (aH y6 0) h) fun y7 h=>ab (ld1 y7 h) fun y8 h=>ab (C 40 [y8] h) fun y9 h=>ab (some (y9,h)) fun y2_1 h=>some (y2_1,h)
 |_=>none)
theorem t23_eq (C:aj) (x0:Value) (h:ad):ba prog C f13 [x0] h=t23 C x0 h:=
 eH (by kernel_rfl) (by kernel_rfl)
end
noncomputable def t65 (C:aj) (x0 x1:Value) (h:ad):aS:=
 ab (box x0 h) fun y2 h=>ab (box x1 h) fun y3 h=>ab (some (.int .i64 0,h)) fun _ h=>let g2_0:=h
 ab (cx 39 y2 g2_0) fun y5 g2_1=>ab (C 52 [y5] g2_1) fun y6 g2_2=>ab (cx 39 y3 g2_2) fun y7 g2_3=>ab (C 52 [y7] g2_3) fun y8 g2_4=>ab (C 51 [y6,y8] g2_4) fun y9 g2_5=>ab (some (y9,g2_5)) fun y4_1 g2_6=>(match (bF true (cx 39 y3 g2_1) y7&&true) with
 |true=>let h:=g2_6
 some (y4_1,h)
 |false=>none)
theorem t65_eq (C:aj) (x0 x1:Value) (h:ad):ba prog C f50 [x0,x1] h=t65 C x0 x1 h:=
 eH (by kernel_rfl) (by kernel_rfl)
noncomputable def t66 (C:aj) (x0 x1:Value) (h:ad):aS:=
 ab (some (.int .i64 0,h)) fun _ h=>ab (some (x0,h)) fun y5 h=>ab (some (x1,h)) fun y6 h=>ab (C 85 [y5,y6] h) fun y7 h=>ab (some (y7,h)) fun y4_1 h=>some (y4_1,h)
theorem t66_eq (C:aj) (x0 x1:Value) (h:ad):ba prog C f51 [x0,x1] h=t66 C x0 x1 h:=
 eH (by kernel_rfl) (by kernel_rfl)
section
variable (C:aj) (i:Nat) (x:fK) (e:aW) (h:ad)
noncomputable def k19_4:aS:=codeK prog C (au f12 [1,1,1]) e h (cE f12) (cE f12) eT
noncomputable def b19_6:aS:=if i=0 then (k19_4 C) e h else eT i e h
noncomputable def t19 (C:aj) (x0 x1:Value) (h:ad):aS:=
 ab (some (.bool false,h)) fun y4 h=>ab (some (x0,h)) fun y6 h=>ab (pu (lenL y6) h) fun y7 h=>ab (some (x1,h)) fun y8 h=>ab (pu (lenL y8) h) fun y9 h=>ab (pu (aC prog .neq 3 y7 y9) h) fun y10 h=>(match y10 with
 | .bool true=>ab (some (.bool false,h)) fun y4_1 h=>some (y4_1,h)
 | .bool false=>ab (some (.int .i64 0,h)) fun y5 h=>dj (iter (codeA prog C (au f12 [1,1,0,1,0,0])) aB (aL 26 (up (bs [x0,x1]) [(4,y4),(5,y5),(6,y6),(7,y7),(8,y8),(9,y9),(10,y10)])) h) (cE f12) (b19_6 C)
 |_=>none)
noncomputable def yd (_:aj) (_:fK) (h:ad):aS:=
 ab (some (.bool true,h)) fun y4 h=>some (y4,h)
noncomputable def oj (_:aj) (x:fK) (h:ad):fB:=
 ab (some (x 5,h)) fun y11 h=>ab (some (x 0,h)) fun y12 h=>ab (pu (lenL y12) h) fun y13 h=>ab (pu (aC prog .lss 3 y11 y13) h) fun y14 h=>(match y14 with
 | .bool true=>ab (some (x 0,h)) fun y17 h=>ab (some (x 5,h)) fun y18 h=>ab (pu (idxS 39 y17 y18) h) fun y19 h=>ab (cx 39 y19 h) fun y20 h=>ab (some (x 1,h)) fun y21 h=>ab (some (x 5,h)) fun y22 h=>ab (pu (idxS 39 y21 y22) h) fun y23 h=>ab (cx 39 y23 h) fun y24 h=>ab (pu (aC prog .neq 66 y20 y24) h) fun y25 h=>(match y25 with
 | .bool true=>ab (some (.bool false,h)) fun y4 h=>some (.ret,(aL 26 (up x [(4,y4),(11,y11),(12,y12),(13,y13),(14,y14),(17,y17),(18,y18),(19,y19),(20,y20),(21,y21),(22,y22),(23,y23),(24,y24),(25,y25)])),h)
 | .bool false=>ab (some (x 5,h)) fun y15 h=>ab (pu (aC prog .add 3 y15 (.int .i64 1)) h) fun y16 h=>ab (some (y16,h)) fun y5 h=>some (.normal,(aL 26 (up x [(5,y5),(11,y11),(12,y12),(13,y13),(14,y14),(15,y15),(16,y16),(17,y17),(18,y18),(19,y19),(20,y20),(21,y21),(22,y22),(23,y23),(24,y24),(25,y25)])),h)
 |_=>none)
 | .bool false=>some (.exit 0,(aL 26 (up x [(11,y11),(12,y12),(13,y13),(14,y14)])),h)
 |_=>none)
theorem t19_eq (C:aj) (x0 x1:Value) (h:ad):ba prog C f12 [x0,x1] h=t19 C x0 x1 h:=
 eH (by kernel_rfl) (by kernel_rfl)
theorem t19k19_4_eq:k19_4 C (aL 26 x) h=yd C x h:=
 qM (T:=yd C) (fun x h=>by kernel_rfl) x h
theorem wW:codeA prog C (au f12 [1,1,0,1,0,0]) (aL 26 x) h=oj C x h:=
 aE (T:=oj C) (fun x h=>by kernel_rfl) x h
end
section
variable (C:aj) (i:Nat) (x:fK) (e:aW) (h:ad)
noncomputable def t56 (C:aj) (x0 x1:Value) (h:ad):aS:=
 ab (box x0 h) fun y2 h=>ab (box x1 h) fun y3 h=>ab (some (.int .i64 0,h)) fun _ h=>ab (ld1 y2 h) fun y5 h=>ab (pu (nilCheckA y5) h) fun y6 h=>ab (pu (aH y6 0) h) fun y7 h=>ab (ld1 y7 h) fun y8 h=>ab (pu (lenL y8) h) fun y9 h=>ab (some (.func (.func 79) #[] #[y2,y3],h)) fun y10 h=>ab (C 78 [y9,y10] h) fun y11 h=>ab (some (y11,h)) fun y4_1 h=>some (y4_1,h)
theorem t56_eq (C:aj) (x0 x1:Value) (h:ad):ba prog C f44 [x0,x1] h=t56 C x0 x1 h:=
 eH (by kernel_rfl) (by kernel_rfl)
noncomputable def k111_2:aS:=codeK prog C (au f78 [1,1,1]) e h (cE f78) (cE f78) eT
noncomputable def b111_3:aS:=if i=0 then (k111_2 C) e h else eT i e h
noncomputable def t111 (C:aj) (x0 x1:Value) (h:ad):aS:=
 ab (some (.int .i64 0,h)) fun y4 h=>ab (some (x0,h)) fun y8 h=>ab (some (.int .i64 0,h)) fun y5 h=>ab (some (y8,h)) fun y6 h=>dj (iter (codeA prog C (au f78 [1,1,0,0,0])) aB (aL 26 (up (bs [x0,x1]) [(4,y4),(5,y5),(6,y6),(8,y8)])) h) (cE f78) (b111_3 C)
noncomputable def rW (_:aj) (x:fK) (h:ad):aS:=
 ab (some (x 5,h)) fun y25 h=>ab (some (y25,h)) fun y4 h=>some (y4,h)
noncomputable def mi:fB:=
 ab (some (x 5,h)) fun y9 h=>ab (some (x 6,h)) fun y10 h=>ab (pu (aC prog .lss 3 y9 y10) h) fun y11 h=>(match y11 with
 | .bool true=>ab (some (x 5,h)) fun y12 h=>ab (some (x 6,h)) fun y13 h=>ab (pu (aC prog .add 3 y12 y13) h) fun y14 h=>ab (jC .u64 y14 h) fun y15 h=>ab (pu (aC prog .shr 120 y15 (.int .u64 1)) h) fun y16 h=>ab (jC .i64 y16 h) fun y17 h=>ab (some (y17,h)) fun y7 h=>ab (some (x 1,h)) fun y18 h=>ab (some (y7,h)) fun y19 h=>ab (callA prog C y18 [y19] h) fun y20 h=>ab (pu (unA .not y20) h) fun y21 h=>(match y21 with
 | .bool true=>ab (some (y7,h)) fun y22 h=>ab (pu (aC prog .add 3 y22 (.int .i64 1)) h) fun y23 h=>ab (some (y23,h)) fun y5 h=>some (.normal,(aL 26 (up x [(5,y5),(7,y7),(9,y9),(10,y10),(11,y11),(12,y12),(13,y13),(14,y14),(15,y15),(16,y16),(17,y17),(18,y18),(19,y19),(20,y20),(21,y21),(22,y22),(23,y23)])),h)
 | .bool false=>ab (some (y7,h)) fun y24 h=>ab (some (y24,h)) fun y6 h=>some (.normal,(aL 26 (up x [(6,y6),(7,y7),(9,y9),(10,y10),(11,y11),(12,y12),(13,y13),(14,y14),(15,y15),(16,y16),(17,y17),(18,y18),(19,y19),(20,y20),(21,y21),(24,y24)])),h)
 |_=>none)
 | .bool false=>some (.exit 0,(aL 26 (up x [(9,y9),(10,y10),(11,y11)])),h)
 |_=>none)
theorem t111_eq (C:aj) (x0 x1:Value) (h:ad):ba prog C f78 [x0,x1] h=t111 C x0 x1 h:=
 eH (by kernel_rfl) (by kernel_rfl)
theorem Ab:k111_2 C (aL 26 x) h=rW C x h:=
 qM (T:=rW C) (fun x h=>by kernel_rfl) x h
theorem vp:codeA prog C (au f78 [1,1,0,0,0]) (aL 26 x) h=mi C x h:=
 aE (T:=mi C) (fun x h=>by kernel_rfl) x h
noncomputable def t112 (C:aj) (x0 x1 x2:Value) (h:ad):aS:=
 ab (some (.bool false,h)) fun _ h=>let g2_0:=h
 ab (ld1 x1 g2_0) fun y5 g2_1=>ab (pu (nilCheckA y5) g2_1) fun y6 g2_2=>ab (pu (aH y6 0) g2_2) fun y7 g2_3=>ab (ld1 y7 g2_3) fun y8 g2_4=>ab (some (x0,g2_4)) fun y9 g2_5=>ab (pu (idxS 39 y8 y9) g2_5) fun y10 g2_6=>ab (cx 39 y10 g2_6) fun y11 g2_7=>ab (C 52 [y11] g2_7) fun y12 g2_8=>ab (ld1 x2 g2_8) fun y13 g2_9=>ab (C 51 [y12,y13] g2_9) fun y14 g2_10=>ab (pu (aC prog .geq 3 y14 (.int .i64 0)) g2_10) fun y15 g2_11=>ab (some (y15,g2_11)) fun y4_1 g2_12=>(match (bF true (ld1 x2 g2_7) y13&&true) with
 |true=>let h:=g2_12
 some (y4_1,h)
 |false=>none)
theorem t112_eq (C:aj) (x0 x1 x2:Value) (h:ad):ba prog C f79 [x0,x1,x2] h=t112 C x0 x1 x2 h:=
 eH (by kernel_rfl) (by kernel_rfl)
end
noncomputable def t20 (C:aj) (x0 x1 x2:Value) (h:ad):aS:=
 ab (some (.slice none 0 0,h)) fun _ h=>ab (some (x0,h)) fun y9 h=>ab (pu (aC prog .eql 25 y9 (.pointer none)) h) fun y10 h=>(match y10 with
 | .bool true=>ab (some (.slice none 0 0,h)) fun y6_1 h=>some (y6_1,h)
 | .bool false=>let g5_0:=h
 ab (some (x0,g5_0)) fun y11 g5_1=>ab (some (x1,g5_1)) fun y12 g5_2=>ab (C 44 [y11,y12] g5_2) fun y13 g5_3=>ab (some (x0,g5_3)) fun y14 g5_4=>ab (pu (nilCheckA y14) g5_4) fun y15 g5_5=>ab (pu (aH y15 0) g5_5) fun y16 g5_6=>ab (ld1 y16 g5_6) fun y17 g5_7=>ab (pu (lenL y17) g5_7) fun y18 g5_8=>ab (some (y13,g5_8)) fun y7 g5_9=>ab (some (y18,g5_9)) fun y8 g5_10=>(match (bF true (ld1 y16 g5_2) y17&&(bF true (pu (lenL y17) g5_2) y18&&true)) with
 |true=>let h:=g5_10
 ab (some (x2,h)) fun y19 h=>ab (pu (lenL y19) h) fun y20 h=>ab (pu (aC prog .gtr 3 y20 (.int .i64 0)) h) fun y21 h=>(match y21 with
 | .bool true=>ab (some (y7,h)) fun y22 h=>ab (some (x0,h)) fun y23 h=>ab (some (x2,h)) fun y24 h=>ab (C 44 [y23,y24] h) fun y25 h=>ab (pu (minmax true y22 [y25]) h) fun y26 h=>ab (some (y26,h)) fun y8_1 h=>ab (some (x0,h)) fun y27 h=>ab (pu (nilCheckA y27) h) fun y28 h=>ab (pu (aH y28 0) h) fun y29 h=>ab (ld1 y29 h) fun y30 h=>ab (some (y7,h)) fun y31 h=>ab (some (y8_1,h)) fun y32 h=>ab (pu (iw 39 y30 (some y31) (some y32) none) h) fun y33 h=>ab (C 40 [y33] h) fun y34 h=>ab (some (y34,h)) fun y6_1 h=>some (y6_1,h)
 | .bool false=>ab (some (x0,h)) fun y27 h=>ab (pu (nilCheckA y27) h) fun y28 h=>ab (pu (aH y28 0) h) fun y29 h=>ab (ld1 y29 h) fun y30 h=>ab (some (y7,h)) fun y31 h=>ab (some (y8,h)) fun y32 h=>ab (pu (iw 39 y30 (some y31) (some y32) none) h) fun y33 h=>ab (C 40 [y33] h) fun y34 h=>ab (some (y34,h)) fun y6_1 h=>some (y6_1,h)
 |_=>none)
 |false=>none)
 |_=>none)
theorem CG (C:aj) (x0 x1 x2:Value) (h:ad):ba prog C f18 [x0,x1,x2] h=t20 C x0 x1 x2 h:=
 eH (by kernel_rfl) (by kernel_rfl)
noncomputable def t17 (C:aj) (x0 x1 x2:Value) (h:ad):aS:=
 ab (dB lF h) fun y6 h=>ab (some (x0,h)) fun y8 h=>ab (pu (aC prog .eql 25 y8 (.pointer none)) h) fun y9 h=>(match y9 with
 | .bool true=>ab (pu (ei lF []) h) fun y10 h=>ab (eo 116 y6 y10 h) fun _ h=>resultsA prog f15.results.toList (aL 24 (up (bs [x0,x1,x2]) [(6,y6),(8,y8),(9,y9),(10,y10)])) h
 | .bool false=>ab (some (x0,h)) fun y11 h=>ab (some (x1,h)) fun y12 h=>ab (some (x2,h)) fun y13 h=>ab (C 18 [y11,y12,y13] h) fun y14 h=>ab (some (y14,h)) fun y7 h=>ab (some (x1,h)) fun y15 h=>ab (C 41 [y15] h) fun y16 h=>ab (some (x2,h)) fun y17 h=>ab (C 41 [y17] h) fun y18 h=>ab (some (y7,h)) fun y19 h=>ab (pu (lenL y19) h) fun y20 h=>ab (some (y7,h)) fun y21 h=>ab (C 42 [y21] h) fun y22 h=>ab (pu (ei lF [(0,1,.int .u8 4),(7,1,y16),(8,1,y18),(9,1,y20),(10,32,y22)]) h) fun y23 h=>ab (eo 116 y6 y23 h) fun _ h=>
 resultsA prog f15.results.toList (aL 24 (up (bs [x0,x1,x2]) [(6,y6),(7,y7),(8,y8),(9,y9),(11,y11),(12,y12),(13,y13),(14,y14),(15,y15),(16,y16),(17,y17),(18,y18),(19,y19),(20,y20),(21,y21),(22,y22),(23,y23)])) h
 |_=>none)
theorem t17_eq (C:aj) (x0 x1 x2:Value) (h:ad):ba prog C f15 [x0,x1,x2] h=t17 C x0 x1 x2 h:=
 eH (by kernel_rfl) (by kernel_rfl)
section
variable (C:aj) (i:Nat) (x:fK) (e:aW) (h:ad)
noncomputable def t100 (C:aj) (x0 x1:Value) (h:ad):aS:=
 ab (box x1 h) fun y3 h=>ab (some (.slice none 0 0,h)) fun _ h=>ab (some (x0,h)) fun y8 h=>ab (pu (aH y3 7) h) fun y9 h=>ab (ld1 y9 h) fun y10 h=>ab (pu (aH y3 8) h) fun y11 h=>ab (ld1 y11 h) fun y12 h=>ab (C 15 [y8,y10,y12] h) fun y13 h=>ab (dB lF h) fun y5 h=>ab (eo 116 y5 y13 h) fun _ h=>ab (some (x0,h)) fun y14 h=>ab (pu (aH y3 7) h) fun y15 h=>ab (ld1 y15 h) fun y16 h=>ab (pu (aH y3 8) h) fun y17 h=>ab (ld1 y17 h) fun y18 h=>ab (C 18 [y14,y16,y18] h) fun y19 h=>ab (some (y19,h)) fun y6 h=>ab (pu (aH y5 9) h) fun y21 h=>ab (ld1 y21 h) fun y22 h=>ab (pu (aH y3 9) h) fun y23 h=>ab (ld1 y23 h) fun y24 h=>ab (pu (aC prog .eql 3 y22 y24) h) fun y25 h=>ab (some (y25,h)) fun y26 h=>
 ab (ai (aR y26==some true) (pu (aH y5 10) h) h) fun y27 h=>ab (ai (aR y26==some true) (cx 32 y27 h) h) fun y28 h=>ab (ai (aR y26==some true) (pu (aH y3 10) h) h) fun y29 h=>ab (ai (aR y26==some true) (cx 32 y29 h) h) fun y30 h=>ab (ai (aR y26==some true) (pu (aC prog .eql 36 y28 y30) h) h) fun y31 h=>ab (match y26 with | .bool t=>some (if t then y31 else (.bool false),h)|_=>none) fun y32 h=>ab (some (y32,h)) fun y20 h=>(match y20 with
 | .bool true=>ab (some (.slice none 0 0,h)) fun y4_1 h=>some (y4_1,h)
 | .bool false=>ab (some (y6,h)) fun y34 h=>ab (pu (lenL y34) h) fun y35 h=>ab (pu (aC prog .leq 3 y35 (.int .i64 8)) h) fun y36 h=>ab (some (y36,h)) fun y33 h=>(match y33 with
 | .bool true=>ab (cx 116 y3 h) fun y37 h=>ab (some (y6,h)) fun y38 h=>ab (C 61 [y37,y38,.bool true] h) fun y39 h=>ab (cg 116 (.agg wF) 1 [(0,y39)] h) fun y40 h=>ab (some (y40,h)) fun y4_1 h=>some (y4_1,h)
 | .bool false=>ab (some (y6,h)) fun y41 h=>ab (some (y6,h)) fun y42 h=>ab (pu (lenL y42) h) fun y43 h=>ab (pu (aC prog .quo 3 y43 (.int .i64 2)) h) fun y44 h=>ab (pu (idxS 39 y41 y44) h) fun y45 h=>ab (cx 39 y45 h) fun y46 h=>ab (C 52 [y46] h) fun y47 h=>ab (some (y47,h)) fun y7 h=>let g11_0:=h
 ab (some (x0,g11_0)) fun y48 g11_1=>ab (pu (aH y3 7) g11_1) fun y49 g11_2=>ab (ld1 y49 g11_2) fun y50 g11_3=>ab (some (y7,g11_3)) fun y51 g11_4=>ab (C 15 [y48,y50,y51] g11_4) fun y52 g11_5=>ab (some (x0,g11_5)) fun y53 g11_6=>ab (some (y7,g11_6)) fun y54 g11_7=>ab (pu (aH y3 8) g11_7) fun y55 g11_8=>ab (ld1 y55 g11_8) fun y56 g11_9=>ab (C 15 [y53,y54,y56] g11_9) fun y57 g11_10=>ab (cg 116 (.agg wF) 2 [(0,y52),(1,y57)] g11_10) fun y58 g11_11=>ab (some (y58,g11_11)) fun y4_1 g11_12=>(match (bF true (ld1 y55 g11_4) y56&&true) with
 |true=>let h:=g11_12
 some (y4_1,h)
 |false=>none)
 |_=>none)
 |_=>none)
theorem t100_eq (C:aj) (x0 x1:Value) (h:ad):ba prog C f27 [x0,x1] h=t100 C x0 x1 h:=
 eH (by kernel_rfl) (by kernel_rfl)
noncomputable def k50_8:aS:=codeK prog C (au f9 [1,1,1,1,1]) e h (cE f9) (cE f9) eT
noncomputable def b50_10:aS:=if i=1 then (k50_8 C) e h else eT i e h
noncomputable def t50 (C:aj) (x0 x1:Value) (h:ad):aS:=
 ab (box x1 h) fun y3 h=>ab (some (.slice none 0 0,h)) fun y4 h=>ab (some (.int .i64 0,h)) fun y5 h=>ab (some (x0,h)) fun y8 h=>ab (pu (aC prog .eql 25 y8 (.pointer none)) h) fun y9 h=>(match y9 with
 | .bool true=>ab (some (.slice none 0 0,h)) fun y4_1 h=>ab (some (.int .i64 1,h)) fun y5_1 h=>some (.tuple #[y4_1,y5_1],h)
 | .bool false=>ab (some (.slice none 0 0,h)) fun _ h=>ab (pu (aH y3 0) h) fun y11 h=>ab (ld1 y11 h) fun y12 h=>ab (pu (aC prog .eql 31 y12 (.int .u8 4)) h) fun y13 h=>ab (some (y13,h)) fun y14 h=>ab (ai (aR y14==some true) (pu (aH y3 9) h) h) fun y15 h=>ab (ai (aR y14==some true) (ld1 y15 h) h) fun y16 h=>ab (ai (aR y14==some true) (pu (aC prog .geq 3 y16 (.int .i64 0)) h) h) fun y17 h=>ab (match y14 with | .bool t=>some (if t then y17 else (.bool false),h)|_=>none) fun y18 h=>ab (some (y18,h)) fun y10 h=>(match y10 with
 | .bool true=>ab (some (x0,h)) fun y19 h=>ab (cx 116 y3 h) fun y20 h=>ab (C 27 [y19,y20] h) fun y21 h=>ab (some (y21,h)) fun y6_1 h=>ab (some (y6_1,h)) fun y46 h=>ab (pu (lenL y46) h) fun y47 h=>ab (some (.int .i64 0,h)) fun y48 h=>dj (iter (codeA prog C (au f9 [1,1,1,1,0,1,0,0])) aB (aL 65 (up (bs [x0,x1]) [(3,y3),(4,y4),(5,y5),(6,y6_1),(8,y8),(9,y9),(10,y10),(11,y11),(12,y12),(13,y13),(14,y14),(15,y15),(16,y16),(17,y17),(18,y18),(19,y19),(20,y20),(21,y21),(46,y46),(47,y47),(48,y48)])) h) (cE f9) (b50_10 C)
 | .bool false=>ab (pu (aH y3 0) h) fun y23 h=>ab (ld1 y23 h) fun y24 h=>ab (pu (aC prog .eql 31 y24 (.int .u8 5)) h) fun y25 h=>ab (some (y25,h)) fun y26 h=>ab (ai (aR y26==some true) (pu (aH y3 42) h) h) fun y27 h=>ab (ai (aR y26==some true) (ld1 y27 h) h) fun y28 h=>ab (ai (aR y26==some true) (pu (lenL y28) h) h) fun y29 h=>ab (ai (aR y26==some true) (pu (aC prog .gtr 3 y29 (.int .i64 64)) h) h) fun y30 h=>ab (match y26 with | .bool t=>some (if t then y30 else (.bool false),h)|_=>none) fun y31 h=>ab (some (y31,h)) fun y22 h=>(match y22 with
 | .bool true=>ab (some (.slice none 0 0,h)) fun y4_1 h=>ab (some (.int .i64 3,h)) fun y5_1 h=>some (.tuple #[y4_1,y5_1],h)
 | .bool false=>ab (pu (aH y3 0) h) fun y33 h=>ab (ld1 y33 h) fun y34 h=>ab (pu (aC prog .eql 31 y34 (.int .u8 5)) h) fun y35 h=>ab (some (y35,h)) fun y36 h=>ab (ai (aR y36==some true) (pu (aH y3 42) h) h) fun y37 h=>ab (ai (aR y36==some true) (ld1 y37 h) h) fun y38 h=>ab (ai (aR y36==some true) (some (.func (.func 29) #[] #[y3],h)) h) fun y39 h=>ab (ai (aR y36==some true) (C 28 [y38,y39] h) h) fun y40 h=>ab (ai (aR y36==some true) (pu (unA .not y40) h) h) fun y41 h=>ab (match y36 with | .bool t=>some (if t then y41 else (.bool false),h)|_=>none) fun y42 h=>ab (some (y42,h)) fun y32 h=>(match y32 with
 | .bool true=>ab (some (x0,h)) fun y43 h=>ab (cx 116 y3 h) fun y44 h=>ab (C 31 [y43,y44] h) fun y45 h=>ab (some (y45,h)) fun y6_1 h=>ab (some (y6_1,h)) fun y46 h=>ab (pu (lenL y46) h) fun y47 h=>ab (some (.int .i64 0,h)) fun y48 h=>
 dj (iter (codeA prog C (au f9 [1,1,1,1,0,1,0,0])) aB (aL 65 (up (bs [x0,x1]) [(3,y3),(4,y4),(5,y5),(6,y6_1),(8,y8),(9,y9),(10,y10),(11,y11),(12,y12),(13,y13),(14,y14),(15,y15),(16,y16),(17,y17),(18,y18),(22,y22),(23,y23),(24,y24),(25,y25),(26,y26),(27,y27),(28,y28),(29,y29),(30,y30),(31,y31),(32,y32),(33,y33),(34,y34),(35,y35),(36,y36),(37,y37),(38,y38),(39,y39),(40,y40),(41,y41),(42,y42),(43,y43),(44,y44),(45,y45),(46,y46),(47,y47),(48,y48)])) h) (cE f9) (b50_10 C)
 | .bool false=>ab (some (.slice none 0 0,h)) fun y4_1 h=>ab (some (.int .i64 2,h)) fun y5_1 h=>some (.tuple #[y4_1,y5_1],h)
 |_=>none)
 |_=>none)
 |_=>none)
 |_=>none)
noncomputable def tS (_:aj) (x:fK) (h:ad):aS:=
 ab (some (x 6,h)) fun y64 h=>ab (some (y64,h)) fun y4 h=>ab (some (.int .i64 0,h)) fun y5 h=>some (.tuple #[y4,y5],h)
noncomputable def iD (_:aj) (x:fK) (h:ad):fB:=
 ab (pu (aC prog .lss 3 (x 48) (x 47)) h) fun y49 h=>(match y49 with
 | .bool true=>ab (some (x 48,h)) fun y50 h=>ab (some (y50,h)) fun y7 h=>let g21_0:=h
 ab (some (x 6,g21_0)) fun y51 g21_1=>ab (some (y7,g21_1)) fun y52 g21_2=>ab (some (x 6,g21_2)) fun y53 g21_3=>ab (some (y7,g21_3)) fun y54 g21_4=>ab (pu (aH (x 3) 2) g21_4) fun y55 g21_5=>ab (ld1 y55 g21_5) fun y56 g21_6=>ab (pu (aH (x 3) 1) g21_6) fun y57 g21_7=>ab (ld1 y57 g21_7) fun y58 g21_8=>ab (pu (idxS 116 y51 y52) g21_8) fun y59 g21_9=>ab (pu (aH y59 1) g21_9) fun y60 g21_10=>ab (eo 1 y60 y56 g21_10) fun _ g21_11=>ab (pu (idxS 116 y53 y54) g21_11) fun y61 g21_12=>ab (pu (aH y61 2) g21_12) fun y62 g21_13=>ab (eo 1 y62 y58 g21_13) fun _ g21_14=>(match (bF true (ld1 y57 g21_11) y58&&true) with
 |true=>let h:=g21_14
 ab (pu (aC prog .add 3 (x 48) (.int .i64 1)) h) fun y63 h=>ab (some (y63,h)) fun y48 h=>some (.normal,(aL 65 (up x [(7,y7),(48,y48),(49,y49),(50,y50),(51,y51),(52,y52),(53,y53),(54,y54),(55,y55),(56,y56),(57,y57),(58,y58),(59,y59),(60,y60),(61,y61),(62,y62),(63,y63)])),h)
 |false=>none)
 | .bool false=>some (.exit 1,(aL 65 (up x [(49,y49)])),h)
 |_=>none)
theorem xR (C:aj) (x0 x1:Value) (h:ad):ba prog C f9 [x0,x1] h=t50 C x0 x1 h:=
 eH (by kernel_rfl) (by kernel_rfl)
theorem vO:k50_8 C (aL 65 x) h=tS C x h:=
 qM (T:=tS C) (fun x h=>by kernel_rfl) x h
theorem lR:codeA prog C (au f9 [1,1,1,1,0,1,0,0]) (aL 65 x) h=iD C x h:=
 aE (T:=iD C) (fun x h=>by kernel_rfl) x h
end
noncomputable def t129 (C:aj) (x0 x1 x2:Value) (h:ad):aS:=
 ab (box x0 h) fun y3 h=>ab (dB lF h) fun y6 h=>let g2_0:=h
 ab (pu (aH y3 7) g2_0) fun y7 g2_1=>ab (ld1 y7 g2_1) fun y8 g2_2=>ab (C 41 [y8] g2_2) fun y9 g2_3=>ab (pu (aH y3 8) g2_3) fun y10 g2_4=>ab (ld1 y10 g2_4) fun y11 g2_5=>ab (C 41 [y11] g2_5) fun y12 g2_6=>ab (some (x1,g2_6)) fun y13 g2_7=>ab (C 40 [y13] g2_7) fun y14 g2_8=>ab (some (x2,g2_8)) fun y15 g2_9=>ab (pu (ei lF [(0,1,.int .u8 5),(7,1,y9),(8,1,y12),(42,1,y14),(43,1,y15)]) g2_9) fun y16 g2_10=>ab (eo 116 y6 y16 g2_10) fun _ g2_11=>(match (bF true (ld1 y10 g2_2) y11&&true) with
 |true=>let h:=g2_11
 resultsA prog f61.results.toList (aL 17 (up (bs [x0,x1,x2]) [(3,y3),(6,y6),(7,y7),(8,y8),(9,y9),(10,y10),(11,y11),(12,y12),(13,y13),(14,y14),(15,y15),(16,y16)])) h
 |false=>none)
theorem t129_eq (C:aj) (x0 x1 x2:Value) (h:ad):ba prog C f61 [x0,x1,x2] h=t129 C x0 x1 x2 h:=
 eH (by kernel_rfl) (by kernel_rfl)
section
variable (C:aj) (i:Nat) (x:fK) (e:aW) (h:ad)
noncomputable def k151_1:aS:=codeK prog C (au f91 [1,1]) e h (cE f91) (cE f91) eT
noncomputable def b151_3:aS:=if i=0 then (k151_1 C) e h else eT i e h
noncomputable def t151 (C:aj) (x0 x1:Value) (h:ad):aS:=
 ab (box x1 h) fun y3 h=>ab (some (.int .i64 0,h)) fun y4 h=>ab (some (x0,h)) fun y6 h=>ab (pu (lenL y6) h) fun y7 h=>ab (some (.int .i64 0,h)) fun y8 h=>dj (iter (codeA prog C (au f91 [1,0,1,0,0])) aB (aL 19 (up (bs [x0,x1]) [(3,y3),(4,y4),(6,y6),(7,y7),(8,y8)])) h) (cE f91) (b151_3 C)
noncomputable def rC (_:aj) (_:fK) (h:ad):aS:=
 ab (some ((.int .i64 (-1)),h)) fun y4 h=>some (y4,h)
noncomputable def mh (_:aj) (x:fK) (h:ad):fB:=
 ab (pu (aC prog .lss 3 (x 8) (x 7)) h) fun y9 h=>(match y9 with
 | .bool true=>ab (some (x 8,h)) fun y10 h=>ab (some (y10,h)) fun y5 h=>ab (cx 39 (x 3) h) fun y11 h=>ab (some (x 0,h)) fun y12 h=>ab (some (y5,h)) fun y13 h=>ab (pu (idxS 39 y12 y13) h) fun y14 h=>ab (cx 39 y14 h) fun y15 h=>ab (pu (aC prog .eql 66 y11 y15) h) fun y16 h=>(match y16 with
 | .bool true=>ab (some (y5,h)) fun y17 h=>ab (some (y17,h)) fun y4 h=>some (.ret,(aL 19 (up x [(4,y4),(5,y5),(9,y9),(10,y10),(11,y11),(12,y12),(13,y13),(14,y14),(15,y15),(16,y16),(17,y17)])),h)
 | .bool false=>ab (pu (aC prog .add 3 (x 8) (.int .i64 1)) h) fun y18 h=>ab (some (y18,h)) fun y8 h=>some (.normal,(aL 19 (up x [(5,y5),(8,y8),(9,y9),(10,y10),(11,y11),(12,y12),(13,y13),(14,y14),(15,y15),(16,y16),(18,y18)])),h)
 |_=>none)
 | .bool false=>some (.exit 0,(aL 19 (up x [(9,y9)])),h)
 |_=>none)
theorem t151_eq (C:aj) (x0 x1:Value) (h:ad):ba prog C f91 [x0,x1] h=t151 C x0 x1 h:=
 eH (by kernel_rfl) (by kernel_rfl)
theorem AV:k151_1 C (aL 19 x) h=rC C x h:=
 qM (T:=rC C) (fun x h=>by kernel_rfl) x h
theorem uS:codeA prog C (au f91 [1,0,1,0,0]) (aL 19 x) h=mh C x h:=
 aE (T:=mh C) (fun x h=>by kernel_rfl) x h
noncomputable def t133 (C:aj) (x0 x1:Value) (h:ad):aS:=
 ab (box x1 h) fun y3 h=>ab (some (.bool false,h)) fun _ h=>ab (some (x0,h)) fun y5 h=>ab (cx 39 y3 h) fun y6 h=>ab (C 91 [y5,y6] h) fun y7 h=>ab (pu (aC prog .geq 3 y7 (.int .i64 0)) h) fun y8 h=>ab (some (y8,h)) fun y4_1 h=>some (y4_1,h)
theorem t133_eq (C:aj) (x0 x1:Value) (h:ad):ba prog C f67 [x0,x1] h=t133 C x0 x1 h:=
 eH (by kernel_rfl) (by kernel_rfl)
noncomputable def t132 (C:aj) (x0 x1:Value) (h:ad):aS:=
 ab (box x0 h) fun y2 h=>ab (some (.bool false,h)) fun _ h=>ab (pu (aH x1 42) h) fun y4 h=>ab (ld1 y4 h) fun y5 h=>ab (cx 39 y2 h) fun y6 h=>ab (C 67 [y5,y6] h) fun y7 h=>ab (some (y7,h)) fun y3_1 h=>some (y3_1,h)
theorem t132_eq (C:aj) (x0 x1:Value) (h:ad):ba prog C f66 [x0,x1] h=t132 C x0 x1 h:=
 eH (by kernel_rfl) (by kernel_rfl)
noncomputable def k130_1:aS:=codeK prog C (au f64 [1,1]) e h (cE f64) (cE f64) eT
noncomputable def b130_3:aS:=if i=0 then (k130_1 C) e h else eT i e h
noncomputable def t130 (C:aj) (x0 x1:Value) (h:ad):aS:=
 ab (some (.int .i64 0,h)) fun y4 h=>ab (some (x0,h)) fun y9 h=>ab (pu (lenL y9) h) fun y10 h=>ab (some (.int .i64 0,h)) fun y11 h=>dj (iter (codeA prog C (au f64 [1,0,1,0,0])) aB (aL 36 (up (bs [x0,x1]) [(4,y4),(9,y9),(10,y10),(11,y11)])) h) (cE f64) (b130_3 C)
noncomputable def sL (_:aj) (x:fK) (h:ad):aS:=
 ab (some (x 0,h)) fun y31 h=>ab (pu (lenL y31) h) fun y32 h=>ab (some (x 1,h)) fun y33 h=>ab (pu (lenL y33) h) fun y34 h=>ab (pu (aC prog .lss 3 y32 y34) h) fun y35 h=>(match y35 with
 | .bool true=>ab (some ((.int .i64 (-1)),h)) fun y4 h=>some (y4,h)
 | .bool false=>ab (some (.int .i64 0,h)) fun y4 h=>some (y4,h)
 |_=>none)
noncomputable def mD:fB:=
 ab (pu (aC prog .lss 3 (x 11) (x 10)) h) fun y12 h=>(match y12 with
 | .bool true=>ab (some (x 11,h)) fun y13 h=>ab (pu (idxS 1 (x 9) (x 11)) h) fun y14 h=>ab (ld1 y14 h) fun y15 h=>ab (some (y13,h)) fun y5 h=>ab (some (y15,h)) fun y6 h=>ab (some (y5,h)) fun y16 h=>ab (some (x 1,h)) fun y17 h=>ab (pu (lenL y17) h) fun y18 h=>ab (pu (aC prog .geq 3 y16 y18) h) fun y19 h=>(match y19 with
 | .bool true=>ab (some (.int .i64 1,h)) fun y4 h=>some (.ret,(aL 36 (up x [(4,y4),(5,y5),(6,y6),(12,y12),(13,y13),(14,y14),(15,y15),(16,y16),(17,y17),(18,y18),(19,y19)])),h)
 | .bool false=>ab (some (x 1,h)) fun y20 h=>ab (some (y5,h)) fun y21 h=>ab (pu (idxS 1 y20 y21) h) fun y22 h=>ab (ld1 y22 h) fun y23 h=>ab (some (y23,h)) fun y7 h=>ab (some (y6,h)) fun y24 h=>ab (some (y7,h)) fun y25 h=>ab (C 90 [y24,y25] h) fun y26 h=>ab (some (y26,h)) fun y8 h=>ab (some (y8,h)) fun y27 h=>ab (pu (aC prog .neq 3 y27 (.int .i64 0)) h) fun y28 h=>(match y28 with
 | .bool true=>ab (some (y8,h)) fun y29 h=>ab (some (y29,h)) fun y4 h=>some (.ret,(aL 36 (up x [(4,y4),(5,y5),(6,y6),(7,y7),(8,y8),(12,y12),(13,y13),(14,y14),(15,y15),(16,y16),(17,y17),(18,y18),(19,y19),(20,y20),(21,y21),(22,y22),(23,y23),(24,y24),(25,y25),(26,y26),(27,y27),(28,y28),(29,y29)])),h)
 | .bool false=>ab (pu (aC prog .add 3 (x 11) (.int .i64 1)) h) fun y30 h=>ab (some (y30,h)) fun y11 h=>some (.normal,(aL 36 (up x [(5,y5),(6,y6),(7,y7),(8,y8),(11,y11),(12,y12),(13,y13),(14,y14),(15,y15),(16,y16),(17,y17),(18,y18),(19,y19),(20,y20),(21,y21),(22,y22),(23,y23),(24,y24),(25,y25),(26,y26),(27,y27),(28,y28),(30,y30)])),h)
 |_=>none)
 |_=>none)
 | .bool false=>some (.exit 0,(aL 36 (up x [(12,y12)])),h)
 |_=>none)
theorem t130_eq (C:aj) (x0 x1:Value) (h:ad):ba prog C f64 [x0,x1] h=t130 C x0 x1 h:=
 eH (by kernel_rfl) (by kernel_rfl)
theorem Ak:k130_1 C (aL 36 x) h=sL C x h:=
 qM (T:=sL C) (fun x h=>by kernel_rfl) x h
theorem uM:codeA prog C (au f64 [1,0,1,0,0]) (aL 36 x) h=mD C x h:=
 aE (T:=mD C) (fun x h=>by kernel_rfl) x h
noncomputable def t150 (C:aj) (x0 x1:Value) (h:ad):aS:=
 ab (some (.int .i64 0,h)) fun _ h=>ab (some (x0,h)) fun y7 h=>ab (C 112 [y7] h) fun y8 h=>ab (some (y8,h)) fun y5 h=>ab (some (x1,h)) fun y9 h=>ab (C 112 [y9] h) fun y10 h=>ab (some (y10,h)) fun y6 h=>ab (some (y5,h)) fun y11 h=>(match y11 with
 | .bool true=>ab (some (y6,h)) fun y12 h=>(match y12 with
 | .bool true=>ab (some (.int .i64 0,h)) fun y4_1 h=>some (y4_1,h)
 | .bool false=>ab (some ((.int .i64 (-1)),h)) fun y4_1 h=>some (y4_1,h)
 |_=>none)
 | .bool false=>ab (some (y6,h)) fun y13 h=>(match y13 with
 | .bool true=>ab (some (.int .i64 1,h)) fun y4_1 h=>some (y4_1,h)
 | .bool false=>ab (some (x0,h)) fun y14 h=>ab (some (x1,h)) fun y15 h=>ab (pu (aC prog .lss 5 y14 y15) h) fun y16 h=>(match y16 with
 | .bool true=>ab (some ((.int .i64 (-1)),h)) fun y4_1 h=>some (y4_1,h)
 | .bool false=>ab (some (x0,h)) fun y17 h=>ab (some (x1,h)) fun y18 h=>ab (pu (aC prog .gtr 5 y17 y18) h) fun y19 h=>(match y19 with
 | .bool true=>ab (some (.int .i64 1,h)) fun y4_1 h=>some (y4_1,h)
 | .bool false=>ab (some (.int .i64 0,h)) fun y4_1 h=>some (y4_1,h)
 |_=>none)
 |_=>none)
 |_=>none)
 |_=>none)
theorem t150_eq (C:aj) (x0 x1:Value) (h:ad):ba prog C f90 [x0,x1] h=t150 C x0 x1 h:=
 eH (by kernel_rfl) (by kernel_rfl)
noncomputable def t160 (_:aj) (x0:Value) (h:ad):aS:=
 ab (some (.bool false,h)) fun _ h=>ab (some (x0,h)) fun y3 h=>ab (some (x0,h)) fun y4 h=>ab (pu (aC prog .neq 5 y3 y4) h) fun y5 h=>ab (some (y5,h)) fun y2_1 h=>some (y2_1,h)
theorem t160_eq (C:aj) (x0:Value) (h:ad):ba prog C f112 [x0] h=t160 C x0 h:=
 eH (by kernel_rfl) (by kernel_rfl)
noncomputable def t102 (C:aj) (x0 x1:Value) (h:ad):aS:=
 ab (box x0 h) fun y2 h=>ab (box x1 h) fun y3 h=>ab (some (.bool false,h)) fun _ h=>ab (cx 39 y2 h) fun y8 h=>ab (C 63 [y8] h) fun y9 h=>ab (some (y9,h)) fun y7 h=>ab (pu (extractA y7 0) h) fun y10 h=>ab (pu (extractA y7 1) h) fun y11 h=>ab (some (y10,h)) fun y5 h=>ab (some (y11,h)) fun y6 h=>ab (some (y6,h)) fun y12 h=>ab (pu (aC prog .neq 26 y12 (.int .i64 0)) h) fun y13 h=>ab (some (y13,h)) fun y14 h=>ab (ai (aR y14==some false) (some (y5,h)) h) fun y15 h=>ab (ai (aR y14==some false) (pu (aH y3 7) h) h) fun y16 h=>ab (ai (aR y14==some false) (ld1 y16 h) h) fun y17 h=>ab (ai (aR y14==some false) (C 64 [y15,y17] h) h) fun y18 h=>
 ab (ai (aR y14==some false) (pu (aC prog .lss 3 y18 (.int .i64 0)) h) h) fun y19 h=>ab (match y14 with | .bool t=>some (if t then (.bool true) else y19,h)|_=>none) fun y20 h=>ab (some (y20,h)) fun y21 h=>ab (ai (aR y21==some false) (pu (aH y3 8) h) h) fun y22 h=>ab (ai (aR y21==some false) (ld1 y22 h) h) fun y23 h=>ab (ai (aR y21==some false) (pu (lenL y23) h) h) fun y24 h=>ab (ai (aR y21==some false) (pu (aC prog .gtr 3 y24 (.int .i64 0)) h) h) fun y25 h=>ab (ai (aR y21==some false) (some (y25,h)) h) fun y26 h=>ab (ai (aR y26==some true) (some (y5,h)) h) fun y27 h=>ab (ai (aR y26==some true) (pu (aH y3 8) h) h) fun y28 h=>ab (ai (aR y26==some true) (ld1 y28 h) h) fun y29 h=>
 ab (ai (aR y26==some true) (C 64 [y27,y29] h) h) fun y30 h=>ab (ai (aR y26==some true) (pu (aC prog .geq 3 y30 (.int .i64 0)) h) h) fun y31 h=>ab (ai (aR y21==some false) (match y26 with | .bool t=>some (if t then y31 else (.bool false),h)|_=>none) h) fun y32 h=>ab (match y21 with | .bool t=>some (if t then (.bool true) else y32,h)|_=>none) fun y33 h=>ab (some (y33,h)) fun y4_1 h=>some (y4_1,h)
theorem t102_eq (C:aj) (x0 x1:Value) (h:ad):ba prog C f30 [x0,x1] h=t102 C x0 x1 h:=
 eH (by kernel_rfl) (by kernel_rfl)
noncomputable def t101 (C:aj) (x0 x1:Value) (h:ad):aS:=
 ab (box x0 h) fun y2 h=>ab (some (.bool false,h)) fun _ h=>ab (cx 39 y2 h) fun y4 h=>ab (cx 116 x1 h) fun y5 h=>ab (C 30 [y4,y5] h) fun y6 h=>ab (some (y6,h)) fun y3_1 h=>some (y3_1,h)
theorem t101_eq (C:aj) (x0 x1:Value) (h:ad):ba prog C f29 [x0,x1] h=t101 C x0 x1 h:=
 eH (by kernel_rfl) (by kernel_rfl)
noncomputable def k131_5:aS:=codeK prog C (au f65 [1,1,1,1]) e h (cE f65) (cE f65) eT
noncomputable def b131_7:aS:=if i=0 then (k131_5 C) e h else eT i e h
noncomputable def t131 (C:aj) (x0 x1:Value) (h:ad):aS:=
 ab (some (.slice none 0 0,h)) fun y4 h=>ab (some (x0,h)) fun y8 h=>ab (some (x1,h)) fun y9 h=>ab (C 62 [y8,y9] h) fun y10 h=>ab (some (y10,h)) fun y5 h=>ab (some (y5,h)) fun y11 h=>ab (pu (aC prog .eql 3 y11 (.int .i64 (-1))) h) fun y12 h=>(match y12 with
 | .bool true=>ab (some (x0,h)) fun y13 h=>ab (some (y13,h)) fun y4_1 h=>some (y4_1,h)
 | .bool false=>ab (some (y5,h)) fun y14 h=>ab (pu (aC prog .add 3 y14 (.int .i64 1)) h) fun y15 h=>ab (some (y15,h)) fun y6 h=>dj (iter (codeA prog C (au f65 [1,1,1,0,1,0,0])) aB (aL 42 (up (bs [x0,x1]) [(4,y4),(5,y5),(6,y6),(8,y8),(9,y9),(10,y10),(11,y11),(12,y12),(14,y14),(15,y15)])) h) (cE f65) (b131_7 C)
 |_=>none)
noncomputable def sg (_:aj) (x:fK) (h:ad):aS:=
 ab (some (x 0,h)) fun y36 h=>ab (some (x 5,h)) fun y37 h=>ab (pu (iw 39 y36 (some y37) none none) h) fun y38 h=>ab (clrR (.agg gI) 39 y38 h) fun _ h=>ab (some (x 0,h)) fun y39 h=>ab (some (x 5,h)) fun y40 h=>ab (pu (iw 39 y39 none (some y40) none) h) fun y41 h=>ab (some (y41,h)) fun y4 h=>some (y4,h)
noncomputable def jG:fB:=
 ab (some (x 6,h)) fun y16 h=>ab (some (x 0,h)) fun y17 h=>ab (pu (lenL y17) h) fun y18 h=>ab (pu (aC prog .lss 3 y16 y18) h) fun y19 h=>(match y19 with
 | .bool true=>ab (some (x 0,h)) fun y22 h=>ab (some (x 6,h)) fun y23 h=>ab (pu (idxS 39 y22 y23) h) fun y24 h=>ab (cx 39 y24 h) fun y25 h=>ab (dB kr h) fun y7 h=>ab (eo 39 y7 y25 h) fun _ h=>ab (some (x 1,h)) fun y26 h=>ab (cx 39 y7 h) fun y27 h=>ab (callA prog C y26 [y27] h) fun y28 h=>ab (pu (unA .not y28) h) fun y29 h=>(match y29 with
 | .bool true=>ab (some (x 0,h)) fun y30 h=>ab (some (x 5,h)) fun y31 h=>ab (cx 39 y7 h) fun y32 h=>ab (pu (idxS 39 y30 y31) h) fun y33 h=>ab (eo 39 y33 y32 h) fun _ h=>ab (some (x 5,h)) fun y34 h=>ab (pu (aC prog .add 3 y34 (.int .i64 1)) h) fun y35 h=>ab (some (y35,h)) fun y5 h=>ab (some (x 6,h)) fun y20 h=>ab (pu (aC prog .add 3 y20 (.int .i64 1)) h) fun y21 h=>ab (some (y21,h)) fun y6 h=>some (.normal,(aL 42 (up x [(5,y5),(6,y6),(7,y7),(16,y16),(17,y17),(18,y18),(19,y19),(20,y20),(21,y21),(22,y22),(23,y23),(24,y24),(25,y25),(26,y26),(27,y27),(28,y28),(29,y29),(30,y30),(31,y31),(32,y32),(33,y33),(34,y34),(35,y35)])),h)
 | .bool false=>ab (some (x 6,h)) fun y20 h=>ab (pu (aC prog .add 3 y20 (.int .i64 1)) h) fun y21 h=>ab (some (y21,h)) fun y6 h=>some (.normal,(aL 42 (up x [(6,y6),(7,y7),(16,y16),(17,y17),(18,y18),(19,y19),(20,y20),(21,y21),(22,y22),(23,y23),(24,y24),(25,y25),(26,y26),(27,y27),(28,y28),(29,y29)])),h)
 |_=>none)
 | .bool false=>some (.exit 0,(aL 42 (up x [(16,y16),(17,y17),(18,y18),(19,y19)])),h)
 |_=>none)
theorem t131_eq (C:aj) (x0 x1:Value) (h:ad):ba prog C f65 [x0,x1] h=t131 C x0 x1 h:=
 eH (by kernel_rfl) (by kernel_rfl)
theorem Az:k131_5 C (aL 42 x) h=sg C x h:=
 qM (T:=sg C) (fun x h=>by kernel_rfl) x h
theorem rV:codeA prog C (au f65 [1,1,1,0,1,0,0]) (aL 42 x) h=jG C x h:=
 aE (T:=jG C) (fun x h=>by kernel_rfl) x h
noncomputable def b152_1 (_:aj) (i:Nat) (e:aW) (h:ad):aS:=if i=0 then (cE f92) e h else eT i e h
noncomputable def t152 (C:aj) (x0 x1 x2:Value) (h:ad):aS:=
 ab (some (.int .i64 0,h)) fun y4 h=>dj (iter (codeA prog C (au f92 [1,0,0])) aB (aL 31 (up (bs [x0,x1,x2]) [(4,y4)])) h) (cE f92) (b152_1 C)
noncomputable def pG:fB:=
 ab (some (x 4,h)) fun y6 h=>ab (ld1 (x 1) h) fun y7 h=>ab (pu (lenL y7) h) fun y8 h=>ab (pu (aC prog .lss 3 y6 y8) h) fun y9 h=>(match y9 with
 | .bool true=>ab (ld1 (x 2) h) fun y13 h=>ab (ld1 (x 1) h) fun y14 h=>ab (some (x 4,h)) fun y15 h=>ab (pu (iw 39 y14 (some y15) none none) h) fun y16 h=>ab (pu (lenL y16) h) fun y17 h=>ab (pu (minmax false y13 [y17]) h) fun y18 h=>ab (some (y18,h)) fun y5 h=>ab (some (x 0,h)) fun y19 h=>ab (ld1 (x 1) h) fun y20 h=>ab (some (x 4,h)) fun y21 h=>ab (some (x 4,h)) fun y22 h=>ab (some (y5,h)) fun y23 h=>ab (pu (aC prog .add 3 y22 y23) h) fun y24 h=>ab (some (x 4,h)) fun y25 h=>ab (some (y5,h)) fun y26 h=>ab (pu (aC prog .add 3 y25 y26) h) fun y27 h=>ab (pu (iw 39 y20 (some y21) (some y24) (some y27)) h) fun y28 h=>ab (callA prog C y19 [y28] h) fun y29 h=>ab (pu (unA .not y29) h) fun y30 h=>
 (match y30 with
 | .bool true=>some (.ret,(aL 31 (up x [(5,y5),(6,y6),(7,y7),(8,y8),(9,y9),(13,y13),(14,y14),(15,y15),(16,y16),(17,y17),(18,y18),(19,y19),(20,y20),(21,y21),(22,y22),(23,y23),(24,y24),(25,y25),(26,y26),(27,y27),(28,y28),(29,y29),(30,y30)])),h)
 | .bool false=>ab (some (x 4,h)) fun y10 h=>ab (ld1 (x 2) h) fun y11 h=>ab (pu (aC prog .add 3 y10 y11) h) fun y12 h=>ab (some (y12,h)) fun y4 h=>some (.normal,(aL 31 (up x [(4,y4),(5,y5),(6,y6),(7,y7),(8,y8),(9,y9),(10,y10),(11,y11),(12,y12),(13,y13),(14,y14),(15,y15),(16,y16),(17,y17),(18,y18),(19,y19),(20,y20),(21,y21),(22,y22),(23,y23),(24,y24),(25,y25),(26,y26),(27,y27),(28,y28),(29,y29),(30,y30)])),h)
 |_=>none)
 | .bool false=>some (.exit 0,(aL 31 (up x [(6,y6),(7,y7),(8,y8),(9,y9)])),h)
 |_=>none)
theorem t152_eq (C:aj) (x0 x1 x2:Value) (h:ad):ba prog C f92 [x0,x1,x2] h=t152 C x0 x1 x2 h:=
 eH (by kernel_rfl) (by kernel_rfl)
theorem yS:codeA prog C (au f92 [1,0,0]) (aL 31 x) h=pG C x h:=
 aE (T:=pG C) (fun x h=>by kernel_rfl) x h
noncomputable def k103_7:aS:=codeK prog C (au f31 [1,1,1,1,1,1]) e h (cE f31) (cE f31) eT
noncomputable def b103_9:aS:=if i=0 then (k103_7 C) e h else eT i e h
noncomputable def t103 (C:aj) (x0 x1:Value) (h:ad):aS:=
 ab (box x1 h) fun y3 h=>ab (some (.slice none 0 0,h)) fun y4 h=>ab (some (x0,h)) fun y8 h=>ab (pu (aH y3 42) h) fun y9 h=>ab (ld1 y9 h) fun y10 h=>ab (C 21 [y8,y10] h) fun y11 h=>ab (pu (aH y3 43) h) fun y12 h=>ab (ld1 y12 h) fun y13 h=>ab (pu (unA .not y13) h) fun y14 h=>(match y14 with
 | .bool true=>ab (some (.slice none 0 0,h)) fun y4_1 h=>some (y4_1,h)
 | .bool false=>ab (some (x0,h)) fun y15 h=>ab (pu (aH y3 7) h) fun y16 h=>ab (ld1 y16 h) fun y17 h=>ab (pu (aH y3 8) h) fun y18 h=>ab (ld1 y18 h) fun y19 h=>ab (C 18 [y15,y17,y19] h) fun y20 h=>ab (some (.func (.func 66) #[] #[y3],h)) fun y21 h=>ab (C 65 [y20,y21] h) fun y22 h=>ab (some (y22,h)) fun y5 h=>ab (dB [.slice none 0 0] h) fun y6 h=>ab (some (y5,h)) fun y23 h=>ab (C 68 [y23,.int .i64 64] h) fun y24 h=>
 endN (codeA prog C (au f31 [1,1,1,1,1,0,1,0]) (aL 33 (up (bs [x0,x1]) [(3,y3),(4,y4),(5,y5),(6,y6),(8,y8),(9,y9),(10,y10),(11,y11),(12,y12),(13,y13),(14,y14),(15,y15),(16,y16),(17,y17),(18,y18),(19,y19),(20,y20),(21,y21),(22,y22),(23,y23),(24,y24)])) h) (k103_7 C) (cE f31) (b103_9 C)
 |_=>none)
noncomputable def rz (_:aj) (x:fK) (h:ad):aS:=
 ab (ld1 (x 6) h) fun y32 h=>ab (some (y32,h)) fun y4 h=>some (y4,h)
noncomputable def kQ (_:aj) (x:fK) (h:ad):fB:=
 ab (some (x 25,h)) fun y7 h=>some (.normal,(aL 33 (up x [(7,y7)])),h)
noncomputable def ff:fB:=
 let g12_0:=h
 ab (ld1 (x 6) g12_0) fun y26 g12_1=>ab (cx 116 (x 3) g12_1) fun y27 g12_2=>ab (some (x 7,g12_2)) fun y28 g12_3=>ab (C 61 [y27,y28,.bool false] g12_3) fun y29 g12_4=>ab (cg 116 (.agg wF) 1 [(0,y29)] g12_4) fun y30 g12_5=>ab (appendA 116 352 y26 y30 g12_5) fun y31 g12_6=>ab (eo 1 (x 6) y31 g12_6) fun _ g12_7=>(match (bF true (ld1 (x 6) g12_4) y26&&true) with
 |true=>let h:=g12_7
 some (.normal,(aL 33 (up x [(26,y26),(27,y27),(28,y28),(29,y29),(30,y30),(31,y31)])),h)
 |false=>none)
theorem t103_eq (C:aj) (x0 x1:Value) (h:ad):ba prog C f31 [x0,x1] h=t103 C x0 x1 h:=
 eH (by kernel_rfl) (by kernel_rfl)
theorem Ah:k103_7 C (aL 33 x) h=rz C x h:=
 qM (T:=rz C) (fun x h=>by kernel_rfl) x h
theorem oI:codeA prog C (rgA (au f31 [1,1,1,1,1,0,1,0])) (aL 33 x) h=kQ C x h:=
 aE (T:=kQ C) (fun x h=>by kernel_rfl) x h
theorem oJ:codeA prog C (rgB (au f31 [1,1,1,1,1,0,1,0])) (aL 33 x) h=ff C x h:=
 aE (T:=ff C) (fun x h=>by kernel_rfl) x h
end
section
variable (C:aj) (i:Nat) (x:fK) (e:aW) (h:ad)
noncomputable def ry (_:aj) (x:fK) (h:ad):fB:=
 ab (box (x 0) h) fun y2 h=>ab (box (x 1) h) fun y3 h=>ab (some (.nilFunc,h)) fun y4 h=>some (.normal,(aL 9 (up x [(2,y2),(3,y3),(4,y4)])),h)
noncomputable def nR (_:aj) (x:fK) (h:ad):fB:=
 ab (ld1 (x 3) h) fun y5 h=>ab (pu (aC prog .lss 3 y5 (.int .i64 1)) h) fun y6 h=>some (.normal,(aL 9 (up x [(5,y5),(6,y6)])),h)
noncomputable def oR (_:aj) (x:fK) (h:ad):fB:=
 ab (some (.func (.func 92) #[] #[x 2,x 3],h)) fun y8 h=>ab (some (y8,h)) fun y4 h=>some (.ret,(aL 9 (up x [(4,y4),(8,y8)])),h)
theorem AS:codeA prog C (au f68 [0]) (aL 9 x) h=ry C x h:=
 aE (T:=ry C) (fun x h=>by kernel_rfl) x h
theorem wT:codeA prog C (au f68 [1,0,0]) (aL 9 x) h=nR C x h:=
 aE (T:=nR C) (fun x h=>by kernel_rfl) x h
theorem pY:codeA prog C (au f68 [1,1]) (aL 9 x) h=oR C x h:=
 aE (T:=oR C) (fun x h=>by kernel_rfl) x h
end
section
variable (C:aj) (i:Nat) (x:fK) (e:aW) (h:ad)
noncomputable def t16 (C:aj) (x0 x1:Value) (h:ad):aS:=
 ab (some (.slice none 0 0,h)) fun _ h=>ab (some (.int .i64 0,h)) fun _ h=>ab (cg 39 (.agg gI) 0 [] h) fun y9 h=>ab (some (x0,h)) fun y10 h=>ab (appendA 39 88 y9 y10 h) fun y11 h=>ab (some (x1,h)) fun y12 h=>ab (appendA 39 88 y11 y12 h) fun y13 h=>ab (C 26 [y13] h) fun y14 h=>ab (some (y14,h)) fun y8 h=>ab (pu (extractA y8 0) h) fun y15 h=>ab (pu (extractA y8 1) h) fun y16 h=>ab (some (y15,h)) fun y6 h=>ab (some (y16,h)) fun y7 h=>ab (some (y7,h)) fun y17 h=>ab (pu (aC prog .neq 26 y17 (.int .i64 0)) h) fun y18 h=>(match y18 with
 | .bool true=>ab (some (x0,h)) fun y19 h=>ab (some (y7,h)) fun y20 h=>ab (some (y19,h)) fun y4_1 h=>ab (some (y20,h)) fun y5_1 h=>some (.tuple #[y4_1,y5_1],h)
 | .bool false=>ab (some (y6,h)) fun y21 h=>ab (some (y21,h)) fun y4_1 h=>ab (some (.int .i64 0,h)) fun y5_1 h=>some (.tuple #[y4_1,y5_1],h)
 |_=>none)
theorem t16_eq (C:aj) (x0 x1:Value) (h:ad):ba prog C f7 [x0,x1] h=t16 C x0 x1 h:=
 eH (by kernel_rfl) (by kernel_rfl)
noncomputable def k52_2:aS:=codeK prog C (au f26 [1,1,1]) e h (cE f26) (cE f26) eT
noncomputable def b52_4:aS:=if i=0 then (k52_2 C) e h else eT i e h
noncomputable def BJ:fB:=codeK prog C (au f26 [1,1,0,1,0,0,1,1]) e h (fun e h=>some (Ex.normal,e,h)) (fun e h=>some (Ex.ret,e,h)) (fun i e h=>some (Ex.exit i,e,h))
noncomputable def b52_9:fB:=if i=1 then (BJ C) e h else (fun i e h=>some (Ex.exit i,e,h)) i e h
noncomputable def k52_16:fB:=codeK prog C (au f26 [1,1,0,1,0,0,1,0,0,1,1,1,1]) e h (BJ C) (fun e h=>some (Ex.ret,e,h)) (b52_9 C)
noncomputable def b52_17:fB:=if i=2 then (k52_16 C) e h else (b52_9 C) i e h
noncomputable def t52 (C:aj) (x0:Value) (h:ad):aS:=
 ab (some (.slice none 0 0,h)) fun y2 h=>ab (some (.int .i64 0,h)) fun y3 h=>ab (cg 39 (.agg gI) 0 [] h) fun y7 h=>ab (some (y7,h)) fun y4 h=>ab (some (.int .i64 0,h)) fun y5 h=>dj (iter (codeA prog C (au f26 [1,1,0,1,0,0])) aB (aL 76 (up (bs [x0]) [(2,y2),(3,y3),(4,y4),(5,y5),(7,y7)])) h) (cE f26) (b52_4 C)
noncomputable def yl (_:aj) (x:fK) (h:ad):aS:=
 ab (some (x 4,h)) fun y75 h=>ab (some (y75,h)) fun y2 h=>ab (some (.int .i64 0,h)) fun y3 h=>some (.tuple #[y2,y3],h)
noncomputable def od:fB:=
 ab (some (x 5,h)) fun y8 h=>ab (some (x 0,h)) fun y9 h=>ab (pu (lenL y9) h) fun y10 h=>ab (pu (aC prog .lss 3 y8 y10) h) fun y11 h=>(match y11 with
 | .bool true=>ab (some (x 0,h)) fun y14 h=>ab (some (x 5,h)) fun y15 h=>ab (pu (idxS 39 y14 y15) h) fun y16 h=>ab (cx 39 y16 h) fun y17 h=>ab (C 36 [y17] h) fun y18 h=>ab (pu (unA .not y18) h) fun y19 h=>(match y19 with
 | .bool true=>ab (some (.slice none 0 0,h)) fun y2 h=>ab (some (.int .i64 2,h)) fun y3 h=>some (.ret,(aL 76 (up x [(2,y2),(3,y3),(8,y8),(9,y9),(10,y10),(11,y11),(14,y14),(15,y15),(16,y16),(17,y17),(18,y18),(19,y19)])),h)
 | .bool false=>ab (some (x 0,h)) fun y20 h=>ab (some (x 5,h)) fun y21 h=>ab (pu (idxS 39 y20 y21) h) fun y22 h=>ab (cx 39 y22 h) fun y23 h=>ab (some (x 0,h)) fun y24 h=>ab (C 60 [y23,y24] h) fun y25 h=>(match y25 with
 | .bool true=>ab (some (x 5,h)) fun y12 h=>ab (pu (aC prog .add 3 y12 (.int .i64 1)) h) fun y13 h=>ab (some (y13,h)) fun y5 h=>some (.normal,(aL 76 (up x [(5,y5),(8,y8),(9,y9),(10,y10),(11,y11),(12,y12),(13,y13),(14,y14),(15,y15),(16,y16),(17,y17),(18,y18),(19,y19),(20,y20),(21,y21),(22,y22),(23,y23),(24,y24),(25,y25)])),h)
 | .bool false=>ab (some (.int .i64 0,h)) fun y6 h=>dj (iter (codeA prog C (au f26 [1,1,0,1,0,0,1,0,0,1,1,1,0,0,0])) aB (aL 76 (up x [(6,y6),(8,y8),(9,y9),(10,y10),(11,y11),(14,y14),(15,y15),(16,y16),(17,y17),(18,y18),(19,y19),(20,y20),(21,y21),(22,y22),(23,y23),(24,y24),(25,y25)])) h) (fun e h=>some (Ex.ret,e,h)) (b52_17 C)
 |_=>none)
 |_=>none)
 | .bool false=>some (.exit 0,(aL 76 (up x [(8,y8),(9,y9),(10,y10),(11,y11)])),h)
 |_=>none)
noncomputable def tp (_:aj) (x:fK) (h:ad):fB:=
 ab (some (x 5,h)) fun y12 h=>ab (pu (aC prog .add 3 y12 (.int .i64 1)) h) fun y13 h=>ab (some (y13,h)) fun y5 h=>some (.normal,(aL 76 (up x [(5,y5),(12,y12),(13,y13)])),h)
noncomputable def uR:fB:=
 ab (some (x 6,h)) fun y45 h=>ab (some (x 4,h)) fun y46 h=>ab (pu (lenL y46) h) fun y47 h=>ab (pu (aC prog .lss 3 y45 y47) h) fun y48 h=>ab (some (y48,h)) fun y49 h=>ab (ai (aR y49==some true) (some (x 4,h)) h) fun y50 h=>ab (ai (aR y49==some true) (some (x 6,h)) h) fun y51 h=>ab (ai (aR y49==some true) (pu (idxS 39 y50 y51) h) h) fun y52 h=>ab (ai (aR y49==some true) (cx 39 y52 h) h) fun y53 h=>ab (ai (aR y49==some true) (some (x 0,h)) h) fun y54 h=>ab (ai (aR y49==some true) (some (x 5,h)) h) fun y55 h=>ab (ai (aR y49==some true) (pu (idxS 39 y54 y55) h) h) fun y56 h=>ab (ai (aR y49==some true) (cx 39 y56 h) h) fun y57 h=>
 ab (ai (aR y49==some true) (pu (aC prog .eql 66 y53 y57) h) h) fun y58 h=>ab (match y49 with | .bool t=>some (if t then y58 else (.bool false),h)|_=>none) fun y59 h=>(match y59 with
 | .bool true=>b52_9 C 1 (aL 76 (up x [(45,y45),(46,y46),(47,y47),(48,y48),(49,y49),(50,y50),(51,y51),(52,y52),(53,y53),(54,y54),(55,y55),(56,y56),(57,y57),(58,y58),(59,y59)])) h
 | .bool false=>let g20_0:=h
 ab (some (x 4,g20_0)) fun y61 g20_1=>ab (some (x 6,g20_1)) fun y62 g20_2=>ab (pu (iw 39 y61 none (some y62) none) g20_2) fun y63 g20_3=>ab (some (x 0,g20_3)) fun y65 g20_4=>ab (some (x 5,g20_4)) fun y66 g20_5=>ab (pu (idxS 39 y65 y66) g20_5) fun y67 g20_6=>ab (cx 39 y67 g20_6) fun y68 g20_7=>ab (some (x 4,g20_7)) fun y71 g20_8=>ab (some (x 6,g20_8)) fun y72 g20_9=>ab (pu (iw 39 y71 (some y72) none none) g20_9) fun y73 g20_10=>ab (cg 39 (.agg gI) 0 [] g20_10) fun y60 g20_11=>ab (appendA 39 88 y60 y63 g20_11) fun y64 g20_12=>ab (cg 39 (.agg gI) 1 [(0,y68)] g20_12) fun y69 g20_13=>ab (appendA 39 88 y64 y69 g20_13) fun y70 g20_14=>ab (appendA 39 88 y70 y73 g20_14) fun y74 g20_15=>
 ab (some (y74,g20_15)) fun y4 g20_16=>(match (bF true (cx 39 y67 g20_12) y68&&true) with
 |true=>let h:=g20_16
 BJ C (aL 76 (up x [(4,y4),(45,y45),(46,y46),(47,y47),(48,y48),(49,y49),(50,y50),(51,y51),(52,y52),(53,y53),(54,y54),(55,y55),(56,y56),(57,y57),(58,y58),(59,y59),(60,y60),(61,y61),(62,y62),(63,y63),(64,y64),(65,y65),(66,y66),(67,y67),(68,y68),(69,y69),(70,y70),(71,y71),(72,y72),(73,y73),(74,y74)])) h
 |false=>none)
 |_=>none)
noncomputable def fI:fB:=
 let g23_0:=h
 ab (some (x 6,g23_0)) fun y26 g23_1=>ab (some (x 4,g23_1)) fun y27 g23_2=>ab (pu (lenL y27) g23_2) fun y28 g23_3=>ab (pu (aC prog .lss 3 y26 y28) g23_3) fun y29 g23_4=>ab (some (y29,g23_4)) fun y30 g23_5=>ab (ai (aR y30==some true) (some (x 4,g23_5)) g23_5) fun y31 g23_6=>ab (ai (aR y30==some true) (some (x 6,g23_6)) g23_6) fun y32 g23_7=>ab (ai (aR y30==some true) (pu (idxS 39 y31 y32) g23_7) g23_7) fun y33 g23_8=>ab (ai (aR y30==some true) (cx 39 y33 g23_8) g23_8) fun y34 g23_9=>ab (ai (aR y30==some true) (C 34 [y34] g23_9) g23_9) fun y35 g23_10=>ab (ai (aR y30==some true) (some (x 0,g23_10)) g23_10) fun y36 g23_11=>ab (ai (aR y30==some true) (some (x 5,g23_11)) g23_11) fun y37 g23_12=>
 ab (ai (aR y30==some true) (pu (idxS 39 y36 y37) g23_12) g23_12) fun y38 g23_13=>ab (ai (aR y30==some true) (cx 39 y38 g23_13) g23_13) fun y39 g23_14=>ab (ai (aR y30==some true) (C 34 [y39] g23_14) g23_14) fun y40 g23_15=>ab (ai (aR y30==some true) (pu (aC prog .lss 9 y35 y40) g23_15) g23_15) fun y41 g23_16=>ab (match y30 with | .bool t=>some (if t then y41 else (.bool false),g23_16)|_=>none) fun y42 g23_17=>(match (bF (aR y30==some true) (cx 39 y38 g23_9) y39&&true) with
 |true=>let h:=g23_17
 (match y42 with
 | .bool true=>ab (some (x 6,h)) fun y43 h=>ab (pu (aC prog .add 3 y43 (.int .i64 1)) h) fun y44 h=>ab (some (y44,h)) fun y6 h=>some (.normal,(aL 76 (up x [(6,y6),(26,y26),(27,y27),(28,y28),(29,y29),(30,y30),(31,y31),(32,y32),(33,y33),(34,y34),(35,y35),(36,y36),(37,y37),(38,y38),(39,y39),(40,y40),(41,y41),(42,y42),(43,y43),(44,y44)])),h)
 | .bool false=>some (.exit 2,(aL 76 (up x [(26,y26),(27,y27),(28,y28),(29,y29),(30,y30),(31,y31),(32,y32),(33,y33),(34,y34),(35,y35),(36,y36),(37,y37),(38,y38),(39,y39),(40,y40),(41,y41),(42,y42)])),h)
 |_=>none)
 |false=>none)
theorem t52_eq (C:aj) (x0:Value) (h:ad):ba prog C f26 [x0] h=t52 C x0 h:=
 eH (by kernel_rfl) (by kernel_rfl)
theorem t52k52_2_eq:k52_2 C (aL 76 x) h=yl C x h:=
 qM (T:=yl C) (fun x h=>by kernel_rfl) x h
theorem xf:codeA prog C (au f26 [1,1,0,1,0,0]) (aL 76 x) h=od C x h:=
 aE (T:=od C) (fun x h=>by kernel_rfl) x h
theorem pw:BJ C (aL 76 x) h=tp C x h:=
 fN (b:=(au f26 [1,1,0,1,0,0,1,1])) (kE:=(fun e h=>some (Ex.normal,e,h))) (rE:=(fun e h=>some (Ex.ret,e,h))) (xE:=(fun i e h=>some (Ex.exit i,e,h))) (T:=tp C) (fun x h=>by kernel_rfl) x h
theorem C9:k52_16 C (aL 76 x) h=uR C x h:=
 fN (b:=(au f26 [1,1,0,1,0,0,1,0,0,1,1,1,1])) (kE:=(BJ C)) (rE:=(fun e h=>some (Ex.ret,e,h))) (xE:=(b52_9 C)) (T:=uR C) (fun x h=>by kernel_rfl) x h
theorem mJ:codeA prog C (au f26 [1,1,0,1,0,0,1,0,0,1,1,1,0,0,0]) (aL 76 x) h=fI C x h:=
 aE (T:=fI C) (fun x h=>by kernel_rfl) x h
noncomputable def k105_1:aS:=codeK prog C (au f60 [1,1]) e h (cE f60) (cE f60) eT
noncomputable def b105_3:aS:=if i=0 then (k105_1 C) e h else eT i e h
noncomputable def t105 (C:aj) (x0 x1:Value) (h:ad):aS:=
 ab (box x0 h) fun y2 h=>ab (some (.bool false,h)) fun y4 h=>ab (some (.int .i64 0,h)) fun y5 h=>dj (iter (codeA prog C (au f60 [1,0,1,0,0])) aB (aL 61 (up (bs [x0,x1]) [(2,y2),(4,y4),(5,y5)])) h) (cE f60) (b105_3 C)
noncomputable def rP (_:aj) (_:fK) (h:ad):aS:=
 ab (some (.bool false,h)) fun y4 h=>some (y4,h)
noncomputable def mn:fB:=
 ab (some (x 5,h)) fun y7 h=>ab (some (x 1,h)) fun y8 h=>ab (pu (lenL y8) h) fun y9 h=>ab (pu (aC prog .lss 3 y7 y9) h) fun y10 h=>(match y10 with
 | .bool true=>ab (some (x 1,h)) fun y13 h=>ab (some (x 5,h)) fun y14 h=>ab (pu (idxS 39 y13 y14) h) fun y15 h=>ab (cx 39 y15 h) fun y16 h=>ab (dB kr h) fun y6 h=>ab (eo 39 y6 y16 h) fun _ h=>ab (cx 39 y6 h) fun y17 h=>ab (cx 39 (x 2) h) fun y18 h=>ab (C 89 [y17,y18] h) fun y19 h=>ab (some (y19,h)) fun y20 h=>ab (ai (aR y20==some false) (pu (aH (x 2) 0) h) h) fun y21 h=>ab (ai (aR y20==some false) (ld1 y21 h) h) fun y22 h=>ab (ai (aR y20==some false) (pu (aC prog .eql 64 y22 (.int .u8 3)) h) h) fun y23 h=>ab (ai (aR y20==some false) (some (y23,h)) h) fun y24 h=>ab (ai (aR y24==some true) (pu (aH y6 0) h) h) fun y25 h=>ab (ai (aR y24==some true) (ld1 y25 h) h) fun y26 h=>
 ab (ai (aR y24==some true) (pu (aC prog .eql 64 y26 (.int .u8 1)) h) h) fun y27 h=>ab (ai (aR y20==some false) (match y24 with | .bool t=>some (if t then y27 else (.bool false),h)|_=>none) h) fun y28 h=>ab (ai (aR y20==some false) (some (y28,h)) h) fun y29 h=>ab (ai (aR y29==some true) (pu (aH y6 33) h) h) fun y30 h=>ab (ai (aR y29==some true) (ld1 y30 h) h) fun y31 h=>ab (ai (aR y29==some true) (pu (aH (x 2) 33) h) h) fun y32 h=>ab (ai (aR y29==some true) (ld1 y32 h) h) fun y33 h=>ab (ai (aR y29==some true) (pu (aC prog .eql 3 y31 y33) h) h) fun y34 h=>ab (ai (aR y20==some false) (match y29 with | .bool t=>some (if t then y34 else (.bool false),h)|_=>none) h) fun y35 h=>
 ab (ai (aR y20==some false) (some (y35,h)) h) fun y36 h=>ab (ai (aR y36==some true) (pu (aH y6 34) h) h) fun y37 h=>ab (ai (aR y36==some true) (ld1 y37 h) h) fun y38 h=>ab (ai (aR y36==some true) (pu (aH (x 2) 34) h) h) fun y39 h=>ab (ai (aR y36==some true) (ld1 y39 h) h) fun y40 h=>ab (ai (aR y36==some true) (pu (aC prog .gtr 32 y38 y40) h) h) fun y41 h=>ab (ai (aR y20==some false) (match y36 with | .bool t=>some (if t then y41 else (.bool false),h)|_=>none) h) fun y42 h=>ab (match y20 with | .bool t=>some (if t then (.bool true) else y42,h)|_=>none) fun y43 h=>ab (some (y43,h)) fun y44 h=>ab (ai (aR y44==some false) (pu (aH (x 2) 0) h) h) fun y45 h=>
 ab (ai (aR y44==some false) (ld1 y45 h) h) fun y46 h=>ab (ai (aR y44==some false) (pu (aC prog .eql 64 y46 (.int .u8 3)) h) h) fun y47 h=>ab (ai (aR y44==some false) (some (y47,h)) h) fun y48 h=>ab (ai (aR y48==some true) (pu (aH y6 0) h) h) fun y49 h=>ab (ai (aR y48==some true) (ld1 y49 h) h) fun y50 h=>ab (ai (aR y48==some true) (pu (aC prog .eql 64 y50 (.int .u8 2)) h) h) fun y51 h=>ab (ai (aR y44==some false) (match y48 with | .bool t=>some (if t then y51 else (.bool false),h)|_=>none) h) fun y52 h=>ab (ai (aR y44==some false) (some (y52,h)) h) fun y53 h=>ab (ai (aR y53==some true) (pu (aH y6 1) h) h) fun y54 h=>ab (ai (aR y53==some true) (cx 32 y54 h) h) fun y55 h=>
 ab (ai (aR y53==some true) (pu (aH (x 2) 1) h) h) fun y56 h=>ab (ai (aR y53==some true) (cx 32 y56 h) h) fun y57 h=>ab (ai (aR y53==some true) (pu (aC prog .eql 36 y55 y57) h) h) fun y58 h=>ab (ai (aR y44==some false) (match y53 with | .bool t=>some (if t then y58 else (.bool false),h)|_=>none) h) fun y59 h=>ab (match y44 with | .bool t=>some (if t then (.bool true) else y59,h)|_=>none) fun y60 h=>(match y60 with
 | .bool true=>ab (some (.bool true,h)) fun y4 h=>some (.ret,(aL 61 (up x [(4,y4),(6,y6),(7,y7),(8,y8),(9,y9),(10,y10),(13,y13),(14,y14),(15,y15),(16,y16),(17,y17),(18,y18),(19,y19),(20,y20),(21,y21),(22,y22),(23,y23),(24,y24),(25,y25),(26,y26),(27,y27),(28,y28),(29,y29),(30,y30),(31,y31),(32,y32),(33,y33),(34,y34),(35,y35),(36,y36),(37,y37),(38,y38),(39,y39),(40,y40),(41,y41),(42,y42),(43,y43),(44,y44),(45,y45),(46,y46),(47,y47),(48,y48),(49,y49),(50,y50),(51,y51),(52,y52),(53,y53),(54,y54),(55,y55),(56,y56),(57,y57),(58,y58),(59,y59),(60,y60)])),h)
 | .bool false=>ab (some (x 5,h)) fun y11 h=>ab (pu (aC prog .add 3 y11 (.int .i64 1)) h) fun y12 h=>ab (some (y12,h)) fun y5 h=>some (.normal,(aL 61 (up x [(5,y5),(6,y6),(7,y7),(8,y8),(9,y9),(10,y10),(11,y11),(12,y12),(13,y13),(14,y14),(15,y15),(16,y16),(17,y17),(18,y18),(19,y19),(20,y20),(21,y21),(22,y22),(23,y23),(24,y24),(25,y25),(26,y26),(27,y27),(28,y28),(29,y29),(30,y30),(31,y31),(32,y32),(33,y33),(34,y34),(35,y35),(36,y36),(37,y37),(38,y38),(39,y39),(40,y40),(41,y41),(42,y42),(43,y43),(44,y44),(45,y45),(46,y46),(47,y47),(48,y48),(49,y49),(50,y50),(51,y51),(52,y52),(53,y53),(54,y54),(55,y55),(56,y56),(57,y57),(58,y58),(59,y59),(60,y60)])),h)
 |_=>none)
 | .bool false=>some (.exit 0,(aL 61 (up x [(7,y7),(8,y8),(9,y9),(10,y10)])),h)
 |_=>none)
theorem t105_eq (C:aj) (x0 x1:Value) (h:ad):ba prog C f60 [x0,x1] h=t105 C x0 x1 h:=
 eH (by kernel_rfl) (by kernel_rfl)
theorem Ar:k105_1 C (aL 61 x) h=rP C x h:=
 qM (T:=rP C) (fun x h=>by kernel_rfl) x h
theorem vK:codeA prog C (au f60 [1,0,1,0,0]) (aL 61 x) h=mn C x h:=
 aE (T:=mn C) (fun x h=>by kernel_rfl) x h
end
noncomputable def t55 (C:aj) (x0:Value) (h:ad):aS:=
 ab (dB (List.replicate 32 (.int .u8 0)) h) fun y2 h=>ab (some (x0,h)) fun y4 h=>ab (pu (lenL y4) h) fun y5 h=>ab (pu (aC prog .eql 3 y5 (.int .i64 0)) h) fun y6 h=>(match y6 with
 | .bool true=>ab (C 69 [.slice none 0 0] h) fun y7 h=>ab (eo 32 y2 y7 h) fun _ h=>resultsA prog f33.results.toList (aL 27 (up (bs [x0]) [(2,y2),(4,y4),(5,y5),(6,y6),(7,y7)])) h
 | .bool false=>ab (some (x0,h)) fun y8 h=>ab (pu (lenL y8) h) fun y9 h=>ab (pu (aC prog .eql 3 y9 (.int .i64 1)) h) fun y10 h=>(match y10 with
 | .bool true=>ab (some (x0,h)) fun y11 h=>ab (pu (idxS 39 y11 (.int .i64 0)) h) fun y12 h=>ab (cx 39 y12 h) fun y13 h=>ab (C 70 [y13] h) fun y14 h=>ab (eo 32 y2 y14 h) fun _ h=>resultsA prog f33.results.toList (aL 27 (up (bs [x0]) [(2,y2),(4,y4),(5,y5),(6,y6),(8,y8),(9,y9),(10,y10),(11,y11),(12,y12),(13,y13),(14,y14)])) h
 | .bool false=>ab (some (x0,h)) fun y15 h=>ab (pu (lenL y15) h) fun y16 h=>ab (C 71 [y16] h) fun y17 h=>ab (some (y17,h)) fun y3 h=>ab (some (x0,h)) fun y18 h=>ab (some (y3,h)) fun y19 h=>ab (pu (iw 39 y18 none (some y19) none) h) fun y20 h=>ab (C 33 [y20] h) fun y21 h=>ab (some (x0,h)) fun y22 h=>ab (some (y3,h)) fun y23 h=>ab (pu (iw 39 y22 (some y23) none none) h) fun y24 h=>ab (C 33 [y24] h) fun y25 h=>ab (C 72 [y21,y25] h) fun y26 h=>ab (eo 32 y2 y26 h) fun _ h=>resultsA prog f33.results.toList (aL 27 (up (bs [x0]) [(2,y2),(3,y3),(4,y4),(5,y5),(6,y6),(8,y8),(9,y9),(10,y10),(15,y15),(16,y16),(17,y17),(18,y18),(19,y19),(20,y20),(21,y21),(22,y22),(23,y23),(24,y24),(25,y25),(26,y26)])) h
 |_=>none)
 |_=>none)
theorem t55_eq (C:aj) (x0:Value) (h:ad):ba prog C f33 [x0] h=t55 C x0 h:=
 eH (by kernel_rfl) (by kernel_rfl)
section
variable (C:aj) (i:Nat) (x:fK) (e:aW) (h:ad)
noncomputable def t58 (_:aj) (x0 x1 x2:Value) (h:ad):aS:=
 ab (some (.bool false,h)) fun _ h=>ab (some (x0,h)) fun y7 h=>ab (some (x1,h)) fun y8 h=>ab (pX y8 h) fun y9 h=>ab (pu (aC prog .geq 9 y7 y9) h) fun y10 h=>ab (some (y10,h)) fun y11 h=>ab (ai (aR y11==some true) (some (x2,h)) h) fun y12 h=>ab (ai (aR y11==some true) (pu (lenL y12) h) h) fun y13 h=>ab (ai (aR y11==some true) (pu (aC prog .eql 3 y13 (.int .i64 0)) h) h) fun y14 h=>ab (ai (aR y11==some true) (some (y14,h)) h) fun y15 h=>ab (ai (aR y15==some false) (some (x0,h)) h) fun y16 h=>ab (ai (aR y15==some false) (some (x2,h)) h) fun y17 h=>ab (ai (aR y15==some false) (pX y17 h) h) fun y18 h=>ab (ai (aR y15==some false) (pu (aC prog .lss 9 y16 y18) h) h) fun y19 h=>
 ab (ai (aR y11==some true) (match y15 with | .bool t=>some (if t then (.bool true) else y19,h)|_=>none) h) fun y20 h=>ab (match y11 with | .bool t=>some (if t then y20 else (.bool false),h)|_=>none) fun y21 h=>ab (some (y21,h)) fun y6_1 h=>some (y6_1,h)
theorem t58_eq (C:aj) (x0 x1 x2:Value) (h:ad):ba prog C f37 [x0,x1,x2] h=t58 C x0 x1 x2 h:=
 eH (by kernel_rfl) (by kernel_rfl)
noncomputable def k21_2:aS:=codeK prog C (au f32 [1,1,1]) e h (cE f32) (cE f32) eT
noncomputable def b21_4:aS:=if i=0 then (k21_2 C) e h else eT i e h
noncomputable def t21 (C:aj) (x0 x1 x2:Value) (h:ad):aS:=
 ab (some (.slice none 0 0,h)) fun y6 h=>ab (cg 39 (.agg gI) 0 [] h) fun y9 h=>ab (some (y9,h)) fun y7 h=>ab (some (.int .i64 0,h)) fun y8 h=>dj (iter (codeA prog C (au f32 [1,1,0,1,0,0])) aB (aL 32 (up (bs [x0,x1,x2]) [(6,y6),(7,y7),(8,y8),(9,y9)])) h) (cE f32) (b21_4 C)
noncomputable def zq (_:aj) (x:fK) (h:ad):aS:=
 ab (some (x 7,h)) fun y31 h=>ab (some (y31,h)) fun y6 h=>some (y6,h)
noncomputable def nW:fB:=
 ab (some (x 8,h)) fun y10 h=>ab (some (x 0,h)) fun y11 h=>ab (pu (lenL y11) h) fun y12 h=>ab (pu (aC prog .lss 3 y10 y12) h) fun y13 h=>(match y13 with
 | .bool true=>ab (some (x 0,h)) fun y16 h=>ab (some (x 8,h)) fun y17 h=>ab (pu (idxS 39 y16 y17) h) fun y18 h=>ab (cx 39 y18 h) fun y19 h=>ab (C 34 [y19] h) fun y20 h=>ab (some (x 1,h)) fun y21 h=>ab (some (x 2,h)) fun y22 h=>ab (C 37 [y20,y21,y22] h) fun y23 h=>(match y23 with
 | .bool true=>ab (some (x 7,h)) fun y24 h=>ab (some (x 0,h)) fun y25 h=>ab (some (x 8,h)) fun y26 h=>ab (pu (idxS 39 y25 y26) h) fun y27 h=>ab (cx 39 y27 h) fun y28 h=>ab (cg 39 (.agg gI) 1 [(0,y28)] h) fun y29 h=>ab (appendA 39 88 y24 y29 h) fun y30 h=>ab (some (y30,h)) fun y7 h=>ab (some (x 8,h)) fun y14 h=>ab (pu (aC prog .add 3 y14 (.int .i64 1)) h) fun y15 h=>ab (some (y15,h)) fun y8 h=>some (.normal,(aL 32 (up x [(7,y7),(8,y8),(10,y10),(11,y11),(12,y12),(13,y13),(14,y14),(15,y15),(16,y16),(17,y17),(18,y18),(19,y19),(20,y20),(21,y21),(22,y22),(23,y23),(24,y24),(25,y25),(26,y26),(27,y27),(28,y28),(29,y29),(30,y30)])),h)
 | .bool false=>ab (some (x 8,h)) fun y14 h=>ab (pu (aC prog .add 3 y14 (.int .i64 1)) h) fun y15 h=>ab (some (y15,h)) fun y8 h=>some (.normal,(aL 32 (up x [(8,y8),(10,y10),(11,y11),(12,y12),(13,y13),(14,y14),(15,y15),(16,y16),(17,y17),(18,y18),(19,y19),(20,y20),(21,y21),(22,y22),(23,y23)])),h)
 |_=>none)
 | .bool false=>some (.exit 0,(aL 32 (up x [(10,y10),(11,y11),(12,y12),(13,y13)])),h)
 |_=>none)
theorem t21_eq (C:aj) (x0 x1 x2:Value) (h:ad):ba prog C f32 [x0,x1,x2] h=t21 C x0 x1 x2 h:=
 eH (by kernel_rfl) (by kernel_rfl)
theorem t21k21_2_eq:k21_2 C (aL 32 x) h=zq C x h:=
 qM (T:=zq C) (fun x h=>by kernel_rfl) x h
theorem wR:codeA prog C (au f32 [1,1,0,1,0,0]) (aL 32 x) h=nW C x h:=
 aE (T:=nW C) (fun x h=>by kernel_rfl) x h
noncomputable def t18 (C:aj) (x0 x1 x2:Value) (h:ad):aS:=
 ab (dB lF h) fun y6 h=>ab (some (x0,h)) fun y8 h=>ab (some (x1,h)) fun y9 h=>ab (some (x2,h)) fun y10 h=>ab (C 32 [y8,y9,y10] h) fun y11 h=>ab (some (y11,h)) fun y7 h=>ab (cg 1 (.int .u8 0) 0 [] h) fun y12 h=>ab (some (x1,h)) fun y13 h=>ab (appendA 1 1 y12 y13 h) fun y14 h=>ab (cg 1 (.int .u8 0) 0 [] h) fun y15 h=>ab (some (x2,h)) fun y16 h=>ab (appendA 1 1 y15 y16 h) fun y17 h=>ab (some (y7,h)) fun y18 h=>ab (pu (lenL y18) h) fun y19 h=>ab (some (y7,h)) fun y20 h=>ab (C 33 [y20] h) fun y21 h=>ab (pu (ei lF [(0,1,.int .u8 4),(7,1,y14),(8,1,y17),(9,1,y19),(10,32,y21)]) h) fun y22 h=>ab (eo 116 y6 y22 h) fun _ h=>
 resultsA prog f35.results.toList (aL 23 (up (bs [x0,x1,x2]) [(6,y6),(7,y7),(8,y8),(9,y9),(10,y10),(11,y11),(12,y12),(13,y13),(14,y14),(15,y15),(16,y16),(17,y17),(18,y18),(19,y19),(20,y20),(21,y21),(22,y22)])) h
theorem t18_eq (C:aj) (x0 x1 x2:Value) (h:ad):ba prog C f35 [x0,x1,x2] h=t18 C x0 x1 x2 h:=
 eH (by kernel_rfl) (by kernel_rfl)
end
end Go.Proofs.YtdnahgfgoajmcaaGreatDoor
