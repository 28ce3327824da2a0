/-
  A part of the proof, spaces and names shortened by a program (a claim may hold 1,500,000 bytes).
  Conditions: as each theorem states.
-/
import Derived.Test.YtcmfgmhadeeieaaG8
import Derived.Test.YtcmfgmhadeeieaaProg
import Derived.KernelRfl
namespace Go.Proofs.Ytcmfgmhadeeieaa
open Go Go.Abs
noncomputable def k9_8 (C:al) (e:Env) (h:ah):Out:=cB Try.prog C (partOf Try.f9 [1,1,1,1,1,1,1]) e h (au Try.prog Try.f9.results.toList) (au Try.prog Try.f9.results.toList) (fun _ _ _=>none)
noncomputable def b9_10 (C:al) (i:Nat) (e:Env) (h:ah):Out:=if i=0 then (k9_8 C) e h else (fun _ _ _=>none) i e h
noncomputable def k9_14 (C:al) (e:Env) (h:ah):Option (Ex×Env×ah):=cB Try.prog C (partOf Try.f9 [1,1,1,1,1,1,0,1,0,0,1,1]) e h (fun e h=>some (Ex.normal,e,h)) (fun e h=>some (Ex.ret,e,h)) (fun i e h=>some (Ex.exit i,e,h))
noncomputable def b9_15 (C:al) (i:Nat) (e:Env) (h:ah):Option (Ex×Env×ah):=if i=1 then (k9_14 C) e h else (fun i e h=>some (Ex.exit i,e,h)) i e h
noncomputable def k9_45 (C:al) (e:Env) (h:ah):Option (Ex×Env×ah):=cB Try.prog C (partOf Try.f9 [1,1,1,1,1,1,0,1,0,0,1,0,0,1,1,1,1,1,1,1,1,1,1,1,1,1,1,1,1,1]) e h (k9_14 C) (fun e h=>some (Ex.ret,e,h)) (b9_15 C)
noncomputable def b9_47 (C:al) (i:Nat) (e:Env) (h:ah):Option (Ex×Env×ah):=if i=2 then (k9_45 C) e h else (b9_15 C) i e h
noncomputable def t9 (C:al) (x0 x1:Value) (h:ah):Out:=
 ae (some ((.bool false),h)) fun y4 h=>
 ae (some (x0,h)) fun y25 h=>
 ae (pu (bin Try.prog .lss 3 y25 (.int .i64 4)) h) fun y26 h=>
 ae (some (y26,h)) fun y27 h=>
 ae (ao (aZ y27==some false) (some (x0,h)) h) fun y28 h=>
 ae (ao (aZ y27==some false) (pu (bin Try.prog .gtr 3 y28 (.int .i64 64)) h) h) fun y29 h=>
 ae (match y27 with | .bool t=>some (if t then (.bool true) else y29,h)|_=>none) fun y30 h=>
 ae (some (y30,h)) fun y31 h=>
 ae (ao (aZ y31==some false) (some (x1,h)) h) fun y32 h=>
 ae (ao (aZ y31==some false) (pu (cH y32) h) h) fun y33 h=>
 ae (ao (aZ y31==some false) (pu (bin Try.prog .gtr 3 y33 (.int .i64 12)) h) h) fun y34 h=>
 ae (match y31 with | .bool t=>some (if t then (.bool true) else y34,h)|_=>none) fun y35 h=>
 (match y35 with
 | .bool true=>
 ae (C 14 [] h) fun y36 h=>
 ae (some (y36,h)) fun y4_1 h=>
 some (y4_1,h)
 | .bool false=>
 ae (some (x0,h)) fun y38 h=>
 ae (C 18 [y38] h) fun y39 h=>
 ae (some (y39,h)) fun y37 h=>
 ae (pu (aD y37 0) h) fun y40 h=>
 ae (pu (aD y37 1) h) fun y41 h=>
 ae (some (y40,h)) fun y5 h=>
 ae (some (y41,h)) fun y6 h=>
 ae (some (x0,h)) fun y43 h=>
 ae (C 35 [y43] h) fun y44 h=>
 ae (some (y44,h)) fun y42 h=>
 ae (pu (aD y42 0) h) fun y45 h=>
 ae (pu (aD y42 1) h) fun y46 h=>
 ae (dB [(.slice none 0 0),(.bool false),(.bool false),(.int .i64 0),(.int .i64 0),(.int .i64 0)] h) fun y7 h=>
 ae (cf 6 y7 y45 h) fun _ h=>
 ae (some (y46,h)) fun y8 h=>
 ae (cX 1 (.slice none 0 0) 0 [] h) fun y47 h=>
 ae (cX 1 (.int .u8 0) 0 [] h) fun y48 h=>
 ae (some (y47,h)) fun y9 h=>
 ae (some (y48,h)) fun bM h=>
 ae (some ((.bool false),h)) fun bY h=>
 ae (some ((.int .u64 0),h)) fun bX h=>
 ae (some ((.int .i64 0),h)) fun bR h=>
 dD (iter (aI Try.prog C (partOf Try.f9 [1,1,1,1,1,1,0,1,0,0])) rounds (aY 230 (up (bs [x0,x1]) [(4,y4),(5,y5),(6,y6),(7,y7),(8,y8),(9,y9),(10,bM),(11,bY),(12,bX),(13,bR),(25,y25),(26,y26),(27,y27),(28,y28),(29,y29),(30,y30),(31,y31),(32,y32),(33,y33),(34,y34),(35,y35),(37,y37),(38,y38),(39,y39),(40,y40),(41,y41),(42,y42),(43,y43),(44,y44),(45,y45),(46,y46),(47,y47),(48,y48)])) h) (au Try.prog Try.f9.results.toList) (b9_10 C)
 |_=>none)
noncomputable def t9k9_8 (C:al) (x:Nat→Value) (h:ah):Out:=
 ae (C 14 [] h) fun y229 h=>
 ae (some (y229,h)) fun y4 h=>
 some (y4,h)
noncomputable def ey (C:al) (x:Nat→Value) (h:ah):Option (Ex×Env×ah):=
 ae (some ((x 13),h)) fun y49 h=>
 ae (some ((x 1),h)) fun y50 h=>
 ae (pu (cH y50) h) fun y51 h=>
 ae (pu (bin Try.prog .lss 3 y49 y51) h) fun y52 h=>
 (match y52 with
 | .bool true=>
 ae (some ((x 1),h)) fun y55 h=>
 ae (some ((x 13),h)) fun y56 h=>
 ae (pu (cd 4 y55 y56) h) fun y57 h=>
 ae (pu (aL y57 3) h) fun y58 h=>
 ae (ba y58 h) fun y59 h=>
 ae (pu (cH y59) h) fun y60 h=>
 ae (pu (bin Try.prog .gtr 3 y60 (.int .i64 20)) h) fun y61 h=>
 ae (some (y61,h)) fun y62 h=>
 ae (ao (aZ y62==some false) (some ((x 0),h)) h) fun y63 h=>
 ae (ao (aZ y62==some false) (some ((x 1),h)) h) fun y64 h=>
 ae (ao (aZ y62==some false) (some ((x 13),h)) h) fun y65 h=>
 ae (ao (aZ y62==some false) (pu (cd 4 y64 y65) h) h) fun y66 h=>
 ae (ao (aZ y62==some false) (pu (aL y66 3) h) h) fun y67 h=>
 ae (ao (aZ y62==some false) (ba y67 h) h) fun y68 h=>
 ae (ao (aZ y62==some false) (pu (fU [(.int .i64 0),(.int .i64 0),(.int .i64 0),(.int .u8 0),(.slice none 0 0),(.slice none 0 0)] [(5,1,y68)]) h) h) fun y69 h=>
 ae (ao (aZ y62==some false) (cX 6 (.agg #[(.int .i64 0),(.int .i64 0),(.int .i64 0),(.int .u8 0),(.slice none 0 0),(.slice none 0 0)]) 1 [(0,y69)] h) h) fun y70 h=>
 ae (ao (aZ y62==some false) (C 17 [y63,y70] h) h) fun y71 h=>
 ae (match y62 with | .bool t=>some (if t then (.bool true) else y71,h)|_=>none) fun y72 h=>
 (match y72 with
 | .bool true=>
 ae (C 14 [] h) fun y73 h=>
 ae (some (y73,h)) fun y4 h=>
 some (.ret,(aY 230 (up x [(4,y4),(49,y49),(50,y50),(51,y51),(52,y52),(55,y55),(56,y56),(57,y57),(58,y58),(59,y59),(60,y60),(61,y61),(62,y62),(63,y63),(64,y64),(65,y65),(66,y66),(67,y67),(68,y68),(69,y69),(70,y70),(71,y71),(72,y72),(73,y73)])),h)
 | .bool false=>
 ae (some ((x 5),h)) fun y74 h=>
 ae (C 33 [y74] h) fun y75 h=>
 ae (some ((x 5),h)) fun y77 h=>
 ae (C 21 [y77] h) fun y78 h=>
 ae (some (y78,h)) fun y76 h=>
 ae (pu (aD y76 0) h) fun y79 h=>
 ae (pu (aD y76 1) h) fun y80 h=>
 ae (pu (aD y76 2) h) fun y81 h=>
 ae (some (y79,h)) fun bQ h=>
 ae (some (y80,h)) fun y15 h=>
 ae (some (y81,h)) fun y16 h=>
 ae (some (y16,h)) fun y82 h=>
 ae (pu (bin Try.prog .neq 28 y82 (.int .i64 0)) h) fun y83 h=>
 ae (some (y83,h)) fun y84 h=>
 ae (ao (aZ y84==some false) (some ((x 5),h)) h) fun y85 h=>
 ae (ao (aZ y84==some false) (C 36 [y85] h) h) fun y86 h=>
 ae (match y84 with | .bool t=>some (if t then (.bool true) else y86,h)|_=>none) fun y87 h=>
 (match y87 with
 | .bool true=>
 ae (some ((.bool false),h)) fun y4 h=>
 some (.ret,(aY 230 (up x [(4,y4),(14,bQ),(15,y15),(16,y16),(49,y49),(50,y50),(51,y51),(52,y52),(55,y55),(56,y56),(57,y57),(58,y58),(59,y59),(60,y60),(61,y61),(62,y62),(63,y63),(64,y64),(65,y65),(66,y66),(67,y67),(68,y68),(69,y69),(70,y70),(71,y71),(72,y72),(74,y74),(75,y75),(76,y76),(77,y77),(78,y78),(79,y79),(80,y80),(81,y81),(82,y82),(83,y83),(84,y84),(85,y85),(86,y86),(87,y87)])),h)
 | .bool false=>
 ae (some (y15,h)) fun y88 h=>
 ae (C 30 [y88] h) fun y89 h=>
 ae (some (y89,h)) fun y17 h=>
 ae (some (y17,h)) fun y90 h=>
 ae (some ((x 9),h)) fun y91 h=>
 ae (C 29 [y90,y91] h) fun y92 h=>
 ae (pu (unA .not y92) h) fun y93 h=>
 ae (some (y93,h)) fun y94 h=>
 ae (ao (aZ y94==some true) (some ((x 11),h)) h) fun y95 h=>
 ae (ao (aZ y94==some true) (some (y95,h)) h) fun y96 h=>
 ae (ao (aZ y96==some true) (some (y17,h)) h) fun y97 h=>
 ae (ao (aZ y96==some true) (some ((x 9),h)) h) fun y98 h=>
 ae (ao (aZ y96==some true) (C 24 [y98] h) h) fun y99 h=>
 ae (ao (aZ y96==some true) (some ((x 10),h)) h) fun y100 h=>
 ae (ao (aZ y96==some true) (cX 1 (.slice none 0 0) 1 [(0,y100)] h) h) fun y101 h=>
 ae (ao (aZ y96==some true) (bo 1 24 y99 y101 h) h) fun y102 h=>
 ae (ao (aZ y96==some true) (C 29 [y97,y102] h) h) fun y103 h=>
 ae (ao (aZ y94==some true) (match y96 with | .bool t=>some (if t then y103 else (.bool false),h)|_=>none) h) fun y104 h=>
 ae (ao (aZ y94==some true) (pu (unA .not y104) h) h) fun y105 h=>
 ae (match y94 with | .bool t=>some (if t then y105 else (.bool false),h)|_=>none) fun y106 h=>
 (match y106 with
 | .bool true=>
 ae (some ((.bool false),h)) fun y4 h=>
 some (.ret,(aY 230 (up x [(4,y4),(14,bQ),(15,y15),(16,y16),(17,y17),(49,y49),(50,y50),(51,y51),(52,y52),(55,y55),(56,y56),(57,y57),(58,y58),(59,y59),(60,y60),(61,y61),(62,y62),(63,y63),(64,y64),(65,y65),(66,y66),(67,y67),(68,y68),(69,y69),(70,y70),(71,y71),(72,y72),(74,y74),(75,y75),(76,y76),(77,y77),(78,y78),(79,y79),(80,y80),(81,y81),(82,y82),(83,y83),(84,y84),(85,y85),(86,y86),(87,y87),(88,y88),(89,y89),(90,y90),(91,y91),(92,y92),(93,y93),(94,y94),(95,y95),(96,y96),(97,y97),(98,y98),(99,y99),(100,y100),(101,y101),(102,y102),(103,y103),(104,y104),(105,y105),(106,y106)])),h)
 | .bool false=>
 ae (some (y17,h)) fun y107 h=>
 ae (some (y107,h)) fun y9 h=>
 ae (some ((.bool false),h)) fun bY h=>
 ae (some ((x 5),h)) fun y109 h=>
 ae (C 25 [y109] h) fun y110 h=>
 ae (C 37 [y110] h) fun y111 h=>
 ae (some (y111,h)) fun y108 h=>
 ae (pu (aD y108 0) h) fun y112 h=>
 ae (pu (aD y108 1) h) fun y113 h=>
 ae (cf 6 (x 7) y112 h) fun _ h=>
 ae (ch 6 (x 7) h) fun y115 h=>
 ae (C 38 [y115] h) fun y116 h=>
 ae (some (y116,h)) fun y114 h=>
 ae (pu (aD y114 0) h) fun y117 h=>
 ae (pu (aD y114 1) h) fun y118 h=>
 ae (pu (aD y114 2) h) fun y119 h=>
 ae (pu (aD y114 3) h) fun y120 h=>
 ae (dB [(.slice none 0 0),(.bool false),(.bool false),(.int .i64 0),(.int .i64 0),(.int .i64 0)] h) fun cG h=>
 ae (dB [(.int .i64 0),(.int .i64 0),(.int .u64 0),(.int .i64 0),(.int .u64 0),(.bool false),(.int .i64 0),(.bool false)] h) fun cK h=>
 ae (cf 6 cG y117 h) fun _ h=>
 ae (cf 8 cK y118 h) fun _ h=>
 ae (some (y119,h)) fun y20 h=>
 ae (some (y120,h)) fun y21 h=>
 ae (some ((x 5),h)) fun y121 h=>
 ae (some ((x 1),h)) fun y122 h=>
 ae (some ((x 13),h)) fun y123 h=>
 ae (pu (cd 4 y122 y123) h) fun y124 h=>
 ae (ch 4 y124 h) fun y125 h=>
 ae (C 39 [y121,y125] h) fun y126 h=>
 ae (some ((x 5),h)) fun y127 h=>
 ae (C 25 [y127] h) fun y128 h=>
 ae (some (y128,h)) fun y22 h=>
 ae (some (bQ,h)) fun y130 h=>
 ae (some (y9,h)) fun y131 h=>
 ae (C 24 [y131] h) fun y132 h=>
 ae (C 23 [y130,y132] h) fun y133 h=>
 ae (some (y133,h)) fun y129 h=>
 ae (pu (aD y129 0) h) fun y134 h=>
 ae (pu (aD y129 1) h) fun y135 h=>
 ae (some (y135,h)) fun y16_1 h=>
 ae (ch 6 cG h) fun y137 h=>
 ae (ch 8 cK h) fun y138 h=>
 ae (some (y9,h)) fun y139 h=>
 ae (C 40 [y137,y138,y139] h) fun y140 h=>
 ae (some (y140,h)) fun y136 h=>
 ae (pu (aD y136 0) h) fun y141 h=>
 ae (pu (aD y136 1) h) fun y142 h=>
 ae (pu (aD y136 2) h) fun y143 h=>
 ae (pu (aD y136 3) h) fun y144 h=>
 ae (cf 6 cG y141 h) fun _ h=>
 ae (cf 8 cK y142 h) fun _ h=>
 ae (some (y16_1,h)) fun y145 h=>
 ae (pu (bin Try.prog .eql 28 y145 (.int .i64 9)) h) fun y146 h=>
 (match y146 with
 | .bool true=>
 let g39_0:=h
 ae (some (y22,g39_0)) fun y147 g39_1=>
 ae (pu (aL cG 0) g39_1) fun y148 g39_2=>
 ae (ba y148 g39_2) fun y149 g39_3=>
 ae (some ((x 5),g39_3)) fun y150 g39_4=>
 ae (C 25 [y150] g39_4) fun y151 g39_5=>
 ae (C 41 [y147,y149,y151] g39_5) fun y152 g39_6=>
 (match (cE true (ba y148 g39_5) y149&&true) with
 |true=>
 let h:=g39_6
 (match y152 with
 | .bool true=>
 ae (C 14 [] h) fun y153 h=>
 ae (some (y153,h)) fun y4 h=>
 some (.ret,(aY 230 (up x [(4,y4),(9,y9),(11,bY),(14,bQ),(15,y15),(16,y16_1),(17,y17),(18,cG),(19,cK),(20,y20),(21,y21),(22,y22),(49,y49),(50,y50),(51,y51),(52,y52),(55,y55),(56,y56),(57,y57),(58,y58),(59,y59),(60,y60),(61,y61),(62,y62),(63,y63),(64,y64),(65,y65),(66,y66),(67,y67),(68,y68),(69,y69),(70,y70),(71,y71),(72,y72),(74,y74),(75,y75),(76,y76),(77,y77),(78,y78),(79,y79),(80,y80),(81,y81),(82,y82),(83,y83),(84,y84),(85,y85),(86,y86),(87,y87),(88,y88),(89,y89),(90,y90),(91,y91),(92,y92),(93,y93),(94,y94),(95,y95),(96,y96),(97,y97),(98,y98),(99,y99),(100,y100),(101,y101),(102,y102),(103,y103),(104,y104),(105,y105),(106,y106),(107,y107),(108,y108),(109,y109),(110,y110),(111,y111),(112,y112),(113,y113),(114,y114),(115,y115),(116,y116),(117,y117),(118,y118),(119,y119),(120,y120),(121,y121),(122,y122),(123,y123),(124,y124),(125,y125),(126,y126),(127,y127),(128,y128),(129,y129),(130,y130),(131,y131),(132,y132),(133,y133),(134,y134),(135,y135),(136,y136),(137,y137),(138,y138),(139,y139),(140,y140),(141,y141),(142,y142),(143,y143),(144,y144),(145,y145),(146,y146),(147,y147),(148,y148),(149,y149),(150,y150),(151,y151),(152,y152),(153,y153)])),h)
 | .bool false=>
 ae (some ((x 13),h)) fun y53 h=>
 ae (pu (bin Try.prog .add 3 y53 (.int .i64 1)) h) fun y54 h=>
 ae (some (y54,h)) fun bR h=>
 some (.normal,(aY 230 (up x [(9,y9),(11,bY),(13,bR),(14,bQ),(15,y15),(16,y16_1),(17,y17),(18,cG),(19,cK),(20,y20),(21,y21),(22,y22),(49,y49),(50,y50),(51,y51),(52,y52),(53,y53),(54,y54),(55,y55),(56,y56),(57,y57),(58,y58),(59,y59),(60,y60),(61,y61),(62,y62),(63,y63),(64,y64),(65,y65),(66,y66),(67,y67),(68,y68),(69,y69),(70,y70),(71,y71),(72,y72),(74,y74),(75,y75),(76,y76),(77,y77),(78,y78),(79,y79),(80,y80),(81,y81),(82,y82),(83,y83),(84,y84),(85,y85),(86,y86),(87,y87),(88,y88),(89,y89),(90,y90),(91,y91),(92,y92),(93,y93),(94,y94),(95,y95),(96,y96),(97,y97),(98,y98),(99,y99),(100,y100),(101,y101),(102,y102),(103,y103),(104,y104),(105,y105),(106,y106),(107,y107),(108,y108),(109,y109),(110,y110),(111,y111),(112,y112),(113,y113),(114,y114),(115,y115),(116,y116),(117,y117),(118,y118),(119,y119),(120,y120),(121,y121),(122,y122),(123,y123),(124,y124),(125,y125),(126,y126),(127,y127),(128,y128),(129,y129),(130,y130),(131,y131),(132,y132),(133,y133),(134,y134),(135,y135),(136,y136),(137,y137),(138,y138),(139,y139),(140,y140),(141,y141),(142,y142),(143,y143),(144,y144),(145,y145),(146,y146),(147,y147),(148,y148),(149,y149),(150,y150),(151,y151),(152,y152)])),h)
 |_=>none)
 |false=>none)
 | .bool false=>
 ae (some (y16_1,h)) fun y154 h=>
 ae (pu (bin Try.prog .neq 28 y154 (.int .i64 0)) h) fun y155 h=>
 ae (some (y155,h)) fun y156 h=>
 ae (ao (aZ y156==some false) (some (bQ,h)) h) fun y157 h=>
 ae (ao (aZ y156==some false) (C 34 [y157] h) h) fun y158 h=>
 ae (ao (aZ y156==some false) (some ((x 12),h)) h) fun y159 h=>
 ae (ao (aZ y156==some false) (pu (bin Try.prog .leq 58 y158 y159) h) h) fun y160 h=>
 ae (match y156 with | .bool t=>some (if t then (.bool true) else y160,h)|_=>none) fun y161 h=>
 (match y161 with
 | .bool true=>
 ae (some ((.bool false),h)) fun y4 h=>
 some (.ret,(aY 230 (up x [(4,y4),(9,y9),(11,bY),(14,bQ),(15,y15),(16,y16_1),(17,y17),(18,cG),(19,cK),(20,y20),(21,y21),(22,y22),(49,y49),(50,y50),(51,y51),(52,y52),(55,y55),(56,y56),(57,y57),(58,y58),(59,y59),(60,y60),(61,y61),(62,y62),(63,y63),(64,y64),(65,y65),(66,y66),(67,y67),(68,y68),(69,y69),(70,y70),(71,y71),(72,y72),(74,y74),(75,y75),(76,y76),(77,y77),(78,y78),(79,y79),(80,y80),(81,y81),(82,y82),(83,y83),(84,y84),(85,y85),(86,y86),(87,y87),(88,y88),(89,y89),(90,y90),(91,y91),(92,y92),(93,y93),(94,y94),(95,y95),(96,y96),(97,y97),(98,y98),(99,y99),(100,y100),(101,y101),(102,y102),(103,y103),(104,y104),(105,y105),(106,y106),(107,y107),(108,y108),(109,y109),(110,y110),(111,y111),(112,y112),(113,y113),(114,y114),(115,y115),(116,y116),(117,y117),(118,y118),(119,y119),(120,y120),(121,y121),(122,y122),(123,y123),(124,y124),(125,y125),(126,y126),(127,y127),(128,y128),(129,y129),(130,y130),(131,y131),(132,y132),(133,y133),(134,y134),(135,y135),(136,y136),(137,y137),(138,y138),(139,y139),(140,y140),(141,y141),(142,y142),(143,y143),(144,y144),(145,y145),(146,y146),(154,y154),(155,y155),(156,y156),(157,y157),(158,y158),(159,y159),(160,y160),(161,y161)])),h)
 | .bool false=>
 ae (some (bQ,h)) fun y162 h=>
 ae (C 34 [y162] h) fun y163 h=>
 ae (some (y163,h)) fun bX h=>
 ae (some ((.int .i64 0),h)) fun de h=>
 dD (iter (aI Try.prog C (partOf Try.f9 [1,1,1,1,1,1,0,1,0,0,1,0,0,1,1,1,1,1,1,1,1,1,1,1,1,1,1,1,1,0,1,0,0])) rounds (aY 230 (up x [(9,y9),(11,bY),(12,bX),(14,bQ),(15,y15),(16,y16_1),(17,y17),(18,cG),(19,cK),(20,y20),(21,y21),(22,y22),(23,de),(49,y49),(50,y50),(51,y51),(52,y52),(55,y55),(56,y56),(57,y57),(58,y58),(59,y59),(60,y60),(61,y61),(62,y62),(63,y63),(64,y64),(65,y65),(66,y66),(67,y67),(68,y68),(69,y69),(70,y70),(71,y71),(72,y72),(74,y74),(75,y75),(76,y76),(77,y77),(78,y78),(79,y79),(80,y80),(81,y81),(82,y82),(83,y83),(84,y84),(85,y85),(86,y86),(87,y87),(88,y88),(89,y89),(90,y90),(91,y91),(92,y92),(93,y93),(94,y94),(95,y95),(96,y96),(97,y97),(98,y98),(99,y99),(100,y100),(101,y101),(102,y102),(103,y103),(104,y104),(105,y105),(106,y106),(107,y107),(108,y108),(109,y109),(110,y110),(111,y111),(112,y112),(113,y113),(114,y114),(115,y115),(116,y116),(117,y117),(118,y118),(119,y119),(120,y120),(121,y121),(122,y122),(123,y123),(124,y124),(125,y125),(126,y126),(127,y127),(128,y128),(129,y129),(130,y130),(131,y131),(132,y132),(133,y133),(134,y134),(135,y135),(136,y136),(137,y137),(138,y138),(139,y139),(140,y140),(141,y141),(142,y142),(143,y143),(144,y144),(145,y145),(146,y146),(154,y154),(155,y155),(156,y156),(157,y157),(158,y158),(159,y159),(160,y160),(161,y161),(162,y162),(163,y163)])) h) (fun e h=>some (Ex.ret,e,h)) (b9_47 C)
 |_=>none)
 |_=>none)
 |_=>none)
 |_=>none)
 |_=>none)
 | .bool false=>
 some (.exit 0,(aY 230 (up x [(49,y49),(50,y50),(51,y51),(52,y52)])),h)
 |_=>none)
noncomputable def t9k9_14 (C:al) (x:Nat→Value) (h:ah):Option (Ex×Env×ah):=
 ae (some ((x 13),h)) fun y53 h=>
 ae (pu (bin Try.prog .add 3 y53 (.int .i64 1)) h) fun y54 h=>
 ae (some (y54,h)) fun bR h=>
 some (.normal,(aY 230 (up x [(13,bR),(53,y53),(54,y54)])),h)
noncomputable def t9k9_45 (C:al) (x:Nat→Value) (h:ah):Option (Ex×Env×ah):=
 ae (some ((x 5),h)) fun y227 h=>
 ae (C 32 [y227] h) fun y228 h=>
 k9_14 C (aY 230 (up x [(227,y227),(228,y228)])) h
noncomputable def bC (C:al) (x:Nat→Value) (h:ah):Option (Ex×Env×ah):=
 ae (some ((x 23),h)) fun y164 h=>
 ae (some ((x 1),h)) fun y165 h=>
 ae (some ((x 13),h)) fun y166 h=>
 ae (pu (cd 4 y165 y166) h) fun y167 h=>
 ae (pu (aL y167 3) h) fun y168 h=>
 ae (ba y168 h) fun y169 h=>
 ae (pu (cH y169) h) fun y170 h=>
 ae (pu (bin Try.prog .lss 3 y164 y170) h) fun y171 h=>
 (match y171 with
 | .bool true=>
 ae (some ((x 1),h)) fun y174 h=>
 ae (some ((x 13),h)) fun y175 h=>
 ae (pu (cd 4 y174 y175) h) fun y176 h=>
 ae (pu (aL y176 3) h) fun y177 h=>
 ae (ba y177 h) fun y178 h=>
 ae (some ((x 23),h)) fun y179 h=>
 ae (pu (cd 1 y178 y179) h) fun y180 h=>
 ae (ba y180 h) fun y181 h=>
 ae (some (y181,h)) fun y24 h=>
 ae (some ((x 5),h)) fun y182 h=>
 ae (C 25 [y182] h) fun y183 h=>
 ae (some (y183,h)) fun y22 h=>
 ae (some ((x 14),h)) fun y185 h=>
 ae (cX 1 (.int .u8 0) 0 [] h) fun y186 h=>
 ae (some (y24,h)) fun y187 h=>
 ae (bo 1 1 y186 y187 h) fun y188 h=>
 ae (C 27 [y185,y188] h) fun y189 h=>
 ae (some (y189,h)) fun y184 h=>
 ae (pu (aD y184 0) h) fun y190 h=>
 ae (pu (aD y184 1) h) fun y191 h=>
 ae (some (y191,h)) fun y16 h=>
 ae (ch 6 (x 18) h) fun y193 h=>
 ae (ch 8 (x 19) h) fun y194 h=>
 ae (some (y24,h)) fun y195 h=>
 ae (C 42 [y193,y194,y195] h) fun y196 h=>
 ae (some (y196,h)) fun y192 h=>
 ae (pu (aD y192 0) h) fun y197 h=>
 ae (pu (aD y192 1) h) fun y198 h=>
 ae (pu (aD y192 2) h) fun y199 h=>
 ae (pu (aD y192 3) h) fun y200 h=>
 ae (cf 6 (x 18) y197 h) fun _ h=>
 ae (cf 8 (x 19) y198 h) fun _ h=>
 ae (some (y16,h)) fun y201 h=>
 ae (pu (bin Try.prog .eql 28 y201 (.int .i64 0)) h) fun y202 h=>
 (match y202 with
 | .bool true=>
 ae (some ((x 9),h)) fun y203 h=>
 ae (cX 1 (.int .u8 0) 0 [] h) fun y204 h=>
 ae (some (y24,h)) fun y205 h=>
 ae (bo 1 1 y204 y205 h) fun y206 h=>
 ae (cX 1 (.slice none 0 0) 1 [(0,y206)] h) fun y207 h=>
 ae (bo 1 24 y203 y207 h) fun y208 h=>
 ae (some (y208,h)) fun y9 h=>
 ae (some ((x 23),h)) fun y172 h=>
 ae (pu (bin Try.prog .add 3 y172 (.int .i64 1)) h) fun y173 h=>
 ae (some (y173,h)) fun de h=>
 some (.normal,(aY 230 (up x [(9,y9),(16,y16),(22,y22),(23,de),(24,y24),(164,y164),(165,y165),(166,y166),(167,y167),(168,y168),(169,y169),(170,y170),(171,y171),(172,y172),(173,y173),(174,y174),(175,y175),(176,y176),(177,y177),(178,y178),(179,y179),(180,y180),(181,y181),(182,y182),(183,y183),(184,y184),(185,y185),(186,y186),(187,y187),(188,y188),(189,y189),(190,y190),(191,y191),(192,y192),(193,y193),(194,y194),(195,y195),(196,y196),(197,y197),(198,y198),(199,y199),(200,y200),(201,y201),(202,y202),(203,y203),(204,y204),(205,y205),(206,y206),(207,y207),(208,y208)])),h)
 | .bool false=>
 ae (some (y16,h)) fun y209 h=>
 ae (pu (bin Try.prog .eql 28 y209 (.int .i64 9)) h) fun y210 h=>
 (match y210 with
 | .bool true=>
 let g63_0:=h
 ae (some (y22,g63_0)) fun y211 g63_1=>
 ae (pu (aL (x 18) 0) g63_1) fun y212 g63_2=>
 ae (ba y212 g63_2) fun y213 g63_3=>
 ae (some ((x 5),g63_3)) fun y214 g63_4=>
 ae (C 25 [y214] g63_4) fun y215 g63_5=>
 ae (C 41 [y211,y213,y215] g63_5) fun y216 g63_6=>
 (match (cE true (ba y212 g63_5) y213&&true) with
 |true=>
 let h:=g63_6
 (match y216 with
 | .bool true=>
 ae (C 14 [] h) fun y217 h=>
 ae (some (y217,h)) fun y4 h=>
 some (.ret,(aY 230 (up x [(4,y4),(16,y16),(22,y22),(24,y24),(164,y164),(165,y165),(166,y166),(167,y167),(168,y168),(169,y169),(170,y170),(171,y171),(174,y174),(175,y175),(176,y176),(177,y177),(178,y178),(179,y179),(180,y180),(181,y181),(182,y182),(183,y183),(184,y184),(185,y185),(186,y186),(187,y187),(188,y188),(189,y189),(190,y190),(191,y191),(192,y192),(193,y193),(194,y194),(195,y195),(196,y196),(197,y197),(198,y198),(199,y199),(200,y200),(201,y201),(202,y202),(209,y209),(210,y210),(211,y211),(212,y212),(213,y213),(214,y214),(215,y215),(216,y216),(217,y217)])),h)
 | .bool false=>
 ae (cX 1 (.int .u8 0) 0 [] h) fun y218 h=>
 ae (some (y24,h)) fun y219 h=>
 ae (bo 1 1 y218 y219 h) fun y220 h=>
 ae (some ((.bool true),h)) fun bY h=>
 ae (some (y220,h)) fun bM h=>
 some (.exit 2,(aY 230 (up x [(10,bM),(11,bY),(16,y16),(22,y22),(24,y24),(164,y164),(165,y165),(166,y166),(167,y167),(168,y168),(169,y169),(170,y170),(171,y171),(174,y174),(175,y175),(176,y176),(177,y177),(178,y178),(179,y179),(180,y180),(181,y181),(182,y182),(183,y183),(184,y184),(185,y185),(186,y186),(187,y187),(188,y188),(189,y189),(190,y190),(191,y191),(192,y192),(193,y193),(194,y194),(195,y195),(196,y196),(197,y197),(198,y198),(199,y199),(200,y200),(201,y201),(202,y202),(209,y209),(210,y210),(211,y211),(212,y212),(213,y213),(214,y214),(215,y215),(216,y216),(218,y218),(219,y219),(220,y220)])),h)
 |_=>none)
 |false=>none)
 | .bool false=>
 ae (some (y16,h)) fun y221 h=>
 ae (pu (bin Try.prog .neq 28 y221 (.int .i64 3)) h) fun y222 h=>
 ae (some (y222,h)) fun y223 h=>
 ae (ao (aZ y223==some true) (some (y16,h)) h) fun y224 h=>
 ae (ao (aZ y223==some true) (pu (bin Try.prog .neq 28 y224 (.int .i64 8)) h) h) fun y225 h=>
 ae (match y223 with | .bool t=>some (if t then y225 else (.bool false),h)|_=>none) fun y226 h=>
 (match y226 with
 | .bool true=>
 ae (some ((.bool false),h)) fun y4 h=>
 some (.ret,(aY 230 (up x [(4,y4),(16,y16),(22,y22),(24,y24),(164,y164),(165,y165),(166,y166),(167,y167),(168,y168),(169,y169),(170,y170),(171,y171),(174,y174),(175,y175),(176,y176),(177,y177),(178,y178),(179,y179),(180,y180),(181,y181),(182,y182),(183,y183),(184,y184),(185,y185),(186,y186),(187,y187),(188,y188),(189,y189),(190,y190),(191,y191),(192,y192),(193,y193),(194,y194),(195,y195),(196,y196),(197,y197),(198,y198),(199,y199),(200,y200),(201,y201),(202,y202),(209,y209),(210,y210),(221,y221),(222,y222),(223,y223),(224,y224),(225,y225),(226,y226)])),h)
 | .bool false=>
 ae (some ((x 23),h)) fun y172 h=>
 ae (pu (bin Try.prog .add 3 y172 (.int .i64 1)) h) fun y173 h=>
 ae (some (y173,h)) fun de h=>
 some (.normal,(aY 230 (up x [(16,y16),(22,y22),(23,de),(24,y24),(164,y164),(165,y165),(166,y166),(167,y167),(168,y168),(169,y169),(170,y170),(171,y171),(172,y172),(173,y173),(174,y174),(175,y175),(176,y176),(177,y177),(178,y178),(179,y179),(180,y180),(181,y181),(182,y182),(183,y183),(184,y184),(185,y185),(186,y186),(187,y187),(188,y188),(189,y189),(190,y190),(191,y191),(192,y192),(193,y193),(194,y194),(195,y195),(196,y196),(197,y197),(198,y198),(199,y199),(200,y200),(201,y201),(202,y202),(209,y209),(210,y210),(221,y221),(222,y222),(223,y223),(224,y224),(225,y225),(226,y226)])),h)
 |_=>none)
 |_=>none)
 |_=>none)
 | .bool false=>
 some (.exit 2,(aY 230 (up x [(164,y164),(165,y165),(166,y166),(167,y167),(168,y168),(169,y169),(170,y170),(171,y171)])),h)
 |_=>none)
theorem t9_eq (C:al) (x0 x1:Value) (h:ah):bw Try.prog C Try.f9 [x0,x1] h=t9 C x0 x1 h:=
 (aK Try.prog C Try.f9 [x0,x1] h (by kernel_rfl)).trans (by kernel_rfl)
theorem t9k9_8_eq (C:al) (x:Nat→Value) (h:ah):k9_8 C (aY 230 x) h=t9k9_8 C x h:=
 bt (b:=(partOf Try.f9 [1,1,1,1,1,1,1])) (kE:=(au Try.prog Try.f9.results.toList)) (rE:=(au Try.prog Try.f9.results.toList)) (xE:=(fun _ _ _=>none)) (T:=t9k9_8 C) (fun x h=>by kernel_rfl) x h
theorem t9l9_111111010_eq (C:al) (x:Nat→Value) (h:ah):aI Try.prog C (partOf Try.f9 [1,1,1,1,1,1,0,1,0,0]) (aY 230 x) h=ey C x h:=
 bj (T:=ey C) (fun x h=>by kernel_rfl) x h
theorem t9k9_14_eq (C:al) (x:Nat→Value) (h:ah):k9_14 C (aY 230 x) h=t9k9_14 C x h:=
 bt (b:=(partOf Try.f9 [1,1,1,1,1,1,0,1,0,0,1,1])) (kE:=(fun e h=>some (Ex.normal,e,h))) (rE:=(fun e h=>some (Ex.ret,e,h))) (xE:=(fun i e h=>some (Ex.exit i,e,h))) (T:=t9k9_14 C) (fun x h=>by kernel_rfl) x h
theorem t9k9_45_eq (C:al) (x:Nat→Value) (h:ah):k9_45 C (aY 230 x) h=t9k9_45 C x h:=
 bt (b:=(partOf Try.f9 [1,1,1,1,1,1,0,1,0,0,1,0,0,1,1,1,1,1,1,1,1,1,1,1,1,1,1,1,1,1])) (kE:=(k9_14 C)) (rE:=(fun e h=>some (Ex.ret,e,h))) (xE:=(b9_15 C)) (T:=t9k9_45 C) (fun x h=>by kernel_rfl) x h
theorem fP (C:al) (x:Nat→Value) (h:ah):aI Try.prog C (partOf Try.f9 [1,1,1,1,1,1,0,1,0,0,1,0,0,1,1,1,1,1,1,1,1,1,1,1,1,1,1,1,1,0,1,0,0]) (aY 230 x) h=bC C x h:=
 bj (T:=bC C) (fun x h=>by kernel_rfl) x h
end Go.Proofs.Ytcmfgmhadeeieaa

