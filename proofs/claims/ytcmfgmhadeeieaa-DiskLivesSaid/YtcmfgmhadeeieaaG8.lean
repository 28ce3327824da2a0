/-
  A part of the proof, spaces and names shortened by a program (a claim may hold 1,500,000 bytes).
  Conditions: as each theorem states.
-/
import Derived.Test.YtcmfgmhadeeieaaG7
import Derived.Test.YtcmfgmhadeeieaaProg
import Derived.KernelRfl
namespace Go.Proofs.Ytcmfgmhadeeieaa
open Go Go.Abs
noncomputable def t35 (_C:al) (x0:Value) (h:ah):Out:=
 ae (dB [(.slice none 0 0),(.bool false),(.bool false),(.int .i64 0),(.int .i64 0),(.int .i64 0)] h) fun y2 h=>
 ae (some ((.int .i64 0),h)) fun _y3 h=>
 ae (some (x0,h)) fun y4 h=>
 ae (pu (bin Try.prog .lss 3 y4 (.int .i64 4)) h) fun y5 h=>
 ae (some (y5,h)) fun y6 h=>
 ae (ao (aZ y6==some false) (some (x0,h)) h) fun y7 h=>
 ae (ao (aZ y6==some false) (pu (bin Try.prog .gtr 3 y7 (.int .i64 4096)) h) h) fun y8 h=>
 ae (match y6 with | .bool t=>some (if t then (.bool true) else y8,h)|_=>none) fun y9 h=>
 (match y9 with
 | .bool true=>
 ae (pu (fU [(.slice none 0 0),(.bool false),(.bool false),(.int .i64 0),(.int .i64 0),(.int .i64 0)] []) h) fun bM h=>
 ae (cf 6 y2 bM h) fun _ h=>
 ae (some ((.int .i64 2),h)) fun y3_1 h=>
 au Try.prog Try.f35.results.toList (aY 15 (up (bs [x0]) [(2,y2),(3,y3_1),(4,y4),(5,y5),(6,y6),(7,y7),(8,y8),(9,y9),(10,bM)])) h
 | .bool false=>
 ae (some (x0,h)) fun bY h=>
 ae (pu (bin Try.prog .mul 3 (.int .i64 128) bY) h) fun bX h=>
 ae (mkR 1 1 (.int .u8 0) bX bX h) fun bR h=>
 ae (pu (fU [(.slice none 0 0),(.bool false),(.bool false),(.int .i64 0),(.int .i64 0),(.int .i64 0)] [(0,1,bR)]) h) fun bQ h=>
 ae (cf 6 y2 bQ h) fun _ h=>
 ae (some ((.int .i64 0),h)) fun y3_1 h=>
 au Try.prog Try.f35.results.toList (aY 15 (up (bs [x0]) [(2,y2),(3,y3_1),(4,y4),(5,y5),(6,y6),(7,y7),(8,y8),(9,y9),(11,bY),(12,bX),(13,bR),(14,bQ)])) h
 |_=>none)
theorem t35_eq (C:al) (x0:Value) (h:ah):bw Try.prog C Try.f35 [x0] h=t35 C x0 h:=
 (aK Try.prog C Try.f35 [x0] h (by kernel_rfl)).trans (by kernel_rfl)
noncomputable def t37 (_C:al) (x0:Value) (h:ah):Out:=
 ae (dB [(.slice none 0 0),(.bool false),(.bool false),(.int .i64 0),(.int .i64 0),(.int .i64 0)] h) fun y2 h=>
 ae (some ((.int .i64 0),h)) fun _y3 h=>
 ae (some (x0,h)) fun y4 h=>
 ae (pu (cH y4) h) fun y5 h=>
 ae (pu (bin Try.prog .rem 3 y5 (.int .i64 128)) h) fun y6 h=>
 ae (pu (bin Try.prog .neq 3 y6 (.int .i64 0)) h) fun y7 h=>
 ae (some (y7,h)) fun y8 h=>
 ae (ao (aZ y8==some false) (some (x0,h)) h) fun y9 h=>
 ae (ao (aZ y8==some false) (pu (cH y9) h) h) fun bM h=>
 ae (ao (aZ y8==some false) (pu (bin Try.prog .lss 3 bM (.int .i64 512)) h) h) fun bY h=>
 ae (match y8 with | .bool t=>some (if t then (.bool true) else bY,h)|_=>none) fun bX h=>
 ae (some (bX,h)) fun bR h=>
 ae (ao (aZ bR==some false) (some (x0,h)) h) fun bQ h=>
 ae (ao (aZ bR==some false) (pu (cH bQ) h) h) fun y15 h=>
 ae (ao (aZ bR==some false) (pu (bin Try.prog .gtr 3 y15 (.int .i64 524288)) h) h) fun y16 h=>
 ae (match bR with | .bool t=>some (if t then (.bool true) else y16,h)|_=>none) fun y17 h=>
 (match y17 with
 | .bool true=>
 ae (pu (fU [(.slice none 0 0),(.bool false),(.bool false),(.int .i64 0),(.int .i64 0),(.int .i64 0)] []) h) fun cG h=>
 ae (cf 6 y2 cG h) fun _ h=>
 ae (some ((.int .i64 2),h)) fun y3_1 h=>
 au Try.prog Try.f37.results.toList (aY 23 (up (bs [x0]) [(2,y2),(3,y3_1),(4,y4),(5,y5),(6,y6),(7,y7),(8,y8),(9,y9),(10,bM),(11,bY),(12,bX),(13,bR),(14,bQ),(15,y15),(16,y16),(17,y17),(18,cG)])) h
 | .bool false=>
 ae (cX 1 (.int .u8 0) 0 [] h) fun cK h=>
 ae (some (x0,h)) fun y20 h=>
 ae (bo 1 1 cK y20 h) fun y21 h=>
 ae (pu (fU [(.slice none 0 0),(.bool false),(.bool false),(.int .i64 0),(.int .i64 0),(.int .i64 0)] [(0,1,y21)]) h) fun y22 h=>
 ae (cf 6 y2 y22 h) fun _ h=>
 ae (some ((.int .i64 0),h)) fun y3_1 h=>
 au Try.prog Try.f37.results.toList (aY 23 (up (bs [x0]) [(2,y2),(3,y3_1),(4,y4),(5,y5),(6,y6),(7,y7),(8,y8),(9,y9),(10,bM),(11,bY),(12,bX),(13,bR),(14,bQ),(15,y15),(16,y16),(17,y17),(19,cK),(20,y20),(21,y21),(22,y22)])) h
 |_=>none)
theorem t37_eq (C:al) (x0:Value) (h:ah):bw Try.prog C Try.f37 [x0] h=t37 C x0 h:=
 (aK Try.prog C Try.f37 [x0] h (by kernel_rfl)).trans (by kernel_rfl)
noncomputable def t38 (C:al) (x0:Value) (h:ah):Out:=
 ae (box x0 h) fun y1 h=>
 ae (dB [(.slice none 0 0),(.bool false),(.bool false),(.int .i64 0),(.int .i64 0),(.int .i64 0)] h) fun y2 h=>
 ae (dB [(.int .i64 0),(.int .i64 0),(.int .u64 0),(.int .i64 0),(.int .u64 0),(.bool false),(.int .i64 0),(.bool false)] h) fun y3 h=>
 ae (some ((.slice none 0 0),h)) fun _y4 h=>
 ae (some ((.int .i64 0),h)) fun _y5 h=>
 ae (pu (aL y1 1) h) fun y8 h=>
 ae (ba y8 h) fun y9 h=>
 (match y9 with
 | .bool true=>
 ae (ch 6 y1 h) fun bM h=>
 ae (pu (fU [(.int .i64 0),(.int .i64 0),(.int .u64 0),(.int .i64 0),(.int .u64 0),(.bool false),(.int .i64 0),(.bool false)] [(7,1,(.bool true))]) h) fun bY h=>
 ae (cf 6 y2 bM h) fun _ h=>
 ae (cf 8 y3 bY h) fun _ h=>
 ae (some ((.slice none 0 0),h)) fun y4_1 h=>
 ae (some ((.int .i64 9),h)) fun y5_1 h=>
 au Try.prog Try.f38.results.toList (aY 34 (up (bs [x0]) [(1,y1),(2,y2),(3,y3),(4,y4_1),(5,y5_1),(8,y8),(9,y9),(10,bM),(11,bY)])) h
 | .bool false=>
 ae (pu (aL y1 5) h) fun bX h=>
 ae (ba bX h) fun bR h=>
 ae (pu (bin Try.prog .add 3 bR (.int .i64 1)) h) fun bQ h=>
 ae (pu (aL y1 5) h) fun y15 h=>
 ae (cf 1 y15 bQ h) fun _ h=>
 ae (ch 6 y1 h) fun y17 h=>
 ae (C 65 [y17] h) fun cG h=>
 ae (some (cG,h)) fun y16 h=>
 ae (pu (aD y16 0) h) fun cK h=>
 ae (pu (aD y16 1) h) fun y20 h=>
 ae (dB [(.bool false),(.int .u64 0),(.int .i64 0)] h) fun y7 h=>
 ae (some (cK,h)) fun y6 h=>
 ae (cf 3 y7 y20 h) fun _ h=>
 let g7_0:=h
 ae (ch 6 y1 g7_0) fun y21 g7_1=>
 ae (pu (aL y1 5) g7_1) fun y22 g7_2=>
 ae (ba y22 g7_2) fun de g7_3=>
 ae (some (y6,g7_3)) fun y24 g7_4=>
 ae (pu (aL y7 1) g7_4) fun y25 g7_5=>
 ae (ba y25 g7_5) fun y26 g7_6=>
 ae (pu (aL y7 2) g7_6) fun y27 g7_7=>
 ae (ba y27 g7_7) fun y28 g7_8=>
 ae (ch 6 y1 g7_8) fun y29 g7_9=>
 ae (C 66 [y29] g7_9) fun y30 g7_10=>
 ae (pu (fU [(.int .i64 0),(.int .i64 0),(.int .u64 0),(.int .i64 0),(.int .u64 0),(.bool false),(.int .i64 0),(.bool false)] [(0,1,de),(1,1,y24),(2,1,y26),(3,1,y28),(4,1,y30)]) g7_10) fun y31 g7_11=>
 ae (ch 6 y1 g7_11) fun y32 g7_12=>
 ae (C 67 [y32] g7_12) fun y33 g7_13=>
 ae (cf 6 y2 y21 g7_13) fun _ g7_14=>
 ae (cf 8 y3 y31 g7_14) fun _ g7_15=>
 ae (some (y33,g7_15)) fun y4_1 g7_16=>
 ae (some ((.int .i64 0),g7_16)) fun y5_1 g7_17=>
 (match (cE true (ch 6 y1 g7_10) y21&&(cE true (ch 6 y1 g7_13) y21&&(cE true (ba y22 g7_10) de&&(cE true (ba y22 g7_13) de&&(cE true (ba y22 g7_14) de&&(cE true (ba y25 g7_10) y26&&(cE true (ba y25 g7_13) y26&&(cE true (ba y25 g7_14) y26&&(cE true (ba y27 g7_10) y28&&(cE true (ba y27 g7_13) y28&&(cE true (ba y27 g7_14) y28&&(cE true (ch 6 y1 g7_9) y32&&true)))))))))))) with
 |true=>
 let h:=g7_17
 au Try.prog Try.f38.results.toList (aY 34 (up (bs [x0]) [(1,y1),(2,y2),(3,y3),(4,y4_1),(5,y5_1),(6,y6),(7,y7),(8,y8),(9,y9),(12,bX),(13,bR),(14,bQ),(15,y15),(16,y16),(17,y17),(18,cG),(19,cK),(20,y20),(21,y21),(22,y22),(23,de),(24,y24),(25,y25),(26,y26),(27,y27),(28,y28),(29,y29),(30,y30),(31,y31),(32,y32),(33,y33)])) h
 |false=>none)
 |_=>none)
theorem t38_eq (C:al) (x0:Value) (h:ah):bw Try.prog C Try.f38 [x0] h=t38 C x0 h:=
 (aK Try.prog C Try.f38 [x0] h (by kernel_rfl)).trans (by kernel_rfl)
noncomputable def k40_10 (C:al) (e:Env) (h:ah):Out:=cB Try.prog C (partOf Try.f40 [1,1,1,1,1]) e h (au Try.prog Try.f40.results.toList) (au Try.prog Try.f40.results.toList) (fun _ _ _=>none)
noncomputable def b40_12 (C:al) (i:Nat) (e:Env) (h:ah):Out:=if i=0 then (k40_10 C) e h else (fun _ _ _=>none) i e h
noncomputable def k40_22 (C:al) (e:Env) (h:ah):Out:=cB Try.prog C (partOf Try.f40 [1,1,1,1,1,1,1,1,1,1,1]) e h (au Try.prog Try.f40.results.toList) (au Try.prog Try.f40.results.toList) (fun _ _ _=>none)
noncomputable def b40_24 (C:al) (i:Nat) (e:Env) (h:ah):Out:=if i=2 then (k40_22 C) e h else (fun _ _ _=>none) i e h
noncomputable def t40 (C:al) (x0 x1 x2:Value) (h:ah):Out:=
 ae (box x0 h) fun y3 h=>
 ae (box x1 h) fun y4 h=>
 ae (dB [(.slice none 0 0),(.bool false),(.bool false),(.int .i64 0),(.int .i64 0),(.int .i64 0)] h) fun y6 h=>
 ae (dB [(.int .i64 0),(.int .i64 0),(.int .u64 0),(.int .i64 0),(.int .u64 0),(.bool false),(.int .i64 0),(.bool false)] h) fun y7 h=>
 ae (some ((.slice none 0 0),h)) fun y8 h=>
 ae (some ((.int .i64 0),h)) fun y9 h=>
 ae (pu (aL y4 7) h) fun cG h=>
 ae (ba cG h) fun cK h=>
 (match cK with
 | .bool true=>
 let g4_0:=h
 ae (ch 6 y3 g4_0) fun y20 g4_1=>
 ae (ch 8 y4 g4_1) fun y21 g4_2=>
 ae (cf 6 y6 y20 g4_2) fun _ g4_3=>
 ae (cf 8 y7 y21 g4_3) fun _ g4_4=>
 ae (some ((.slice none 0 0),g4_4)) fun y8_1 g4_5=>
 ae (some ((.int .i64 1),g4_5)) fun y9_1 g4_6=>
 (match (cE true (ch 8 y4 g4_3) y21&&true) with
 |true=>
 let h:=g4_6
 au Try.prog Try.f40.results.toList (aY 142 (up (bs [x0,x1,x2]) [(3,y3),(4,y4),(6,y6),(7,y7),(8,y8_1),(9,y9_1),(18,cG),(19,cK),(20,y20),(21,y21)])) h
 |false=>none)
 | .bool false=>
 ae (ch 6 y3 h) fun y22 h=>
 ae (ch 8 y4 h) fun de h=>
 ae (C 68 [y22,de] h) fun y24 h=>
 ae (pu (unA .not y24) h) fun y25 h=>
 (match y25 with
 | .bool true=>
 let g8_0:=h
 ae (ch 6 y3 g8_0) fun y26 g8_1=>
 ae (ch 8 y4 g8_1) fun y27 g8_2=>
 ae (cf 6 y6 y26 g8_2) fun _ g8_3=>
 ae (cf 8 y7 y27 g8_3) fun _ g8_4=>
 ae (some ((.slice none 0 0),g8_4)) fun y8_1 g8_5=>
 ae (some ((.int .i64 9),g8_5)) fun y9_1 g8_6=>
 (match (cE true (ch 8 y4 g8_3) y27&&true) with
 |true=>
 let h:=g8_6
 au Try.prog Try.f40.results.toList (aY 142 (up (bs [x0,x1,x2]) [(3,y3),(4,y4),(6,y6),(7,y7),(8,y8_1),(9,y9_1),(18,cG),(19,cK),(22,y22),(23,de),(24,y24),(25,y25),(26,y26),(27,y27)])) h
 |false=>none)
 | .bool false=>
 ae (some ((.int .i64 0),h)) fun bM h=>
 ae (some ((.int .i64 0),h)) fun bY h=>
 dD (iter (aI Try.prog C (partOf Try.f40 [1,1,1,1,0,1,0,0])) rounds (aY 142 (up (bs [x0,x1,x2]) [(3,y3),(4,y4),(6,y6),(7,y7),(8,y8),(9,y9),(10,bM),(11,bY),(18,cG),(19,cK),(22,y22),(23,de),(24,y24),(25,y25)])) h) (au Try.prog Try.f40.results.toList) (b40_12 C)
 |_=>none)
 |_=>none)
noncomputable def t40k40_10 (C:al) (x:Nat→Value) (h:ah):Out:=
 ae (some ((x 10),h)) fun y50 h=>
 ae (ch 6 (x 3) h) fun y51 h=>
 ae (C 46 [y51] h) fun y52 h=>
 ae (pu (bin Try.prog .gtr 3 y50 y52) h) fun y53 h=>
 ae (some (y53,h)) fun y54 h=>
 ae (ao (aZ y54==some false) (pu (aL (x 4) 4) h) h) fun y55 h=>
 ae (ao (aZ y54==some false) (ba y55 h) h) fun y56 h=>
 ae (ao (aZ y54==some false) (pu (bin Try.prog .eql 58 y56 (.int .u64 18446744073709551615)) h) h) fun y57 h=>
 ae (match y54 with | .bool t=>some (if t then (.bool true) else y57,h)|_=>none) fun y58 h=>
 (match y58 with
 | .bool true=>
 let g16_0:=h
 ae (ch 6 (x 3) g16_0) fun y59 g16_1=>
 ae (ch 8 (x 4) g16_1) fun y60 g16_2=>
 ae (cf 6 (x 6) y59 g16_2) fun _ g16_3=>
 ae (cf 8 (x 7) y60 g16_3) fun _ g16_4=>
 ae (some ((.slice none 0 0),g16_4)) fun y8 g16_5=>
 ae (some ((.int .i64 8),g16_5)) fun y9 g16_6=>
 (match (cE true (ch 8 (x 4) g16_3) y60&&true) with
 |true=>
 let h:=g16_6
 au Try.prog Try.f40.results.toList (aY 142 (up x [(8,y8),(9,y9),(50,y50),(51,y51),(52,y52),(53,y53),(54,y54),(55,y55),(56,y56),(57,y57),(58,y58),(59,y59),(60,y60)])) h
 |false=>none)
 | .bool false=>
 ae (some ((.int .i64 0),h)) fun bX h=>
 ae (some ((.int .i64 0),h)) fun bR h=>
 ae (pu (aL (x 4) 1) h) fun y61 h=>
 ae (ba y61 h) fun y62 h=>
 ae (pu (bin Try.prog .geq 3 y62 (.int .i64 0)) h) fun y63 h=>
 (match y63 with
 | .bool true=>
 ae (pu (aL (x 4) 3) h) fun y64 h=>
 ae (ba y64 h) fun y65 h=>
 ae (pu (bin Try.prog .sub 3 (.int .i64 1) y65) h) fun y66 h=>
 ae (pu (aL (x 4) 1) h) fun y67 h=>
 ae (ba y67 h) fun y68 h=>
 ae (pu (bin Try.prog .sub 3 (.int .i64 1) y68) h) fun y69 h=>
 ae (some (y66,h)) fun y12_1 h=>
 ae (some (y69,h)) fun y13_1 h=>
 ae (cX 1 (.int .i64 0) 0 [] h) fun y70 h=>
 ae (some ((.int .i64 0),h)) fun bQ h=>
 ae (some (y70,h)) fun y15 h=>
 ae (some ((.int .i64 0),h)) fun y16 h=>
 ae (some ((.int .i64 0),h)) fun y17 h=>
 dD (iter (aI Try.prog C (partOf Try.f40 [1,1,1,1,1,1,1,1,1,1,0,1,0,0])) rounds (aY 142 (up x [(12,y12_1),(13,y13_1),(14,bQ),(15,y15),(16,y16),(17,y17),(50,y50),(51,y51),(52,y52),(53,y53),(54,y54),(55,y55),(56,y56),(57,y57),(58,y58),(61,y61),(62,y62),(63,y63),(64,y64),(65,y65),(66,y66),(67,y67),(68,y68),(69,y69),(70,y70)])) h) (au Try.prog Try.f40.results.toList) (b40_24 C)
 | .bool false=>
 ae (cX 1 (.int .i64 0) 0 [] h) fun y70 h=>
 ae (some ((.int .i64 0),h)) fun bQ h=>
 ae (some (y70,h)) fun y15 h=>
 ae (some ((.int .i64 0),h)) fun y16 h=>
 ae (some ((.int .i64 0),h)) fun y17 h=>
 dD (iter (aI Try.prog C (partOf Try.f40 [1,1,1,1,1,1,1,1,1,1,0,1,0,0])) rounds (aY 142 (up x [(12,bX),(13,bR),(14,bQ),(15,y15),(16,y16),(17,y17),(50,y50),(51,y51),(52,y52),(53,y53),(54,y54),(55,y55),(56,y56),(57,y57),(58,y58),(61,y61),(62,y62),(63,y63),(70,y70)])) h) (au Try.prog Try.f40.results.toList) (b40_24 C)
 |_=>none)
 |_=>none)
noncomputable def iV (C:al) (x:Nat→Value) (h:ah):Option (Ex×Env×ah):=
 ae (some ((x 11),h)) fun y28 h=>
 ae (some ((x 2),h)) fun y29 h=>
 ae (pu (cH y29) h) fun y30 h=>
 ae (pu (bin Try.prog .lss 3 y28 y30) h) fun y31 h=>
 (match y31 with
 | .bool true=>
 ae (some ((x 2),h)) fun y34 h=>
 ae (some ((x 11),h)) fun y35 h=>
 ae (pu (cd 1 y34 y35) h) fun y36 h=>
 ae (ba y36 h) fun y37 h=>
 ae (pu (cH y37) h) fun y38 h=>
 ae (pu (bin Try.prog .gtr 3 y38 (.int .i64 20000)) h) fun y39 h=>
 (match y39 with
 | .bool true=>
 let g32_0:=h
 ae (ch 6 (x 3) g32_0) fun y40 g32_1=>
 ae (ch 8 (x 4) g32_1) fun y41 g32_2=>
 ae (cf 6 (x 6) y40 g32_2) fun _ g32_3=>
 ae (cf 8 (x 7) y41 g32_3) fun _ g32_4=>
 ae (some ((.slice none 0 0),g32_4)) fun y8 g32_5=>
 ae (some ((.int .i64 3),g32_5)) fun y9 g32_6=>
 (match (cE true (ch 8 (x 4) g32_3) y41&&true) with
 |true=>
 let h:=g32_6
 some (.ret,(aY 142 (up x [(8,y8),(9,y9),(28,y28),(29,y29),(30,y30),(31,y31),(34,y34),(35,y35),(36,y36),(37,y37),(38,y38),(39,y39),(40,y40),(41,y41)])),h)
 |false=>none)
 | .bool false=>
 ae (some ((x 10),h)) fun y42 h=>
 ae (some ((x 2),h)) fun y43 h=>
 ae (some ((x 11),h)) fun y44 h=>
 ae (pu (cd 1 y43 y44) h) fun y45 h=>
 ae (ba y45 h) fun y46 h=>
 ae (pu (cH y46) h) fun y47 h=>
 ae (C 16 [y47] h) fun y48 h=>
 ae (pu (bin Try.prog .add 3 y42 y48) h) fun y49 h=>
 ae (some (y49,h)) fun bM h=>
 ae (some ((x 11),h)) fun y32 h=>
 ae (pu (bin Try.prog .add 3 y32 (.int .i64 1)) h) fun y33 h=>
 ae (some (y33,h)) fun bY h=>
 some (.normal,(aY 142 (up x [(10,bM),(11,bY),(28,y28),(29,y29),(30,y30),(31,y31),(32,y32),(33,y33),(34,y34),(35,y35),(36,y36),(37,y37),(38,y38),(39,y39),(42,y42),(43,y43),(44,y44),(45,y45),(46,y46),(47,y47),(48,y48),(49,y49)])),h)
 |_=>none)
 | .bool false=>
 some (.exit 0,(aY 142 (up x [(28,y28),(29,y29),(30,y30),(31,y31)])),h)
 |_=>none)
noncomputable def t40k40_22 (C:al) (x:Nat→Value) (h:ah):Out:=
 let g35_0:=h
 ae (ch 6 (x 3) g35_0) fun y109 g35_1=>
 ae (some ((x 13),g35_1)) fun y110 g35_2=>
 ae (pu (aL (x 4) 4) g35_2) fun y111 g35_3=>
 ae (ba y111 g35_3) fun y112 g35_4=>
 ae (pu (bin Try.prog .add 58 y112 (.int .u64 1)) g35_4) fun y113 g35_5=>
 ae (some ((x 12),g35_5)) fun y114 g35_6=>
 ae (C 71 [y113,y114] g35_6) fun y115 g35_7=>
 ae (C 70 [y109,y110,y115] g35_7) fun y116 g35_8=>
 ae (some (y116,g35_8)) fun y108 g35_9=>
 ae (pu (aD y108 0) g35_9) fun y117 g35_10=>
 ae (pu (aD y108 1) g35_10) fun y118 g35_11=>
 ae (cf 6 (x 3) y117 g35_11) fun _ g35_12=>
 ae (some (y118,g35_12)) fun y16 g35_13=>
 (match (cE true (ch 6 (x 3) g35_7) y109&&true) with
 |true=>
 let h:=g35_13
 ae (some (y16,h)) fun y119 h=>
 ae (pu (bin Try.prog .neq 28 y119 (.int .i64 0)) h) fun y120 h=>
 (match y120 with
 | .bool true=>
 let g38_0:=h
 ae (ch 6 (x 3) g38_0) fun y121 g38_1=>
 ae (ch 8 (x 4) g38_1) fun y122 g38_2=>
 ae (some (y16,g38_2)) fun y123 g38_3=>
 ae (cf 6 (x 6) y121 g38_3) fun _ g38_4=>
 ae (cf 8 (x 7) y122 g38_4) fun _ g38_5=>
 ae (some ((.slice none 0 0),g38_5)) fun y8 g38_6=>
 ae (some (y123,g38_6)) fun y9 g38_7=>
 (match (cE true (ch 8 (x 4) g38_4) y122&&true) with
 |true=>
 let h:=g38_7
 au Try.prog Try.f40.results.toList (aY 142 (up x [(8,y8),(9,y9),(16,y16),(108,y108),(109,y109),(110,y110),(111,y111),(112,y112),(113,y113),(114,y114),(115,y115),(116,y116),(117,y117),(118,y118),(119,y119),(120,y120),(121,y121),(122,y122),(123,y123)])) h
 |false=>none)
 | .bool false=>
 ae (some ((x 13),h)) fun y124 h=>
 ae (some ((x 12),h)) fun y125 h=>
 ae (pu (aL (x 4) 4) h) fun y126 h=>
 ae (ba y126 h) fun y127 h=>
 ae (pu (bin Try.prog .add 58 y127 (.int .u64 1)) h) fun y128 h=>
 ae (pu (aL (x 4) 4) h) fun y129 h=>
 ae (ba y129 h) fun y130 h=>
 ae (pu (bin Try.prog .add 58 y130 (.int .u64 1)) h) fun y131 h=>
 ae (some ((x 14),h)) fun y132 h=>
 ae (pu (aL (x 4) 1) h) fun y133 h=>
 ae (cf 1 y133 y124 h) fun _ h=>
 ae (pu (aL (x 4) 3) h) fun y134 h=>
 ae (cf 1 y134 y125 h) fun _ h=>
 ae (pu (aL (x 4) 2) h) fun y135 h=>
 ae (cf 1 y135 y128 h) fun _ h=>
 ae (pu (aL (x 4) 4) h) fun y136 h=>
 ae (cf 1 y136 y131 h) fun _ h=>
 ae (pu (aL (x 4) 5) h) fun y137 h=>
 ae (cf 1 y137 (.bool true) h) fun _ h=>
 ae (pu (aL (x 4) 6) h) fun y138 h=>
 ae (cf 1 y138 y132 h) fun _ h=>
 let g41_0:=h
 ae (ch 6 (x 3) g41_0) fun y139 g41_1=>
 ae (ch 8 (x 4) g41_1) fun y140 g41_2=>
 ae (some ((x 15),g41_2)) fun y141 g41_3=>
 ae (cf 6 (x 6) y139 g41_3) fun _ g41_4=>
 ae (cf 8 (x 7) y140 g41_4) fun _ g41_5=>
 ae (some (y141,g41_5)) fun y8 g41_6=>
 ae (some ((.int .i64 0),g41_6)) fun y9 g41_7=>
 (match (cE true (ch 8 (x 4) g41_4) y140&&true) with
 |true=>
 let h:=g41_7
 au Try.prog Try.f40.results.toList (aY 142 (up x [(8,y8),(9,y9),(16,y16),(108,y108),(109,y109),(110,y110),(111,y111),(112,y112),(113,y113),(114,y114),(115,y115),(116,y116),(117,y117),(118,y118),(119,y119),(120,y120),(124,y124),(125,y125),(126,y126),(127,y127),(128,y128),(129,y129),(130,y130),(131,y131),(132,y132),(133,y133),(134,y134),(135,y135),(136,y136),(137,y137),(138,y138),(139,y139),(140,y140),(141,y141)])) h
 |false=>none)
 |_=>none)
 |false=>none)
noncomputable def eV (C:al) (x:Nat→Value) (h:ah):Option (Ex×Env×ah):=
 ae (some ((x 17),h)) fun y71 h=>
 ae (some ((x 2),h)) fun y72 h=>
 ae (pu (cH y72) h) fun y73 h=>
 ae (pu (bin Try.prog .lss 3 y71 y73) h) fun y74 h=>
 (match y74 with
 | .bool true=>
 ae (ch 6 (x 3) h) fun y78 h=>
 ae (some ((x 12),h)) fun y79 h=>
 ae (pu (aL (x 4) 4) h) fun y80 h=>
 ae (ba y80 h) fun y81 h=>
 ae (pu (bin Try.prog .add 58 y81 (.int .u64 1)) h) fun y82 h=>
 ae (some ((x 14),h)) fun y83 h=>
 ae (some ((x 2),h)) fun y84 h=>
 ae (some ((x 17),h)) fun y85 h=>
 ae (pu (cd 1 y84 y85) h) fun y86 h=>
 ae (ba y86 h) fun y87 h=>
 ae (C 69 [y78,y79,y82,y83,y87] h) fun y88 h=>
 ae (some (y88,h)) fun y77 h=>
 ae (pu (aD y77 0) h) fun y89 h=>
 ae (pu (aD y77 1) h) fun y90 h=>
 ae (cf 6 (x 3) y89 h) fun _ h=>
 ae (some (y90,h)) fun y16 h=>
 ae (some (y16,h)) fun y91 h=>
 ae (pu (bin Try.prog .neq 28 y91 (.int .i64 0)) h) fun y92 h=>
 (match y92 with
 | .bool true=>
 let g50_0:=h
 ae (ch 6 (x 3) g50_0) fun y93 g50_1=>
 ae (ch 8 (x 4) g50_1) fun y94 g50_2=>
 ae (some (y16,g50_2)) fun y95 g50_3=>
 ae (cf 6 (x 6) y93 g50_3) fun _ g50_4=>
 ae (cf 8 (x 7) y94 g50_4) fun _ g50_5=>
 ae (some ((.slice none 0 0),g50_5)) fun y8 g50_6=>
 ae (some (y95,g50_6)) fun y9 g50_7=>
 (match (cE true (ch 8 (x 4) g50_4) y94&&true) with
 |true=>
 let h:=g50_7
 some (.ret,(aY 142 (up x [(8,y8),(9,y9),(16,y16),(71,y71),(72,y72),(73,y73),(74,y74),(77,y77),(78,y78),(79,y79),(80,y80),(81,y81),(82,y82),(83,y83),(84,y84),(85,y85),(86,y86),(87,y87),(88,y88),(89,y89),(90,y90),(91,y91),(92,y92),(93,y93),(94,y94),(95,y95)])),h)
 |false=>none)
 | .bool false=>
 ae (some ((x 15),h)) fun y96 h=>
 ae (some ((x 14),h)) fun y97 h=>
 ae (cX 1 (.int .i64 0) 1 [(0,y97)] h) fun y98 h=>
 ae (bo 1 8 y96 y98 h) fun y99 h=>
 ae (some (y99,h)) fun y15 h=>
 ae (some ((x 14),h)) fun y100 h=>
 ae (some ((x 2),h)) fun y101 h=>
 ae (some ((x 17),h)) fun y102 h=>
 ae (pu (cd 1 y101 y102) h) fun y103 h=>
 ae (ba y103 h) fun y104 h=>
 ae (pu (cH y104) h) fun y105 h=>
 ae (C 16 [y105] h) fun y106 h=>
 ae (pu (bin Try.prog .add 3 y100 y106) h) fun y107 h=>
 ae (some (y107,h)) fun bQ h=>
 ae (some ((x 17),h)) fun y75 h=>
 ae (pu (bin Try.prog .add 3 y75 (.int .i64 1)) h) fun y76 h=>
 ae (some (y76,h)) fun y17 h=>
 some (.normal,(aY 142 (up x [(14,bQ),(15,y15),(16,y16),(17,y17),(71,y71),(72,y72),(73,y73),(74,y74),(75,y75),(76,y76),(77,y77),(78,y78),(79,y79),(80,y80),(81,y81),(82,y82),(83,y83),(84,y84),(85,y85),(86,y86),(87,y87),(88,y88),(89,y89),(90,y90),(91,y91),(92,y92),(96,y96),(97,y97),(98,y98),(99,y99),(100,y100),(101,y101),(102,y102),(103,y103),(104,y104),(105,y105),(106,y106),(107,y107)])),h)
 |_=>none)
 | .bool false=>
 some (.exit 2,(aY 142 (up x [(71,y71),(72,y72),(73,y73),(74,y74)])),h)
 |_=>none)
theorem t40_eq (C:al) (x0 x1 x2:Value) (h:ah):bw Try.prog C Try.f40 [x0,x1,x2] h=t40 C x0 x1 x2 h:=
 (aK Try.prog C Try.f40 [x0,x1,x2] h (by kernel_rfl)).trans (by kernel_rfl)
theorem t40k40_10_eq (C:al) (x:Nat→Value) (h:ah):k40_10 C (aY 142 x) h=t40k40_10 C x h:=
 bt (b:=(partOf Try.f40 [1,1,1,1,1])) (kE:=(au Try.prog Try.f40.results.toList)) (rE:=(au Try.prog Try.f40.results.toList)) (xE:=(fun _ _ _=>none)) (T:=t40k40_10 C) (fun x h=>by kernel_rfl) x h
theorem t40l40_1111010_eq (C:al) (x:Nat→Value) (h:ah):aI Try.prog C (partOf Try.f40 [1,1,1,1,0,1,0,0]) (aY 142 x) h=iV C x h:=
 bj (T:=iV C) (fun x h=>by kernel_rfl) x h
theorem t40k40_22_eq (C:al) (x:Nat→Value) (h:ah):k40_22 C (aY 142 x) h=t40k40_22 C x h:=
 bt (b:=(partOf Try.f40 [1,1,1,1,1,1,1,1,1,1,1])) (kE:=(au Try.prog Try.f40.results.toList)) (rE:=(au Try.prog Try.f40.results.toList)) (xE:=(fun _ _ _=>none)) (T:=t40k40_22 C) (fun x h=>by kernel_rfl) x h
theorem t40l40_1111111111010_eq (C:al) (x:Nat→Value) (h:ah):aI Try.prog C (partOf Try.f40 [1,1,1,1,1,1,1,1,1,1,0,1,0,0]) (aY 142 x) h=eV C x h:=
 bj (T:=eV C) (fun x h=>by kernel_rfl) x h
noncomputable def t42 (C:al) (x0 x1 x2:Value) (h:ah):Out:=
 ae (box x0 h) fun y3 h=>
 ae (box x1 h) fun y4 h=>
 ae (dB [(.slice none 0 0),(.bool false),(.bool false),(.int .i64 0),(.int .i64 0),(.int .i64 0)] h) fun y6 h=>
 ae (dB [(.int .i64 0),(.int .i64 0),(.int .u64 0),(.int .i64 0),(.int .u64 0),(.bool false),(.int .i64 0),(.bool false)] h) fun y7 h=>
 ae (some ((.int .i64 0),h)) fun _y8 h=>
 ae (some ((.int .i64 0),h)) fun _y9 h=>
 ae (pu (aL y4 7) h) fun bX h=>
 ae (ba bX h) fun bR h=>
 (match bR with
 | .bool true=>
 let g4_0:=h
 ae (ch 6 y3 g4_0) fun bQ g4_1=>
 ae (ch 8 y4 g4_1) fun y15 g4_2=>
 ae (cf 6 y6 bQ g4_2) fun _ g4_3=>
 ae (cf 8 y7 y15 g4_3) fun _ g4_4=>
 ae (some ((.int .i64 0),g4_4)) fun y8_1 g4_5=>
 ae (some ((.int .i64 1),g4_5)) fun y9_1 g4_6=>
 (match (cE true (ch 8 y4 g4_3) y15&&true) with
 |true=>
 let h:=g4_6
 au Try.prog Try.f42.results.toList (aY 69 (up (bs [x0,x1,x2]) [(3,y3),(4,y4),(6,y6),(7,y7),(8,y8_1),(9,y9_1),(12,bX),(13,bR),(14,bQ),(15,y15)])) h
 |false=>none)
 | .bool false=>
 ae (ch 6 y3 h) fun y16 h=>
 ae (ch 8 y4 h) fun y17 h=>
 ae (C 68 [y16,y17] h) fun cG h=>
 ae (pu (unA .not cG) h) fun cK h=>
 (match cK with
 | .bool true=>
 let g8_0:=h
 ae (ch 6 y3 g8_0) fun y20 g8_1=>
 ae (ch 8 y4 g8_1) fun y21 g8_2=>
 ae (cf 6 y6 y20 g8_2) fun _ g8_3=>
 ae (cf 8 y7 y21 g8_3) fun _ g8_4=>
 ae (some ((.int .i64 0),g8_4)) fun y8_1 g8_5=>
 ae (some ((.int .i64 9),g8_5)) fun y9_1 g8_6=>
 (match (cE true (ch 8 y4 g8_3) y21&&true) with
 |true=>
 let h:=g8_6
 au Try.prog Try.f42.results.toList (aY 69 (up (bs [x0,x1,x2]) [(3,y3),(4,y4),(6,y6),(7,y7),(8,y8_1),(9,y9_1),(12,bX),(13,bR),(16,y16),(17,y17),(18,cG),(19,cK),(20,y20),(21,y21)])) h
 |false=>none)
 | .bool false=>
 ae (pu (aL y4 5) h) fun y22 h=>
 ae (ba y22 h) fun de h=>
 ae (pu (unA .not de) h) fun y24 h=>
 (match y24 with
 | .bool true=>
 let g12_0:=h
 ae (ch 6 y3 g12_0) fun y25 g12_1=>
 ae (ch 8 y4 g12_1) fun y26 g12_2=>
 ae (cf 6 y6 y25 g12_2) fun _ g12_3=>
 ae (cf 8 y7 y26 g12_3) fun _ g12_4=>
 ae (some ((.int .i64 0),g12_4)) fun y8_1 g12_5=>
 ae (some ((.int .i64 30),g12_5)) fun y9_1 g12_6=>
 (match (cE true (ch 8 y4 g12_3) y26&&true) with
 |true=>
 let h:=g12_6
 au Try.prog Try.f42.results.toList (aY 69 (up (bs [x0,x1,x2]) [(3,y3),(4,y4),(6,y6),(7,y7),(8,y8_1),(9,y9_1),(12,bX),(13,bR),(16,y16),(17,y17),(18,cG),(19,cK),(22,y22),(23,de),(24,y24),(25,y25),(26,y26)])) h
 |false=>none)
 | .bool false=>
 ae (some (x2,h)) fun y27 h=>
 ae (pu (cH y27) h) fun y28 h=>
 ae (pu (bin Try.prog .gtr 3 y28 (.int .i64 20000)) h) fun y29 h=>
 (match y29 with
 | .bool true=>
 let g16_0:=h
 ae (ch 6 y3 g16_0) fun y30 g16_1=>
 ae (ch 8 y4 g16_1) fun y31 g16_2=>
 ae (cf 6 y6 y30 g16_2) fun _ g16_3=>
 ae (cf 8 y7 y31 g16_3) fun _ g16_4=>
 ae (some ((.int .i64 0),g16_4)) fun y8_1 g16_5=>
 ae (some ((.int .i64 3),g16_5)) fun y9_1 g16_6=>
 (match (cE true (ch 8 y4 g16_3) y31&&true) with
 |true=>
 let h:=g16_6
 au Try.prog Try.f42.results.toList (aY 69 (up (bs [x0,x1,x2]) [(3,y3),(4,y4),(6,y6),(7,y7),(8,y8_1),(9,y9_1),(12,bX),(13,bR),(16,y16),(17,y17),(18,cG),(19,cK),(22,y22),(23,de),(24,y24),(27,y27),(28,y28),(29,y29),(30,y30),(31,y31)])) h
 |false=>none)
 | .bool false=>
 let g19_0:=h
 ae (some (x2,g19_0)) fun y32 g19_1=>
 ae (pu (cH y32) g19_1) fun y33 g19_2=>
 ae (C 16 [y33] g19_2) fun y34 g19_3=>
 ae (ch 6 y3 g19_3) fun y35 g19_4=>
 ae (ch 8 y4 g19_4) fun y36 g19_5=>
 ae (C 73 [y35,y36] g19_5) fun y37 g19_6=>
 ae (pu (bin Try.prog .gtr 3 y34 y37) g19_6) fun y38 g19_7=>
 (match (cE true (ch 6 y3 g19_2) y35&&(cE true (ch 8 y4 g19_2) y36&&true)) with
 |true=>
 let h:=g19_7
 (match y38 with
 | .bool true=>
 let g21_0:=h
 ae (ch 6 y3 g21_0) fun y39 g21_1=>
 ae (ch 8 y4 g21_1) fun y40 g21_2=>
 ae (cf 6 y6 y39 g21_2) fun _ g21_3=>
 ae (cf 8 y7 y40 g21_3) fun _ g21_4=>
 ae (some ((.int .i64 0),g21_4)) fun y8_1 g21_5=>
 ae (some ((.int .i64 8),g21_5)) fun y9_1 g21_6=>
 (match (cE true (ch 8 y4 g21_3) y40&&true) with
 |true=>
 let h:=g21_6
 au Try.prog Try.f42.results.toList (aY 69 (up (bs [x0,x1,x2]) [(3,y3),(4,y4),(6,y6),(7,y7),(8,y8_1),(9,y9_1),(12,bX),(13,bR),(16,y16),(17,y17),(18,cG),(19,cK),(22,y22),(23,de),(24,y24),(27,y27),(28,y28),(29,y29),(32,y32),(33,y33),(34,y34),(35,y35),(36,y36),(37,y37),(38,y38),(39,y39),(40,y40)])) h
 |false=>none)
 | .bool false=>
 ae (pu (aL y4 6) h) fun y41 h=>
 ae (ba y41 h) fun y42 h=>
 ae (some (y42,h)) fun bM h=>
 ae (ch 6 y3 h) fun y44 h=>
 ae (pu (aL y4 3) h) fun y45 h=>
 ae (ba y45 h) fun y46 h=>
 ae (pu (aL y4 2) h) fun y47 h=>
 ae (ba y47 h) fun y48 h=>
 ae (some (bM,h)) fun y49 h=>
 ae (some (x2,h)) fun y50 h=>
 ae (C 69 [y44,y46,y48,y49,y50] h) fun y51 h=>
 ae (some (y51,h)) fun y43 h=>
 ae (pu (aD y43 0) h) fun y52 h=>
 ae (pu (aD y43 1) h) fun y53 h=>
 ae (cf 6 y3 y52 h) fun _ h=>
 ae (some (y53,h)) fun bY h=>
 ae (some (bY,h)) fun y54 h=>
 ae (pu (bin Try.prog .neq 28 y54 (.int .i64 0)) h) fun y55 h=>
 (match y55 with
 | .bool true=>
 let g27_0:=h
 ae (ch 6 y3 g27_0) fun y56 g27_1=>
 ae (ch 8 y4 g27_1) fun y57 g27_2=>
 ae (some (bY,g27_2)) fun y58 g27_3=>
 ae (cf 6 y6 y56 g27_3) fun _ g27_4=>
 ae (cf 8 y7 y57 g27_4) fun _ g27_5=>
 ae (some ((.int .i64 0),g27_5)) fun y8_1 g27_6=>
 ae (some (y58,g27_6)) fun y9_1 g27_7=>
 (match (cE true (ch 8 y4 g27_4) y57&&true) with
 |true=>
 let h:=g27_7
 au Try.prog Try.f42.results.toList (aY 69 (up (bs [x0,x1,x2]) [(3,y3),(4,y4),(6,y6),(7,y7),(8,y8_1),(9,y9_1),(10,bM),(11,bY),(12,bX),(13,bR),(16,y16),(17,y17),(18,cG),(19,cK),(22,y22),(23,de),(24,y24),(27,y27),(28,y28),(29,y29),(32,y32),(33,y33),(34,y34),(35,y35),(36,y36),(37,y37),(38,y38),(41,y41),(42,y42),(43,y43),(44,y44),(45,y45),(46,y46),(47,y47),(48,y48),(49,y49),(50,y50),(51,y51),(52,y52),(53,y53),(54,y54),(55,y55),(56,y56),(57,y57),(58,y58)])) h
 |false=>none)
 | .bool false=>
 let g29_0:=h
 ae (pu (aL y4 6) g29_0) fun y59 g29_1=>
 ae (ba y59 g29_1) fun y60 g29_2=>
 ae (some (x2,g29_2)) fun y61 g29_3=>
 ae (pu (cH y61) g29_3) fun y62 g29_4=>
 ae (C 16 [y62] g29_4) fun y63 g29_5=>
 ae (pu (bin Try.prog .add 3 y60 y63) g29_5) fun y64 g29_6=>
 ae (pu (aL y4 6) g29_6) fun y65 g29_7=>
 ae (cf 1 y65 y64 g29_7) fun _ g29_8=>
 (match (cE true (ba y59 g29_5) y60&&true) with
 |true=>
 let h:=g29_8
 let g31_0:=h
 ae (ch 6 y3 g31_0) fun y66 g31_1=>
 ae (ch 8 y4 g31_1) fun y67 g31_2=>
 ae (some (bM,g31_2)) fun y68 g31_3=>
 ae (cf 6 y6 y66 g31_3) fun _ g31_4=>
 ae (cf 8 y7 y67 g31_4) fun _ g31_5=>
 ae (some (y68,g31_5)) fun y8_1 g31_6=>
 ae (some ((.int .i64 0),g31_6)) fun y9_1 g31_7=>
 (match (cE true (ch 8 y4 g31_4) y67&&true) with
 |true=>
 let h:=g31_7
 au Try.prog Try.f42.results.toList (aY 69 (up (bs [x0,x1,x2]) [(3,y3),(4,y4),(6,y6),(7,y7),(8,y8_1),(9,y9_1),(10,bM),(11,bY),(12,bX),(13,bR),(16,y16),(17,y17),(18,cG),(19,cK),(22,y22),(23,de),(24,y24),(27,y27),(28,y28),(29,y29),(32,y32),(33,y33),(34,y34),(35,y35),(36,y36),(37,y37),(38,y38),(41,y41),(42,y42),(43,y43),(44,y44),(45,y45),(46,y46),(47,y47),(48,y48),(49,y49),(50,y50),(51,y51),(52,y52),(53,y53),(54,y54),(55,y55),(59,y59),(60,y60),(61,y61),(62,y62),(63,y63),(64,y64),(65,y65),(66,y66),(67,y67),(68,y68)])) h
 |false=>none)
 |false=>none)
 |_=>none)
 |_=>none)
 |false=>none)
 |_=>none)
 |_=>none)
 |_=>none)
 |_=>none)
theorem t42_eq (C:al) (x0 x1 x2:Value) (h:ah):bw Try.prog C Try.f42 [x0,x1,x2] h=t42 C x0 x1 x2 h:=
 (aK Try.prog C Try.f42 [x0,x1,x2] h (by kernel_rfl)).trans (by kernel_rfl)
noncomputable def t45 (C:al) (x0 x1:Value) (h:ah):Out:=
 ae (box x0 h) fun y2 h=>
 ae (box x1 h) fun y3 h=>
 ae (some ((.bool false),h)) fun _y4 h=>
 ae (ch 6 y3 h) fun y5 h=>
 ae (pu (aL y2 1) h) fun y6 h=>
 ae (ch 8 y6 h) fun y7 h=>
 ae (C 68 [y5,y7] h) fun y8 h=>
 ae (pu (unA .not y8) h) fun y9 h=>
 (match y9 with
 | .bool true=>
 ae (pu (aL y2 0) h) fun bM h=>
 ae (ba bM h) fun bY h=>
 ae (C 34 [bY] h) fun bX h=>
 ae (pu (bin Try.prog .eql 58 bX (.int .u64 0)) h) fun bR h=>
 ae (some (bR,h)) fun bQ h=>
 ae (ao (aZ bQ==some true) (pu (aL y2 0) h) h) fun y15 h=>
 ae (ao (aZ bQ==some true) (ba y15 h) h) fun y16 h=>
 ae (ao (aZ bQ==some true) (C 22 [y16] h) h) fun y17 h=>
 ae (ao (aZ bQ==some true) (pu (bin Try.prog .eql 3 y17 (.int .i64 0)) h) h) fun cG h=>
 ae (match bQ with | .bool t=>some (if t then cG else (.bool false),h)|_=>none) fun cK h=>
 ae (some (cK,h)) fun y20 h=>
 ae (ao (aZ y20==some true) (pu (aL y2 0) h) h) fun y21 h=>
 ae (ao (aZ y20==some true) (ba y21 h) h) fun y22 h=>
 ae (ao (aZ y20==some true) (C 26 [y22] h) h) fun de h=>
 ae (ao (aZ y20==some true) (pu (bin Try.prog .eql 3 de (.int .i64 0)) h) h) fun y24 h=>
 ae (match y20 with | .bool t=>some (if t then y24 else (.bool false),h)|_=>none) fun y25 h=>
 ae (some (y25,h)) fun y26 h=>
 ae (ao (aZ y26==some true) (pu (aL y2 0) h) h) fun y27 h=>
 ae (ao (aZ y26==some true) (ba y27 h) h) fun y28 h=>
 ae (ao (aZ y26==some true) (C 74 [y28] h) h) fun y29 h=>
 ae (ao (aZ y26==some true) (pu (bin Try.prog .eql 3 y29 (.int .i64 0)) h) h) fun y30 h=>
 ae (match y26 with | .bool t=>some (if t then y30 else (.bool false),h)|_=>none) fun y31 h=>
 ae (some (y31,h)) fun y4_1 h=>
 some (y4_1,h)
 | .bool false=>
 let g5_0:=h
 ae (pu (aL y2 0) g5_0) fun y32 g5_1=>
 ae (ba y32 g5_1) fun y33 g5_2=>
 ae (C 34 [y33] g5_2) fun y34 g5_3=>
 ae (pu (aL y2 1) g5_3) fun y35 g5_4=>
 ae (pu (aL y35 2) g5_4) fun y36 g5_5=>
 ae (ba y36 g5_5) fun y37 g5_6=>
 ae (pu (bin Try.prog .eql 58 y34 y37) g5_6) fun y38 g5_7=>
 ae (some (y38,g5_7)) fun y39 g5_8=>
 ae (ao (aZ y39==some true) (pu (aL y2 0) g5_8) g5_8) fun y40 g5_9=>
 ae (ao (aZ y39==some true) (ba y40 g5_9) g5_9) fun y41 g5_10=>
 ae (ao (aZ y39==some true) (C 22 [y41] g5_10) g5_10) fun y42 g5_11=>
 ae (ao (aZ y39==some true) (ch 6 y3 g5_11) g5_11) fun y43 g5_12=>
 ae (ao (aZ y39==some true) (C 46 [y43] g5_12) g5_12) fun y44 g5_13=>
 ae (ao (aZ y39==some true) (pu (bin Try.prog .eql 3 y42 y44) g5_13) g5_13) fun y45 g5_14=>
 ae (match y39 with | .bool t=>some (if t then y45 else (.bool false),g5_14)|_=>none) fun y46 g5_15=>
 ae (some (y46,g5_15)) fun y47 g5_16=>
 ae (ao (aZ y47==some true) (pu (aL y2 0) g5_16) g5_16) fun y48 g5_17=>
 ae (ao (aZ y47==some true) (ba y48 g5_17) g5_17) fun y49 g5_18=>
 ae (ao (aZ y47==some true) (C 26 [y49] g5_18) g5_18) fun y50 g5_19=>
 ae (ao (aZ y47==some true) (ch 6 y3 g5_19) g5_19) fun y51 g5_20=>
 ae (ao (aZ y47==some true) (pu (aL y2 1) g5_20) g5_20) fun y52 g5_21=>
 ae (ao (aZ y47==some true) (ch 8 y52 g5_21) g5_21) fun y53 g5_22=>
 ae (ao (aZ y47==some true) (C 73 [y51,y53] g5_22) g5_22) fun y54 g5_23=>
 ae (ao (aZ y47==some true) (pu (bin Try.prog .eql 3 y50 y54) g5_23) g5_23) fun y55 g5_24=>
 ae (match y47 with | .bool t=>some (if t then y55 else (.bool false),g5_24)|_=>none) fun y56 g5_25=>
 ae (some (y56,g5_25)) fun y57 g5_26=>
 ae (ao (aZ y57==some true) (pu (aL y2 0) g5_26) g5_26) fun y58 g5_27=>
 ae (ao (aZ y57==some true) (ba y58 g5_27) g5_27) fun y59 g5_28=>
 ae (ao (aZ y57==some true) (C 74 [y59] g5_28) g5_28) fun y60 g5_29=>
 ae (ao (aZ y57==some true) (ch 6 y3 g5_29) g5_29) fun y61 g5_30=>
 ae (ao (aZ y57==some true) (pu (aL y2 1) g5_30) g5_30) fun y62 g5_31=>
 ae (ao (aZ y57==some true) (ch 8 y62 g5_31) g5_31) fun y63 g5_32=>
 ae (ao (aZ y57==some true) (C 75 [y61,y63] g5_32) g5_32) fun y64 g5_33=>
 ae (ao (aZ y57==some true) (pu (bin Try.prog .eql 3 y60 y64) g5_33) g5_33) fun y65 g5_34=>
 ae (match y57 with | .bool t=>some (if t then y65 else (.bool false),g5_34)|_=>none) fun y66 g5_35=>
 ae (some (y66,g5_35)) fun y4_1 g5_36=>
 (match (cE true (ba y36 g5_2) y37&&(cE (aZ y39==some true) (ch 6 y3 g5_10) y43&&(cE (aZ y47==some true) (ch 6 y3 g5_18) y51&&(cE (aZ y47==some true) (ch 8 y52 g5_18) y53&&(cE (aZ y57==some true) (ch 6 y3 g5_28) y61&&(cE (aZ y57==some true) (ch 8 y62 g5_28) y63&&true)))))) with
 |true=>
 let h:=g5_36
 some (y4_1,h)
 |false=>none)
 |_=>none)
theorem t45_eq (C:al) (x0 x1:Value) (h:ah):bw Try.prog C Try.f45 [x0,x1] h=t45 C x0 x1 h:=
 (aK Try.prog C Try.f45 [x0,x1] h (by kernel_rfl)).trans (by kernel_rfl)
noncomputable def t46 (C:al) (x0:Value) (h:ah):Out:=
 ae (box x0 h) fun y1 h=>
 ae (some ((.int .i64 0),h)) fun _y2 h=>
 ae (ch 6 y1 h) fun y3 h=>
 ae (C 51 [y3] h) fun y4 h=>
 ae (pu (bin Try.prog .sub 3 y4 (.int .i64 2)) h) fun y5 h=>
 ae (pu (bin Try.prog .quo 3 y5 (.int .i64 2)) h) fun y6 h=>
 ae (some (y6,h)) fun y2_1 h=>
 some (y2_1,h)
theorem t46_eq (C:al) (x0:Value) (h:ah):bw Try.prog C Try.f46 [x0] h=t46 C x0 h:=
 (aK Try.prog C Try.f46 [x0] h (by kernel_rfl)).trans (by kernel_rfl)
noncomputable def t51 (_C:al) (x0:Value) (h:ah):Out:=
 ae (box x0 h) fun y1 h=>
 ae (some ((.int .i64 0),h)) fun _y2 h=>
 ae (pu (aL y1 0) h) fun y3 h=>
 ae (ba y3 h) fun y4 h=>
 ae (pu (cH y4) h) fun y5 h=>
 ae (pu (bin Try.prog .quo 3 y5 (.int .i64 128)) h) fun y6 h=>
 ae (some (y6,h)) fun y2_1 h=>
 some (y2_1,h)
theorem t51_eq (C:al) (x0:Value) (h:ah):bw Try.prog C Try.f51 [x0] h=t51 C x0 h:=
 (aK Try.prog C Try.f51 [x0] h (by kernel_rfl)).trans (by kernel_rfl)
noncomputable def t65 (C:al) (x0:Value) (h:ah):Out:=
 ae (box x0 h) fun y1 h=>
 ae (some ((.int .i64 0),h)) fun _y2 h=>
 ae (dB [(.bool false),(.int .u64 0),(.int .i64 0)] h) fun y3 h=>
 let g2_0:=h
 ae (ch 6 y1 g2_0) fun y6 g2_1=>
 ae (C 96 [y6,(.int .i64 0)] g2_1) fun y7 g2_2=>
 ae (ch 6 y1 g2_2) fun y8 g2_3=>
 ae (C 96 [y8,(.int .i64 1)] g2_3) fun y9 g2_4=>
 ae (dB [(.bool false),(.int .u64 0),(.int .i64 0)] g2_4) fun y4 g2_5=>
 ae (dB [(.bool false),(.int .u64 0),(.int .i64 0)] g2_5) fun y5 g2_6=>
 ae (cf 3 y4 y7 g2_6) fun _ g2_7=>
 ae (cf 3 y5 y9 g2_7) fun _ g2_8=>
 (match (cE true (ch 6 y1 g2_1) y8&&true) with
 |true=>
 let h:=g2_8
 ae (pu (aL y5 0) h) fun bM h=>
 ae (ba bM h) fun bY h=>
 ae (some (bY,h)) fun bX h=>
 ae (ao (aZ bX==some true) (pu (aL y4 0) h) h) fun bR h=>
 ae (ao (aZ bX==some true) (ba bR h) h) fun bQ h=>
 ae (ao (aZ bX==some true) (pu (unA .not bQ) h) h) fun y15 h=>
 ae (ao (aZ bX==some true) (some (y15,h)) h) fun y16 h=>
 ae (ao (aZ y16==some false) (pu (aL y5 1) h) h) fun y17 h=>
 ae (ao (aZ y16==some false) (ba y17 h) h) fun cG h=>
 ae (ao (aZ y16==some false) (pu (aL y4 1) h) h) fun cK h=>
 ae (ao (aZ y16==some false) (ba cK h) h) fun y20 h=>
 ae (ao (aZ y16==some false) (pu (bin Try.prog .gtr 58 cG y20) h) h) fun y21 h=>
 ae (ao (aZ bX==some true) (match y16 with | .bool t=>some (if t then (.bool true) else y21,h)|_=>none) h) fun y22 h=>
 ae (match bX with | .bool t=>some (if t then y22 else (.bool false),h)|_=>none) fun de h=>
 (match de with
 | .bool true=>
 ae (ch 3 y5 h) fun y24 h=>
 ae (some ((.int .i64 1),h)) fun y2_1 h=>
 ae (cf 3 y3 y24 h) fun _ h=>
 au Try.prog Try.f65.results.toList (aY 29 (up (bs [x0]) [(1,y1),(2,y2_1),(3,y3),(4,y4),(5,y5),(6,y6),(7,y7),(8,y8),(9,y9),(10,bM),(11,bY),(12,bX),(13,bR),(14,bQ),(15,y15),(16,y16),(17,y17),(18,cG),(19,cK),(20,y20),(21,y21),(22,y22),(23,de),(24,y24)])) h
 | .bool false=>
 ae (pu (aL y4 0) h) fun y25 h=>
 ae (ba y25 h) fun y26 h=>
 (match y26 with
 | .bool true=>
 ae (ch 3 y4 h) fun y27 h=>
 ae (some ((.int .i64 0),h)) fun y2_1 h=>
 ae (cf 3 y3 y27 h) fun _ h=>
 au Try.prog Try.f65.results.toList (aY 29 (up (bs [x0]) [(1,y1),(2,y2_1),(3,y3),(4,y4),(5,y5),(6,y6),(7,y7),(8,y8),(9,y9),(10,bM),(11,bY),(12,bX),(13,bR),(14,bQ),(15,y15),(16,y16),(17,y17),(18,cG),(19,cK),(20,y20),(21,y21),(22,y22),(23,de),(25,y25),(26,y26),(27,y27)])) h
 | .bool false=>
 ae (pu (fU [(.bool false),(.int .u64 0),(.int .i64 0)] []) h) fun y28 h=>
 ae (some ((.int .i64 (-1)),h)) fun y2_1 h=>
 ae (cf 3 y3 y28 h) fun _ h=>
 au Try.prog Try.f65.results.toList (aY 29 (up (bs [x0]) [(1,y1),(2,y2_1),(3,y3),(4,y4),(5,y5),(6,y6),(7,y7),(8,y8),(9,y9),(10,bM),(11,bY),(12,bX),(13,bR),(14,bQ),(15,y15),(16,y16),(17,y17),(18,cG),(19,cK),(20,y20),(21,y21),(22,y22),(23,de),(25,y25),(26,y26),(28,y28)])) h
 |_=>none)
 |_=>none)
 |false=>none)
theorem t65_eq (C:al) (x0:Value) (h:ah):bw Try.prog C Try.f65 [x0] h=t65 C x0 h:=
 (aK Try.prog C Try.f65 [x0] h (by kernel_rfl)).trans (by kernel_rfl)
noncomputable def k66_2 (C:al) (e:Env) (h:ah):Out:=cB Try.prog C (partOf Try.f66 [1,1,1]) e h (au Try.prog Try.f66.results.toList) (au Try.prog Try.f66.results.toList) (fun _ _ _=>none)
noncomputable def b66_4 (C:al) (i:Nat) (e:Env) (h:ah):Out:=if i=0 then (k66_2 C) e h else (fun _ _ _=>none) i e h
noncomputable def k66_8 (C:al) (e:Env) (h:ah):Option (Ex×Env×ah):=cB Try.prog C (partOf Try.f66 [1,1,0,1,0,0,1,1]) e h (fun e h=>some (Ex.normal,e,h)) (fun e h=>some (Ex.ret,e,h)) (fun i e h=>some (Ex.exit i,e,h))
noncomputable def b66_9 (C:al) (i:Nat) (e:Env) (h:ah):Option (Ex×Env×ah):=if i=1 then (k66_8 C) e h else (fun i e h=>some (Ex.exit i,e,h)) i e h
noncomputable def b66_14 (C:al) (i:Nat) (e:Env) (h:ah):Option (Ex×Env×ah):=if i=2 then (k66_8 C) e h else (b66_9 C) i e h
noncomputable def t66 (C:al) (x0:Value) (h:ah):Out:=
 ae (box x0 h) fun y1 h=>
 ae (some ((.int .u64 0),h)) fun y2 h=>
 ae (some ((.int .u64 0),h)) fun y3 h=>
 ae (some ((.int .i64 0),h)) fun y4 h=>
 dD (iter (aI Try.prog C (partOf Try.f66 [1,1,0,1,0,0])) rounds (aY 46 (up (bs [x0]) [(1,y1),(2,y2),(3,y3),(4,y4)])) h) (au Try.prog Try.f66.results.toList) (b66_4 C)
noncomputable def t66k66_2 (_C:al) (x:Nat→Value) (h:ah):Out:=
 ae (some ((x 3),h)) fun y45 h=>
 ae (some (y45,h)) fun y2 h=>
 some (y2,h)
noncomputable def t66l66_11010 (C:al) (x:Nat→Value) (h:ah):Option (Ex×Env×ah):=
 ae (some ((x 4),h)) fun y8 h=>
 ae (pu (bin Try.prog .lss 3 y8 (.int .i64 2)) h) fun y9 h=>
 (match y9 with
 | .bool true=>
 ae (ch 6 (x 1) h) fun bX h=>
 ae (some ((x 4),h)) fun bR h=>
 ae (C 96 [bX,bR] h) fun bQ h=>
 ae (dB [(.bool false),(.int .u64 0),(.int .i64 0)] h) fun y5 h=>
 ae (cf 3 y5 bQ h) fun _ h=>
 ae (pu (aL y5 0) h) fun y15 h=>
 ae (ba y15 h) fun y16 h=>
 ae (some (y16,h)) fun y17 h=>
 ae (ao (aZ y17==some true) (pu (aL y5 1) h) h) fun cG h=>
 ae (ao (aZ y17==some true) (ba cG h) h) fun cK h=>
 ae (ao (aZ y17==some true) (some ((x 3),h)) h) fun y20 h=>
 ae (ao (aZ y17==some true) (pu (bin Try.prog .gtr 58 cK y20) h) h) fun y21 h=>
 ae (match y17 with | .bool t=>some (if t then y21 else (.bool false),h)|_=>none) fun y22 h=>
 (match y22 with
 | .bool true=>
 ae (pu (aL y5 1) h) fun de h=>
 ae (ba de h) fun y24 h=>
 ae (some (y24,h)) fun y3 h=>
 ae (some ((.int .i64 0),h)) fun y6 h=>
 dD (iter (aI Try.prog C (partOf Try.f66 [1,1,0,1,0,0,1,0,0,1,1,0,0])) rounds (aY 46 (up x [(3,y3),(5,y5),(6,y6),(8,y8),(9,y9),(12,bX),(13,bR),(14,bQ),(15,y15),(16,y16),(17,y17),(18,cG),(19,cK),(20,y20),(21,y21),(22,y22),(23,de),(24,y24)])) h) (fun e h=>some (Ex.ret,e,h)) (b66_14 C)
 | .bool false=>
 ae (some ((.int .i64 0),h)) fun y6 h=>
 dD (iter (aI Try.prog C (partOf Try.f66 [1,1,0,1,0,0,1,0,0,1,1,0,0])) rounds (aY 46 (up x [(5,y5),(6,y6),(8,y8),(9,y9),(12,bX),(13,bR),(14,bQ),(15,y15),(16,y16),(17,y17),(18,cG),(19,cK),(20,y20),(21,y21),(22,y22)])) h) (fun e h=>some (Ex.ret,e,h)) (b66_14 C)
 |_=>none)
 | .bool false=>
 some (.exit 0,(aY 46 (up x [(8,y8),(9,y9)])),h)
 |_=>none)
noncomputable def t66k66_8 (_C:al) (x:Nat→Value) (h:ah):Option (Ex×Env×ah):=
 ae (some ((x 4),h)) fun bM h=>
 ae (pu (bin Try.prog .add 3 bM (.int .i64 1)) h) fun bY h=>
 ae (some (bY,h)) fun y4 h=>
 some (.normal,(aY 46 (up x [(4,y4),(10,bM),(11,bY)])),h)
noncomputable def ff (C:al) (x:Nat→Value) (h:ah):Option (Ex×Env×ah):=
 ae (some ((x 6),h)) fun y25 h=>
 ae (ch 6 (x 1) h) fun y26 h=>
 ae (C 46 [y26] h) fun y27 h=>
 ae (pu (bin Try.prog .lss 3 y25 y27) h) fun y28 h=>
 (match y28 with
 | .bool true=>
 ae (ch 6 (x 1) h) fun y31 h=>
 ae (some ((x 4),h)) fun y32 h=>
 ae (some ((x 6),h)) fun y33 h=>
 ae (C 97 [y31,y32,y33] h) fun y34 h=>
 ae (dB [(.bool false),(.int .u64 0),(.int .i64 0),(.int .i64 0),(.slice none 0 0)] h) fun y7 h=>
 ae (cf 5 y7 y34 h) fun _ h=>
 ae (pu (aL y7 0) h) fun y35 h=>
 ae (ba y35 h) fun y36 h=>
 ae (some (y36,h)) fun y37 h=>
 ae (ao (aZ y37==some true) (pu (aL y7 1) h) h) fun y38 h=>
 ae (ao (aZ y37==some true) (ba y38 h) h) fun y39 h=>
 ae (ao (aZ y37==some true) (some ((x 3),h)) h) fun y40 h=>
 ae (ao (aZ y37==some true) (pu (bin Try.prog .gtr 58 y39 y40) h) h) fun y41 h=>
 ae (match y37 with | .bool t=>some (if t then y41 else (.bool false),h)|_=>none) fun y42 h=>
 (match y42 with
 | .bool true=>
 ae (pu (aL y7 1) h) fun y43 h=>
 ae (ba y43 h) fun y44 h=>
 ae (some (y44,h)) fun y3 h=>
 ae (some ((x 6),h)) fun y29 h=>
 ae (pu (bin Try.prog .add 3 y29 (.int .i64 1)) h) fun y30 h=>
 ae (some (y30,h)) fun y6 h=>
 some (.normal,(aY 46 (up x [(3,y3),(6,y6),(7,y7),(25,y25),(26,y26),(27,y27),(28,y28),(29,y29),(30,y30),(31,y31),(32,y32),(33,y33),(34,y34),(35,y35),(36,y36),(37,y37),(38,y38),(39,y39),(40,y40),(41,y41),(42,y42),(43,y43),(44,y44)])),h)
 | .bool false=>
 ae (some ((x 6),h)) fun y29 h=>
 ae (pu (bin Try.prog .add 3 y29 (.int .i64 1)) h) fun y30 h=>
 ae (some (y30,h)) fun y6 h=>
 some (.normal,(aY 46 (up x [(6,y6),(7,y7),(25,y25),(26,y26),(27,y27),(28,y28),(29,y29),(30,y30),(31,y31),(32,y32),(33,y33),(34,y34),(35,y35),(36,y36),(37,y37),(38,y38),(39,y39),(40,y40),(41,y41),(42,y42)])),h)
 |_=>none)
 | .bool false=>
 some (.exit 2,(aY 46 (up x [(25,y25),(26,y26),(27,y27),(28,y28)])),h)
 |_=>none)
theorem t66_eq (C:al) (x0:Value) (h:ah):bw Try.prog C Try.f66 [x0] h=t66 C x0 h:=
 (aK Try.prog C Try.f66 [x0] h (by kernel_rfl)).trans (by kernel_rfl)
theorem t66k66_2_eq (C:al) (x:Nat→Value) (h:ah):k66_2 C (aY 46 x) h=t66k66_2 C x h:=
 bt (b:=(partOf Try.f66 [1,1,1])) (kE:=(au Try.prog Try.f66.results.toList)) (rE:=(au Try.prog Try.f66.results.toList)) (xE:=(fun _ _ _=>none)) (T:=t66k66_2 C) (fun x h=>by kernel_rfl) x h
theorem t66l66_11010_eq (C:al) (x:Nat→Value) (h:ah):aI Try.prog C (partOf Try.f66 [1,1,0,1,0,0]) (aY 46 x) h=t66l66_11010 C x h:=
 bj (T:=t66l66_11010 C) (fun x h=>by kernel_rfl) x h
theorem t66k66_8_eq (C:al) (x:Nat→Value) (h:ah):k66_8 C (aY 46 x) h=t66k66_8 C x h:=
 bt (b:=(partOf Try.f66 [1,1,0,1,0,0,1,1])) (kE:=(fun e h=>some (Ex.normal,e,h))) (rE:=(fun e h=>some (Ex.ret,e,h))) (xE:=(fun i e h=>some (Ex.exit i,e,h))) (T:=t66k66_8 C) (fun x h=>by kernel_rfl) x h
theorem t66l66_110100100110_eq (C:al) (x:Nat→Value) (h:ah):aI Try.prog C (partOf Try.f66 [1,1,0,1,0,0,1,0,0,1,1,0,0]) (aY 46 x) h=ff C x h:=
 bj (T:=ff C) (fun x h=>by kernel_rfl) x h
noncomputable def k67_6 (C:al) (e:Env) (h:ah):Out:=cB Try.prog C (partOf Try.f67 [1,1,1,1,1]) e h (au Try.prog Try.f67.results.toList) (au Try.prog Try.f67.results.toList) (fun _ _ _=>none)
noncomputable def b67_8 (C:al) (i:Nat) (e:Env) (h:ah):Out:=if i=0 then (k67_6 C) e h else (fun _ _ _=>none) i e h
noncomputable def t67 (C:al) (x0:Value) (h:ah):Out:=
 ae (box x0 h) fun y1 h=>
 ae (some ((.slice none 0 0),h)) fun y2 h=>
 ae (ch 6 y1 h) fun bY h=>
 ae (C 65 [bY] h) fun bX h=>
 ae (some (bX,h)) fun bM h=>
 ae (pu (aD bM 0) h) fun bR h=>
 ae (pu (aD bM 1) h) fun bQ h=>
 ae (dB [(.bool false),(.int .u64 0),(.int .i64 0)] h) fun y4 h=>
 ae (some (bR,h)) fun y3 h=>
 ae (cf 3 y4 bQ h) fun _ h=>
 ae (cX 2 (.agg #[(.int .i64 0),(.slice none 0 0)]) 0 [] h) fun y15 h=>
 ae (some (y15,h)) fun y5 h=>
 ae (some (y3,h)) fun y16 h=>
 ae (pu (bin Try.prog .lss 3 y16 (.int .i64 0)) h) fun y17 h=>
 (match y17 with
 | .bool true=>
 ae (some (y5,h)) fun cG h=>
 ae (some (cG,h)) fun y2_1 h=>
 some (y2_1,h)
 | .bool false=>
 ae (some ((.int .i64 0),h)) fun y6 h=>
 dD (iter (aI Try.prog C (partOf Try.f67 [1,1,1,1,0,1,0,0])) rounds (aY 48 (up (bs [x0]) [(1,y1),(2,y2),(3,y3),(4,y4),(5,y5),(6,y6),(10,bM),(11,bY),(12,bX),(13,bR),(14,bQ),(15,y15),(16,y16),(17,y17)])) h) (au Try.prog Try.f67.results.toList) (b67_8 C)
 |_=>none)
noncomputable def t67k67_6 (_C:al) (x:Nat→Value) (h:ah):Out:=
 ae (some ((x 5),h)) fun y47 h=>
 ae (some (y47,h)) fun y2 h=>
 some (y2,h)
noncomputable def iN (C:al) (x:Nat→Value) (h:ah):Option (Ex×Env×ah):=
 ae (some ((x 6),h)) fun cK h=>
 ae (ch 6 (x 1) h) fun y20 h=>
 ae (C 46 [y20] h) fun y21 h=>
 ae (pu (bin Try.prog .lss 3 cK y21) h) fun y22 h=>
 (match y22 with
 | .bool true=>
 ae (ch 6 (x 1) h) fun y24 h=>
 ae (pu (aL (x 4) 2) h) fun y25 h=>
 ae (ba y25 h) fun y26 h=>
 ae (pu (aL (x 4) 1) h) fun y27 h=>
 ae (ba y27 h) fun y28 h=>
 ae (some ((x 6),h)) fun y29 h=>
 ae (C 76 [y24,y26,y28,y29] h) fun y30 h=>
 ae (some (y30,h)) fun de h=>
 ae (pu (aD de 0) h) fun y31 h=>
 ae (pu (aD de 1) h) fun y32 h=>
 ae (pu (aD de 2) h) fun y33 h=>
 ae (some (y31,h)) fun y7 h=>
 ae (some (y32,h)) fun y8 h=>
 ae (some (y33,h)) fun y9 h=>
 ae (some (y9,h)) fun y34 h=>
 ae (pu (unA .not y34) h) fun y35 h=>
 (match y35 with
 | .bool true=>
 ae (some ((x 6),h)) fun y36 h=>
 ae (pu (bin Try.prog .add 3 y36 (.int .i64 1)) h) fun y37 h=>
 ae (some (y37,h)) fun y6 h=>
 some (.normal,(aY 48 (up x [(6,y6),(7,y7),(8,y8),(9,y9),(19,cK),(20,y20),(21,y21),(22,y22),(23,de),(24,y24),(25,y25),(26,y26),(27,y27),(28,y28),(29,y29),(30,y30),(31,y31),(32,y32),(33,y33),(34,y34),(35,y35),(36,y36),(37,y37)])),h)
 | .bool false=>
 ae (some ((x 5),h)) fun y38 h=>
 ae (some ((x 6),h)) fun y39 h=>
 ae (some (y7,h)) fun y40 h=>
 ae (pu (fU [(.int .i64 0),(.slice none 0 0)] [(0,1,y39),(1,1,y40)]) h) fun y41 h=>
 ae (cX 2 (.agg #[(.int .i64 0),(.slice none 0 0)]) 1 [(0,y41)] h) fun y42 h=>
 ae (bo 2 32 y38 y42 h) fun y43 h=>
 ae (some (y43,h)) fun y5 h=>
 ae (some ((x 6),h)) fun y44 h=>
 ae (some (y8,h)) fun y45 h=>
 ae (pu (bin Try.prog .add 3 y44 y45) h) fun y46 h=>
 ae (some (y46,h)) fun y6 h=>
 some (.normal,(aY 48 (up x [(5,y5),(6,y6),(7,y7),(8,y8),(9,y9),(19,cK),(20,y20),(21,y21),(22,y22),(23,de),(24,y24),(25,y25),(26,y26),(27,y27),(28,y28),(29,y29),(30,y30),(31,y31),(32,y32),(33,y33),(34,y34),(35,y35),(38,y38),(39,y39),(40,y40),(41,y41),(42,y42),(43,y43),(44,y44),(45,y45),(46,y46)])),h)
 |_=>none)
 | .bool false=>
 some (.exit 0,(aY 48 (up x [(19,cK),(20,y20),(21,y21),(22,y22)])),h)
 |_=>none)
theorem t67_eq (C:al) (x0:Value) (h:ah):bw Try.prog C Try.f67 [x0] h=t67 C x0 h:=
 (aK Try.prog C Try.f67 [x0] h (by kernel_rfl)).trans (by kernel_rfl)
theorem t67k67_6_eq (C:al) (x:Nat→Value) (h:ah):k67_6 C (aY 48 x) h=t67k67_6 C x h:=
 bt (b:=(partOf Try.f67 [1,1,1,1,1])) (kE:=(au Try.prog Try.f67.results.toList)) (rE:=(au Try.prog Try.f67.results.toList)) (xE:=(fun _ _ _=>none)) (T:=t67k67_6 C) (fun x h=>by kernel_rfl) x h
theorem t67l67_1111010_eq (C:al) (x:Nat→Value) (h:ah):aI Try.prog C (partOf Try.f67 [1,1,1,1,0,1,0,0]) (aY 48 x) h=iN C x h:=
 bj (T:=iN C) (fun x h=>by kernel_rfl) x h
noncomputable def t68 (_C:al) (x0 x1:Value) (h:ah):Out:=
 ae (box x0 h) fun y2 h=>
 ae (box x1 h) fun y3 h=>
 ae (some ((.bool false),h)) fun _y4 h=>
 ae (pu (aL y2 1) h) fun y5 h=>
 ae (ba y5 h) fun y6 h=>
 ae (pu (unA .not y6) h) fun y7 h=>
 ae (some (y7,h)) fun y8 h=>
 ae (ao (aZ y8==some true) (pu (aL y3 7) h) h) fun y9 h=>
 ae (ao (aZ y8==some true) (ba y9 h) h) fun bM h=>
 ae (ao (aZ y8==some true) (pu (unA .not bM) h) h) fun bY h=>
 ae (match y8 with | .bool t=>some (if t then bY else (.bool false),h)|_=>none) fun bX h=>
 ae (some (bX,h)) fun bR h=>
 ae (ao (aZ bR==some true) (pu (aL y2 5) h) h) fun bQ h=>
 ae (ao (aZ bR==some true) (ba bQ h) h) fun y15 h=>
 ae (ao (aZ bR==some true) (pu (aL y3 0) h) h) fun y16 h=>
 ae (ao (aZ bR==some true) (ba y16 h) h) fun y17 h=>
 ae (ao (aZ bR==some true) (pu (bin Try.prog .eql 3 y15 y17) h) h) fun cG h=>
 ae (match bR with | .bool t=>some (if t then cG else (.bool false),h)|_=>none) fun cK h=>
 ae (some (cK,h)) fun y4_1 h=>
 some (y4_1,h)
theorem t68_eq (C:al) (x0 x1:Value) (h:ah):bw Try.prog C Try.f68 [x0,x1] h=t68 C x0 x1 h:=
 (aK Try.prog C Try.f68 [x0,x1] h (by kernel_rfl)).trans (by kernel_rfl)
noncomputable def k69_2 (C:al) (e:Env) (h:ah):Out:=cB Try.prog C (partOf Try.f69 [1,1,1]) e h (au Try.prog Try.f69.results.toList) (au Try.prog Try.f69.results.toList) (fun _ _ _=>none)
noncomputable def b69_4 (C:al) (i:Nat) (e:Env) (h:ah):Out:=if i=0 then (k69_2 C) e h else (fun _ _ _=>none) i e h
noncomputable def t69 (C:al) (x0 x1 x2 x3 x4:Value) (h:ah):Out:=
 ae (box x0 h) fun y5 h=>
 ae (dB [(.slice none 0 0),(.bool false),(.bool false),(.int .i64 0),(.int .i64 0),(.int .i64 0)] h) fun bM h=>
 ae (some ((.int .i64 0),h)) fun bY h=>
 ae (some (x4,h)) fun y16 h=>
 ae (pu (cH y16) h) fun y17 h=>
 ae (C 16 [y17] h) fun cG h=>
 ae (some (cG,h)) fun bX h=>
 ae (some ((.int .i64 0),h)) fun bR h=>
 dD (iter (aI Try.prog C (partOf Try.f69 [1,1,0,1,0,0])) rounds (aY 64 (up (bs [x0,x1,x2,x3,x4]) [(5,y5),(10,bM),(11,bY),(12,bX),(13,bR),(16,y16),(17,y17),(18,cG)])) h) (au Try.prog Try.f69.results.toList) (b69_4 C)
noncomputable def t69k69_2 (_C:al) (x:Nat→Value) (h:ah):Out:=
 ae (ch 6 (x 5) h) fun y63 h=>
 ae (cf 6 (x 10) y63 h) fun _ h=>
 ae (some ((.int .i64 0),h)) fun bY h=>
 au Try.prog Try.f69.results.toList (aY 64 (up x [(11,bY),(63,y63)])) h
noncomputable def t69l69_11010 (C:al) (x:Nat→Value) (h:ah):Option (Ex×Env×ah):=
 ae (some ((x 13),h)) fun cK h=>
 ae (some ((x 12),h)) fun y20 h=>
 ae (pu (bin Try.prog .lss 3 cK y20) h) fun y21 h=>
 (match y21 with
 | .bool true=>
 ae (some ((x 13),h)) fun y24 h=>
 ae (pu (bin Try.prog .add 3 y24 (.int .i64 1)) h) fun y25 h=>
 ae (pu (bin Try.prog .mul 3 (.int .i64 106) y25) h) fun y26 h=>
 ae (some (y26,h)) fun bQ h=>
 ae (some (bQ,h)) fun y27 h=>
 ae (some ((x 4),h)) fun y28 h=>
 ae (pu (cH y28) h) fun y29 h=>
 ae (pu (bin Try.prog .gtr 3 y27 y29) h) fun y30 h=>
 (match y30 with
 | .bool true=>
 ae (some ((x 4),h)) fun y31 h=>
 ae (pu (cH y31) h) fun y32 h=>
 ae (some (y32,h)) fun y14_1 h=>
 ae (some ((.int .i64 0),h)) fun _y15 h=>
 let g15_0:=h
 ae (ch 6 (x 5) g15_0) fun y34 g15_1=>
 ae (some ((x 1),g15_1)) fun y35 g15_2=>
 ae (ch 6 (x 5) g15_2) fun y36 g15_3=>
 ae (C 46 [y36] g15_3) fun y37 g15_4=>
 ae (pu (bin Try.prog .mul 3 y35 y37) g15_4) fun y38 g15_5=>
 ae (pu (bin Try.prog .add 3 (.int .i64 2) y38) g15_5) fun y39 g15_6=>
 ae (some ((x 3),g15_6)) fun y40 g15_7=>
 ae (pu (bin Try.prog .add 3 y39 y40) g15_7) fun y41 g15_8=>
 ae (some ((x 13),g15_8)) fun y42 g15_9=>
 ae (pu (bin Try.prog .add 3 y41 y42) g15_9) fun y43 g15_10=>
 ae (some ((x 2),g15_10)) fun y44 g15_11=>
 ae (some ((x 3),g15_11)) fun y45 g15_12=>
 ae (some ((x 13),g15_12)) fun y46 g15_13=>
 ae (pu (bin Try.prog .add 3 y45 y46) g15_13) fun y47 g15_14=>
 ae (some ((x 13),g15_14)) fun y48 g15_15=>
 ae (some ((x 12),g15_15)) fun y49 g15_16=>
 ae (some ((x 4),g15_16)) fun y50 g15_17=>
 ae (some ((x 13),g15_17)) fun y51 g15_18=>
 ae (pu (bin Try.prog .mul 3 (.int .i64 106) y51) g15_18) fun y52 g15_19=>
 ae (some (y14_1,g15_19)) fun y53 g15_20=>
 ae (pu (slR 1 y50 (some y52) (some y53) none) g15_20) fun y54 g15_21=>
 ae (C 98 [y44,y47,y48,y49,y54] g15_21) fun y55 g15_22=>
 ae (C 70 [y34,y43,y55] g15_22) fun y56 g15_23=>
 ae (some (y56,g15_23)) fun y33 g15_24=>
 ae (pu (aD y33 0) g15_24) fun y57 g15_25=>
 ae (pu (aD y33 1) g15_25) fun y58 g15_26=>
 ae (cf 6 (x 5) y57 g15_26) fun _ g15_27=>
 ae (some (y58,g15_27)) fun y15_1 g15_28=>
 (match (cE true (ch 6 (x 5) g15_4) y34&&(cE true (ch 6 (x 5) g15_22) y34&&true)) with
 |true=>
 let h:=g15_28
 ae (some (y15_1,h)) fun y59 h=>
 ae (pu (bin Try.prog .neq 28 y59 (.int .i64 0)) h) fun y60 h=>
 (match y60 with
 | .bool true=>
 ae (ch 6 (x 5) h) fun y61 h=>
 ae (some (y15_1,h)) fun y62 h=>
 ae (cf 6 (x 10) y61 h) fun _ h=>
 ae (some (y62,h)) fun bY h=>
 some (.ret,(aY 64 (up x [(11,bY),(14,y14_1),(15,y15_1),(19,cK),(20,y20),(21,y21),(24,y24),(25,y25),(26,y26),(27,y27),(28,y28),(29,y29),(30,y30),(31,y31),(32,y32),(33,y33),(34,y34),(35,y35),(36,y36),(37,y37),(38,y38),(39,y39),(40,y40),(41,y41),(42,y42),(43,y43),(44,y44),(45,y45),(46,y46),(47,y47),(48,y48),(49,y49),(50,y50),(51,y51),(52,y52),(53,y53),(54,y54),(55,y55),(56,y56),(57,y57),(58,y58),(59,y59),(60,y60),(61,y61),(62,y62)])),h)
 | .bool false=>
 ae (some ((x 13),h)) fun y22 h=>
 ae (pu (bin Try.prog .add 3 y22 (.int .i64 1)) h) fun de h=>
 ae (some (de,h)) fun bR h=>
 some (.normal,(aY 64 (up x [(13,bR),(14,y14_1),(15,y15_1),(19,cK),(20,y20),(21,y21),(22,y22),(23,de),(24,y24),(25,y25),(26,y26),(27,y27),(28,y28),(29,y29),(30,y30),(31,y31),(32,y32),(33,y33),(34,y34),(35,y35),(36,y36),(37,y37),(38,y38),(39,y39),(40,y40),(41,y41),(42,y42),(43,y43),(44,y44),(45,y45),(46,y46),(47,y47),(48,y48),(49,y49),(50,y50),(51,y51),(52,y52),(53,y53),(54,y54),(55,y55),(56,y56),(57,y57),(58,y58),(59,y59),(60,y60)])),h)
 |_=>none)
 |false=>none)
 | .bool false=>
 ae (some ((.int .i64 0),h)) fun _y15 h=>
 let g18_0:=h
 ae (ch 6 (x 5) g18_0) fun y34 g18_1=>
 ae (some ((x 1),g18_1)) fun y35 g18_2=>
 ae (ch 6 (x 5) g18_2) fun y36 g18_3=>
 ae (C 46 [y36] g18_3) fun y37 g18_4=>
 ae (pu (bin Try.prog .mul 3 y35 y37) g18_4) fun y38 g18_5=>
 ae (pu (bin Try.prog .add 3 (.int .i64 2) y38) g18_5) fun y39 g18_6=>
 ae (some ((x 3),g18_6)) fun y40 g18_7=>
 ae (pu (bin Try.prog .add 3 y39 y40) g18_7) fun y41 g18_8=>
 ae (some ((x 13),g18_8)) fun y42 g18_9=>
 ae (pu (bin Try.prog .add 3 y41 y42) g18_9) fun y43 g18_10=>
 ae (some ((x 2),g18_10)) fun y44 g18_11=>
 ae (some ((x 3),g18_11)) fun y45 g18_12=>
 ae (some ((x 13),g18_12)) fun y46 g18_13=>
 ae (pu (bin Try.prog .add 3 y45 y46) g18_13) fun y47 g18_14=>
 ae (some ((x 13),g18_14)) fun y48 g18_15=>
 ae (some ((x 12),g18_15)) fun y49 g18_16=>
 ae (some ((x 4),g18_16)) fun y50 g18_17=>
 ae (some ((x 13),g18_17)) fun y51 g18_18=>
 ae (pu (bin Try.prog .mul 3 (.int .i64 106) y51) g18_18) fun y52 g18_19=>
 ae (some (bQ,g18_19)) fun y53 g18_20=>
 ae (pu (slR 1 y50 (some y52) (some y53) none) g18_20) fun y54 g18_21=>
 ae (C 98 [y44,y47,y48,y49,y54] g18_21) fun y55 g18_22=>
 ae (C 70 [y34,y43,y55] g18_22) fun y56 g18_23=>
 ae (some (y56,g18_23)) fun y33 g18_24=>
 ae (pu (aD y33 0) g18_24) fun y57 g18_25=>
 ae (pu (aD y33 1) g18_25) fun y58 g18_26=>
 ae (cf 6 (x 5) y57 g18_26) fun _ g18_27=>
 ae (some (y58,g18_27)) fun y15_1 g18_28=>
 (match (cE true (ch 6 (x 5) g18_4) y34&&(cE true (ch 6 (x 5) g18_22) y34&&true)) with
 |true=>
 let h:=g18_28
 ae (some (y15_1,h)) fun y59 h=>
 ae (pu (bin Try.prog .neq 28 y59 (.int .i64 0)) h) fun y60 h=>
 (match y60 with
 | .bool true=>
 ae (ch 6 (x 5) h) fun y61 h=>
 ae (some (y15_1,h)) fun y62 h=>
 ae (cf 6 (x 10) y61 h) fun _ h=>
 ae (some (y62,h)) fun bY h=>
 some (.ret,(aY 64 (up x [(11,bY),(14,bQ),(15,y15_1),(19,cK),(20,y20),(21,y21),(24,y24),(25,y25),(26,y26),(27,y27),(28,y28),(29,y29),(30,y30),(33,y33),(34,y34),(35,y35),(36,y36),(37,y37),(38,y38),(39,y39),(40,y40),(41,y41),(42,y42),(43,y43),(44,y44),(45,y45),(46,y46),(47,y47),(48,y48),(49,y49),(50,y50),(51,y51),(52,y52),(53,y53),(54,y54),(55,y55),(56,y56),(57,y57),(58,y58),(59,y59),(60,y60),(61,y61),(62,y62)])),h)
 | .bool false=>
 ae (some ((x 13),h)) fun y22 h=>
 ae (pu (bin Try.prog .add 3 y22 (.int .i64 1)) h) fun de h=>
 ae (some (de,h)) fun bR h=>
 some (.normal,(aY 64 (up x [(13,bR),(14,bQ),(15,y15_1),(19,cK),(20,y20),(21,y21),(22,y22),(23,de),(24,y24),(25,y25),(26,y26),(27,y27),(28,y28),(29,y29),(30,y30),(33,y33),(34,y34),(35,y35),(36,y36),(37,y37),(38,y38),(39,y39),(40,y40),(41,y41),(42,y42),(43,y43),(44,y44),(45,y45),(46,y46),(47,y47),(48,y48),(49,y49),(50,y50),(51,y51),(52,y52),(53,y53),(54,y54),(55,y55),(56,y56),(57,y57),(58,y58),(59,y59),(60,y60)])),h)
 |_=>none)
 |false=>none)
 |_=>none)
 | .bool false=>
 some (.exit 0,(aY 64 (up x [(19,cK),(20,y20),(21,y21)])),h)
 |_=>none)
theorem t69_eq (C:al) (x0 x1 x2 x3 x4:Value) (h:ah):bw Try.prog C Try.f69 [x0,x1,x2,x3,x4] h=t69 C x0 x1 x2 x3 x4 h:=
 (aK Try.prog C Try.f69 [x0,x1,x2,x3,x4] h (by kernel_rfl)).trans (by kernel_rfl)
theorem t69k69_2_eq (C:al) (x:Nat→Value) (h:ah):k69_2 C (aY 64 x) h=t69k69_2 C x h:=
 bt (b:=(partOf Try.f69 [1,1,1])) (kE:=(au Try.prog Try.f69.results.toList)) (rE:=(au Try.prog Try.f69.results.toList)) (xE:=(fun _ _ _=>none)) (T:=t69k69_2 C) (fun x h=>by kernel_rfl) x h
theorem t69l69_11010_eq (C:al) (x:Nat→Value) (h:ah):aI Try.prog C (partOf Try.f69 [1,1,0,1,0,0]) (aY 64 x) h=t69l69_11010 C x h:=
 bj (T:=t69l69_11010 C) (fun x h=>by kernel_rfl) x h
noncomputable def t70 (C:al) (x0 x1 x2:Value) (h:ah):Out:=
 ae (box x0 h) fun y3 h=>
 ae (dB [(.slice none 0 0),(.bool false),(.bool false),(.int .i64 0),(.int .i64 0),(.int .i64 0)] h) fun y6 h=>
 ae (some ((.int .i64 0),h)) fun _y7 h=>
 ae (pu (aL y3 1) h) fun y8 h=>
 ae (ba y8 h) fun y9 h=>
 (match y9 with
 | .bool true=>
 ae (ch 6 y3 h) fun bM h=>
 ae (cf 6 y6 bM h) fun _ h=>
 ae (some ((.int .i64 9),h)) fun y7_1 h=>
 au Try.prog Try.f70.results.toList (aY 48 (up (bs [x0,x1,x2]) [(3,y3),(6,y6),(7,y7_1),(8,y8),(9,y9),(10,bM)])) h
 | .bool false=>
 ae (some (x1,h)) fun bY h=>
 ae (pu (bin Try.prog .lss 3 bY (.int .i64 0)) h) fun bX h=>
 ae (some (bX,h)) fun bR h=>
 ae (ao (aZ bR==some false) (some (x1,h)) h) fun bQ h=>
 ae (ao (aZ bR==some false) (ch 6 y3 h) h) fun y15 h=>
 ae (ao (aZ bR==some false) (C 51 [y15] h) h) fun y16 h=>
 ae (ao (aZ bR==some false) (pu (bin Try.prog .geq 3 bQ y16) h) h) fun y17 h=>
 ae (match bR with | .bool t=>some (if t then (.bool true) else y17,h)|_=>none) fun cG h=>
 (match cG with
 | .bool true=>
 ae (ch 6 y3 h) fun cK h=>
 ae (cf 6 y6 cK h) fun _ h=>
 ae (some ((.int .i64 2),h)) fun y7_1 h=>
 au Try.prog Try.f70.results.toList (aY 48 (up (bs [x0,x1,x2]) [(3,y3),(6,y6),(7,y7_1),(8,y8),(9,y9),(11,bY),(12,bX),(13,bR),(14,bQ),(15,y15),(16,y16),(17,y17),(18,cG),(19,cK)])) h
 | .bool false=>
 ae (some (x2,h)) fun y20 h=>
 ae (pu (cH y20) h) fun y21 h=>
 ae (pu (bin Try.prog .neq 3 y21 (.int .i64 128)) h) fun y22 h=>
 (match y22 with
 | .bool true=>
 ae (ch 6 y3 h) fun de h=>
 ae (cf 6 y6 de h) fun _ h=>
 ae (some ((.int .i64 10),h)) fun y7_1 h=>
 au Try.prog Try.f70.results.toList (aY 48 (up (bs [x0,x1,x2]) [(3,y3),(6,y6),(7,y7_1),(8,y8),(9,y9),(11,bY),(12,bX),(13,bR),(14,bQ),(15,y15),(16,y16),(17,y17),(18,cG),(20,y20),(21,y21),(22,y22),(23,de)])) h
 | .bool false=>
 ae (pu (aL y3 2) h) fun y24 h=>
 ae (ba y24 h) fun y25 h=>
 ae (some (y25,h)) fun y26 h=>
 ae (ao (aZ y26==some true) (pu (aL y3 3) h) h) fun y27 h=>
 ae (ao (aZ y26==some true) (ba y27 h) h) fun y28 h=>
 ae (ao (aZ y26==some true) (pu (bin Try.prog .eql 3 y28 (.int .i64 0)) h) h) fun y29 h=>
 ae (match y26 with | .bool t=>some (if t then y29 else (.bool false),h)|_=>none) fun y30 h=>
 (match y30 with
 | .bool true=>
 ae (ch 6 y3 h) fun y31 h=>
 ae (some (x1,h)) fun y32 h=>
 ae (some (x2,h)) fun y33 h=>
 ae (pu (aL y3 4) h) fun y34 h=>
 ae (ba y34 h) fun y35 h=>
 ae (C 99 [y31,y32,y33,y35] h) fun y36 h=>
 ae (C 79 [y36] h) fun y37 h=>
 ae (cf 6 y6 y37 h) fun _ h=>
 ae (some ((.int .i64 9),h)) fun y7_1 h=>
 au Try.prog Try.f70.results.toList (aY 48 (up (bs [x0,x1,x2]) [(3,y3),(6,y6),(7,y7_1),(8,y8),(9,y9),(11,bY),(12,bX),(13,bR),(14,bQ),(15,y15),(16,y16),(17,y17),(18,cG),(20,y20),(21,y21),(22,y22),(24,y24),(25,y25),(26,y26),(27,y27),(28,y28),(29,y29),(30,y30),(31,y31),(32,y32),(33,y33),(34,y34),(35,y35),(36,y36),(37,y37)])) h
 | .bool false=>
 ae (pu (aL y3 2) h) fun y38 h=>
 ae (ba y38 h) fun y39 h=>
 (match y39 with
 | .bool true=>
 ae (pu (aL y3 3) h) fun y40 h=>
 ae (ba y40 h) fun y41 h=>
 ae (pu (bin Try.prog .sub 3 y41 (.int .i64 1)) h) fun y42 h=>
 ae (pu (aL y3 3) h) fun y43 h=>
 ae (cf 1 y43 y42 h) fun _ h=>
 ae (ch 6 y3 h) fun y44 h=>
 ae (some (x1,h)) fun y45 h=>
 ae (some (x2,h)) fun y46 h=>
 ae (C 99 [y44,y45,y46,(.int .i64 128)] h) fun y47 h=>
 ae (cf 6 y6 y47 h) fun _ h=>
 ae (some ((.int .i64 0),h)) fun y7_1 h=>
 au Try.prog Try.f70.results.toList (aY 48 (up (bs [x0,x1,x2]) [(3,y3),(6,y6),(7,y7_1),(8,y8),(9,y9),(11,bY),(12,bX),(13,bR),(14,bQ),(15,y15),(16,y16),(17,y17),(18,cG),(20,y20),(21,y21),(22,y22),(24,y24),(25,y25),(26,y26),(27,y27),(28,y28),(29,y29),(30,y30),(38,y38),(39,y39),(40,y40),(41,y41),(42,y42),(43,y43),(44,y44),(45,y45),(46,y46),(47,y47)])) h
 | .bool false=>
 ae (ch 6 y3 h) fun y44 h=>
 ae (some (x1,h)) fun y45 h=>
 ae (some (x2,h)) fun y46 h=>
 ae (C 99 [y44,y45,y46,(.int .i64 128)] h) fun y47 h=>
 ae (cf 6 y6 y47 h) fun _ h=>
 ae (some ((.int .i64 0),h)) fun y7_1 h=>
 au Try.prog Try.f70.results.toList (aY 48 (up (bs [x0,x1,x2]) [(3,y3),(6,y6),(7,y7_1),(8,y8),(9,y9),(11,bY),(12,bX),(13,bR),(14,bQ),(15,y15),(16,y16),(17,y17),(18,cG),(20,y20),(21,y21),(22,y22),(24,y24),(25,y25),(26,y26),(27,y27),(28,y28),(29,y29),(30,y30),(38,y38),(39,y39),(44,y44),(45,y45),(46,y46),(47,y47)])) h
 |_=>none)
 |_=>none)
 |_=>none)
 |_=>none)
 |_=>none)
theorem t70_eq (C:al) (x0 x1 x2:Value) (h:ah):bw Try.prog C Try.f70 [x0,x1,x2] h=t70 C x0 x1 x2 h:=
 (aK Try.prog C Try.f70 [x0,x1,x2] h (by kernel_rfl)).trans (by kernel_rfl)
noncomputable def t71 (C:al) (x0 x1:Value) (h:ah):Out:=
 ae (some ((.slice none 0 0),h)) fun _y4 h=>
 ae (cX 1 (.int .u8 0) 4 [(0,(.int .u8 83)),(1,(.int .u8 84)),(2,(.int .u8 79)),(3,(.int .u8 76))] h) fun y6 h=>
 ae (some (x0,h)) fun y7 h=>
 ae (C 100 [y7,(.int .i64 8)] h) fun y8 h=>
 ae (bo 1 1 y6 y8 h) fun y9 h=>
 ae (some (y9,h)) fun y5 h=>
 ae (some (y5,h)) fun bM h=>
 ae (some (x1,h)) fun bY h=>
 ae (cvI .u8 bY h) fun bX h=>
 ae (cX 1 (.int .u8 0) 1 [(0,bX)] h) fun bR h=>
 ae (bo 1 1 bM bR h) fun bQ h=>
 ae (C 101 [bQ] h) fun y15 h=>
 ae (some (y15,h)) fun y4_1 h=>
 some (y4_1,h)
theorem t71_eq (C:al) (x0 x1:Value) (h:ah):bw Try.prog C Try.f71 [x0,x1] h=t71 C x0 x1 h:=
 (aK Try.prog C Try.f71 [x0,x1] h (by kernel_rfl)).trans (by kernel_rfl)
noncomputable def t72 (C:al) (x0:Value) (h:ah):Out:=
 ae (some ((.bool false),h)) fun _y2 h=>
 ae (some (x0,h)) fun y3 h=>
 ae (pu (slR 1 y3 none (some (.int .i64 4)) none) h) fun y4 h=>
 ae (C 102 [y4] h) fun y5 h=>
 ae (some (x0,h)) fun y6 h=>
 ae (pu (slR 1 y6 (some (.int .i64 4)) none none) h) fun y7 h=>
 ae (C 103 [y7] h) fun y8 h=>
 ae (cvI .u64 y8 h) fun y9 h=>
 ae (pu (bin Try.prog .eql 58 y5 y9) h) fun bM h=>
 ae (some (bM,h)) fun y2_1 h=>
 some (y2_1,h)
theorem t72_eq (C:al) (x0:Value) (h:ah):bw Try.prog C Try.f72 [x0] h=t72 C x0 h:=
 (aK Try.prog C Try.f72 [x0] h (by kernel_rfl)).trans (by kernel_rfl)
noncomputable def t73 (C:al) (x0 x1:Value) (h:ah):Out:=
 ae (box x0 h) fun y2 h=>
 ae (box x1 h) fun y3 h=>
 ae (some ((.int .i64 0),h)) fun _y4 h=>
 ae (ch 6 y2 h) fun y5 h=>
 ae (ch 8 y3 h) fun y6 h=>
 ae (C 68 [y5,y6] h) fun y7 h=>
 ae (pu (unA .not y7) h) fun y8 h=>
 ae (some (y8,h)) fun y9 h=>
 ae (ao (aZ y9==some false) (pu (aL y3 5) h) h) fun bM h=>
 ae (ao (aZ y9==some false) (ba bM h) h) fun bY h=>
 ae (ao (aZ y9==some false) (pu (unA .not bY) h) h) fun bX h=>
 ae (match y9 with | .bool t=>some (if t then (.bool true) else bX,h)|_=>none) fun bR h=>
 (match bR with
 | .bool true=>
 ae (some ((.int .i64 0),h)) fun y4_1 h=>
 some (y4_1,h)
 | .bool false=>
 let g5_0:=h
 ae (ch 6 y2 g5_0) fun bQ g5_1=>
 ae (C 46 [bQ] g5_1) fun y15 g5_2=>
 ae (pu (aL y3 6) g5_2) fun y16 g5_3=>
 ae (ba y16 g5_3) fun y17 g5_4=>
 ae (pu (bin Try.prog .sub 3 y15 y17) g5_4) fun cG g5_5=>
 ae (some (cG,g5_5)) fun y4_1 g5_6=>
 (match (cE true (ba y16 g5_1) y17&&true) with
 |true=>
 let h:=g5_6
 some (y4_1,h)
 |false=>none)
 |_=>none)
theorem t73_eq (C:al) (x0 x1:Value) (h:ah):bw Try.prog C Try.f73 [x0,x1] h=t73 C x0 x1 h:=
 (aK Try.prog C Try.f73 [x0,x1] h (by kernel_rfl)).trans (by kernel_rfl)
noncomputable def t75 (C:al) (x0 x1:Value) (h:ah):Out:=
 ae (box x0 h) fun y2 h=>
 ae (box x1 h) fun y3 h=>
 ae (some ((.int .i64 0),h)) fun _y4 h=>
 ae (ch 6 y2 h) fun y5 h=>
 ae (ch 8 y3 h) fun y6 h=>
 ae (C 68 [y5,y6] h) fun y7 h=>
 ae (pu (unA .not y7) h) fun y8 h=>
 ae (some (y8,h)) fun y9 h=>
 ae (ao (aZ y9==some false) (pu (aL y3 1) h) h) fun bM h=>
 ae (ao (aZ y9==some false) (ba bM h) h) fun bY h=>
 ae (ao (aZ y9==some false) (pu (bin Try.prog .lss 3 bY (.int .i64 0)) h) h) fun bX h=>
 ae (match y9 with | .bool t=>some (if t then (.bool true) else bX,h)|_=>none) fun bR h=>
 (match bR with
 | .bool true=>
 ae (some ((.int .i64 0),h)) fun y4_1 h=>
 some (y4_1,h)
 | .bool false=>
 let g5_0:=h
 ae (pu (aL y3 3) g5_0) fun bQ g5_1=>
 ae (ba bQ g5_1) fun y15 g5_2=>
 ae (ch 6 y2 g5_2) fun y16 g5_3=>
 ae (C 46 [y16] g5_3) fun y17 g5_4=>
 ae (pu (bin Try.prog .mul 3 y15 y17) g5_4) fun cG g5_5=>
 ae (pu (bin Try.prog .add 3 (.int .i64 2) cG) g5_5) fun cK g5_6=>
 ae (some (cK,g5_6)) fun y4_1 g5_7=>
 (match (cE true (ba bQ g5_4) y15&&true) with
 |true=>
 let h:=g5_7
 some (y4_1,h)
 |false=>none)
 |_=>none)
theorem t75_eq (C:al) (x0 x1:Value) (h:ah):bw Try.prog C Try.f75 [x0,x1] h=t75 C x0 x1 h:=
 (aK Try.prog C Try.f75 [x0,x1] h (by kernel_rfl)).trans (by kernel_rfl)
noncomputable def k76_10 (C:al) (e:Env) (h:ah):Out:=cB Try.prog C (partOf Try.f76 [1,1,1,1,1,1]) e h (au Try.prog Try.f76.results.toList) (au Try.prog Try.f76.results.toList) (fun _ _ _=>none)
noncomputable def b76_12 (C:al) (i:Nat) (e:Env) (h:ah):Out:=if i=0 then (k76_10 C) e h else (fun _ _ _=>none) i e h
noncomputable def t76 (C:al) (x0 x1 x2 x3:Value) (h:ah):Out:=
 ae (box x0 h) fun y4 h=>
 ae (some ((.slice none 0 0),h)) fun y8 h=>
 ae (some ((.int .i64 0),h)) fun y9 h=>
 ae (some ((.bool false),h)) fun bM h=>
 ae (some (x3,h)) fun y15 h=>
 ae (pu (bin Try.prog .lss 3 y15 (.int .i64 0)) h) fun y16 h=>
 ae (some (y16,h)) fun y17 h=>
 ae (ao (aZ y17==some false) (some (x3,h)) h) fun cG h=>
 ae (ao (aZ y17==some false) (ch 6 y4 h) h) fun cK h=>
 ae (ao (aZ y17==some false) (C 46 [cK] h) h) fun y20 h=>
 ae (ao (aZ y17==some false) (pu (bin Try.prog .geq 3 cG y20) h) h) fun y21 h=>
 ae (match y17 with | .bool t=>some (if t then (.bool true) else y21,h)|_=>none) fun y22 h=>
 (match y22 with
 | .bool true=>
 ae (some ((.slice none 0 0),h)) fun y8_1 h=>
 ae (some ((.int .i64 0),h)) fun y9_1 h=>
 ae (some ((.bool false),h)) fun y10_1 h=>
 some (.tuple #[y8_1,y9_1,y10_1],h)
 | .bool false=>
 ae (ch 6 y4 h) fun de h=>
 ae (some (x1,h)) fun y24 h=>
 ae (some (x3,h)) fun y25 h=>
 ae (C 97 [de,y24,y25] h) fun y26 h=>
 ae (dB [(.bool false),(.int .u64 0),(.int .i64 0),(.int .i64 0),(.slice none 0 0)] h) fun bY h=>
 ae (cf 5 bY y26 h) fun _ h=>
 let g7_0:=h
 ae (pu (aL bY 0) g7_0) fun y27 g7_1=>
 ae (ba y27 g7_1) fun y28 g7_2=>
 ae (pu (unA .not y28) g7_2) fun y29 g7_3=>
 ae (some (y29,g7_3)) fun y30 g7_4=>
 ae (ao (aZ y30==some false) (pu (aL bY 1) g7_4) g7_4) fun y31 g7_5=>
 ae (ao (aZ y30==some false) (ba y31 g7_5) g7_5) fun y32 g7_6=>
 ae (ao (aZ y30==some false) (some (x2,g7_6)) g7_6) fun y33 g7_7=>
 ae (ao (aZ y30==some false) (pu (bin Try.prog .neq 58 y32 y33) g7_7) g7_7) fun y34 g7_8=>
 ae (match y30 with | .bool t=>some (if t then (.bool true) else y34,g7_8)|_=>none) fun y35 g7_9=>
 ae (some (y35,g7_9)) fun y36 g7_10=>
 ae (ao (aZ y36==some false) (pu (aL bY 2) g7_10) g7_10) fun y37 g7_11=>
 ae (ao (aZ y36==some false) (ba y37 g7_11) g7_11) fun y38 g7_12=>
 ae (ao (aZ y36==some false) (pu (bin Try.prog .neq 3 y38 (.int .i64 0)) g7_12) g7_12) fun y39 g7_13=>
 ae (match y36 with | .bool t=>some (if t then (.bool true) else y39,g7_13)|_=>none) fun y40 g7_14=>
 ae (some (y40,g7_14)) fun y41 g7_15=>
 ae (ao (aZ y41==some false) (pu (aL bY 3) g7_15) g7_15) fun y42 g7_16=>
 ae (ao (aZ y41==some false) (ba y42 g7_16) g7_16) fun y43 g7_17=>
 ae (ao (aZ y41==some false) (ch 6 y4 g7_17) g7_17) fun y44 g7_18=>
 ae (ao (aZ y41==some false) (C 46 [y44] g7_18) g7_18) fun y45 g7_19=>
 ae (ao (aZ y41==some false) (some (x3,g7_19)) g7_19) fun y46 g7_20=>
 ae (ao (aZ y41==some false) (pu (bin Try.prog .sub 3 y45 y46) g7_20) g7_20) fun y47 g7_21=>
 ae (ao (aZ y41==some false) (pu (bin Try.prog .gtr 3 y43 y47) g7_21) g7_21) fun y48 g7_22=>
 ae (match y41 with | .bool t=>some (if t then (.bool true) else y48,g7_22)|_=>none) fun y49 g7_23=>
 (match (cE (aZ y41==some false) (ba y42 g7_19) y43&&true) with
 |true=>
 let h:=g7_23
 (match y49 with
 | .bool true=>
 ae (some ((.slice none 0 0),h)) fun y8_1 h=>
 ae (some ((.int .i64 0),h)) fun y9_1 h=>
 ae (some ((.bool false),h)) fun y10_1 h=>
 some (.tuple #[y8_1,y9_1,y10_1],h)
 | .bool false=>
 ae (cX 1 (.int .u8 0) 0 [] h) fun y50 h=>
 ae (some (y50,h)) fun bX h=>
 ae (some ((.int .i64 0),h)) fun bR h=>
 dD (iter (aI Try.prog C (partOf Try.f76 [1,1,1,1,1,0,1,0,0])) rounds (aY 92 (up (bs [x0,x1,x2,x3]) [(4,y4),(8,y8),(9,y9),(10,bM),(11,bY),(12,bX),(13,bR),(15,y15),(16,y16),(17,y17),(18,cG),(19,cK),(20,y20),(21,y21),(22,y22),(23,de),(24,y24),(25,y25),(26,y26),(27,y27),(28,y28),(29,y29),(30,y30),(31,y31),(32,y32),(33,y33),(34,y34),(35,y35),(36,y36),(37,y37),(38,y38),(39,y39),(40,y40),(41,y41),(42,y42),(43,y43),(44,y44),(45,y45),(46,y46),(47,y47),(48,y48),(49,y49),(50,y50)])) h) (au Try.prog Try.f76.results.toList) (b76_12 C)
 |_=>none)
 |false=>none)
 |_=>none)
noncomputable def t76k76_10 (_C:al) (x:Nat→Value) (h:ah):Out:=
 ae (some ((x 12),h)) fun y89 h=>
 ae (pu (aL (x 11) 3) h) fun y90 h=>
 ae (ba y90 h) fun y91 h=>
 ae (some (y89,h)) fun y8 h=>
 ae (some (y91,h)) fun y9 h=>
 ae (some ((.bool true),h)) fun bM h=>
 some (.tuple #[y8,y9,bM],h)
noncomputable def hZ (C:al) (x:Nat→Value) (h:ah):Option (Ex×Env×ah):=
 ae (some ((x 13),h)) fun y51 h=>
 ae (pu (aL (x 11) 3) h) fun y52 h=>
 ae (ba y52 h) fun y53 h=>
 ae (pu (bin Try.prog .lss 3 y51 y53) h) fun y54 h=>
 (match y54 with
 | .bool true=>
 ae (ch 6 (x 4) h) fun y57 h=>
 ae (some ((x 1),h)) fun y58 h=>
 ae (some ((x 3),h)) fun y59 h=>
 ae (some ((x 13),h)) fun y60 h=>
 ae (pu (bin Try.prog .add 3 y59 y60) h) fun y61 h=>
 ae (C 97 [y57,y58,y61] h) fun y62 h=>
 ae (dB [(.bool false),(.int .u64 0),(.int .i64 0),(.int .i64 0),(.slice none 0 0)] h) fun bQ h=>
 ae (cf 5 bQ y62 h) fun _ h=>
 ae (pu (aL bQ 0) h) fun y63 h=>
 ae (ba y63 h) fun y64 h=>
 ae (pu (unA .not y64) h) fun y65 h=>
 ae (some (y65,h)) fun y66 h=>
 ae (ao (aZ y66==some false) (pu (aL bQ 1) h) h) fun y67 h=>
 ae (ao (aZ y66==some false) (ba y67 h) h) fun y68 h=>
 ae (ao (aZ y66==some false) (some ((x 2),h)) h) fun y69 h=>
 ae (ao (aZ y66==some false) (pu (bin Try.prog .neq 58 y68 y69) h) h) fun y70 h=>
 ae (match y66 with | .bool t=>some (if t then (.bool true) else y70,h)|_=>none) fun y71 h=>
 ae (some (y71,h)) fun y72 h=>
 ae (ao (aZ y72==some false) (pu (aL bQ 2) h) h) fun y73 h=>
 ae (ao (aZ y72==some false) (ba y73 h) h) fun y74 h=>
 ae (ao (aZ y72==some false) (some ((x 13),h)) h) fun y75 h=>
 ae (ao (aZ y72==some false) (pu (bin Try.prog .neq 3 y74 y75) h) h) fun y76 h=>
 ae (match y72 with | .bool t=>some (if t then (.bool true) else y76,h)|_=>none) fun y77 h=>
 ae (some (y77,h)) fun y78 h=>
 ae (ao (aZ y78==some false) (pu (aL bQ 3) h) h) fun y79 h=>
 ae (ao (aZ y78==some false) (ba y79 h) h) fun y80 h=>
 ae (ao (aZ y78==some false) (pu (aL (x 11) 3) h) h) fun y81 h=>
 ae (ao (aZ y78==some false) (ba y81 h) h) fun y82 h=>
 ae (ao (aZ y78==some false) (pu (bin Try.prog .neq 3 y80 y82) h) h) fun y83 h=>
 ae (match y78 with | .bool t=>some (if t then (.bool true) else y83,h)|_=>none) fun y84 h=>
 (match y84 with
 | .bool true=>
 ae (some ((.slice none 0 0),h)) fun y8 h=>
 ae (some ((.int .i64 0),h)) fun y9 h=>
 ae (some ((.bool false),h)) fun bM h=>
 some (.ret,(aY 92 (up x [(8,y8),(9,y9),(10,bM),(14,bQ),(51,y51),(52,y52),(53,y53),(54,y54),(57,y57),(58,y58),(59,y59),(60,y60),(61,y61),(62,y62),(63,y63),(64,y64),(65,y65),(66,y66),(67,y67),(68,y68),(69,y69),(70,y70),(71,y71),(72,y72),(73,y73),(74,y74),(75,y75),(76,y76),(77,y77),(78,y78),(79,y79),(80,y80),(81,y81),(82,y82),(83,y83),(84,y84)])),h)
 | .bool false=>
 ae (some ((x 12),h)) fun y85 h=>
 ae (pu (aL bQ 4) h) fun y86 h=>
 ae (ba y86 h) fun y87 h=>
 ae (bo 1 1 y85 y87 h) fun y88 h=>
 ae (some (y88,h)) fun bX h=>
 ae (some ((x 13),h)) fun y55 h=>
 ae (pu (bin Try.prog .add 3 y55 (.int .i64 1)) h) fun y56 h=>
 ae (some (y56,h)) fun bR h=>
 some (.normal,(aY 92 (up x [(12,bX),(13,bR),(14,bQ),(51,y51),(52,y52),(53,y53),(54,y54),(55,y55),(56,y56),(57,y57),(58,y58),(59,y59),(60,y60),(61,y61),(62,y62),(63,y63),(64,y64),(65,y65),(66,y66),(67,y67),(68,y68),(69,y69),(70,y70),(71,y71),(72,y72),(73,y73),(74,y74),(75,y75),(76,y76),(77,y77),(78,y78),(79,y79),(80,y80),(81,y81),(82,y82),(83,y83),(84,y84),(85,y85),(86,y86),(87,y87),(88,y88)])),h)
 |_=>none)
 | .bool false=>
 some (.exit 0,(aY 92 (up x [(51,y51),(52,y52),(53,y53),(54,y54)])),h)
 |_=>none)
theorem t76_eq (C:al) (x0 x1 x2 x3:Value) (h:ah):bw Try.prog C Try.f76 [x0,x1,x2,x3] h=t76 C x0 x1 x2 x3 h:=
 (aK Try.prog C Try.f76 [x0,x1,x2,x3] h (by kernel_rfl)).trans (by kernel_rfl)
theorem t76k76_10_eq (C:al) (x:Nat→Value) (h:ah):k76_10 C (aY 92 x) h=t76k76_10 C x h:=
 bt (b:=(partOf Try.f76 [1,1,1,1,1,1])) (kE:=(au Try.prog Try.f76.results.toList)) (rE:=(au Try.prog Try.f76.results.toList)) (xE:=(fun _ _ _=>none)) (T:=t76k76_10 C) (fun x h=>by kernel_rfl) x h
theorem t76l76_11111010_eq (C:al) (x:Nat→Value) (h:ah):aI Try.prog C (partOf Try.f76 [1,1,1,1,1,0,1,0,0]) (aY 92 x) h=hZ C x h:=
 bj (T:=hZ C) (fun x h=>by kernel_rfl) x h
noncomputable def t79 (_C:al) (x0:Value) (h:ah):Out:=
 ae (box x0 h) fun y1 h=>
 ae (dB [(.slice none 0 0),(.bool false),(.bool false),(.int .i64 0),(.int .i64 0),(.int .i64 0)] h) fun y2 h=>
 ae (pu (aL y1 1) h) fun y3 h=>
 ae (ba y3 h) fun y4 h=>
 ae (pu (unA .not y4) h) fun y5 h=>
 (match y5 with
 | .bool true=>
 ae (pu (aL y1 5) h) fun y6 h=>
 ae (ba y6 h) fun y7 h=>
 ae (pu (bin Try.prog .add 3 y7 (.int .i64 1)) h) fun y8 h=>
 ae (pu (aL y1 5) h) fun y9 h=>
 ae (cf 1 y9 y8 h) fun _ h=>
 ae (pu (aL y1 1) h) fun bM h=>
 ae (cf 1 bM (.bool true) h) fun _ h=>
 ae (pu (aL y1 2) h) fun bY h=>
 ae (cf 1 bY (.bool false) h) fun _ h=>
 ae (pu (aL y1 3) h) fun bX h=>
 ae (cf 1 bX (.int .i64 0) h) fun _ h=>
 ae (pu (aL y1 4) h) fun bR h=>
 ae (cf 1 bR (.int .i64 0) h) fun _ h=>
 ae (ch 6 y1 h) fun bQ h=>
 ae (cf 6 y2 bQ h) fun _ h=>
 au Try.prog Try.f79.results.toList (aY 15 (up (bs [x0]) [(1,y1),(2,y2),(3,y3),(4,y4),(5,y5),(6,y6),(7,y7),(8,y8),(9,y9),(10,bM),(11,bY),(12,bX),(13,bR),(14,bQ)])) h
 | .bool false=>
 ae (pu (aL y1 1) h) fun bM h=>
 ae (cf 1 bM (.bool true) h) fun _ h=>
 ae (pu (aL y1 2) h) fun bY h=>
 ae (cf 1 bY (.bool false) h) fun _ h=>
 ae (pu (aL y1 3) h) fun bX h=>
 ae (cf 1 bX (.int .i64 0) h) fun _ h=>
 ae (pu (aL y1 4) h) fun bR h=>
 ae (cf 1 bR (.int .i64 0) h) fun _ h=>
 ae (ch 6 y1 h) fun bQ h=>
 ae (cf 6 y2 bQ h) fun _ h=>
 au Try.prog Try.f79.results.toList (aY 15 (up (bs [x0]) [(1,y1),(2,y2),(3,y3),(4,y4),(5,y5),(10,bM),(11,bY),(12,bX),(13,bR),(14,bQ)])) h
 |_=>none)
theorem t79_eq (C:al) (x0:Value) (h:ah):bw Try.prog C Try.f79 [x0] h=t79 C x0 h:=
 (aK Try.prog C Try.f79 [x0] h (by kernel_rfl)).trans (by kernel_rfl)
noncomputable def t96 (C:al) (x0 x1:Value) (h:ah):Out:=
 ae (box x0 h) fun y2 h=>
 ae (dB [(.bool false),(.int .u64 0),(.int .i64 0)] h) fun y4 h=>
 ae (ch 6 y2 h) fun y6 h=>
 ae (some (x1,h)) fun y7 h=>
 ae (C 104 [y6,y7] h) fun y8 h=>
 ae (some (y8,h)) fun y5 h=>
 ae (some (y5,h)) fun y9 h=>
 ae (C 72 [y9] h) fun bM h=>
 ae (pu (unA .not bM) h) fun bY h=>
 ae (some (bY,h)) fun bX h=>
 ae (ao (aZ bX==some false) (some (y5,h)) h) fun bR h=>
 ae (ao (aZ bX==some false) (pu (slR 1 bR (some (.int .i64 4)) (some (.int .i64 8)) none) h) h) fun bQ h=>
 ae (ao (aZ bX==some false) (cvBS bQ h) h) fun y15 h=>
 ae (ao (aZ bX==some false) (pu (bin Try.prog .neq 9 y15 (.string ⟨#[83,84,79,76]⟩)) h) h) fun y16 h=>
 ae (match bX with | .bool t=>some (if t then (.bool true) else y16,h)|_=>none) fun y17 h=>
 ae (some (y17,h)) fun cG h=>
 ae (ao (aZ cG==some false) (some (y5,h)) h) fun cK h=>
 ae (ao (aZ cG==some false) (pu (cd 1 cK (.int .i64 16)) h) h) fun y20 h=>
 ae (ao (aZ cG==some false) (ba y20 h) h) fun y21 h=>
 ae (ao (aZ cG==some false) (pu (bin Try.prog .gtr 5 y21 (.int .u8 1)) h) h) fun y22 h=>
 ae (match cG with | .bool t=>some (if t then (.bool true) else y22,h)|_=>none) fun de h=>
 (match de with
 | .bool true=>
 ae (pu (fU [(.bool false),(.int .u64 0),(.int .i64 0)] []) h) fun y24 h=>
 ae (cf 3 y4 y24 h) fun _ h=>
 au Try.prog Try.f96.results.toList (aY 33 (up (bs [x0,x1]) [(2,y2),(4,y4),(5,y5),(6,y6),(7,y7),(8,y8),(9,y9),(10,bM),(11,bY),(12,bX),(13,bR),(14,bQ),(15,y15),(16,y16),(17,y17),(18,cG),(19,cK),(20,y20),(21,y21),(22,y22),(23,de),(24,y24)])) h
 | .bool false=>
 let g6_0:=h
 ae (some (y5,g6_0)) fun y25 g6_1=>
 ae (pu (slR 1 y25 (some (.int .i64 8)) (some (.int .i64 16)) none) g6_1) fun y26 g6_2=>
 ae (C 102 [y26] g6_2) fun y27 g6_3=>
 ae (some (y5,g6_3)) fun y28 g6_4=>
 ae (pu (cd 1 y28 (.int .i64 16)) g6_4) fun y29 g6_5=>
 ae (ba y29 g6_5) fun y30 g6_6=>
 ae (cvI .i64 y30 g6_6) fun y31 g6_7=>
 ae (pu (fU [(.bool false),(.int .u64 0),(.int .i64 0)] [(0,1,(.bool true)),(1,1,y27),(2,1,y31)]) g6_7) fun y32 g6_8=>
 ae (cf 3 y4 y32 g6_8) fun _ g6_9=>
 (match (cE true (ba y29 g6_2) y30&&(cE true (cvI .i64 y30 g6_2) y31&&true)) with
 |true=>
 let h:=g6_9
 au Try.prog Try.f96.results.toList (aY 33 (up (bs [x0,x1]) [(2,y2),(4,y4),(5,y5),(6,y6),(7,y7),(8,y8),(9,y9),(10,bM),(11,bY),(12,bX),(13,bR),(14,bQ),(15,y15),(16,y16),(17,y17),(18,cG),(19,cK),(20,y20),(21,y21),(22,y22),(23,de),(25,y25),(26,y26),(27,y27),(28,y28),(29,y29),(30,y30),(31,y31),(32,y32)])) h
 |false=>none)
 |_=>none)
theorem t96_eq (C:al) (x0 x1:Value) (h:ah):bw Try.prog C Try.f96 [x0,x1] h=t96 C x0 x1 h:=
 (aK Try.prog C Try.f96 [x0,x1] h (by kernel_rfl)).trans (by kernel_rfl)
noncomputable def t97 (C:al) (x0 x1 x2:Value) (h:ah):Out:=
 ae (box x0 h) fun y3 h=>
 ae (dB [(.bool false),(.int .u64 0),(.int .i64 0),(.int .i64 0),(.slice none 0 0)] h) fun y6 h=>
 let g2_0:=h
 ae (ch 6 y3 g2_0) fun bM g2_1=>
 ae (some (x1,g2_1)) fun bY g2_2=>
 ae (ch 6 y3 g2_2) fun bX g2_3=>
 ae (C 46 [bX] g2_3) fun bR g2_4=>
 ae (pu (bin Try.prog .mul 3 bY bR) g2_4) fun bQ g2_5=>
 ae (pu (bin Try.prog .add 3 (.int .i64 2) bQ) g2_5) fun y15 g2_6=>
 ae (some (x2,g2_6)) fun y16 g2_7=>
 ae (pu (bin Try.prog .add 3 y15 y16) g2_7) fun y17 g2_8=>
 ae (C 104 [bM,y17] g2_8) fun cG g2_9=>
 ae (some (cG,g2_9)) fun y7 g2_10=>
 (match (cE true (ch 6 y3 g2_4) bM&&true) with
 |true=>
 let h:=g2_10
 let g4_0:=h
 ae (some (y7,g4_0)) fun cK g4_1=>
 ae (pu (slR 1 cK (some (.int .i64 4)) (some (.int .i64 12)) none) g4_1) fun y20 g4_2=>
 ae (C 102 [y20] g4_2) fun y21 g4_3=>
 ae (some (y7,g4_3)) fun y22 g4_4=>
 ae (pu (slR 1 y22 (some (.int .i64 16)) (some (.int .i64 18)) none) g4_4) fun de g4_5=>
 ae (C 102 [de] g4_5) fun y24 g4_6=>
 ae (cvI .i64 y24 g4_6) fun y25 g4_7=>
 ae (some (y7,g4_7)) fun y26 g4_8=>
 ae (pu (slR 1 y26 (some (.int .i64 18)) (some (.int .i64 20)) none) g4_8) fun y27 g4_9=>
 ae (C 102 [y27] g4_9) fun y28 g4_10=>
 ae (cvI .i64 y28 g4_10) fun y29 g4_11=>
 ae (pu (fU [(.bool false),(.int .u64 0),(.int .i64 0),(.int .i64 0),(.slice none 0 0)] [(0,1,(.bool true)),(1,1,y21),(2,1,y25),(3,1,y29),(4,1,(.slice none 0 0))]) g4_11) fun y30 g4_12=>
 ae (dB [(.bool false),(.int .u64 0),(.int .i64 0),(.int .i64 0),(.slice none 0 0)] g4_12) fun y8 g4_13=>
 ae (cf 5 y8 y30 g4_13) fun _ g4_14=>
 (match (cE true (cvI .i64 y24 g4_10) y25&&true) with
 |true=>
 let h:=g4_14
 ae (some (y7,h)) fun y31 h=>
 ae (pu (slR 1 y31 (some (.int .i64 20)) (some (.int .i64 22)) none) h) fun y32 h=>
 ae (C 102 [y32] h) fun y33 h=>
 ae (cvI .i64 y33 h) fun y34 h=>
 ae (some (y34,h)) fun y9 h=>
 ae (some (y7,h)) fun y35 h=>
 ae (C 72 [y35] h) fun y36 h=>
 ae (pu (unA .not y36) h) fun y37 h=>
 ae (some (y37,h)) fun y38 h=>
 ae (ao (aZ y38==some false) (some (y7,h)) h) fun y39 h=>
 ae (ao (aZ y38==some false) (pu (slR 1 y39 (some (.int .i64 12)) (some (.int .i64 16)) none) h) h) fun y40 h=>
 ae (ao (aZ y38==some false) (C 102 [y40] h) h) fun y41 h=>
 ae (ao (aZ y38==some false) (some (x2,h)) h) fun y42 h=>
 ae (ao (aZ y38==some false) (cvI .u64 y42 h) h) fun y43 h=>
 ae (ao (aZ y38==some false) (pu (bin Try.prog .neq 58 y41 y43) h) h) fun y44 h=>
 ae (match y38 with | .bool t=>some (if t then (.bool true) else y44,h)|_=>none) fun y45 h=>
 ae (some (y45,h)) fun y46 h=>
 ae (ao (aZ y46==some false) (pu (aL y8 3) h) h) fun y47 h=>
 ae (ao (aZ y46==some false) (ba y47 h) h) fun y48 h=>
 ae (ao (aZ y46==some false) (pu (bin Try.prog .lss 3 y48 (.int .i64 1)) h) h) fun y49 h=>
 ae (match y46 with | .bool t=>some (if t then (.bool true) else y49,h)|_=>none) fun y50 h=>
 ae (some (y50,h)) fun y51 h=>
 ae (ao (aZ y51==some false) (pu (aL y8 2) h) h) fun y52 h=>
 ae (ao (aZ y51==some false) (ba y52 h) h) fun y53 h=>
 ae (ao (aZ y51==some false) (pu (aL y8 3) h) h) fun y54 h=>
 ae (ao (aZ y51==some false) (ba y54 h) h) fun y55 h=>
 ae (ao (aZ y51==some false) (pu (bin Try.prog .geq 3 y53 y55) h) h) fun y56 h=>
 ae (match y51 with | .bool t=>some (if t then (.bool true) else y56,h)|_=>none) fun y57 h=>
 ae (some (y57,h)) fun y58 h=>
 ae (ao (aZ y58==some false) (some (y9,h)) h) fun y59 h=>
 ae (ao (aZ y58==some false) (pu (bin Try.prog .gtr 3 y59 (.int .i64 106)) h) h) fun y60 h=>
 ae (match y58 with | .bool t=>some (if t then (.bool true) else y60,h)|_=>none) fun y61 h=>
 (match y61 with
 | .bool true=>
 ae (pu (fU [(.bool false),(.int .u64 0),(.int .i64 0),(.int .i64 0),(.slice none 0 0)] []) h) fun y62 h=>
 ae (cf 5 y6 y62 h) fun _ h=>
 au Try.prog Try.f97.results.toList (aY 69 (up (bs [x0,x1,x2]) [(3,y3),(6,y6),(7,y7),(8,y8),(9,y9),(10,bM),(11,bY),(12,bX),(13,bR),(14,bQ),(15,y15),(16,y16),(17,y17),(18,cG),(19,cK),(20,y20),(21,y21),(22,y22),(23,de),(24,y24),(25,y25),(26,y26),(27,y27),(28,y28),(29,y29),(30,y30),(31,y31),(32,y32),(33,y33),(34,y34),(35,y35),(36,y36),(37,y37),(38,y38),(39,y39),(40,y40),(41,y41),(42,y42),(43,y43),(44,y44),(45,y45),(46,y46),(47,y47),(48,y48),(49,y49),(50,y50),(51,y51),(52,y52),(53,y53),(54,y54),(55,y55),(56,y56),(57,y57),(58,y58),(59,y59),(60,y60),(61,y61),(62,y62)])) h
 | .bool false=>
 ae (some (y7,h)) fun y63 h=>
 ae (some (y9,h)) fun y64 h=>
 ae (pu (bin Try.prog .add 3 (.int .i64 22) y64) h) fun y65 h=>
 ae (pu (slR 1 y63 (some (.int .i64 22)) (some y65) none) h) fun y66 h=>
 ae (pu (aL y8 4) h) fun y67 h=>
 ae (cf 1 y67 y66 h) fun _ h=>
 ae (ch 5 y8 h) fun y68 h=>
 ae (cf 5 y6 y68 h) fun _ h=>
 au Try.prog Try.f97.results.toList (aY 69 (up (bs [x0,x1,x2]) [(3,y3),(6,y6),(7,y7),(8,y8),(9,y9),(10,bM),(11,bY),(12,bX),(13,bR),(14,bQ),(15,y15),(16,y16),(17,y17),(18,cG),(19,cK),(20,y20),(21,y21),(22,y22),(23,de),(24,y24),(25,y25),(26,y26),(27,y27),(28,y28),(29,y29),(30,y30),(31,y31),(32,y32),(33,y33),(34,y34),(35,y35),(36,y36),(37,y37),(38,y38),(39,y39),(40,y40),(41,y41),(42,y42),(43,y43),(44,y44),(45,y45),(46,y46),(47,y47),(48,y48),(49,y49),(50,y50),(51,y51),(52,y52),(53,y53),(54,y54),(55,y55),(56,y56),(57,y57),(58,y58),(59,y59),(60,y60),(61,y61),(63,y63),(64,y64),(65,y65),(66,y66),(67,y67),(68,y68)])) h
 |_=>none)
 |false=>none)
 |false=>none)
theorem t97_eq (C:al) (x0 x1 x2:Value) (h:ah):bw Try.prog C Try.f97 [x0,x1,x2] h=t97 C x0 x1 x2 h:=
 (aK Try.prog C Try.f97 [x0,x1,x2] h (by kernel_rfl)).trans (by kernel_rfl)
noncomputable def t98 (C:al) (x0 x1 x2 x3 x4:Value) (h:ah):Out:=
 ae (some ((.slice none 0 0),h)) fun _bM h=>
 ae (some (x0,h)) fun bX h=>
 ae (C 100 [bX,(.int .i64 8)] h) fun bR h=>
 ae (some (x1,h)) fun bQ h=>
 ae (cvI .u64 bQ h) fun y15 h=>
 ae (C 100 [y15,(.int .i64 4)] h) fun y16 h=>
 ae (bo 1 1 bR y16 h) fun y17 h=>
 ae (some (y17,h)) fun bY h=>
 ae (some (bY,h)) fun cG h=>
 ae (some (x2,h)) fun cK h=>
 ae (cvI .u64 cK h) fun y20 h=>
 ae (C 100 [y20,(.int .i64 2)] h) fun y21 h=>
 ae (bo 1 1 cG y21 h) fun y22 h=>
 ae (some (x3,h)) fun de h=>
 ae (cvI .u64 de h) fun y24 h=>
 ae (C 100 [y24,(.int .i64 2)] h) fun y25 h=>
 ae (bo 1 1 y22 y25 h) fun y26 h=>
 ae (some (y26,h)) fun y11_1 h=>
 ae (some (y11_1,h)) fun y27 h=>
 ae (some (x4,h)) fun y28 h=>
 ae (pu (cH y28) h) fun y29 h=>
 ae (cvI .u64 y29 h) fun y30 h=>
 ae (C 100 [y30,(.int .i64 2)] h) fun y31 h=>
 ae (bo 1 1 y27 y31 h) fun y32 h=>
 ae (some (x4,h)) fun y33 h=>
 ae (bo 1 1 y32 y33 h) fun y34 h=>
 ae (C 101 [y34] h) fun y35 h=>
 ae (some (y35,h)) fun y10_1 h=>
 some (y10_1,h)
theorem t98_eq (C:al) (x0 x1 x2 x3 x4:Value) (h:ah):bw Try.prog C Try.f98 [x0,x1,x2,x3,x4] h=t98 C x0 x1 x2 x3 x4 h:=
 (aK Try.prog C Try.f98 [x0,x1,x2,x3,x4] h (by kernel_rfl)).trans (by kernel_rfl)
noncomputable def k99_2 (C:al) (e:Env) (h:ah):Out:=cB Try.prog C (partOf Try.f99 [1,1,1]) e h (au Try.prog Try.f99.results.toList) (au Try.prog Try.f99.results.toList) (fun _ _ _=>none)
noncomputable def b99_4 (C:al) (i:Nat) (e:Env) (h:ah):Out:=if i=0 then (k99_2 C) e h else (fun _ _ _=>none) i e h
noncomputable def t99 (C:al) (x0 x1 x2 x3:Value) (h:ah):Out:=
 ae (box x0 h) fun y4 h=>
 ae (dB [(.slice none 0 0),(.bool false),(.bool false),(.int .i64 0),(.int .i64 0),(.int .i64 0)] h) fun y8 h=>
 ae (cX 1 (.int .u8 0) 0 [] h) fun bY h=>
 ae (pu (aL y4 0) h) fun bX h=>
 ae (ba bX h) fun bR h=>
 ae (bo 1 1 bY bR h) fun bQ h=>
 ae (some (bQ,h)) fun y9 h=>
 ae (some ((.int .i64 0),h)) fun bM h=>
 dD (iter (aI Try.prog C (partOf Try.f99 [1,1,0,1,0,0])) rounds (aY 33 (up (bs [x0,x1,x2,x3]) [(4,y4),(8,y8),(9,y9),(10,bM),(11,bY),(12,bX),(13,bR),(14,bQ)])) h) (au Try.prog Try.f99.results.toList) (b99_4 C)
noncomputable def t99k99_2 (_C:al) (x:Nat→Value) (h:ah):Out:=
 ae (some ((x 9),h)) fun y30 h=>
 ae (pu (aL (x 4) 0) h) fun y31 h=>
 ae (cf 1 y31 y30 h) fun _ h=>
 ae (ch 6 (x 4) h) fun y32 h=>
 ae (cf 6 (x 8) y32 h) fun _ h=>
 au Try.prog Try.f99.results.toList (aY 33 (up x [(30,y30),(31,y31),(32,y32)])) h
noncomputable def t99l99_11010 (_C:al) (x:Nat→Value) (h:ah):Option (Ex×Env×ah):=
 ae (some ((x 10),h)) fun y15 h=>
 ae (some ((x 3),h)) fun y16 h=>
 ae (pu (bin Try.prog .lss 3 y15 y16) h) fun y17 h=>
 (match y17 with
 | .bool true=>
 ae (some ((x 9),h)) fun y20 h=>
 ae (some ((x 1),h)) fun y21 h=>
 ae (pu (bin Try.prog .mul 3 (.int .i64 128) y21) h) fun y22 h=>
 ae (some ((x 10),h)) fun de h=>
 ae (pu (bin Try.prog .add 3 y22 de) h) fun y24 h=>
 ae (some ((x 2),h)) fun y25 h=>
 ae (some ((x 10),h)) fun y26 h=>
 ae (pu (cd 1 y25 y26) h) fun y27 h=>
 ae (ba y27 h) fun y28 h=>
 ae (pu (cd 1 y20 y24) h) fun y29 h=>
 ae (cf 1 y29 y28 h) fun _ h=>
 ae (some ((x 10),h)) fun cG h=>
 ae (pu (bin Try.prog .add 3 cG (.int .i64 1)) h) fun cK h=>
 ae (some (cK,h)) fun bM h=>
 some (.normal,(aY 33 (up x [(10,bM),(15,y15),(16,y16),(17,y17),(18,cG),(19,cK),(20,y20),(21,y21),(22,y22),(23,de),(24,y24),(25,y25),(26,y26),(27,y27),(28,y28),(29,y29)])),h)
 | .bool false=>
 some (.exit 0,(aY 33 (up x [(15,y15),(16,y16),(17,y17)])),h)
 |_=>none)
theorem t99_eq (C:al) (x0 x1 x2 x3:Value) (h:ah):bw Try.prog C Try.f99 [x0,x1,x2,x3] h=t99 C x0 x1 x2 x3 h:=
 (aK Try.prog C Try.f99 [x0,x1,x2,x3] h (by kernel_rfl)).trans (by kernel_rfl)
theorem t99k99_2_eq (C:al) (x:Nat→Value) (h:ah):k99_2 C (aY 33 x) h=t99k99_2 C x h:=
 bt (b:=(partOf Try.f99 [1,1,1])) (kE:=(au Try.prog Try.f99.results.toList)) (rE:=(au Try.prog Try.f99.results.toList)) (xE:=(fun _ _ _=>none)) (T:=t99k99_2 C) (fun x h=>by kernel_rfl) x h
theorem t99l99_11010_eq (C:al) (x:Nat→Value) (h:ah):aI Try.prog C (partOf Try.f99 [1,1,0,1,0,0]) (aY 33 x) h=t99l99_11010 C x h:=
 bj (T:=t99l99_11010 C) (fun x h=>by kernel_rfl) x h
noncomputable def k100_2 (C:al) (e:Env) (h:ah):Out:=cB Try.prog C (partOf Try.f100 [1,1,1]) e h (au Try.prog Try.f100.results.toList) (au Try.prog Try.f100.results.toList) (fun _ _ _=>none)
noncomputable def b100_4 (C:al) (i:Nat) (e:Env) (h:ah):Out:=if i=0 then (k100_2 C) e h else (fun _ _ _=>none) i e h
noncomputable def t100 (C:al) (x0 x1:Value) (h:ah):Out:=
 ae (some ((.slice none 0 0),h)) fun y4 h=>
 ae (cX 1 (.int .u8 0) 0 [] h) fun y7 h=>
 ae (some (y7,h)) fun y5 h=>
 ae (some (x1,h)) fun y8 h=>
 ae (pu (bin Try.prog .sub 3 y8 (.int .i64 1)) h) fun y9 h=>
 ae (some (y9,h)) fun y6 h=>
 dD (iter (aI Try.prog C (partOf Try.f100 [1,1,0,1,0,0])) rounds (aY 24 (up (bs [x0,x1]) [(4,y4),(5,y5),(6,y6),(7,y7),(8,y8),(9,y9)])) h) (au Try.prog Try.f100.results.toList) (b100_4 C)
noncomputable def t100k100_2 (_C:al) (x:Nat→Value) (h:ah):Out:=
 ae (some ((x 5),h)) fun de h=>
 ae (some (de,h)) fun y4 h=>
 some (y4,h)
noncomputable def t100l100_11010 (_C:al) (x:Nat→Value) (h:ah):Option (Ex×Env×ah):=
 ae (some ((x 6),h)) fun bM h=>
 ae (pu (bin Try.prog .geq 3 bM (.int .i64 0)) h) fun bY h=>
 (match bY with
 | .bool true=>
 ae (some ((x 5),h)) fun bQ h=>
 ae (some ((x 0),h)) fun y15 h=>
 ae (some ((x 6),h)) fun y16 h=>
 ae (cvI .u64 y16 h) fun y17 h=>
 ae (pu (bin Try.prog .mul 149 (.int .u64 8) y17) h) fun cG h=>
 ae (pu (bin Try.prog .shr 58 y15 cG) h) fun cK h=>
 ae (cvI .u8 cK h) fun y20 h=>
 ae (cX 1 (.int .u8 0) 1 [(0,y20)] h) fun y21 h=>
 ae (bo 1 1 bQ y21 h) fun y22 h=>
 ae (some (y22,h)) fun y5 h=>
 ae (some ((x 6),h)) fun bX h=>
 ae (pu (bin Try.prog .sub 3 bX (.int .i64 1)) h) fun bR h=>
 ae (some (bR,h)) fun y6 h=>
 some (.normal,(aY 24 (up x [(5,y5),(6,y6),(10,bM),(11,bY),(12,bX),(13,bR),(14,bQ),(15,y15),(16,y16),(17,y17),(18,cG),(19,cK),(20,y20),(21,y21),(22,y22)])),h)
 | .bool false=>
 some (.exit 0,(aY 24 (up x [(10,bM),(11,bY)])),h)
 |_=>none)
theorem t100_eq (C:al) (x0 x1:Value) (h:ah):bw Try.prog C Try.f100 [x0,x1] h=t100 C x0 x1 h:=
 (aK Try.prog C Try.f100 [x0,x1] h (by kernel_rfl)).trans (by kernel_rfl)
theorem t100k100_2_eq (C:al) (x:Nat→Value) (h:ah):k100_2 C (aY 24 x) h=t100k100_2 C x h:=
 bt (b:=(partOf Try.f100 [1,1,1])) (kE:=(au Try.prog Try.f100.results.toList)) (rE:=(au Try.prog Try.f100.results.toList)) (xE:=(fun _ _ _=>none)) (T:=t100k100_2 C) (fun x h=>by kernel_rfl) x h
theorem t100l100_11010_eq (C:al) (x:Nat→Value) (h:ah):aI Try.prog C (partOf Try.f100 [1,1,0,1,0,0]) (aY 24 x) h=t100l100_11010 C x h:=
 bj (T:=t100l100_11010 C) (fun x h=>by kernel_rfl) x h
noncomputable def k101_1 (C:al) (e:Env) (h:ah):Out:=cB Try.prog C (partOf Try.f101 [1,1]) e h (au Try.prog Try.f101.results.toList) (au Try.prog Try.f101.results.toList) (fun _ _ _=>none)
noncomputable def b101_2 (C:al) (i:Nat) (e:Env) (h:ah):Out:=if i=0 then (k101_1 C) e h else (fun _ _ _=>none) i e h
noncomputable def t101 (C:al) (x0:Value) (h:ah):Out:=
 ae (some ((.slice none 0 0),h)) fun y2 h=>
 dD (iter (aI Try.prog C (partOf Try.f101 [1,0,0,0])) rounds (aY 15 (up (bs [x0]) [(2,y2)])) h) (au Try.prog Try.f101.results.toList) (b101_2 C)
noncomputable def t101k101_1 (C:al) (x:Nat→Value) (h:ah):Out:=
 ae (some ((x 0),h)) fun y9 h=>
 ae (C 103 [y9] h) fun bM h=>
 ae (cvI .u64 bM h) fun bY h=>
 ae (C 100 [bY,(.int .i64 4)] h) fun bX h=>
 ae (some ((x 0),h)) fun bR h=>
 ae (bo 1 1 bX bR h) fun bQ h=>
 ae (some (bQ,h)) fun y2 h=>
 some (y2,h)
noncomputable def t101l101_100 (_C:al) (x:Nat→Value) (h:ah):Option (Ex×Env×ah):=
 ae (some ((x 0),h)) fun y3 h=>
 ae (pu (cH y3) h) fun y4 h=>
 ae (pu (bin Try.prog .lss 3 y4 (.int .i64 124)) h) fun y5 h=>
 (match y5 with
 | .bool true=>
 ae (some ((x 0),h)) fun y6 h=>
 ae (cX 1 (.int .u8 0) 1 [(0,(.int .u8 0))] h) fun y7 h=>
 ae (bo 1 1 y6 y7 h) fun y8 h=>
 ae (some (y8,h)) fun y0 h=>
 some (.normal,(aY 15 (up x [(0,y0),(3,y3),(4,y4),(5,y5),(6,y6),(7,y7),(8,y8)])),h)
 | .bool false=>
 some (.exit 0,(aY 15 (up x [(3,y3),(4,y4),(5,y5)])),h)
 |_=>none)
theorem t101_eq (C:al) (x0:Value) (h:ah):bw Try.prog C Try.f101 [x0] h=t101 C x0 h:=
 (aK Try.prog C Try.f101 [x0] h (by kernel_rfl)).trans (by kernel_rfl)
theorem t101k101_1_eq (C:al) (x:Nat→Value) (h:ah):k101_1 C (aY 15 x) h=t101k101_1 C x h:=
 bt (b:=(partOf Try.f101 [1,1])) (kE:=(au Try.prog Try.f101.results.toList)) (rE:=(au Try.prog Try.f101.results.toList)) (xE:=(fun _ _ _=>none)) (T:=t101k101_1 C) (fun x h=>by kernel_rfl) x h
theorem t101l101_100_eq (C:al) (x:Nat→Value) (h:ah):aI Try.prog C (partOf Try.f101 [1,0,0,0]) (aY 15 x) h=t101l101_100 C x h:=
 bj (T:=t101l101_100 C) (fun x h=>by kernel_rfl) x h
noncomputable def k102_2 (C:al) (e:Env) (h:ah):Out:=cB Try.prog C (partOf Try.f102 [1,1,1]) e h (au Try.prog Try.f102.results.toList) (au Try.prog Try.f102.results.toList) (fun _ _ _=>none)
noncomputable def b102_4 (C:al) (i:Nat) (e:Env) (h:ah):Out:=if i=0 then (k102_2 C) e h else (fun _ _ _=>none) i e h
noncomputable def t102 (C:al) (x0:Value) (h:ah):Out:=
 ae (some ((.int .u64 0),h)) fun y2 h=>
 ae (some ((.int .u64 0),h)) fun y3 h=>
 ae (some ((.int .i64 0),h)) fun y4 h=>
 dD (iter (aI Try.prog C (partOf Try.f102 [1,1,0,1,0,0])) rounds (aY 20 (up (bs [x0]) [(2,y2),(3,y3),(4,y4)])) h) (au Try.prog Try.f102.results.toList) (b102_4 C)
noncomputable def t102k102_2 (_C:al) (x:Nat→Value) (h:ah):Out:=
 ae (some ((x 3),h)) fun cK h=>
 ae (some (cK,h)) fun y2 h=>
 some (y2,h)
noncomputable def t102l102_11010 (_C:al) (x:Nat→Value) (h:ah):Option (Ex×Env×ah):=
 ae (some ((x 4),h)) fun y5 h=>
 ae (some ((x 0),h)) fun y6 h=>
 ae (pu (cH y6) h) fun y7 h=>
 ae (pu (bin Try.prog .lss 3 y5 y7) h) fun y8 h=>
 (match y8 with
 | .bool true=>
 ae (some ((x 3),h)) fun bY h=>
 ae (pu (bin Try.prog .shl 58 bY (.int .u64 8)) h) fun bX h=>
 ae (some ((x 0),h)) fun bR h=>
 ae (some ((x 4),h)) fun bQ h=>
 ae (pu (cd 1 bR bQ) h) fun y15 h=>
 ae (ba y15 h) fun y16 h=>
 ae (cvI .u64 y16 h) fun y17 h=>
 ae (pu (bin Try.prog .or 58 bX y17) h) fun cG h=>
 ae (some (cG,h)) fun y3 h=>
 ae (some ((x 4),h)) fun y9 h=>
 ae (pu (bin Try.prog .add 3 y9 (.int .i64 1)) h) fun bM h=>
 ae (some (bM,h)) fun y4 h=>
 some (.normal,(aY 20 (up x [(3,y3),(4,y4),(5,y5),(6,y6),(7,y7),(8,y8),(9,y9),(10,bM),(11,bY),(12,bX),(13,bR),(14,bQ),(15,y15),(16,y16),(17,y17),(18,cG)])),h)
 | .bool false=>
 some (.exit 0,(aY 20 (up x [(5,y5),(6,y6),(7,y7),(8,y8)])),h)
 |_=>none)
theorem t102_eq (C:al) (x0:Value) (h:ah):bw Try.prog C Try.f102 [x0] h=t102 C x0 h:=
 (aK Try.prog C Try.f102 [x0] h (by kernel_rfl)).trans (by kernel_rfl)
theorem t102k102_2_eq (C:al) (x:Nat→Value) (h:ah):k102_2 C (aY 20 x) h=t102k102_2 C x h:=
 bt (b:=(partOf Try.f102 [1,1,1])) (kE:=(au Try.prog Try.f102.results.toList)) (rE:=(au Try.prog Try.f102.results.toList)) (xE:=(fun _ _ _=>none)) (T:=t102k102_2 C) (fun x h=>by kernel_rfl) x h
theorem t102l102_11010_eq (C:al) (x:Nat→Value) (h:ah):aI Try.prog C (partOf Try.f102 [1,1,0,1,0,0]) (aY 20 x) h=t102l102_11010 C x h:=
 bj (T:=t102l102_11010 C) (fun x h=>by kernel_rfl) x h
noncomputable def k103_2 (C:al) (e:Env) (h:ah):Out:=cB Try.prog C (partOf Try.f103 [1,1,1]) e h (au Try.prog Try.f103.results.toList) (au Try.prog Try.f103.results.toList) (fun _ _ _=>none)
noncomputable def b103_4 (C:al) (i:Nat) (e:Env) (h:ah):Out:=if i=0 then (k103_2 C) e h else (fun _ _ _=>none) i e h
noncomputable def k103_8 (C:al) (e:Env) (h:ah):Option (Ex×Env×ah):=cB Try.prog C (partOf Try.f103 [1,1,0,1,0,0,1,1]) e h (fun e h=>some (Ex.normal,e,h)) (fun e h=>some (Ex.ret,e,h)) (fun i e h=>some (Ex.exit i,e,h))
noncomputable def b103_9 (C:al) (i:Nat) (e:Env) (h:ah):Option (Ex×Env×ah):=if i=1 then (k103_8 C) e h else (fun i e h=>some (Ex.exit i,e,h)) i e h
noncomputable def b103_12 (C:al) (i:Nat) (e:Env) (h:ah):Option (Ex×Env×ah):=if i=2 then (k103_8 C) e h else (b103_9 C) i e h
noncomputable def t103 (C:al) (x0:Value) (h:ah):Out:=
 ae (some ((.int .u32 0),h)) fun y2 h=>
 ae (some ((.int .u32 4294967295),h)) fun y3 h=>
 ae (some ((.int .i64 0),h)) fun y4 h=>
 dD (iter (aI Try.prog C (partOf Try.f103 [1,1,0,1,0,0])) rounds (aY 33 (up (bs [x0]) [(2,y2),(3,y3),(4,y4)])) h) (au Try.prog Try.f103.results.toList) (b103_4 C)
noncomputable def t103k103_2 (_C:al) (x:Nat→Value) (h:ah):Out:=
 ae (some ((x 3),h)) fun y31 h=>
 ae (pu (unA .xor y31) h) fun y32 h=>
 ae (some (y32,h)) fun y2 h=>
 some (y2,h)
noncomputable def t103l103_11010 (C:al) (x:Nat→Value) (h:ah):Option (Ex×Env×ah):=
 ae (some ((x 4),h)) fun y6 h=>
 ae (some ((x 0),h)) fun y7 h=>
 ae (pu (cH y7) h) fun y8 h=>
 ae (pu (bin Try.prog .lss 3 y6 y8) h) fun y9 h=>
 (match y9 with
 | .bool true=>
 ae (some ((x 3),h)) fun bX h=>
 ae (some ((x 0),h)) fun bR h=>
 ae (some ((x 4),h)) fun bQ h=>
 ae (pu (cd 1 bR bQ) h) fun y15 h=>
 ae (ba y15 h) fun y16 h=>
 ae (cvI .u32 y16 h) fun y17 h=>
 ae (pu (bin Try.prog .xor 113 bX y17) h) fun cG h=>
 ae (some (cG,h)) fun y3 h=>
 ae (some ((.int .i64 0),h)) fun y5 h=>
 dD (iter (aI Try.prog C (partOf Try.f103 [1,1,0,1,0,0,1,0,0,1,1,0,0])) rounds (aY 33 (up x [(3,y3),(5,y5),(6,y6),(7,y7),(8,y8),(9,y9),(12,bX),(13,bR),(14,bQ),(15,y15),(16,y16),(17,y17),(18,cG)])) h) (fun e h=>some (Ex.ret,e,h)) (b103_12 C)
 | .bool false=>
 some (.exit 0,(aY 33 (up x [(6,y6),(7,y7),(8,y8),(9,y9)])),h)
 |_=>none)
noncomputable def t103k103_8 (_C:al) (x:Nat→Value) (h:ah):Option (Ex×Env×ah):=
 ae (some ((x 4),h)) fun bM h=>
 ae (pu (bin Try.prog .add 3 bM (.int .i64 1)) h) fun bY h=>
 ae (some (bY,h)) fun y4 h=>
 some (.normal,(aY 33 (up x [(4,y4),(10,bM),(11,bY)])),h)
noncomputable def fO (_C:al) (x:Nat→Value) (h:ah):Option (Ex×Env×ah):=
 ae (some ((x 5),h)) fun cK h=>
 ae (pu (bin Try.prog .lss 3 cK (.int .i64 8)) h) fun y20 h=>
 (match y20 with
 | .bool true=>
 ae (some ((x 3),h)) fun de h=>
 ae (pu (bin Try.prog .and 113 de (.int .u32 1)) h) fun y24 h=>
 ae (pu (bin Try.prog .eql 113 y24 (.int .u32 1)) h) fun y25 h=>
 (match y25 with
 | .bool true=>
 ae (some ((x 3),h)) fun y26 h=>
 ae (pu (bin Try.prog .shr 113 y26 (.int .u64 1)) h) fun y27 h=>
 ae (pu (bin Try.prog .xor 113 y27 (.int .u32 2197175160)) h) fun y28 h=>
 ae (some (y28,h)) fun y3 h=>
 ae (some ((x 5),h)) fun y21 h=>
 ae (pu (bin Try.prog .add 3 y21 (.int .i64 1)) h) fun y22 h=>
 ae (some (y22,h)) fun y5 h=>
 some (.normal,(aY 33 (up x [(3,y3),(5,y5),(19,cK),(20,y20),(21,y21),(22,y22),(23,de),(24,y24),(25,y25),(26,y26),(27,y27),(28,y28)])),h)
 | .bool false=>
 ae (some ((x 3),h)) fun y29 h=>
 ae (pu (bin Try.prog .shr 113 y29 (.int .u64 1)) h) fun y30 h=>
 ae (some (y30,h)) fun y3 h=>
 ae (some ((x 5),h)) fun y21 h=>
 ae (pu (bin Try.prog .add 3 y21 (.int .i64 1)) h) fun y22 h=>
 ae (some (y22,h)) fun y5 h=>
 some (.normal,(aY 33 (up x [(3,y3),(5,y5),(19,cK),(20,y20),(21,y21),(22,y22),(23,de),(24,y24),(25,y25),(29,y29),(30,y30)])),h)
 |_=>none)
 | .bool false=>
 some (.exit 2,(aY 33 (up x [(19,cK),(20,y20)])),h)
 |_=>none)
theorem t103_eq (C:al) (x0:Value) (h:ah):bw Try.prog C Try.f103 [x0] h=t103 C x0 h:=
 (aK Try.prog C Try.f103 [x0] h (by kernel_rfl)).trans (by kernel_rfl)
theorem t103k103_2_eq (C:al) (x:Nat→Value) (h:ah):k103_2 C (aY 33 x) h=t103k103_2 C x h:=
 bt (b:=(partOf Try.f103 [1,1,1])) (kE:=(au Try.prog Try.f103.results.toList)) (rE:=(au Try.prog Try.f103.results.toList)) (xE:=(fun _ _ _=>none)) (T:=t103k103_2 C) (fun x h=>by kernel_rfl) x h
theorem t103l103_11010_eq (C:al) (x:Nat→Value) (h:ah):aI Try.prog C (partOf Try.f103 [1,1,0,1,0,0]) (aY 33 x) h=t103l103_11010 C x h:=
 bj (T:=t103l103_11010 C) (fun x h=>by kernel_rfl) x h
theorem t103k103_8_eq (C:al) (x:Nat→Value) (h:ah):k103_8 C (aY 33 x) h=t103k103_8 C x h:=
 bt (b:=(partOf Try.f103 [1,1,0,1,0,0,1,1])) (kE:=(fun e h=>some (Ex.normal,e,h))) (rE:=(fun e h=>some (Ex.ret,e,h))) (xE:=(fun i e h=>some (Ex.exit i,e,h))) (T:=t103k103_8 C) (fun x h=>by kernel_rfl) x h
theorem t103l103_110100100110_eq (C:al) (x:Nat→Value) (h:ah):aI Try.prog C (partOf Try.f103 [1,1,0,1,0,0,1,0,0,1,1,0,0]) (aY 33 x) h=fO C x h:=
 bj (T:=fO C) (fun x h=>by kernel_rfl) x h
noncomputable def t104 (_C:al) (x0 x1:Value) (h:ah):Out:=
 ae (box x0 h) fun y2 h=>
 ae (some ((.slice none 0 0),h)) fun _y4 h=>
 ae (cX 1 (.int .u8 0) 0 [] h) fun y5 h=>
 ae (pu (aL y2 0) h) fun y6 h=>
 ae (ba y6 h) fun y7 h=>
 ae (some (x1,h)) fun y8 h=>
 ae (pu (bin Try.prog .mul 3 (.int .i64 128) y8) h) fun y9 h=>
 ae (some (x1,h)) fun bM h=>
 ae (pu (bin Try.prog .mul 3 (.int .i64 128) bM) h) fun bY h=>
 ae (pu (bin Try.prog .add 3 bY (.int .i64 128)) h) fun bX h=>
 ae (pu (slR 1 y7 (some y9) (some bX) none) h) fun bR h=>
 ae (bo 1 1 y5 bR h) fun bQ h=>
 ae (some (bQ,h)) fun y4_1 h=>
 some (y4_1,h)
theorem t104_eq (C:al) (x0 x1:Value) (h:ah):bw Try.prog C Try.f104 [x0,x1] h=t104 C x0 x1 h:=
 (aK Try.prog C Try.f104 [x0,x1] h (by kernel_rfl)).trans (by kernel_rfl)
noncomputable def t39 (C:al) (x0 x1:Value) (h:ah):Out:=
 ae (box x1 h) fun y3 h=>
 ae (pu (aL y3 0) h) fun y4 h=>
 ae (ba y4 h) fun y5 h=>
 (match y5 with
 | .bool true=>
 ae (some (x0,h)) fun y6 h=>
 ae (pu (aL y3 1) h) fun y7 h=>
 ae (ba y7 h) fun y8 h=>
 ae (pu (aL y3 2) h) fun y9 h=>
 ae (ba y9 h) fun bM h=>
 ae (C 48 [y6,y8,bM] h) fun _bY h=>
 some (.tuple #[],h)
 | .bool false=>
 some (.tuple #[],h)
 |_=>none)
theorem t39_eq (C:al) (x0 x1:Value) (h:ah):bw Try.prog C Try.f39 [x0,x1] h=t39 C x0 x1 h:=
 (aK Try.prog C Try.f39 [x0,x1] h (by kernel_rfl)).trans (by kernel_rfl)
noncomputable def k41_1 (C:al) (e:Env) (h:ah):Out:=cB Try.prog C (partOf Try.f41 [1,1]) e h (au Try.prog Try.f41.results.toList) (au Try.prog Try.f41.results.toList) (fun _ _ _=>none)
noncomputable def b41_3 (C:al) (i:Nat) (e:Env) (h:ah):Out:=if i=0 then (k41_1 C) e h else (fun _ _ _=>none) i e h
noncomputable def t41 (C:al) (x0 x1 x2:Value) (h:ah):Out:=
 ae (some ((.bool false),h)) fun y6 h=>
 ae (some ((.int .i64 0),h)) fun y7 h=>
 dD (iter (aI Try.prog C (partOf Try.f41 [1,0,1,0,0])) rounds (aY 47 (up (bs [x0,x1,x2]) [(6,y6),(7,y7)])) h) (au Try.prog Try.f41.results.toList) (b41_3 C)
noncomputable def t41k41_1 (_C:al) (_x:Nat→Value) (h:ah):Out:=
 ae (some ((.bool false),h)) fun y6 h=>
 some (y6,h)
noncomputable def t41l41_1010 (C:al) (x:Nat→Value) (h:ah):Option (Ex×Env×ah):=
 ae (some ((x 7),h)) fun y9 h=>
 ae (some ((x 2),h)) fun bM h=>
 ae (pu (cH bM) h) fun bY h=>
 ae (pu (bin Try.prog .lss 3 y9 bY) h) fun bX h=>
 (match bX with
 | .bool true=>
 ae (some ((x 2),h)) fun y15 h=>
 ae (some ((x 7),h)) fun y16 h=>
 ae (some ((x 7),h)) fun y17 h=>
 ae (pu (bin Try.prog .add 3 y17 (.int .i64 128)) h) fun cG h=>
 ae (pu (slR 1 y15 (some y16) (some cG) none) h) fun cK h=>
 ae (cvBS cK h) fun y20 h=>
 ae (some (y20,h)) fun y8 h=>
 ae (some (y8,h)) fun y21 h=>
 ae (some ((x 0),h)) fun y22 h=>
 ae (some ((x 7),h)) fun de h=>
 ae (some ((x 7),h)) fun y24 h=>
 ae (pu (bin Try.prog .add 3 y24 (.int .i64 128)) h) fun y25 h=>
 ae (pu (slR 1 y22 (some de) (some y25) none) h) fun y26 h=>
 ae (cvBS y26 h) fun y27 h=>
 ae (pu (bin Try.prog .neq 9 y21 y27) h) fun y28 h=>
 ae (some (y28,h)) fun y29 h=>
 ae (ao (aZ y29==some true) (some (y8,h)) h) fun y30 h=>
 ae (ao (aZ y29==some true) (some ((x 1),h)) h) fun y31 h=>
 ae (ao (aZ y29==some true) (some ((x 7),h)) h) fun y32 h=>
 ae (ao (aZ y29==some true) (some ((x 7),h)) h) fun y33 h=>
 ae (ao (aZ y29==some true) (pu (bin Try.prog .add 3 y33 (.int .i64 128)) h) h) fun y34 h=>
 ae (ao (aZ y29==some true) (pu (slR 1 y31 (some y32) (some y34) none) h) h) fun y35 h=>
 ae (ao (aZ y29==some true) (cvBS y35 h) h) fun y36 h=>
 ae (ao (aZ y29==some true) (pu (bin Try.prog .neq 9 y30 y36) h) h) fun y37 h=>
 ae (match y29 with | .bool t=>some (if t then y37 else (.bool false),h)|_=>none) fun y38 h=>
 ae (some (y38,h)) fun y39 h=>
 ae (ao (aZ y39==some true) (some ((x 2),h)) h) fun y40 h=>
 ae (ao (aZ y39==some true) (some ((x 7),h)) h) fun y41 h=>
 ae (ao (aZ y39==some true) (some ((x 7),h)) h) fun y42 h=>
 ae (ao (aZ y39==some true) (pu (bin Try.prog .add 3 y42 (.int .i64 128)) h) h) fun y43 h=>
 ae (ao (aZ y39==some true) (pu (slR 1 y40 (some y41) (some y43) none) h) h) fun y44 h=>
 ae (ao (aZ y39==some true) (C 72 [y44] h) h) fun y45 h=>
 ae (match y39 with | .bool t=>some (if t then y45 else (.bool false),h)|_=>none) fun y46 h=>
 (match y46 with
 | .bool true=>
 ae (some ((.bool true),h)) fun y6 h=>
 some (.ret,(aY 47 (up x [(6,y6),(8,y8),(9,y9),(10,bM),(11,bY),(12,bX),(15,y15),(16,y16),(17,y17),(18,cG),(19,cK),(20,y20),(21,y21),(22,y22),(23,de),(24,y24),(25,y25),(26,y26),(27,y27),(28,y28),(29,y29),(30,y30),(31,y31),(32,y32),(33,y33),(34,y34),(35,y35),(36,y36),(37,y37),(38,y38),(39,y39),(40,y40),(41,y41),(42,y42),(43,y43),(44,y44),(45,y45),(46,y46)])),h)
 | .bool false=>
 ae (some ((x 7),h)) fun bR h=>
 ae (pu (bin Try.prog .add 3 bR (.int .i64 128)) h) fun bQ h=>
 ae (some (bQ,h)) fun y7 h=>
 some (.normal,(aY 47 (up x [(7,y7),(8,y8),(9,y9),(10,bM),(11,bY),(12,bX),(13,bR),(14,bQ),(15,y15),(16,y16),(17,y17),(18,cG),(19,cK),(20,y20),(21,y21),(22,y22),(23,de),(24,y24),(25,y25),(26,y26),(27,y27),(28,y28),(29,y29),(30,y30),(31,y31),(32,y32),(33,y33),(34,y34),(35,y35),(36,y36),(37,y37),(38,y38),(39,y39),(40,y40),(41,y41),(42,y42),(43,y43),(44,y44),(45,y45),(46,y46)])),h)
 |_=>none)
 | .bool false=>
 some (.exit 0,(aY 47 (up x [(9,y9),(10,bM),(11,bY),(12,bX)])),h)
 |_=>none)
theorem t41_eq (C:al) (x0 x1 x2:Value) (h:ah):bw Try.prog C Try.f41 [x0,x1,x2] h=t41 C x0 x1 x2 h:=
 (aK Try.prog C Try.f41 [x0,x1,x2] h (by kernel_rfl)).trans (by kernel_rfl)
theorem t41k41_1_eq (C:al) (x:Nat→Value) (h:ah):k41_1 C (aY 47 x) h=t41k41_1 C x h:=
 bt (b:=(partOf Try.f41 [1,1])) (kE:=(au Try.prog Try.f41.results.toList)) (rE:=(au Try.prog Try.f41.results.toList)) (xE:=(fun _ _ _=>none)) (T:=t41k41_1 C) (fun x h=>by kernel_rfl) x h
theorem t41l41_1010_eq (C:al) (x:Nat→Value) (h:ah):aI Try.prog C (partOf Try.f41 [1,0,1,0,0]) (aY 47 x) h=t41l41_1010 C x h:=
 bj (T:=t41l41_1010 C) (fun x h=>by kernel_rfl) x h
end Go.Proofs.Ytcmfgmhadeeieaa

namespace Go.Proofs.Ytcmfgmhadeeieaa
open Go Go.Abs
end Go.Proofs.Ytcmfgmhadeeieaa

