/-
  A part of the proof, spaces and names shortened by a program (a claim may hold 1,500,000 bytes).
  Conditions: as each theorem states.
-/
import Derived.Test.YtjghlcdidopcpaaGreatDoorG6
import Derived.Test.YtjghlcdidopcpaaGreatDoorProg
import Derived.KernelRfl
namespace Go.Proofs.YtjghlcdidopcpaaGreatDoor
open Go Go.Abs
noncomputable def t13 (C:au) (x0:Value) (h:ai):Out:=
 ae (eQ [(.int .u8 0),(.int .i64 0),(.int .i64 0),(.int .u64 0),(.int .i64 0),(.int .i64 0),(.slice none 0 0),(.slice none 0 0),(.slice none 0 0),(.int .i64 0),(.int .u8 0),(.int .u8 0),(.int .u8 0),(.int .u8 0),(.int .u8 0),(.int .u8 0),(.int .u8 0),(.int .u8 0),(.int .u8 0),(.int .u8 0),(.int .u8 0),(.int .u8 0),(.int .u8 0),(.int .u8 0),(.int .u8 0),(.int .u8 0),(.int .u8 0),(.int .u8 0),(.int .u8 0),(.int .u8 0),(.int .u8 0),(.int .u8 0),(.int .u8 0),(.int .u8 0),(.int .u8 0),(.int .u8 0),(.int .u8 0),(.int .u8 0),(.int .u8 0),(.int .u8 0),(.int .u8 0),(.int .u8 0),(.slice none 0 0),(.bool false),(.int .u8 0),(.int .u8 0),(.int .u8 0),(.int .u8 0),(.int .u8 0),(.int .u8 0),(.int .u8 0),(.int .u8 0),(.int .u8 0),(.int .u8 0),(.int .u8 0),(.int .u8 0),(.int .u8 0),(.int .u8 0),(.int .u8 0),(.int .u8 0),(.int .u8 0),(.int .u8 0),(.int .u8 0),(.int .u8 0),(.int .u8 0),(.int .u8 0),(.int .u8 0),(.int .u8 0),(.int .u8 0),(.int .u8 0),(.int .u8 0),(.int .u8 0),(.int .u8 0),(.int .u8 0),(.int .u8 0),(.int .u8 0),(.int .i64 0),(.int .i64 0),(.int .i64 0),(.int .i64 0),(.int .u8 0),(.int .u8 0),(.int .u8 0),(.int .u8 0),(.int .u8 0),(.int .u8 0),(.int .u8 0),(.int .u8 0),(.int .u8 0),(.int .u8 0),(.int .u8 0),(.int .u8 0),(.int .u8 0),(.int .u8 0),(.int .u8 0),(.int .u8 0),(.int .u8 0),(.int .u8 0),(.int .u8 0),(.int .u8 0),(.int .u8 0),(.int .u8 0),(.int .u8 0),(.int .u8 0),(.int .u8 0),(.int .u8 0),(.int .u8 0),(.int .u8 0),(.int .u8 0),(.int .u8 0),(.int .u8 0),(.int .u8 0),(.slice none 0 0),(.int .i64 0),(.slice none 0 0),(.int .i64 0)] h) fun y2 h=>
 ae (some ((.int .i64 0),h)) fun _y3 h=>
 ae (some (x0,h)) fun y13 h=>
 ae (C 31 [y13] h) fun y14 h=>
 ae (some (y14,h)) fun y12 h=>
 ae (pu (bn y12 0) h) fun y15 h=>
 ae (pu (bn y12 1) h) fun y16 h=>
 ae (some (y15,h)) fun y4 h=>
 ae (some (y16,h)) fun y5 h=>
 ae (some (y5,h)) fun y18 h=>
 ae (pu (bin Tryz.prog .neq 35 y18 (.int .i64 0)) h) fun y19 h=>
 ae (some (y19,h)) fun y17 h=>
 (match y17 with
 | .bool true=>
 ae (pu (cI [(.int .u8 0),(.int .i64 0),(.int .i64 0),(.int .u64 0),(.int .i64 0),(.int .i64 0),(.slice none 0 0),(.slice none 0 0),(.slice none 0 0),(.int .i64 0),(.int .u8 0),(.int .u8 0),(.int .u8 0),(.int .u8 0),(.int .u8 0),(.int .u8 0),(.int .u8 0),(.int .u8 0),(.int .u8 0),(.int .u8 0),(.int .u8 0),(.int .u8 0),(.int .u8 0),(.int .u8 0),(.int .u8 0),(.int .u8 0),(.int .u8 0),(.int .u8 0),(.int .u8 0),(.int .u8 0),(.int .u8 0),(.int .u8 0),(.int .u8 0),(.int .u8 0),(.int .u8 0),(.int .u8 0),(.int .u8 0),(.int .u8 0),(.int .u8 0),(.int .u8 0),(.int .u8 0),(.int .u8 0),(.slice none 0 0),(.bool false),(.int .u8 0),(.int .u8 0),(.int .u8 0),(.int .u8 0),(.int .u8 0),(.int .u8 0),(.int .u8 0),(.int .u8 0),(.int .u8 0),(.int .u8 0),(.int .u8 0),(.int .u8 0),(.int .u8 0),(.int .u8 0),(.int .u8 0),(.int .u8 0),(.int .u8 0),(.int .u8 0),(.int .u8 0),(.int .u8 0),(.int .u8 0),(.int .u8 0),(.int .u8 0),(.int .u8 0),(.int .u8 0),(.int .u8 0),(.int .u8 0),(.int .u8 0),(.int .u8 0),(.int .u8 0),(.int .u8 0),(.int .u8 0),(.int .i64 0),(.int .i64 0),(.int .i64 0),(.int .i64 0),(.int .u8 0),(.int .u8 0),(.int .u8 0),(.int .u8 0),(.int .u8 0),(.int .u8 0),(.int .u8 0),(.int .u8 0),(.int .u8 0),(.int .u8 0),(.int .u8 0),(.int .u8 0),(.int .u8 0),(.int .u8 0),(.int .u8 0),(.int .u8 0),(.int .u8 0),(.int .u8 0),(.int .u8 0),(.int .u8 0),(.int .u8 0),(.int .u8 0),(.int .u8 0),(.int .u8 0),(.int .u8 0),(.int .u8 0),(.int .u8 0),(.int .u8 0),(.int .u8 0),(.int .u8 0),(.int .u8 0),(.int .u8 0),(.slice none 0 0),(.int .i64 0),(.slice none 0 0),(.int .i64 0)] []) h) fun y20 h=>
 ae (some (y5,h)) fun y21 h=>
 ae (cv 116 y2 y20 h) fun _ h=>
 ae (some (y21,h)) fun y3_1 h=>
 aw Tryz.prog Tryz.f13.results.toList (bE 92 (up (bs [x0]) [(2,y2),(3,y3_1),(4,y4),(5,y5),(12,y12),(13,y13),(14,y14),(15,y15),(16,y16),(17,y17),(18,y18),(19,y19),(20,y20),(21,y21)])) h
 | .bool false=>
 ae (some (x0,h)) fun y23 h=>
 ae (pu (bM y23) h) fun y24 h=>
 ae (some (y4,h)) fun y25 h=>
 ae (pu (bin Tryz.prog .lss 3 y24 y25) h) fun df h=>
 ae (some (df,h)) fun y22 h=>
 (match y22 with
 | .bool true=>
 ae (pu (cI [(.int .u8 0),(.int .i64 0),(.int .i64 0),(.int .u64 0),(.int .i64 0),(.int .i64 0),(.slice none 0 0),(.slice none 0 0),(.slice none 0 0),(.int .i64 0),(.int .u8 0),(.int .u8 0),(.int .u8 0),(.int .u8 0),(.int .u8 0),(.int .u8 0),(.int .u8 0),(.int .u8 0),(.int .u8 0),(.int .u8 0),(.int .u8 0),(.int .u8 0),(.int .u8 0),(.int .u8 0),(.int .u8 0),(.int .u8 0),(.int .u8 0),(.int .u8 0),(.int .u8 0),(.int .u8 0),(.int .u8 0),(.int .u8 0),(.int .u8 0),(.int .u8 0),(.int .u8 0),(.int .u8 0),(.int .u8 0),(.int .u8 0),(.int .u8 0),(.int .u8 0),(.int .u8 0),(.int .u8 0),(.slice none 0 0),(.bool false),(.int .u8 0),(.int .u8 0),(.int .u8 0),(.int .u8 0),(.int .u8 0),(.int .u8 0),(.int .u8 0),(.int .u8 0),(.int .u8 0),(.int .u8 0),(.int .u8 0),(.int .u8 0),(.int .u8 0),(.int .u8 0),(.int .u8 0),(.int .u8 0),(.int .u8 0),(.int .u8 0),(.int .u8 0),(.int .u8 0),(.int .u8 0),(.int .u8 0),(.int .u8 0),(.int .u8 0),(.int .u8 0),(.int .u8 0),(.int .u8 0),(.int .u8 0),(.int .u8 0),(.int .u8 0),(.int .u8 0),(.int .u8 0),(.int .i64 0),(.int .i64 0),(.int .i64 0),(.int .i64 0),(.int .u8 0),(.int .u8 0),(.int .u8 0),(.int .u8 0),(.int .u8 0),(.int .u8 0),(.int .u8 0),(.int .u8 0),(.int .u8 0),(.int .u8 0),(.int .u8 0),(.int .u8 0),(.int .u8 0),(.int .u8 0),(.int .u8 0),(.int .u8 0),(.int .u8 0),(.int .u8 0),(.int .u8 0),(.int .u8 0),(.int .u8 0),(.int .u8 0),(.int .u8 0),(.int .u8 0),(.int .u8 0),(.int .u8 0),(.int .u8 0),(.int .u8 0),(.int .u8 0),(.int .u8 0),(.int .u8 0),(.int .u8 0),(.slice none 0 0),(.int .i64 0),(.slice none 0 0),(.int .i64 0)] []) h) fun dE h=>
 ae (cv 116 y2 dE h) fun _ h=>
 ae (some ((.int .i64 4),h)) fun y3_1 h=>
 aw Tryz.prog Tryz.f13.results.toList (bE 92 (up (bs [x0]) [(2,y2),(3,y3_1),(4,y4),(5,y5),(12,y12),(13,y13),(14,y14),(15,y15),(16,y16),(17,y17),(18,y18),(19,y19),(22,y22),(23,y23),(24,y24),(25,y25),(26,df),(27,dE)])) h
 | .bool false=>
 ae (some (x0,h)) fun y29 h=>
 ae (pu (bM y29) h) fun y30 h=>
 ae (some (y4,h)) fun y31 h=>
 ae (pu (bin Tryz.prog .gtr 3 y30 y31) h) fun y32 h=>
 ae (some (y32,h)) fun y28 h=>
 (match y28 with
 | .bool true=>
 ae (pu (cI [(.int .u8 0),(.int .i64 0),(.int .i64 0),(.int .u64 0),(.int .i64 0),(.int .i64 0),(.slice none 0 0),(.slice none 0 0),(.slice none 0 0),(.int .i64 0),(.int .u8 0),(.int .u8 0),(.int .u8 0),(.int .u8 0),(.int .u8 0),(.int .u8 0),(.int .u8 0),(.int .u8 0),(.int .u8 0),(.int .u8 0),(.int .u8 0),(.int .u8 0),(.int .u8 0),(.int .u8 0),(.int .u8 0),(.int .u8 0),(.int .u8 0),(.int .u8 0),(.int .u8 0),(.int .u8 0),(.int .u8 0),(.int .u8 0),(.int .u8 0),(.int .u8 0),(.int .u8 0),(.int .u8 0),(.int .u8 0),(.int .u8 0),(.int .u8 0),(.int .u8 0),(.int .u8 0),(.int .u8 0),(.slice none 0 0),(.bool false),(.int .u8 0),(.int .u8 0),(.int .u8 0),(.int .u8 0),(.int .u8 0),(.int .u8 0),(.int .u8 0),(.int .u8 0),(.int .u8 0),(.int .u8 0),(.int .u8 0),(.int .u8 0),(.int .u8 0),(.int .u8 0),(.int .u8 0),(.int .u8 0),(.int .u8 0),(.int .u8 0),(.int .u8 0),(.int .u8 0),(.int .u8 0),(.int .u8 0),(.int .u8 0),(.int .u8 0),(.int .u8 0),(.int .u8 0),(.int .u8 0),(.int .u8 0),(.int .u8 0),(.int .u8 0),(.int .u8 0),(.int .u8 0),(.int .i64 0),(.int .i64 0),(.int .i64 0),(.int .i64 0),(.int .u8 0),(.int .u8 0),(.int .u8 0),(.int .u8 0),(.int .u8 0),(.int .u8 0),(.int .u8 0),(.int .u8 0),(.int .u8 0),(.int .u8 0),(.int .u8 0),(.int .u8 0),(.int .u8 0),(.int .u8 0),(.int .u8 0),(.int .u8 0),(.int .u8 0),(.int .u8 0),(.int .u8 0),(.int .u8 0),(.int .u8 0),(.int .u8 0),(.int .u8 0),(.int .u8 0),(.int .u8 0),(.int .u8 0),(.int .u8 0),(.int .u8 0),(.int .u8 0),(.int .u8 0),(.int .u8 0),(.int .u8 0),(.slice none 0 0),(.int .i64 0),(.slice none 0 0),(.int .i64 0)] []) h) fun y33 h=>
 ae (cv 116 y2 y33 h) fun _ h=>
 ae (some ((.int .i64 3),h)) fun y3_1 h=>
 aw Tryz.prog Tryz.f13.results.toList (bE 92 (up (bs [x0]) [(2,y2),(3,y3_1),(4,y4),(5,y5),(12,y12),(13,y13),(14,y14),(15,y15),(16,y16),(17,y17),(18,y18),(19,y19),(22,y22),(23,y23),(24,y24),(25,y25),(26,df),(28,y28),(29,y29),(30,y30),(31,y31),(32,y32),(33,y33)])) h
 | .bool false=>
 ae (some (x0,h)) fun y34 h=>
 ae (some (y4,h)) fun y35 h=>
 ae (pu (bin Tryz.prog .sub 3 y35 (.int .i64 4)) h) fun y36 h=>
 ae (pu (slR 1 y34 (some y36) none none) h) fun y37 h=>
 ae (C 32 [y37] h) fun y38 h=>
 ae (some (y38,h)) fun y6 h=>
 ae (some (y6,h)) fun y39 h=>
 ae (C 33 [y39] h) fun y40 h=>
 ae (some (x0,h)) fun y41 h=>
 ae (some (y4,h)) fun y42 h=>
 ae (pu (bin Tryz.prog .sub 3 y42 (.int .i64 4)) h) fun y43 h=>
 ae (pu (slR 1 y41 none (some y43) none) h) fun y44 h=>
 ae (C 34 [y44] h) fun y45 h=>
 ae (pu (bin Tryz.prog .neq 50 y40 y45) h) fun y46 h=>
 (match y46 with
 | .bool true=>
 ae (pu (cI [(.int .u8 0),(.int .i64 0),(.int .i64 0),(.int .u64 0),(.int .i64 0),(.int .i64 0),(.slice none 0 0),(.slice none 0 0),(.slice none 0 0),(.int .i64 0),(.int .u8 0),(.int .u8 0),(.int .u8 0),(.int .u8 0),(.int .u8 0),(.int .u8 0),(.int .u8 0),(.int .u8 0),(.int .u8 0),(.int .u8 0),(.int .u8 0),(.int .u8 0),(.int .u8 0),(.int .u8 0),(.int .u8 0),(.int .u8 0),(.int .u8 0),(.int .u8 0),(.int .u8 0),(.int .u8 0),(.int .u8 0),(.int .u8 0),(.int .u8 0),(.int .u8 0),(.int .u8 0),(.int .u8 0),(.int .u8 0),(.int .u8 0),(.int .u8 0),(.int .u8 0),(.int .u8 0),(.int .u8 0),(.slice none 0 0),(.bool false),(.int .u8 0),(.int .u8 0),(.int .u8 0),(.int .u8 0),(.int .u8 0),(.int .u8 0),(.int .u8 0),(.int .u8 0),(.int .u8 0),(.int .u8 0),(.int .u8 0),(.int .u8 0),(.int .u8 0),(.int .u8 0),(.int .u8 0),(.int .u8 0),(.int .u8 0),(.int .u8 0),(.int .u8 0),(.int .u8 0),(.int .u8 0),(.int .u8 0),(.int .u8 0),(.int .u8 0),(.int .u8 0),(.int .u8 0),(.int .u8 0),(.int .u8 0),(.int .u8 0),(.int .u8 0),(.int .u8 0),(.int .u8 0),(.int .i64 0),(.int .i64 0),(.int .i64 0),(.int .i64 0),(.int .u8 0),(.int .u8 0),(.int .u8 0),(.int .u8 0),(.int .u8 0),(.int .u8 0),(.int .u8 0),(.int .u8 0),(.int .u8 0),(.int .u8 0),(.int .u8 0),(.int .u8 0),(.int .u8 0),(.int .u8 0),(.int .u8 0),(.int .u8 0),(.int .u8 0),(.int .u8 0),(.int .u8 0),(.int .u8 0),(.int .u8 0),(.int .u8 0),(.int .u8 0),(.int .u8 0),(.int .u8 0),(.int .u8 0),(.int .u8 0),(.int .u8 0),(.int .u8 0),(.int .u8 0),(.int .u8 0),(.int .u8 0),(.slice none 0 0),(.int .i64 0),(.slice none 0 0),(.int .i64 0)] []) h) fun y47 h=>
 ae (cv 116 y2 y47 h) fun _ h=>
 ae (some ((.int .i64 20),h)) fun y3_1 h=>
 aw Tryz.prog Tryz.f13.results.toList (bE 92 (up (bs [x0]) [(2,y2),(3,y3_1),(4,y4),(5,y5),(6,y6),(12,y12),(13,y13),(14,y14),(15,y15),(16,y16),(17,y17),(18,y18),(19,y19),(22,y22),(23,y23),(24,y24),(25,y25),(26,df),(28,y28),(29,y29),(30,y30),(31,y31),(32,y32),(34,y34),(35,y35),(36,y36),(37,y37),(38,y38),(39,y39),(40,y40),(41,y41),(42,y42),(43,y43),(44,y44),(45,y45),(46,y46),(47,y47)])) h
 | .bool false=>
 ae (some (x0,h)) fun y48 h=>
 ae (pu (cn 1 y48 (.int .i64 3)) h) fun y49 h=>
 ae (aP y49 h) fun y50 h=>
 ae (some (x0,h)) fun y51 h=>
 ae (pu (cn 1 y51 (.int .i64 4)) h) fun y52 h=>
 ae (aP y52 h) fun y53 h=>
 ae (cvI .i64 y53 h) fun y54 h=>
 ae (some (x0,h)) fun y55 h=>
 ae (pu (cn 1 y55 (.int .i64 5)) h) fun y56 h=>
 ae (aP y56 h) fun y57 h=>
 ae (cvI .i64 y57 h) fun y58 h=>
 ae (pu (cI [(.int .u8 0),(.int .i64 0),(.int .i64 0),(.int .u64 0),(.int .i64 0),(.int .i64 0),(.slice none 0 0),(.slice none 0 0),(.slice none 0 0),(.int .i64 0),(.int .u8 0),(.int .u8 0),(.int .u8 0),(.int .u8 0),(.int .u8 0),(.int .u8 0),(.int .u8 0),(.int .u8 0),(.int .u8 0),(.int .u8 0),(.int .u8 0),(.int .u8 0),(.int .u8 0),(.int .u8 0),(.int .u8 0),(.int .u8 0),(.int .u8 0),(.int .u8 0),(.int .u8 0),(.int .u8 0),(.int .u8 0),(.int .u8 0),(.int .u8 0),(.int .u8 0),(.int .u8 0),(.int .u8 0),(.int .u8 0),(.int .u8 0),(.int .u8 0),(.int .u8 0),(.int .u8 0),(.int .u8 0),(.slice none 0 0),(.bool false),(.int .u8 0),(.int .u8 0),(.int .u8 0),(.int .u8 0),(.int .u8 0),(.int .u8 0),(.int .u8 0),(.int .u8 0),(.int .u8 0),(.int .u8 0),(.int .u8 0),(.int .u8 0),(.int .u8 0),(.int .u8 0),(.int .u8 0),(.int .u8 0),(.int .u8 0),(.int .u8 0),(.int .u8 0),(.int .u8 0),(.int .u8 0),(.int .u8 0),(.int .u8 0),(.int .u8 0),(.int .u8 0),(.int .u8 0),(.int .u8 0),(.int .u8 0),(.int .u8 0),(.int .u8 0),(.int .u8 0),(.int .u8 0),(.int .i64 0),(.int .i64 0),(.int .i64 0),(.int .i64 0),(.int .u8 0),(.int .u8 0),(.int .u8 0),(.int .u8 0),(.int .u8 0),(.int .u8 0),(.int .u8 0),(.int .u8 0),(.int .u8 0),(.int .u8 0),(.int .u8 0),(.int .u8 0),(.int .u8 0),(.int .u8 0),(.int .u8 0),(.int .u8 0),(.int .u8 0),(.int .u8 0),(.int .u8 0),(.int .u8 0),(.int .u8 0),(.int .u8 0),(.int .u8 0),(.int .u8 0),(.int .u8 0),(.int .u8 0),(.int .u8 0),(.int .u8 0),(.int .u8 0),(.int .u8 0),(.int .u8 0),(.int .u8 0),(.slice none 0 0),(.int .i64 0),(.slice none 0 0),(.int .i64 0)] [(0,1,y50),(1,1,y54),(2,1,y58)]) h) fun y59 h=>
 ae (eQ [(.int .u8 0),(.int .i64 0),(.int .i64 0),(.int .u64 0),(.int .i64 0),(.int .i64 0),(.slice none 0 0),(.slice none 0 0),(.slice none 0 0),(.int .i64 0),(.int .u8 0),(.int .u8 0),(.int .u8 0),(.int .u8 0),(.int .u8 0),(.int .u8 0),(.int .u8 0),(.int .u8 0),(.int .u8 0),(.int .u8 0),(.int .u8 0),(.int .u8 0),(.int .u8 0),(.int .u8 0),(.int .u8 0),(.int .u8 0),(.int .u8 0),(.int .u8 0),(.int .u8 0),(.int .u8 0),(.int .u8 0),(.int .u8 0),(.int .u8 0),(.int .u8 0),(.int .u8 0),(.int .u8 0),(.int .u8 0),(.int .u8 0),(.int .u8 0),(.int .u8 0),(.int .u8 0),(.int .u8 0),(.slice none 0 0),(.bool false),(.int .u8 0),(.int .u8 0),(.int .u8 0),(.int .u8 0),(.int .u8 0),(.int .u8 0),(.int .u8 0),(.int .u8 0),(.int .u8 0),(.int .u8 0),(.int .u8 0),(.int .u8 0),(.int .u8 0),(.int .u8 0),(.int .u8 0),(.int .u8 0),(.int .u8 0),(.int .u8 0),(.int .u8 0),(.int .u8 0),(.int .u8 0),(.int .u8 0),(.int .u8 0),(.int .u8 0),(.int .u8 0),(.int .u8 0),(.int .u8 0),(.int .u8 0),(.int .u8 0),(.int .u8 0),(.int .u8 0),(.int .u8 0),(.int .i64 0),(.int .i64 0),(.int .i64 0),(.int .i64 0),(.int .u8 0),(.int .u8 0),(.int .u8 0),(.int .u8 0),(.int .u8 0),(.int .u8 0),(.int .u8 0),(.int .u8 0),(.int .u8 0),(.int .u8 0),(.int .u8 0),(.int .u8 0),(.int .u8 0),(.int .u8 0),(.int .u8 0),(.int .u8 0),(.int .u8 0),(.int .u8 0),(.int .u8 0),(.int .u8 0),(.int .u8 0),(.int .u8 0),(.int .u8 0),(.int .u8 0),(.int .u8 0),(.int .u8 0),(.int .u8 0),(.int .u8 0),(.int .u8 0),(.int .u8 0),(.int .u8 0),(.int .u8 0),(.slice none 0 0),(.int .i64 0),(.slice none 0 0),(.int .i64 0)] h) fun y7 h=>
 ae (cv 116 y7 y59 h) fun _ h=>
 ae (pu (az y7 0) h) fun y61 h=>
 ae (aP y61 h) fun y62 h=>
 ae (C 35 [y62] h) fun y63 h=>
 ae (some (y63,h)) fun y60 h=>
 ae (pu (bn y60 0) h) fun y64 h=>
 ae (pu (bn y60 1) h) fun y65 h=>
 ae (eQ [(.string ⟨#[]⟩),.nilFunc,.nilFunc,.nilFunc,.nilFunc] h) fun y8 h=>
 ae (cv 5 y8 y64 h) fun _ h=>
 ae (some (y65,h)) fun y9 h=>
 ae (some (y9,h)) fun y66 h=>
 ae (pu (unA .not y66) h) fun y67 h=>
 (match y67 with
 | .bool true=>
 ae (pu (cI [(.int .u8 0),(.int .i64 0),(.int .i64 0),(.int .u64 0),(.int .i64 0),(.int .i64 0),(.slice none 0 0),(.slice none 0 0),(.slice none 0 0),(.int .i64 0),(.int .u8 0),(.int .u8 0),(.int .u8 0),(.int .u8 0),(.int .u8 0),(.int .u8 0),(.int .u8 0),(.int .u8 0),(.int .u8 0),(.int .u8 0),(.int .u8 0),(.int .u8 0),(.int .u8 0),(.int .u8 0),(.int .u8 0),(.int .u8 0),(.int .u8 0),(.int .u8 0),(.int .u8 0),(.int .u8 0),(.int .u8 0),(.int .u8 0),(.int .u8 0),(.int .u8 0),(.int .u8 0),(.int .u8 0),(.int .u8 0),(.int .u8 0),(.int .u8 0),(.int .u8 0),(.int .u8 0),(.int .u8 0),(.slice none 0 0),(.bool false),(.int .u8 0),(.int .u8 0),(.int .u8 0),(.int .u8 0),(.int .u8 0),(.int .u8 0),(.int .u8 0),(.int .u8 0),(.int .u8 0),(.int .u8 0),(.int .u8 0),(.int .u8 0),(.int .u8 0),(.int .u8 0),(.int .u8 0),(.int .u8 0),(.int .u8 0),(.int .u8 0),(.int .u8 0),(.int .u8 0),(.int .u8 0),(.int .u8 0),(.int .u8 0),(.int .u8 0),(.int .u8 0),(.int .u8 0),(.int .u8 0),(.int .u8 0),(.int .u8 0),(.int .u8 0),(.int .u8 0),(.int .u8 0),(.int .i64 0),(.int .i64 0),(.int .i64 0),(.int .i64 0),(.int .u8 0),(.int .u8 0),(.int .u8 0),(.int .u8 0),(.int .u8 0),(.int .u8 0),(.int .u8 0),(.int .u8 0),(.int .u8 0),(.int .u8 0),(.int .u8 0),(.int .u8 0),(.int .u8 0),(.int .u8 0),(.int .u8 0),(.int .u8 0),(.int .u8 0),(.int .u8 0),(.int .u8 0),(.int .u8 0),(.int .u8 0),(.int .u8 0),(.int .u8 0),(.int .u8 0),(.int .u8 0),(.int .u8 0),(.int .u8 0),(.int .u8 0),(.int .u8 0),(.int .u8 0),(.int .u8 0),(.int .u8 0),(.slice none 0 0),(.int .i64 0),(.slice none 0 0),(.int .i64 0)] []) h) fun y68 h=>
 ae (cv 116 y2 y68 h) fun _ h=>
 ae (some ((.int .i64 2),h)) fun y3_1 h=>
 aw Tryz.prog Tryz.f13.results.toList (bE 92 (up (bs [x0]) [(2,y2),(3,y3_1),(4,y4),(5,y5),(6,y6),(7,y7),(8,y8),(9,y9),(12,y12),(13,y13),(14,y14),(15,y15),(16,y16),(17,y17),(18,y18),(19,y19),(22,y22),(23,y23),(24,y24),(25,y25),(26,df),(28,y28),(29,y29),(30,y30),(31,y31),(32,y32),(34,y34),(35,y35),(36,y36),(37,y37),(38,y38),(39,y39),(40,y40),(41,y41),(42,y42),(43,y43),(44,y44),(45,y45),(46,y46),(48,y48),(49,y49),(50,y50),(51,y51),(52,y52),(53,y53),(54,y54),(55,y55),(56,y56),(57,y57),(58,y58),(59,y59),(60,y60),(61,y61),(62,y62),(63,y63),(64,y64),(65,y65),(66,y66),(67,y67),(68,y68)])) h
 | .bool false=>
 ae (some (x0,h)) fun y69 h=>
 ae (some (y4,h)) fun y70 h=>
 ae (pu (bin Tryz.prog .sub 3 y70 (.int .i64 4)) h) fun y71 h=>
 ae (pu (slR 1 y69 (some (.int .i64 10)) (some y71) none) h) fun y72 h=>
 ae (C 32 [y72] h) fun y73 h=>
 ae (some (y73,h)) fun y10 h=>
 ae (pu (az y8 4) h) fun y74 h=>
 ae (aP y74 h) fun y75 h=>
 ae (some (y10,h)) fun y76 h=>
 ae (callA Tryz.prog C y75 [y76,y7] h) fun y77 h=>
 ae (pu (unA .not y77) h) fun y78 h=>
 ae (some (y78,h)) fun y79 h=>
 ae (al (aL y79==some false) (some (y10,h)) h) fun y80 h=>
 ae (al (aL y79==some false) (C 36 [y80] h) h) fun y81 h=>
 ae (al (aL y79==some false) (pu (bin Tryz.prog .neq 35 y81 (.int .i64 0)) h) h) fun y82 h=>
 ae (match y79 with | .bool t=>some (if t then (.bool true) else y82,h)|_=>none) fun y83 h=>
 (match y83 with
 | .bool true=>
 ae (pu (cI [(.int .u8 0),(.int .i64 0),(.int .i64 0),(.int .u64 0),(.int .i64 0),(.int .i64 0),(.slice none 0 0),(.slice none 0 0),(.slice none 0 0),(.int .i64 0),(.int .u8 0),(.int .u8 0),(.int .u8 0),(.int .u8 0),(.int .u8 0),(.int .u8 0),(.int .u8 0),(.int .u8 0),(.int .u8 0),(.int .u8 0),(.int .u8 0),(.int .u8 0),(.int .u8 0),(.int .u8 0),(.int .u8 0),(.int .u8 0),(.int .u8 0),(.int .u8 0),(.int .u8 0),(.int .u8 0),(.int .u8 0),(.int .u8 0),(.int .u8 0),(.int .u8 0),(.int .u8 0),(.int .u8 0),(.int .u8 0),(.int .u8 0),(.int .u8 0),(.int .u8 0),(.int .u8 0),(.int .u8 0),(.slice none 0 0),(.bool false),(.int .u8 0),(.int .u8 0),(.int .u8 0),(.int .u8 0),(.int .u8 0),(.int .u8 0),(.int .u8 0),(.int .u8 0),(.int .u8 0),(.int .u8 0),(.int .u8 0),(.int .u8 0),(.int .u8 0),(.int .u8 0),(.int .u8 0),(.int .u8 0),(.int .u8 0),(.int .u8 0),(.int .u8 0),(.int .u8 0),(.int .u8 0),(.int .u8 0),(.int .u8 0),(.int .u8 0),(.int .u8 0),(.int .u8 0),(.int .u8 0),(.int .u8 0),(.int .u8 0),(.int .u8 0),(.int .u8 0),(.int .u8 0),(.int .i64 0),(.int .i64 0),(.int .i64 0),(.int .i64 0),(.int .u8 0),(.int .u8 0),(.int .u8 0),(.int .u8 0),(.int .u8 0),(.int .u8 0),(.int .u8 0),(.int .u8 0),(.int .u8 0),(.int .u8 0),(.int .u8 0),(.int .u8 0),(.int .u8 0),(.int .u8 0),(.int .u8 0),(.int .u8 0),(.int .u8 0),(.int .u8 0),(.int .u8 0),(.int .u8 0),(.int .u8 0),(.int .u8 0),(.int .u8 0),(.int .u8 0),(.int .u8 0),(.int .u8 0),(.int .u8 0),(.int .u8 0),(.int .u8 0),(.int .u8 0),(.int .u8 0),(.int .u8 0),(.slice none 0 0),(.int .i64 0),(.slice none 0 0),(.int .i64 0)] []) h) fun y84 h=>
 ae (cv 116 y2 y84 h) fun _ h=>
 ae (some ((.int .i64 5),h)) fun y3_1 h=>
 aw Tryz.prog Tryz.f13.results.toList (bE 92 (up (bs [x0]) [(2,y2),(3,y3_1),(4,y4),(5,y5),(6,y6),(7,y7),(8,y8),(9,y9),(10,y10),(12,y12),(13,y13),(14,y14),(15,y15),(16,y16),(17,y17),(18,y18),(19,y19),(22,y22),(23,y23),(24,y24),(25,y25),(26,df),(28,y28),(29,y29),(30,y30),(31,y31),(32,y32),(34,y34),(35,y35),(36,y36),(37,y37),(38,y38),(39,y39),(40,y40),(41,y41),(42,y42),(43,y43),(44,y44),(45,y45),(46,y46),(48,y48),(49,y49),(50,y50),(51,y51),(52,y52),(53,y53),(54,y54),(55,y55),(56,y56),(57,y57),(58,y58),(59,y59),(60,y60),(61,y61),(62,y62),(63,y63),(64,y64),(65,y65),(66,y66),(67,y67),(69,y69),(70,y70),(71,y71),(72,y72),(73,y73),(74,y74),(75,y75),(76,y76),(77,y77),(78,y78),(79,y79),(80,y80),(81,y81),(82,y82),(83,y83),(84,y84)])) h
 | .bool false=>
 ae (cq 116 y7 h) fun y85 h=>
 ae (C 19 [y85] h) fun y86 h=>
 ae (some (y86,h)) fun y11 h=>
 ae (some (y11,h)) fun y87 h=>
 ae (pu (bin Tryz.prog .neq 35 y87 (.int .i64 0)) h) fun y88 h=>
 (match y88 with
 | .bool true=>
 ae (pu (cI [(.int .u8 0),(.int .i64 0),(.int .i64 0),(.int .u64 0),(.int .i64 0),(.int .i64 0),(.slice none 0 0),(.slice none 0 0),(.slice none 0 0),(.int .i64 0),(.int .u8 0),(.int .u8 0),(.int .u8 0),(.int .u8 0),(.int .u8 0),(.int .u8 0),(.int .u8 0),(.int .u8 0),(.int .u8 0),(.int .u8 0),(.int .u8 0),(.int .u8 0),(.int .u8 0),(.int .u8 0),(.int .u8 0),(.int .u8 0),(.int .u8 0),(.int .u8 0),(.int .u8 0),(.int .u8 0),(.int .u8 0),(.int .u8 0),(.int .u8 0),(.int .u8 0),(.int .u8 0),(.int .u8 0),(.int .u8 0),(.int .u8 0),(.int .u8 0),(.int .u8 0),(.int .u8 0),(.int .u8 0),(.slice none 0 0),(.bool false),(.int .u8 0),(.int .u8 0),(.int .u8 0),(.int .u8 0),(.int .u8 0),(.int .u8 0),(.int .u8 0),(.int .u8 0),(.int .u8 0),(.int .u8 0),(.int .u8 0),(.int .u8 0),(.int .u8 0),(.int .u8 0),(.int .u8 0),(.int .u8 0),(.int .u8 0),(.int .u8 0),(.int .u8 0),(.int .u8 0),(.int .u8 0),(.int .u8 0),(.int .u8 0),(.int .u8 0),(.int .u8 0),(.int .u8 0),(.int .u8 0),(.int .u8 0),(.int .u8 0),(.int .u8 0),(.int .u8 0),(.int .u8 0),(.int .i64 0),(.int .i64 0),(.int .i64 0),(.int .i64 0),(.int .u8 0),(.int .u8 0),(.int .u8 0),(.int .u8 0),(.int .u8 0),(.int .u8 0),(.int .u8 0),(.int .u8 0),(.int .u8 0),(.int .u8 0),(.int .u8 0),(.int .u8 0),(.int .u8 0),(.int .u8 0),(.int .u8 0),(.int .u8 0),(.int .u8 0),(.int .u8 0),(.int .u8 0),(.int .u8 0),(.int .u8 0),(.int .u8 0),(.int .u8 0),(.int .u8 0),(.int .u8 0),(.int .u8 0),(.int .u8 0),(.int .u8 0),(.int .u8 0),(.int .u8 0),(.int .u8 0),(.int .u8 0),(.slice none 0 0),(.int .i64 0),(.slice none 0 0),(.int .i64 0)] []) h) fun y89 h=>
 ae (some (y11,h)) fun y90 h=>
 ae (cv 116 y2 y89 h) fun _ h=>
 ae (some (y90,h)) fun y3_1 h=>
 aw Tryz.prog Tryz.f13.results.toList (bE 92 (up (bs [x0]) [(2,y2),(3,y3_1),(4,y4),(5,y5),(6,y6),(7,y7),(8,y8),(9,y9),(10,y10),(11,y11),(12,y12),(13,y13),(14,y14),(15,y15),(16,y16),(17,y17),(18,y18),(19,y19),(22,y22),(23,y23),(24,y24),(25,y25),(26,df),(28,y28),(29,y29),(30,y30),(31,y31),(32,y32),(34,y34),(35,y35),(36,y36),(37,y37),(38,y38),(39,y39),(40,y40),(41,y41),(42,y42),(43,y43),(44,y44),(45,y45),(46,y46),(48,y48),(49,y49),(50,y50),(51,y51),(52,y52),(53,y53),(54,y54),(55,y55),(56,y56),(57,y57),(58,y58),(59,y59),(60,y60),(61,y61),(62,y62),(63,y63),(64,y64),(65,y65),(66,y66),(67,y67),(69,y69),(70,y70),(71,y71),(72,y72),(73,y73),(74,y74),(75,y75),(76,y76),(77,y77),(78,y78),(79,y79),(80,y80),(81,y81),(82,y82),(83,y83),(85,y85),(86,y86),(87,y87),(88,y88),(89,y89),(90,y90)])) h
 | .bool false=>
 ae (cq 116 y7 h) fun y91 h=>
 ae (cv 116 y2 y91 h) fun _ h=>
 ae (some ((.int .i64 0),h)) fun y3_1 h=>
 aw Tryz.prog Tryz.f13.results.toList (bE 92 (up (bs [x0]) [(2,y2),(3,y3_1),(4,y4),(5,y5),(6,y6),(7,y7),(8,y8),(9,y9),(10,y10),(11,y11),(12,y12),(13,y13),(14,y14),(15,y15),(16,y16),(17,y17),(18,y18),(19,y19),(22,y22),(23,y23),(24,y24),(25,y25),(26,df),(28,y28),(29,y29),(30,y30),(31,y31),(32,y32),(34,y34),(35,y35),(36,y36),(37,y37),(38,y38),(39,y39),(40,y40),(41,y41),(42,y42),(43,y43),(44,y44),(45,y45),(46,y46),(48,y48),(49,y49),(50,y50),(51,y51),(52,y52),(53,y53),(54,y54),(55,y55),(56,y56),(57,y57),(58,y58),(59,y59),(60,y60),(61,y61),(62,y62),(63,y63),(64,y64),(65,y65),(66,y66),(67,y67),(69,y69),(70,y70),(71,y71),(72,y72),(73,y73),(74,y74),(75,y75),(76,y76),(77,y77),(78,y78),(79,y79),(80,y80),(81,y81),(82,y82),(83,y83),(85,y85),(86,y86),(87,y87),(88,y88),(91,y91)])) h
 |_=>none)
 |_=>none)
 |_=>none)
 |_=>none)
 |_=>none)
 |_=>none)
 |_=>none)
theorem t13_eq (C:au) (x0:Value) (h:ai):aY Tryz.prog C Tryz.f13 [x0] h=t13 C x0 h:=
 (aC Tryz.prog C Tryz.f13 [x0] h (by kernel_rfl)).trans (by kernel_rfl)
noncomputable def t21 (C:au) (x0:Value) (h:ai):Out:=
 ae (box x0 h) fun y1 h=>
 ae (some ((.slice none 0 0),h)) fun _y2 h=>
 ae (some ((.int .i64 0),h)) fun _y3 h=>
 ae (cq 116 y1 h) fun y13 h=>
 ae (C 19 [y13] h) fun y14 h=>
 ae (some (y14,h)) fun y4 h=>
 ae (some (y4,h)) fun y15 h=>
 ae (pu (bin Tryz.prog .neq 35 y15 (.int .i64 0)) h) fun y16 h=>
 (match y16 with
 | .bool true=>
 ae (some (y4,h)) fun y17 h=>
 ae (some ((.slice none 0 0),h)) fun y2_1 h=>
 ae (some (y17,h)) fun y3_1 h=>
 some (.tuple #[y2_1,y3_1],h)
 | .bool false=>
 ae (pu (az y1 0) h) fun y19 h=>
 ae (aP y19 h) fun y20 h=>
 ae (C 35 [y20] h) fun y21 h=>
 ae (some (y21,h)) fun y18 h=>
 ae (pu (bn y18 0) h) fun y22 h=>
 ae (pu (bn y18 1) h) fun y23 h=>
 ae (eQ [(.string ⟨#[]⟩),.nilFunc,.nilFunc,.nilFunc,.nilFunc] h) fun y5 h=>
 ae (cv 5 y5 y22 h) fun _ h=>
 ae (some (y23,h)) fun _y6 h=>
 ae (C 47 [(.int .i64 20000)] h) fun y24 h=>
 ae (some (y24,h)) fun y7 h=>
 ae (pu (az y5 3) h) fun y25 h=>
 ae (aP y25 h) fun df h=>
 ae (some (y7,h)) fun dE h=>
 ae (cq 116 y1 h) fun y28 h=>
 ae (callA Tryz.prog C df [dE,y28] h) fun _y29 h=>
 ae (some (y7,h)) fun y31 h=>
 ae (C 48 [y31] h) fun y32 h=>
 ae (some (y32,h)) fun y30 h=>
 ae (pu (bn y30 0) h) fun y33 h=>
 ae (pu (bn y30 1) h) fun y34 h=>
 ae (some (y33,h)) fun y8 h=>
 ae (some (y34,h)) fun _y9 h=>
 ae (some (y8,h)) fun y35 h=>
 ae (pu (bM y35) h) fun y36 h=>
 ae (pu (bin Tryz.prog .add 3 y36 (.int .i64 14)) h) fun y37 h=>
 ae (C 47 [y37] h) fun y38 h=>
 ae (some (y38,h)) fun y10 h=>
 ae (some (y10,h)) fun y39 h=>
 ae (C 49 [y39,(.int .u16 21335)] h) fun _y40 h=>
 ae (some (y10,h)) fun y41 h=>
 ae (C 50 [y41,(.int .u8 1)] h) fun _y42 h=>
 ae (some (y10,h)) fun y43 h=>
 ae (pu (az y1 0) h) fun y44 h=>
 ae (aP y44 h) fun y45 h=>
 ae (C 50 [y43,y45] h) fun _y46 h=>
 ae (some (y10,h)) fun y47 h=>
 ae (pu (az y1 1) h) fun y48 h=>
 ae (aP y48 h) fun y49 h=>
 ae (cvI .u8 y49 h) fun y50 h=>
 ae (C 50 [y47,y50] h) fun _y51 h=>
 ae (some (y10,h)) fun y52 h=>
 ae (pu (az y1 2) h) fun y53 h=>
 ae (aP y53 h) fun y54 h=>
 ae (cvI .u8 y54 h) fun y55 h=>
 ae (C 50 [y52,y55] h) fun _y56 h=>
 ae (some (y10,h)) fun y57 h=>
 ae (some (y8,h)) fun y58 h=>
 ae (pu (bM y58) h) fun y59 h=>
 ae (cvI .u32 y59 h) fun y60 h=>
 ae (C 51 [y57,y60] h) fun _y61 h=>
 ae (some (y10,h)) fun y62 h=>
 ae (some (y8,h)) fun y63 h=>
 ae (C 52 [y62,y63] h) fun _y64 h=>
 ae (some (y10,h)) fun y66 h=>
 ae (C 48 [y66] h) fun y67 h=>
 ae (some (y67,h)) fun y65 h=>
 ae (pu (bn y65 0) h) fun y68 h=>
 ae (pu (bn y65 1) h) fun y69 h=>
 ae (some (y68,h)) fun y11 h=>
 ae (some (y69,h)) fun _y12 h=>
 ae (some (y10,h)) fun y70 h=>
 ae (some (y11,h)) fun y71 h=>
 ae (C 34 [y71] h) fun y72 h=>
 ae (C 51 [y70,y72] h) fun _y73 h=>
 ae (some (y10,h)) fun y74 h=>
 ae (C 48 [y74] h) fun y75 h=>
 ae (pu (bn y75 0) h) fun y76 h=>
 ae (pu (bn y75 1) h) fun y77 h=>
 ae (some (y76,h)) fun y2_1 h=>
 ae (some (y77,h)) fun y3_1 h=>
 some (.tuple #[y2_1,y3_1],h)
 |_=>none)
theorem t21_eq (C:au) (x0:Value) (h:ai):aY Tryz.prog C Tryz.f21 [x0] h=t21 C x0 h:=
 (aC Tryz.prog C Tryz.f21 [x0] h (by kernel_rfl)).trans (by kernel_rfl)
noncomputable def t31 (C:au) (x0:Value) (h:ai):Out:=
 ae (some ((.int .i64 0),h)) fun _y2 h=>
 ae (some ((.int .i64 0),h)) fun _y3 h=>
 ae (some (x0,h)) fun y8 h=>
 ae (some (x0,h)) fun y9 h=>
 ae (pu (bM y9) h) fun y10 h=>
 ae (pu (eG false y10 [(.int .i64 10)]) h) fun y11 h=>
 ae (pu (slR 1 y8 none (some y11) none) h) fun y12 h=>
 ae (C 32 [y12] h) fun y13 h=>
 ae (some (y13,h)) fun y4 h=>
 ae (some (y4,h)) fun y14 h=>
 ae (C 72 [y14] h) fun y15 h=>
 ae (some (y4,h)) fun y16 h=>
 ae (C 73 [y16] h) fun y17 h=>
 ae (some (y15,h)) fun y5 h=>
 ae (some (y17,h)) fun y6 h=>
 ae (some (y4,h)) fun y18 h=>
 ae (C 74 [y18,(.int .i64 3)] h) fun _y19 h=>
 ae (some (y4,h)) fun y20 h=>
 ae (C 33 [y20] h) fun y21 h=>
 ae (cvI .i64 y21 h) fun y22 h=>
 ae (some (y22,h)) fun y7 h=>
 ae (some (y4,h)) fun y24 h=>
 ae (C 75 [y24] h) fun y25 h=>
 ae (pu (bin Tryz.prog .neq 35 y25 (.int .i64 0)) h) fun df h=>
 ae (some (df,h)) fun y23 h=>
 (match y23 with
 | .bool true=>
 ae (some ((.int .i64 0),h)) fun y2_1 h=>
 ae (some ((.int .i64 4),h)) fun y3_1 h=>
 some (.tuple #[y2_1,y3_1],h)
 | .bool false=>
 ae (some (y5,h)) fun y28 h=>
 ae (pu (bin Tryz.prog .neq 65 y28 (.int .u16 21335)) h) fun y29 h=>
 ae (some (y29,h)) fun dE h=>
 (match dE with
 | .bool true=>
 ae (some ((.int .i64 0),h)) fun y2_1 h=>
 ae (some ((.int .i64 5),h)) fun y3_1 h=>
 some (.tuple #[y2_1,y3_1],h)
 | .bool false=>
 ae (some (y6,h)) fun y31 h=>
 ae (pu (bin Tryz.prog .neq 5 y31 (.int .u8 1)) h) fun y32 h=>
 ae (some (y32,h)) fun y30 h=>
 (match y30 with
 | .bool true=>
 ae (some ((.int .i64 0),h)) fun y2_1 h=>
 ae (some ((.int .i64 80),h)) fun y3_1 h=>
 some (.tuple #[y2_1,y3_1],h)
 | .bool false=>
 ae (some (y7,h)) fun y34 h=>
 ae (pu (bin Tryz.prog .gtr 3 y34 (.int .i64 20000)) h) fun y35 h=>
 ae (some (y35,h)) fun y33 h=>
 (match y33 with
 | .bool true=>
 ae (some ((.int .i64 0),h)) fun y2_1 h=>
 ae (some ((.int .i64 3),h)) fun y3_1 h=>
 some (.tuple #[y2_1,y3_1],h)
 | .bool false=>
 ae (some (y7,h)) fun y36 h=>
 ae (pu (bin Tryz.prog .add 3 y36 (.int .i64 14)) h) fun y37 h=>
 ae (some (y37,h)) fun y2_1 h=>
 ae (some ((.int .i64 0),h)) fun y3_1 h=>
 some (.tuple #[y2_1,y3_1],h)
 |_=>none)
 |_=>none)
 |_=>none)
 |_=>none)
theorem t31_eq (C:au) (x0:Value) (h:ai):aY Tryz.prog C Tryz.f31 [x0] h=t31 C x0 h:=
 (aC Tryz.prog C Tryz.f31 [x0] h (by kernel_rfl)).trans (by kernel_rfl)
noncomputable def t97 (C:au) (x0 x1:Value) (h:ai):Out:=
 ae (box x1 h) fun y3 h=>
 ae (some (x0,h)) fun y4 h=>
 ae (pu (az y3 3) h) fun y5 h=>
 ae (aP y5 h) fun y6 h=>
 ae (C 126 [y4,y6] h) fun _y7 h=>
 ae (some (x0,h)) fun y8 h=>
 ae (pu (az y3 4) h) fun y9 h=>
 ae (aP y9 h) fun y10 h=>
 ae (cvI .u8 y10 h) fun y11 h=>
 ae (C 50 [y8,y11] h) fun _y12 h=>
 ae (some (x0,h)) fun y13 h=>
 ae (pu (az y3 6) h) fun y14 h=>
 ae (aP y14 h) fun y15 h=>
 ae (C 127 [y13,y15] h) fun _y16 h=>
 some (.tuple #[],h)
theorem t97_eq (C:au) (x0 x1:Value) (h:ai):aY Tryz.prog C Tryz.f97 [x0,x1] h=t97 C x0 x1 h:=
 (aC Tryz.prog C Tryz.f97 [x0,x1] h (by kernel_rfl)).trans (by kernel_rfl)
noncomputable def t98 (C:au) (x0 x1:Value) (h:ai):Out:=
 ae (some ((.bool false),h)) fun _y4 h=>
 ae (some (x1,h)) fun y5 h=>
 ae (some (x1,h)) fun y6 h=>
 ae (some (x0,h)) fun y7 h=>
 ae (C 128 [y7] h) fun y8 h=>
 ae (some (x0,h)) fun y9 h=>
 ae (C 73 [y9] h) fun y10 h=>
 ae (cvI .i64 y10 h) fun y11 h=>
 ae (pu (aM y5) h) fun y12 h=>
 ae (pu (az y12 3) h) fun y13 h=>
 ae (cv 1 y13 y8 h) fun _ h=>
 ae (pu (aM y6) h) fun y14 h=>
 ae (pu (az y14 4) h) fun y15 h=>
 ae (cv 1 y15 y11 h) fun _ h=>
 ae (some (x1,h)) fun y16 h=>
 ae (some (x0,h)) fun y17 h=>
 ae (C 129 [y17] h) fun y18 h=>
 ae (pu (aM y16) h) fun y19 h=>
 ae (pu (az y19 6) h) fun y20 h=>
 ae (cv 1 y20 y18 h) fun _ h=>
 ae (some ((.bool true),h)) fun y4_1 h=>
 some (y4_1,h)
theorem t98_eq (C:au) (x0 x1:Value) (h:ai):aY Tryz.prog C Tryz.f98 [x0,x1] h=t98 C x0 x1 h:=
 (aC Tryz.prog C Tryz.f98 [x0,x1] h (by kernel_rfl)).trans (by kernel_rfl)
noncomputable def t100 (C:au) (x0 x1:Value) (h:ai):Out:=
 ae (box x1 h) fun y3 h=>
 ae (some (x0,h)) fun y4 h=>
 ae (pu (az y3 3) h) fun y5 h=>
 ae (aP y5 h) fun y6 h=>
 ae (C 126 [y4,y6] h) fun _y7 h=>
 ae (some (x0,h)) fun y8 h=>
 ae (pu (az y3 5) h) fun y9 h=>
 ae (aP y9 h) fun y10 h=>
 ae (cvI .u8 y10 h) fun y11 h=>
 ae (C 50 [y8,y11] h) fun _y12 h=>
 ae (some (x0,h)) fun y13 h=>
 ae (pu (az y3 6) h) fun y14 h=>
 ae (aP y14 h) fun y15 h=>
 ae (C 127 [y13,y15] h) fun _y16 h=>
 some (.tuple #[],h)
theorem t100_eq (C:au) (x0 x1:Value) (h:ai):aY Tryz.prog C Tryz.f100 [x0,x1] h=t100 C x0 x1 h:=
 (aC Tryz.prog C Tryz.f100 [x0,x1] h (by kernel_rfl)).trans (by kernel_rfl)
noncomputable def t101 (C:au) (x0 x1:Value) (h:ai):Out:=
 ae (some ((.bool false),h)) fun _y4 h=>
 ae (some (x1,h)) fun y5 h=>
 ae (some (x1,h)) fun y6 h=>
 ae (some (x0,h)) fun y7 h=>
 ae (C 128 [y7] h) fun y8 h=>
 ae (some (x0,h)) fun y9 h=>
 ae (C 73 [y9] h) fun y10 h=>
 ae (cvI .i64 y10 h) fun y11 h=>
 ae (pu (aM y5) h) fun y12 h=>
 ae (pu (az y12 3) h) fun y13 h=>
 ae (cv 1 y13 y8 h) fun _ h=>
 ae (pu (aM y6) h) fun y14 h=>
 ae (pu (az y14 5) h) fun y15 h=>
 ae (cv 1 y15 y11 h) fun _ h=>
 ae (some (x1,h)) fun y16 h=>
 ae (some (x0,h)) fun y17 h=>
 ae (C 129 [y17] h) fun y18 h=>
 ae (pu (aM y16) h) fun y19 h=>
 ae (pu (az y19 6) h) fun y20 h=>
 ae (cv 1 y20 y18 h) fun _ h=>
 ae (some ((.bool true),h)) fun y4_1 h=>
 some (y4_1,h)
theorem t101_eq (C:au) (x0 x1:Value) (h:ai):aY Tryz.prog C Tryz.f101 [x0,x1] h=t101 C x0 x1 h:=
 (aC Tryz.prog C Tryz.f101 [x0,x1] h (by kernel_rfl)).trans (by kernel_rfl)
noncomputable def t104 (C:au) (x0 x1:Value) (h:ai):Out:=
 ae (box x1 h) fun y3 h=>
 ae (some (x0,h)) fun y4 h=>
 ae (pu (az y3 44) h) fun y5 h=>
 ae (pu (cJ 32 1 y5 none none none) h) fun y6 h=>
 ae (C 52 [y4,y6] h) fun _y7 h=>
 some (.tuple #[],h)
theorem t104_eq (C:au) (x0 x1:Value) (h:ai):aY Tryz.prog C Tryz.f104 [x0,x1] h=t104 C x0 x1 h:=
 (aC Tryz.prog C Tryz.f104 [x0,x1] h (by kernel_rfl)).trans (by kernel_rfl)
noncomputable def t105 (C:au) (x0 x1:Value) (h:ai):Out:=
 ae (some ((.bool false),h)) fun _y4 h=>
 ae (some (x1,h)) fun y5 h=>
 ae (some (x0,h)) fun y6 h=>
 ae (C 130 [y6] h) fun y7 h=>
 ae (pu (aM y5) h) fun y8 h=>
 ae (pu (az y8 44) h) fun y9 h=>
 ae (cv 32 y9 y7 h) fun _ h=>
 ae (some ((.bool true),h)) fun y4_1 h=>
 some (y4_1,h)
theorem t105_eq (C:au) (x0 x1:Value) (h:ai):aY Tryz.prog C Tryz.f105 [x0,x1] h=t105 C x0 x1 h:=
 (aC Tryz.prog C Tryz.f105 [x0,x1] h (by kernel_rfl)).trans (by kernel_rfl)
noncomputable def t108 (C:au) (x0 x1:Value) (h:ai):Out:=
 ae (box x1 h) fun y3 h=>
 ae (pu (az y3 76) h) fun y7 h=>
 ae (cq 37 y7 h) fun y8 h=>
 ae (C 132 [y8] h) fun y9 h=>
 ae (some (y9,h)) fun y6 h=>
 ae (pu (bn y6 0) h) fun y10 h=>
 ae (pu (bn y6 1) h) fun y11 h=>
 ae (some (y10,h)) fun y4 h=>
 ae (some (y11,h)) fun _y5 h=>
 ae (some (x0,h)) fun y12 h=>
 ae (pu (az y3 44) h) fun y13 h=>
 ae (pu (cJ 32 1 y13 none none none) h) fun y14 h=>
 ae (C 52 [y12,y14] h) fun _y15 h=>
 ae (some (x0,h)) fun y16 h=>
 ae (some (y4,h)) fun y17 h=>
 ae (C 133 [y16,y17] h) fun _y18 h=>
 ae (some (x0,h)) fun y19 h=>
 ae (pu (az y3 113) h) fun y20 h=>
 ae (pu (az y20 0) h) fun y21 h=>
 ae (aP y21 h) fun y22 h=>
 ae (cvI .u16 y22 h) fun y23 h=>
 ae (C 49 [y19,y23] h) fun _y24 h=>
 ae (some (x0,h)) fun y25 h=>
 ae (pu (az y3 113) h) fun df h=>
 ae (pu (az df 1) h) fun dE h=>
 ae (aP dE h) fun y28 h=>
 ae (C 133 [y25,y28] h) fun _y29 h=>
 some (.tuple #[],h)
theorem t108_eq (C:au) (x0 x1:Value) (h:ai):aY Tryz.prog C Tryz.f108 [x0,x1] h=t108 C x0 x1 h:=
 (aC Tryz.prog C Tryz.f108 [x0,x1] h (by kernel_rfl)).trans (by kernel_rfl)
noncomputable def t109 (C:au) (x0 x1:Value) (h:ai):Out:=
 ae (some ((.bool false),h)) fun _y4 h=>
 ae (some (x1,h)) fun y7 h=>
 ae (some (x0,h)) fun y8 h=>
 ae (C 130 [y8] h) fun y9 h=>
 ae (pu (aM y7) h) fun y10 h=>
 ae (pu (az y10 44) h) fun y11 h=>
 ae (cv 32 y11 y9 h) fun _ h=>
 ae (some (x0,h)) fun y13 h=>
 ae (C 135 [y13] h) fun y14 h=>
 ae (C 134 [y14] h) fun y15 h=>
 ae (some (y15,h)) fun y12 h=>
 ae (pu (bn y12 0) h) fun y16 h=>
 ae (pu (bn y12 1) h) fun y17 h=>
 ae (eQ [(.int .i64 0),(.int .i64 0),(.int .i64 0),(.int .i64 0),(.int .u8 0),(.int .u8 0),(.int .u8 0),(.int .u8 0),(.int .u8 0),(.int .u8 0),(.int .u8 0),(.int .u8 0),(.int .u8 0),(.int .u8 0),(.int .u8 0),(.int .u8 0),(.int .u8 0),(.int .u8 0),(.int .u8 0),(.int .u8 0),(.int .u8 0),(.int .u8 0),(.int .u8 0),(.int .u8 0),(.int .u8 0),(.int .u8 0),(.int .u8 0),(.int .u8 0),(.int .u8 0),(.int .u8 0),(.int .u8 0),(.int .u8 0),(.int .u8 0),(.int .u8 0),(.int .u8 0),(.int .u8 0),(.slice none 0 0)] h) fun y5 h=>
 ae (cv 37 y5 y16 h) fun _ h=>
 ae (some (y17,h)) fun y6 h=>
 ae (some (x1,h)) fun y18 h=>
 ae (cq 37 y5 h) fun y19 h=>
 ae (pu (aM y18) h) fun y20 h=>
 ae (pu (az y20 76) h) fun y21 h=>
 ae (cv 37 y21 y19 h) fun _ h=>
 ae (some (x1,h)) fun y22 h=>
 ae (some (x0,h)) fun y23 h=>
 ae (C 72 [y23] h) fun y24 h=>
 ae (cvI .i64 y24 h) fun y25 h=>
 ae (pu (aM y22) h) fun df h=>
 ae (pu (az df 113) h) fun dE h=>
 ae (pu (az dE 0) h) fun y28 h=>
 ae (cv 1 y28 y25 h) fun _ h=>
 ae (some (x1,h)) fun y29 h=>
 ae (some (x0,h)) fun y30 h=>
 ae (C 135 [y30] h) fun y31 h=>
 ae (pu (aM y29) h) fun y32 h=>
 ae (pu (az y32 113) h) fun y33 h=>
 ae (pu (az y33 1) h) fun y34 h=>
 ae (cv 1 y34 y31 h) fun _ h=>
 ae (some (y6,h)) fun y35 h=>
 ae (pu (bin Tryz.prog .eql 35 y35 (.int .i64 0)) h) fun y36 h=>
 ae (some (y36,h)) fun y4_1 h=>
 some (y4_1,h)
theorem t109_eq (C:au) (x0 x1:Value) (h:ai):aY Tryz.prog C Tryz.f109 [x0,x1] h=t109 C x0 x1 h:=
 (aC Tryz.prog C Tryz.f109 [x0,x1] h (by kernel_rfl)).trans (by kernel_rfl)
noncomputable def t113 (C:au) (x0 x1:Value) (h:ai):Out:=
 ae (box x1 h) fun y3 h=>
 ae (some (x0,h)) fun y4 h=>
 ae (pu (az y3 7) h) fun y5 h=>
 ae (aP y5 h) fun y6 h=>
 ae (C 133 [y4,y6] h) fun _y7 h=>
 ae (some (x0,h)) fun y8 h=>
 ae (pu (az y3 8) h) fun y9 h=>
 ae (aP y9 h) fun y10 h=>
 ae (C 133 [y8,y10] h) fun _y11 h=>
 ae (some (x0,h)) fun y12 h=>
 ae (pu (az y3 9) h) fun y13 h=>
 ae (aP y13 h) fun y14 h=>
 ae (cvI .u32 y14 h) fun y15 h=>
 ae (C 51 [y12,y15] h) fun _y16 h=>
 ae (some (x0,h)) fun y17 h=>
 ae (pu (az y3 10) h) fun y18 h=>
 ae (pu (cJ 32 1 y18 none none none) h) fun y19 h=>
 ae (C 52 [y17,y19] h) fun _y20 h=>
 some (.tuple #[],h)
theorem t113_eq (C:au) (x0 x1:Value) (h:ai):aY Tryz.prog C Tryz.f113 [x0,x1] h=t113 C x0 x1 h:=
 (aC Tryz.prog C Tryz.f113 [x0,x1] h (by kernel_rfl)).trans (by kernel_rfl)
noncomputable def t114 (C:au) (x0 x1:Value) (h:ai):Out:=
 ae (some ((.bool false),h)) fun _y4 h=>
 ae (some (x1,h)) fun y5 h=>
 ae (some (x1,h)) fun y6 h=>
 ae (some (x0,h)) fun y7 h=>
 ae (C 135 [y7] h) fun y8 h=>
 ae (some (x0,h)) fun y9 h=>
 ae (C 135 [y9] h) fun y10 h=>
 ae (pu (aM y5) h) fun y11 h=>
 ae (pu (az y11 7) h) fun y12 h=>
 ae (cv 1 y12 y8 h) fun _ h=>
 ae (pu (aM y6) h) fun y13 h=>
 ae (pu (az y13 8) h) fun y14 h=>
 ae (cv 1 y14 y10 h) fun _ h=>
 ae (some (x1,h)) fun y15 h=>
 ae (some (x0,h)) fun y16 h=>
 ae (C 33 [y16] h) fun y17 h=>
 ae (cvI .i64 y17 h) fun y18 h=>
 ae (pu (aM y15) h) fun y19 h=>
 ae (pu (az y19 9) h) fun y20 h=>
 ae (cv 1 y20 y18 h) fun _ h=>
 ae (some (x1,h)) fun y21 h=>
 ae (some (x0,h)) fun y22 h=>
 ae (C 130 [y22] h) fun y23 h=>
 ae (pu (aM y21) h) fun y24 h=>
 ae (pu (az y24 10) h) fun y25 h=>
 ae (cv 32 y25 y23 h) fun _ h=>
 ae (some ((.bool true),h)) fun y4_1 h=>
 some (y4_1,h)
theorem t114_eq (C:au) (x0 x1:Value) (h:ai):aY Tryz.prog C Tryz.f114 [x0,x1] h=t114 C x0 x1 h:=
 (aC Tryz.prog C Tryz.f114 [x0,x1] h (by kernel_rfl)).trans (by kernel_rfl)
noncomputable def b116_7 (_C:au) (i:Nat) (e:Env) (h:ai):Out:=if i=0 then (aw Tryz.prog Tryz.f116.results.toList) e h else (fun _ _ _=>none) i e h
noncomputable def t116 (C:au) (x0 x1:Value) (h:ai):Out:=
 ae (box x1 h) fun y3 h=>
 ae (some (x0,h)) fun y8 h=>
 ae (pu (az y3 7) h) fun y9 h=>
 ae (aP y9 h) fun y10 h=>
 ae (C 133 [y8,y10] h) fun y11 h=>
 ae (some (x0,h)) fun y12 h=>
 ae (pu (az y3 8) h) fun y13 h=>
 ae (aP y13 h) fun y14 h=>
 ae (C 133 [y12,y14] h) fun y15 h=>
 ae (pu (az y3 43) h) fun y16 h=>
 ae (aP y16 h) fun y17 h=>
 (match y17 with
 | .bool true=>
 ae (some (x0,h)) fun y18 h=>
 ae (C 50 [y18,(.int .u8 1)] h) fun y19 h=>
 ae (some (x0,h)) fun y22 h=>
 ae (pu (az y3 42) h) fun y23 h=>
 ae (aP y23 h) fun y24 h=>
 ae (pu (bM y24) h) fun y25 h=>
 ae (cvI .u16 y25 h) fun df h=>
 ae (C 49 [y22,df] h) fun dE h=>
 ae (pu (az y3 42) h) fun y28 h=>
 ae (aP y28 h) fun y29 h=>
 ae (pu (bM y29) h) fun y30 h=>
 ae (some ((.int .i64 0),h)) fun y31 h=>
 fa (iter (aI Tryz.prog C (partOf Tryz.f116 [1,1,1,1,1,1,0,0])) rounds (bE 44 (up (bs [x0,x1]) [(3,y3),(8,y8),(9,y9),(10,y10),(11,y11),(12,y12),(13,y13),(14,y14),(15,y15),(16,y16),(17,y17),(18,y18),(19,y19),(22,y22),(23,y23),(24,y24),(25,y25),(26,df),(27,dE),(28,y28),(29,y29),(30,y30),(31,y31)])) h) (aw Tryz.prog Tryz.f116.results.toList) (b116_7 C)
 | .bool false=>
 ae (some (x0,h)) fun y20 h=>
 ae (C 50 [y20,(.int .u8 0)] h) fun y21 h=>
 ae (some (x0,h)) fun y22 h=>
 ae (pu (az y3 42) h) fun y23 h=>
 ae (aP y23 h) fun y24 h=>
 ae (pu (bM y24) h) fun y25 h=>
 ae (cvI .u16 y25 h) fun df h=>
 ae (C 49 [y22,df] h) fun dE h=>
 ae (pu (az y3 42) h) fun y28 h=>
 ae (aP y28 h) fun y29 h=>
 ae (pu (bM y29) h) fun y30 h=>
 ae (some ((.int .i64 0),h)) fun y31 h=>
 fa (iter (aI Tryz.prog C (partOf Tryz.f116 [1,1,1,1,1,1,0,0])) rounds (bE 44 (up (bs [x0,x1]) [(3,y3),(8,y8),(9,y9),(10,y10),(11,y11),(12,y12),(13,y13),(14,y14),(15,y15),(16,y16),(17,y17),(20,y20),(21,y21),(22,y22),(23,y23),(24,y24),(25,y25),(26,df),(27,dE),(28,y28),(29,y29),(30,y30),(31,y31)])) h) (aw Tryz.prog Tryz.f116.results.toList) (b116_7 C)
 |_=>none)
noncomputable def eK (C:au) (x:Nat→Value) (h:ai):Option (Ex×Env×ai):=
 ae (pu (bin Tryz.prog .lss 3 (x 31) (x 30)) h) fun y32 h=>
 (match y32 with
 | .bool true=>
 ae (pu (cn 39 (x 29) (x 31)) h) fun y33 h=>
 ae (cq 39 y33 h) fun y34 h=>
 ae (eQ [(.int .u8 0),(.int .u8 0),(.int .u8 0),(.int .u8 0),(.int .u8 0),(.int .u8 0),(.int .u8 0),(.int .u8 0),(.int .u8 0),(.int .u8 0),(.int .u8 0),(.int .u8 0),(.int .u8 0),(.int .u8 0),(.int .u8 0),(.int .u8 0),(.int .u8 0),(.int .u8 0),(.int .u8 0),(.int .u8 0),(.int .u8 0),(.int .u8 0),(.int .u8 0),(.int .u8 0),(.int .u8 0),(.int .u8 0),(.int .u8 0),(.int .u8 0),(.int .u8 0),(.int .u8 0),(.int .u8 0),(.int .u8 0),(.int .u8 0),(.int .i64 0),(.int .u64 0),(.int .u64 0),(.bool false),(.int .i64 0),(.int .i64 0)] h) fun y5 h=>
 ae (cv 39 y5 y34 h) fun _ h=>
 ae (cq 39 y5 h) fun y36 h=>
 ae (C 139 [y36] h) fun y37 h=>
 ae (some (y37,h)) fun y35 h=>
 ae (pu (bn y35 0) h) fun y38 h=>
 ae (pu (bn y35 1) h) fun y39 h=>
 ae (some (y38,h)) fun y6 h=>
 ae (some (y39,h)) fun y7 h=>
 ae (some ((x 0),h)) fun y40 h=>
 ae (some (y6,h)) fun y41 h=>
 ae (C 52 [y40,y41] h) fun y42 h=>
 ae (pu (bin Tryz.prog .add 3 (x 31) (.int .i64 1)) h) fun y43 h=>
 ae (some (y43,h)) fun y31 h=>
 some (.normal,(bE 44 (up x [(5,y5),(6,y6),(7,y7),(31,y31),(32,y32),(33,y33),(34,y34),(35,y35),(36,y36),(37,y37),(38,y38),(39,y39),(40,y40),(41,y41),(42,y42),(43,y43)])),h)
 | .bool false=>
 some (.exit 0,(bE 44 (up x [(32,y32)])),h)
 |_=>none)
theorem t116_eq (C:au) (x0 x1:Value) (h:ai):aY Tryz.prog C Tryz.f116 [x0,x1] h=t116 C x0 x1 h:=
 (aC Tryz.prog C Tryz.f116 [x0,x1] h (by kernel_rfl)).trans (by kernel_rfl)
theorem t116l116_1111110_eq (C:au) (x:Nat→Value) (h:ai):aI Tryz.prog C (partOf Tryz.f116 [1,1,1,1,1,1,0,0]) (bE 44 x) h=eK C x h:=
 bw (T:=eK C) (fun x h=>by kernel_rfl) x h
noncomputable def k117_4 (C:au) (e:Env) (h:ai):Out:=cw Tryz.prog C (partOf Tryz.f117 [1,1,1,1,1]) e h (aw Tryz.prog Tryz.f117.results.toList) (aw Tryz.prog Tryz.f117.results.toList) (fun _ _ _=>none)
noncomputable def b117_6 (C:au) (i:Nat) (e:Env) (h:ai):Out:=if i=0 then (k117_4 C) e h else (fun _ _ _=>none) i e h
noncomputable def t117 (C:au) (x0 x1:Value) (h:ai):Out:=
 ae (some ((.bool false),h)) fun y4 h=>
 ae (some (x1,h)) fun y8 h=>
 ae (some (x1,h)) fun y9 h=>
 ae (some (x0,h)) fun y10 h=>
 ae (C 135 [y10] h) fun y11 h=>
 ae (some (x0,h)) fun y12 h=>
 ae (C 135 [y12] h) fun y13 h=>
 ae (pu (aM y8) h) fun y14 h=>
 ae (pu (az y14 7) h) fun y15 h=>
 ae (cv 1 y15 y11 h) fun _ h=>
 ae (pu (aM y9) h) fun y16 h=>
 ae (pu (az y16 8) h) fun y17 h=>
 ae (cv 1 y17 y13 h) fun _ h=>
 ae (some (x0,h)) fun y18 h=>
 ae (C 73 [y18] h) fun y19 h=>
 ae (some (y19,h)) fun y5 h=>
 ae (some (x1,h)) fun y20 h=>
 ae (some (y5,h)) fun y21 h=>
 ae (pu (bin Tryz.prog .eql 5 y21 (.int .u8 1)) h) fun y22 h=>
 ae (pu (aM y20) h) fun y23 h=>
 ae (pu (az y23 43) h) fun y24 h=>
 ae (cv 1 y24 y22 h) fun _ h=>
 ae (some (x0,h)) fun y25 h=>
 ae (C 72 [y25] h) fun df h=>
 ae (some ((.int .u16 0),h)) fun dE h=>
 fa (iter (aI Tryz.prog C (partOf Tryz.f117 [1,1,1,1,0,1,0,0])) rounds (bE 50 (up (bs [x0,x1]) [(4,y4),(5,y5),(8,y8),(9,y9),(10,y10),(11,y11),(12,y12),(13,y13),(14,y14),(15,y15),(16,y16),(17,y17),(18,y18),(19,y19),(20,y20),(21,y21),(22,y22),(23,y23),(24,y24),(25,y25),(26,df),(27,dE)])) h) (aw Tryz.prog Tryz.f117.results.toList) (b117_6 C)
noncomputable def t117k117_4 (_C:au) (x:Nat→Value) (h:ai):Out:=
 ae (some ((x 5),h)) fun y48 h=>
 ae (pu (bin Tryz.prog .leq 5 y48 (.int .u8 1)) h) fun y49 h=>
 ae (some (y49,h)) fun y4 h=>
 some (y4,h)
noncomputable def eO (C:au) (x:Nat→Value) (h:ai):Option (Ex×Env×ai):=
 ae (pu (bin Tryz.prog .lss 65 (x 27) (x 26)) h) fun y28 h=>
 (match y28 with
 | .bool true=>
 ae (some ((x 0),h)) fun y30 h=>
 ae (C 74 [y30,(.int .i64 53)] h) fun y31 h=>
 ae (C 140 [y31] h) fun y32 h=>
 ae (some (y32,h)) fun y29 h=>
 ae (pu (bn y29 0) h) fun y33 h=>
 ae (pu (bn y29 1) h) fun y34 h=>
 ae (eQ [(.int .u8 0),(.int .u8 0),(.int .u8 0),(.int .u8 0),(.int .u8 0),(.int .u8 0),(.int .u8 0),(.int .u8 0),(.int .u8 0),(.int .u8 0),(.int .u8 0),(.int .u8 0),(.int .u8 0),(.int .u8 0),(.int .u8 0),(.int .u8 0),(.int .u8 0),(.int .u8 0),(.int .u8 0),(.int .u8 0),(.int .u8 0),(.int .u8 0),(.int .u8 0),(.int .u8 0),(.int .u8 0),(.int .u8 0),(.int .u8 0),(.int .u8 0),(.int .u8 0),(.int .u8 0),(.int .u8 0),(.int .u8 0),(.int .u8 0),(.int .i64 0),(.int .u64 0),(.int .u64 0),(.bool false),(.int .i64 0),(.int .i64 0)] h) fun y6 h=>
 ae (cv 39 y6 y33 h) fun _ h=>
 ae (some (y34,h)) fun y7 h=>
 ae (some (y7,h)) fun y35 h=>
 ae (pu (bin Tryz.prog .neq 35 y35 (.int .i64 0)) h) fun y36 h=>
 (match y36 with
 | .bool true=>
 ae (some ((.bool false),h)) fun y4 h=>
 some (.ret,(bE 50 (up x [(4,y4),(6,y6),(7,y7),(28,y28),(29,y29),(30,y30),(31,y31),(32,y32),(33,y33),(34,y34),(35,y35),(36,y36)])),h)
 | .bool false=>
 ae (some ((x 1),h)) fun y37 h=>
 ae (some ((x 1),h)) fun y38 h=>
 ae (pu (aM y38) h) fun y39 h=>
 ae (pu (az y39 42) h) fun y40 h=>
 ae (aP y40 h) fun y41 h=>
 ae (cq 39 y6 h) fun y42 h=>
 ae (bslR 39 (.agg #[(.int .u8 0),(.int .u8 0),(.int .u8 0),(.int .u8 0),(.int .u8 0),(.int .u8 0),(.int .u8 0),(.int .u8 0),(.int .u8 0),(.int .u8 0),(.int .u8 0),(.int .u8 0),(.int .u8 0),(.int .u8 0),(.int .u8 0),(.int .u8 0),(.int .u8 0),(.int .u8 0),(.int .u8 0),(.int .u8 0),(.int .u8 0),(.int .u8 0),(.int .u8 0),(.int .u8 0),(.int .u8 0),(.int .u8 0),(.int .u8 0),(.int .u8 0),(.int .u8 0),(.int .u8 0),(.int .u8 0),(.int .u8 0),(.int .u8 0),(.int .i64 0),(.int .u64 0),(.int .u64 0),(.bool false),(.int .i64 0),(.int .i64 0)]) 1 [(0,y42)] h) fun y43 h=>
 ae (br 39 88 y41 y43 h) fun y44 h=>
 ae (pu (aM y37) h) fun y45 h=>
 ae (pu (az y45 42) h) fun y46 h=>
 ae (cv 1 y46 y44 h) fun _ h=>
 ae (pu (bin Tryz.prog .add 65 (x 27) (.int .u16 1)) h) fun y47 h=>
 ae (some (y47,h)) fun dE h=>
 some (.normal,(bE 50 (up x [(6,y6),(7,y7),(27,dE),(28,y28),(29,y29),(30,y30),(31,y31),(32,y32),(33,y33),(34,y34),(35,y35),(36,y36),(37,y37),(38,y38),(39,y39),(40,y40),(41,y41),(42,y42),(43,y43),(44,y44),(45,y45),(46,y46),(47,y47)])),h)
 |_=>none)
 | .bool false=>
 some (.exit 0,(bE 50 (up x [(28,y28)])),h)
 |_=>none)
theorem t117_eq (C:au) (x0 x1:Value) (h:ai):aY Tryz.prog C Tryz.f117 [x0,x1] h=t117 C x0 x1 h:=
 (aC Tryz.prog C Tryz.f117 [x0,x1] h (by kernel_rfl)).trans (by kernel_rfl)
theorem t117k117_4_eq (C:au) (x:Nat→Value) (h:ai):k117_4 C (bE 50 x) h=t117k117_4 C x h:=
 bV (b:=(partOf Tryz.f117 [1,1,1,1,1])) (kE:=(aw Tryz.prog Tryz.f117.results.toList)) (rE:=(aw Tryz.prog Tryz.f117.results.toList)) (xE:=(fun _ _ _=>none)) (T:=t117k117_4 C) (fun x h=>by kernel_rfl) x h
theorem t117l117_1111010_eq (C:au) (x:Nat→Value) (h:ai):aI Tryz.prog C (partOf Tryz.f117 [1,1,1,1,0,1,0,0]) (bE 50 x) h=eO C x h:=
 bw (T:=eO C) (fun x h=>by kernel_rfl) x h
noncomputable def t120 (C:au) (x0 x1:Value) (h:ai):Out:=
 ae (box x1 h) fun y3 h=>
 ae (some (x0,h)) fun y4 h=>
 ae (pu (az y3 44) h) fun y5 h=>
 ae (pu (cJ 32 1 y5 none none none) h) fun y6 h=>
 ae (C 52 [y4,y6] h) fun _y7 h=>
 ae (some (x0,h)) fun y8 h=>
 ae (pu (az y3 115) h) fun y9 h=>
 ae (aP y9 h) fun y10 h=>
 ae (cvI .u16 y10 h) fun y11 h=>
 ae (C 49 [y8,y11] h) fun _y12 h=>
 some (.tuple #[],h)
theorem t120_eq (C:au) (x0 x1:Value) (h:ai):aY Tryz.prog C Tryz.f120 [x0,x1] h=t120 C x0 x1 h:=
 (aC Tryz.prog C Tryz.f120 [x0,x1] h (by kernel_rfl)).trans (by kernel_rfl)
noncomputable def t121 (C:au) (x0 x1:Value) (h:ai):Out:=
 ae (some ((.bool false),h)) fun _y4 h=>
 ae (some (x1,h)) fun y5 h=>
 ae (some (x0,h)) fun y6 h=>
 ae (C 130 [y6] h) fun y7 h=>
 ae (pu (aM y5) h) fun y8 h=>
 ae (pu (az y8 44) h) fun y9 h=>
 ae (cv 32 y9 y7 h) fun _ h=>
 ae (some (x1,h)) fun y10 h=>
 ae (some (x0,h)) fun y11 h=>
 ae (C 72 [y11] h) fun y12 h=>
 ae (cvI .i64 y12 h) fun y13 h=>
 ae (pu (aM y10) h) fun y14 h=>
 ae (pu (az y14 115) h) fun y15 h=>
 ae (cv 1 y15 y13 h) fun _ h=>
 ae (some ((.bool true),h)) fun y4_1 h=>
 some (y4_1,h)
theorem t121_eq (C:au) (x0 x1:Value) (h:ai):aY Tryz.prog C Tryz.f121 [x0,x1] h=t121 C x0 x1 h:=
 (aC Tryz.prog C Tryz.f121 [x0,x1] h (by kernel_rfl)).trans (by kernel_rfl)
noncomputable def b127_2 (_C:au) (i:Nat) (e:Env) (h:ai):Out:=if i=0 then (aw Tryz.prog Tryz.f127.results.toList) e h else (fun _ _ _=>none) i e h
noncomputable def t127 (C:au) (x0 x1:Value) (h:ai):Out:=
 ae (some (x0,h)) fun y6 h=>
 ae (some (x1,h)) fun y7 h=>
 ae (pu (bM y7) h) fun y8 h=>
 ae (cvI .u8 y8 h) fun y9 h=>
 ae (C 50 [y6,y9] h) fun y10 h=>
 ae (some (x1,h)) fun y11 h=>
 ae (pu (bM y11) h) fun y12 h=>
 ae (some ((.int .i64 0),h)) fun y13 h=>
 fa (iter (aI Tryz.prog C (partOf Tryz.f127 [1,1,0,0])) rounds (bE 26 (up (bs [x0,x1]) [(6,y6),(7,y7),(8,y8),(9,y9),(10,y10),(11,y11),(12,y12),(13,y13)])) h) (aw Tryz.prog Tryz.f127.results.toList) (b127_2 C)
noncomputable def t127l127_110 (C:au) (x:Nat→Value) (h:ai):Option (Ex×Env×ai):=
 ae (pu (bin Tryz.prog .lss 3 (x 13) (x 12)) h) fun y14 h=>
 (match y14 with
 | .bool true=>
 ae (pu (cn 2 (x 11) (x 13)) h) fun y15 h=>
 ae (cq 2 y15 h) fun y16 h=>
 ae (eQ [(.int .u64 0),(.int .u8 0)] h) fun y5 h=>
 ae (cv 2 y5 y16 h) fun _ h=>
 ae (some ((x 0),h)) fun y17 h=>
 ae (pu (az y5 0) h) fun y18 h=>
 ae (aP y18 h) fun y19 h=>
 ae (C 126 [y17,y19] h) fun y20 h=>
 ae (some ((x 0),h)) fun y21 h=>
 ae (pu (az y5 1) h) fun y22 h=>
 ae (aP y22 h) fun y23 h=>
 ae (C 50 [y21,y23] h) fun y24 h=>
 ae (pu (bin Tryz.prog .add 3 (x 13) (.int .i64 1)) h) fun y25 h=>
 ae (some (y25,h)) fun y13 h=>
 some (.normal,(bE 26 (up x [(5,y5),(13,y13),(14,y14),(15,y15),(16,y16),(17,y17),(18,y18),(19,y19),(20,y20),(21,y21),(22,y22),(23,y23),(24,y24),(25,y25)])),h)
 | .bool false=>
 some (.exit 0,(bE 26 (up x [(14,y14)])),h)
 |_=>none)
theorem t127_eq (C:au) (x0 x1:Value) (h:ai):aY Tryz.prog C Tryz.f127 [x0,x1] h=t127 C x0 x1 h:=
 (aC Tryz.prog C Tryz.f127 [x0,x1] h (by kernel_rfl)).trans (by kernel_rfl)
theorem t127l127_110_eq (C:au) (x:Nat→Value) (h:ai):aI Tryz.prog C (partOf Tryz.f127 [1,1,0,0]) (bE 26 x) h=t127l127_110 C x h:=
 bw (T:=t127l127_110 C) (fun x h=>by kernel_rfl) x h
noncomputable def k129_1 (C:au) (e:Env) (h:ai):Out:=cw Tryz.prog C (partOf Tryz.f129 [1,1]) e h (aw Tryz.prog Tryz.f129.results.toList) (aw Tryz.prog Tryz.f129.results.toList) (fun _ _ _=>none)
noncomputable def b129_3 (C:au) (i:Nat) (e:Env) (h:ai):Out:=if i=0 then (k129_1 C) e h else (fun _ _ _=>none) i e h
noncomputable def t129 (C:au) (x0:Value) (h:ai):Out:=
 ae (some ((.slice none 0 0),h)) fun y2 h=>
 ae (some (x0,h)) fun y4 h=>
 ae (C 73 [y4] h) fun y5 h=>
 ae (some ((.int .u8 0),h)) fun y6 h=>
 fa (iter (aI Tryz.prog C (partOf Tryz.f129 [1,0,1,0,0])) rounds (bE 19 (up (bs [x0]) [(2,y2),(4,y4),(5,y5),(6,y6)])) h) (aw Tryz.prog Tryz.f129.results.toList) (b129_3 C)
noncomputable def t129k129_1 (_C:au) (x:Nat→Value) (h:ai):Out:=
 ae (some ((x 2),h)) fun y18 h=>
 ae (some (y18,h)) fun y2 h=>
 some (y2,h)
noncomputable def t129l129_1010 (C:au) (x:Nat→Value) (h:ai):Option (Ex×Env×ai):=
 ae (pu (bin Tryz.prog .lss 5 (x 6) (x 5)) h) fun y7 h=>
 (match y7 with
 | .bool true=>
 ae (some ((x 0),h)) fun y8 h=>
 ae (C 128 [y8] h) fun y9 h=>
 ae (some (y9,h)) fun y3 h=>
 ae (some ((x 2),h)) fun y10 h=>
 ae (some (y3,h)) fun y11 h=>
 ae (some ((x 0),h)) fun y12 h=>
 ae (C 73 [y12] h) fun y13 h=>
 ae (pu (cI [(.int .u64 0),(.int .u8 0)] [(0,1,y11),(1,1,y13)]) h) fun y14 h=>
 ae (bslR 2 (.agg #[(.int .u64 0),(.int .u8 0)]) 1 [(0,y14)] h) fun y15 h=>
 ae (br 2 16 y10 y15 h) fun y16 h=>
 ae (some (y16,h)) fun y2 h=>
 ae (pu (bin Tryz.prog .add 5 (x 6) (.int .u8 1)) h) fun y17 h=>
 ae (some (y17,h)) fun y6 h=>
 some (.normal,(bE 19 (up x [(2,y2),(3,y3),(6,y6),(7,y7),(8,y8),(9,y9),(10,y10),(11,y11),(12,y12),(13,y13),(14,y14),(15,y15),(16,y16),(17,y17)])),h)
 | .bool false=>
 some (.exit 0,(bE 19 (up x [(7,y7)])),h)
 |_=>none)
theorem t129_eq (C:au) (x0:Value) (h:ai):aY Tryz.prog C Tryz.f129 [x0] h=t129 C x0 h:=
 (aC Tryz.prog C Tryz.f129 [x0] h (by kernel_rfl)).trans (by kernel_rfl)
theorem t129k129_1_eq (C:au) (x:Nat→Value) (h:ai):k129_1 C (bE 19 x) h=t129k129_1 C x h:=
 bV (b:=(partOf Tryz.f129 [1,1])) (kE:=(aw Tryz.prog Tryz.f129.results.toList)) (rE:=(aw Tryz.prog Tryz.f129.results.toList)) (xE:=(fun _ _ _=>none)) (T:=t129k129_1 C) (fun x h=>by kernel_rfl) x h
theorem t129l129_1010_eq (C:au) (x:Nat→Value) (h:ai):aI Tryz.prog C (partOf Tryz.f129 [1,0,1,0,0]) (bE 19 x) h=t129l129_1010 C x h:=
 bw (T:=t129l129_1010 C) (fun x h=>by kernel_rfl) x h
noncomputable def t130 (C:au) (x0:Value) (h:ai):Out:=
 ae (eQ (List.replicate 32 (.int .u8 0)) h) fun y2 h=>
 ae (pu (cJ 32 1 y2 none none none) h) fun y3 h=>
 ae (some (x0,h)) fun y4 h=>
 ae (C 74 [y4,(.int .i64 32)] h) fun y5 h=>
 ae (copyA 1 y3 y5 h) fun y6 h=>
 ae (cq 32 y2 h) fun y7 h=>
 ae (cv 32 y2 y7 h) fun _ h=>
 aw Tryz.prog Tryz.f130.results.toList (bE 8 (up (bs [x0]) [(2,y2),(3,y3),(4,y4),(5,y5),(6,y6),(7,y7)])) h
theorem t130_eq (C:au) (x0:Value) (h:ai):aY Tryz.prog C Tryz.f130 [x0] h=t130 C x0 h:=
 (aC Tryz.prog C Tryz.f130 [x0] h (by kernel_rfl)).trans (by kernel_rfl)
noncomputable def k132_12 (C:au) (e:Env) (h:ai):Out:=cw Tryz.prog C (partOf Tryz.f132 [1,1,1,1,1,1,1,1,1,1]) e h (aw Tryz.prog Tryz.f132.results.toList) (aw Tryz.prog Tryz.f132.results.toList) (fun _ _ _=>none)
noncomputable def b132_14 (C:au) (i:Nat) (e:Env) (h:ai):Out:=if i=0 then (k132_12 C) e h else (fun _ _ _=>none) i e h
noncomputable def t132 (C:au) (x0:Value) (h:ai):Out:=
 ae (box x0 h) fun y1 h=>
 ae (some ((.slice none 0 0),h)) fun y2 h=>
 ae (some ((.int .i64 0),h)) fun y3 h=>
 ae (cq 37 y1 h) fun y8 h=>
 ae (C 131 [y8] h) fun y9 h=>
 ae (some (y9,h)) fun y4 h=>
 ae (some (y4,h)) fun y10 h=>
 ae (pu (bin Tryz.prog .neq 35 y10 (.int .i64 0)) h) fun y11 h=>
 (match y11 with
 | .bool true=>
 ae (some (y4,h)) fun y12 h=>
 ae (some ((.slice none 0 0),h)) fun y2_1 h=>
 ae (some (y12,h)) fun y3_1 h=>
 some (.tuple #[y2_1,y3_1],h)
 | .bool false=>
 ae (pu (az y1 2) h) fun y13 h=>
 ae (aP y13 h) fun y14 h=>
 ae (pu (bin Tryz.prog .mul 3 (.int .i64 32) y14) h) fun y15 h=>
 ae (pu (bin Tryz.prog .add 3 (.int .i64 39) y15) h) fun y16 h=>
 ae (C 47 [y16] h) fun y17 h=>
 ae (some (y17,h)) fun y5 h=>
 ae (some (y5,h)) fun y18 h=>
 ae (C 49 [y18,(.int .u16 19713)] h) fun y19 h=>
 ae (some (y5,h)) fun y20 h=>
 ae (pu (az y1 0) h) fun y21 h=>
 ae (aP y21 h) fun y22 h=>
 ae (cvI .u8 y22 h) fun y23 h=>
 ae (C 50 [y20,y23] h) fun y24 h=>
 ae (some (y5,h)) fun y25 h=>
 ae (pu (az y1 1) h) fun df h=>
 ae (aP df h) fun dE h=>
 ae (cvI .u8 dE h) fun y28 h=>
 ae (C 50 [y25,y28] h) fun y29 h=>
 ae (some (y5,h)) fun y30 h=>
 ae (pu (az y1 2) h) fun y31 h=>
 ae (aP y31 h) fun y32 h=>
 ae (cvI .u8 y32 h) fun y33 h=>
 ae (C 50 [y30,y33] h) fun y34 h=>
 ae (some (y5,h)) fun y35 h=>
 ae (pu (az y1 3) h) fun y36 h=>
 ae (aP y36 h) fun y37 h=>
 ae (cvI .u16 y37 h) fun y38 h=>
 ae (C 49 [y35,y38] h) fun y39 h=>
 ae (some (y5,h)) fun y40 h=>
 ae (pu (az y1 4) h) fun y41 h=>
 ae (pu (cJ 32 1 y41 none none none) h) fun y42 h=>
 ae (C 52 [y40,y42] h) fun y43 h=>
 ae (pu (az y1 36) h) fun y44 h=>
 ae (aP y44 h) fun y45 h=>
 ae (pu (bM y45) h) fun y46 h=>
 ae (some ((.int .i64 0),h)) fun y47 h=>
 fa (iter (aI Tryz.prog C (partOf Tryz.f132 [1,1,1,1,1,1,1,1,1,0,1,0,0])) rounds (bE 59 (up (bs [x0]) [(1,y1),(2,y2),(3,y3),(4,y4),(5,y5),(8,y8),(9,y9),(10,y10),(11,y11),(13,y13),(14,y14),(15,y15),(16,y16),(17,y17),(18,y18),(19,y19),(20,y20),(21,y21),(22,y22),(23,y23),(24,y24),(25,y25),(26,df),(27,dE),(28,y28),(29,y29),(30,y30),(31,y31),(32,y32),(33,y33),(34,y34),(35,y35),(36,y36),(37,y37),(38,y38),(39,y39),(40,y40),(41,y41),(42,y42),(43,y43),(44,y44),(45,y45),(46,y46),(47,y47)])) h) (aw Tryz.prog Tryz.f132.results.toList) (b132_14 C)
 |_=>none)
noncomputable def t132k132_12 (C:au) (x:Nat→Value) (h:ai):Out:=
 ae (some ((x 5),h)) fun y55 h=>
 ae (C 48 [y55] h) fun y56 h=>
 ae (pu (bn y56 0) h) fun y57 h=>
 ae (pu (bn y56 1) h) fun y58 h=>
 ae (some (y57,h)) fun y2 h=>
 ae (some (y58,h)) fun y3 h=>
 some (.tuple #[y2,y3],h)
noncomputable def c9 (C:au) (x:Nat→Value) (h:ai):Option (Ex×Env×ai):=
 ae (pu (bin Tryz.prog .lss 3 (x 47) (x 46)) h) fun y48 h=>
 (match y48 with
 | .bool true=>
 ae (pu (cn 32 (x 45) (x 47)) h) fun y49 h=>
 ae (cq 32 y49 h) fun y50 h=>
 ae (eQ (List.replicate 32 (.int .u8 0)) h) fun y7 h=>
 ae (cv 32 y7 y50 h) fun _ h=>
 ae (some ((x 5),h)) fun y51 h=>
 ae (pu (cJ 32 1 y7 none none none) h) fun y52 h=>
 ae (C 52 [y51,y52] h) fun y53 h=>
 ae (pu (bin Tryz.prog .add 3 (x 47) (.int .i64 1)) h) fun y54 h=>
 ae (some (y54,h)) fun y47 h=>
 some (.normal,(bE 59 (up x [(7,y7),(47,y47),(48,y48),(49,y49),(50,y50),(51,y51),(52,y52),(53,y53),(54,y54)])),h)
 | .bool false=>
 some (.exit 0,(bE 59 (up x [(48,y48)])),h)
 |_=>none)
theorem t132_eq (C:au) (x0:Value) (h:ai):aY Tryz.prog C Tryz.f132 [x0] h=t132 C x0 h:=
 (aC Tryz.prog C Tryz.f132 [x0] h (by kernel_rfl)).trans (by kernel_rfl)
theorem t132k132_12_eq (C:au) (x:Nat→Value) (h:ai):k132_12 C (bE 59 x) h=t132k132_12 C x h:=
 bV (b:=(partOf Tryz.f132 [1,1,1,1,1,1,1,1,1,1])) (kE:=(aw Tryz.prog Tryz.f132.results.toList)) (rE:=(aw Tryz.prog Tryz.f132.results.toList)) (xE:=(fun _ _ _=>none)) (T:=t132k132_12 C) (fun x h=>by kernel_rfl) x h
theorem t132l132_111111111010_eq (C:au) (x:Nat→Value) (h:ai):aI Tryz.prog C (partOf Tryz.f132 [1,1,1,1,1,1,1,1,1,0,1,0,0]) (bE 59 x) h=c9 C x h:=
 bw (T:=c9 C) (fun x h=>by kernel_rfl) x h
noncomputable def k134_15 (C:au) (e:Env) (h:ai):Out:=cw Tryz.prog C (partOf Tryz.f134 [1,1,1,1,1,1,1,1,1]) e h (aw Tryz.prog Tryz.f134.results.toList) (aw Tryz.prog Tryz.f134.results.toList) (fun _ _ _=>none)
noncomputable def b134_17 (C:au) (i:Nat) (e:Env) (h:ai):Out:=if i=0 then (k134_15 C) e h else (fun _ _ _=>none) i e h
noncomputable def t134 (C:au) (x0:Value) (h:ai):Out:=
 ae (eQ [(.int .i64 0),(.int .i64 0),(.int .i64 0),(.int .i64 0),(.int .u8 0),(.int .u8 0),(.int .u8 0),(.int .u8 0),(.int .u8 0),(.int .u8 0),(.int .u8 0),(.int .u8 0),(.int .u8 0),(.int .u8 0),(.int .u8 0),(.int .u8 0),(.int .u8 0),(.int .u8 0),(.int .u8 0),(.int .u8 0),(.int .u8 0),(.int .u8 0),(.int .u8 0),(.int .u8 0),(.int .u8 0),(.int .u8 0),(.int .u8 0),(.int .u8 0),(.int .u8 0),(.int .u8 0),(.int .u8 0),(.int .u8 0),(.int .u8 0),(.int .u8 0),(.int .u8 0),(.int .u8 0),(.slice none 0 0)] h) fun y2 h=>
 ae (some ((.int .i64 0),h)) fun y3 h=>
 ae (some (x0,h)) fun y9 h=>
 ae (C 32 [y9] h) fun y10 h=>
 ae (some (y10,h)) fun y4 h=>
 ae (some (y4,h)) fun y11 h=>
 ae (C 72 [y11] h) fun y12 h=>
 ae (some (y12,h)) fun y5 h=>
 ae (some (y4,h)) fun y13 h=>
 ae (C 73 [y13] h) fun y14 h=>
 ae (cvI .i64 y14 h) fun y15 h=>
 ae (some (y4,h)) fun y16 h=>
 ae (C 73 [y16] h) fun y17 h=>
 ae (cvI .i64 y17 h) fun y18 h=>
 ae (some (y4,h)) fun y19 h=>
 ae (C 73 [y19] h) fun y20 h=>
 ae (cvI .i64 y20 h) fun y21 h=>
 ae (some (y4,h)) fun y22 h=>
 ae (C 72 [y22] h) fun y23 h=>
 ae (cvI .i64 y23 h) fun y24 h=>
 ae (pu (cI [(.int .i64 0),(.int .i64 0),(.int .i64 0),(.int .i64 0),(.int .u8 0),(.int .u8 0),(.int .u8 0),(.int .u8 0),(.int .u8 0),(.int .u8 0),(.int .u8 0),(.int .u8 0),(.int .u8 0),(.int .u8 0),(.int .u8 0),(.int .u8 0),(.int .u8 0),(.int .u8 0),(.int .u8 0),(.int .u8 0),(.int .u8 0),(.int .u8 0),(.int .u8 0),(.int .u8 0),(.int .u8 0),(.int .u8 0),(.int .u8 0),(.int .u8 0),(.int .u8 0),(.int .u8 0),(.int .u8 0),(.int .u8 0),(.int .u8 0),(.int .u8 0),(.int .u8 0),(.int .u8 0),(.slice none 0 0)] [(0,1,y15),(1,1,y18),(2,1,y21),(3,1,y24)]) h) fun y25 h=>
 ae (eQ [(.int .i64 0),(.int .i64 0),(.int .i64 0),(.int .i64 0),(.int .u8 0),(.int .u8 0),(.int .u8 0),(.int .u8 0),(.int .u8 0),(.int .u8 0),(.int .u8 0),(.int .u8 0),(.int .u8 0),(.int .u8 0),(.int .u8 0),(.int .u8 0),(.int .u8 0),(.int .u8 0),(.int .u8 0),(.int .u8 0),(.int .u8 0),(.int .u8 0),(.int .u8 0),(.int .u8 0),(.int .u8 0),(.int .u8 0),(.int .u8 0),(.int .u8 0),(.int .u8 0),(.int .u8 0),(.int .u8 0),(.int .u8 0),(.int .u8 0),(.int .u8 0),(.int .u8 0),(.int .u8 0),(.slice none 0 0)] h) fun y6 h=>
 ae (cv 37 y6 y25 h) fun _ h=>
 ae (some (y4,h)) fun df h=>
 ae (C 75 [df] h) fun dE h=>
 ae (some (dE,h)) fun y7 h=>
 ae (some (y7,h)) fun y28 h=>
 ae (pu (bin Tryz.prog .neq 35 y28 (.int .i64 0)) h) fun y29 h=>
 (match y29 with
 | .bool true=>
 ae (pu (cI [(.int .i64 0),(.int .i64 0),(.int .i64 0),(.int .i64 0),(.int .u8 0),(.int .u8 0),(.int .u8 0),(.int .u8 0),(.int .u8 0),(.int .u8 0),(.int .u8 0),(.int .u8 0),(.int .u8 0),(.int .u8 0),(.int .u8 0),(.int .u8 0),(.int .u8 0),(.int .u8 0),(.int .u8 0),(.int .u8 0),(.int .u8 0),(.int .u8 0),(.int .u8 0),(.int .u8 0),(.int .u8 0),(.int .u8 0),(.int .u8 0),(.int .u8 0),(.int .u8 0),(.int .u8 0),(.int .u8 0),(.int .u8 0),(.int .u8 0),(.int .u8 0),(.int .u8 0),(.int .u8 0),(.slice none 0 0)] []) h) fun y30 h=>
 ae (some (y7,h)) fun y31 h=>
 ae (cv 37 y2 y30 h) fun _ h=>
 ae (some (y31,h)) fun y3_1 h=>
 aw Tryz.prog Tryz.f134.results.toList (bE 71 (up (bs [x0]) [(2,y2),(3,y3_1),(4,y4),(5,y5),(6,y6),(7,y7),(9,y9),(10,y10),(11,y11),(12,y12),(13,y13),(14,y14),(15,y15),(16,y16),(17,y17),(18,y18),(19,y19),(20,y20),(21,y21),(22,y22),(23,y23),(24,y24),(25,y25),(26,df),(27,dE),(28,y28),(29,y29),(30,y30),(31,y31)])) h
 | .bool false=>
 ae (some (y5,h)) fun y32 h=>
 ae (pu (bin Tryz.prog .neq 65 y32 (.int .u16 19713)) h) fun y33 h=>
 (match y33 with
 | .bool true=>
 ae (pu (cI [(.int .i64 0),(.int .i64 0),(.int .i64 0),(.int .i64 0),(.int .u8 0),(.int .u8 0),(.int .u8 0),(.int .u8 0),(.int .u8 0),(.int .u8 0),(.int .u8 0),(.int .u8 0),(.int .u8 0),(.int .u8 0),(.int .u8 0),(.int .u8 0),(.int .u8 0),(.int .u8 0),(.int .u8 0),(.int .u8 0),(.int .u8 0),(.int .u8 0),(.int .u8 0),(.int .u8 0),(.int .u8 0),(.int .u8 0),(.int .u8 0),(.int .u8 0),(.int .u8 0),(.int .u8 0),(.int .u8 0),(.int .u8 0),(.int .u8 0),(.int .u8 0),(.int .u8 0),(.int .u8 0),(.slice none 0 0)] []) h) fun y34 h=>
 ae (cv 37 y2 y34 h) fun _ h=>
 ae (some ((.int .i64 5),h)) fun y3_1 h=>
 aw Tryz.prog Tryz.f134.results.toList (bE 71 (up (bs [x0]) [(2,y2),(3,y3_1),(4,y4),(5,y5),(6,y6),(7,y7),(9,y9),(10,y10),(11,y11),(12,y12),(13,y13),(14,y14),(15,y15),(16,y16),(17,y17),(18,y18),(19,y19),(20,y20),(21,y21),(22,y22),(23,y23),(24,y24),(25,y25),(26,df),(27,dE),(28,y28),(29,y29),(32,y32),(33,y33),(34,y34)])) h
 | .bool false=>
 ae (pu (az y6 0) h) fun y35 h=>
 ae (aP y35 h) fun y36 h=>
 ae (pu (az y6 1) h) fun y37 h=>
 ae (aP y37 h) fun y38 h=>
 ae (pu (az y6 2) h) fun y39 h=>
 ae (aP y39 h) fun y40 h=>
 ae (C 148 [y36,y38,y40] h) fun y41 h=>
 ae (pu (unA .not y41) h) fun y42 h=>
 ae (some (y42,h)) fun y43 h=>
 ae (al (aL y43==some false) (pu (az y6 3) h) h) fun y44 h=>
 ae (al (aL y43==some false) (aP y44 h) h) fun y45 h=>
 ae (al (aL y43==some false) (pu (bin Tryz.prog .gtr 3 y45 (.int .i64 8192)) h) h) fun y46 h=>
 ae (match y43 with | .bool t=>some (if t then (.bool true) else y46,h)|_=>none) fun y47 h=>
 (match y47 with
 | .bool true=>
 ae (pu (cI [(.int .i64 0),(.int .i64 0),(.int .i64 0),(.int .i64 0),(.int .u8 0),(.int .u8 0),(.int .u8 0),(.int .u8 0),(.int .u8 0),(.int .u8 0),(.int .u8 0),(.int .u8 0),(.int .u8 0),(.int .u8 0),(.int .u8 0),(.int .u8 0),(.int .u8 0),(.int .u8 0),(.int .u8 0),(.int .u8 0),(.int .u8 0),(.int .u8 0),(.int .u8 0),(.int .u8 0),(.int .u8 0),(.int .u8 0),(.int .u8 0),(.int .u8 0),(.int .u8 0),(.int .u8 0),(.int .u8 0),(.int .u8 0),(.int .u8 0),(.int .u8 0),(.int .u8 0),(.int .u8 0),(.slice none 0 0)] []) h) fun y48 h=>
 ae (cv 37 y2 y48 h) fun _ h=>
 ae (some ((.int .i64 2),h)) fun y3_1 h=>
 aw Tryz.prog Tryz.f134.results.toList (bE 71 (up (bs [x0]) [(2,y2),(3,y3_1),(4,y4),(5,y5),(6,y6),(7,y7),(9,y9),(10,y10),(11,y11),(12,y12),(13,y13),(14,y14),(15,y15),(16,y16),(17,y17),(18,y18),(19,y19),(20,y20),(21,y21),(22,y22),(23,y23),(24,y24),(25,y25),(26,df),(27,dE),(28,y28),(29,y29),(32,y32),(33,y33),(35,y35),(36,y36),(37,y37),(38,y38),(39,y39),(40,y40),(41,y41),(42,y42),(43,y43),(44,y44),(45,y45),(46,y46),(47,y47),(48,y48)])) h
 | .bool false=>
 ae (some (y4,h)) fun y49 h=>
 ae (C 149 [y49] h) fun y50 h=>
 ae (pu (az y6 4) h) fun y51 h=>
 ae (cv 32 y51 y50 h) fun _ h=>
 ae (pu (az y6 2) h) fun y52 h=>
 ae (aP y52 h) fun y53 h=>
 ae (some ((.int .i64 0),h)) fun y54 h=>
 fa (iter (aI Tryz.prog C (partOf Tryz.f134 [1,1,1,1,1,1,1,1,0,1,0,0])) rounds (bE 71 (up (bs [x0]) [(2,y2),(3,y3),(4,y4),(5,y5),(6,y6),(7,y7),(9,y9),(10,y10),(11,y11),(12,y12),(13,y13),(14,y14),(15,y15),(16,y16),(17,y17),(18,y18),(19,y19),(20,y20),(21,y21),(22,y22),(23,y23),(24,y24),(25,y25),(26,df),(27,dE),(28,y28),(29,y29),(32,y32),(33,y33),(35,y35),(36,y36),(37,y37),(38,y38),(39,y39),(40,y40),(41,y41),(42,y42),(43,y43),(44,y44),(45,y45),(46,y46),(47,y47),(49,y49),(50,y50),(51,y51),(52,y52),(53,y53),(54,y54)])) h) (aw Tryz.prog Tryz.f134.results.toList) (b134_17 C)
 |_=>none)
 |_=>none)
 |_=>none)
noncomputable def t134k134_15 (C:au) (x:Nat→Value) (h:ai):Out:=
 ae (some ((x 4),h)) fun y64 h=>
 ae (C 36 [y64] h) fun y65 h=>
 ae (some (y65,h)) fun y8 h=>
 ae (some (y8,h)) fun y66 h=>
 ae (pu (bin Tryz.prog .neq 35 y66 (.int .i64 0)) h) fun y67 h=>
 (match y67 with
 | .bool true=>
 ae (pu (cI [(.int .i64 0),(.int .i64 0),(.int .i64 0),(.int .i64 0),(.int .u8 0),(.int .u8 0),(.int .u8 0),(.int .u8 0),(.int .u8 0),(.int .u8 0),(.int .u8 0),(.int .u8 0),(.int .u8 0),(.int .u8 0),(.int .u8 0),(.int .u8 0),(.int .u8 0),(.int .u8 0),(.int .u8 0),(.int .u8 0),(.int .u8 0),(.int .u8 0),(.int .u8 0),(.int .u8 0),(.int .u8 0),(.int .u8 0),(.int .u8 0),(.int .u8 0),(.int .u8 0),(.int .u8 0),(.int .u8 0),(.int .u8 0),(.int .u8 0),(.int .u8 0),(.int .u8 0),(.int .u8 0),(.slice none 0 0)] []) h) fun y68 h=>
 ae (some (y8,h)) fun y69 h=>
 ae (cv 37 (x 2) y68 h) fun _ h=>
 ae (some (y69,h)) fun y3 h=>
 aw Tryz.prog Tryz.f134.results.toList (bE 71 (up x [(3,y3),(8,y8),(64,y64),(65,y65),(66,y66),(67,y67),(68,y68),(69,y69)])) h
 | .bool false=>
 ae (cq 37 (x 6) h) fun y70 h=>
 ae (cv 37 (x 2) y70 h) fun _ h=>
 ae (some ((.int .i64 0),h)) fun y3 h=>
 aw Tryz.prog Tryz.f134.results.toList (bE 71 (up x [(3,y3),(8,y8),(64,y64),(65,y65),(66,y66),(67,y67),(70,y70)])) h
 |_=>none)
noncomputable def di (C:au) (x:Nat→Value) (h:ai):Option (Ex×Env×ai):=
 ae (pu (bin Tryz.prog .lss 3 (x 54) (x 53)) h) fun y55 h=>
 (match y55 with
 | .bool true=>
 let g27_0:=h
 ae (pu (az (x 6) 36) g27_0) fun y56 g27_1=>
 ae (aP y56 g27_1) fun y57 g27_2=>
 ae (some ((x 4),g27_2)) fun y58 g27_3=>
 ae (C 149 [y58] g27_3) fun y59 g27_4=>
 ae (bslR 32 (.agg (List.replicate 32 (.int .u8 0)).toArray) 1 [(0,y59)] g27_4) fun y60 g27_5=>
 ae (br 32 32 y57 y60 g27_5) fun y61 g27_6=>
 ae (pu (az (x 6) 36) g27_6) fun y62 g27_7=>
 ae (cv 1 y62 y61 g27_7) fun _ g27_8=>
 (match (chkR true (aP y56 g27_4) y57&&true) with
 |true=>
 let h:=g27_8
 ae (pu (bin Tryz.prog .add 3 (x 54) (.int .i64 1)) h) fun y63 h=>
 ae (some (y63,h)) fun y54 h=>
 some (.normal,(bE 71 (up x [(54,y54),(55,y55),(56,y56),(57,y57),(58,y58),(59,y59),(60,y60),(61,y61),(62,y62),(63,y63)])),h)
 |false=>none)
 | .bool false=>
 some (.exit 0,(bE 71 (up x [(55,y55)])),h)
 |_=>none)
theorem t134_eq (C:au) (x0:Value) (h:ai):aY Tryz.prog C Tryz.f134 [x0] h=t134 C x0 h:=
 (aC Tryz.prog C Tryz.f134 [x0] h (by kernel_rfl)).trans (by kernel_rfl)
theorem t134k134_15_eq (C:au) (x:Nat→Value) (h:ai):k134_15 C (bE 71 x) h=t134k134_15 C x h:=
 bV (b:=(partOf Tryz.f134 [1,1,1,1,1,1,1,1,1])) (kE:=(aw Tryz.prog Tryz.f134.results.toList)) (rE:=(aw Tryz.prog Tryz.f134.results.toList)) (xE:=(fun _ _ _=>none)) (T:=t134k134_15 C) (fun x h=>by kernel_rfl) x h
theorem t134l134_11111111010_eq (C:au) (x:Nat→Value) (h:ai):aI Tryz.prog C (partOf Tryz.f134 [1,1,1,1,1,1,1,1,0,1,0,0]) (bE 71 x) h=di C x h:=
 bw (T:=di C) (fun x h=>by kernel_rfl) x h
noncomputable def t139 (C:au) (x0:Value) (h:ai):Out:=
 ae (box x0 h) fun y1 h=>
 ae (some ((.slice none 0 0),h)) fun _y2 h=>
 ae (some ((.int .i64 0),h)) fun _y3 h=>
 ae (cq 39 y1 h) fun y7 h=>
 ae (C 138 [y7] h) fun y8 h=>
 ae (pu (unA .not y8) h) fun y9 h=>
 (match y9 with
 | .bool true=>
 ae (some ((.slice none 0 0),h)) fun y2_1 h=>
 ae (some ((.int .i64 2),h)) fun y3_1 h=>
 some (.tuple #[y2_1,y3_1],h)
 | .bool false=>
 ae (C 47 [(.int .i64 53)] h) fun y10 h=>
 ae (some (y10,h)) fun y4 h=>
 ae (some (y4,h)) fun y11 h=>
 ae (pu (az y1 0) h) fun y12 h=>
 ae (aP y12 h) fun y13 h=>
 ae (C 50 [y11,y13] h) fun _y14 h=>
 ae (some (y4,h)) fun y15 h=>
 ae (pu (az y1 1) h) fun y16 h=>
 ae (pu (cJ 32 1 y16 none none none) h) fun y17 h=>
 ae (C 52 [y15,y17] h) fun _y18 h=>
 ae (some (y4,h)) fun y19 h=>
 ae (pu (az y1 33) h) fun y20 h=>
 ae (aP y20 h) fun y21 h=>
 ae (cvI .u8 y21 h) fun y22 h=>
 ae (C 50 [y19,y22] h) fun _y23 h=>
 ae (some (y4,h)) fun y24 h=>
 ae (pu (az y1 34) h) fun y25 h=>
 ae (aP y25 h) fun df h=>
 ae (C 126 [y24,df] h) fun _dE h=>
 ae (some (y4,h)) fun y28 h=>
 ae (pu (az y1 35) h) fun y29 h=>
 ae (aP y29 h) fun y30 h=>
 ae (C 126 [y28,y30] h) fun _y31 h=>
 ae (some (y4,h)) fun y32 h=>
 ae (C 50 [y32,(.int .u8 0)] h) fun _y33 h=>
 ae (some (y4,h)) fun y34 h=>
 ae (pu (az y1 37) h) fun y35 h=>
 ae (aP y35 h) fun y36 h=>
 ae (cvI .u8 y36 h) fun y37 h=>
 ae (C 50 [y34,y37] h) fun _y38 h=>
 ae (some (y4,h)) fun y39 h=>
 ae (pu (az y1 38) h) fun y40 h=>
 ae (aP y40 h) fun y41 h=>
 ae (cvI .u8 y41 h) fun y42 h=>
 ae (C 50 [y39,y42] h) fun _y43 h=>
 ae (some (y4,h)) fun y45 h=>
 ae (C 48 [y45] h) fun y46 h=>
 ae (some (y46,h)) fun y44 h=>
 ae (pu (bn y44 0) h) fun y47 h=>
 ae (pu (bn y44 1) h) fun y48 h=>
 ae (some (y47,h)) fun y5 h=>
 ae (some (y48,h)) fun y6 h=>
 ae (pu (az y1 36) h) fun y49 h=>
 ae (aP y49 h) fun y50 h=>
 (match y50 with
 | .bool true=>
 ae (some (y5,h)) fun y51 h=>
 ae (some (y5,h)) fun y52 h=>
 ae (pu (bM y52) h) fun y53 h=>
 ae (pu (bin Tryz.prog .sub 3 y53 (.int .i64 3)) h) fun y54 h=>
 ae (pu (cn 1 y51 y54) h) fun y55 h=>
 ae (cv 1 y55 (.int .u8 1) h) fun _ h=>
 ae (some (y5,h)) fun y56 h=>
 ae (some (y6,h)) fun y57 h=>
 ae (some (y56,h)) fun y2_1 h=>
 ae (some (y57,h)) fun y3_1 h=>
 some (.tuple #[y2_1,y3_1],h)
 | .bool false=>
 ae (some (y5,h)) fun y56 h=>
 ae (some (y6,h)) fun y57 h=>
 ae (some (y56,h)) fun y2_1 h=>
 ae (some (y57,h)) fun y3_1 h=>
 some (.tuple #[y2_1,y3_1],h)
 |_=>none)
 |_=>none)
theorem t139_eq (C:au) (x0:Value) (h:ai):aY Tryz.prog C Tryz.f139 [x0] h=t139 C x0 h:=
 (aC Tryz.prog C Tryz.f139 [x0] h (by kernel_rfl)).trans (by kernel_rfl)
noncomputable def t140 (C:au) (x0:Value) (h:ai):Out:=
 ae (eQ [(.int .u8 0),(.int .u8 0),(.int .u8 0),(.int .u8 0),(.int .u8 0),(.int .u8 0),(.int .u8 0),(.int .u8 0),(.int .u8 0),(.int .u8 0),(.int .u8 0),(.int .u8 0),(.int .u8 0),(.int .u8 0),(.int .u8 0),(.int .u8 0),(.int .u8 0),(.int .u8 0),(.int .u8 0),(.int .u8 0),(.int .u8 0),(.int .u8 0),(.int .u8 0),(.int .u8 0),(.int .u8 0),(.int .u8 0),(.int .u8 0),(.int .u8 0),(.int .u8 0),(.int .u8 0),(.int .u8 0),(.int .u8 0),(.int .u8 0),(.int .i64 0),(.int .u64 0),(.int .u64 0),(.bool false),(.int .i64 0),(.int .i64 0)] h) fun y2 h=>
 ae (some ((.int .i64 0),h)) fun _y3 h=>
 ae (some (x0,h)) fun y8 h=>
 ae (pu (bM y8) h) fun y9 h=>
 ae (pu (bin Tryz.prog .lss 3 y9 (.int .i64 53)) h) fun y10 h=>
 ae (some (y10,h)) fun y7 h=>
 (match y7 with
 | .bool true=>
 ae (pu (cI [(.int .u8 0),(.int .u8 0),(.int .u8 0),(.int .u8 0),(.int .u8 0),(.int .u8 0),(.int .u8 0),(.int .u8 0),(.int .u8 0),(.int .u8 0),(.int .u8 0),(.int .u8 0),(.int .u8 0),(.int .u8 0),(.int .u8 0),(.int .u8 0),(.int .u8 0),(.int .u8 0),(.int .u8 0),(.int .u8 0),(.int .u8 0),(.int .u8 0),(.int .u8 0),(.int .u8 0),(.int .u8 0),(.int .u8 0),(.int .u8 0),(.int .u8 0),(.int .u8 0),(.int .u8 0),(.int .u8 0),(.int .u8 0),(.int .u8 0),(.int .i64 0),(.int .u64 0),(.int .u64 0),(.bool false),(.int .i64 0),(.int .i64 0)] []) h) fun y11 h=>
 ae (cv 39 y2 y11 h) fun _ h=>
 ae (some ((.int .i64 4),h)) fun y3_1 h=>
 aw Tryz.prog Tryz.f140.results.toList (bE 58 (up (bs [x0]) [(2,y2),(3,y3_1),(7,y7),(8,y8),(9,y9),(10,y10),(11,y11)])) h
 | .bool false=>
 ae (some (x0,h)) fun y13 h=>
 ae (pu (bM y13) h) fun y14 h=>
 ae (pu (bin Tryz.prog .gtr 3 y14 (.int .i64 53)) h) fun y15 h=>
 ae (some (y15,h)) fun y12 h=>
 (match y12 with
 | .bool true=>
 ae (pu (cI [(.int .u8 0),(.int .u8 0),(.int .u8 0),(.int .u8 0),(.int .u8 0),(.int .u8 0),(.int .u8 0),(.int .u8 0),(.int .u8 0),(.int .u8 0),(.int .u8 0),(.int .u8 0),(.int .u8 0),(.int .u8 0),(.int .u8 0),(.int .u8 0),(.int .u8 0),(.int .u8 0),(.int .u8 0),(.int .u8 0),(.int .u8 0),(.int .u8 0),(.int .u8 0),(.int .u8 0),(.int .u8 0),(.int .u8 0),(.int .u8 0),(.int .u8 0),(.int .u8 0),(.int .u8 0),(.int .u8 0),(.int .u8 0),(.int .u8 0),(.int .i64 0),(.int .u64 0),(.int .u64 0),(.bool false),(.int .i64 0),(.int .i64 0)] []) h) fun y16 h=>
 ae (cv 39 y2 y16 h) fun _ h=>
 ae (some ((.int .i64 3),h)) fun y3_1 h=>
 aw Tryz.prog Tryz.f140.results.toList (bE 58 (up (bs [x0]) [(2,y2),(3,y3_1),(7,y7),(8,y8),(9,y9),(10,y10),(12,y12),(13,y13),(14,y14),(15,y15),(16,y16)])) h
 | .bool false=>
 ae (some (x0,h)) fun y17 h=>
 ae (C 32 [y17] h) fun y18 h=>
 ae (some (y18,h)) fun y4 h=>
 ae (some (y4,h)) fun y19 h=>
 ae (C 73 [y19] h) fun y20 h=>
 ae (pu (cI [(.int .u8 0),(.int .u8 0),(.int .u8 0),(.int .u8 0),(.int .u8 0),(.int .u8 0),(.int .u8 0),(.int .u8 0),(.int .u8 0),(.int .u8 0),(.int .u8 0),(.int .u8 0),(.int .u8 0),(.int .u8 0),(.int .u8 0),(.int .u8 0),(.int .u8 0),(.int .u8 0),(.int .u8 0),(.int .u8 0),(.int .u8 0),(.int .u8 0),(.int .u8 0),(.int .u8 0),(.int .u8 0),(.int .u8 0),(.int .u8 0),(.int .u8 0),(.int .u8 0),(.int .u8 0),(.int .u8 0),(.int .u8 0),(.int .u8 0),(.int .i64 0),(.int .u64 0),(.int .u64 0),(.bool false),(.int .i64 0),(.int .i64 0)] [(0,1,y20)]) h) fun y21 h=>
 ae (eQ [(.int .u8 0),(.int .u8 0),(.int .u8 0),(.int .u8 0),(.int .u8 0),(.int .u8 0),(.int .u8 0),(.int .u8 0),(.int .u8 0),(.int .u8 0),(.int .u8 0),(.int .u8 0),(.int .u8 0),(.int .u8 0),(.int .u8 0),(.int .u8 0),(.int .u8 0),(.int .u8 0),(.int .u8 0),(.int .u8 0),(.int .u8 0),(.int .u8 0),(.int .u8 0),(.int .u8 0),(.int .u8 0),(.int .u8 0),(.int .u8 0),(.int .u8 0),(.int .u8 0),(.int .u8 0),(.int .u8 0),(.int .u8 0),(.int .u8 0),(.int .i64 0),(.int .u64 0),(.int .u64 0),(.bool false),(.int .i64 0),(.int .i64 0)] h) fun y5 h=>
 ae (cv 39 y5 y21 h) fun _ h=>
 ae (pu (az y5 1) h) fun y22 h=>
 ae (pu (cJ 32 1 y22 none none none) h) fun y23 h=>
 ae (some (y4,h)) fun y24 h=>
 ae (C 74 [y24,(.int .i64 32)] h) fun y25 h=>
 ae (copyA 1 y23 y25 h) fun df h=>
 ae (some (y4,h)) fun dE h=>
 ae (C 73 [dE] h) fun y28 h=>
 ae (cvI .i64 y28 h) fun y29 h=>
 ae (some (y4,h)) fun y30 h=>
 ae (C 128 [y30] h) fun y31 h=>
 ae (some (y4,h)) fun y32 h=>
 ae (C 128 [y32] h) fun y33 h=>
 ae (pu (az y5 33) h) fun y34 h=>
 ae (cv 1 y34 y29 h) fun _ h=>
 ae (pu (az y5 34) h) fun y35 h=>
 ae (cv 1 y35 y31 h) fun _ h=>
 ae (pu (az y5 35) h) fun y36 h=>
 ae (cv 1 y36 y33 h) fun _ h=>
 ae (some (y4,h)) fun y37 h=>
 ae (C 73 [y37] h) fun y38 h=>
 ae (some (y38,h)) fun y6 h=>
 ae (some (y6,h)) fun y39 h=>
 ae (pu (bin Tryz.prog .eql 5 y39 (.int .u8 1)) h) fun y40 h=>
 ae (some (y4,h)) fun y41 h=>
 ae (C 73 [y41] h) fun y42 h=>
 ae (cvI .i64 y42 h) fun y43 h=>
 ae (some (y4,h)) fun y44 h=>
 ae (C 73 [y44] h) fun y45 h=>
 ae (cvI .i64 y45 h) fun y46 h=>
 ae (pu (az y5 36) h) fun y47 h=>
 ae (cv 1 y47 y40 h) fun _ h=>
 ae (pu (az y5 37) h) fun y48 h=>
 ae (cv 1 y48 y43 h) fun _ h=>
 ae (pu (az y5 38) h) fun y49 h=>
 ae (cv 1 y49 y46 h) fun _ h=>
 ae (some (y6,h)) fun y50 h=>
 ae (pu (bin Tryz.prog .gtr 5 y50 (.int .u8 1)) h) fun y51 h=>
 (match y51 with
 | .bool true=>
 ae (pu (cI [(.int .u8 0),(.int .u8 0),(.int .u8 0),(.int .u8 0),(.int .u8 0),(.int .u8 0),(.int .u8 0),(.int .u8 0),(.int .u8 0),(.int .u8 0),(.int .u8 0),(.int .u8 0),(.int .u8 0),(.int .u8 0),(.int .u8 0),(.int .u8 0),(.int .u8 0),(.int .u8 0),(.int .u8 0),(.int .u8 0),(.int .u8 0),(.int .u8 0),(.int .u8 0),(.int .u8 0),(.int .u8 0),(.int .u8 0),(.int .u8 0),(.int .u8 0),(.int .u8 0),(.int .u8 0),(.int .u8 0),(.int .u8 0),(.int .u8 0),(.int .i64 0),(.int .u64 0),(.int .u64 0),(.bool false),(.int .i64 0),(.int .i64 0)] []) h) fun y52 h=>
 ae (cv 39 y2 y52 h) fun _ h=>
 ae (some ((.int .i64 5),h)) fun y3_1 h=>
 aw Tryz.prog Tryz.f140.results.toList (bE 58 (up (bs [x0]) [(2,y2),(3,y3_1),(4,y4),(5,y5),(6,y6),(7,y7),(8,y8),(9,y9),(10,y10),(12,y12),(13,y13),(14,y14),(15,y15),(17,y17),(18,y18),(19,y19),(20,y20),(21,y21),(22,y22),(23,y23),(24,y24),(25,y25),(26,df),(27,dE),(28,y28),(29,y29),(30,y30),(31,y31),(32,y32),(33,y33),(34,y34),(35,y35),(36,y36),(37,y37),(38,y38),(39,y39),(40,y40),(41,y41),(42,y42),(43,y43),(44,y44),(45,y45),(46,y46),(47,y47),(48,y48),(49,y49),(50,y50),(51,y51),(52,y52)])) h
 | .bool false=>
 ae (cq 39 y5 h) fun y53 h=>
 ae (C 138 [y53] h) fun y54 h=>
 ae (pu (unA .not y54) h) fun y55 h=>
 (match y55 with
 | .bool true=>
 ae (pu (cI [(.int .u8 0),(.int .u8 0),(.int .u8 0),(.int .u8 0),(.int .u8 0),(.int .u8 0),(.int .u8 0),(.int .u8 0),(.int .u8 0),(.int .u8 0),(.int .u8 0),(.int .u8 0),(.int .u8 0),(.int .u8 0),(.int .u8 0),(.int .u8 0),(.int .u8 0),(.int .u8 0),(.int .u8 0),(.int .u8 0),(.int .u8 0),(.int .u8 0),(.int .u8 0),(.int .u8 0),(.int .u8 0),(.int .u8 0),(.int .u8 0),(.int .u8 0),(.int .u8 0),(.int .u8 0),(.int .u8 0),(.int .u8 0),(.int .u8 0),(.int .i64 0),(.int .u64 0),(.int .u64 0),(.bool false),(.int .i64 0),(.int .i64 0)] []) h) fun y56 h=>
 ae (cv 39 y2 y56 h) fun _ h=>
 ae (some ((.int .i64 2),h)) fun y3_1 h=>
 aw Tryz.prog Tryz.f140.results.toList (bE 58 (up (bs [x0]) [(2,y2),(3,y3_1),(4,y4),(5,y5),(6,y6),(7,y7),(8,y8),(9,y9),(10,y10),(12,y12),(13,y13),(14,y14),(15,y15),(17,y17),(18,y18),(19,y19),(20,y20),(21,y21),(22,y22),(23,y23),(24,y24),(25,y25),(26,df),(27,dE),(28,y28),(29,y29),(30,y30),(31,y31),(32,y32),(33,y33),(34,y34),(35,y35),(36,y36),(37,y37),(38,y38),(39,y39),(40,y40),(41,y41),(42,y42),(43,y43),(44,y44),(45,y45),(46,y46),(47,y47),(48,y48),(49,y49),(50,y50),(51,y51),(53,y53),(54,y54),(55,y55),(56,y56)])) h
 | .bool false=>
 ae (cq 39 y5 h) fun y57 h=>
 ae (cv 39 y2 y57 h) fun _ h=>
 ae (some ((.int .i64 0),h)) fun y3_1 h=>
 aw Tryz.prog Tryz.f140.results.toList (bE 58 (up (bs [x0]) [(2,y2),(3,y3_1),(4,y4),(5,y5),(6,y6),(7,y7),(8,y8),(9,y9),(10,y10),(12,y12),(13,y13),(14,y14),(15,y15),(17,y17),(18,y18),(19,y19),(20,y20),(21,y21),(22,y22),(23,y23),(24,y24),(25,y25),(26,df),(27,dE),(28,y28),(29,y29),(30,y30),(31,y31),(32,y32),(33,y33),(34,y34),(35,y35),(36,y36),(37,y37),(38,y38),(39,y39),(40,y40),(41,y41),(42,y42),(43,y43),(44,y44),(45,y45),(46,y46),(47,y47),(48,y48),(49,y49),(50,y50),(51,y51),(53,y53),(54,y54),(55,y55),(57,y57)])) h
 |_=>none)
 |_=>none)
 |_=>none)
 |_=>none)
theorem t140_eq (C:au) (x0:Value) (h:ai):aY Tryz.prog C Tryz.f140 [x0] h=t140 C x0 h:=
 (aC Tryz.prog C Tryz.f140 [x0] h (by kernel_rfl)).trans (by kernel_rfl)
end Go.Proofs.YtjghlcdidopcpaaGreatDoor

namespace Go.Proofs.YtjghlcdidopcpaaGreatDoor
open Go Go.Abs
end Go.Proofs.YtjghlcdidopcpaaGreatDoor

namespace Go.Proofs.YtjghlcdidopcpaaGreatDoor
open Go Go.Abs
noncomputable def k6_11 (C:au) (e:Env) (h:ai):Out:=cw Tryz.prog C (partOf Tryz.f6 [1,1,1,1,1,1]) e h (aw Tryz.prog Tryz.f6.results.toList) (aw Tryz.prog Tryz.f6.results.toList) (fun _ _ _=>none)
noncomputable def b6_13 (C:au) (i:Nat) (e:Env) (h:ai):Out:=if i=0 then (k6_11 C) e h else (fun _ _ _=>none) i e h
noncomputable def t6 (C:au) (x0 x1 x2:Value) (h:ai):Out:=
 ae (box x0 h) fun y3 h=>
 ae (some ((.bool false),h)) fun y6 h=>
 ae (cq 116 y3 h) fun y10 h=>
 ae (C 18 [y10] h) fun y11 h=>
 ae (some (y11,h)) fun y12 h=>
 ae (al (aL y12==some false) (cq 116 y3 h) h) fun y13 h=>
 ae (al (aL y12==some false) (C 20 [y13] h) h) fun y14 h=>
 ae (al (aL y12==some false) (C 19 [y14] h) h) fun y15 h=>
 ae (al (aL y12==some false) (pu (bin Tryz.prog .neq 35 y15 (.int .i64 0)) h) h) fun y16 h=>
 ae (match y12 with | .bool t=>some (if t then (.bool true) else y16,h)|_=>none) fun y17 h=>
 ae (some (y17,h)) fun y18 h=>
 ae (al (aL y18==some false) (some (x2,h)) h) fun y19 h=>
 ae (al (aL y18==some false) (pu (bin Tryz.prog .eql 50 y19 (.int .u32 0)) h) h) fun y20 h=>
 ae (match y18 with | .bool t=>some (if t then (.bool true) else y20,h)|_=>none) fun y21 h=>
 (match y21 with
 | .bool true=>
 ae (C 12 [] h) fun y22 h=>
 ae (some (y22,h)) fun y6_1 h=>
 some (y6_1,h)
 | .bool false=>
 ae (cq 116 y3 h) fun y24 h=>
 ae (C 20 [y24] h) fun y25 h=>
 ae (C 21 [y25] h) fun df h=>
 ae (some (df,h)) fun y23 h=>
 ae (pu (bn y23 0) h) fun dE h=>
 ae (pu (bn y23 1) h) fun y28 h=>
 ae (some (dE,h)) fun y7 h=>
 ae (some (y28,h)) fun y8 h=>
 ae (some (y8,h)) fun y29 h=>
 ae (pu (bin Tryz.prog .neq 35 y29 (.int .i64 0)) h) fun y30 h=>
 ae (some (y30,h)) fun y31 h=>
 ae (al (aL y31==some false) (some (y7,h)) h) fun y32 h=>
 ae (al (aL y31==some false) (pu (bM y32) h) h) fun y33 h=>
 ae (al (aL y31==some false) (pu (bin Tryz.prog .lss 3 y33 (.int .i64 14)) h) h) fun y34 h=>
 ae (match y31 with | .bool t=>some (if t then (.bool true) else y34,h)|_=>none) fun y35 h=>
 (match y35 with
 | .bool true=>
 ae (some ((.bool false),h)) fun y6_1 h=>
 some (y6_1,h)
 | .bool false=>
 ae (some (x1,h)) fun y36 h=>
 ae (pu (bin Tryz.prog .lss 3 y36 (.int .i64 0)) h) fun y37 h=>
 ae (some (y37,h)) fun y38 h=>
 ae (al (aL y38==some false) (some (x1,h)) h) fun y39 h=>
 ae (al (aL y38==some false) (some (y7,h)) h) fun y40 h=>
 ae (al (aL y38==some false) (pu (bM y40) h) h) fun y41 h=>
 ae (al (aL y38==some false) (pu (bin Tryz.prog .sub 3 y41 (.int .i64 4)) h) h) fun y42 h=>
 ae (al (aL y38==some false) (pu (bin Tryz.prog .gtr 3 y39 y42) h) h) fun y43 h=>
 ae (match y38 with | .bool t=>some (if t then (.bool true) else y43,h)|_=>none) fun y44 h=>
 ae (some (y44,h)) fun y45 h=>
 ae (al (aL y45==some false) (some (x1,h)) h) fun y46 h=>
 ae (al (aL y45==some false) (some (y7,h)) h) fun y47 h=>
 ae (al (aL y45==some false) (pu (bM y47) h) h) fun y48 h=>
 ae (al (aL y45==some false) (pu (bin Tryz.prog .sub 3 y48 (.int .i64 8)) h) h) fun y49 h=>
 ae (al (aL y45==some false) (pu (bin Tryz.prog .gtr 3 y46 y49) h) h) fun y50 h=>
 ae (al (aL y45==some false) (some (y50,h)) h) fun y51 h=>
 ae (al (aL y51==some true) (some (x1,h)) h) fun y52 h=>
 ae (al (aL y51==some true) (some (y7,h)) h) fun y53 h=>
 ae (al (aL y51==some true) (pu (bM y53) h) h) fun y54 h=>
 ae (al (aL y51==some true) (pu (bin Tryz.prog .sub 3 y54 (.int .i64 4)) h) h) fun y55 h=>
 ae (al (aL y51==some true) (pu (bin Tryz.prog .neq 3 y52 y55) h) h) fun y56 h=>
 ae (al (aL y45==some false) (match y51 with | .bool t=>some (if t then y56 else (.bool false),h)|_=>none) h) fun y57 h=>
 ae (match y45 with | .bool t=>some (if t then (.bool true) else y57,h)|_=>none) fun y58 h=>
 (match y58 with
 | .bool true=>
 ae (C 12 [] h) fun y59 h=>
 ae (some (y59,h)) fun y6_1 h=>
 some (y6_1,h)
 | .bool false=>
 ae (some ((.int .i64 0),h)) fun y9 h=>
 fa (iter (aI Tryz.prog C (partOf Tryz.f6 [1,1,1,1,1,0,1,0,0])) rounds (bE 88 (up (bs [x0,x1,x2]) [(3,y3),(6,y6),(7,y7),(8,y8),(9,y9),(10,y10),(11,y11),(12,y12),(13,y13),(14,y14),(15,y15),(16,y16),(17,y17),(18,y18),(19,y19),(20,y20),(21,y21),(23,y23),(24,y24),(25,y25),(26,df),(27,dE),(28,y28),(29,y29),(30,y30),(31,y31),(32,y32),(33,y33),(34,y34),(35,y35),(36,y36),(37,y37),(38,y38),(39,y39),(40,y40),(41,y41),(42,y42),(43,y43),(44,y44),(45,y45),(46,y46),(47,y47),(48,y48),(49,y49),(50,y50),(51,y51),(52,y52),(53,y53),(54,y54),(55,y55),(56,y56),(57,y57),(58,y58)])) h) (aw Tryz.prog Tryz.f6.results.toList) (b6_13 C)
 |_=>none)
 |_=>none)
 |_=>none)
noncomputable def t6k6_11 (C:au) (x:Nat→Value) (h:ai):Out:=
 ae (some ((x 7),h)) fun y79 h=>
 ae (C 13 [y79] h) fun y80 h=>
 ae (some (y80,h)) fun y78 h=>
 ae (pu (bn y78 0) h) fun _y81 h=>
 ae (pu (bn y78 1) h) fun y82 h=>
 ae (some (y82,h)) fun y8 h=>
 ae (some (y8,h)) fun y83 h=>
 ae (pu (bin Tryz.prog .neq 35 y83 (.int .i64 0)) h) fun y84 h=>
 ae (some (y84,h)) fun y85 h=>
 ae (al (aL y85==some true) (C 12 [] h) h) fun y86 h=>
 ae (match y85 with | .bool t=>some (if t then y86 else (.bool false),h)|_=>none) fun y87 h=>
 ae (some (y87,h)) fun y6 h=>
 some (y6,h)
noncomputable def t6l6_11111010 (_C:au) (x:Nat→Value) (h:ai):Option (Ex×Env×ai):=
 ae (some ((x 9),h)) fun y60 h=>
 ae (pu (bin Tryz.prog .lss 3 y60 (.int .i64 4)) h) fun y61 h=>
 (match y61 with
 | .bool true=>
 ae (some ((x 7),h)) fun y64 h=>
 ae (some ((x 1),h)) fun y65 h=>
 ae (some ((x 9),h)) fun y66 h=>
 ae (pu (bin Tryz.prog .add 3 y65 y66) h) fun y67 h=>
 ae (pu (cn 1 y64 y67) h) fun y68 h=>
 ae (aP y68 h) fun y69 h=>
 ae (some ((x 2),h)) fun y70 h=>
 ae (some ((x 9),h)) fun y71 h=>
 ae (cvI .u64 y71 h) fun y72 h=>
 ae (pu (bin Tryz.prog .mul 51 (.int .u64 8) y72) h) fun y73 h=>
 ae (pu (bin Tryz.prog .shr 50 y70 y73) h) fun y74 h=>
 ae (cvI .u8 y74 h) fun y75 h=>
 ae (pu (bin Tryz.prog .xor 5 y69 y75) h) fun y76 h=>
 ae (pu (cn 1 y64 y67) h) fun y77 h=>
 ae (cv 1 y77 y76 h) fun _ h=>
 ae (some ((x 9),h)) fun y62 h=>
 ae (pu (bin Tryz.prog .add 3 y62 (.int .i64 1)) h) fun y63 h=>
 ae (some (y63,h)) fun y9 h=>
 some (.normal,(bE 88 (up x [(9,y9),(60,y60),(61,y61),(62,y62),(63,y63),(64,y64),(65,y65),(66,y66),(67,y67),(68,y68),(69,y69),(70,y70),(71,y71),(72,y72),(73,y73),(74,y74),(75,y75),(76,y76),(77,y77)])),h)
 | .bool false=>
 some (.exit 0,(bE 88 (up x [(60,y60),(61,y61)])),h)
 |_=>none)
theorem t6_eq (C:au) (x0 x1 x2:Value) (h:ai):aY Tryz.prog C Tryz.f6 [x0,x1,x2] h=t6 C x0 x1 x2 h:=
 (aC Tryz.prog C Tryz.f6 [x0,x1,x2] h (by kernel_rfl)).trans (by kernel_rfl)
theorem t6k6_11_eq (C:au) (x:Nat→Value) (h:ai):k6_11 C (bE 88 x) h=t6k6_11 C x h:=
 bV (b:=(partOf Tryz.f6 [1,1,1,1,1,1])) (kE:=(aw Tryz.prog Tryz.f6.results.toList)) (rE:=(aw Tryz.prog Tryz.f6.results.toList)) (xE:=(fun _ _ _=>none)) (T:=t6k6_11 C) (fun x h=>by kernel_rfl) x h
theorem t6l6_11111010_eq (C:au) (x:Nat→Value) (h:ai):aI Tryz.prog C (partOf Tryz.f6 [1,1,1,1,1,0,1,0,0]) (bE 88 x) h=t6l6_11111010 C x h:=
 bw (T:=t6l6_11111010 C) (fun x h=>by kernel_rfl) x h
end Go.Proofs.YtjghlcdidopcpaaGreatDoor

