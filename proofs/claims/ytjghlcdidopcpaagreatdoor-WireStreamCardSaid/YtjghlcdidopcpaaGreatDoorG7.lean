/-
  A part of the proof, spaces and names shortened by a program (a claim may hold 1,500,000 bytes).
  Conditions: as each theorem states.
-/
import Derived.Test.YtjghlcdidopcpaaGreatDoorG6
import Derived.Test.YtjghlcdidopcpaaGreatDoorProg
import Derived.KernelRfl
namespace Go.Proofs.YtjghlcdidopcpaaGreatDoor
open Go Go.Abs
noncomputable def t13 (C:av) (x0:Value) (h:ai):Out:=
 ae (eD [(.int .u8 0),(.int .i64 0),(.int .i64 0),(.int .u64 0),(.int .i64 0),(.int .i64 0),(.slice none 0 0),(.slice none 0 0),(.slice none 0 0),(.int .i64 0),(.int .u8 0),(.int .u8 0),(.int .u8 0),(.int .u8 0),(.int .u8 0),(.int .u8 0),(.int .u8 0),(.int .u8 0),(.int .u8 0),(.int .u8 0),(.int .u8 0),(.int .u8 0),(.int .u8 0),(.int .u8 0),(.int .u8 0),(.int .u8 0),(.int .u8 0),(.int .u8 0),(.int .u8 0),(.int .u8 0),(.int .u8 0),(.int .u8 0),(.int .u8 0),(.int .u8 0),(.int .u8 0),(.int .u8 0),(.int .u8 0),(.int .u8 0),(.int .u8 0),(.int .u8 0),(.int .u8 0),(.int .u8 0),(.slice none 0 0),(.bool false),(.int .u8 0),(.int .u8 0),(.int .u8 0),(.int .u8 0),(.int .u8 0),(.int .u8 0),(.int .u8 0),(.int .u8 0),(.int .u8 0),(.int .u8 0),(.int .u8 0),(.int .u8 0),(.int .u8 0),(.int .u8 0),(.int .u8 0),(.int .u8 0),(.int .u8 0),(.int .u8 0),(.int .u8 0),(.int .u8 0),(.int .u8 0),(.int .u8 0),(.int .u8 0),(.int .u8 0),(.int .u8 0),(.int .u8 0),(.int .u8 0),(.int .u8 0),(.int .u8 0),(.int .u8 0),(.int .u8 0),(.int .u8 0),(.int .i64 0),(.int .i64 0),(.int .i64 0),(.int .i64 0),(.int .u8 0),(.int .u8 0),(.int .u8 0),(.int .u8 0),(.int .u8 0),(.int .u8 0),(.int .u8 0),(.int .u8 0),(.int .u8 0),(.int .u8 0),(.int .u8 0),(.int .u8 0),(.int .u8 0),(.int .u8 0),(.int .u8 0),(.int .u8 0),(.int .u8 0),(.int .u8 0),(.int .u8 0),(.int .u8 0),(.int .u8 0),(.int .u8 0),(.int .u8 0),(.int .u8 0),(.int .u8 0),(.int .u8 0),(.int .u8 0),(.int .u8 0),(.int .u8 0),(.int .u8 0),(.int .u8 0),(.int .u8 0),(.slice none 0 0),(.int .i64 0),(.slice none 0 0),(.int .i64 0)] h) fun y2 h=>
 ae (some ((.int .i64 0),h)) fun _y3 h=>
 ae (some (x0,h)) fun y13 h=>
 ae (C 31 [y13] h) fun y14 h=>
 ae (some (y14,h)) fun y12 h=>
 ae (pu (aY y12 0) h) fun y15 h=>
 ae (pu (aY y12 1) h) fun y16 h=>
 ae (some (y15,h)) fun y4 h=>
 ae (some (y16,h)) fun y5 h=>
 ae (some (y5,h)) fun y18 h=>
 ae (pu (bin Tryz.prog .neq 35 y18 (.int .i64 0)) h) fun y19 h=>
 ae (some (y19,h)) fun y17 h=>
 (match y17 with
 | .bool true=>
 ae (pu (cQ [(.int .u8 0),(.int .i64 0),(.int .i64 0),(.int .u64 0),(.int .i64 0),(.int .i64 0),(.slice none 0 0),(.slice none 0 0),(.slice none 0 0),(.int .i64 0),(.int .u8 0),(.int .u8 0),(.int .u8 0),(.int .u8 0),(.int .u8 0),(.int .u8 0),(.int .u8 0),(.int .u8 0),(.int .u8 0),(.int .u8 0),(.int .u8 0),(.int .u8 0),(.int .u8 0),(.int .u8 0),(.int .u8 0),(.int .u8 0),(.int .u8 0),(.int .u8 0),(.int .u8 0),(.int .u8 0),(.int .u8 0),(.int .u8 0),(.int .u8 0),(.int .u8 0),(.int .u8 0),(.int .u8 0),(.int .u8 0),(.int .u8 0),(.int .u8 0),(.int .u8 0),(.int .u8 0),(.int .u8 0),(.slice none 0 0),(.bool false),(.int .u8 0),(.int .u8 0),(.int .u8 0),(.int .u8 0),(.int .u8 0),(.int .u8 0),(.int .u8 0),(.int .u8 0),(.int .u8 0),(.int .u8 0),(.int .u8 0),(.int .u8 0),(.int .u8 0),(.int .u8 0),(.int .u8 0),(.int .u8 0),(.int .u8 0),(.int .u8 0),(.int .u8 0),(.int .u8 0),(.int .u8 0),(.int .u8 0),(.int .u8 0),(.int .u8 0),(.int .u8 0),(.int .u8 0),(.int .u8 0),(.int .u8 0),(.int .u8 0),(.int .u8 0),(.int .u8 0),(.int .u8 0),(.int .i64 0),(.int .i64 0),(.int .i64 0),(.int .i64 0),(.int .u8 0),(.int .u8 0),(.int .u8 0),(.int .u8 0),(.int .u8 0),(.int .u8 0),(.int .u8 0),(.int .u8 0),(.int .u8 0),(.int .u8 0),(.int .u8 0),(.int .u8 0),(.int .u8 0),(.int .u8 0),(.int .u8 0),(.int .u8 0),(.int .u8 0),(.int .u8 0),(.int .u8 0),(.int .u8 0),(.int .u8 0),(.int .u8 0),(.int .u8 0),(.int .u8 0),(.int .u8 0),(.int .u8 0),(.int .u8 0),(.int .u8 0),(.int .u8 0),(.int .u8 0),(.int .u8 0),(.int .u8 0),(.slice none 0 0),(.int .i64 0),(.slice none 0 0),(.int .i64 0)] []) h) fun y20 h=>
 ae (some (y5,h)) fun y21 h=>
 ae (cA 116 y2 y20 h) fun _ h=>
 ae (some (y21,h)) fun y3_1 h=>
 ax Tryz.prog Tryz.f13.results.toList (bu 92 (up (bs [x0]) [(2,y2),(3,y3_1),(4,y4),(5,y5),(12,y12),(13,y13),(14,y14),(15,y15),(16,y16),(17,y17),(18,y18),(19,y19),(20,y20),(21,y21)])) h
 | .bool false=>
 ae (some (x0,h)) fun y23 h=>
 ae (pu (bC y23) h) fun y24 h=>
 ae (some (y4,h)) fun y25 h=>
 ae (pu (bin Tryz.prog .lss 3 y24 y25) h) fun dj h=>
 ae (some (dj,h)) fun y22 h=>
 (match y22 with
 | .bool true=>
 ae (pu (cQ [(.int .u8 0),(.int .i64 0),(.int .i64 0),(.int .u64 0),(.int .i64 0),(.int .i64 0),(.slice none 0 0),(.slice none 0 0),(.slice none 0 0),(.int .i64 0),(.int .u8 0),(.int .u8 0),(.int .u8 0),(.int .u8 0),(.int .u8 0),(.int .u8 0),(.int .u8 0),(.int .u8 0),(.int .u8 0),(.int .u8 0),(.int .u8 0),(.int .u8 0),(.int .u8 0),(.int .u8 0),(.int .u8 0),(.int .u8 0),(.int .u8 0),(.int .u8 0),(.int .u8 0),(.int .u8 0),(.int .u8 0),(.int .u8 0),(.int .u8 0),(.int .u8 0),(.int .u8 0),(.int .u8 0),(.int .u8 0),(.int .u8 0),(.int .u8 0),(.int .u8 0),(.int .u8 0),(.int .u8 0),(.slice none 0 0),(.bool false),(.int .u8 0),(.int .u8 0),(.int .u8 0),(.int .u8 0),(.int .u8 0),(.int .u8 0),(.int .u8 0),(.int .u8 0),(.int .u8 0),(.int .u8 0),(.int .u8 0),(.int .u8 0),(.int .u8 0),(.int .u8 0),(.int .u8 0),(.int .u8 0),(.int .u8 0),(.int .u8 0),(.int .u8 0),(.int .u8 0),(.int .u8 0),(.int .u8 0),(.int .u8 0),(.int .u8 0),(.int .u8 0),(.int .u8 0),(.int .u8 0),(.int .u8 0),(.int .u8 0),(.int .u8 0),(.int .u8 0),(.int .u8 0),(.int .i64 0),(.int .i64 0),(.int .i64 0),(.int .i64 0),(.int .u8 0),(.int .u8 0),(.int .u8 0),(.int .u8 0),(.int .u8 0),(.int .u8 0),(.int .u8 0),(.int .u8 0),(.int .u8 0),(.int .u8 0),(.int .u8 0),(.int .u8 0),(.int .u8 0),(.int .u8 0),(.int .u8 0),(.int .u8 0),(.int .u8 0),(.int .u8 0),(.int .u8 0),(.int .u8 0),(.int .u8 0),(.int .u8 0),(.int .u8 0),(.int .u8 0),(.int .u8 0),(.int .u8 0),(.int .u8 0),(.int .u8 0),(.int .u8 0),(.int .u8 0),(.int .u8 0),(.int .u8 0),(.slice none 0 0),(.int .i64 0),(.slice none 0 0),(.int .i64 0)] []) h) fun dA h=>
 ae (cA 116 y2 dA h) fun _ h=>
 ae (some ((.int .i64 4),h)) fun y3_1 h=>
 ax Tryz.prog Tryz.f13.results.toList (bu 92 (up (bs [x0]) [(2,y2),(3,y3_1),(4,y4),(5,y5),(12,y12),(13,y13),(14,y14),(15,y15),(16,y16),(17,y17),(18,y18),(19,y19),(22,y22),(23,y23),(24,y24),(25,y25),(26,dj),(27,dA)])) h
 | .bool false=>
 ae (some (x0,h)) fun y29 h=>
 ae (pu (bC y29) h) fun y30 h=>
 ae (some (y4,h)) fun y31 h=>
 ae (pu (bin Tryz.prog .gtr 3 y30 y31) h) fun y32 h=>
 ae (some (y32,h)) fun y28 h=>
 (match y28 with
 | .bool true=>
 ae (pu (cQ [(.int .u8 0),(.int .i64 0),(.int .i64 0),(.int .u64 0),(.int .i64 0),(.int .i64 0),(.slice none 0 0),(.slice none 0 0),(.slice none 0 0),(.int .i64 0),(.int .u8 0),(.int .u8 0),(.int .u8 0),(.int .u8 0),(.int .u8 0),(.int .u8 0),(.int .u8 0),(.int .u8 0),(.int .u8 0),(.int .u8 0),(.int .u8 0),(.int .u8 0),(.int .u8 0),(.int .u8 0),(.int .u8 0),(.int .u8 0),(.int .u8 0),(.int .u8 0),(.int .u8 0),(.int .u8 0),(.int .u8 0),(.int .u8 0),(.int .u8 0),(.int .u8 0),(.int .u8 0),(.int .u8 0),(.int .u8 0),(.int .u8 0),(.int .u8 0),(.int .u8 0),(.int .u8 0),(.int .u8 0),(.slice none 0 0),(.bool false),(.int .u8 0),(.int .u8 0),(.int .u8 0),(.int .u8 0),(.int .u8 0),(.int .u8 0),(.int .u8 0),(.int .u8 0),(.int .u8 0),(.int .u8 0),(.int .u8 0),(.int .u8 0),(.int .u8 0),(.int .u8 0),(.int .u8 0),(.int .u8 0),(.int .u8 0),(.int .u8 0),(.int .u8 0),(.int .u8 0),(.int .u8 0),(.int .u8 0),(.int .u8 0),(.int .u8 0),(.int .u8 0),(.int .u8 0),(.int .u8 0),(.int .u8 0),(.int .u8 0),(.int .u8 0),(.int .u8 0),(.int .u8 0),(.int .i64 0),(.int .i64 0),(.int .i64 0),(.int .i64 0),(.int .u8 0),(.int .u8 0),(.int .u8 0),(.int .u8 0),(.int .u8 0),(.int .u8 0),(.int .u8 0),(.int .u8 0),(.int .u8 0),(.int .u8 0),(.int .u8 0),(.int .u8 0),(.int .u8 0),(.int .u8 0),(.int .u8 0),(.int .u8 0),(.int .u8 0),(.int .u8 0),(.int .u8 0),(.int .u8 0),(.int .u8 0),(.int .u8 0),(.int .u8 0),(.int .u8 0),(.int .u8 0),(.int .u8 0),(.int .u8 0),(.int .u8 0),(.int .u8 0),(.int .u8 0),(.int .u8 0),(.int .u8 0),(.slice none 0 0),(.int .i64 0),(.slice none 0 0),(.int .i64 0)] []) h) fun y33 h=>
 ae (cA 116 y2 y33 h) fun _ h=>
 ae (some ((.int .i64 3),h)) fun y3_1 h=>
 ax Tryz.prog Tryz.f13.results.toList (bu 92 (up (bs [x0]) [(2,y2),(3,y3_1),(4,y4),(5,y5),(12,y12),(13,y13),(14,y14),(15,y15),(16,y16),(17,y17),(18,y18),(19,y19),(22,y22),(23,y23),(24,y24),(25,y25),(26,dj),(28,y28),(29,y29),(30,y30),(31,y31),(32,y32),(33,y33)])) h
 | .bool false=>
 ae (some (x0,h)) fun y34 h=>
 ae (some (y4,h)) fun y35 h=>
 ae (pu (bin Tryz.prog .sub 3 y35 (.int .i64 4)) h) fun y36 h=>
 ae (pu (slR 1 y34 (some y36) none none) h) fun y37 h=>
 ae (C 32 [y37] h) fun y38 h=>
 ae (some (y38,h)) fun y6 h=>
 ae (some (y6,h)) fun y39 h=>
 ae (C 33 [y39] h) fun y40 h=>
 ae (some (x0,h)) fun y41 h=>
 ae (some (y4,h)) fun y42 h=>
 ae (pu (bin Tryz.prog .sub 3 y42 (.int .i64 4)) h) fun y43 h=>
 ae (pu (slR 1 y41 none (some y43) none) h) fun y44 h=>
 ae (C 34 [y44] h) fun y45 h=>
 ae (pu (bin Tryz.prog .neq 50 y40 y45) h) fun y46 h=>
 (match y46 with
 | .bool true=>
 ae (pu (cQ [(.int .u8 0),(.int .i64 0),(.int .i64 0),(.int .u64 0),(.int .i64 0),(.int .i64 0),(.slice none 0 0),(.slice none 0 0),(.slice none 0 0),(.int .i64 0),(.int .u8 0),(.int .u8 0),(.int .u8 0),(.int .u8 0),(.int .u8 0),(.int .u8 0),(.int .u8 0),(.int .u8 0),(.int .u8 0),(.int .u8 0),(.int .u8 0),(.int .u8 0),(.int .u8 0),(.int .u8 0),(.int .u8 0),(.int .u8 0),(.int .u8 0),(.int .u8 0),(.int .u8 0),(.int .u8 0),(.int .u8 0),(.int .u8 0),(.int .u8 0),(.int .u8 0),(.int .u8 0),(.int .u8 0),(.int .u8 0),(.int .u8 0),(.int .u8 0),(.int .u8 0),(.int .u8 0),(.int .u8 0),(.slice none 0 0),(.bool false),(.int .u8 0),(.int .u8 0),(.int .u8 0),(.int .u8 0),(.int .u8 0),(.int .u8 0),(.int .u8 0),(.int .u8 0),(.int .u8 0),(.int .u8 0),(.int .u8 0),(.int .u8 0),(.int .u8 0),(.int .u8 0),(.int .u8 0),(.int .u8 0),(.int .u8 0),(.int .u8 0),(.int .u8 0),(.int .u8 0),(.int .u8 0),(.int .u8 0),(.int .u8 0),(.int .u8 0),(.int .u8 0),(.int .u8 0),(.int .u8 0),(.int .u8 0),(.int .u8 0),(.int .u8 0),(.int .u8 0),(.int .u8 0),(.int .i64 0),(.int .i64 0),(.int .i64 0),(.int .i64 0),(.int .u8 0),(.int .u8 0),(.int .u8 0),(.int .u8 0),(.int .u8 0),(.int .u8 0),(.int .u8 0),(.int .u8 0),(.int .u8 0),(.int .u8 0),(.int .u8 0),(.int .u8 0),(.int .u8 0),(.int .u8 0),(.int .u8 0),(.int .u8 0),(.int .u8 0),(.int .u8 0),(.int .u8 0),(.int .u8 0),(.int .u8 0),(.int .u8 0),(.int .u8 0),(.int .u8 0),(.int .u8 0),(.int .u8 0),(.int .u8 0),(.int .u8 0),(.int .u8 0),(.int .u8 0),(.int .u8 0),(.int .u8 0),(.slice none 0 0),(.int .i64 0),(.slice none 0 0),(.int .i64 0)] []) h) fun y47 h=>
 ae (cA 116 y2 y47 h) fun _ h=>
 ae (some ((.int .i64 20),h)) fun y3_1 h=>
 ax Tryz.prog Tryz.f13.results.toList (bu 92 (up (bs [x0]) [(2,y2),(3,y3_1),(4,y4),(5,y5),(6,y6),(12,y12),(13,y13),(14,y14),(15,y15),(16,y16),(17,y17),(18,y18),(19,y19),(22,y22),(23,y23),(24,y24),(25,y25),(26,dj),(28,y28),(29,y29),(30,y30),(31,y31),(32,y32),(34,y34),(35,y35),(36,y36),(37,y37),(38,y38),(39,y39),(40,y40),(41,y41),(42,y42),(43,y43),(44,y44),(45,y45),(46,y46),(47,y47)])) h
 | .bool false=>
 ae (some (x0,h)) fun y48 h=>
 ae (pu (bW 1 y48 (.int .i64 3)) h) fun y49 h=>
 ae (aR y49 h) fun y50 h=>
 ae (some (x0,h)) fun y51 h=>
 ae (pu (bW 1 y51 (.int .i64 4)) h) fun y52 h=>
 ae (aR y52 h) fun y53 h=>
 ae (cvI .i64 y53 h) fun y54 h=>
 ae (some (x0,h)) fun y55 h=>
 ae (pu (bW 1 y55 (.int .i64 5)) h) fun y56 h=>
 ae (aR y56 h) fun y57 h=>
 ae (cvI .i64 y57 h) fun y58 h=>
 ae (pu (cQ [(.int .u8 0),(.int .i64 0),(.int .i64 0),(.int .u64 0),(.int .i64 0),(.int .i64 0),(.slice none 0 0),(.slice none 0 0),(.slice none 0 0),(.int .i64 0),(.int .u8 0),(.int .u8 0),(.int .u8 0),(.int .u8 0),(.int .u8 0),(.int .u8 0),(.int .u8 0),(.int .u8 0),(.int .u8 0),(.int .u8 0),(.int .u8 0),(.int .u8 0),(.int .u8 0),(.int .u8 0),(.int .u8 0),(.int .u8 0),(.int .u8 0),(.int .u8 0),(.int .u8 0),(.int .u8 0),(.int .u8 0),(.int .u8 0),(.int .u8 0),(.int .u8 0),(.int .u8 0),(.int .u8 0),(.int .u8 0),(.int .u8 0),(.int .u8 0),(.int .u8 0),(.int .u8 0),(.int .u8 0),(.slice none 0 0),(.bool false),(.int .u8 0),(.int .u8 0),(.int .u8 0),(.int .u8 0),(.int .u8 0),(.int .u8 0),(.int .u8 0),(.int .u8 0),(.int .u8 0),(.int .u8 0),(.int .u8 0),(.int .u8 0),(.int .u8 0),(.int .u8 0),(.int .u8 0),(.int .u8 0),(.int .u8 0),(.int .u8 0),(.int .u8 0),(.int .u8 0),(.int .u8 0),(.int .u8 0),(.int .u8 0),(.int .u8 0),(.int .u8 0),(.int .u8 0),(.int .u8 0),(.int .u8 0),(.int .u8 0),(.int .u8 0),(.int .u8 0),(.int .u8 0),(.int .i64 0),(.int .i64 0),(.int .i64 0),(.int .i64 0),(.int .u8 0),(.int .u8 0),(.int .u8 0),(.int .u8 0),(.int .u8 0),(.int .u8 0),(.int .u8 0),(.int .u8 0),(.int .u8 0),(.int .u8 0),(.int .u8 0),(.int .u8 0),(.int .u8 0),(.int .u8 0),(.int .u8 0),(.int .u8 0),(.int .u8 0),(.int .u8 0),(.int .u8 0),(.int .u8 0),(.int .u8 0),(.int .u8 0),(.int .u8 0),(.int .u8 0),(.int .u8 0),(.int .u8 0),(.int .u8 0),(.int .u8 0),(.int .u8 0),(.int .u8 0),(.int .u8 0),(.int .u8 0),(.slice none 0 0),(.int .i64 0),(.slice none 0 0),(.int .i64 0)] [(0,1,y50),(1,1,y54),(2,1,y58)]) h) fun y59 h=>
 ae (eD [(.int .u8 0),(.int .i64 0),(.int .i64 0),(.int .u64 0),(.int .i64 0),(.int .i64 0),(.slice none 0 0),(.slice none 0 0),(.slice none 0 0),(.int .i64 0),(.int .u8 0),(.int .u8 0),(.int .u8 0),(.int .u8 0),(.int .u8 0),(.int .u8 0),(.int .u8 0),(.int .u8 0),(.int .u8 0),(.int .u8 0),(.int .u8 0),(.int .u8 0),(.int .u8 0),(.int .u8 0),(.int .u8 0),(.int .u8 0),(.int .u8 0),(.int .u8 0),(.int .u8 0),(.int .u8 0),(.int .u8 0),(.int .u8 0),(.int .u8 0),(.int .u8 0),(.int .u8 0),(.int .u8 0),(.int .u8 0),(.int .u8 0),(.int .u8 0),(.int .u8 0),(.int .u8 0),(.int .u8 0),(.slice none 0 0),(.bool false),(.int .u8 0),(.int .u8 0),(.int .u8 0),(.int .u8 0),(.int .u8 0),(.int .u8 0),(.int .u8 0),(.int .u8 0),(.int .u8 0),(.int .u8 0),(.int .u8 0),(.int .u8 0),(.int .u8 0),(.int .u8 0),(.int .u8 0),(.int .u8 0),(.int .u8 0),(.int .u8 0),(.int .u8 0),(.int .u8 0),(.int .u8 0),(.int .u8 0),(.int .u8 0),(.int .u8 0),(.int .u8 0),(.int .u8 0),(.int .u8 0),(.int .u8 0),(.int .u8 0),(.int .u8 0),(.int .u8 0),(.int .u8 0),(.int .i64 0),(.int .i64 0),(.int .i64 0),(.int .i64 0),(.int .u8 0),(.int .u8 0),(.int .u8 0),(.int .u8 0),(.int .u8 0),(.int .u8 0),(.int .u8 0),(.int .u8 0),(.int .u8 0),(.int .u8 0),(.int .u8 0),(.int .u8 0),(.int .u8 0),(.int .u8 0),(.int .u8 0),(.int .u8 0),(.int .u8 0),(.int .u8 0),(.int .u8 0),(.int .u8 0),(.int .u8 0),(.int .u8 0),(.int .u8 0),(.int .u8 0),(.int .u8 0),(.int .u8 0),(.int .u8 0),(.int .u8 0),(.int .u8 0),(.int .u8 0),(.int .u8 0),(.int .u8 0),(.slice none 0 0),(.int .i64 0),(.slice none 0 0),(.int .i64 0)] h) fun y7 h=>
 ae (cA 116 y7 y59 h) fun _ h=>
 ae (pu (aB y7 0) h) fun y61 h=>
 ae (aR y61 h) fun y62 h=>
 ae (C 35 [y62] h) fun y63 h=>
 ae (some (y63,h)) fun y60 h=>
 ae (pu (aY y60 0) h) fun y64 h=>
 ae (pu (aY y60 1) h) fun y65 h=>
 ae (eD [(.string ⟨#[]⟩),.nilFunc,.nilFunc,.nilFunc,.nilFunc] h) fun y8 h=>
 ae (cA 5 y8 y64 h) fun _ h=>
 ae (some (y65,h)) fun y9 h=>
 ae (some (y9,h)) fun y66 h=>
 ae (pu (unA .not y66) h) fun y67 h=>
 (match y67 with
 | .bool true=>
 ae (pu (cQ [(.int .u8 0),(.int .i64 0),(.int .i64 0),(.int .u64 0),(.int .i64 0),(.int .i64 0),(.slice none 0 0),(.slice none 0 0),(.slice none 0 0),(.int .i64 0),(.int .u8 0),(.int .u8 0),(.int .u8 0),(.int .u8 0),(.int .u8 0),(.int .u8 0),(.int .u8 0),(.int .u8 0),(.int .u8 0),(.int .u8 0),(.int .u8 0),(.int .u8 0),(.int .u8 0),(.int .u8 0),(.int .u8 0),(.int .u8 0),(.int .u8 0),(.int .u8 0),(.int .u8 0),(.int .u8 0),(.int .u8 0),(.int .u8 0),(.int .u8 0),(.int .u8 0),(.int .u8 0),(.int .u8 0),(.int .u8 0),(.int .u8 0),(.int .u8 0),(.int .u8 0),(.int .u8 0),(.int .u8 0),(.slice none 0 0),(.bool false),(.int .u8 0),(.int .u8 0),(.int .u8 0),(.int .u8 0),(.int .u8 0),(.int .u8 0),(.int .u8 0),(.int .u8 0),(.int .u8 0),(.int .u8 0),(.int .u8 0),(.int .u8 0),(.int .u8 0),(.int .u8 0),(.int .u8 0),(.int .u8 0),(.int .u8 0),(.int .u8 0),(.int .u8 0),(.int .u8 0),(.int .u8 0),(.int .u8 0),(.int .u8 0),(.int .u8 0),(.int .u8 0),(.int .u8 0),(.int .u8 0),(.int .u8 0),(.int .u8 0),(.int .u8 0),(.int .u8 0),(.int .u8 0),(.int .i64 0),(.int .i64 0),(.int .i64 0),(.int .i64 0),(.int .u8 0),(.int .u8 0),(.int .u8 0),(.int .u8 0),(.int .u8 0),(.int .u8 0),(.int .u8 0),(.int .u8 0),(.int .u8 0),(.int .u8 0),(.int .u8 0),(.int .u8 0),(.int .u8 0),(.int .u8 0),(.int .u8 0),(.int .u8 0),(.int .u8 0),(.int .u8 0),(.int .u8 0),(.int .u8 0),(.int .u8 0),(.int .u8 0),(.int .u8 0),(.int .u8 0),(.int .u8 0),(.int .u8 0),(.int .u8 0),(.int .u8 0),(.int .u8 0),(.int .u8 0),(.int .u8 0),(.int .u8 0),(.slice none 0 0),(.int .i64 0),(.slice none 0 0),(.int .i64 0)] []) h) fun y68 h=>
 ae (cA 116 y2 y68 h) fun _ h=>
 ae (some ((.int .i64 2),h)) fun y3_1 h=>
 ax Tryz.prog Tryz.f13.results.toList (bu 92 (up (bs [x0]) [(2,y2),(3,y3_1),(4,y4),(5,y5),(6,y6),(7,y7),(8,y8),(9,y9),(12,y12),(13,y13),(14,y14),(15,y15),(16,y16),(17,y17),(18,y18),(19,y19),(22,y22),(23,y23),(24,y24),(25,y25),(26,dj),(28,y28),(29,y29),(30,y30),(31,y31),(32,y32),(34,y34),(35,y35),(36,y36),(37,y37),(38,y38),(39,y39),(40,y40),(41,y41),(42,y42),(43,y43),(44,y44),(45,y45),(46,y46),(48,y48),(49,y49),(50,y50),(51,y51),(52,y52),(53,y53),(54,y54),(55,y55),(56,y56),(57,y57),(58,y58),(59,y59),(60,y60),(61,y61),(62,y62),(63,y63),(64,y64),(65,y65),(66,y66),(67,y67),(68,y68)])) h
 | .bool false=>
 ae (some (x0,h)) fun y69 h=>
 ae (some (y4,h)) fun y70 h=>
 ae (pu (bin Tryz.prog .sub 3 y70 (.int .i64 4)) h) fun y71 h=>
 ae (pu (slR 1 y69 (some (.int .i64 10)) (some y71) none) h) fun y72 h=>
 ae (C 32 [y72] h) fun y73 h=>
 ae (some (y73,h)) fun y10 h=>
 ae (pu (aB y8 4) h) fun y74 h=>
 ae (aR y74 h) fun y75 h=>
 ae (some (y10,h)) fun y76 h=>
 ae (callA Tryz.prog C y75 [y76,y7] h) fun y77 h=>
 ae (pu (unA .not y77) h) fun y78 h=>
 ae (some (y78,h)) fun y79 h=>
 ae (aq (aM y79==some false) (some (y10,h)) h) fun y80 h=>
 ae (aq (aM y79==some false) (C 36 [y80] h) h) fun y81 h=>
 ae (aq (aM y79==some false) (pu (bin Tryz.prog .neq 35 y81 (.int .i64 0)) h) h) fun y82 h=>
 ae (match y79 with | .bool t=>some (if t then (.bool true) else y82,h)|_=>none) fun y83 h=>
 (match y83 with
 | .bool true=>
 ae (pu (cQ [(.int .u8 0),(.int .i64 0),(.int .i64 0),(.int .u64 0),(.int .i64 0),(.int .i64 0),(.slice none 0 0),(.slice none 0 0),(.slice none 0 0),(.int .i64 0),(.int .u8 0),(.int .u8 0),(.int .u8 0),(.int .u8 0),(.int .u8 0),(.int .u8 0),(.int .u8 0),(.int .u8 0),(.int .u8 0),(.int .u8 0),(.int .u8 0),(.int .u8 0),(.int .u8 0),(.int .u8 0),(.int .u8 0),(.int .u8 0),(.int .u8 0),(.int .u8 0),(.int .u8 0),(.int .u8 0),(.int .u8 0),(.int .u8 0),(.int .u8 0),(.int .u8 0),(.int .u8 0),(.int .u8 0),(.int .u8 0),(.int .u8 0),(.int .u8 0),(.int .u8 0),(.int .u8 0),(.int .u8 0),(.slice none 0 0),(.bool false),(.int .u8 0),(.int .u8 0),(.int .u8 0),(.int .u8 0),(.int .u8 0),(.int .u8 0),(.int .u8 0),(.int .u8 0),(.int .u8 0),(.int .u8 0),(.int .u8 0),(.int .u8 0),(.int .u8 0),(.int .u8 0),(.int .u8 0),(.int .u8 0),(.int .u8 0),(.int .u8 0),(.int .u8 0),(.int .u8 0),(.int .u8 0),(.int .u8 0),(.int .u8 0),(.int .u8 0),(.int .u8 0),(.int .u8 0),(.int .u8 0),(.int .u8 0),(.int .u8 0),(.int .u8 0),(.int .u8 0),(.int .u8 0),(.int .i64 0),(.int .i64 0),(.int .i64 0),(.int .i64 0),(.int .u8 0),(.int .u8 0),(.int .u8 0),(.int .u8 0),(.int .u8 0),(.int .u8 0),(.int .u8 0),(.int .u8 0),(.int .u8 0),(.int .u8 0),(.int .u8 0),(.int .u8 0),(.int .u8 0),(.int .u8 0),(.int .u8 0),(.int .u8 0),(.int .u8 0),(.int .u8 0),(.int .u8 0),(.int .u8 0),(.int .u8 0),(.int .u8 0),(.int .u8 0),(.int .u8 0),(.int .u8 0),(.int .u8 0),(.int .u8 0),(.int .u8 0),(.int .u8 0),(.int .u8 0),(.int .u8 0),(.int .u8 0),(.slice none 0 0),(.int .i64 0),(.slice none 0 0),(.int .i64 0)] []) h) fun y84 h=>
 ae (cA 116 y2 y84 h) fun _ h=>
 ae (some ((.int .i64 5),h)) fun y3_1 h=>
 ax Tryz.prog Tryz.f13.results.toList (bu 92 (up (bs [x0]) [(2,y2),(3,y3_1),(4,y4),(5,y5),(6,y6),(7,y7),(8,y8),(9,y9),(10,y10),(12,y12),(13,y13),(14,y14),(15,y15),(16,y16),(17,y17),(18,y18),(19,y19),(22,y22),(23,y23),(24,y24),(25,y25),(26,dj),(28,y28),(29,y29),(30,y30),(31,y31),(32,y32),(34,y34),(35,y35),(36,y36),(37,y37),(38,y38),(39,y39),(40,y40),(41,y41),(42,y42),(43,y43),(44,y44),(45,y45),(46,y46),(48,y48),(49,y49),(50,y50),(51,y51),(52,y52),(53,y53),(54,y54),(55,y55),(56,y56),(57,y57),(58,y58),(59,y59),(60,y60),(61,y61),(62,y62),(63,y63),(64,y64),(65,y65),(66,y66),(67,y67),(69,y69),(70,y70),(71,y71),(72,y72),(73,y73),(74,y74),(75,y75),(76,y76),(77,y77),(78,y78),(79,y79),(80,y80),(81,y81),(82,y82),(83,y83),(84,y84)])) h
 | .bool false=>
 ae (cq 116 y7 h) fun y85 h=>
 ae (C 19 [y85] h) fun y86 h=>
 ae (some (y86,h)) fun y11 h=>
 ae (some (y11,h)) fun y87 h=>
 ae (pu (bin Tryz.prog .neq 35 y87 (.int .i64 0)) h) fun y88 h=>
 (match y88 with
 | .bool true=>
 ae (pu (cQ [(.int .u8 0),(.int .i64 0),(.int .i64 0),(.int .u64 0),(.int .i64 0),(.int .i64 0),(.slice none 0 0),(.slice none 0 0),(.slice none 0 0),(.int .i64 0),(.int .u8 0),(.int .u8 0),(.int .u8 0),(.int .u8 0),(.int .u8 0),(.int .u8 0),(.int .u8 0),(.int .u8 0),(.int .u8 0),(.int .u8 0),(.int .u8 0),(.int .u8 0),(.int .u8 0),(.int .u8 0),(.int .u8 0),(.int .u8 0),(.int .u8 0),(.int .u8 0),(.int .u8 0),(.int .u8 0),(.int .u8 0),(.int .u8 0),(.int .u8 0),(.int .u8 0),(.int .u8 0),(.int .u8 0),(.int .u8 0),(.int .u8 0),(.int .u8 0),(.int .u8 0),(.int .u8 0),(.int .u8 0),(.slice none 0 0),(.bool false),(.int .u8 0),(.int .u8 0),(.int .u8 0),(.int .u8 0),(.int .u8 0),(.int .u8 0),(.int .u8 0),(.int .u8 0),(.int .u8 0),(.int .u8 0),(.int .u8 0),(.int .u8 0),(.int .u8 0),(.int .u8 0),(.int .u8 0),(.int .u8 0),(.int .u8 0),(.int .u8 0),(.int .u8 0),(.int .u8 0),(.int .u8 0),(.int .u8 0),(.int .u8 0),(.int .u8 0),(.int .u8 0),(.int .u8 0),(.int .u8 0),(.int .u8 0),(.int .u8 0),(.int .u8 0),(.int .u8 0),(.int .u8 0),(.int .i64 0),(.int .i64 0),(.int .i64 0),(.int .i64 0),(.int .u8 0),(.int .u8 0),(.int .u8 0),(.int .u8 0),(.int .u8 0),(.int .u8 0),(.int .u8 0),(.int .u8 0),(.int .u8 0),(.int .u8 0),(.int .u8 0),(.int .u8 0),(.int .u8 0),(.int .u8 0),(.int .u8 0),(.int .u8 0),(.int .u8 0),(.int .u8 0),(.int .u8 0),(.int .u8 0),(.int .u8 0),(.int .u8 0),(.int .u8 0),(.int .u8 0),(.int .u8 0),(.int .u8 0),(.int .u8 0),(.int .u8 0),(.int .u8 0),(.int .u8 0),(.int .u8 0),(.int .u8 0),(.slice none 0 0),(.int .i64 0),(.slice none 0 0),(.int .i64 0)] []) h) fun y89 h=>
 ae (some (y11,h)) fun y90 h=>
 ae (cA 116 y2 y89 h) fun _ h=>
 ae (some (y90,h)) fun y3_1 h=>
 ax Tryz.prog Tryz.f13.results.toList (bu 92 (up (bs [x0]) [(2,y2),(3,y3_1),(4,y4),(5,y5),(6,y6),(7,y7),(8,y8),(9,y9),(10,y10),(11,y11),(12,y12),(13,y13),(14,y14),(15,y15),(16,y16),(17,y17),(18,y18),(19,y19),(22,y22),(23,y23),(24,y24),(25,y25),(26,dj),(28,y28),(29,y29),(30,y30),(31,y31),(32,y32),(34,y34),(35,y35),(36,y36),(37,y37),(38,y38),(39,y39),(40,y40),(41,y41),(42,y42),(43,y43),(44,y44),(45,y45),(46,y46),(48,y48),(49,y49),(50,y50),(51,y51),(52,y52),(53,y53),(54,y54),(55,y55),(56,y56),(57,y57),(58,y58),(59,y59),(60,y60),(61,y61),(62,y62),(63,y63),(64,y64),(65,y65),(66,y66),(67,y67),(69,y69),(70,y70),(71,y71),(72,y72),(73,y73),(74,y74),(75,y75),(76,y76),(77,y77),(78,y78),(79,y79),(80,y80),(81,y81),(82,y82),(83,y83),(85,y85),(86,y86),(87,y87),(88,y88),(89,y89),(90,y90)])) h
 | .bool false=>
 ae (cq 116 y7 h) fun y91 h=>
 ae (cA 116 y2 y91 h) fun _ h=>
 ae (some ((.int .i64 0),h)) fun y3_1 h=>
 ax Tryz.prog Tryz.f13.results.toList (bu 92 (up (bs [x0]) [(2,y2),(3,y3_1),(4,y4),(5,y5),(6,y6),(7,y7),(8,y8),(9,y9),(10,y10),(11,y11),(12,y12),(13,y13),(14,y14),(15,y15),(16,y16),(17,y17),(18,y18),(19,y19),(22,y22),(23,y23),(24,y24),(25,y25),(26,dj),(28,y28),(29,y29),(30,y30),(31,y31),(32,y32),(34,y34),(35,y35),(36,y36),(37,y37),(38,y38),(39,y39),(40,y40),(41,y41),(42,y42),(43,y43),(44,y44),(45,y45),(46,y46),(48,y48),(49,y49),(50,y50),(51,y51),(52,y52),(53,y53),(54,y54),(55,y55),(56,y56),(57,y57),(58,y58),(59,y59),(60,y60),(61,y61),(62,y62),(63,y63),(64,y64),(65,y65),(66,y66),(67,y67),(69,y69),(70,y70),(71,y71),(72,y72),(73,y73),(74,y74),(75,y75),(76,y76),(77,y77),(78,y78),(79,y79),(80,y80),(81,y81),(82,y82),(83,y83),(85,y85),(86,y86),(87,y87),(88,y88),(91,y91)])) h
 |_=>none)
 |_=>none)
 |_=>none)
 |_=>none)
 |_=>none)
 |_=>none)
 |_=>none)
theorem t13_eq (C:av) (x0:Value) (h:ai):bc Tryz.prog C Tryz.f13 [x0] h=t13 C x0 h:=
 (aE Tryz.prog C Tryz.f13 [x0] h (by kernel_rfl)).trans (by kernel_rfl)
noncomputable def t21 (C:av) (x0:Value) (h:ai):Out:=
 ae (box x0 h) fun y1 h=>
 ae (some ((.slice none 0 0),h)) fun _y2 h=>
 ae (some ((.int .i64 0),h)) fun _y3 h=>
 ae (cq 116 y1 h) fun y13 h=>
 ae (C 19 [y13] h) fun y14 h=>
 ae (some (y14,h)) fun y4 h=>
 ae (some (y4,h)) fun y15 h=>
 ae (pu (bin Tryz.prog .neq 35 y15 (.int .i64 0)) h) fun y16 h=>
 (match y16 with
 | .bool true=>
 ae (some (y4,h)) fun y17 h=>
 ae (some ((.slice none 0 0),h)) fun y2_1 h=>
 ae (some (y17,h)) fun y3_1 h=>
 some (.tuple #[y2_1,y3_1],h)
 | .bool false=>
 ae (pu (aB y1 0) h) fun y19 h=>
 ae (aR y19 h) fun y20 h=>
 ae (C 35 [y20] h) fun y21 h=>
 ae (some (y21,h)) fun y18 h=>
 ae (pu (aY y18 0) h) fun y22 h=>
 ae (pu (aY y18 1) h) fun y23 h=>
 ae (eD [(.string ⟨#[]⟩),.nilFunc,.nilFunc,.nilFunc,.nilFunc] h) fun y5 h=>
 ae (cA 5 y5 y22 h) fun _ h=>
 ae (some (y23,h)) fun _y6 h=>
 ae (C 47 [(.int .i64 20000)] h) fun y24 h=>
 ae (some (y24,h)) fun y7 h=>
 ae (pu (aB y5 3) h) fun y25 h=>
 ae (aR y25 h) fun dj h=>
 ae (some (y7,h)) fun dA h=>
 ae (cq 116 y1 h) fun y28 h=>
 ae (callA Tryz.prog C dj [dA,y28] h) fun _y29 h=>
 ae (some (y7,h)) fun y31 h=>
 ae (C 48 [y31] h) fun y32 h=>
 ae (some (y32,h)) fun y30 h=>
 ae (pu (aY y30 0) h) fun y33 h=>
 ae (pu (aY y30 1) h) fun y34 h=>
 ae (some (y33,h)) fun y8 h=>
 ae (some (y34,h)) fun _y9 h=>
 ae (some (y8,h)) fun y35 h=>
 ae (pu (bC y35) h) fun y36 h=>
 ae (pu (bin Tryz.prog .add 3 y36 (.int .i64 14)) h) fun y37 h=>
 ae (C 47 [y37] h) fun y38 h=>
 ae (some (y38,h)) fun y10 h=>
 ae (some (y10,h)) fun y39 h=>
 ae (C 49 [y39,(.int .u16 21335)] h) fun _y40 h=>
 ae (some (y10,h)) fun y41 h=>
 ae (C 50 [y41,(.int .u8 1)] h) fun _y42 h=>
 ae (some (y10,h)) fun y43 h=>
 ae (pu (aB y1 0) h) fun y44 h=>
 ae (aR y44 h) fun y45 h=>
 ae (C 50 [y43,y45] h) fun _y46 h=>
 ae (some (y10,h)) fun y47 h=>
 ae (pu (aB y1 1) h) fun y48 h=>
 ae (aR y48 h) fun y49 h=>
 ae (cvI .u8 y49 h) fun y50 h=>
 ae (C 50 [y47,y50] h) fun _y51 h=>
 ae (some (y10,h)) fun y52 h=>
 ae (pu (aB y1 2) h) fun y53 h=>
 ae (aR y53 h) fun y54 h=>
 ae (cvI .u8 y54 h) fun y55 h=>
 ae (C 50 [y52,y55] h) fun _y56 h=>
 ae (some (y10,h)) fun y57 h=>
 ae (some (y8,h)) fun y58 h=>
 ae (pu (bC y58) h) fun y59 h=>
 ae (cvI .u32 y59 h) fun y60 h=>
 ae (C 51 [y57,y60] h) fun _y61 h=>
 ae (some (y10,h)) fun y62 h=>
 ae (some (y8,h)) fun y63 h=>
 ae (C 52 [y62,y63] h) fun _y64 h=>
 ae (some (y10,h)) fun y66 h=>
 ae (C 48 [y66] h) fun y67 h=>
 ae (some (y67,h)) fun y65 h=>
 ae (pu (aY y65 0) h) fun y68 h=>
 ae (pu (aY y65 1) h) fun y69 h=>
 ae (some (y68,h)) fun y11 h=>
 ae (some (y69,h)) fun _y12 h=>
 ae (some (y10,h)) fun y70 h=>
 ae (some (y11,h)) fun y71 h=>
 ae (C 34 [y71] h) fun y72 h=>
 ae (C 51 [y70,y72] h) fun _y73 h=>
 ae (some (y10,h)) fun y74 h=>
 ae (C 48 [y74] h) fun y75 h=>
 ae (pu (aY y75 0) h) fun y76 h=>
 ae (pu (aY y75 1) h) fun y77 h=>
 ae (some (y76,h)) fun y2_1 h=>
 ae (some (y77,h)) fun y3_1 h=>
 some (.tuple #[y2_1,y3_1],h)
 |_=>none)
theorem t21_eq (C:av) (x0:Value) (h:ai):bc Tryz.prog C Tryz.f21 [x0] h=t21 C x0 h:=
 (aE Tryz.prog C Tryz.f21 [x0] h (by kernel_rfl)).trans (by kernel_rfl)
noncomputable def k29_3 (C:av) (e:Env) (h:ai):Out:=cw Tryz.prog C (partOf Tryz.f29 [1,1,1,1]) e h (ax Tryz.prog Tryz.f29.results.toList) (ax Tryz.prog Tryz.f29.results.toList) (fun _ _ _=>none)
noncomputable def b29_4 (C:av) (i:Nat) (e:Env) (h:ai):Out:=if i=0 then (k29_3 C) e h else (fun _ _ _=>none) i e h
noncomputable def t29 (C:av) (x0:Value) (h:ai):Out:=
 ae (some ((.slice none 0 0),h)) fun y2 h=>
 ae (some ((.int .i64 0),h)) fun y3 h=>
 ae (some ((.int .i64 0),h)) fun y4 h=>
 ae (some ((.slice none 0 0),h)) fun y5 h=>
 ae (some ((.int .i64 0),h)) fun y6 h=>
 ep (iter (aI Tryz.prog C (partOf Tryz.f29 [1,1,1,0,0,0])) rounds (bu 57 (up (bs [x0]) [(2,y2),(3,y3),(4,y4),(5,y5),(6,y6)])) h) (ax Tryz.prog Tryz.f29.results.toList) (b29_4 C)
noncomputable def t29k29_3 (_C:av) (x:Nat→Value) (h:ai):Out:=
 ae (some ((x 5),h)) fun y55 h=>
 ae (some ((x 6),h)) fun y56 h=>
 ae (some (y55,h)) fun y2 h=>
 ae (some (y56,h)) fun y3 h=>
 ae (some ((.int .i64 0),h)) fun y4 h=>
 some (.tuple #[y2,y3,y4],h)
noncomputable def t29l29_11100 (C:av) (x:Nat→Value) (h:ai):Option (Ex×Env×ai):=
 ae (some ((x 0),h)) fun y10 h=>
 ae (pu (bC y10) h) fun y11 h=>
 ae (some ((x 6),h)) fun y12 h=>
 ae (pu (bin Tryz.prog .sub 3 y11 y12) h) fun y13 h=>
 ae (pu (bin Tryz.prog .geq 3 y13 (.int .i64 10)) h) fun y14 h=>
 (match y14 with
 | .bool true=>
 ae (some ((x 0),h)) fun y16 h=>
 ae (some ((x 6),h)) fun y17 h=>
 ae (pu (slR 1 y16 (some y17) none none) h) fun y18 h=>
 ae (C 31 [y18] h) fun y19 h=>
 ae (some (y19,h)) fun y15 h=>
 ae (pu (aY y15 0) h) fun y20 h=>
 ae (pu (aY y15 1) h) fun y21 h=>
 ae (some (y20,h)) fun y7 h=>
 ae (some (y21,h)) fun y8 h=>
 ae (some (y8,h)) fun y22 h=>
 ae (pu (bin Tryz.prog .neq 35 y22 (.int .i64 0)) h) fun y23 h=>
 (match y23 with
 | .bool true=>
 ae (some ((x 5),h)) fun y24 h=>
 ae (some ((x 6),h)) fun y25 h=>
 ae (some (y8,h)) fun dj h=>
 ae (some (y24,h)) fun y2 h=>
 ae (some (y25,h)) fun y3 h=>
 ae (some (dj,h)) fun y4 h=>
 some (.ret,(bu 57 (up x [(2,y2),(3,y3),(4,y4),(7,y7),(8,y8),(10,y10),(11,y11),(12,y12),(13,y13),(14,y14),(15,y15),(16,y16),(17,y17),(18,y18),(19,y19),(20,y20),(21,y21),(22,y22),(23,y23),(24,y24),(25,y25),(26,dj)])),h)
 | .bool false=>
 ae (some (y7,h)) fun dA h=>
 ae (some ((x 0),h)) fun y28 h=>
 ae (pu (bC y28) h) fun y29 h=>
 ae (some ((x 6),h)) fun y30 h=>
 ae (pu (bin Tryz.prog .sub 3 y29 y30) h) fun y31 h=>
 ae (pu (bin Tryz.prog .gtr 3 dA y31) h) fun y32 h=>
 (match y32 with
 | .bool true=>
 some (.exit 0,(bu 57 (up x [(7,y7),(8,y8),(10,y10),(11,y11),(12,y12),(13,y13),(14,y14),(15,y15),(16,y16),(17,y17),(18,y18),(19,y19),(20,y20),(21,y21),(22,y22),(23,y23),(27,dA),(28,y28),(29,y29),(30,y30),(31,y31),(32,y32)])),h)
 | .bool false=>
 ae (some ((x 0),h)) fun y34 h=>
 ae (some ((x 6),h)) fun y35 h=>
 ae (some ((x 6),h)) fun y36 h=>
 ae (some (y7,h)) fun y37 h=>
 ae (pu (bin Tryz.prog .add 3 y36 y37) h) fun y38 h=>
 ae (pu (slR 1 y34 (some y35) (some y38) none) h) fun y39 h=>
 ae (C 13 [y39] h) fun y40 h=>
 ae (some (y40,h)) fun y33 h=>
 ae (pu (aY y33 0) h) fun y41 h=>
 ae (pu (aY y33 1) h) fun y42 h=>
 ae (eD [(.int .u8 0),(.int .i64 0),(.int .i64 0),(.int .u64 0),(.int .i64 0),(.int .i64 0),(.slice none 0 0),(.slice none 0 0),(.slice none 0 0),(.int .i64 0),(.int .u8 0),(.int .u8 0),(.int .u8 0),(.int .u8 0),(.int .u8 0),(.int .u8 0),(.int .u8 0),(.int .u8 0),(.int .u8 0),(.int .u8 0),(.int .u8 0),(.int .u8 0),(.int .u8 0),(.int .u8 0),(.int .u8 0),(.int .u8 0),(.int .u8 0),(.int .u8 0),(.int .u8 0),(.int .u8 0),(.int .u8 0),(.int .u8 0),(.int .u8 0),(.int .u8 0),(.int .u8 0),(.int .u8 0),(.int .u8 0),(.int .u8 0),(.int .u8 0),(.int .u8 0),(.int .u8 0),(.int .u8 0),(.slice none 0 0),(.bool false),(.int .u8 0),(.int .u8 0),(.int .u8 0),(.int .u8 0),(.int .u8 0),(.int .u8 0),(.int .u8 0),(.int .u8 0),(.int .u8 0),(.int .u8 0),(.int .u8 0),(.int .u8 0),(.int .u8 0),(.int .u8 0),(.int .u8 0),(.int .u8 0),(.int .u8 0),(.int .u8 0),(.int .u8 0),(.int .u8 0),(.int .u8 0),(.int .u8 0),(.int .u8 0),(.int .u8 0),(.int .u8 0),(.int .u8 0),(.int .u8 0),(.int .u8 0),(.int .u8 0),(.int .u8 0),(.int .u8 0),(.int .u8 0),(.int .i64 0),(.int .i64 0),(.int .i64 0),(.int .i64 0),(.int .u8 0),(.int .u8 0),(.int .u8 0),(.int .u8 0),(.int .u8 0),(.int .u8 0),(.int .u8 0),(.int .u8 0),(.int .u8 0),(.int .u8 0),(.int .u8 0),(.int .u8 0),(.int .u8 0),(.int .u8 0),(.int .u8 0),(.int .u8 0),(.int .u8 0),(.int .u8 0),(.int .u8 0),(.int .u8 0),(.int .u8 0),(.int .u8 0),(.int .u8 0),(.int .u8 0),(.int .u8 0),(.int .u8 0),(.int .u8 0),(.int .u8 0),(.int .u8 0),(.int .u8 0),(.int .u8 0),(.int .u8 0),(.slice none 0 0),(.int .i64 0),(.slice none 0 0),(.int .i64 0)] h) fun y9 h=>
 ae (cA 116 y9 y41 h) fun _ h=>
 ae (some (y42,h)) fun y8_1 h=>
 ae (some (y8_1,h)) fun y43 h=>
 ae (pu (bin Tryz.prog .neq 35 y43 (.int .i64 0)) h) fun y44 h=>
 (match y44 with
 | .bool true=>
 ae (some ((x 5),h)) fun y45 h=>
 ae (some ((x 6),h)) fun y46 h=>
 ae (some (y8_1,h)) fun y47 h=>
 ae (some (y45,h)) fun y2 h=>
 ae (some (y46,h)) fun y3 h=>
 ae (some (y47,h)) fun y4 h=>
 some (.ret,(bu 57 (up x [(2,y2),(3,y3),(4,y4),(7,y7),(8,y8_1),(9,y9),(10,y10),(11,y11),(12,y12),(13,y13),(14,y14),(15,y15),(16,y16),(17,y17),(18,y18),(19,y19),(20,y20),(21,y21),(22,y22),(23,y23),(27,dA),(28,y28),(29,y29),(30,y30),(31,y31),(32,y32),(33,y33),(34,y34),(35,y35),(36,y36),(37,y37),(38,y38),(39,y39),(40,y40),(41,y41),(42,y42),(43,y43),(44,y44),(45,y45),(46,y46),(47,y47)])),h)
 | .bool false=>
 ae (some ((x 5),h)) fun y48 h=>
 ae (cq 116 y9 h) fun y49 h=>
 ae (bslR 116 (.agg #[(.int .u8 0),(.int .i64 0),(.int .i64 0),(.int .u64 0),(.int .i64 0),(.int .i64 0),(.slice none 0 0),(.slice none 0 0),(.slice none 0 0),(.int .i64 0),(.int .u8 0),(.int .u8 0),(.int .u8 0),(.int .u8 0),(.int .u8 0),(.int .u8 0),(.int .u8 0),(.int .u8 0),(.int .u8 0),(.int .u8 0),(.int .u8 0),(.int .u8 0),(.int .u8 0),(.int .u8 0),(.int .u8 0),(.int .u8 0),(.int .u8 0),(.int .u8 0),(.int .u8 0),(.int .u8 0),(.int .u8 0),(.int .u8 0),(.int .u8 0),(.int .u8 0),(.int .u8 0),(.int .u8 0),(.int .u8 0),(.int .u8 0),(.int .u8 0),(.int .u8 0),(.int .u8 0),(.int .u8 0),(.slice none 0 0),(.bool false),(.int .u8 0),(.int .u8 0),(.int .u8 0),(.int .u8 0),(.int .u8 0),(.int .u8 0),(.int .u8 0),(.int .u8 0),(.int .u8 0),(.int .u8 0),(.int .u8 0),(.int .u8 0),(.int .u8 0),(.int .u8 0),(.int .u8 0),(.int .u8 0),(.int .u8 0),(.int .u8 0),(.int .u8 0),(.int .u8 0),(.int .u8 0),(.int .u8 0),(.int .u8 0),(.int .u8 0),(.int .u8 0),(.int .u8 0),(.int .u8 0),(.int .u8 0),(.int .u8 0),(.int .u8 0),(.int .u8 0),(.int .u8 0),(.int .i64 0),(.int .i64 0),(.int .i64 0),(.int .i64 0),(.int .u8 0),(.int .u8 0),(.int .u8 0),(.int .u8 0),(.int .u8 0),(.int .u8 0),(.int .u8 0),(.int .u8 0),(.int .u8 0),(.int .u8 0),(.int .u8 0),(.int .u8 0),(.int .u8 0),(.int .u8 0),(.int .u8 0),(.int .u8 0),(.int .u8 0),(.int .u8 0),(.int .u8 0),(.int .u8 0),(.int .u8 0),(.int .u8 0),(.int .u8 0),(.int .u8 0),(.int .u8 0),(.int .u8 0),(.int .u8 0),(.int .u8 0),(.int .u8 0),(.int .u8 0),(.int .u8 0),(.int .u8 0),(.slice none 0 0),(.int .i64 0),(.slice none 0 0),(.int .i64 0)]) 1 [(0,y49)] h) fun y50 h=>
 ae (bq 116 352 y48 y50 h) fun y51 h=>
 ae (some ((x 6),h)) fun y52 h=>
 ae (some (y7,h)) fun y53 h=>
 ae (pu (bin Tryz.prog .add 3 y52 y53) h) fun y54 h=>
 ae (some (y51,h)) fun y5 h=>
 ae (some (y54,h)) fun y6 h=>
 some (.normal,(bu 57 (up x [(5,y5),(6,y6),(7,y7),(8,y8_1),(9,y9),(10,y10),(11,y11),(12,y12),(13,y13),(14,y14),(15,y15),(16,y16),(17,y17),(18,y18),(19,y19),(20,y20),(21,y21),(22,y22),(23,y23),(27,dA),(28,y28),(29,y29),(30,y30),(31,y31),(32,y32),(33,y33),(34,y34),(35,y35),(36,y36),(37,y37),(38,y38),(39,y39),(40,y40),(41,y41),(42,y42),(43,y43),(44,y44),(48,y48),(49,y49),(50,y50),(51,y51),(52,y52),(53,y53),(54,y54)])),h)
 |_=>none)
 |_=>none)
 |_=>none)
 | .bool false=>
 some (.exit 0,(bu 57 (up x [(10,y10),(11,y11),(12,y12),(13,y13),(14,y14)])),h)
 |_=>none)
theorem t29_eq (C:av) (x0:Value) (h:ai):bc Tryz.prog C Tryz.f29 [x0] h=t29 C x0 h:=
 (aE Tryz.prog C Tryz.f29 [x0] h (by kernel_rfl)).trans (by kernel_rfl)
theorem t29k29_3_eq (C:av) (x:Nat→Value) (h:ai):k29_3 C (bu 57 x) h=t29k29_3 C x h:=
 bM (b:=(partOf Tryz.f29 [1,1,1,1])) (kE:=(ax Tryz.prog Tryz.f29.results.toList)) (rE:=(ax Tryz.prog Tryz.f29.results.toList)) (xE:=(fun _ _ _=>none)) (T:=t29k29_3 C) (fun x h=>by kernel_rfl) x h
theorem t29l29_11100_eq (C:av) (x:Nat→Value) (h:ai):aI Tryz.prog C (partOf Tryz.f29 [1,1,1,0,0,0]) (bu 57 x) h=t29l29_11100 C x h:=
 bt (T:=t29l29_11100 C) (fun x h=>by kernel_rfl) x h
noncomputable def t31 (C:av) (x0:Value) (h:ai):Out:=
 ae (some ((.int .i64 0),h)) fun _y2 h=>
 ae (some ((.int .i64 0),h)) fun _y3 h=>
 ae (some (x0,h)) fun y8 h=>
 ae (some (x0,h)) fun y9 h=>
 ae (pu (bC y9) h) fun y10 h=>
 ae (pu (eH false y10 [(.int .i64 10)]) h) fun y11 h=>
 ae (pu (slR 1 y8 none (some y11) none) h) fun y12 h=>
 ae (C 32 [y12] h) fun y13 h=>
 ae (some (y13,h)) fun y4 h=>
 ae (some (y4,h)) fun y14 h=>
 ae (C 72 [y14] h) fun y15 h=>
 ae (some (y4,h)) fun y16 h=>
 ae (C 73 [y16] h) fun y17 h=>
 ae (some (y15,h)) fun y5 h=>
 ae (some (y17,h)) fun y6 h=>
 ae (some (y4,h)) fun y18 h=>
 ae (C 74 [y18,(.int .i64 3)] h) fun _y19 h=>
 ae (some (y4,h)) fun y20 h=>
 ae (C 33 [y20] h) fun y21 h=>
 ae (cvI .i64 y21 h) fun y22 h=>
 ae (some (y22,h)) fun y7 h=>
 ae (some (y4,h)) fun y24 h=>
 ae (C 75 [y24] h) fun y25 h=>
 ae (pu (bin Tryz.prog .neq 35 y25 (.int .i64 0)) h) fun dj h=>
 ae (some (dj,h)) fun y23 h=>
 (match y23 with
 | .bool true=>
 ae (some ((.int .i64 0),h)) fun y2_1 h=>
 ae (some ((.int .i64 4),h)) fun y3_1 h=>
 some (.tuple #[y2_1,y3_1],h)
 | .bool false=>
 ae (some (y5,h)) fun y28 h=>
 ae (pu (bin Tryz.prog .neq 65 y28 (.int .u16 21335)) h) fun y29 h=>
 ae (some (y29,h)) fun dA h=>
 (match dA with
 | .bool true=>
 ae (some ((.int .i64 0),h)) fun y2_1 h=>
 ae (some ((.int .i64 5),h)) fun y3_1 h=>
 some (.tuple #[y2_1,y3_1],h)
 | .bool false=>
 ae (some (y6,h)) fun y31 h=>
 ae (pu (bin Tryz.prog .neq 5 y31 (.int .u8 1)) h) fun y32 h=>
 ae (some (y32,h)) fun y30 h=>
 (match y30 with
 | .bool true=>
 ae (some ((.int .i64 0),h)) fun y2_1 h=>
 ae (some ((.int .i64 80),h)) fun y3_1 h=>
 some (.tuple #[y2_1,y3_1],h)
 | .bool false=>
 ae (some (y7,h)) fun y34 h=>
 ae (pu (bin Tryz.prog .gtr 3 y34 (.int .i64 20000)) h) fun y35 h=>
 ae (some (y35,h)) fun y33 h=>
 (match y33 with
 | .bool true=>
 ae (some ((.int .i64 0),h)) fun y2_1 h=>
 ae (some ((.int .i64 3),h)) fun y3_1 h=>
 some (.tuple #[y2_1,y3_1],h)
 | .bool false=>
 ae (some (y7,h)) fun y36 h=>
 ae (pu (bin Tryz.prog .add 3 y36 (.int .i64 14)) h) fun y37 h=>
 ae (some (y37,h)) fun y2_1 h=>
 ae (some ((.int .i64 0),h)) fun y3_1 h=>
 some (.tuple #[y2_1,y3_1],h)
 |_=>none)
 |_=>none)
 |_=>none)
 |_=>none)
theorem t31_eq (C:av) (x0:Value) (h:ai):bc Tryz.prog C Tryz.f31 [x0] h=t31 C x0 h:=
 (aE Tryz.prog C Tryz.f31 [x0] h (by kernel_rfl)).trans (by kernel_rfl)
noncomputable def t97 (C:av) (x0 x1:Value) (h:ai):Out:=
 ae (box x1 h) fun y3 h=>
 ae (some (x0,h)) fun y4 h=>
 ae (pu (aB y3 3) h) fun y5 h=>
 ae (aR y5 h) fun y6 h=>
 ae (C 126 [y4,y6] h) fun _y7 h=>
 ae (some (x0,h)) fun y8 h=>
 ae (pu (aB y3 4) h) fun y9 h=>
 ae (aR y9 h) fun y10 h=>
 ae (cvI .u8 y10 h) fun y11 h=>
 ae (C 50 [y8,y11] h) fun _y12 h=>
 ae (some (x0,h)) fun y13 h=>
 ae (pu (aB y3 6) h) fun y14 h=>
 ae (aR y14 h) fun y15 h=>
 ae (C 127 [y13,y15] h) fun _y16 h=>
 some (.tuple #[],h)
theorem t97_eq (C:av) (x0 x1:Value) (h:ai):bc Tryz.prog C Tryz.f97 [x0,x1] h=t97 C x0 x1 h:=
 (aE Tryz.prog C Tryz.f97 [x0,x1] h (by kernel_rfl)).trans (by kernel_rfl)
noncomputable def t98 (C:av) (x0 x1:Value) (h:ai):Out:=
 ae (some ((.bool false),h)) fun _y4 h=>
 ae (some (x1,h)) fun y5 h=>
 ae (some (x1,h)) fun y6 h=>
 ae (some (x0,h)) fun y7 h=>
 ae (C 128 [y7] h) fun y8 h=>
 ae (some (x0,h)) fun y9 h=>
 ae (C 73 [y9] h) fun y10 h=>
 ae (cvI .i64 y10 h) fun y11 h=>
 ae (pu (aN y5) h) fun y12 h=>
 ae (pu (aB y12 3) h) fun y13 h=>
 ae (cA 1 y13 y8 h) fun _ h=>
 ae (pu (aN y6) h) fun y14 h=>
 ae (pu (aB y14 4) h) fun y15 h=>
 ae (cA 1 y15 y11 h) fun _ h=>
 ae (some (x1,h)) fun y16 h=>
 ae (some (x0,h)) fun y17 h=>
 ae (C 129 [y17] h) fun y18 h=>
 ae (pu (aN y16) h) fun y19 h=>
 ae (pu (aB y19 6) h) fun y20 h=>
 ae (cA 1 y20 y18 h) fun _ h=>
 ae (some ((.bool true),h)) fun y4_1 h=>
 some (y4_1,h)
theorem t98_eq (C:av) (x0 x1:Value) (h:ai):bc Tryz.prog C Tryz.f98 [x0,x1] h=t98 C x0 x1 h:=
 (aE Tryz.prog C Tryz.f98 [x0,x1] h (by kernel_rfl)).trans (by kernel_rfl)
noncomputable def t100 (C:av) (x0 x1:Value) (h:ai):Out:=
 ae (box x1 h) fun y3 h=>
 ae (some (x0,h)) fun y4 h=>
 ae (pu (aB y3 3) h) fun y5 h=>
 ae (aR y5 h) fun y6 h=>
 ae (C 126 [y4,y6] h) fun _y7 h=>
 ae (some (x0,h)) fun y8 h=>
 ae (pu (aB y3 5) h) fun y9 h=>
 ae (aR y9 h) fun y10 h=>
 ae (cvI .u8 y10 h) fun y11 h=>
 ae (C 50 [y8,y11] h) fun _y12 h=>
 ae (some (x0,h)) fun y13 h=>
 ae (pu (aB y3 6) h) fun y14 h=>
 ae (aR y14 h) fun y15 h=>
 ae (C 127 [y13,y15] h) fun _y16 h=>
 some (.tuple #[],h)
theorem t100_eq (C:av) (x0 x1:Value) (h:ai):bc Tryz.prog C Tryz.f100 [x0,x1] h=t100 C x0 x1 h:=
 (aE Tryz.prog C Tryz.f100 [x0,x1] h (by kernel_rfl)).trans (by kernel_rfl)
noncomputable def t101 (C:av) (x0 x1:Value) (h:ai):Out:=
 ae (some ((.bool false),h)) fun _y4 h=>
 ae (some (x1,h)) fun y5 h=>
 ae (some (x1,h)) fun y6 h=>
 ae (some (x0,h)) fun y7 h=>
 ae (C 128 [y7] h) fun y8 h=>
 ae (some (x0,h)) fun y9 h=>
 ae (C 73 [y9] h) fun y10 h=>
 ae (cvI .i64 y10 h) fun y11 h=>
 ae (pu (aN y5) h) fun y12 h=>
 ae (pu (aB y12 3) h) fun y13 h=>
 ae (cA 1 y13 y8 h) fun _ h=>
 ae (pu (aN y6) h) fun y14 h=>
 ae (pu (aB y14 5) h) fun y15 h=>
 ae (cA 1 y15 y11 h) fun _ h=>
 ae (some (x1,h)) fun y16 h=>
 ae (some (x0,h)) fun y17 h=>
 ae (C 129 [y17] h) fun y18 h=>
 ae (pu (aN y16) h) fun y19 h=>
 ae (pu (aB y19 6) h) fun y20 h=>
 ae (cA 1 y20 y18 h) fun _ h=>
 ae (some ((.bool true),h)) fun y4_1 h=>
 some (y4_1,h)
theorem t101_eq (C:av) (x0 x1:Value) (h:ai):bc Tryz.prog C Tryz.f101 [x0,x1] h=t101 C x0 x1 h:=
 (aE Tryz.prog C Tryz.f101 [x0,x1] h (by kernel_rfl)).trans (by kernel_rfl)
noncomputable def t104 (C:av) (x0 x1:Value) (h:ai):Out:=
 ae (box x1 h) fun y3 h=>
 ae (some (x0,h)) fun y4 h=>
 ae (pu (aB y3 44) h) fun y5 h=>
 ae (pu (cP 32 1 y5 none none none) h) fun y6 h=>
 ae (C 52 [y4,y6] h) fun _y7 h=>
 some (.tuple #[],h)
theorem t104_eq (C:av) (x0 x1:Value) (h:ai):bc Tryz.prog C Tryz.f104 [x0,x1] h=t104 C x0 x1 h:=
 (aE Tryz.prog C Tryz.f104 [x0,x1] h (by kernel_rfl)).trans (by kernel_rfl)
noncomputable def t105 (C:av) (x0 x1:Value) (h:ai):Out:=
 ae (some ((.bool false),h)) fun _y4 h=>
 ae (some (x1,h)) fun y5 h=>
 ae (some (x0,h)) fun y6 h=>
 ae (C 130 [y6] h) fun y7 h=>
 ae (pu (aN y5) h) fun y8 h=>
 ae (pu (aB y8 44) h) fun y9 h=>
 ae (cA 32 y9 y7 h) fun _ h=>
 ae (some ((.bool true),h)) fun y4_1 h=>
 some (y4_1,h)
theorem t105_eq (C:av) (x0 x1:Value) (h:ai):bc Tryz.prog C Tryz.f105 [x0,x1] h=t105 C x0 x1 h:=
 (aE Tryz.prog C Tryz.f105 [x0,x1] h (by kernel_rfl)).trans (by kernel_rfl)
noncomputable def t108 (C:av) (x0 x1:Value) (h:ai):Out:=
 ae (box x1 h) fun y3 h=>
 ae (pu (aB y3 76) h) fun y7 h=>
 ae (cq 37 y7 h) fun y8 h=>
 ae (C 132 [y8] h) fun y9 h=>
 ae (some (y9,h)) fun y6 h=>
 ae (pu (aY y6 0) h) fun y10 h=>
 ae (pu (aY y6 1) h) fun y11 h=>
 ae (some (y10,h)) fun y4 h=>
 ae (some (y11,h)) fun _y5 h=>
 ae (some (x0,h)) fun y12 h=>
 ae (pu (aB y3 44) h) fun y13 h=>
 ae (pu (cP 32 1 y13 none none none) h) fun y14 h=>
 ae (C 52 [y12,y14] h) fun _y15 h=>
 ae (some (x0,h)) fun y16 h=>
 ae (some (y4,h)) fun y17 h=>
 ae (C 133 [y16,y17] h) fun _y18 h=>
 ae (some (x0,h)) fun y19 h=>
 ae (pu (aB y3 113) h) fun y20 h=>
 ae (pu (aB y20 0) h) fun y21 h=>
 ae (aR y21 h) fun y22 h=>
 ae (cvI .u16 y22 h) fun y23 h=>
 ae (C 49 [y19,y23] h) fun _y24 h=>
 ae (some (x0,h)) fun y25 h=>
 ae (pu (aB y3 113) h) fun dj h=>
 ae (pu (aB dj 1) h) fun dA h=>
 ae (aR dA h) fun y28 h=>
 ae (C 133 [y25,y28] h) fun _y29 h=>
 some (.tuple #[],h)
theorem t108_eq (C:av) (x0 x1:Value) (h:ai):bc Tryz.prog C Tryz.f108 [x0,x1] h=t108 C x0 x1 h:=
 (aE Tryz.prog C Tryz.f108 [x0,x1] h (by kernel_rfl)).trans (by kernel_rfl)
noncomputable def t109 (C:av) (x0 x1:Value) (h:ai):Out:=
 ae (some ((.bool false),h)) fun _y4 h=>
 ae (some (x1,h)) fun y7 h=>
 ae (some (x0,h)) fun y8 h=>
 ae (C 130 [y8] h) fun y9 h=>
 ae (pu (aN y7) h) fun y10 h=>
 ae (pu (aB y10 44) h) fun y11 h=>
 ae (cA 32 y11 y9 h) fun _ h=>
 ae (some (x0,h)) fun y13 h=>
 ae (C 135 [y13] h) fun y14 h=>
 ae (C 134 [y14] h) fun y15 h=>
 ae (some (y15,h)) fun y12 h=>
 ae (pu (aY y12 0) h) fun y16 h=>
 ae (pu (aY y12 1) h) fun y17 h=>
 ae (eD [(.int .i64 0),(.int .i64 0),(.int .i64 0),(.int .i64 0),(.int .u8 0),(.int .u8 0),(.int .u8 0),(.int .u8 0),(.int .u8 0),(.int .u8 0),(.int .u8 0),(.int .u8 0),(.int .u8 0),(.int .u8 0),(.int .u8 0),(.int .u8 0),(.int .u8 0),(.int .u8 0),(.int .u8 0),(.int .u8 0),(.int .u8 0),(.int .u8 0),(.int .u8 0),(.int .u8 0),(.int .u8 0),(.int .u8 0),(.int .u8 0),(.int .u8 0),(.int .u8 0),(.int .u8 0),(.int .u8 0),(.int .u8 0),(.int .u8 0),(.int .u8 0),(.int .u8 0),(.int .u8 0),(.slice none 0 0)] h) fun y5 h=>
 ae (cA 37 y5 y16 h) fun _ h=>
 ae (some (y17,h)) fun y6 h=>
 ae (some (x1,h)) fun y18 h=>
 ae (cq 37 y5 h) fun y19 h=>
 ae (pu (aN y18) h) fun y20 h=>
 ae (pu (aB y20 76) h) fun y21 h=>
 ae (cA 37 y21 y19 h) fun _ h=>
 ae (some (x1,h)) fun y22 h=>
 ae (some (x0,h)) fun y23 h=>
 ae (C 72 [y23] h) fun y24 h=>
 ae (cvI .i64 y24 h) fun y25 h=>
 ae (pu (aN y22) h) fun dj h=>
 ae (pu (aB dj 113) h) fun dA h=>
 ae (pu (aB dA 0) h) fun y28 h=>
 ae (cA 1 y28 y25 h) fun _ h=>
 ae (some (x1,h)) fun y29 h=>
 ae (some (x0,h)) fun y30 h=>
 ae (C 135 [y30] h) fun y31 h=>
 ae (pu (aN y29) h) fun y32 h=>
 ae (pu (aB y32 113) h) fun y33 h=>
 ae (pu (aB y33 1) h) fun y34 h=>
 ae (cA 1 y34 y31 h) fun _ h=>
 ae (some (y6,h)) fun y35 h=>
 ae (pu (bin Tryz.prog .eql 35 y35 (.int .i64 0)) h) fun y36 h=>
 ae (some (y36,h)) fun y4_1 h=>
 some (y4_1,h)
theorem t109_eq (C:av) (x0 x1:Value) (h:ai):bc Tryz.prog C Tryz.f109 [x0,x1] h=t109 C x0 x1 h:=
 (aE Tryz.prog C Tryz.f109 [x0,x1] h (by kernel_rfl)).trans (by kernel_rfl)
noncomputable def t113 (C:av) (x0 x1:Value) (h:ai):Out:=
 ae (box x1 h) fun y3 h=>
 ae (some (x0,h)) fun y4 h=>
 ae (pu (aB y3 7) h) fun y5 h=>
 ae (aR y5 h) fun y6 h=>
 ae (C 133 [y4,y6] h) fun _y7 h=>
 ae (some (x0,h)) fun y8 h=>
 ae (pu (aB y3 8) h) fun y9 h=>
 ae (aR y9 h) fun y10 h=>
 ae (C 133 [y8,y10] h) fun _y11 h=>
 ae (some (x0,h)) fun y12 h=>
 ae (pu (aB y3 9) h) fun y13 h=>
 ae (aR y13 h) fun y14 h=>
 ae (cvI .u32 y14 h) fun y15 h=>
 ae (C 51 [y12,y15] h) fun _y16 h=>
 ae (some (x0,h)) fun y17 h=>
 ae (pu (aB y3 10) h) fun y18 h=>
 ae (pu (cP 32 1 y18 none none none) h) fun y19 h=>
 ae (C 52 [y17,y19] h) fun _y20 h=>
 some (.tuple #[],h)
theorem t113_eq (C:av) (x0 x1:Value) (h:ai):bc Tryz.prog C Tryz.f113 [x0,x1] h=t113 C x0 x1 h:=
 (aE Tryz.prog C Tryz.f113 [x0,x1] h (by kernel_rfl)).trans (by kernel_rfl)
noncomputable def t114 (C:av) (x0 x1:Value) (h:ai):Out:=
 ae (some ((.bool false),h)) fun _y4 h=>
 ae (some (x1,h)) fun y5 h=>
 ae (some (x1,h)) fun y6 h=>
 ae (some (x0,h)) fun y7 h=>
 ae (C 135 [y7] h) fun y8 h=>
 ae (some (x0,h)) fun y9 h=>
 ae (C 135 [y9] h) fun y10 h=>
 ae (pu (aN y5) h) fun y11 h=>
 ae (pu (aB y11 7) h) fun y12 h=>
 ae (cA 1 y12 y8 h) fun _ h=>
 ae (pu (aN y6) h) fun y13 h=>
 ae (pu (aB y13 8) h) fun y14 h=>
 ae (cA 1 y14 y10 h) fun _ h=>
 ae (some (x1,h)) fun y15 h=>
 ae (some (x0,h)) fun y16 h=>
 ae (C 33 [y16] h) fun y17 h=>
 ae (cvI .i64 y17 h) fun y18 h=>
 ae (pu (aN y15) h) fun y19 h=>
 ae (pu (aB y19 9) h) fun y20 h=>
 ae (cA 1 y20 y18 h) fun _ h=>
 ae (some (x1,h)) fun y21 h=>
 ae (some (x0,h)) fun y22 h=>
 ae (C 130 [y22] h) fun y23 h=>
 ae (pu (aN y21) h) fun y24 h=>
 ae (pu (aB y24 10) h) fun y25 h=>
 ae (cA 32 y25 y23 h) fun _ h=>
 ae (some ((.bool true),h)) fun y4_1 h=>
 some (y4_1,h)
theorem t114_eq (C:av) (x0 x1:Value) (h:ai):bc Tryz.prog C Tryz.f114 [x0,x1] h=t114 C x0 x1 h:=
 (aE Tryz.prog C Tryz.f114 [x0,x1] h (by kernel_rfl)).trans (by kernel_rfl)
noncomputable def b116_7 (_C:av) (i:Nat) (e:Env) (h:ai):Out:=if i=0 then (ax Tryz.prog Tryz.f116.results.toList) e h else (fun _ _ _=>none) i e h
noncomputable def t116 (C:av) (x0 x1:Value) (h:ai):Out:=
 ae (box x1 h) fun y3 h=>
 ae (some (x0,h)) fun y8 h=>
 ae (pu (aB y3 7) h) fun y9 h=>
 ae (aR y9 h) fun y10 h=>
 ae (C 133 [y8,y10] h) fun y11 h=>
 ae (some (x0,h)) fun y12 h=>
 ae (pu (aB y3 8) h) fun y13 h=>
 ae (aR y13 h) fun y14 h=>
 ae (C 133 [y12,y14] h) fun y15 h=>
 ae (pu (aB y3 43) h) fun y16 h=>
 ae (aR y16 h) fun y17 h=>
 (match y17 with
 | .bool true=>
 ae (some (x0,h)) fun y18 h=>
 ae (C 50 [y18,(.int .u8 1)] h) fun y19 h=>
 ae (some (x0,h)) fun y22 h=>
 ae (pu (aB y3 42) h) fun y23 h=>
 ae (aR y23 h) fun y24 h=>
 ae (pu (bC y24) h) fun y25 h=>
 ae (cvI .u16 y25 h) fun dj h=>
 ae (C 49 [y22,dj] h) fun dA h=>
 ae (pu (aB y3 42) h) fun y28 h=>
 ae (aR y28 h) fun y29 h=>
 ae (pu (bC y29) h) fun y30 h=>
 ae (some ((.int .i64 0),h)) fun y31 h=>
 ep (iter (aI Tryz.prog C (partOf Tryz.f116 [1,1,1,1,1,1,0,0])) rounds (bu 44 (up (bs [x0,x1]) [(3,y3),(8,y8),(9,y9),(10,y10),(11,y11),(12,y12),(13,y13),(14,y14),(15,y15),(16,y16),(17,y17),(18,y18),(19,y19),(22,y22),(23,y23),(24,y24),(25,y25),(26,dj),(27,dA),(28,y28),(29,y29),(30,y30),(31,y31)])) h) (ax Tryz.prog Tryz.f116.results.toList) (b116_7 C)
 | .bool false=>
 ae (some (x0,h)) fun y20 h=>
 ae (C 50 [y20,(.int .u8 0)] h) fun y21 h=>
 ae (some (x0,h)) fun y22 h=>
 ae (pu (aB y3 42) h) fun y23 h=>
 ae (aR y23 h) fun y24 h=>
 ae (pu (bC y24) h) fun y25 h=>
 ae (cvI .u16 y25 h) fun dj h=>
 ae (C 49 [y22,dj] h) fun dA h=>
 ae (pu (aB y3 42) h) fun y28 h=>
 ae (aR y28 h) fun y29 h=>
 ae (pu (bC y29) h) fun y30 h=>
 ae (some ((.int .i64 0),h)) fun y31 h=>
 ep (iter (aI Tryz.prog C (partOf Tryz.f116 [1,1,1,1,1,1,0,0])) rounds (bu 44 (up (bs [x0,x1]) [(3,y3),(8,y8),(9,y9),(10,y10),(11,y11),(12,y12),(13,y13),(14,y14),(15,y15),(16,y16),(17,y17),(20,y20),(21,y21),(22,y22),(23,y23),(24,y24),(25,y25),(26,dj),(27,dA),(28,y28),(29,y29),(30,y30),(31,y31)])) h) (ax Tryz.prog Tryz.f116.results.toList) (b116_7 C)
 |_=>none)
noncomputable def eU (C:av) (x:Nat→Value) (h:ai):Option (Ex×Env×ai):=
 ae (pu (bin Tryz.prog .lss 3 (x 31) (x 30)) h) fun y32 h=>
 (match y32 with
 | .bool true=>
 ae (pu (bW 39 (x 29) (x 31)) h) fun y33 h=>
 ae (cq 39 y33 h) fun y34 h=>
 ae (eD [(.int .u8 0),(.int .u8 0),(.int .u8 0),(.int .u8 0),(.int .u8 0),(.int .u8 0),(.int .u8 0),(.int .u8 0),(.int .u8 0),(.int .u8 0),(.int .u8 0),(.int .u8 0),(.int .u8 0),(.int .u8 0),(.int .u8 0),(.int .u8 0),(.int .u8 0),(.int .u8 0),(.int .u8 0),(.int .u8 0),(.int .u8 0),(.int .u8 0),(.int .u8 0),(.int .u8 0),(.int .u8 0),(.int .u8 0),(.int .u8 0),(.int .u8 0),(.int .u8 0),(.int .u8 0),(.int .u8 0),(.int .u8 0),(.int .u8 0),(.int .i64 0),(.int .u64 0),(.int .u64 0),(.bool false),(.int .i64 0),(.int .i64 0)] h) fun y5 h=>
 ae (cA 39 y5 y34 h) fun _ h=>
 ae (cq 39 y5 h) fun y36 h=>
 ae (C 139 [y36] h) fun y37 h=>
 ae (some (y37,h)) fun y35 h=>
 ae (pu (aY y35 0) h) fun y38 h=>
 ae (pu (aY y35 1) h) fun y39 h=>
 ae (some (y38,h)) fun y6 h=>
 ae (some (y39,h)) fun y7 h=>
 ae (some ((x 0),h)) fun y40 h=>
 ae (some (y6,h)) fun y41 h=>
 ae (C 52 [y40,y41] h) fun y42 h=>
 ae (pu (bin Tryz.prog .add 3 (x 31) (.int .i64 1)) h) fun y43 h=>
 ae (some (y43,h)) fun y31 h=>
 some (.normal,(bu 44 (up x [(5,y5),(6,y6),(7,y7),(31,y31),(32,y32),(33,y33),(34,y34),(35,y35),(36,y36),(37,y37),(38,y38),(39,y39),(40,y40),(41,y41),(42,y42),(43,y43)])),h)
 | .bool false=>
 some (.exit 0,(bu 44 (up x [(32,y32)])),h)
 |_=>none)
theorem t116_eq (C:av) (x0 x1:Value) (h:ai):bc Tryz.prog C Tryz.f116 [x0,x1] h=t116 C x0 x1 h:=
 (aE Tryz.prog C Tryz.f116 [x0,x1] h (by kernel_rfl)).trans (by kernel_rfl)
theorem t116l116_1111110_eq (C:av) (x:Nat→Value) (h:ai):aI Tryz.prog C (partOf Tryz.f116 [1,1,1,1,1,1,0,0]) (bu 44 x) h=eU C x h:=
 bt (T:=eU C) (fun x h=>by kernel_rfl) x h
noncomputable def k117_4 (C:av) (e:Env) (h:ai):Out:=cw Tryz.prog C (partOf Tryz.f117 [1,1,1,1,1]) e h (ax Tryz.prog Tryz.f117.results.toList) (ax Tryz.prog Tryz.f117.results.toList) (fun _ _ _=>none)
noncomputable def b117_6 (C:av) (i:Nat) (e:Env) (h:ai):Out:=if i=0 then (k117_4 C) e h else (fun _ _ _=>none) i e h
noncomputable def t117 (C:av) (x0 x1:Value) (h:ai):Out:=
 ae (some ((.bool false),h)) fun y4 h=>
 ae (some (x1,h)) fun y8 h=>
 ae (some (x1,h)) fun y9 h=>
 ae (some (x0,h)) fun y10 h=>
 ae (C 135 [y10] h) fun y11 h=>
 ae (some (x0,h)) fun y12 h=>
 ae (C 135 [y12] h) fun y13 h=>
 ae (pu (aN y8) h) fun y14 h=>
 ae (pu (aB y14 7) h) fun y15 h=>
 ae (cA 1 y15 y11 h) fun _ h=>
 ae (pu (aN y9) h) fun y16 h=>
 ae (pu (aB y16 8) h) fun y17 h=>
 ae (cA 1 y17 y13 h) fun _ h=>
 ae (some (x0,h)) fun y18 h=>
 ae (C 73 [y18] h) fun y19 h=>
 ae (some (y19,h)) fun y5 h=>
 ae (some (x1,h)) fun y20 h=>
 ae (some (y5,h)) fun y21 h=>
 ae (pu (bin Tryz.prog .eql 5 y21 (.int .u8 1)) h) fun y22 h=>
 ae (pu (aN y20) h) fun y23 h=>
 ae (pu (aB y23 43) h) fun y24 h=>
 ae (cA 1 y24 y22 h) fun _ h=>
 ae (some (x0,h)) fun y25 h=>
 ae (C 72 [y25] h) fun dj h=>
 ae (some ((.int .u16 0),h)) fun dA h=>
 ep (iter (aI Tryz.prog C (partOf Tryz.f117 [1,1,1,1,0,1,0,0])) rounds (bu 50 (up (bs [x0,x1]) [(4,y4),(5,y5),(8,y8),(9,y9),(10,y10),(11,y11),(12,y12),(13,y13),(14,y14),(15,y15),(16,y16),(17,y17),(18,y18),(19,y19),(20,y20),(21,y21),(22,y22),(23,y23),(24,y24),(25,y25),(26,dj),(27,dA)])) h) (ax Tryz.prog Tryz.f117.results.toList) (b117_6 C)
noncomputable def t117k117_4 (_C:av) (x:Nat→Value) (h:ai):Out:=
 ae (some ((x 5),h)) fun y48 h=>
 ae (pu (bin Tryz.prog .leq 5 y48 (.int .u8 1)) h) fun y49 h=>
 ae (some (y49,h)) fun y4 h=>
 some (y4,h)
noncomputable def eT (C:av) (x:Nat→Value) (h:ai):Option (Ex×Env×ai):=
 ae (pu (bin Tryz.prog .lss 65 (x 27) (x 26)) h) fun y28 h=>
 (match y28 with
 | .bool true=>
 ae (some ((x 0),h)) fun y30 h=>
 ae (C 74 [y30,(.int .i64 53)] h) fun y31 h=>
 ae (C 140 [y31] h) fun y32 h=>
 ae (some (y32,h)) fun y29 h=>
 ae (pu (aY y29 0) h) fun y33 h=>
 ae (pu (aY y29 1) h) fun y34 h=>
 ae (eD [(.int .u8 0),(.int .u8 0),(.int .u8 0),(.int .u8 0),(.int .u8 0),(.int .u8 0),(.int .u8 0),(.int .u8 0),(.int .u8 0),(.int .u8 0),(.int .u8 0),(.int .u8 0),(.int .u8 0),(.int .u8 0),(.int .u8 0),(.int .u8 0),(.int .u8 0),(.int .u8 0),(.int .u8 0),(.int .u8 0),(.int .u8 0),(.int .u8 0),(.int .u8 0),(.int .u8 0),(.int .u8 0),(.int .u8 0),(.int .u8 0),(.int .u8 0),(.int .u8 0),(.int .u8 0),(.int .u8 0),(.int .u8 0),(.int .u8 0),(.int .i64 0),(.int .u64 0),(.int .u64 0),(.bool false),(.int .i64 0),(.int .i64 0)] h) fun y6 h=>
 ae (cA 39 y6 y33 h) fun _ h=>
 ae (some (y34,h)) fun y7 h=>
 ae (some (y7,h)) fun y35 h=>
 ae (pu (bin Tryz.prog .neq 35 y35 (.int .i64 0)) h) fun y36 h=>
 (match y36 with
 | .bool true=>
 ae (some ((.bool false),h)) fun y4 h=>
 some (.ret,(bu 50 (up x [(4,y4),(6,y6),(7,y7),(28,y28),(29,y29),(30,y30),(31,y31),(32,y32),(33,y33),(34,y34),(35,y35),(36,y36)])),h)
 | .bool false=>
 ae (some ((x 1),h)) fun y37 h=>
 ae (some ((x 1),h)) fun y38 h=>
 ae (pu (aN y38) h) fun y39 h=>
 ae (pu (aB y39 42) h) fun y40 h=>
 ae (aR y40 h) fun y41 h=>
 ae (cq 39 y6 h) fun y42 h=>
 ae (bslR 39 (.agg #[(.int .u8 0),(.int .u8 0),(.int .u8 0),(.int .u8 0),(.int .u8 0),(.int .u8 0),(.int .u8 0),(.int .u8 0),(.int .u8 0),(.int .u8 0),(.int .u8 0),(.int .u8 0),(.int .u8 0),(.int .u8 0),(.int .u8 0),(.int .u8 0),(.int .u8 0),(.int .u8 0),(.int .u8 0),(.int .u8 0),(.int .u8 0),(.int .u8 0),(.int .u8 0),(.int .u8 0),(.int .u8 0),(.int .u8 0),(.int .u8 0),(.int .u8 0),(.int .u8 0),(.int .u8 0),(.int .u8 0),(.int .u8 0),(.int .u8 0),(.int .i64 0),(.int .u64 0),(.int .u64 0),(.bool false),(.int .i64 0),(.int .i64 0)]) 1 [(0,y42)] h) fun y43 h=>
 ae (bq 39 88 y41 y43 h) fun y44 h=>
 ae (pu (aN y37) h) fun y45 h=>
 ae (pu (aB y45 42) h) fun y46 h=>
 ae (cA 1 y46 y44 h) fun _ h=>
 ae (pu (bin Tryz.prog .add 65 (x 27) (.int .u16 1)) h) fun y47 h=>
 ae (some (y47,h)) fun dA h=>
 some (.normal,(bu 50 (up x [(6,y6),(7,y7),(27,dA),(28,y28),(29,y29),(30,y30),(31,y31),(32,y32),(33,y33),(34,y34),(35,y35),(36,y36),(37,y37),(38,y38),(39,y39),(40,y40),(41,y41),(42,y42),(43,y43),(44,y44),(45,y45),(46,y46),(47,y47)])),h)
 |_=>none)
 | .bool false=>
 some (.exit 0,(bu 50 (up x [(28,y28)])),h)
 |_=>none)
theorem t117_eq (C:av) (x0 x1:Value) (h:ai):bc Tryz.prog C Tryz.f117 [x0,x1] h=t117 C x0 x1 h:=
 (aE Tryz.prog C Tryz.f117 [x0,x1] h (by kernel_rfl)).trans (by kernel_rfl)
theorem t117k117_4_eq (C:av) (x:Nat→Value) (h:ai):k117_4 C (bu 50 x) h=t117k117_4 C x h:=
 bM (b:=(partOf Tryz.f117 [1,1,1,1,1])) (kE:=(ax Tryz.prog Tryz.f117.results.toList)) (rE:=(ax Tryz.prog Tryz.f117.results.toList)) (xE:=(fun _ _ _=>none)) (T:=t117k117_4 C) (fun x h=>by kernel_rfl) x h
theorem t117l117_1111010_eq (C:av) (x:Nat→Value) (h:ai):aI Tryz.prog C (partOf Tryz.f117 [1,1,1,1,0,1,0,0]) (bu 50 x) h=eT C x h:=
 bt (T:=eT C) (fun x h=>by kernel_rfl) x h
noncomputable def t120 (C:av) (x0 x1:Value) (h:ai):Out:=
 ae (box x1 h) fun y3 h=>
 ae (some (x0,h)) fun y4 h=>
 ae (pu (aB y3 44) h) fun y5 h=>
 ae (pu (cP 32 1 y5 none none none) h) fun y6 h=>
 ae (C 52 [y4,y6] h) fun _y7 h=>
 ae (some (x0,h)) fun y8 h=>
 ae (pu (aB y3 115) h) fun y9 h=>
 ae (aR y9 h) fun y10 h=>
 ae (cvI .u16 y10 h) fun y11 h=>
 ae (C 49 [y8,y11] h) fun _y12 h=>
 some (.tuple #[],h)
theorem t120_eq (C:av) (x0 x1:Value) (h:ai):bc Tryz.prog C Tryz.f120 [x0,x1] h=t120 C x0 x1 h:=
 (aE Tryz.prog C Tryz.f120 [x0,x1] h (by kernel_rfl)).trans (by kernel_rfl)
noncomputable def t121 (C:av) (x0 x1:Value) (h:ai):Out:=
 ae (some ((.bool false),h)) fun _y4 h=>
 ae (some (x1,h)) fun y5 h=>
 ae (some (x0,h)) fun y6 h=>
 ae (C 130 [y6] h) fun y7 h=>
 ae (pu (aN y5) h) fun y8 h=>
 ae (pu (aB y8 44) h) fun y9 h=>
 ae (cA 32 y9 y7 h) fun _ h=>
 ae (some (x1,h)) fun y10 h=>
 ae (some (x0,h)) fun y11 h=>
 ae (C 72 [y11] h) fun y12 h=>
 ae (cvI .i64 y12 h) fun y13 h=>
 ae (pu (aN y10) h) fun y14 h=>
 ae (pu (aB y14 115) h) fun y15 h=>
 ae (cA 1 y15 y13 h) fun _ h=>
 ae (some ((.bool true),h)) fun y4_1 h=>
 some (y4_1,h)
theorem t121_eq (C:av) (x0 x1:Value) (h:ai):bc Tryz.prog C Tryz.f121 [x0,x1] h=t121 C x0 x1 h:=
 (aE Tryz.prog C Tryz.f121 [x0,x1] h (by kernel_rfl)).trans (by kernel_rfl)
noncomputable def b127_2 (_C:av) (i:Nat) (e:Env) (h:ai):Out:=if i=0 then (ax Tryz.prog Tryz.f127.results.toList) e h else (fun _ _ _=>none) i e h
noncomputable def t127 (C:av) (x0 x1:Value) (h:ai):Out:=
 ae (some (x0,h)) fun y6 h=>
 ae (some (x1,h)) fun y7 h=>
 ae (pu (bC y7) h) fun y8 h=>
 ae (cvI .u8 y8 h) fun y9 h=>
 ae (C 50 [y6,y9] h) fun y10 h=>
 ae (some (x1,h)) fun y11 h=>
 ae (pu (bC y11) h) fun y12 h=>
 ae (some ((.int .i64 0),h)) fun y13 h=>
 ep (iter (aI Tryz.prog C (partOf Tryz.f127 [1,1,0,0])) rounds (bu 26 (up (bs [x0,x1]) [(6,y6),(7,y7),(8,y8),(9,y9),(10,y10),(11,y11),(12,y12),(13,y13)])) h) (ax Tryz.prog Tryz.f127.results.toList) (b127_2 C)
noncomputable def t127l127_110 (C:av) (x:Nat→Value) (h:ai):Option (Ex×Env×ai):=
 ae (pu (bin Tryz.prog .lss 3 (x 13) (x 12)) h) fun y14 h=>
 (match y14 with
 | .bool true=>
 ae (pu (bW 2 (x 11) (x 13)) h) fun y15 h=>
 ae (cq 2 y15 h) fun y16 h=>
 ae (eD [(.int .u64 0),(.int .u8 0)] h) fun y5 h=>
 ae (cA 2 y5 y16 h) fun _ h=>
 ae (some ((x 0),h)) fun y17 h=>
 ae (pu (aB y5 0) h) fun y18 h=>
 ae (aR y18 h) fun y19 h=>
 ae (C 126 [y17,y19] h) fun y20 h=>
 ae (some ((x 0),h)) fun y21 h=>
 ae (pu (aB y5 1) h) fun y22 h=>
 ae (aR y22 h) fun y23 h=>
 ae (C 50 [y21,y23] h) fun y24 h=>
 ae (pu (bin Tryz.prog .add 3 (x 13) (.int .i64 1)) h) fun y25 h=>
 ae (some (y25,h)) fun y13 h=>
 some (.normal,(bu 26 (up x [(5,y5),(13,y13),(14,y14),(15,y15),(16,y16),(17,y17),(18,y18),(19,y19),(20,y20),(21,y21),(22,y22),(23,y23),(24,y24),(25,y25)])),h)
 | .bool false=>
 some (.exit 0,(bu 26 (up x [(14,y14)])),h)
 |_=>none)
theorem t127_eq (C:av) (x0 x1:Value) (h:ai):bc Tryz.prog C Tryz.f127 [x0,x1] h=t127 C x0 x1 h:=
 (aE Tryz.prog C Tryz.f127 [x0,x1] h (by kernel_rfl)).trans (by kernel_rfl)
theorem t127l127_110_eq (C:av) (x:Nat→Value) (h:ai):aI Tryz.prog C (partOf Tryz.f127 [1,1,0,0]) (bu 26 x) h=t127l127_110 C x h:=
 bt (T:=t127l127_110 C) (fun x h=>by kernel_rfl) x h
noncomputable def k129_1 (C:av) (e:Env) (h:ai):Out:=cw Tryz.prog C (partOf Tryz.f129 [1,1]) e h (ax Tryz.prog Tryz.f129.results.toList) (ax Tryz.prog Tryz.f129.results.toList) (fun _ _ _=>none)
noncomputable def b129_3 (C:av) (i:Nat) (e:Env) (h:ai):Out:=if i=0 then (k129_1 C) e h else (fun _ _ _=>none) i e h
noncomputable def t129 (C:av) (x0:Value) (h:ai):Out:=
 ae (some ((.slice none 0 0),h)) fun y2 h=>
 ae (some (x0,h)) fun y4 h=>
 ae (C 73 [y4] h) fun y5 h=>
 ae (some ((.int .u8 0),h)) fun y6 h=>
 ep (iter (aI Tryz.prog C (partOf Tryz.f129 [1,0,1,0,0])) rounds (bu 19 (up (bs [x0]) [(2,y2),(4,y4),(5,y5),(6,y6)])) h) (ax Tryz.prog Tryz.f129.results.toList) (b129_3 C)
noncomputable def t129k129_1 (_C:av) (x:Nat→Value) (h:ai):Out:=
 ae (some ((x 2),h)) fun y18 h=>
 ae (some (y18,h)) fun y2 h=>
 some (y2,h)
noncomputable def t129l129_1010 (C:av) (x:Nat→Value) (h:ai):Option (Ex×Env×ai):=
 ae (pu (bin Tryz.prog .lss 5 (x 6) (x 5)) h) fun y7 h=>
 (match y7 with
 | .bool true=>
 ae (some ((x 0),h)) fun y8 h=>
 ae (C 128 [y8] h) fun y9 h=>
 ae (some (y9,h)) fun y3 h=>
 ae (some ((x 2),h)) fun y10 h=>
 ae (some (y3,h)) fun y11 h=>
 ae (some ((x 0),h)) fun y12 h=>
 ae (C 73 [y12] h) fun y13 h=>
 ae (pu (cQ [(.int .u64 0),(.int .u8 0)] [(0,1,y11),(1,1,y13)]) h) fun y14 h=>
 ae (bslR 2 (.agg #[(.int .u64 0),(.int .u8 0)]) 1 [(0,y14)] h) fun y15 h=>
 ae (bq 2 16 y10 y15 h) fun y16 h=>
 ae (some (y16,h)) fun y2 h=>
 ae (pu (bin Tryz.prog .add 5 (x 6) (.int .u8 1)) h) fun y17 h=>
 ae (some (y17,h)) fun y6 h=>
 some (.normal,(bu 19 (up x [(2,y2),(3,y3),(6,y6),(7,y7),(8,y8),(9,y9),(10,y10),(11,y11),(12,y12),(13,y13),(14,y14),(15,y15),(16,y16),(17,y17)])),h)
 | .bool false=>
 some (.exit 0,(bu 19 (up x [(7,y7)])),h)
 |_=>none)
theorem t129_eq (C:av) (x0:Value) (h:ai):bc Tryz.prog C Tryz.f129 [x0] h=t129 C x0 h:=
 (aE Tryz.prog C Tryz.f129 [x0] h (by kernel_rfl)).trans (by kernel_rfl)
theorem t129k129_1_eq (C:av) (x:Nat→Value) (h:ai):k129_1 C (bu 19 x) h=t129k129_1 C x h:=
 bM (b:=(partOf Tryz.f129 [1,1])) (kE:=(ax Tryz.prog Tryz.f129.results.toList)) (rE:=(ax Tryz.prog Tryz.f129.results.toList)) (xE:=(fun _ _ _=>none)) (T:=t129k129_1 C) (fun x h=>by kernel_rfl) x h
theorem t129l129_1010_eq (C:av) (x:Nat→Value) (h:ai):aI Tryz.prog C (partOf Tryz.f129 [1,0,1,0,0]) (bu 19 x) h=t129l129_1010 C x h:=
 bt (T:=t129l129_1010 C) (fun x h=>by kernel_rfl) x h
noncomputable def t130 (C:av) (x0:Value) (h:ai):Out:=
 ae (eD (List.replicate 32 (.int .u8 0)) h) fun y2 h=>
 ae (pu (cP 32 1 y2 none none none) h) fun y3 h=>
 ae (some (x0,h)) fun y4 h=>
 ae (C 74 [y4,(.int .i64 32)] h) fun y5 h=>
 ae (copyA 1 y3 y5 h) fun y6 h=>
 ae (cq 32 y2 h) fun y7 h=>
 ae (cA 32 y2 y7 h) fun _ h=>
 ax Tryz.prog Tryz.f130.results.toList (bu 8 (up (bs [x0]) [(2,y2),(3,y3),(4,y4),(5,y5),(6,y6),(7,y7)])) h
theorem t130_eq (C:av) (x0:Value) (h:ai):bc Tryz.prog C Tryz.f130 [x0] h=t130 C x0 h:=
 (aE Tryz.prog C Tryz.f130 [x0] h (by kernel_rfl)).trans (by kernel_rfl)
noncomputable def k132_12 (C:av) (e:Env) (h:ai):Out:=cw Tryz.prog C (partOf Tryz.f132 [1,1,1,1,1,1,1,1,1,1]) e h (ax Tryz.prog Tryz.f132.results.toList) (ax Tryz.prog Tryz.f132.results.toList) (fun _ _ _=>none)
noncomputable def b132_14 (C:av) (i:Nat) (e:Env) (h:ai):Out:=if i=0 then (k132_12 C) e h else (fun _ _ _=>none) i e h
noncomputable def t132 (C:av) (x0:Value) (h:ai):Out:=
 ae (box x0 h) fun y1 h=>
 ae (some ((.slice none 0 0),h)) fun y2 h=>
 ae (some ((.int .i64 0),h)) fun y3 h=>
 ae (cq 37 y1 h) fun y8 h=>
 ae (C 131 [y8] h) fun y9 h=>
 ae (some (y9,h)) fun y4 h=>
 ae (some (y4,h)) fun y10 h=>
 ae (pu (bin Tryz.prog .neq 35 y10 (.int .i64 0)) h) fun y11 h=>
 (match y11 with
 | .bool true=>
 ae (some (y4,h)) fun y12 h=>
 ae (some ((.slice none 0 0),h)) fun y2_1 h=>
 ae (some (y12,h)) fun y3_1 h=>
 some (.tuple #[y2_1,y3_1],h)
 | .bool false=>
 ae (pu (aB y1 2) h) fun y13 h=>
 ae (aR y13 h) fun y14 h=>
 ae (pu (bin Tryz.prog .mul 3 (.int .i64 32) y14) h) fun y15 h=>
 ae (pu (bin Tryz.prog .add 3 (.int .i64 39) y15) h) fun y16 h=>
 ae (C 47 [y16] h) fun y17 h=>
 ae (some (y17,h)) fun y5 h=>
 ae (some (y5,h)) fun y18 h=>
 ae (C 49 [y18,(.int .u16 19713)] h) fun y19 h=>
 ae (some (y5,h)) fun y20 h=>
 ae (pu (aB y1 0) h) fun y21 h=>
 ae (aR y21 h) fun y22 h=>
 ae (cvI .u8 y22 h) fun y23 h=>
 ae (C 50 [y20,y23] h) fun y24 h=>
 ae (some (y5,h)) fun y25 h=>
 ae (pu (aB y1 1) h) fun dj h=>
 ae (aR dj h) fun dA h=>
 ae (cvI .u8 dA h) fun y28 h=>
 ae (C 50 [y25,y28] h) fun y29 h=>
 ae (some (y5,h)) fun y30 h=>
 ae (pu (aB y1 2) h) fun y31 h=>
 ae (aR y31 h) fun y32 h=>
 ae (cvI .u8 y32 h) fun y33 h=>
 ae (C 50 [y30,y33] h) fun y34 h=>
 ae (some (y5,h)) fun y35 h=>
 ae (pu (aB y1 3) h) fun y36 h=>
 ae (aR y36 h) fun y37 h=>
 ae (cvI .u16 y37 h) fun y38 h=>
 ae (C 49 [y35,y38] h) fun y39 h=>
 ae (some (y5,h)) fun y40 h=>
 ae (pu (aB y1 4) h) fun y41 h=>
 ae (pu (cP 32 1 y41 none none none) h) fun y42 h=>
 ae (C 52 [y40,y42] h) fun y43 h=>
 ae (pu (aB y1 36) h) fun y44 h=>
 ae (aR y44 h) fun y45 h=>
 ae (pu (bC y45) h) fun y46 h=>
 ae (some ((.int .i64 0),h)) fun y47 h=>
 ep (iter (aI Tryz.prog C (partOf Tryz.f132 [1,1,1,1,1,1,1,1,1,0,1,0,0])) rounds (bu 59 (up (bs [x0]) [(1,y1),(2,y2),(3,y3),(4,y4),(5,y5),(8,y8),(9,y9),(10,y10),(11,y11),(13,y13),(14,y14),(15,y15),(16,y16),(17,y17),(18,y18),(19,y19),(20,y20),(21,y21),(22,y22),(23,y23),(24,y24),(25,y25),(26,dj),(27,dA),(28,y28),(29,y29),(30,y30),(31,y31),(32,y32),(33,y33),(34,y34),(35,y35),(36,y36),(37,y37),(38,y38),(39,y39),(40,y40),(41,y41),(42,y42),(43,y43),(44,y44),(45,y45),(46,y46),(47,y47)])) h) (ax Tryz.prog Tryz.f132.results.toList) (b132_14 C)
 |_=>none)
noncomputable def t132k132_12 (C:av) (x:Nat→Value) (h:ai):Out:=
 ae (some ((x 5),h)) fun y55 h=>
 ae (C 48 [y55] h) fun y56 h=>
 ae (pu (aY y56 0) h) fun y57 h=>
 ae (pu (aY y56 1) h) fun y58 h=>
 ae (some (y57,h)) fun y2 h=>
 ae (some (y58,h)) fun y3 h=>
 some (.tuple #[y2,y3],h)
noncomputable def dq (C:av) (x:Nat→Value) (h:ai):Option (Ex×Env×ai):=
 ae (pu (bin Tryz.prog .lss 3 (x 47) (x 46)) h) fun y48 h=>
 (match y48 with
 | .bool true=>
 ae (pu (bW 32 (x 45) (x 47)) h) fun y49 h=>
 ae (cq 32 y49 h) fun y50 h=>
 ae (eD (List.replicate 32 (.int .u8 0)) h) fun y7 h=>
 ae (cA 32 y7 y50 h) fun _ h=>
 ae (some ((x 5),h)) fun y51 h=>
 ae (pu (cP 32 1 y7 none none none) h) fun y52 h=>
 ae (C 52 [y51,y52] h) fun y53 h=>
 ae (pu (bin Tryz.prog .add 3 (x 47) (.int .i64 1)) h) fun y54 h=>
 ae (some (y54,h)) fun y47 h=>
 some (.normal,(bu 59 (up x [(7,y7),(47,y47),(48,y48),(49,y49),(50,y50),(51,y51),(52,y52),(53,y53),(54,y54)])),h)
 | .bool false=>
 some (.exit 0,(bu 59 (up x [(48,y48)])),h)
 |_=>none)
theorem t132_eq (C:av) (x0:Value) (h:ai):bc Tryz.prog C Tryz.f132 [x0] h=t132 C x0 h:=
 (aE Tryz.prog C Tryz.f132 [x0] h (by kernel_rfl)).trans (by kernel_rfl)
theorem t132k132_12_eq (C:av) (x:Nat→Value) (h:ai):k132_12 C (bu 59 x) h=t132k132_12 C x h:=
 bM (b:=(partOf Tryz.f132 [1,1,1,1,1,1,1,1,1,1])) (kE:=(ax Tryz.prog Tryz.f132.results.toList)) (rE:=(ax Tryz.prog Tryz.f132.results.toList)) (xE:=(fun _ _ _=>none)) (T:=t132k132_12 C) (fun x h=>by kernel_rfl) x h
theorem t132l132_111111111010_eq (C:av) (x:Nat→Value) (h:ai):aI Tryz.prog C (partOf Tryz.f132 [1,1,1,1,1,1,1,1,1,0,1,0,0]) (bu 59 x) h=dq C x h:=
 bt (T:=dq C) (fun x h=>by kernel_rfl) x h
noncomputable def k134_15 (C:av) (e:Env) (h:ai):Out:=cw Tryz.prog C (partOf Tryz.f134 [1,1,1,1,1,1,1,1,1]) e h (ax Tryz.prog Tryz.f134.results.toList) (ax Tryz.prog Tryz.f134.results.toList) (fun _ _ _=>none)
noncomputable def b134_17 (C:av) (i:Nat) (e:Env) (h:ai):Out:=if i=0 then (k134_15 C) e h else (fun _ _ _=>none) i e h
noncomputable def t134 (C:av) (x0:Value) (h:ai):Out:=
 ae (eD [(.int .i64 0),(.int .i64 0),(.int .i64 0),(.int .i64 0),(.int .u8 0),(.int .u8 0),(.int .u8 0),(.int .u8 0),(.int .u8 0),(.int .u8 0),(.int .u8 0),(.int .u8 0),(.int .u8 0),(.int .u8 0),(.int .u8 0),(.int .u8 0),(.int .u8 0),(.int .u8 0),(.int .u8 0),(.int .u8 0),(.int .u8 0),(.int .u8 0),(.int .u8 0),(.int .u8 0),(.int .u8 0),(.int .u8 0),(.int .u8 0),(.int .u8 0),(.int .u8 0),(.int .u8 0),(.int .u8 0),(.int .u8 0),(.int .u8 0),(.int .u8 0),(.int .u8 0),(.int .u8 0),(.slice none 0 0)] h) fun y2 h=>
 ae (some ((.int .i64 0),h)) fun y3 h=>
 ae (some (x0,h)) fun y9 h=>
 ae (C 32 [y9] h) fun y10 h=>
 ae (some (y10,h)) fun y4 h=>
 ae (some (y4,h)) fun y11 h=>
 ae (C 72 [y11] h) fun y12 h=>
 ae (some (y12,h)) fun y5 h=>
 ae (some (y4,h)) fun y13 h=>
 ae (C 73 [y13] h) fun y14 h=>
 ae (cvI .i64 y14 h) fun y15 h=>
 ae (some (y4,h)) fun y16 h=>
 ae (C 73 [y16] h) fun y17 h=>
 ae (cvI .i64 y17 h) fun y18 h=>
 ae (some (y4,h)) fun y19 h=>
 ae (C 73 [y19] h) fun y20 h=>
 ae (cvI .i64 y20 h) fun y21 h=>
 ae (some (y4,h)) fun y22 h=>
 ae (C 72 [y22] h) fun y23 h=>
 ae (cvI .i64 y23 h) fun y24 h=>
 ae (pu (cQ [(.int .i64 0),(.int .i64 0),(.int .i64 0),(.int .i64 0),(.int .u8 0),(.int .u8 0),(.int .u8 0),(.int .u8 0),(.int .u8 0),(.int .u8 0),(.int .u8 0),(.int .u8 0),(.int .u8 0),(.int .u8 0),(.int .u8 0),(.int .u8 0),(.int .u8 0),(.int .u8 0),(.int .u8 0),(.int .u8 0),(.int .u8 0),(.int .u8 0),(.int .u8 0),(.int .u8 0),(.int .u8 0),(.int .u8 0),(.int .u8 0),(.int .u8 0),(.int .u8 0),(.int .u8 0),(.int .u8 0),(.int .u8 0),(.int .u8 0),(.int .u8 0),(.int .u8 0),(.int .u8 0),(.slice none 0 0)] [(0,1,y15),(1,1,y18),(2,1,y21),(3,1,y24)]) h) fun y25 h=>
 ae (eD [(.int .i64 0),(.int .i64 0),(.int .i64 0),(.int .i64 0),(.int .u8 0),(.int .u8 0),(.int .u8 0),(.int .u8 0),(.int .u8 0),(.int .u8 0),(.int .u8 0),(.int .u8 0),(.int .u8 0),(.int .u8 0),(.int .u8 0),(.int .u8 0),(.int .u8 0),(.int .u8 0),(.int .u8 0),(.int .u8 0),(.int .u8 0),(.int .u8 0),(.int .u8 0),(.int .u8 0),(.int .u8 0),(.int .u8 0),(.int .u8 0),(.int .u8 0),(.int .u8 0),(.int .u8 0),(.int .u8 0),(.int .u8 0),(.int .u8 0),(.int .u8 0),(.int .u8 0),(.int .u8 0),(.slice none 0 0)] h) fun y6 h=>
 ae (cA 37 y6 y25 h) fun _ h=>
 ae (some (y4,h)) fun dj h=>
 ae (C 75 [dj] h) fun dA h=>
 ae (some (dA,h)) fun y7 h=>
 ae (some (y7,h)) fun y28 h=>
 ae (pu (bin Tryz.prog .neq 35 y28 (.int .i64 0)) h) fun y29 h=>
 (match y29 with
 | .bool true=>
 ae (pu (cQ [(.int .i64 0),(.int .i64 0),(.int .i64 0),(.int .i64 0),(.int .u8 0),(.int .u8 0),(.int .u8 0),(.int .u8 0),(.int .u8 0),(.int .u8 0),(.int .u8 0),(.int .u8 0),(.int .u8 0),(.int .u8 0),(.int .u8 0),(.int .u8 0),(.int .u8 0),(.int .u8 0),(.int .u8 0),(.int .u8 0),(.int .u8 0),(.int .u8 0),(.int .u8 0),(.int .u8 0),(.int .u8 0),(.int .u8 0),(.int .u8 0),(.int .u8 0),(.int .u8 0),(.int .u8 0),(.int .u8 0),(.int .u8 0),(.int .u8 0),(.int .u8 0),(.int .u8 0),(.int .u8 0),(.slice none 0 0)] []) h) fun y30 h=>
 ae (some (y7,h)) fun y31 h=>
 ae (cA 37 y2 y30 h) fun _ h=>
 ae (some (y31,h)) fun y3_1 h=>
 ax Tryz.prog Tryz.f134.results.toList (bu 71 (up (bs [x0]) [(2,y2),(3,y3_1),(4,y4),(5,y5),(6,y6),(7,y7),(9,y9),(10,y10),(11,y11),(12,y12),(13,y13),(14,y14),(15,y15),(16,y16),(17,y17),(18,y18),(19,y19),(20,y20),(21,y21),(22,y22),(23,y23),(24,y24),(25,y25),(26,dj),(27,dA),(28,y28),(29,y29),(30,y30),(31,y31)])) h
 | .bool false=>
 ae (some (y5,h)) fun y32 h=>
 ae (pu (bin Tryz.prog .neq 65 y32 (.int .u16 19713)) h) fun y33 h=>
 (match y33 with
 | .bool true=>
 ae (pu (cQ [(.int .i64 0),(.int .i64 0),(.int .i64 0),(.int .i64 0),(.int .u8 0),(.int .u8 0),(.int .u8 0),(.int .u8 0),(.int .u8 0),(.int .u8 0),(.int .u8 0),(.int .u8 0),(.int .u8 0),(.int .u8 0),(.int .u8 0),(.int .u8 0),(.int .u8 0),(.int .u8 0),(.int .u8 0),(.int .u8 0),(.int .u8 0),(.int .u8 0),(.int .u8 0),(.int .u8 0),(.int .u8 0),(.int .u8 0),(.int .u8 0),(.int .u8 0),(.int .u8 0),(.int .u8 0),(.int .u8 0),(.int .u8 0),(.int .u8 0),(.int .u8 0),(.int .u8 0),(.int .u8 0),(.slice none 0 0)] []) h) fun y34 h=>
 ae (cA 37 y2 y34 h) fun _ h=>
 ae (some ((.int .i64 5),h)) fun y3_1 h=>
 ax Tryz.prog Tryz.f134.results.toList (bu 71 (up (bs [x0]) [(2,y2),(3,y3_1),(4,y4),(5,y5),(6,y6),(7,y7),(9,y9),(10,y10),(11,y11),(12,y12),(13,y13),(14,y14),(15,y15),(16,y16),(17,y17),(18,y18),(19,y19),(20,y20),(21,y21),(22,y22),(23,y23),(24,y24),(25,y25),(26,dj),(27,dA),(28,y28),(29,y29),(32,y32),(33,y33),(34,y34)])) h
 | .bool false=>
 ae (pu (aB y6 0) h) fun y35 h=>
 ae (aR y35 h) fun y36 h=>
 ae (pu (aB y6 1) h) fun y37 h=>
 ae (aR y37 h) fun y38 h=>
 ae (pu (aB y6 2) h) fun y39 h=>
 ae (aR y39 h) fun y40 h=>
 ae (C 148 [y36,y38,y40] h) fun y41 h=>
 ae (pu (unA .not y41) h) fun y42 h=>
 ae (some (y42,h)) fun y43 h=>
 ae (aq (aM y43==some false) (pu (aB y6 3) h) h) fun y44 h=>
 ae (aq (aM y43==some false) (aR y44 h) h) fun y45 h=>
 ae (aq (aM y43==some false) (pu (bin Tryz.prog .gtr 3 y45 (.int .i64 8192)) h) h) fun y46 h=>
 ae (match y43 with | .bool t=>some (if t then (.bool true) else y46,h)|_=>none) fun y47 h=>
 (match y47 with
 | .bool true=>
 ae (pu (cQ [(.int .i64 0),(.int .i64 0),(.int .i64 0),(.int .i64 0),(.int .u8 0),(.int .u8 0),(.int .u8 0),(.int .u8 0),(.int .u8 0),(.int .u8 0),(.int .u8 0),(.int .u8 0),(.int .u8 0),(.int .u8 0),(.int .u8 0),(.int .u8 0),(.int .u8 0),(.int .u8 0),(.int .u8 0),(.int .u8 0),(.int .u8 0),(.int .u8 0),(.int .u8 0),(.int .u8 0),(.int .u8 0),(.int .u8 0),(.int .u8 0),(.int .u8 0),(.int .u8 0),(.int .u8 0),(.int .u8 0),(.int .u8 0),(.int .u8 0),(.int .u8 0),(.int .u8 0),(.int .u8 0),(.slice none 0 0)] []) h) fun y48 h=>
 ae (cA 37 y2 y48 h) fun _ h=>
 ae (some ((.int .i64 2),h)) fun y3_1 h=>
 ax Tryz.prog Tryz.f134.results.toList (bu 71 (up (bs [x0]) [(2,y2),(3,y3_1),(4,y4),(5,y5),(6,y6),(7,y7),(9,y9),(10,y10),(11,y11),(12,y12),(13,y13),(14,y14),(15,y15),(16,y16),(17,y17),(18,y18),(19,y19),(20,y20),(21,y21),(22,y22),(23,y23),(24,y24),(25,y25),(26,dj),(27,dA),(28,y28),(29,y29),(32,y32),(33,y33),(35,y35),(36,y36),(37,y37),(38,y38),(39,y39),(40,y40),(41,y41),(42,y42),(43,y43),(44,y44),(45,y45),(46,y46),(47,y47),(48,y48)])) h
 | .bool false=>
 ae (some (y4,h)) fun y49 h=>
 ae (C 149 [y49] h) fun y50 h=>
 ae (pu (aB y6 4) h) fun y51 h=>
 ae (cA 32 y51 y50 h) fun _ h=>
 ae (pu (aB y6 2) h) fun y52 h=>
 ae (aR y52 h) fun y53 h=>
 ae (some ((.int .i64 0),h)) fun y54 h=>
 ep (iter (aI Tryz.prog C (partOf Tryz.f134 [1,1,1,1,1,1,1,1,0,1,0,0])) rounds (bu 71 (up (bs [x0]) [(2,y2),(3,y3),(4,y4),(5,y5),(6,y6),(7,y7),(9,y9),(10,y10),(11,y11),(12,y12),(13,y13),(14,y14),(15,y15),(16,y16),(17,y17),(18,y18),(19,y19),(20,y20),(21,y21),(22,y22),(23,y23),(24,y24),(25,y25),(26,dj),(27,dA),(28,y28),(29,y29),(32,y32),(33,y33),(35,y35),(36,y36),(37,y37),(38,y38),(39,y39),(40,y40),(41,y41),(42,y42),(43,y43),(44,y44),(45,y45),(46,y46),(47,y47),(49,y49),(50,y50),(51,y51),(52,y52),(53,y53),(54,y54)])) h) (ax Tryz.prog Tryz.f134.results.toList) (b134_17 C)
 |_=>none)
 |_=>none)
 |_=>none)
noncomputable def t134k134_15 (C:av) (x:Nat→Value) (h:ai):Out:=
 ae (some ((x 4),h)) fun y64 h=>
 ae (C 36 [y64] h) fun y65 h=>
 ae (some (y65,h)) fun y8 h=>
 ae (some (y8,h)) fun y66 h=>
 ae (pu (bin Tryz.prog .neq 35 y66 (.int .i64 0)) h) fun y67 h=>
 (match y67 with
 | .bool true=>
 ae (pu (cQ [(.int .i64 0),(.int .i64 0),(.int .i64 0),(.int .i64 0),(.int .u8 0),(.int .u8 0),(.int .u8 0),(.int .u8 0),(.int .u8 0),(.int .u8 0),(.int .u8 0),(.int .u8 0),(.int .u8 0),(.int .u8 0),(.int .u8 0),(.int .u8 0),(.int .u8 0),(.int .u8 0),(.int .u8 0),(.int .u8 0),(.int .u8 0),(.int .u8 0),(.int .u8 0),(.int .u8 0),(.int .u8 0),(.int .u8 0),(.int .u8 0),(.int .u8 0),(.int .u8 0),(.int .u8 0),(.int .u8 0),(.int .u8 0),(.int .u8 0),(.int .u8 0),(.int .u8 0),(.int .u8 0),(.slice none 0 0)] []) h) fun y68 h=>
 ae (some (y8,h)) fun y69 h=>
 ae (cA 37 (x 2) y68 h) fun _ h=>
 ae (some (y69,h)) fun y3 h=>
 ax Tryz.prog Tryz.f134.results.toList (bu 71 (up x [(3,y3),(8,y8),(64,y64),(65,y65),(66,y66),(67,y67),(68,y68),(69,y69)])) h
 | .bool false=>
 ae (cq 37 (x 6) h) fun y70 h=>
 ae (cA 37 (x 2) y70 h) fun _ h=>
 ae (some ((.int .i64 0),h)) fun y3 h=>
 ax Tryz.prog Tryz.f134.results.toList (bu 71 (up x [(3,y3),(8,y8),(64,y64),(65,y65),(66,y66),(67,y67),(70,y70)])) h
 |_=>none)
noncomputable def du (C:av) (x:Nat→Value) (h:ai):Option (Ex×Env×ai):=
 ae (pu (bin Tryz.prog .lss 3 (x 54) (x 53)) h) fun y55 h=>
 (match y55 with
 | .bool true=>
 let g27_0:=h
 ae (pu (aB (x 6) 36) g27_0) fun y56 g27_1=>
 ae (aR y56 g27_1) fun y57 g27_2=>
 ae (some ((x 4),g27_2)) fun y58 g27_3=>
 ae (C 149 [y58] g27_3) fun y59 g27_4=>
 ae (bslR 32 (.agg (List.replicate 32 (.int .u8 0)).toArray) 1 [(0,y59)] g27_4) fun y60 g27_5=>
 ae (bq 32 32 y57 y60 g27_5) fun y61 g27_6=>
 ae (pu (aB (x 6) 36) g27_6) fun y62 g27_7=>
 ae (cA 1 y62 y61 g27_7) fun _ g27_8=>
 (match (chkR true (aR y56 g27_4) y57&&true) with
 |true=>
 let h:=g27_8
 ae (pu (bin Tryz.prog .add 3 (x 54) (.int .i64 1)) h) fun y63 h=>
 ae (some (y63,h)) fun y54 h=>
 some (.normal,(bu 71 (up x [(54,y54),(55,y55),(56,y56),(57,y57),(58,y58),(59,y59),(60,y60),(61,y61),(62,y62),(63,y63)])),h)
 |false=>none)
 | .bool false=>
 some (.exit 0,(bu 71 (up x [(55,y55)])),h)
 |_=>none)
theorem t134_eq (C:av) (x0:Value) (h:ai):bc Tryz.prog C Tryz.f134 [x0] h=t134 C x0 h:=
 (aE Tryz.prog C Tryz.f134 [x0] h (by kernel_rfl)).trans (by kernel_rfl)
theorem t134k134_15_eq (C:av) (x:Nat→Value) (h:ai):k134_15 C (bu 71 x) h=t134k134_15 C x h:=
 bM (b:=(partOf Tryz.f134 [1,1,1,1,1,1,1,1,1])) (kE:=(ax Tryz.prog Tryz.f134.results.toList)) (rE:=(ax Tryz.prog Tryz.f134.results.toList)) (xE:=(fun _ _ _=>none)) (T:=t134k134_15 C) (fun x h=>by kernel_rfl) x h
theorem t134l134_11111111010_eq (C:av) (x:Nat→Value) (h:ai):aI Tryz.prog C (partOf Tryz.f134 [1,1,1,1,1,1,1,1,0,1,0,0]) (bu 71 x) h=du C x h:=
 bt (T:=du C) (fun x h=>by kernel_rfl) x h
noncomputable def t139 (C:av) (x0:Value) (h:ai):Out:=
 ae (box x0 h) fun y1 h=>
 ae (some ((.slice none 0 0),h)) fun _y2 h=>
 ae (some ((.int .i64 0),h)) fun _y3 h=>
 ae (cq 39 y1 h) fun y7 h=>
 ae (C 138 [y7] h) fun y8 h=>
 ae (pu (unA .not y8) h) fun y9 h=>
 (match y9 with
 | .bool true=>
 ae (some ((.slice none 0 0),h)) fun y2_1 h=>
 ae (some ((.int .i64 2),h)) fun y3_1 h=>
 some (.tuple #[y2_1,y3_1],h)
 | .bool false=>
 ae (C 47 [(.int .i64 53)] h) fun y10 h=>
 ae (some (y10,h)) fun y4 h=>
 ae (some (y4,h)) fun y11 h=>
 ae (pu (aB y1 0) h) fun y12 h=>
 ae (aR y12 h) fun y13 h=>
 ae (C 50 [y11,y13] h) fun _y14 h=>
 ae (some (y4,h)) fun y15 h=>
 ae (pu (aB y1 1) h) fun y16 h=>
 ae (pu (cP 32 1 y16 none none none) h) fun y17 h=>
 ae (C 52 [y15,y17] h) fun _y18 h=>
 ae (some (y4,h)) fun y19 h=>
 ae (pu (aB y1 33) h) fun y20 h=>
 ae (aR y20 h) fun y21 h=>
 ae (cvI .u8 y21 h) fun y22 h=>
 ae (C 50 [y19,y22] h) fun _y23 h=>
 ae (some (y4,h)) fun y24 h=>
 ae (pu (aB y1 34) h) fun y25 h=>
 ae (aR y25 h) fun dj h=>
 ae (C 126 [y24,dj] h) fun _dA h=>
 ae (some (y4,h)) fun y28 h=>
 ae (pu (aB y1 35) h) fun y29 h=>
 ae (aR y29 h) fun y30 h=>
 ae (C 126 [y28,y30] h) fun _y31 h=>
 ae (some (y4,h)) fun y32 h=>
 ae (C 50 [y32,(.int .u8 0)] h) fun _y33 h=>
 ae (some (y4,h)) fun y34 h=>
 ae (pu (aB y1 37) h) fun y35 h=>
 ae (aR y35 h) fun y36 h=>
 ae (cvI .u8 y36 h) fun y37 h=>
 ae (C 50 [y34,y37] h) fun _y38 h=>
 ae (some (y4,h)) fun y39 h=>
 ae (pu (aB y1 38) h) fun y40 h=>
 ae (aR y40 h) fun y41 h=>
 ae (cvI .u8 y41 h) fun y42 h=>
 ae (C 50 [y39,y42] h) fun _y43 h=>
 ae (some (y4,h)) fun y45 h=>
 ae (C 48 [y45] h) fun y46 h=>
 ae (some (y46,h)) fun y44 h=>
 ae (pu (aY y44 0) h) fun y47 h=>
 ae (pu (aY y44 1) h) fun y48 h=>
 ae (some (y47,h)) fun y5 h=>
 ae (some (y48,h)) fun y6 h=>
 ae (pu (aB y1 36) h) fun y49 h=>
 ae (aR y49 h) fun y50 h=>
 (match y50 with
 | .bool true=>
 ae (some (y5,h)) fun y51 h=>
 ae (some (y5,h)) fun y52 h=>
 ae (pu (bC y52) h) fun y53 h=>
 ae (pu (bin Tryz.prog .sub 3 y53 (.int .i64 3)) h) fun y54 h=>
 ae (pu (bW 1 y51 y54) h) fun y55 h=>
 ae (cA 1 y55 (.int .u8 1) h) fun _ h=>
 ae (some (y5,h)) fun y56 h=>
 ae (some (y6,h)) fun y57 h=>
 ae (some (y56,h)) fun y2_1 h=>
 ae (some (y57,h)) fun y3_1 h=>
 some (.tuple #[y2_1,y3_1],h)
 | .bool false=>
 ae (some (y5,h)) fun y56 h=>
 ae (some (y6,h)) fun y57 h=>
 ae (some (y56,h)) fun y2_1 h=>
 ae (some (y57,h)) fun y3_1 h=>
 some (.tuple #[y2_1,y3_1],h)
 |_=>none)
 |_=>none)
theorem t139_eq (C:av) (x0:Value) (h:ai):bc Tryz.prog C Tryz.f139 [x0] h=t139 C x0 h:=
 (aE Tryz.prog C Tryz.f139 [x0] h (by kernel_rfl)).trans (by kernel_rfl)
noncomputable def t140 (C:av) (x0:Value) (h:ai):Out:=
 ae (eD [(.int .u8 0),(.int .u8 0),(.int .u8 0),(.int .u8 0),(.int .u8 0),(.int .u8 0),(.int .u8 0),(.int .u8 0),(.int .u8 0),(.int .u8 0),(.int .u8 0),(.int .u8 0),(.int .u8 0),(.int .u8 0),(.int .u8 0),(.int .u8 0),(.int .u8 0),(.int .u8 0),(.int .u8 0),(.int .u8 0),(.int .u8 0),(.int .u8 0),(.int .u8 0),(.int .u8 0),(.int .u8 0),(.int .u8 0),(.int .u8 0),(.int .u8 0),(.int .u8 0),(.int .u8 0),(.int .u8 0),(.int .u8 0),(.int .u8 0),(.int .i64 0),(.int .u64 0),(.int .u64 0),(.bool false),(.int .i64 0),(.int .i64 0)] h) fun y2 h=>
 ae (some ((.int .i64 0),h)) fun _y3 h=>
 ae (some (x0,h)) fun y8 h=>
 ae (pu (bC y8) h) fun y9 h=>
 ae (pu (bin Tryz.prog .lss 3 y9 (.int .i64 53)) h) fun y10 h=>
 ae (some (y10,h)) fun y7 h=>
 (match y7 with
 | .bool true=>
 ae (pu (cQ [(.int .u8 0),(.int .u8 0),(.int .u8 0),(.int .u8 0),(.int .u8 0),(.int .u8 0),(.int .u8 0),(.int .u8 0),(.int .u8 0),(.int .u8 0),(.int .u8 0),(.int .u8 0),(.int .u8 0),(.int .u8 0),(.int .u8 0),(.int .u8 0),(.int .u8 0),(.int .u8 0),(.int .u8 0),(.int .u8 0),(.int .u8 0),(.int .u8 0),(.int .u8 0),(.int .u8 0),(.int .u8 0),(.int .u8 0),(.int .u8 0),(.int .u8 0),(.int .u8 0),(.int .u8 0),(.int .u8 0),(.int .u8 0),(.int .u8 0),(.int .i64 0),(.int .u64 0),(.int .u64 0),(.bool false),(.int .i64 0),(.int .i64 0)] []) h) fun y11 h=>
 ae (cA 39 y2 y11 h) fun _ h=>
 ae (some ((.int .i64 4),h)) fun y3_1 h=>
 ax Tryz.prog Tryz.f140.results.toList (bu 58 (up (bs [x0]) [(2,y2),(3,y3_1),(7,y7),(8,y8),(9,y9),(10,y10),(11,y11)])) h
 | .bool false=>
 ae (some (x0,h)) fun y13 h=>
 ae (pu (bC y13) h) fun y14 h=>
 ae (pu (bin Tryz.prog .gtr 3 y14 (.int .i64 53)) h) fun y15 h=>
 ae (some (y15,h)) fun y12 h=>
 (match y12 with
 | .bool true=>
 ae (pu (cQ [(.int .u8 0),(.int .u8 0),(.int .u8 0),(.int .u8 0),(.int .u8 0),(.int .u8 0),(.int .u8 0),(.int .u8 0),(.int .u8 0),(.int .u8 0),(.int .u8 0),(.int .u8 0),(.int .u8 0),(.int .u8 0),(.int .u8 0),(.int .u8 0),(.int .u8 0),(.int .u8 0),(.int .u8 0),(.int .u8 0),(.int .u8 0),(.int .u8 0),(.int .u8 0),(.int .u8 0),(.int .u8 0),(.int .u8 0),(.int .u8 0),(.int .u8 0),(.int .u8 0),(.int .u8 0),(.int .u8 0),(.int .u8 0),(.int .u8 0),(.int .i64 0),(.int .u64 0),(.int .u64 0),(.bool false),(.int .i64 0),(.int .i64 0)] []) h) fun y16 h=>
 ae (cA 39 y2 y16 h) fun _ h=>
 ae (some ((.int .i64 3),h)) fun y3_1 h=>
 ax Tryz.prog Tryz.f140.results.toList (bu 58 (up (bs [x0]) [(2,y2),(3,y3_1),(7,y7),(8,y8),(9,y9),(10,y10),(12,y12),(13,y13),(14,y14),(15,y15),(16,y16)])) h
 | .bool false=>
 ae (some (x0,h)) fun y17 h=>
 ae (C 32 [y17] h) fun y18 h=>
 ae (some (y18,h)) fun y4 h=>
 ae (some (y4,h)) fun y19 h=>
 ae (C 73 [y19] h) fun y20 h=>
 ae (pu (cQ [(.int .u8 0),(.int .u8 0),(.int .u8 0),(.int .u8 0),(.int .u8 0),(.int .u8 0),(.int .u8 0),(.int .u8 0),(.int .u8 0),(.int .u8 0),(.int .u8 0),(.int .u8 0),(.int .u8 0),(.int .u8 0),(.int .u8 0),(.int .u8 0),(.int .u8 0),(.int .u8 0),(.int .u8 0),(.int .u8 0),(.int .u8 0),(.int .u8 0),(.int .u8 0),(.int .u8 0),(.int .u8 0),(.int .u8 0),(.int .u8 0),(.int .u8 0),(.int .u8 0),(.int .u8 0),(.int .u8 0),(.int .u8 0),(.int .u8 0),(.int .i64 0),(.int .u64 0),(.int .u64 0),(.bool false),(.int .i64 0),(.int .i64 0)] [(0,1,y20)]) h) fun y21 h=>
 ae (eD [(.int .u8 0),(.int .u8 0),(.int .u8 0),(.int .u8 0),(.int .u8 0),(.int .u8 0),(.int .u8 0),(.int .u8 0),(.int .u8 0),(.int .u8 0),(.int .u8 0),(.int .u8 0),(.int .u8 0),(.int .u8 0),(.int .u8 0),(.int .u8 0),(.int .u8 0),(.int .u8 0),(.int .u8 0),(.int .u8 0),(.int .u8 0),(.int .u8 0),(.int .u8 0),(.int .u8 0),(.int .u8 0),(.int .u8 0),(.int .u8 0),(.int .u8 0),(.int .u8 0),(.int .u8 0),(.int .u8 0),(.int .u8 0),(.int .u8 0),(.int .i64 0),(.int .u64 0),(.int .u64 0),(.bool false),(.int .i64 0),(.int .i64 0)] h) fun y5 h=>
 ae (cA 39 y5 y21 h) fun _ h=>
 ae (pu (aB y5 1) h) fun y22 h=>
 ae (pu (cP 32 1 y22 none none none) h) fun y23 h=>
 ae (some (y4,h)) fun y24 h=>
 ae (C 74 [y24,(.int .i64 32)] h) fun y25 h=>
 ae (copyA 1 y23 y25 h) fun dj h=>
 ae (some (y4,h)) fun dA h=>
 ae (C 73 [dA] h) fun y28 h=>
 ae (cvI .i64 y28 h) fun y29 h=>
 ae (some (y4,h)) fun y30 h=>
 ae (C 128 [y30] h) fun y31 h=>
 ae (some (y4,h)) fun y32 h=>
 ae (C 128 [y32] h) fun y33 h=>
 ae (pu (aB y5 33) h) fun y34 h=>
 ae (cA 1 y34 y29 h) fun _ h=>
 ae (pu (aB y5 34) h) fun y35 h=>
 ae (cA 1 y35 y31 h) fun _ h=>
 ae (pu (aB y5 35) h) fun y36 h=>
 ae (cA 1 y36 y33 h) fun _ h=>
 ae (some (y4,h)) fun y37 h=>
 ae (C 73 [y37] h) fun y38 h=>
 ae (some (y38,h)) fun y6 h=>
 ae (some (y6,h)) fun y39 h=>
 ae (pu (bin Tryz.prog .eql 5 y39 (.int .u8 1)) h) fun y40 h=>
 ae (some (y4,h)) fun y41 h=>
 ae (C 73 [y41] h) fun y42 h=>
 ae (cvI .i64 y42 h) fun y43 h=>
 ae (some (y4,h)) fun y44 h=>
 ae (C 73 [y44] h) fun y45 h=>
 ae (cvI .i64 y45 h) fun y46 h=>
 ae (pu (aB y5 36) h) fun y47 h=>
 ae (cA 1 y47 y40 h) fun _ h=>
 ae (pu (aB y5 37) h) fun y48 h=>
 ae (cA 1 y48 y43 h) fun _ h=>
 ae (pu (aB y5 38) h) fun y49 h=>
 ae (cA 1 y49 y46 h) fun _ h=>
 ae (some (y6,h)) fun y50 h=>
 ae (pu (bin Tryz.prog .gtr 5 y50 (.int .u8 1)) h) fun y51 h=>
 (match y51 with
 | .bool true=>
 ae (pu (cQ [(.int .u8 0),(.int .u8 0),(.int .u8 0),(.int .u8 0),(.int .u8 0),(.int .u8 0),(.int .u8 0),(.int .u8 0),(.int .u8 0),(.int .u8 0),(.int .u8 0),(.int .u8 0),(.int .u8 0),(.int .u8 0),(.int .u8 0),(.int .u8 0),(.int .u8 0),(.int .u8 0),(.int .u8 0),(.int .u8 0),(.int .u8 0),(.int .u8 0),(.int .u8 0),(.int .u8 0),(.int .u8 0),(.int .u8 0),(.int .u8 0),(.int .u8 0),(.int .u8 0),(.int .u8 0),(.int .u8 0),(.int .u8 0),(.int .u8 0),(.int .i64 0),(.int .u64 0),(.int .u64 0),(.bool false),(.int .i64 0),(.int .i64 0)] []) h) fun y52 h=>
 ae (cA 39 y2 y52 h) fun _ h=>
 ae (some ((.int .i64 5),h)) fun y3_1 h=>
 ax Tryz.prog Tryz.f140.results.toList (bu 58 (up (bs [x0]) [(2,y2),(3,y3_1),(4,y4),(5,y5),(6,y6),(7,y7),(8,y8),(9,y9),(10,y10),(12,y12),(13,y13),(14,y14),(15,y15),(17,y17),(18,y18),(19,y19),(20,y20),(21,y21),(22,y22),(23,y23),(24,y24),(25,y25),(26,dj),(27,dA),(28,y28),(29,y29),(30,y30),(31,y31),(32,y32),(33,y33),(34,y34),(35,y35),(36,y36),(37,y37),(38,y38),(39,y39),(40,y40),(41,y41),(42,y42),(43,y43),(44,y44),(45,y45),(46,y46),(47,y47),(48,y48),(49,y49),(50,y50),(51,y51),(52,y52)])) h
 | .bool false=>
 ae (cq 39 y5 h) fun y53 h=>
 ae (C 138 [y53] h) fun y54 h=>
 ae (pu (unA .not y54) h) fun y55 h=>
 (match y55 with
 | .bool true=>
 ae (pu (cQ [(.int .u8 0),(.int .u8 0),(.int .u8 0),(.int .u8 0),(.int .u8 0),(.int .u8 0),(.int .u8 0),(.int .u8 0),(.int .u8 0),(.int .u8 0),(.int .u8 0),(.int .u8 0),(.int .u8 0),(.int .u8 0),(.int .u8 0),(.int .u8 0),(.int .u8 0),(.int .u8 0),(.int .u8 0),(.int .u8 0),(.int .u8 0),(.int .u8 0),(.int .u8 0),(.int .u8 0),(.int .u8 0),(.int .u8 0),(.int .u8 0),(.int .u8 0),(.int .u8 0),(.int .u8 0),(.int .u8 0),(.int .u8 0),(.int .u8 0),(.int .i64 0),(.int .u64 0),(.int .u64 0),(.bool false),(.int .i64 0),(.int .i64 0)] []) h) fun y56 h=>
 ae (cA 39 y2 y56 h) fun _ h=>
 ae (some ((.int .i64 2),h)) fun y3_1 h=>
 ax Tryz.prog Tryz.f140.results.toList (bu 58 (up (bs [x0]) [(2,y2),(3,y3_1),(4,y4),(5,y5),(6,y6),(7,y7),(8,y8),(9,y9),(10,y10),(12,y12),(13,y13),(14,y14),(15,y15),(17,y17),(18,y18),(19,y19),(20,y20),(21,y21),(22,y22),(23,y23),(24,y24),(25,y25),(26,dj),(27,dA),(28,y28),(29,y29),(30,y30),(31,y31),(32,y32),(33,y33),(34,y34),(35,y35),(36,y36),(37,y37),(38,y38),(39,y39),(40,y40),(41,y41),(42,y42),(43,y43),(44,y44),(45,y45),(46,y46),(47,y47),(48,y48),(49,y49),(50,y50),(51,y51),(53,y53),(54,y54),(55,y55),(56,y56)])) h
 | .bool false=>
 ae (cq 39 y5 h) fun y57 h=>
 ae (cA 39 y2 y57 h) fun _ h=>
 ae (some ((.int .i64 0),h)) fun y3_1 h=>
 ax Tryz.prog Tryz.f140.results.toList (bu 58 (up (bs [x0]) [(2,y2),(3,y3_1),(4,y4),(5,y5),(6,y6),(7,y7),(8,y8),(9,y9),(10,y10),(12,y12),(13,y13),(14,y14),(15,y15),(17,y17),(18,y18),(19,y19),(20,y20),(21,y21),(22,y22),(23,y23),(24,y24),(25,y25),(26,dj),(27,dA),(28,y28),(29,y29),(30,y30),(31,y31),(32,y32),(33,y33),(34,y34),(35,y35),(36,y36),(37,y37),(38,y38),(39,y39),(40,y40),(41,y41),(42,y42),(43,y43),(44,y44),(45,y45),(46,y46),(47,y47),(48,y48),(49,y49),(50,y50),(51,y51),(53,y53),(54,y54),(55,y55),(57,y57)])) h
 |_=>none)
 |_=>none)
 |_=>none)
 |_=>none)
theorem t140_eq (C:av) (x0:Value) (h:ai):bc Tryz.prog C Tryz.f140 [x0] h=t140 C x0 h:=
 (aE Tryz.prog C Tryz.f140 [x0] h (by kernel_rfl)).trans (by kernel_rfl)
end Go.Proofs.YtjghlcdidopcpaaGreatDoor

namespace Go.Proofs.YtjghlcdidopcpaaGreatDoor
open Go Go.Abs
noncomputable def k11_5 (C:av) (e:Env) (h:ai):Out:=cw Tryz.prog C (partOf Tryz.f11 [1,1,1,1]) e h (ax Tryz.prog Tryz.f11.results.toList) (ax Tryz.prog Tryz.f11.results.toList) (fun _ _ _=>none)
noncomputable def b11_7 (C:av) (i:Nat) (e:Env) (h:ai):Out:=if i=0 then (k11_5 C) e h else (fun _ _ _=>none) i e h
noncomputable def k11_19 (C:av) (e:Env) (h:ai):Out:=cw Tryz.prog C (partOf Tryz.f11 [1,1,1,1,1,1,1,1,1]) e h (ax Tryz.prog Tryz.f11.results.toList) (ax Tryz.prog Tryz.f11.results.toList) (fun _ _ _=>none)
noncomputable def b11_21 (C:av) (i:Nat) (e:Env) (h:ai):Out:=if i=2 then (k11_19 C) e h else (fun _ _ _=>none) i e h
noncomputable def t11 (C:av) (x0 x1:Value) (h:ai):Out:=
 ae (some ((.bool false),h)) fun y4 h=>
 ae (some (x0,h)) fun y16 h=>
 ae (pu (bC y16) h) fun y17 h=>
 ae (pu (bin Tryz.prog .gtr 3 y17 (.int .i64 12)) h) fun y18 h=>
 (match y18 with
 | .bool true=>
 ae (C 12 [] h) fun y19 h=>
 ae (some (y19,h)) fun y4_1 h=>
 some (y4_1,h)
 | .bool false=>
 ae (bslR 1 (.int .u8 0) 0 [] h) fun y20 h=>
 ae (some (y20,h)) fun y5 h=>
 ae (some ((.int .i64 0),h)) fun y6 h=>
 ep (iter (aI Tryz.prog C (partOf Tryz.f11 [1,1,1,0,1,0,0])) rounds (bu 118 (up (bs [x0,x1]) [(4,y4),(5,y5),(6,y6),(16,y16),(17,y17),(18,y18),(20,y20)])) h) (ax Tryz.prog Tryz.f11.results.toList) (b11_7 C)
 |_=>none)
noncomputable def t11k11_5 (C:av) (x:Nat→Value) (h:ai):Out:=
 ae (some ((x 5),h)) fun y56 h=>
 ae (pu (bC y56) h) fun y57 h=>
 ae (some (y57,h)) fun y9 h=>
 ae (some ((x 0),h)) fun y58 h=>
 ae (pu (bC y58) h) fun y59 h=>
 ae (pu (bin Tryz.prog .gtr 3 y59 (.int .i64 0)) h) fun y60 h=>
 (match y60 with
 | .bool true=>
 ae (some ((x 0),h)) fun y62 h=>
 ae (pu (bW 116 y62 (.int .i64 0)) h) fun y63 h=>
 ae (cq 116 y63 h) fun y64 h=>
 ae (C 20 [y64] h) fun y65 h=>
 ae (C 21 [y65] h) fun y66 h=>
 ae (some (y66,h)) fun y61 h=>
 ae (pu (aY y61 0) h) fun y67 h=>
 ae (pu (aY y61 1) h) fun y68 h=>
 ae (some (y67,h)) fun y10 h=>
 ae (some (y68,h)) fun y11 h=>
 ae (some (y10,h)) fun y69 h=>
 ae (pu (bC y69) h) fun y70 h=>
 ae (pu (bin Tryz.prog .eql 3 y70 (.int .i64 0)) h) fun y71 h=>
 (match y71 with
 | .bool true=>
 ae (some ((.bool false),h)) fun y4 h=>
 some (y4,h)
 | .bool false=>
 ae (some ((x 5),h)) fun y72 h=>
 ae (some (y10,h)) fun y73 h=>
 ae (some ((x 1),h)) fun y74 h=>
 ae (cvI .i64 y74 h) fun y75 h=>
 ae (some (y10,h)) fun y76 h=>
 ae (pu (bC y76) h) fun y77 h=>
 ae (pu (bin Tryz.prog .rem 3 y75 y77) h) fun y78 h=>
 ae (pu (slR 1 y73 none (some y78) none) h) fun y79 h=>
 ae (bq 1 1 y72 y79 h) fun y80 h=>
 ae (some (y80,h)) fun y5 h=>
 ae (some (y5,h)) fun y82 h=>
 ae (C 29 [y82] h) fun y83 h=>
 ae (some (y83,h)) fun y81 h=>
 ae (pu (aY y81 0) h) fun y84 h=>
 ae (pu (aY y81 1) h) fun y85 h=>
 ae (pu (aY y81 2) h) fun y86 h=>
 ae (some (y84,h)) fun y12 h=>
 ae (some (y85,h)) fun y13 h=>
 ae (some (y86,h)) fun y14 h=>
 ae (some (y14,h)) fun y87 h=>
 ae (pu (bin Tryz.prog .neq 35 y87 (.int .i64 0)) h) fun y88 h=>
 ae (some (y88,h)) fun y89 h=>
 ae (aq (aM y89==some false) (some (y13,h)) h) fun y90 h=>
 ae (aq (aM y89==some false) (some (y9,h)) h) fun y91 h=>
 ae (aq (aM y89==some false) (pu (bin Tryz.prog .neq 3 y90 y91) h) h) fun y92 h=>
 ae (match y89 with | .bool t=>some (if t then (.bool true) else y92,h)|_=>none) fun y93 h=>
 ae (some (y93,h)) fun y94 h=>
 ae (aq (aM y94==some false) (some (y12,h)) h) fun y95 h=>
 ae (aq (aM y94==some false) (pu (bC y95) h) h) fun y96 h=>
 ae (aq (aM y94==some false) (some ((x 0),h)) h) fun y97 h=>
 ae (aq (aM y94==some false) (pu (bC y97) h) h) fun y98 h=>
 ae (aq (aM y94==some false) (pu (bin Tryz.prog .neq 3 y96 y98) h) h) fun y99 h=>
 ae (match y94 with | .bool t=>some (if t then (.bool true) else y99,h)|_=>none) fun y100 h=>
 (match y100 with
 | .bool true=>
 ae (some ((.bool false),h)) fun y4 h=>
 some (y4,h)
 | .bool false=>
 ae (some ((.int .i64 0),h)) fun y15 h=>
 ep (iter (aI Tryz.prog C (partOf Tryz.f11 [1,1,1,1,1,1,1,1,0,1,0,0])) rounds (bu 118 (up x [(5,y5),(9,y9),(10,y10),(11,y11),(12,y12),(13,y13),(14,y14),(15,y15),(56,y56),(57,y57),(58,y58),(59,y59),(60,y60),(61,y61),(62,y62),(63,y63),(64,y64),(65,y65),(66,y66),(67,y67),(68,y68),(69,y69),(70,y70),(71,y71),(72,y72),(73,y73),(74,y74),(75,y75),(76,y76),(77,y77),(78,y78),(79,y79),(80,y80),(81,y81),(82,y82),(83,y83),(84,y84),(85,y85),(86,y86),(87,y87),(88,y88),(89,y89),(90,y90),(91,y91),(92,y92),(93,y93),(94,y94),(95,y95),(96,y96),(97,y97),(98,y98),(99,y99),(100,y100)])) h) (ax Tryz.prog Tryz.f11.results.toList) (b11_21 C)
 |_=>none)
 |_=>none)
 | .bool false=>
 ae (some ((x 5),h)) fun y82 h=>
 ae (C 29 [y82] h) fun y83 h=>
 ae (some (y83,h)) fun y81 h=>
 ae (pu (aY y81 0) h) fun y84 h=>
 ae (pu (aY y81 1) h) fun y85 h=>
 ae (pu (aY y81 2) h) fun y86 h=>
 ae (some (y84,h)) fun y12 h=>
 ae (some (y85,h)) fun y13 h=>
 ae (some (y86,h)) fun y14 h=>
 ae (some (y14,h)) fun y87 h=>
 ae (pu (bin Tryz.prog .neq 35 y87 (.int .i64 0)) h) fun y88 h=>
 ae (some (y88,h)) fun y89 h=>
 ae (aq (aM y89==some false) (some (y13,h)) h) fun y90 h=>
 ae (aq (aM y89==some false) (some (y9,h)) h) fun y91 h=>
 ae (aq (aM y89==some false) (pu (bin Tryz.prog .neq 3 y90 y91) h) h) fun y92 h=>
 ae (match y89 with | .bool t=>some (if t then (.bool true) else y92,h)|_=>none) fun y93 h=>
 ae (some (y93,h)) fun y94 h=>
 ae (aq (aM y94==some false) (some (y12,h)) h) fun y95 h=>
 ae (aq (aM y94==some false) (pu (bC y95) h) h) fun y96 h=>
 ae (aq (aM y94==some false) (some ((x 0),h)) h) fun y97 h=>
 ae (aq (aM y94==some false) (pu (bC y97) h) h) fun y98 h=>
 ae (aq (aM y94==some false) (pu (bin Tryz.prog .neq 3 y96 y98) h) h) fun y99 h=>
 ae (match y94 with | .bool t=>some (if t then (.bool true) else y99,h)|_=>none) fun y100 h=>
 (match y100 with
 | .bool true=>
 ae (some ((.bool false),h)) fun y4 h=>
 some (y4,h)
 | .bool false=>
 ae (some ((.int .i64 0),h)) fun y15 h=>
 ep (iter (aI Tryz.prog C (partOf Tryz.f11 [1,1,1,1,1,1,1,1,0,1,0,0])) rounds (bu 118 (up x [(9,y9),(12,y12),(13,y13),(14,y14),(15,y15),(56,y56),(57,y57),(58,y58),(59,y59),(60,y60),(81,y81),(82,y82),(83,y83),(84,y84),(85,y85),(86,y86),(87,y87),(88,y88),(89,y89),(90,y90),(91,y91),(92,y92),(93,y93),(94,y94),(95,y95),(96,y96),(97,y97),(98,y98),(99,y99),(100,y100)])) h) (ax Tryz.prog Tryz.f11.results.toList) (b11_21 C)
 |_=>none)
 |_=>none)
noncomputable def t11l11_111010 (C:av) (x:Nat→Value) (h:ai):Option (Ex×Env×ai):=
 ae (some ((x 6),h)) fun y21 h=>
 ae (some ((x 0),h)) fun y22 h=>
 ae (pu (bC y22) h) fun y23 h=>
 ae (pu (bin Tryz.prog .lss 3 y21 y23) h) fun y24 h=>
 (match y24 with
 | .bool true=>
 ae (some ((x 0),h)) fun dA h=>
 ae (some ((x 6),h)) fun y28 h=>
 ae (pu (bW 116 dA y28) h) fun y29 h=>
 ae (cq 116 y29 h) fun y30 h=>
 ae (C 18 [y30] h) fun y31 h=>
 ae (some (y31,h)) fun y32 h=>
 ae (aq (aM y32==some false) (some ((x 0),h)) h) fun y33 h=>
 ae (aq (aM y32==some false) (some ((x 6),h)) h) fun y34 h=>
 ae (aq (aM y32==some false) (pu (bW 116 y33 y34) h) h) fun y35 h=>
 ae (aq (aM y32==some false) (cq 116 y35 h) h) fun y36 h=>
 ae (aq (aM y32==some false) (C 20 [y36] h) h) fun y37 h=>
 ae (aq (aM y32==some false) (C 19 [y37] h) h) fun y38 h=>
 ae (aq (aM y32==some false) (pu (bin Tryz.prog .neq 35 y38 (.int .i64 0)) h) h) fun y39 h=>
 ae (match y32 with | .bool t=>some (if t then (.bool true) else y39,h)|_=>none) fun y40 h=>
 (match y40 with
 | .bool true=>
 ae (C 12 [] h) fun y41 h=>
 ae (some (y41,h)) fun y4 h=>
 some (.ret,(bu 118 (up x [(4,y4),(21,y21),(22,y22),(23,y23),(24,y24),(27,dA),(28,y28),(29,y29),(30,y30),(31,y31),(32,y32),(33,y33),(34,y34),(35,y35),(36,y36),(37,y37),(38,y38),(39,y39),(40,y40),(41,y41)])),h)
 | .bool false=>
 ae (some ((x 0),h)) fun y43 h=>
 ae (some ((x 6),h)) fun y44 h=>
 ae (pu (bW 116 y43 y44) h) fun y45 h=>
 ae (cq 116 y45 h) fun y46 h=>
 ae (C 20 [y46] h) fun y47 h=>
 ae (C 21 [y47] h) fun y48 h=>
 ae (some (y48,h)) fun y42 h=>
 ae (pu (aY y42 0) h) fun y49 h=>
 ae (pu (aY y42 1) h) fun y50 h=>
 ae (some (y49,h)) fun y7 h=>
 ae (some (y50,h)) fun y8 h=>
 ae (some (y8,h)) fun y51 h=>
 ae (pu (bin Tryz.prog .neq 35 y51 (.int .i64 0)) h) fun y52 h=>
 (match y52 with
 | .bool true=>
 ae (some ((.bool false),h)) fun y4 h=>
 some (.ret,(bu 118 (up x [(4,y4),(7,y7),(8,y8),(21,y21),(22,y22),(23,y23),(24,y24),(27,dA),(28,y28),(29,y29),(30,y30),(31,y31),(32,y32),(33,y33),(34,y34),(35,y35),(36,y36),(37,y37),(38,y38),(39,y39),(40,y40),(42,y42),(43,y43),(44,y44),(45,y45),(46,y46),(47,y47),(48,y48),(49,y49),(50,y50),(51,y51),(52,y52)])),h)
 | .bool false=>
 ae (some ((x 5),h)) fun y53 h=>
 ae (some (y7,h)) fun y54 h=>
 ae (bq 1 1 y53 y54 h) fun y55 h=>
 ae (some (y55,h)) fun y5 h=>
 ae (some ((x 6),h)) fun y25 h=>
 ae (pu (bin Tryz.prog .add 3 y25 (.int .i64 1)) h) fun dj h=>
 ae (some (dj,h)) fun y6 h=>
 some (.normal,(bu 118 (up x [(5,y5),(6,y6),(7,y7),(8,y8),(21,y21),(22,y22),(23,y23),(24,y24),(25,y25),(26,dj),(27,dA),(28,y28),(29,y29),(30,y30),(31,y31),(32,y32),(33,y33),(34,y34),(35,y35),(36,y36),(37,y37),(38,y38),(39,y39),(40,y40),(42,y42),(43,y43),(44,y44),(45,y45),(46,y46),(47,y47),(48,y48),(49,y49),(50,y50),(51,y51),(52,y52),(53,y53),(54,y54),(55,y55)])),h)
 |_=>none)
 |_=>none)
 | .bool false=>
 some (.exit 0,(bu 118 (up x [(21,y21),(22,y22),(23,y23),(24,y24)])),h)
 |_=>none)
noncomputable def t11k11_19 (C:av) (_x:Nat→Value) (h:ai):Out:=
 ae (C 12 [] h) fun y117 h=>
 ae (some (y117,h)) fun y4 h=>
 some (y4,h)
noncomputable def dP (C:av) (x:Nat→Value) (h:ai):Option (Ex×Env×ai):=
 ae (some ((x 15),h)) fun y101 h=>
 ae (some ((x 0),h)) fun y102 h=>
 ae (pu (bC y102) h) fun y103 h=>
 ae (pu (bin Tryz.prog .lss 3 y101 y103) h) fun y104 h=>
 (match y104 with
 | .bool true=>
 ae (some ((x 12),h)) fun y107 h=>
 ae (some ((x 15),h)) fun y108 h=>
 ae (pu (bW 116 y107 y108) h) fun y109 h=>
 ae (cq 116 y109 h) fun y110 h=>
 ae (some ((x 0),h)) fun y111 h=>
 ae (some ((x 15),h)) fun y112 h=>
 ae (pu (bW 116 y111 y112) h) fun y113 h=>
 ae (cq 116 y113 h) fun y114 h=>
 ae (C 15 [y110,y114] h) fun y115 h=>
 ae (pu (unA .not y115) h) fun y116 h=>
 (match y116 with
 | .bool true=>
 ae (some ((.bool false),h)) fun y4 h=>
 some (.ret,(bu 118 (up x [(4,y4),(101,y101),(102,y102),(103,y103),(104,y104),(107,y107),(108,y108),(109,y109),(110,y110),(111,y111),(112,y112),(113,y113),(114,y114),(115,y115),(116,y116)])),h)
 | .bool false=>
 ae (some ((x 15),h)) fun y105 h=>
 ae (pu (bin Tryz.prog .add 3 y105 (.int .i64 1)) h) fun y106 h=>
 ae (some (y106,h)) fun y15 h=>
 some (.normal,(bu 118 (up x [(15,y15),(101,y101),(102,y102),(103,y103),(104,y104),(105,y105),(106,y106),(107,y107),(108,y108),(109,y109),(110,y110),(111,y111),(112,y112),(113,y113),(114,y114),(115,y115),(116,y116)])),h)
 |_=>none)
 | .bool false=>
 some (.exit 2,(bu 118 (up x [(101,y101),(102,y102),(103,y103),(104,y104)])),h)
 |_=>none)
theorem t11_eq (C:av) (x0 x1:Value) (h:ai):bc Tryz.prog C Tryz.f11 [x0,x1] h=t11 C x0 x1 h:=
 (aE Tryz.prog C Tryz.f11 [x0,x1] h (by kernel_rfl)).trans (by kernel_rfl)
theorem t11k11_5_eq (C:av) (x:Nat→Value) (h:ai):k11_5 C (bu 118 x) h=t11k11_5 C x h:=
 bM (b:=(partOf Tryz.f11 [1,1,1,1])) (kE:=(ax Tryz.prog Tryz.f11.results.toList)) (rE:=(ax Tryz.prog Tryz.f11.results.toList)) (xE:=(fun _ _ _=>none)) (T:=t11k11_5 C) (fun x h=>by kernel_rfl) x h
theorem t11l11_111010_eq (C:av) (x:Nat→Value) (h:ai):aI Tryz.prog C (partOf Tryz.f11 [1,1,1,0,1,0,0]) (bu 118 x) h=t11l11_111010 C x h:=
 bt (T:=t11l11_111010 C) (fun x h=>by kernel_rfl) x h
theorem t11k11_19_eq (C:av) (x:Nat→Value) (h:ai):k11_19 C (bu 118 x) h=t11k11_19 C x h:=
 bM (b:=(partOf Tryz.f11 [1,1,1,1,1,1,1,1,1])) (kE:=(ax Tryz.prog Tryz.f11.results.toList)) (rE:=(ax Tryz.prog Tryz.f11.results.toList)) (xE:=(fun _ _ _=>none)) (T:=t11k11_19 C) (fun x h=>by kernel_rfl) x h
theorem t11l11_11111111010_eq (C:av) (x:Nat→Value) (h:ai):aI Tryz.prog C (partOf Tryz.f11 [1,1,1,1,1,1,1,1,0,1,0,0]) (bu 118 x) h=dP C x h:=
 bt (T:=dP C) (fun x h=>by kernel_rfl) x h
end Go.Proofs.YtjghlcdidopcpaaGreatDoor

