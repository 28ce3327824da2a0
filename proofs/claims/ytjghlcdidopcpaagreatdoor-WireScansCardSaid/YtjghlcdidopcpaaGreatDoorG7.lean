/-
  A part of the proof, spaces and names shortened by a program (a claim may hold 1,500,000 bytes).
  Conditions: as each theorem states.
-/
import Derived.Test.YtjghlcdidopcpaaGreatDoorG6
import Derived.Test.YtjghlcdidopcpaaGreatDoorProg
import Derived.KernelRfl
namespace Go.Proofs.YtjghlcdidopcpaaGreatDoor
open Go Go.Abs
noncomputable def t37 (C:au) (x0:Value) (h:aj):Out:=
 ae (some ((.int .i64 0),h)) fun _y2 h=>
 ae (some ((.int .i64 0),h)) fun _y3 h=>
 ae (some (x0,h)) fun y5 h=>
 ae (pu (bG y5) h) fun y6 h=>
 ae (pu (bin Tryz.prog .lss 3 y6 (.int .i64 10)) h) fun y7 h=>
 (match y7 with
 | .bool true=>
 ae (some ((.int .i64 0),h)) fun y2_1 h=>
 ae (some ((.int .i64 4),h)) fun y3_1 h=>
 some (.tuple #[y2_1,y3_1],h)
 | .bool false=>
 ae (some (x0,h)) fun y8 h=>
 ae (pu (bB 1 y8 (.int .i64 0)) h) fun y9 h=>
 ae (aN y9 h) fun y10 h=>
 ae (pu (bin Tryz.prog .neq 5 y10 (.int .u8 83)) h) fun y11 h=>
 ae (some (y11,h)) fun y12 h=>
 ae (aq (aI y12==some false) (some (x0,h)) h) fun y13 h=>
 ae (aq (aI y12==some false) (pu (bB 1 y13 (.int .i64 1)) h) h) fun y14 h=>
 ae (aq (aI y12==some false) (aN y14 h) h) fun y15 h=>
 ae (aq (aI y12==some false) (pu (bin Tryz.prog .neq 5 y15 (.int .u8 87)) h) h) fun y16 h=>
 ae (match y12 with | .bool t=>some (if t then (.bool true) else y16,h)|_=>none) fun y17 h=>
 (match y17 with
 | .bool true=>
 ae (some ((.int .i64 0),h)) fun y2_1 h=>
 ae (some ((.int .i64 5),h)) fun y3_1 h=>
 some (.tuple #[y2_1,y3_1],h)
 | .bool false=>
 ae (some (x0,h)) fun y18 h=>
 ae (pu (bB 1 y18 (.int .i64 2)) h) fun y19 h=>
 ae (aN y19 h) fun y20 h=>
 ae (pu (bin Tryz.prog .neq 5 y20 (.int .u8 1)) h) fun y21 h=>
 (match y21 with
 | .bool true=>
 ae (some ((.int .i64 0),h)) fun y2_1 h=>
 ae (some ((.int .i64 80),h)) fun y3_1 h=>
 some (.tuple #[y2_1,y3_1],h)
 | .bool false=>
 ae (some (x0,h)) fun y22 h=>
 ae (pu (slR 1 y22 (some (.int .i64 6)) (some (.int .i64 10)) none) h) fun y23 h=>
 ae (C 38 [y23] h) fun y24 h=>
 ae (some (y24,h)) fun y4 h=>
 ae (some (y4,h)) fun y25 h=>
 ae (pu (bin Tryz.prog .gtr 25 y25 (.int .u64 20000)) h) fun cV h=>
 (match cV with
 | .bool true=>
 ae (some ((.int .i64 0),h)) fun y2_1 h=>
 ae (some ((.int .i64 3),h)) fun y3_1 h=>
 some (.tuple #[y2_1,y3_1],h)
 | .bool false=>
 ae (some (y4,h)) fun dn h=>
 ae (fc .i64 dn h) fun y28 h=>
 ae (pu (bin Tryz.prog .add 3 (.int .i64 14) y28) h) fun y29 h=>
 ae (some (y29,h)) fun y2_1 h=>
 ae (some ((.int .i64 0),h)) fun y3_1 h=>
 some (.tuple #[y2_1,y3_1],h)
 |_=>none)
 |_=>none)
 |_=>none)
 |_=>none)
theorem t37_eq (C:au) (x0:Value) (h:aj):bf Tryz.prog C Tryz.f37 [x0] h=t37 C x0 h:=
 (aL Tryz.prog C Tryz.f37 [x0] h (by kernel_rfl)).trans (by kernel_rfl)
noncomputable def t78 (C:au) (x0 x1:Value) (h:aj):Out:=
 ae (box x0 h) fun y2 h=>
 ae (some ((.int .u64 0),h)) fun _y4 h=>
 ae (cL [(.slice none 0 0),(.bool false)] h) fun y5 h=>
 ae (bD 2 y2 h) fun y8 h=>
 ae (some (x1,h)) fun y9 h=>
 ae (C 81 [y8,y9] h) fun y10 h=>
 ae (some (y10,h)) fun y7 h=>
 ae (pu (aG y7 0) h) fun y11 h=>
 ae (pu (aG y7 1) h) fun y12 h=>
 ae (some (y11,h)) fun y6 h=>
 ae (bw 2 y2 y12 h) fun _ h=>
 let g3_0:=h
 ae (some (y6,g3_0)) fun y13 g3_1=>
 ae (C 38 [y13] g3_1) fun y14 g3_2=>
 ae (bD 2 y2 g3_2) fun y15 g3_3=>
 ae (some (y14,g3_3)) fun y4_1 g3_4=>
 ae (bw 2 y5 y15 g3_4) fun _ g3_5=>
 (match (dH true (bD 2 y2 g3_1) y15&&true) with
 |true=>
 let h:=g3_5
 ar Tryz.prog Tryz.f78.results.toList (aJ 16 (up (bs [x0,x1]) [(2,y2),(4,y4_1),(5,y5),(6,y6),(7,y7),(8,y8),(9,y9),(10,y10),(11,y11),(12,y12),(13,y13),(14,y14),(15,y15)])) h
 |false=>none)
theorem t78_eq (C:au) (x0 x1:Value) (h:aj):bf Tryz.prog C Tryz.f78 [x0,x1] h=t78 C x0 x1 h:=
 (aL Tryz.prog C Tryz.f78 [x0,x1] h (by kernel_rfl)).trans (by kernel_rfl)
noncomputable def t79 (C:au) (x0:Value) (h:aj):Out:=
 ae (box x0 h) fun y1 h=>
 ae (some ((.slice none 0 0),h)) fun _y2 h=>
 ae (cL [(.slice none 0 0),(.bool false)] h) fun y3 h=>
 ae (bD 2 y1 h) fun y6 h=>
 ae (C 78 [y6,(.int .i64 2)] h) fun y7 h=>
 ae (some (y7,h)) fun y5 h=>
 ae (pu (aG y5 0) h) fun y8 h=>
 ae (pu (aG y5 1) h) fun y9 h=>
 ae (some (y8,h)) fun y4 h=>
 ae (bw 2 y1 y9 h) fun _ h=>
 ae (bD 2 y1 h) fun y10 h=>
 ae (some (y4,h)) fun y11 h=>
 ae (fc .i64 y11 h) fun y12 h=>
 ae (C 81 [y10,y12] h) fun y13 h=>
 ae (pu (aG y13 0) h) fun y14 h=>
 ae (pu (aG y13 1) h) fun y15 h=>
 ae (some (y14,h)) fun y2_1 h=>
 ae (bw 2 y3 y15 h) fun _ h=>
 ar Tryz.prog Tryz.f79.results.toList (aJ 16 (up (bs [x0]) [(1,y1),(2,y2_1),(3,y3),(4,y4),(5,y5),(6,y6),(7,y7),(8,y8),(9,y9),(10,y10),(11,y11),(12,y12),(13,y13),(14,y14),(15,y15)])) h
theorem t79_eq (C:au) (x0:Value) (h:aj):bf Tryz.prog C Tryz.f79 [x0] h=t79 C x0 h:=
 (aL Tryz.prog C Tryz.f79 [x0] h (by kernel_rfl)).trans (by kernel_rfl)
noncomputable def k80_3 (C:au) (e:Env) (h:aj):Out:=aT Tryz.prog C (partOf Tryz.f80 [1,1,1,1]) e h (ar Tryz.prog Tryz.f80.results.toList) (ar Tryz.prog Tryz.f80.results.toList) (fun _ _ _=>none)
noncomputable def b80_5 (C:au) (i:Nat) (e:Env) (h:aj):Out:=if i=0 then (k80_3 C) e h else (fun _ _ _=>none) i e h
noncomputable def t80 (C:au) (x0:Value) (h:aj):Out:=
 ae (box x0 h) fun y1 h=>
 ae (cL (List.replicate 32 (.int .u8 0)) h) fun y2 h=>
 ae (cL [(.slice none 0 0),(.bool false)] h) fun y3 h=>
 ae (bD 2 y1 h) fun y8 h=>
 ae (C 81 [y8,(.int .i64 32)] h) fun y9 h=>
 ae (some (y9,h)) fun y7 h=>
 ae (pu (aG y7 0) h) fun y10 h=>
 ae (pu (aG y7 1) h) fun y11 h=>
 ae (some (y10,h)) fun y4 h=>
 ae (bw 2 y1 y11 h) fun _ h=>
 ae (cL (List.replicate 32 (.int .u8 0)) h) fun y5 h=>
 ae (some ((.int .i64 0),h)) fun y6 h=>
 dX (iter (aM Tryz.prog C (partOf Tryz.f80 [1,1,1,0,1,0,0])) rounds (aJ 24 (up (bs [x0]) [(1,y1),(2,y2),(3,y3),(4,y4),(5,y5),(6,y6),(7,y7),(8,y8),(9,y9),(10,y10),(11,y11)])) h) (ar Tryz.prog Tryz.f80.results.toList) (b80_5 C)
noncomputable def t80k80_3 (_C:au) (x:Nat→Value) (h:aj):Out:=
 let g7_0:=h
 ae (bD 32 (x 5) g7_0) fun y22 g7_1=>
 ae (bD 2 (x 1) g7_1) fun y23 g7_2=>
 ae (bw 32 (x 2) y22 g7_2) fun _ g7_3=>
 ae (bw 2 (x 3) y23 g7_3) fun _ g7_4=>
 (match (dH true (bD 2 (x 1) g7_3) y23&&true) with
 |true=>
 let h:=g7_4
 ar Tryz.prog Tryz.f80.results.toList (aJ 24 (up x [(22,y22),(23,y23)])) h
 |false=>none)
noncomputable def t80l80_111010 (_C:au) (x:Nat→Value) (h:aj):Option (Ex×Env×aj):=
 ae (some ((x 6),h)) fun y12 h=>
 ae (pu (bin Tryz.prog .lss 3 y12 (.int .i64 32)) h) fun y13 h=>
 (match y13 with
 | .bool true=>
 ae (some ((x 6),h)) fun y16 h=>
 ae (some ((x 4),h)) fun y17 h=>
 ae (some ((x 6),h)) fun y18 h=>
 ae (pu (bB 1 y17 y18) h) fun y19 h=>
 ae (aN y19 h) fun y20 h=>
 ae (pu (idxA 32 1 (x 5) y16) h) fun y21 h=>
 ae (bw 1 y21 y20 h) fun _ h=>
 ae (some ((x 6),h)) fun y14 h=>
 ae (pu (bin Tryz.prog .add 3 y14 (.int .i64 1)) h) fun y15 h=>
 ae (some (y15,h)) fun y6 h=>
 some (.normal,(aJ 24 (up x [(6,y6),(12,y12),(13,y13),(14,y14),(15,y15),(16,y16),(17,y17),(18,y18),(19,y19),(20,y20),(21,y21)])),h)
 | .bool false=>
 some (.exit 0,(aJ 24 (up x [(12,y12),(13,y13)])),h)
 |_=>none)
theorem t80_eq (C:au) (x0:Value) (h:aj):bf Tryz.prog C Tryz.f80 [x0] h=t80 C x0 h:=
 (aL Tryz.prog C Tryz.f80 [x0] h (by kernel_rfl)).trans (by kernel_rfl)
theorem t80k80_3_eq (C:au) (x:Nat→Value) (h:aj):k80_3 C (aJ 24 x) h=t80k80_3 C x h:=
 bg (b:=(partOf Tryz.f80 [1,1,1,1])) (kE:=(ar Tryz.prog Tryz.f80.results.toList)) (rE:=(ar Tryz.prog Tryz.f80.results.toList)) (xE:=(fun _ _ _=>none)) (T:=t80k80_3 C) (fun x h=>by kernel_rfl) x h
theorem t80l80_111010_eq (C:au) (x:Nat→Value) (h:aj):aM Tryz.prog C (partOf Tryz.f80 [1,1,1,0,1,0,0]) (aJ 24 x) h=t80l80_111010 C x h:=
 bn (T:=t80l80_111010 C) (fun x h=>by kernel_rfl) x h
noncomputable def t81 (_C:au) (x0 x1:Value) (h:aj):Out:=
 ae (box x0 h) fun y2 h=>
 ae (some ((.slice none 0 0),h)) fun _y4 h=>
 ae (cL [(.slice none 0 0),(.bool false)] h) fun y5 h=>
 ae (pu (aA y2 1) h) fun y6 h=>
 ae (aN y6 h) fun y7 h=>
 ae (some (y7,h)) fun y8 h=>
 ae (aq (aI y8==some false) (some (x1,h)) h) fun y9 h=>
 ae (aq (aI y8==some false) (pu (aA y2 0) h) h) fun y10 h=>
 ae (aq (aI y8==some false) (aN y10 h) h) fun y11 h=>
 ae (aq (aI y8==some false) (pu (bG y11) h) h) fun y12 h=>
 ae (aq (aI y8==some false) (pu (bin Tryz.prog .gtr 3 y9 y12) h) h) fun y13 h=>
 ae (match y8 with | .bool t=>some (if t then (.bool true) else y13,h)|_=>none) fun y14 h=>
 (match y14 with
 | .bool true=>
 ae (some (x1,h)) fun y15 h=>
 ae (mkR 1 1 (.int .u8 0) y15 y15 h) fun y16 h=>
 ae (pu (bU [(.slice none 0 0),(.bool false)] [(0,1,(.slice none 0 0)),(1,1,(.bool true))]) h) fun y17 h=>
 ae (some (y16,h)) fun y4_1 h=>
 ae (bw 2 y5 y17 h) fun _ h=>
 ar Tryz.prog Tryz.f81.results.toList (aJ 29 (up (bs [x0,x1]) [(2,y2),(4,y4_1),(5,y5),(6,y6),(7,y7),(8,y8),(9,y9),(10,y10),(11,y11),(12,y12),(13,y13),(14,y14),(15,y15),(16,y16),(17,y17)])) h
 | .bool false=>
 let g5_0:=h
 ae (pu (aA y2 0) g5_0) fun y19 g5_1=>
 ae (aN y19 g5_1) fun y20 g5_2=>
 ae (some (x1,g5_2)) fun y21 g5_3=>
 ae (pu (slR 1 y20 none (some y21) none) g5_3) fun y22 g5_4=>
 ae (pu (aA y2 0) g5_4) fun y24 g5_5=>
 ae (aN y24 g5_5) fun y25 g5_6=>
 ae (some (x1,g5_6)) fun cV g5_7=>
 ae (pu (slR 1 y25 (some cV) none none) g5_7) fun dn g5_8=>
 ae (pu (bU [(.slice none 0 0),(.bool false)] [(0,1,dn),(1,1,(.bool false))]) g5_8) fun y28 g5_9=>
 ae (bslR 1 (.int .u8 0) 0 [] g5_9) fun y18 g5_10=>
 ae (cl 1 1 y18 y22 g5_10) fun y23 g5_11=>
 ae (some (y23,g5_11)) fun y4_1 g5_12=>
 ae (bw 2 y5 y28 g5_12) fun _ g5_13=>
 (match (dH true (aN y24 g5_11) y25&&true) with
 |true=>
 let h:=g5_13
 ar Tryz.prog Tryz.f81.results.toList (aJ 29 (up (bs [x0,x1]) [(2,y2),(4,y4_1),(5,y5),(6,y6),(7,y7),(8,y8),(9,y9),(10,y10),(11,y11),(12,y12),(13,y13),(14,y14),(18,y18),(19,y19),(20,y20),(21,y21),(22,y22),(23,y23),(24,y24),(25,y25),(26,cV),(27,dn),(28,y28)])) h
 |false=>none)
 |_=>none)
theorem t81_eq (C:au) (x0 x1:Value) (h:aj):bf Tryz.prog C Tryz.f81 [x0,x1] h=t81 C x0 x1 h:=
 (aL Tryz.prog C Tryz.f81 [x0,x1] h (by kernel_rfl)).trans (by kernel_rfl)
end Go.Proofs.YtjghlcdidopcpaaGreatDoor

namespace Go.Proofs.YtjghlcdidopcpaaGreatDoor
open Go Go.Abs
noncomputable def t59 (_C:au) (x0:Value) (h:aj):Out:=
 ae (some ((.bool false),h)) fun _y2 h=>
 ae (some (x0,h)) fun y3 h=>
 ae (pu (bin Tryz.prog .geq 3 y3 (.int .i64 0)) h) fun y4 h=>
 ae (some (y4,h)) fun y5 h=>
 ae (aq (aI y5==some true) (some (x0,h)) h) fun y6 h=>
 ae (aq (aI y5==some true) (pu (bin Tryz.prog .leq 3 y6 (.int .i64 15)) h) h) fun y7 h=>
 ae (match y5 with | .bool t=>some (if t then y7 else (.bool false),h)|_=>none) fun y8 h=>
 ae (some (y8,h)) fun y2_1 h=>
 some (y2_1,h)
theorem t59_eq (C:au) (x0:Value) (h:aj):bf Tryz.prog C Tryz.f59 [x0] h=t59 C x0 h:=
 (aL Tryz.prog C Tryz.f59 [x0] h (by kernel_rfl)).trans (by kernel_rfl)
noncomputable def k61_4 (C:au) (e:Env) (h:aj):Out:=aT Tryz.prog C (partOf Tryz.f61 [1,1,1]) e h (ar Tryz.prog Tryz.f61.results.toList) (ar Tryz.prog Tryz.f61.results.toList) (fun _ _ _=>none)
noncomputable def b61_6 (C:au) (i:Nat) (e:Env) (h:aj):Out:=if i=0 then (k61_4 C) e h else (fun _ _ _=>none) i e h
noncomputable def t61 (C:au) (x0:Value) (h:aj):Out:=
 ae (some ((.bool false),h)) fun y2 h=>
 ae (some (x0,h)) fun y4 h=>
 ae (pu (bG y4) h) fun y5 h=>
 ae (pu (bin Tryz.prog .lss 3 y5 (.int .i64 1)) h) fun y6 h=>
 ae (some (y6,h)) fun y7 h=>
 ae (aq (aI y7==some false) (some (x0,h)) h) fun y8 h=>
 ae (aq (aI y7==some false) (pu (bG y8) h) h) fun y9 h=>
 ae (aq (aI y7==some false) (pu (bin Tryz.prog .gtr 3 y9 (.int .i64 16)) h) h) fun y10 h=>
 ae (match y7 with | .bool t=>some (if t then (.bool true) else y10,h)|_=>none) fun y11 h=>
 (match y11 with
 | .bool true=>
 ae (some ((.bool false),h)) fun y2_1 h=>
 some (y2_1,h)
 | .bool false=>
 ae (some ((.int .i64 0),h)) fun y3 h=>
 dX (iter (aM Tryz.prog C (partOf Tryz.f61 [1,1,0,1,0,0])) rounds (aJ 24 (up (bs [x0]) [(2,y2),(3,y3),(4,y4),(5,y5),(6,y6),(7,y7),(8,y8),(9,y9),(10,y10),(11,y11)])) h) (ar Tryz.prog Tryz.f61.results.toList) (b61_6 C)
 |_=>none)
noncomputable def t61k61_4 (_C:au) (_x:Nat→Value) (h:aj):Out:=
 ae (some ((.bool true),h)) fun y2 h=>
 some (y2,h)
noncomputable def t61l61_11010 (C:au) (x:Nat→Value) (h:aj):Option (Ex×Env×aj):=
 ae (some ((x 3),h)) fun y12 h=>
 ae (some ((x 0),h)) fun y13 h=>
 ae (pu (bG y13) h) fun y14 h=>
 ae (pu (bin Tryz.prog .lss 3 y12 y14) h) fun y15 h=>
 (match y15 with
 | .bool true=>
 ae (some ((x 0),h)) fun y18 h=>
 ae (some ((x 3),h)) fun y19 h=>
 ae (pu (bB 2 y18 y19) h) fun y20 h=>
 ae (bD 2 y20 h) fun y21 h=>
 ae (C 91 [y21] h) fun y22 h=>
 ae (pu (unA .not y22) h) fun y23 h=>
 (match y23 with
 | .bool true=>
 ae (some ((.bool false),h)) fun y2 h=>
 some (.ret,(aJ 24 (up x [(2,y2),(12,y12),(13,y13),(14,y14),(15,y15),(18,y18),(19,y19),(20,y20),(21,y21),(22,y22),(23,y23)])),h)
 | .bool false=>
 ae (some ((x 3),h)) fun y16 h=>
 ae (pu (bin Tryz.prog .add 3 y16 (.int .i64 1)) h) fun y17 h=>
 ae (some (y17,h)) fun y3 h=>
 some (.normal,(aJ 24 (up x [(3,y3),(12,y12),(13,y13),(14,y14),(15,y15),(16,y16),(17,y17),(18,y18),(19,y19),(20,y20),(21,y21),(22,y22),(23,y23)])),h)
 |_=>none)
 | .bool false=>
 some (.exit 0,(aJ 24 (up x [(12,y12),(13,y13),(14,y14),(15,y15)])),h)
 |_=>none)
theorem t61_eq (C:au) (x0:Value) (h:aj):bf Tryz.prog C Tryz.f61 [x0] h=t61 C x0 h:=
 (aL Tryz.prog C Tryz.f61 [x0] h (by kernel_rfl)).trans (by kernel_rfl)
theorem t61k61_4_eq (C:au) (x:Nat→Value) (h:aj):k61_4 C (aJ 24 x) h=t61k61_4 C x h:=
 bg (b:=(partOf Tryz.f61 [1,1,1])) (kE:=(ar Tryz.prog Tryz.f61.results.toList)) (rE:=(ar Tryz.prog Tryz.f61.results.toList)) (xE:=(fun _ _ _=>none)) (T:=t61k61_4 C) (fun x h=>by kernel_rfl) x h
theorem t61l61_11010_eq (C:au) (x:Nat→Value) (h:aj):aM Tryz.prog C (partOf Tryz.f61 [1,1,0,1,0,0]) (aJ 24 x) h=t61l61_11010 C x h:=
 bn (T:=t61l61_11010 C) (fun x h=>by kernel_rfl) x h
noncomputable def t62 (_C:au) (x0:Value) (h:aj):Out:=
 ae (box x0 h) fun y1 h=>
 ae (some ((.bool false),h)) fun _y2 h=>
 ae (pu (aA y1 33) h) fun y5 h=>
 ae (aN y5 h) fun y6 h=>
 ae (pu (bin Tryz.prog .geq 3 y6 (.int .i64 0)) h) fun y7 h=>
 ae (some (y7,h)) fun y8 h=>
 ae (aq (aI y8==some true) (pu (aA y1 33) h) h) fun y9 h=>
 ae (aq (aI y8==some true) (aN y9 h) h) fun y10 h=>
 ae (aq (aI y8==some true) (pu (bin Tryz.prog .leq 3 y10 (.int .i64 15)) h) h) fun y11 h=>
 ae (match y8 with | .bool t=>some (if t then y11 else (.bool false),h)|_=>none) fun y12 h=>
 ae (some (y12,h)) fun y13 h=>
 ae (aq (aI y13==some true) (pu (aA y1 34) h) h) fun y14 h=>
 ae (aq (aI y13==some true) (aN y14 h) h) fun y15 h=>
 ae (aq (aI y13==some true) (pu (bin Tryz.prog .geq 25 y15 (.int .u64 1)) h) h) fun y16 h=>
 ae (match y13 with | .bool t=>some (if t then y16 else (.bool false),h)|_=>none) fun y17 h=>
 ae (some (y17,h)) fun y3 h=>
 ae (pu (aA y1 35) h) fun y18 h=>
 ae (aN y18 h) fun y19 h=>
 ae (pu (bin Tryz.prog .eql 25 y19 (.int .u64 0)) h) fun y20 h=>
 ae (some (y20,h)) fun y21 h=>
 ae (aq (aI y21==some true) (pu (aA y1 36) h) h) fun y22 h=>
 ae (aq (aI y21==some true) (aN y22 h) h) fun y23 h=>
 ae (aq (aI y21==some true) (pu (unA .not y23) h) h) fun y24 h=>
 ae (match y21 with | .bool t=>some (if t then y24 else (.bool false),h)|_=>none) fun y25 h=>
 ae (some (y25,h)) fun cV h=>
 ae (aq (aI cV==some true) (pu (aA y1 37) h) h) fun dn h=>
 ae (aq (aI cV==some true) (aN dn h) h) fun y28 h=>
 ae (aq (aI cV==some true) (pu (bin Tryz.prog .eql 3 y28 (.int .i64 0)) h) h) fun y29 h=>
 ae (match cV with | .bool t=>some (if t then y29 else (.bool false),h)|_=>none) fun y30 h=>
 ae (some (y30,h)) fun y31 h=>
 ae (aq (aI y31==some true) (pu (aA y1 38) h) h) fun y32 h=>
 ae (aq (aI y31==some true) (aN y32 h) h) fun y33 h=>
 ae (aq (aI y31==some true) (pu (bin Tryz.prog .eql 3 y33 (.int .i64 0)) h) h) fun y34 h=>
 ae (match y31 with | .bool t=>some (if t then y34 else (.bool false),h)|_=>none) fun y35 h=>
 ae (some (y35,h)) fun y4 h=>
 ae (pu (aA y1 0) h) fun y36 h=>
 ae (aN y36 h) fun y37 h=>
 ae (pu (bin Tryz.prog .eql 59 y37 (.int .u8 1)) h) fun y39 h=>
 ae (some (y39,h)) fun y38 h=>
 (match y38 with
 | .bool true=>
 ae (some (y3,h)) fun y40 h=>
 ae (some (y40,h)) fun y41 h=>
 ae (aq (aI y41==some true) (some (y4,h)) h) fun y42 h=>
 ae (match y41 with | .bool t=>some (if t then y42 else (.bool false),h)|_=>none) fun y43 h=>
 ae (some (y43,h)) fun y44 h=>
 ae (aq (aI y44==some true) (pu (aA y1 1) h) h) fun y45 h=>
 ae (aq (aI y44==some true) (bD 32 y45 h) h) fun y46 h=>
 ae (aq (aI y44==some true) (bD 32 (ptr 0 0) h) h) fun y47 h=>
 ae (aq (aI y44==some true) (pu (bin Tryz.prog .eql 28 y46 y47) h) h) fun y48 h=>
 ae (match y44 with | .bool t=>some (if t then y48 else (.bool false),h)|_=>none) fun y49 h=>
 ae (some (y49,h)) fun y2_1 h=>
 some (y2_1,h)
 | .bool false=>
 ae (pu (bin Tryz.prog .eql 59 y37 (.int .u8 2)) h) fun y51 h=>
 ae (some (y51,h)) fun y50 h=>
 (match y50 with
 | .bool true=>
 ae (some (y4,h)) fun y52 h=>
 ae (some (y52,h)) fun eJ h=>
 ae (aq (aI eJ==some true) (pu (aA y1 33) h) h) fun eN h=>
 ae (aq (aI eJ==some true) (aN eN h) h) fun y55 h=>
 ae (aq (aI eJ==some true) (pu (bin Tryz.prog .eql 3 y55 (.int .i64 0)) h) h) fun y56 h=>
 ae (match eJ with | .bool t=>some (if t then y56 else (.bool false),h)|_=>none) fun y57 h=>
 ae (some (y57,h)) fun y58 h=>
 ae (aq (aI y58==some true) (pu (aA y1 34) h) h) fun y59 h=>
 ae (aq (aI y58==some true) (aN y59 h) h) fun y60 h=>
 ae (aq (aI y58==some true) (pu (bin Tryz.prog .eql 25 y60 (.int .u64 0)) h) h) fun y61 h=>
 ae (match y58 with | .bool t=>some (if t then y61 else (.bool false),h)|_=>none) fun y62 h=>
 ae (some (y62,h)) fun y2_1 h=>
 some (y2_1,h)
 | .bool false=>
 ae (pu (bin Tryz.prog .eql 59 y37 (.int .u8 3)) h) fun y64 h=>
 ae (some (y64,h)) fun y63 h=>
 (match y63 with
 | .bool true=>
 ae (some (y3,h)) fun y65 h=>
 ae (some (y65,h)) fun y66 h=>
 ae (aq (aI y66==some true) (pu (aA y1 35) h) h) fun y67 h=>
 ae (aq (aI y66==some true) (aN y67 h) h) fun y68 h=>
 ae (aq (aI y66==some true) (pu (bin Tryz.prog .geq 25 y68 (.int .u64 1)) h) h) fun y69 h=>
 ae (match y66 with | .bool t=>some (if t then y69 else (.bool false),h)|_=>none) fun y70 h=>
 ae (some (y70,h)) fun y71 h=>
 ae (aq (aI y71==some true) (pu (aA y1 37) h) h) fun y72 h=>
 ae (aq (aI y71==some true) (aN y72 h) h) fun y73 h=>
 ae (aq (aI y71==some true) (pu (bin Tryz.prog .leq 3 (.int .i64 1) y73) h) h) fun y74 h=>
 ae (match y71 with | .bool t=>some (if t then y74 else (.bool false),h)|_=>none) fun y75 h=>
 ae (some (y75,h)) fun y76 h=>
 ae (aq (aI y76==some true) (pu (aA y1 37) h) h) fun y77 h=>
 ae (aq (aI y76==some true) (aN y77 h) h) fun y78 h=>
 ae (aq (aI y76==some true) (pu (aA y1 38) h) h) fun y79 h=>
 ae (aq (aI y76==some true) (aN y79 h) h) fun y80 h=>
 ae (aq (aI y76==some true) (pu (bin Tryz.prog .leq 3 y78 y80) h) h) fun y81 h=>
 ae (match y76 with | .bool t=>some (if t then y81 else (.bool false),h)|_=>none) fun y82 h=>
 ae (some (y82,h)) fun y83 h=>
 ae (aq (aI y83==some true) (pu (aA y1 38) h) h) fun y84 h=>
 ae (aq (aI y83==some true) (aN y84 h) h) fun y85 h=>
 ae (aq (aI y83==some true) (pu (bin Tryz.prog .leq 3 y85 (.int .i64 255)) h) h) fun y86 h=>
 ae (match y83 with | .bool t=>some (if t then y86 else (.bool false),h)|_=>none) fun y87 h=>
 ae (some (y87,h)) fun y2_1 h=>
 some (y2_1,h)
 | .bool false=>
 ae (some ((.bool false),h)) fun y2_1 h=>
 some (y2_1,h)
 |_=>none)
 |_=>none)
 |_=>none)
theorem t62_eq (C:au) (x0:Value) (h:aj):bf Tryz.prog C Tryz.f62 [x0] h=t62 C x0 h:=
 (aL Tryz.prog C Tryz.f62 [x0] h (by kernel_rfl)).trans (by kernel_rfl)
noncomputable def t63 (C:au) (x0:Value) (h:aj):Out:=
 ae (box x0 h) fun y1 h=>
 ae (some ((.bool false),h)) fun _y2 h=>
 ae (pu (aA y1 0) h) fun y3 h=>
 ae (aN y3 h) fun y4 h=>
 ae (pu (aA y1 1) h) fun y5 h=>
 ae (aN y5 h) fun y6 h=>
 ae (pu (aA y1 2) h) fun y7 h=>
 ae (aN y7 h) fun y8 h=>
 ae (C 92 [y4,y6,y8] h) fun y9 h=>
 ae (some (y9,h)) fun y10 h=>
 ae (aq (aI y10==some true) (pu (aA y1 3) h) h) fun y11 h=>
 ae (aq (aI y10==some true) (aN y11 h) h) fun y12 h=>
 ae (aq (aI y10==some true) (pu (bin Tryz.prog .geq 3 y12 (.int .i64 0)) h) h) fun y13 h=>
 ae (match y10 with | .bool t=>some (if t then y13 else (.bool false),h)|_=>none) fun y14 h=>
 ae (some (y14,h)) fun y15 h=>
 ae (aq (aI y15==some true) (pu (aA y1 3) h) h) fun y16 h=>
 ae (aq (aI y15==some true) (aN y16 h) h) fun y17 h=>
 ae (aq (aI y15==some true) (pu (bin Tryz.prog .leq 3 y17 (.int .i64 8192)) h) h) fun y18 h=>
 ae (match y15 with | .bool t=>some (if t then y18 else (.bool false),h)|_=>none) fun y19 h=>
 ae (some (y19,h)) fun y20 h=>
 ae (aq (aI y20==some true) (pu (aA y1 36) h) h) fun y21 h=>
 ae (aq (aI y20==some true) (aN y21 h) h) fun y22 h=>
 ae (aq (aI y20==some true) (pu (bG y22) h) h) fun y23 h=>
 ae (aq (aI y20==some true) (pu (aA y1 2) h) h) fun y24 h=>
 ae (aq (aI y20==some true) (aN y24 h) h) fun y25 h=>
 ae (aq (aI y20==some true) (pu (bin Tryz.prog .eql 3 y23 y25) h) h) fun cV h=>
 ae (match y20 with | .bool t=>some (if t then cV else (.bool false),h)|_=>none) fun dn h=>
 ae (some (dn,h)) fun y2_1 h=>
 some (y2_1,h)
theorem t63_eq (C:au) (x0:Value) (h:aj):bf Tryz.prog C Tryz.f63 [x0] h=t63 C x0 h:=
 (aL Tryz.prog C Tryz.f63 [x0] h (by kernel_rfl)).trans (by kernel_rfl)
noncomputable def t90 (_C:au) (x0:Value) (h:aj):Out:=
 ae (some ((.bool false),h)) fun _y2 h=>
 ae (some ((.bool false),h)) fun _y3 h=>
 ae (some ((.bool false),h)) fun _y4 h=>
 ae (some ((.bool false),h)) fun _y5 h=>
 ae (some ((.bool false),h)) fun _y6 h=>
 ae (some (x0,h)) fun y7 h=>
 ae (pu (bin Tryz.prog .leq 24 y7 (.int .u8 3)) h) fun y8 h=>
 ae (some (x0,h)) fun y9 h=>
 ae (pu (bin Tryz.prog .eql 24 y9 (.int .u8 4)) h) fun y10 h=>
 ae (some (y10,h)) fun y11 h=>
 ae (aq (aI y11==some false) (some (x0,h)) h) fun y12 h=>
 ae (aq (aI y11==some false) (pu (bin Tryz.prog .eql 24 y12 (.int .u8 5)) h) h) fun y13 h=>
 ae (match y11 with | .bool t=>some (if t then (.bool true) else y13,h)|_=>none) fun y14 h=>
 ae (some (x0,h)) fun y15 h=>
 ae (pu (bin Tryz.prog .eql 24 y15 (.int .u8 5)) h) fun y16 h=>
 ae (some (x0,h)) fun y17 h=>
 ae (pu (bin Tryz.prog .geq 24 y17 (.int .u8 6)) h) fun y18 h=>
 ae (some (x0,h)) fun y19 h=>
 ae (pu (bin Tryz.prog .eql 24 y19 (.int .u8 8)) h) fun y20 h=>
 ae (some (y20,h)) fun y21 h=>
 ae (aq (aI y21==some false) (some (x0,h)) h) fun y22 h=>
 ae (aq (aI y21==some false) (pu (bin Tryz.prog .eql 24 y22 (.int .u8 10)) h) h) fun y23 h=>
 ae (match y21 with | .bool t=>some (if t then (.bool true) else y23,h)|_=>none) fun y24 h=>
 ae (some (y8,h)) fun y2_1 h=>
 ae (some (y14,h)) fun y3_1 h=>
 ae (some (y16,h)) fun y4_1 h=>
 ae (some (y18,h)) fun y5_1 h=>
 ae (some (y24,h)) fun y6_1 h=>
 some (.tuple #[y2_1,y3_1,y4_1,y5_1,y6_1],h)
theorem t90_eq (C:au) (x0:Value) (h:aj):bf Tryz.prog C Tryz.f90 [x0] h=t90 C x0 h:=
 (aL Tryz.prog C Tryz.f90 [x0] h (by kernel_rfl)).trans (by kernel_rfl)
noncomputable def t91 (_C:au) (x0:Value) (h:aj):Out:=
 ae (box x0 h) fun y1 h=>
 ae (some ((.bool false),h)) fun _y2 h=>
 ae (pu (aA y1 1) h) fun y3 h=>
 ae (aN y3 h) fun y4 h=>
 ae (pu (bin Tryz.prog .leq 56 y4 (.int .u8 4)) h) fun y5 h=>
 ae (some (y5,h)) fun y6 h=>
 ae (aq (aI y6==some true) (pu (aA y1 0) h) h) fun y7 h=>
 ae (aq (aI y6==some true) (aN y7 h) h) fun y8 h=>
 ae (aq (aI y6==some true) (pu (bin Tryz.prog .eql 25 y8 (.int .u64 0)) h) h) fun y9 h=>
 ae (aq (aI y6==some true) (pu (aA y1 1) h) h) fun y10 h=>
 ae (aq (aI y6==some true) (aN y10 h) h) fun y11 h=>
 ae (aq (aI y6==some true) (pu (bin Tryz.prog .eql 56 y11 (.int .u8 0)) h) h) fun y12 h=>
 ae (aq (aI y6==some true) (pu (bin Tryz.prog .eql 4 y9 y12) h) h) fun y13 h=>
 ae (match y6 with | .bool t=>some (if t then y13 else (.bool false),h)|_=>none) fun y14 h=>
 ae (some (y14,h)) fun y2_1 h=>
 some (y2_1,h)
theorem t91_eq (C:au) (x0:Value) (h:aj):bf Tryz.prog C Tryz.f91 [x0] h=t91 C x0 h:=
 (aL Tryz.prog C Tryz.f91 [x0] h (by kernel_rfl)).trans (by kernel_rfl)
noncomputable def t92 (_C:au) (x0 x1 x2:Value) (h:aj):Out:=
 ae (some ((.bool false),h)) fun _y6 h=>
 ae (some (x0,h)) fun y7 h=>
 ae (pu (bin Tryz.prog .leq 3 (.int .i64 1) y7) h) fun y8 h=>
 ae (some (y8,h)) fun y9 h=>
 ae (aq (aI y9==some true) (some (x0,h)) h) fun y10 h=>
 ae (aq (aI y9==some true) (some (x1,h)) h) fun y11 h=>
 ae (aq (aI y9==some true) (pu (bin Tryz.prog .leq 3 y10 y11) h) h) fun y12 h=>
 ae (match y9 with | .bool t=>some (if t then y12 else (.bool false),h)|_=>none) fun y13 h=>
 ae (some (y13,h)) fun y14 h=>
 ae (aq (aI y14==some true) (some (x1,h)) h) fun y15 h=>
 ae (aq (aI y14==some true) (some (x2,h)) h) fun y16 h=>
 ae (aq (aI y14==some true) (pu (bin Tryz.prog .leq 3 y15 y16) h) h) fun y17 h=>
 ae (match y14 with | .bool t=>some (if t then y17 else (.bool false),h)|_=>none) fun y18 h=>
 ae (some (y18,h)) fun y19 h=>
 ae (aq (aI y19==some true) (some (x2,h)) h) fun y20 h=>
 ae (aq (aI y19==some true) (pu (bin Tryz.prog .leq 3 y20 (.int .i64 255)) h) h) fun y21 h=>
 ae (match y19 with | .bool t=>some (if t then y21 else (.bool false),h)|_=>none) fun y22 h=>
 ae (some (y22,h)) fun y6_1 h=>
 some (y6_1,h)
theorem t92_eq (C:au) (x0 x1 x2:Value) (h:aj):bf Tryz.prog C Tryz.f92 [x0,x1,x2] h=t92 C x0 x1 x2 h:=
 (aL Tryz.prog C Tryz.f92 [x0,x1,x2] h (by kernel_rfl)).trans (by kernel_rfl)
end Go.Proofs.YtjghlcdidopcpaaGreatDoor

namespace Go.Proofs.YtjghlcdidopcpaaGreatDoor
open Go Go.Abs
noncomputable def k60s0 (C:au) (e:Env) (h:aj):Out:=aT Tryz.prog C (partOf Tryz.f60 []) e h (ar Tryz.prog Tryz.f60.results.toList) (ar Tryz.prog Tryz.f60.results.toList) (fun _ _ _=>none)
noncomputable def k60s1 (C:au) (e:Env) (h:aj):Out:=aT Tryz.prog C (partOf Tryz.f60 [1]) e h (ar Tryz.prog Tryz.f60.results.toList) (ar Tryz.prog Tryz.f60.results.toList) (fun _ _ _=>none)
noncomputable def k60s2 (C:au) (e:Env) (h:aj):Out:=aT Tryz.prog C (partOf Tryz.f60 [1,1]) e h (ar Tryz.prog Tryz.f60.results.toList) (ar Tryz.prog Tryz.f60.results.toList) (fun _ _ _=>none)
noncomputable def k60s3 (C:au) (e:Env) (h:aj):Out:=aT Tryz.prog C (partOf Tryz.f60 [1,1,1]) e h (ar Tryz.prog Tryz.f60.results.toList) (ar Tryz.prog Tryz.f60.results.toList) (fun _ _ _=>none)
noncomputable def k60s4 (C:au) (e:Env) (h:aj):Out:=aT Tryz.prog C (partOf Tryz.f60 [1,1,1,1]) e h (ar Tryz.prog Tryz.f60.results.toList) (ar Tryz.prog Tryz.f60.results.toList) (fun _ _ _=>none)
noncomputable def k60s5 (C:au) (e:Env) (h:aj):Out:=aT Tryz.prog C (partOf Tryz.f60 [1,1,1,1,1]) e h (ar Tryz.prog Tryz.f60.results.toList) (ar Tryz.prog Tryz.f60.results.toList) (fun _ _ _=>none)
noncomputable def k60s6 (C:au) (e:Env) (h:aj):Out:=aT Tryz.prog C (partOf Tryz.f60 [1,1,1,1,1,1]) e h (ar Tryz.prog Tryz.f60.results.toList) (ar Tryz.prog Tryz.f60.results.toList) (fun _ _ _=>none)
noncomputable def k60s7 (C:au) (e:Env) (h:aj):Out:=aT Tryz.prog C (partOf Tryz.f60 [1,1,1,1,1,1,1]) e h (ar Tryz.prog Tryz.f60.results.toList) (ar Tryz.prog Tryz.f60.results.toList) (fun _ _ _=>none)
noncomputable def k60s8 (C:au) (e:Env) (h:aj):Out:=aT Tryz.prog C (partOf Tryz.f60 [1,1,1,1,1,1,1,1]) e h (ar Tryz.prog Tryz.f60.results.toList) (ar Tryz.prog Tryz.f60.results.toList) (fun _ _ _=>none)
noncomputable def k60s9 (C:au) (e:Env) (h:aj):Out:=aT Tryz.prog C (partOf Tryz.f60 [1,1,1,1,1,1,1,1,1]) e h (ar Tryz.prog Tryz.f60.results.toList) (ar Tryz.prog Tryz.f60.results.toList) (fun _ _ _=>none)
noncomputable def k60s10 (C:au) (e:Env) (h:aj):Out:=aT Tryz.prog C (partOf Tryz.f60 [1,1,1,1,1,1,1,1,1,1]) e h (ar Tryz.prog Tryz.f60.results.toList) (ar Tryz.prog Tryz.f60.results.toList) (fun _ _ _=>none)
noncomputable def t60s0 (C:au) (x:Nat→Value) (h:aj):Out:=
 ae (box (x 0) h) fun y1 h=>
 ae (cL Zl h) fun y2 h=>
 k60s1 C (aJ 82 (up x [(1,y1),(2,y2)])) h
theorem t60s0_eq (C:au) (x:Nat→Value) (h:aj):k60s0 C (aJ 82 x) h=t60s0 C x h:=
 aR (a:=partOf Tryz.f60 [0]) (c:=partOf Tryz.f60 [1]) (by kernel_rfl) (k60s1 C) rfl (T:=t60s0 C) (fun x h=>by kernel_rfl) x h
noncomputable def t60s1 (C:au) (x:Nat→Value) (h:aj):Out:=
 ae (pu (aA (x 1) 0) h) fun y9 h=>
 ae (aN y9 h) fun y10 h=>
 ae (pu (aA (x 1) 1) h) fun y11 h=>
 ae (aN y11 h) fun y12 h=>
 ae (pu (aA (x 1) 2) h) fun y13 h=>
 ae (aN y13 h) fun y14 h=>
 ae (pu (bU Zl [(0,1,y10),(1,1,y12),(2,1,y14)]) h) fun y15 h=>
 ae (cL Zl h) fun y3 h=>
 ae (bw 116 y3 y15 h) fun _ h=>
 k60s2 C (aJ 82 (up x [(3,y3),(9,y9),(10,y10),(11,y11),(12,y12),(13,y13),(14,y14),(15,y15)])) h
theorem t60s1_eq (C:au) (x:Nat→Value) (h:aj):k60s1 C (aJ 82 x) h=t60s1 C x h:=
 aR (a:=partOf Tryz.f60 [1,0]) (c:=partOf Tryz.f60 [1,1]) (by kernel_rfl) (k60s2 C) rfl (T:=t60s1 C) (fun x h=>by kernel_rfl) x h
noncomputable def t60s2 (C:au) (x:Nat→Value) (h:aj):Out:=
 ae (pu (aA (x 1) 0) h) fun y17 h=>
 ae (aN y17 h) fun y18 h=>
 ae (C 90 [y18] h) fun y19 h=>
 ae (some (y19,h)) fun y16 h=>
 ae (pu (aG y16 0) h) fun y20 h=>
 ae (pu (aG y16 1) h) fun y21 h=>
 ae (pu (aG y16 2) h) fun y22 h=>
 ae (pu (aG y16 3) h) fun y23 h=>
 ae (pu (aG y16 4) h) fun y24 h=>
 ae (some (y20,h)) fun y4 h=>
 ae (some (y21,h)) fun y5 h=>
 ae (some (y22,h)) fun y6 h=>
 ae (some (y23,h)) fun y7 h=>
 ae (some (y24,h)) fun y8 h=>
 k60s3 C (aJ 82 (up x [(4,y4),(5,y5),(6,y6),(7,y7),(8,y8),(16,y16),(17,y17),(18,y18),(19,y19),(20,y20),(21,y21),(22,y22),(23,y23),(24,y24)])) h
theorem t60s2_eq (C:au) (x:Nat→Value) (h:aj):k60s2 C (aJ 82 x) h=t60s2 C x h:=
 aR (a:=partOf Tryz.f60 [1,1,0]) (c:=partOf Tryz.f60 [1,1,1]) (by kernel_rfl) (k60s3 C) rfl (T:=t60s2 C) (fun x h=>by kernel_rfl) x h
noncomputable def t60s3 (C:au) (x:Nat→Value) (h:aj):Out:=
 ae (some ((x 4),h)) fun y25 h=>
 (match y25 with
 | .bool true=>
 let g2_0:=h
 ae (pu (aA (x 1) 3) g2_0) fun cV g2_1=>
 ae (aN cV g2_1) fun dn g2_2=>
 ae (pu (aA (x 1) 6) g2_2) fun y28 g2_3=>
 ae (aN y28 g2_3) fun y29 g2_4=>
 ae (pu (aA (x 3) 3) g2_4) fun y30 g2_5=>
 ae (bw 1 y30 dn g2_5) fun _ g2_6=>
 ae (pu (aA (x 3) 6) g2_6) fun y31 g2_7=>
 ae (bw 1 y31 y29 g2_7) fun _ g2_8=>
 (match (dH true (aN y28 g2_6) y29&&true) with
 |true=>
 let h:=g2_8
 ae (pu (aA (x 1) 0) h) fun y32 h=>
 ae (aN y32 h) fun y33 h=>
 ae (pu (bin Tryz.prog .eql 24 y33 (.int .u8 3)) h) fun y34 h=>
 (match y34 with
 | .bool true=>
 ae (pu (aA (x 1) 5) h) fun y35 h=>
 ae (aN y35 h) fun y36 h=>
 ae (pu (aA (x 3) 5) h) fun y37 h=>
 ae (bw 1 y37 y36 h) fun _ h=>
 k60s4 C (aJ 82 (up x [(25,y25),(26,cV),(27,dn),(28,y28),(29,y29),(30,y30),(31,y31),(32,y32),(33,y33),(34,y34),(35,y35),(36,y36),(37,y37)])) h
 | .bool false=>
 ae (pu (aA (x 1) 4) h) fun y38 h=>
 ae (aN y38 h) fun y39 h=>
 ae (pu (aA (x 3) 4) h) fun y40 h=>
 ae (bw 1 y40 y39 h) fun _ h=>
 k60s4 C (aJ 82 (up x [(25,y25),(26,cV),(27,dn),(28,y28),(29,y29),(30,y30),(31,y31),(32,y32),(33,y33),(34,y34),(38,y38),(39,y39),(40,y40)])) h
 |_=>none)
 |false=>none)
 | .bool false=>
 k60s4 C (aJ 82 (up x [(25,y25)])) h
 |_=>none)
theorem t60s3_eq (C:au) (x:Nat→Value) (h:aj):k60s3 C (aJ 82 x) h=t60s3 C x h:=
 aR (a:=partOf Tryz.f60 [1,1,1,0]) (c:=partOf Tryz.f60 [1,1,1,1]) (by kernel_rfl) (k60s4 C) rfl (T:=t60s3 C) (fun x h=>by kernel_rfl) x h
noncomputable def t60s4 (C:au) (x:Nat→Value) (h:aj):Out:=
 ae (some ((x 5),h)) fun y41 h=>
 (match y41 with
 | .bool true=>
 let g1_0:=h
 ae (pu (aA (x 1) 7) g1_0) fun y42 g1_1=>
 ae (aN y42 g1_1) fun y43 g1_2=>
 ae (pu (aA (x 1) 8) g1_2) fun y44 g1_3=>
 ae (aN y44 g1_3) fun y45 g1_4=>
 ae (pu (aA (x 3) 7) g1_4) fun y46 g1_5=>
 ae (bw 1 y46 y43 g1_5) fun _ g1_6=>
 ae (pu (aA (x 3) 8) g1_6) fun y47 g1_7=>
 ae (bw 1 y47 y45 g1_7) fun _ g1_8=>
 (match (dH true (aN y44 g1_6) y45&&true) with
 |true=>
 let h:=g1_8
 k60s5 C (aJ 82 (up x [(41,y41),(42,y42),(43,y43),(44,y44),(45,y45),(46,y46),(47,y47)])) h
 |false=>none)
 | .bool false=>
 k60s5 C (aJ 82 (up x [(41,y41)])) h
 |_=>none)
theorem t60s4_eq (C:au) (x:Nat→Value) (h:aj):k60s4 C (aJ 82 x) h=t60s4 C x h:=
 aR (a:=partOf Tryz.f60 [1,1,1,1,0]) (c:=partOf Tryz.f60 [1,1,1,1,1]) (by kernel_rfl) (k60s5 C) rfl (T:=t60s4 C) (fun x h=>by kernel_rfl) x h
noncomputable def t60s5 (C:au) (x:Nat→Value) (h:aj):Out:=
 ae (some ((x 6),h)) fun y48 h=>
 (match y48 with
 | .bool true=>
 let g1_0:=h
 ae (pu (aA (x 1) 42) g1_0) fun y49 g1_1=>
 ae (aN y49 g1_1) fun y50 g1_2=>
 ae (pu (aA (x 1) 43) g1_2) fun y51 g1_3=>
 ae (aN y51 g1_3) fun y52 g1_4=>
 ae (pu (aA (x 3) 42) g1_4) fun eJ g1_5=>
 ae (bw 1 eJ y50 g1_5) fun _ g1_6=>
 ae (pu (aA (x 3) 43) g1_6) fun eN g1_7=>
 ae (bw 1 eN y52 g1_7) fun _ g1_8=>
 (match (dH true (aN y51 g1_6) y52&&true) with
 |true=>
 let h:=g1_8
 k60s6 C (aJ 82 (up x [(48,y48),(49,y49),(50,y50),(51,y51),(52,y52),(53,eJ),(54,eN)])) h
 |false=>none)
 | .bool false=>
 k60s6 C (aJ 82 (up x [(48,y48)])) h
 |_=>none)
theorem t60s5_eq (C:au) (x:Nat→Value) (h:aj):k60s5 C (aJ 82 x) h=t60s5 C x h:=
 aR (a:=partOf Tryz.f60 [1,1,1,1,1,0]) (c:=partOf Tryz.f60 [1,1,1,1,1,1]) (by kernel_rfl) (k60s6 C) rfl (T:=t60s5 C) (fun x h=>by kernel_rfl) x h
noncomputable def t60s6 (C:au) (x:Nat→Value) (h:aj):Out:=
 ae (pu (aA (x 1) 0) h) fun y55 h=>
 ae (aN y55 h) fun y56 h=>
 ae (pu (bin Tryz.prog .eql 24 y56 (.int .u8 4)) h) fun y57 h=>
 (match y57 with
 | .bool true=>
 let g1_0:=h
 ae (pu (aA (x 1) 9) g1_0) fun y58 g1_1=>
 ae (aN y58 g1_1) fun y59 g1_2=>
 ae (pu (aA (x 1) 10) g1_2) fun y60 g1_3=>
 ae (bD 32 y60 g1_3) fun y61 g1_4=>
 ae (pu (aA (x 3) 9) g1_4) fun y62 g1_5=>
 ae (bw 1 y62 y59 g1_5) fun _ g1_6=>
 ae (pu (aA (x 3) 10) g1_6) fun y63 g1_7=>
 ae (bw 32 y63 y61 g1_7) fun _ g1_8=>
 (match (dH true (bD 32 y60 g1_6) y61&&true) with
 |true=>
 let h:=g1_8
 k60s7 C (aJ 82 (up x [(55,y55),(56,y56),(57,y57),(58,y58),(59,y59),(60,y60),(61,y61),(62,y62),(63,y63)])) h
 |false=>none)
 | .bool false=>
 k60s7 C (aJ 82 (up x [(55,y55),(56,y56),(57,y57)])) h
 |_=>none)
theorem t60s6_eq (C:au) (x:Nat→Value) (h:aj):k60s6 C (aJ 82 x) h=t60s6 C x h:=
 aR (a:=partOf Tryz.f60 [1,1,1,1,1,1,0]) (c:=partOf Tryz.f60 [1,1,1,1,1,1,1]) (by kernel_rfl) (k60s7 C) rfl (T:=t60s6 C) (fun x h=>by kernel_rfl) x h
noncomputable def t60s7 (C:au) (x:Nat→Value) (h:aj):Out:=
 ae (some ((x 7),h)) fun y64 h=>
 (match y64 with
 | .bool true=>
 ae (pu (aA (x 1) 44) h) fun y65 h=>
 ae (bD 32 y65 h) fun y66 h=>
 ae (pu (aA (x 3) 44) h) fun y67 h=>
 ae (bw 32 y67 y66 h) fun _ h=>
 k60s8 C (aJ 82 (up x [(64,y64),(65,y65),(66,y66),(67,y67)])) h
 | .bool false=>
 k60s8 C (aJ 82 (up x [(64,y64)])) h
 |_=>none)
theorem t60s7_eq (C:au) (x:Nat→Value) (h:aj):k60s7 C (aJ 82 x) h=t60s7 C x h:=
 aR (a:=partOf Tryz.f60 [1,1,1,1,1,1,1,0]) (c:=partOf Tryz.f60 [1,1,1,1,1,1,1,1]) (by kernel_rfl) (k60s8 C) rfl (T:=t60s7 C) (fun x h=>by kernel_rfl) x h
noncomputable def t60s8 (C:au) (x:Nat→Value) (h:aj):Out:=
 ae (some ((x 8),h)) fun y68 h=>
 (match y68 with
 | .bool true=>
 let g1_0:=h
 ae (pu (aA (x 1) 76) g1_0) fun y69 g1_1=>
 ae (bD 37 y69 g1_1) fun y70 g1_2=>
 ae (pu (aA (x 1) 113) g1_2) fun y71 g1_3=>
 ae (bD 2 y71 g1_3) fun y72 g1_4=>
 ae (pu (aA (x 3) 76) g1_4) fun y73 g1_5=>
 ae (bw 37 y73 y70 g1_5) fun _ g1_6=>
 ae (pu (aA (x 3) 113) g1_6) fun y74 g1_7=>
 ae (bw 2 y74 y72 g1_7) fun _ g1_8=>
 (match (dH true (bD 2 y71 g1_6) y72&&true) with
 |true=>
 let h:=g1_8
 k60s9 C (aJ 82 (up x [(68,y68),(69,y69),(70,y70),(71,y71),(72,y72),(73,y73),(74,y74)])) h
 |false=>none)
 | .bool false=>
 k60s9 C (aJ 82 (up x [(68,y68)])) h
 |_=>none)
theorem t60s8_eq (C:au) (x:Nat→Value) (h:aj):k60s8 C (aJ 82 x) h=t60s8 C x h:=
 aR (a:=partOf Tryz.f60 [1,1,1,1,1,1,1,1,0]) (c:=partOf Tryz.f60 [1,1,1,1,1,1,1,1,1]) (by kernel_rfl) (k60s9 C) rfl (T:=t60s8 C) (fun x h=>by kernel_rfl) x h
noncomputable def t60s9 (C:au) (x:Nat→Value) (h:aj):Out:=
 ae (pu (aA (x 1) 0) h) fun y75 h=>
 ae (aN y75 h) fun y76 h=>
 ae (pu (bin Tryz.prog .eql 24 y76 (.int .u8 11)) h) fun y77 h=>
 (match y77 with
 | .bool true=>
 ae (pu (aA (x 1) 115) h) fun y78 h=>
 ae (aN y78 h) fun y79 h=>
 ae (pu (aA (x 3) 115) h) fun y80 h=>
 ae (bw 1 y80 y79 h) fun _ h=>
 k60s10 C (aJ 82 (up x [(75,y75),(76,y76),(77,y77),(78,y78),(79,y79),(80,y80)])) h
 | .bool false=>
 k60s10 C (aJ 82 (up x [(75,y75),(76,y76),(77,y77)])) h
 |_=>none)
theorem t60s9_eq (C:au) (x:Nat→Value) (h:aj):k60s9 C (aJ 82 x) h=t60s9 C x h:=
 aR (a:=partOf Tryz.f60 [1,1,1,1,1,1,1,1,1,0]) (c:=partOf Tryz.f60 [1,1,1,1,1,1,1,1,1,1]) (by kernel_rfl) (k60s10 C) rfl (T:=t60s9 C) (fun x h=>by kernel_rfl) x h
noncomputable def t60s10 (_C:au) (x:Nat→Value) (h:aj):Out:=
 ae (bD 116 (x 3) h) fun y81 h=>
 ae (bw 116 (x 2) y81 h) fun _ h=>
 ar Tryz.prog Tryz.f60.results.toList (aJ 82 (up x [(81,y81)])) h
theorem t60s10_eq (C:au) (x:Nat→Value) (h:aj):k60s10 C (aJ 82 x) h=t60s10 C x h:=
 bg (b:=partOf Tryz.f60 [1,1,1,1,1,1,1,1,1,1]) (kE:=(ar Tryz.prog Tryz.f60.results.toList)) (rE:=(ar Tryz.prog Tryz.f60.results.toList)) (xE:=(fun _ _ _=>none)) (T:=t60s10 C) (fun x h=>by kernel_rfl) x h
theorem t60_eq (C:au) (x0:Value) (h:aj):bf Tryz.prog C Tryz.f60 [x0] h=k60s0 C (aJ 82 (bs [x0])) h:=by kernel_rfl
end Go.Proofs.YtjghlcdidopcpaaGreatDoor

namespace Go.Proofs.YtjghlcdidopcpaaGreatDoor
open Go Go.Abs
noncomputable def k25s0 (C:au) (e:Env) (h:aj):Out:=aT Tryz.prog C (partOf Tryz.f25 []) e h (ar Tryz.prog Tryz.f25.results.toList) (ar Tryz.prog Tryz.f25.results.toList) (fun _ _ _=>none)
noncomputable def k25s1 (C:au) (e:Env) (h:aj):Out:=aT Tryz.prog C (partOf Tryz.f25 [1]) e h (ar Tryz.prog Tryz.f25.results.toList) (ar Tryz.prog Tryz.f25.results.toList) (fun _ _ _=>none)
noncomputable def k25s2 (C:au) (e:Env) (h:aj):Out:=aT Tryz.prog C (partOf Tryz.f25 [1,1]) e h (ar Tryz.prog Tryz.f25.results.toList) (ar Tryz.prog Tryz.f25.results.toList) (fun _ _ _=>none)
noncomputable def k25s3 (C:au) (e:Env) (h:aj):Out:=aT Tryz.prog C (partOf Tryz.f25 [1,1,1]) e h (ar Tryz.prog Tryz.f25.results.toList) (ar Tryz.prog Tryz.f25.results.toList) (fun _ _ _=>none)
noncomputable def k25s4 (C:au) (e:Env) (h:aj):Out:=aT Tryz.prog C (partOf Tryz.f25 [1,1,1,1]) e h (ar Tryz.prog Tryz.f25.results.toList) (ar Tryz.prog Tryz.f25.results.toList) (fun _ _ _=>none)
noncomputable def k25s5 (C:au) (e:Env) (h:aj):Out:=aT Tryz.prog C (partOf Tryz.f25 [1,1,1,1,1]) e h (ar Tryz.prog Tryz.f25.results.toList) (ar Tryz.prog Tryz.f25.results.toList) (fun _ _ _=>none)
noncomputable def k25s6 (C:au) (e:Env) (h:aj):Out:=aT Tryz.prog C (partOf Tryz.f25 [1,1,1,1,1,1]) e h (ar Tryz.prog Tryz.f25.results.toList) (ar Tryz.prog Tryz.f25.results.toList) (fun _ _ _=>none)
noncomputable def b25_8 (C:au) (i:Nat) (e:Env) (h:aj):Out:=if i=0 then (k25s5 C) e h else (fun _ _ _=>none) i e h
noncomputable def t25s0 (C:au) (x:Nat→Value) (h:aj):Out:=
 ae (box (x 0) h) fun y1 h=>
 ae (some ((.bool false),h)) fun y2 h=>
 k25s1 C (aJ 142 (up x [(1,y1),(2,y2)])) h
noncomputable def t25s1 (C:au) (x:Nat→Value) (h:aj):Out:=
 let g1_0:=h
 ae (pu (aA (x 1) 0) g1_0) fun y4 g1_1=>
 ae (aN y4 g1_1) fun y5 g1_2=>
 ae (pu (bin Tryz.prog .lss 24 y5 (.int .u8 1)) g1_2) fun y6 g1_3=>
 ae (some (y6,g1_3)) fun y7 g1_4=>
 ae (aq (aI y7==some false) (pu (aA (x 1) 0) g1_4) g1_4) fun y8 g1_5=>
 ae (aq (aI y7==some false) (aN y8 g1_5) g1_5) fun y9 g1_6=>
 ae (aq (aI y7==some false) (pu (bin Tryz.prog .gtr 24 y9 (.int .u8 13)) g1_6) g1_6) fun y10 g1_7=>
 ae (match y7 with | .bool t=>some (if t then (.bool true) else y10,g1_7)|_=>none) fun y11 g1_8=>
 ae (some (y11,g1_8)) fun y12 g1_9=>
 ae (aq (aI y12==some false) (pu (aA (x 1) 1) g1_9) g1_9) fun y13 g1_10=>
 ae (aq (aI y12==some false) (aN y13 g1_10) g1_10) fun y14 g1_11=>
 ae (aq (aI y12==some false) (C 59 [y14] g1_11) g1_11) fun y15 g1_12=>
 ae (aq (aI y12==some false) (pu (unA .not y15) g1_12) g1_12) fun y16 g1_13=>
 ae (match y12 with | .bool t=>some (if t then (.bool true) else y16,g1_13)|_=>none) fun y17 g1_14=>
 ae (some (y17,g1_14)) fun y18 g1_15=>
 ae (aq (aI y18==some false) (pu (aA (x 1) 2) g1_15) g1_15) fun y19 g1_16=>
 ae (aq (aI y18==some false) (aN y19 g1_16) g1_16) fun y20 g1_17=>
 ae (aq (aI y18==some false) (C 59 [y20] g1_17) g1_17) fun y21 g1_18=>
 ae (aq (aI y18==some false) (pu (unA .not y21) g1_18) g1_18) fun y22 g1_19=>
 ae (match y18 with | .bool t=>some (if t then (.bool true) else y22,g1_19)|_=>none) fun y23 g1_20=>
 ae (some (y23,g1_20)) fun y24 g1_21=>
 ae (aq (aI y24==some false) (pu (aA (x 1) 1) g1_21) g1_21) fun y25 g1_22=>
 ae (aq (aI y24==some false) (aN y25 g1_22) g1_22) fun cV g1_23=>
 ae (aq (aI y24==some false) (pu (aA (x 1) 2) g1_23) g1_23) fun dn g1_24=>
 ae (aq (aI y24==some false) (aN dn g1_24) g1_24) fun y28 g1_25=>
 ae (aq (aI y24==some false) (pu (bin Tryz.prog .eql 3 cV y28) g1_25) g1_25) fun y29 g1_26=>
 ae (match y24 with | .bool t=>some (if t then (.bool true) else y29,g1_26)|_=>none) fun y30 g1_27=>
 ae (some (y30,g1_27)) fun y31 g1_28=>
 ae (aq (aI y31==some false) (bD 116 (x 1) g1_28) g1_28) fun y32 g1_29=>
 ae (aq (aI y31==some false) (bD 116 (x 1) g1_29) g1_29) fun y33 g1_30=>
 ae (aq (aI y31==some false) (C 60 [y33] g1_30) g1_30) fun y34 g1_31=>
 ae (aq (aI y31==some false) (C 15 [y32,y34] g1_31) g1_31) fun y35 g1_32=>
 ae (aq (aI y31==some false) (pu (unA .not y35) g1_32) g1_32) fun y36 g1_33=>
 ae (match y31 with | .bool t=>some (if t then (.bool true) else y36,g1_33)|_=>none) fun y37 g1_34=>
 (match (dH (aI y31==some false) (bD 116 (x 1) g1_31) y32&&true) with
 |true=>
 let h:=g1_34
 (match y37 with
 | .bool true=>
 ae (some ((.bool false),h)) fun y2 h=>
 some (y2,h)
 | .bool false=>
 k25s2 C (aJ 142 (up x [(4,y4),(5,y5),(6,y6),(7,y7),(8,y8),(9,y9),(10,y10),(11,y11),(12,y12),(13,y13),(14,y14),(15,y15),(16,y16),(17,y17),(18,y18),(19,y19),(20,y20),(21,y21),(22,y22),(23,y23),(24,y24),(25,y25),(26,cV),(27,dn),(28,y28),(29,y29),(30,y30),(31,y31),(32,y32),(33,y33),(34,y34),(35,y35),(36,y36),(37,y37)])) h
 |_=>none)
 |false=>none)
noncomputable def t25s2 (C:au) (x:Nat→Value) (h:aj):Out:=
 ae (pu (aA (x 1) 0) h) fun y38 h=>
 ae (aN y38 h) fun y39 h=>
 ae (pu (bin Tryz.prog .leq 24 y39 (.int .u8 3)) h) fun y40 h=>
 ae (some (y40,h)) fun y41 h=>
 ae (aq (aI y41==some true) (pu (aA (x 1) 4) h) h) fun y42 h=>
 ae (aq (aI y41==some true) (aN y42 h) h) fun y43 h=>
 ae (aq (aI y41==some true) (C 59 [y43] h) h) fun y44 h=>
 ae (aq (aI y41==some true) (pu (unA .not y44) h) h) fun y45 h=>
 ae (aq (aI y41==some true) (some (y45,h)) h) fun y46 h=>
 ae (aq (aI y46==some false) (pu (aA (x 1) 5) h) h) fun y47 h=>
 ae (aq (aI y46==some false) (aN y47 h) h) fun y48 h=>
 ae (aq (aI y46==some false) (C 59 [y48] h) h) fun y49 h=>
 ae (aq (aI y46==some false) (pu (unA .not y49) h) h) fun y50 h=>
 ae (aq (aI y41==some true) (match y46 with | .bool t=>some (if t then (.bool true) else y50,h)|_=>none) h) fun y51 h=>
 ae (aq (aI y41==some true) (some (y51,h)) h) fun y52 h=>
 ae (aq (aI y52==some false) (pu (aA (x 1) 6) h) h) fun eJ h=>
 ae (aq (aI y52==some false) (aN eJ h) h) fun eN h=>
 ae (aq (aI y52==some false) (C 61 [eN] h) h) fun y55 h=>
 ae (aq (aI y52==some false) (pu (unA .not y55) h) h) fun y56 h=>
 ae (aq (aI y41==some true) (match y52 with | .bool t=>some (if t then (.bool true) else y56,h)|_=>none) h) fun y57 h=>
 ae (match y41 with | .bool t=>some (if t then y57 else (.bool false),h)|_=>none) fun y58 h=>
 (match y58 with
 | .bool true=>
 ae (some ((.bool false),h)) fun y2 h=>
 some (y2,h)
 | .bool false=>
 k25s3 C (aJ 142 (up x [(38,y38),(39,y39),(40,y40),(41,y41),(42,y42),(43,y43),(44,y44),(45,y45),(46,y46),(47,y47),(48,y48),(49,y49),(50,y50),(51,y51),(52,y52),(53,eJ),(54,eN),(55,y55),(56,y56),(57,y57),(58,y58)])) h
 |_=>none)
noncomputable def t25s3 (C:au) (x:Nat→Value) (h:aj):Out:=
 ae (pu (aA (x 1) 7) h) fun y59 h=>
 ae (aN y59 h) fun y60 h=>
 ae (pu (bG y60) h) fun y61 h=>
 ae (pu (bin Tryz.prog .gtr 3 y61 (.int .i64 34)) h) fun y62 h=>
 ae (some (y62,h)) fun y63 h=>
 ae (aq (aI y63==some false) (pu (aA (x 1) 8) h) h) fun y64 h=>
 ae (aq (aI y63==some false) (aN y64 h) h) fun y65 h=>
 ae (aq (aI y63==some false) (pu (bG y65) h) h) fun y66 h=>
 ae (aq (aI y63==some false) (pu (bin Tryz.prog .gtr 3 y66 (.int .i64 34)) h) h) fun y67 h=>
 ae (match y63 with | .bool t=>some (if t then (.bool true) else y67,h)|_=>none) fun y68 h=>
 ae (some (y68,h)) fun y69 h=>
 ae (aq (aI y69==some false) (pu (aA (x 1) 9) h) h) fun y70 h=>
 ae (aq (aI y69==some false) (aN y70 h) h) fun y71 h=>
 ae (aq (aI y69==some false) (pu (bin Tryz.prog .lss 3 y71 (.int .i64 0)) h) h) fun y72 h=>
 ae (match y69 with | .bool t=>some (if t then (.bool true) else y72,h)|_=>none) fun y73 h=>
 ae (some (y73,h)) fun y74 h=>
 ae (aq (aI y74==some false) (pu (aA (x 1) 9) h) h) fun y75 h=>
 ae (aq (aI y74==some false) (aN y75 h) h) fun y76 h=>
 ae (aq (aI y74==some false) (pu (bin Tryz.prog .gtr 3 y76 (.int .i64 1048576)) h) h) fun y77 h=>
 ae (match y74 with | .bool t=>some (if t then (.bool true) else y77,h)|_=>none) fun y78 h=>
 ae (some (y78,h)) fun y79 h=>
 ae (aq (aI y79==some false) (pu (aA (x 1) 42) h) h) fun y80 h=>
 ae (aq (aI y79==some false) (aN y80 h) h) fun y81 h=>
 ae (aq (aI y79==some false) (pu (bG y81) h) h) fun y82 h=>
 ae (aq (aI y79==some false) (pu (bin Tryz.prog .gtr 3 y82 (.int .i64 64)) h) h) fun y83 h=>
 ae (match y79 with | .bool t=>some (if t then (.bool true) else y83,h)|_=>none) fun y84 h=>
 ae (some (y84,h)) fun y85 h=>
 ae (aq (aI y85==some false) (pu (aA (x 1) 115) h) h) fun y86 h=>
 ae (aq (aI y85==some false) (aN y86 h) h) fun y87 h=>
 ae (aq (aI y85==some false) (pu (bin Tryz.prog .lss 35 y87 (.int .i64 0)) h) h) fun y88 h=>
 ae (match y85 with | .bool t=>some (if t then (.bool true) else y88,h)|_=>none) fun y89 h=>
 ae (some (y89,h)) fun y90 h=>
 ae (aq (aI y90==some false) (pu (aA (x 1) 115) h) h) fun y91 h=>
 ae (aq (aI y90==some false) (aN y91 h) h) fun y92 h=>
 ae (aq (aI y90==some false) (pu (bin Tryz.prog .gtr 35 y92 (.int .i64 999)) h) h) fun y93 h=>
 ae (match y90 with | .bool t=>some (if t then (.bool true) else y93,h)|_=>none) fun y94 h=>
 (match y94 with
 | .bool true=>
 ae (some ((.bool false),h)) fun y2 h=>
 some (y2,h)
 | .bool false=>
 k25s4 C (aJ 142 (up x [(59,y59),(60,y60),(61,y61),(62,y62),(63,y63),(64,y64),(65,y65),(66,y66),(67,y67),(68,y68),(69,y69),(70,y70),(71,y71),(72,y72),(73,y73),(74,y74),(75,y75),(76,y76),(77,y77),(78,y78),(79,y79),(80,y80),(81,y81),(82,y82),(83,y83),(84,y84),(85,y85),(86,y86),(87,y87),(88,y88),(89,y89),(90,y90),(91,y91),(92,y92),(93,y93),(94,y94)])) h
 |_=>none)
noncomputable def t25s4 (C:au) (x:Nat→Value) (h:aj):Out:=
 ae (some ((.int .i64 0),h)) fun y3 h=>
 dX (iter (aM Tryz.prog C (partOf Tryz.f25 [1,1,1,1,0,1,0,0])) rounds (aJ 142 (up x [(3,y3)])) h) (ar Tryz.prog Tryz.f25.results.toList) (b25_8 C)
noncomputable def t25s5 (C:au) (x:Nat→Value) (h:aj):Out:=
 ae (pu (aA (x 1) 0) h) fun y109 h=>
 ae (aN y109 h) fun y110 h=>
 ae (pu (bin Tryz.prog .eql 24 y110 (.int .u8 8)) h) fun y111 h=>
 ae (some (y111,h)) fun y112 h=>
 ae (aq (aI y112==some false) (pu (aA (x 1) 0) h) h) fun y113 h=>
 ae (aq (aI y112==some false) (aN y113 h) h) fun y114 h=>
 ae (aq (aI y112==some false) (pu (bin Tryz.prog .eql 24 y114 (.int .u8 10)) h) h) fun y115 h=>
 ae (match y112 with | .bool t=>some (if t then (.bool true) else y115,h)|_=>none) fun y116 h=>
 (match y116 with
 | .bool true=>
 ae (pu (aA (x 1) 76) h) fun y117 h=>
 ae (bD 37 y117 h) fun y118 h=>
 ae (C 63 [y118] h) fun y119 h=>
 ae (some (y119,h)) fun y120 h=>
 ae (aq (aI y120==some true) (pu (aA (x 1) 113) h) h) fun y121 h=>
 ae (aq (aI y120==some true) (pu (aA y121 0) h) h) fun y122 h=>
 ae (aq (aI y120==some true) (aN y122 h) h) fun y123 h=>
 ae (aq (aI y120==some true) (pu (bin Tryz.prog .geq 3 y123 (.int .i64 0)) h) h) fun y124 h=>
 ae (match y120 with | .bool t=>some (if t then y124 else (.bool false),h)|_=>none) fun y125 h=>
 ae (some (y125,h)) fun y126 h=>
 ae (aq (aI y126==some true) (pu (aA (x 1) 113) h) h) fun y127 h=>
 ae (aq (aI y126==some true) (pu (aA y127 0) h) h) fun y128 h=>
 ae (aq (aI y126==some true) (aN y128 h) h) fun y129 h=>
 ae (aq (aI y126==some true) (pu (aA (x 1) 76) h) h) fun y130 h=>
 ae (aq (aI y126==some true) (pu (aA y130 2) h) h) fun y131 h=>
 ae (aq (aI y126==some true) (aN y131 h) h) fun y132 h=>
 ae (aq (aI y126==some true) (pu (bin Tryz.prog .lss 3 y129 y132) h) h) fun y133 h=>
 ae (match y126 with | .bool t=>some (if t then y133 else (.bool false),h)|_=>none) fun y134 h=>
 ae (some (y134,h)) fun y135 h=>
 ae (aq (aI y135==some true) (pu (aA (x 1) 113) h) h) fun y136 h=>
 ae (aq (aI y135==some true) (pu (aA y136 1) h) h) fun y137 h=>
 ae (aq (aI y135==some true) (aN y137 h) h) fun y138 h=>
 ae (aq (aI y135==some true) (pu (bG y138) h) h) fun y139 h=>
 ae (aq (aI y135==some true) (pu (bin Tryz.prog .leq 3 y139 (.int .i64 8192)) h) h) fun y140 h=>
 ae (match y135 with | .bool t=>some (if t then y140 else (.bool false),h)|_=>none) fun y141 h=>
 ae (some (y141,h)) fun y2 h=>
 some (y2,h)
 | .bool false=>
 k25s6 C (aJ 142 (up x [(109,y109),(110,y110),(111,y111),(112,y112),(113,y113),(114,y114),(115,y115),(116,y116)])) h
 |_=>none)
noncomputable def t25s6 (_C:au) (_x:Nat→Value) (h:aj):Out:=
 ae (some ((.bool true),h)) fun y2 h=>
 some (y2,h)
noncomputable def gm (C:au) (x:Nat→Value) (h:aj):Option (Ex×Env×aj):=
 ae (some ((x 3),h)) fun y95 h=>
 ae (pu (aA (x 1) 42) h) fun y96 h=>
 ae (aN y96 h) fun y97 h=>
 ae (pu (bG y97) h) fun y98 h=>
 ae (pu (bin Tryz.prog .lss 3 y95 y98) h) fun y99 h=>
 (match y99 with
 | .bool true=>
 ae (pu (aA (x 1) 42) h) fun y102 h=>
 ae (aN y102 h) fun y103 h=>
 ae (some ((x 3),h)) fun y104 h=>
 ae (pu (bB 39 y103 y104) h) fun y105 h=>
 ae (bD 39 y105 h) fun y106 h=>
 ae (C 62 [y106] h) fun y107 h=>
 ae (pu (unA .not y107) h) fun y108 h=>
 (match y108 with
 | .bool true=>
 ae (some ((.bool false),h)) fun y2 h=>
 some (.ret,(aJ 142 (up x [(2,y2),(95,y95),(96,y96),(97,y97),(98,y98),(99,y99),(102,y102),(103,y103),(104,y104),(105,y105),(106,y106),(107,y107),(108,y108)])),h)
 | .bool false=>
 ae (some ((x 3),h)) fun y100 h=>
 ae (pu (bin Tryz.prog .add 3 y100 (.int .i64 1)) h) fun y101 h=>
 ae (some (y101,h)) fun y3 h=>
 some (.normal,(aJ 142 (up x [(3,y3),(95,y95),(96,y96),(97,y97),(98,y98),(99,y99),(100,y100),(101,y101),(102,y102),(103,y103),(104,y104),(105,y105),(106,y106),(107,y107),(108,y108)])),h)
 |_=>none)
 | .bool false=>
 some (.exit 0,(aJ 142 (up x [(95,y95),(96,y96),(97,y97),(98,y98),(99,y99)])),h)
 |_=>none)
theorem t25s0_eq (C:au) (x:Nat→Value) (h:aj):k25s0 C (aJ 142 x) h=t25s0 C x h:=
 aR (a:=partOf Tryz.f25 [0]) (c:=partOf Tryz.f25 [1]) (by kernel_rfl) (k25s1 C) rfl (T:=t25s0 C) (fun x h=>by kernel_rfl) x h
theorem t25s1_eq (C:au) (x:Nat→Value) (h:aj):k25s1 C (aJ 142 x) h=t25s1 C x h:=
 aR (a:=partOf Tryz.f25 [1,0]) (c:=partOf Tryz.f25 [1,1]) (by kernel_rfl) (k25s2 C) rfl (T:=t25s1 C) (fun x h=>by kernel_rfl) x h
theorem t25s2_eq (C:au) (x:Nat→Value) (h:aj):k25s2 C (aJ 142 x) h=t25s2 C x h:=
 aR (a:=partOf Tryz.f25 [1,1,0]) (c:=partOf Tryz.f25 [1,1,1]) (by kernel_rfl) (k25s3 C) rfl (T:=t25s2 C) (fun x h=>by kernel_rfl) x h
theorem t25s3_eq (C:au) (x:Nat→Value) (h:aj):k25s3 C (aJ 142 x) h=t25s3 C x h:=
 aR (a:=partOf Tryz.f25 [1,1,1,0]) (c:=partOf Tryz.f25 [1,1,1,1]) (by kernel_rfl) (k25s4 C) rfl (T:=t25s3 C) (fun x h=>by kernel_rfl) x h
theorem t25s4_eq (C:au) (x:Nat→Value) (h:aj):k25s4 C (aJ 142 x) h=t25s4 C x h:=
 aR (a:=partOf Tryz.f25 [1,1,1,1,0]) (c:=partOf Tryz.f25 [1,1,1,1,1]) (by kernel_rfl) (k25s5 C) rfl (T:=t25s4 C) (fun x h=>by kernel_rfl) x h
theorem t25s5_eq (C:au) (x:Nat→Value) (h:aj):k25s5 C (aJ 142 x) h=t25s5 C x h:=
 aR (a:=partOf Tryz.f25 [1,1,1,1,1,0]) (c:=partOf Tryz.f25 [1,1,1,1,1,1]) (by kernel_rfl) (k25s6 C) rfl (T:=t25s5 C) (fun x h=>by kernel_rfl) x h
theorem t25s6_eq (C:au) (x:Nat→Value) (h:aj):k25s6 C (aJ 142 x) h=t25s6 C x h:=
 bg (b:=partOf Tryz.f25 [1,1,1,1,1,1]) (kE:=(ar Tryz.prog Tryz.f25.results.toList)) (rE:=(ar Tryz.prog Tryz.f25.results.toList)) (xE:=(fun _ _ _=>none)) (T:=t25s6 C) (fun x h=>by kernel_rfl) x h
theorem t25_eq (C:au) (x0:Value) (h:aj):bf Tryz.prog C Tryz.f25 [x0] h=k25s0 C (aJ 142 (bs [x0])) h:=by kernel_rfl
theorem t25l25_1111010_eq (C:au) (x:Nat→Value) (h:aj):aM Tryz.prog C (partOf Tryz.f25 [1,1,1,1,0,1,0,0]) (aJ 142 x) h=gm C x h:=
 bn (T:=gm C) (fun x h=>by kernel_rfl) x h
end Go.Proofs.YtjghlcdidopcpaaGreatDoor

namespace Go.Proofs.YtjghlcdidopcpaaGreatDoor
open Go Go.Abs
noncomputable def k82s0 (C:au) (e:Env) (h:aj):Out:=aT Tryz.prog C (partOf Tryz.f82 []) e h (ar Tryz.prog Tryz.f82.results.toList) (ar Tryz.prog Tryz.f82.results.toList) (fun _ _ _=>none)
noncomputable def k82s1 (C:au) (e:Env) (h:aj):Out:=aT Tryz.prog C (partOf Tryz.f82 [1]) e h (ar Tryz.prog Tryz.f82.results.toList) (ar Tryz.prog Tryz.f82.results.toList) (fun _ _ _=>none)
noncomputable def k82s2 (C:au) (e:Env) (h:aj):Out:=aT Tryz.prog C (partOf Tryz.f82 [1,1]) e h (ar Tryz.prog Tryz.f82.results.toList) (ar Tryz.prog Tryz.f82.results.toList) (fun _ _ _=>none)
noncomputable def k82s3 (C:au) (e:Env) (h:aj):Out:=aT Tryz.prog C (partOf Tryz.f82 [1,1,1]) e h (ar Tryz.prog Tryz.f82.results.toList) (ar Tryz.prog Tryz.f82.results.toList) (fun _ _ _=>none)
noncomputable def k82s4 (C:au) (e:Env) (h:aj):Out:=aT Tryz.prog C (partOf Tryz.f82 [1,1,1,1]) e h (ar Tryz.prog Tryz.f82.results.toList) (ar Tryz.prog Tryz.f82.results.toList) (fun _ _ _=>none)
noncomputable def k82s5 (C:au) (e:Env) (h:aj):Out:=aT Tryz.prog C (partOf Tryz.f82 [1,1,1,1,1]) e h (ar Tryz.prog Tryz.f82.results.toList) (ar Tryz.prog Tryz.f82.results.toList) (fun _ _ _=>none)
noncomputable def k82s6 (C:au) (e:Env) (h:aj):Out:=aT Tryz.prog C (partOf Tryz.f82 [1,1,1,1,1,1]) e h (ar Tryz.prog Tryz.f82.results.toList) (ar Tryz.prog Tryz.f82.results.toList) (fun _ _ _=>none)
noncomputable def b82_8 (C:au) (i:Nat) (e:Env) (h:aj):Out:=if i=0 then (k82s6 C) e h else (fun _ _ _=>none) i e h
noncomputable def t82s0 (C:au) (x:Nat→Value) (h:aj):Out:=
 ae (cL Zr h) fun y2 h=>
 ae (some ((.int .i64 0),h)) fun y3 h=>
 k82s1 C (aJ 62 (up x [(2,y2),(3,y3)])) h
noncomputable def t82s1 (C:au) (x:Nat→Value) (h:aj):Out:=
 ae (some ((x 0),h)) fun y6 h=>
 ae (pu (bG y6) h) fun y7 h=>
 ae (pu (bin Tryz.prog .lss 3 y7 (.int .i64 53)) h) fun y8 h=>
 (match y8 with
 | .bool true=>
 ae (pu (bU Zr []) h) fun y9 h=>
 ae (bw 39 (x 2) y9 h) fun _ h=>
 ae (some ((.int .i64 4),h)) fun y3 h=>
 ar Tryz.prog Tryz.f82.results.toList (aJ 62 (up x [(3,y3),(6,y6),(7,y7),(8,y8),(9,y9)])) h
 | .bool false=>
 k82s2 C (aJ 62 (up x [(6,y6),(7,y7),(8,y8)])) h
 |_=>none)
noncomputable def t82s2 (C:au) (x:Nat→Value) (h:aj):Out:=
 ae (some ((x 0),h)) fun y10 h=>
 ae (pu (bG y10) h) fun y11 h=>
 ae (pu (bin Tryz.prog .gtr 3 y11 (.int .i64 53)) h) fun y12 h=>
 (match y12 with
 | .bool true=>
 ae (pu (bU Zr []) h) fun y13 h=>
 ae (bw 39 (x 2) y13 h) fun _ h=>
 ae (some ((.int .i64 3),h)) fun y3 h=>
 ar Tryz.prog Tryz.f82.results.toList (aJ 62 (up x [(3,y3),(10,y10),(11,y11),(12,y12),(13,y13)])) h
 | .bool false=>
 k82s3 C (aJ 62 (up x [(10,y10),(11,y11),(12,y12)])) h
 |_=>none)
noncomputable def t82s3 (C:au) (x:Nat→Value) (h:aj):Out:=
 ae (some ((x 0),h)) fun y14 h=>
 ae (pu (bB 1 y14 (.int .i64 50)) h) fun y15 h=>
 ae (aN y15 h) fun y16 h=>
 ae (pu (bin Tryz.prog .gtr 5 y16 (.int .u8 1)) h) fun y17 h=>
 (match y17 with
 | .bool true=>
 ae (pu (bU Zr []) h) fun y18 h=>
 ae (bw 39 (x 2) y18 h) fun _ h=>
 ae (some ((.int .i64 5),h)) fun y3 h=>
 ar Tryz.prog Tryz.f82.results.toList (aJ 62 (up x [(3,y3),(14,y14),(15,y15),(16,y16),(17,y17),(18,y18)])) h
 | .bool false=>
 k82s4 C (aJ 62 (up x [(14,y14),(15,y15),(16,y16),(17,y17)])) h
 |_=>none)
noncomputable def t82s4 (C:au) (x:Nat→Value) (h:aj):Out:=
 let g6_0:=h
 ae (some ((x 0),g6_0)) fun y19 g6_1=>
 ae (pu (bB 1 y19 (.int .i64 0)) g6_1) fun y20 g6_2=>
 ae (aN y20 g6_2) fun y21 g6_3=>
 ae (some ((x 0),g6_3)) fun y22 g6_4=>
 ae (pu (bB 1 y22 (.int .i64 33)) g6_4) fun y23 g6_5=>
 ae (aN y23 g6_5) fun y24 g6_6=>
 ae (fc .i64 y24 g6_6) fun y25 g6_7=>
 ae (some ((x 0),g6_7)) fun cV g6_8=>
 ae (pu (slR 1 cV (some (.int .i64 34)) (some (.int .i64 42)) none) g6_8) fun dn g6_9=>
 ae (C 38 [dn] g6_9) fun y28 g6_10=>
 ae (some ((x 0),g6_10)) fun y29 g6_11=>
 ae (pu (slR 1 y29 (some (.int .i64 42)) (some (.int .i64 50)) none) g6_11) fun y30 g6_12=>
 ae (C 38 [y30] g6_12) fun y31 g6_13=>
 ae (some ((x 0),g6_13)) fun y32 g6_14=>
 ae (pu (bB 1 y32 (.int .i64 50)) g6_14) fun y33 g6_15=>
 ae (aN y33 g6_15) fun y34 g6_16=>
 ae (pu (bin Tryz.prog .eql 5 y34 (.int .u8 1)) g6_16) fun y35 g6_17=>
 ae (some ((x 0),g6_17)) fun y36 g6_18=>
 ae (pu (bB 1 y36 (.int .i64 51)) g6_18) fun y37 g6_19=>
 ae (aN y37 g6_19) fun y38 g6_20=>
 ae (fc .i64 y38 g6_20) fun y39 g6_21=>
 ae (some ((x 0),g6_21)) fun y40 g6_22=>
 ae (pu (bB 1 y40 (.int .i64 52)) g6_22) fun y41 g6_23=>
 ae (aN y41 g6_23) fun y42 g6_24=>
 ae (fc .i64 y42 g6_24) fun y43 g6_25=>
 ae (pu (bU Zr [(0,1,y21),(33,1,y25),(34,1,y28),(35,1,y31),(36,1,y35),(37,1,y39),(38,1,y43)]) g6_25) fun y44 g6_26=>
 ae (cL Zr g6_26) fun y4 g6_27=>
 ae (bw 39 y4 y44 g6_27) fun _ g6_28=>
 (match (dH true (aN y20 g6_10) y21&&(dH true (aN y20 g6_13) y21&&(dH true (aN y23 g6_10) y24&&(dH true (aN y23 g6_13) y24&&(dH true (fc .i64 y24 g6_10) y25&&(dH true (fc .i64 y24 g6_13) y25&&(dH true (aN y33 g6_9) y34&&(dH true (aN y33 g6_12) y34&&(dH true (aN y37 g6_9) y38&&(dH true (aN y37 g6_12) y38&&(dH true (fc .i64 y38 g6_9) y39&&(dH true (fc .i64 y38 g6_12) y39&&(dH true (aN y41 g6_9) y42&&(dH true (aN y41 g6_12) y42&&(dH true (fc .i64 y42 g6_9) y43&&(dH true (fc .i64 y42 g6_12) y43&&true)))))))))))))))) with
 |true=>
 let h:=g6_28
 k82s5 C (aJ 62 (up x [(4,y4),(19,y19),(20,y20),(21,y21),(22,y22),(23,y23),(24,y24),(25,y25),(26,cV),(27,dn),(28,y28),(29,y29),(30,y30),(31,y31),(32,y32),(33,y33),(34,y34),(35,y35),(36,y36),(37,y37),(38,y38),(39,y39),(40,y40),(41,y41),(42,y42),(43,y43),(44,y44)])) h
 |false=>none)
noncomputable def t82s5 (C:au) (x:Nat→Value) (h:aj):Out:=
 ae (some ((.int .i64 0),h)) fun y5 h=>
 dX (iter (aM Tryz.prog C (partOf Tryz.f82 [1,1,1,1,1,0,1,0,0])) rounds (aJ 62 (up x [(5,y5)])) h) (ar Tryz.prog Tryz.f82.results.toList) (b82_8 C)
noncomputable def t82s6 (C:au) (x:Nat→Value) (h:aj):Out:=
 ae (bD 39 (x 4) h) fun y57 h=>
 ae (C 62 [y57] h) fun y58 h=>
 ae (pu (unA .not y58) h) fun y59 h=>
 (match y59 with
 | .bool true=>
 ae (pu (bU Zr []) h) fun y60 h=>
 ae (bw 39 (x 2) y60 h) fun _ h=>
 ae (some ((.int .i64 2),h)) fun y3 h=>
 ar Tryz.prog Tryz.f82.results.toList (aJ 62 (up x [(3,y3),(57,y57),(58,y58),(59,y59),(60,y60)])) h
 | .bool false=>
 ae (bD 39 (x 4) h) fun y61 h=>
 ae (bw 39 (x 2) y61 h) fun _ h=>
 ae (some ((.int .i64 0),h)) fun y3 h=>
 ar Tryz.prog Tryz.f82.results.toList (aJ 62 (up x [(3,y3),(57,y57),(58,y58),(59,y59),(61,y61)])) h
 |_=>none)
noncomputable def fI (_C:au) (x:Nat→Value) (h:aj):Option (Ex×Env×aj):=
 ae (some ((x 5),h)) fun y45 h=>
 ae (pu (bin Tryz.prog .lss 3 y45 (.int .i64 32)) h) fun y46 h=>
 (match y46 with
 | .bool true=>
 ae (some ((x 5),h)) fun y49 h=>
 ae (some ((x 0),h)) fun y50 h=>
 ae (some ((x 5),h)) fun y51 h=>
 ae (pu (bin Tryz.prog .add 3 (.int .i64 1) y51) h) fun y52 h=>
 ae (pu (bB 1 y50 y52) h) fun eJ h=>
 ae (aN eJ h) fun eN h=>
 ae (pu (aA (x 4) 1) h) fun y55 h=>
 ae (pu (idxA 32 1 y55 y49) h) fun y56 h=>
 ae (bw 1 y56 eN h) fun _ h=>
 ae (some ((x 5),h)) fun y47 h=>
 ae (pu (bin Tryz.prog .add 3 y47 (.int .i64 1)) h) fun y48 h=>
 ae (some (y48,h)) fun y5 h=>
 some (.normal,(aJ 62 (up x [(5,y5),(45,y45),(46,y46),(47,y47),(48,y48),(49,y49),(50,y50),(51,y51),(52,y52),(53,eJ),(54,eN),(55,y55),(56,y56)])),h)
 | .bool false=>
 some (.exit 0,(aJ 62 (up x [(45,y45),(46,y46)])),h)
 |_=>none)
theorem t82s0_eq (C:au) (x:Nat→Value) (h:aj):k82s0 C (aJ 62 x) h=t82s0 C x h:=
 aR (a:=partOf Tryz.f82 [0]) (c:=partOf Tryz.f82 [1]) (by kernel_rfl) (k82s1 C) rfl (T:=t82s0 C) (fun x h=>by kernel_rfl) x h
theorem t82s1_eq (C:au) (x:Nat→Value) (h:aj):k82s1 C (aJ 62 x) h=t82s1 C x h:=
 aR (a:=partOf Tryz.f82 [1,0]) (c:=partOf Tryz.f82 [1,1]) (by kernel_rfl) (k82s2 C) rfl (T:=t82s1 C) (fun x h=>by kernel_rfl) x h
theorem t82s2_eq (C:au) (x:Nat→Value) (h:aj):k82s2 C (aJ 62 x) h=t82s2 C x h:=
 aR (a:=partOf Tryz.f82 [1,1,0]) (c:=partOf Tryz.f82 [1,1,1]) (by kernel_rfl) (k82s3 C) rfl (T:=t82s2 C) (fun x h=>by kernel_rfl) x h
theorem t82s3_eq (C:au) (x:Nat→Value) (h:aj):k82s3 C (aJ 62 x) h=t82s3 C x h:=
 aR (a:=partOf Tryz.f82 [1,1,1,0]) (c:=partOf Tryz.f82 [1,1,1,1]) (by kernel_rfl) (k82s4 C) rfl (T:=t82s3 C) (fun x h=>by kernel_rfl) x h
theorem t82s4_eq (C:au) (x:Nat→Value) (h:aj):k82s4 C (aJ 62 x) h=t82s4 C x h:=
 aR (a:=partOf Tryz.f82 [1,1,1,1,0]) (c:=partOf Tryz.f82 [1,1,1,1,1]) (by kernel_rfl) (k82s5 C) rfl (T:=t82s4 C) (fun x h=>by kernel_rfl) x h
theorem t82s5_eq (C:au) (x:Nat→Value) (h:aj):k82s5 C (aJ 62 x) h=t82s5 C x h:=
 aR (a:=partOf Tryz.f82 [1,1,1,1,1,0]) (c:=partOf Tryz.f82 [1,1,1,1,1,1]) (by kernel_rfl) (k82s6 C) rfl (T:=t82s5 C) (fun x h=>by kernel_rfl) x h
theorem t82s6_eq (C:au) (x:Nat→Value) (h:aj):k82s6 C (aJ 62 x) h=t82s6 C x h:=
 bg (b:=partOf Tryz.f82 [1,1,1,1,1,1]) (kE:=(ar Tryz.prog Tryz.f82.results.toList)) (rE:=(ar Tryz.prog Tryz.f82.results.toList)) (xE:=(fun _ _ _=>none)) (T:=t82s6 C) (fun x h=>by kernel_rfl) x h
theorem t82_eq (C:au) (x0:Value) (h:aj):bf Tryz.prog C Tryz.f82 [x0] h=k82s0 C (aJ 62 (bs [x0])) h:=by kernel_rfl
theorem t82l82_11111010_eq (C:au) (x:Nat→Value) (h:aj):aM Tryz.prog C (partOf Tryz.f82 [1,1,1,1,1,0,1,0,0]) (aJ 62 x) h=fI C x h:=
 bn (T:=fI C) (fun x h=>by kernel_rfl) x h
end Go.Proofs.YtjghlcdidopcpaaGreatDoor

namespace Go.Proofs.YtjghlcdidopcpaaGreatDoor
open Go Go.Abs
noncomputable def k83s0 (C:au) (e:Env) (h:aj):Out:=aT Tryz.prog C (partOf Tryz.f83 []) e h (ar Tryz.prog Tryz.f83.results.toList) (ar Tryz.prog Tryz.f83.results.toList) (fun _ _ _=>none)
noncomputable def k83s1 (C:au) (e:Env) (h:aj):Out:=aT Tryz.prog C (partOf Tryz.f83 [1]) e h (ar Tryz.prog Tryz.f83.results.toList) (ar Tryz.prog Tryz.f83.results.toList) (fun _ _ _=>none)
noncomputable def k83s2 (C:au) (e:Env) (h:aj):Out:=aT Tryz.prog C (partOf Tryz.f83 [1,1]) e h (ar Tryz.prog Tryz.f83.results.toList) (ar Tryz.prog Tryz.f83.results.toList) (fun _ _ _=>none)
noncomputable def k83s3 (C:au) (e:Env) (h:aj):Out:=aT Tryz.prog C (partOf Tryz.f83 [1,1,1]) e h (ar Tryz.prog Tryz.f83.results.toList) (ar Tryz.prog Tryz.f83.results.toList) (fun _ _ _=>none)
noncomputable def k83s4 (C:au) (e:Env) (h:aj):Out:=aT Tryz.prog C (partOf Tryz.f83 [1,1,1,1]) e h (ar Tryz.prog Tryz.f83.results.toList) (ar Tryz.prog Tryz.f83.results.toList) (fun _ _ _=>none)
noncomputable def k83s5 (C:au) (e:Env) (h:aj):Out:=aT Tryz.prog C (partOf Tryz.f83 [1,1,1,1,1]) e h (ar Tryz.prog Tryz.f83.results.toList) (ar Tryz.prog Tryz.f83.results.toList) (fun _ _ _=>none)
noncomputable def k83s6 (C:au) (e:Env) (h:aj):Out:=aT Tryz.prog C (partOf Tryz.f83 [1,1,1,1,1,1]) e h (ar Tryz.prog Tryz.f83.results.toList) (ar Tryz.prog Tryz.f83.results.toList) (fun _ _ _=>none)
noncomputable def k83s7 (C:au) (e:Env) (h:aj):Out:=aT Tryz.prog C (partOf Tryz.f83 [1,1,1,1,1,1,1]) e h (ar Tryz.prog Tryz.f83.results.toList) (ar Tryz.prog Tryz.f83.results.toList) (fun _ _ _=>none)
noncomputable def k83s8 (C:au) (e:Env) (h:aj):Out:=aT Tryz.prog C (partOf Tryz.f83 [1,1,1,1,1,1,1,1]) e h (ar Tryz.prog Tryz.f83.results.toList) (ar Tryz.prog Tryz.f83.results.toList) (fun _ _ _=>none)
noncomputable def k83_10 (C:au) (e:Env) (h:aj):Out:=aT Tryz.prog C (partOf Tryz.f83 [1,1,1,1,1,1,1,1,1]) e h (ar Tryz.prog Tryz.f83.results.toList) (ar Tryz.prog Tryz.f83.results.toList) (fun _ _ _=>none)
noncomputable def b83_12 (C:au) (i:Nat) (e:Env) (h:aj):Out:=if i=0 then (k83_10 C) e h else (fun _ _ _=>none) i e h
noncomputable def t83s0 (C:au) (x:Nat→Value) (h:aj):Out:=
 ae (cL Zg h) fun y2 h=>
 ae (some ((.int .i64 0),h)) fun y3 h=>
 k83s1 C (aJ 94 (up x [(2,y2),(3,y3)])) h
noncomputable def t83s1 (C:au) (x:Nat→Value) (h:aj):Out:=
 ae (some ((x 0),h)) fun y6 h=>
 ae (pu (bG y6) h) fun y7 h=>
 ae (pu (bin Tryz.prog .lss 3 y7 (.int .i64 7)) h) fun y8 h=>
 (match y8 with
 | .bool true=>
 ae (pu (bU Zg []) h) fun y9 h=>
 ae (bw 37 (x 2) y9 h) fun _ h=>
 ae (some ((.int .i64 4),h)) fun y3 h=>
 ar Tryz.prog Tryz.f83.results.toList (aJ 94 (up x [(3,y3),(6,y6),(7,y7),(8,y8),(9,y9)])) h
 | .bool false=>
 k83s2 C (aJ 94 (up x [(6,y6),(7,y7),(8,y8)])) h
 |_=>none)
noncomputable def t83s2 (C:au) (x:Nat→Value) (h:aj):Out:=
 ae (some ((x 0),h)) fun y10 h=>
 ae (pu (bB 1 y10 (.int .i64 0)) h) fun y11 h=>
 ae (aN y11 h) fun y12 h=>
 ae (pu (bin Tryz.prog .neq 5 y12 (.int .u8 77)) h) fun y13 h=>
 ae (some (y13,h)) fun y14 h=>
 ae (aq (aI y14==some false) (some ((x 0),h)) h) fun y15 h=>
 ae (aq (aI y14==some false) (pu (bB 1 y15 (.int .i64 1)) h) h) fun y16 h=>
 ae (aq (aI y14==some false) (aN y16 h) h) fun y17 h=>
 ae (aq (aI y14==some false) (pu (bin Tryz.prog .neq 5 y17 (.int .u8 1)) h) h) fun y18 h=>
 ae (match y14 with | .bool t=>some (if t then (.bool true) else y18,h)|_=>none) fun y19 h=>
 (match y19 with
 | .bool true=>
 ae (pu (bU Zg []) h) fun y20 h=>
 ae (bw 37 (x 2) y20 h) fun _ h=>
 ae (some ((.int .i64 5),h)) fun y3 h=>
 ar Tryz.prog Tryz.f83.results.toList (aJ 94 (up x [(3,y3),(10,y10),(11,y11),(12,y12),(13,y13),(14,y14),(15,y15),(16,y16),(17,y17),(18,y18),(19,y19),(20,y20)])) h
 | .bool false=>
 k83s3 C (aJ 94 (up x [(10,y10),(11,y11),(12,y12),(13,y13),(14,y14),(15,y15),(16,y16),(17,y17),(18,y18),(19,y19)])) h
 |_=>none)
noncomputable def t83s3 (C:au) (x:Nat→Value) (h:aj):Out:=
 ae (some ((x 0),h)) fun y21 h=>
 ae (pu (bB 1 y21 (.int .i64 2)) h) fun y22 h=>
 ae (aN y22 h) fun y23 h=>
 ae (fc .i64 y23 h) fun y24 h=>
 ae (some ((x 0),h)) fun y25 h=>
 ae (pu (bB 1 y25 (.int .i64 3)) h) fun cV h=>
 ae (aN cV h) fun dn h=>
 ae (fc .i64 dn h) fun y28 h=>
 ae (some ((x 0),h)) fun y29 h=>
 ae (pu (bB 1 y29 (.int .i64 4)) h) fun y30 h=>
 ae (aN y30 h) fun y31 h=>
 ae (fc .i64 y31 h) fun y32 h=>
 ae (some ((x 0),h)) fun y33 h=>
 ae (pu (bB 1 y33 (.int .i64 5)) h) fun y34 h=>
 ae (aN y34 h) fun y35 h=>
 ae (fc .i64 y35 h) fun y36 h=>
 ae (pu (bin Tryz.prog .mul 3 y36 (.int .i64 256)) h) fun y37 h=>
 ae (some ((x 0),h)) fun y38 h=>
 ae (pu (bB 1 y38 (.int .i64 6)) h) fun y39 h=>
 ae (aN y39 h) fun y40 h=>
 ae (fc .i64 y40 h) fun y41 h=>
 ae (pu (bin Tryz.prog .add 3 y37 y41) h) fun y42 h=>
 ae (pu (bU Zg [(0,1,y24),(1,1,y28),(2,1,y32),(3,1,y42)]) h) fun y43 h=>
 ae (cL Zg h) fun y4 h=>
 ae (bw 37 y4 y43 h) fun _ h=>
 k83s4 C (aJ 94 (up x [(4,y4),(21,y21),(22,y22),(23,y23),(24,y24),(25,y25),(26,cV),(27,dn),(28,y28),(29,y29),(30,y30),(31,y31),(32,y32),(33,y33),(34,y34),(35,y35),(36,y36),(37,y37),(38,y38),(39,y39),(40,y40),(41,y41),(42,y42),(43,y43)])) h
noncomputable def t83s4 (C:au) (x:Nat→Value) (h:aj):Out:=
 ae (pu (aA (x 4) 0) h) fun y44 h=>
 ae (aN y44 h) fun y45 h=>
 ae (pu (aA (x 4) 1) h) fun y46 h=>
 ae (aN y46 h) fun y47 h=>
 ae (pu (aA (x 4) 2) h) fun y48 h=>
 ae (aN y48 h) fun y49 h=>
 ae (C 92 [y45,y47,y49] h) fun y50 h=>
 ae (pu (unA .not y50) h) fun y51 h=>
 ae (some (y51,h)) fun y52 h=>
 ae (aq (aI y52==some false) (pu (aA (x 4) 3) h) h) fun eJ h=>
 ae (aq (aI y52==some false) (aN eJ h) h) fun eN h=>
 ae (aq (aI y52==some false) (pu (bin Tryz.prog .gtr 3 eN (.int .i64 8192)) h) h) fun y55 h=>
 ae (match y52 with | .bool t=>some (if t then (.bool true) else y55,h)|_=>none) fun y56 h=>
 (match y56 with
 | .bool true=>
 ae (pu (bU Zg []) h) fun y57 h=>
 ae (bw 37 (x 2) y57 h) fun _ h=>
 ae (some ((.int .i64 2),h)) fun y3 h=>
 ar Tryz.prog Tryz.f83.results.toList (aJ 94 (up x [(3,y3),(44,y44),(45,y45),(46,y46),(47,y47),(48,y48),(49,y49),(50,y50),(51,y51),(52,y52),(53,eJ),(54,eN),(55,y55),(56,y56),(57,y57)])) h
 | .bool false=>
 k83s5 C (aJ 94 (up x [(44,y44),(45,y45),(46,y46),(47,y47),(48,y48),(49,y49),(50,y50),(51,y51),(52,y52),(53,eJ),(54,eN),(55,y55),(56,y56)])) h
 |_=>none)
noncomputable def t83s5 (C:au) (x:Nat→Value) (h:aj):Out:=
 ae (some ((x 0),h)) fun y58 h=>
 ae (pu (bG y58) h) fun y59 h=>
 ae (pu (aA (x 4) 2) h) fun y60 h=>
 ae (aN y60 h) fun y61 h=>
 ae (pu (bin Tryz.prog .mul 3 (.int .i64 32) y61) h) fun y62 h=>
 ae (pu (bin Tryz.prog .add 3 (.int .i64 39) y62) h) fun y63 h=>
 ae (pu (bin Tryz.prog .lss 3 y59 y63) h) fun y64 h=>
 (match y64 with
 | .bool true=>
 ae (pu (bU Zg []) h) fun y65 h=>
 ae (bw 37 (x 2) y65 h) fun _ h=>
 ae (some ((.int .i64 4),h)) fun y3 h=>
 ar Tryz.prog Tryz.f83.results.toList (aJ 94 (up x [(3,y3),(58,y58),(59,y59),(60,y60),(61,y61),(62,y62),(63,y63),(64,y64),(65,y65)])) h
 | .bool false=>
 k83s6 C (aJ 94 (up x [(58,y58),(59,y59),(60,y60),(61,y61),(62,y62),(63,y63),(64,y64)])) h
 |_=>none)
noncomputable def t83s6 (C:au) (x:Nat→Value) (h:aj):Out:=
 ae (some ((x 0),h)) fun y66 h=>
 ae (pu (bG y66) h) fun y67 h=>
 ae (pu (aA (x 4) 2) h) fun y68 h=>
 ae (aN y68 h) fun y69 h=>
 ae (pu (bin Tryz.prog .mul 3 (.int .i64 32) y69) h) fun y70 h=>
 ae (pu (bin Tryz.prog .add 3 (.int .i64 39) y70) h) fun y71 h=>
 ae (pu (bin Tryz.prog .gtr 3 y67 y71) h) fun y72 h=>
 (match y72 with
 | .bool true=>
 ae (pu (bU Zg []) h) fun y73 h=>
 ae (bw 37 (x 2) y73 h) fun _ h=>
 ae (some ((.int .i64 5),h)) fun y3 h=>
 ar Tryz.prog Tryz.f83.results.toList (aJ 94 (up x [(3,y3),(66,y66),(67,y67),(68,y68),(69,y69),(70,y70),(71,y71),(72,y72),(73,y73)])) h
 | .bool false=>
 k83s7 C (aJ 94 (up x [(66,y66),(67,y67),(68,y68),(69,y69),(70,y70),(71,y71),(72,y72)])) h
 |_=>none)
noncomputable def t83s7 (C:au) (x:Nat→Value) (h:aj):Out:=
 ae (some ((x 0),h)) fun y74 h=>
 ae (C 122 [y74,(.int .i64 7)] h) fun y75 h=>
 ae (pu (aA (x 4) 4) h) fun y76 h=>
 ae (bw 32 y76 y75 h) fun _ h=>
 k83s8 C (aJ 94 (up x [(74,y74),(75,y75),(76,y76)])) h
noncomputable def t83s8 (C:au) (x:Nat→Value) (h:aj):Out:=
 ae (some ((.int .i64 0),h)) fun y5 h=>
 dX (iter (aM Tryz.prog C (partOf Tryz.f83 [1,1,1,1,1,1,1,1,0,1,0,0])) rounds (aJ 94 (up x [(5,y5)])) h) (ar Tryz.prog Tryz.f83.results.toList) (b83_12 C)
noncomputable def t83k83_10 (_C:au) (x:Nat→Value) (h:aj):Out:=
 ae (bD 37 (x 4) h) fun y93 h=>
 ae (bw 37 (x 2) y93 h) fun _ h=>
 ae (some ((.int .i64 0),h)) fun y3 h=>
 ar Tryz.prog Tryz.f83.results.toList (aJ 94 (up x [(3,y3),(93,y93)])) h
noncomputable def eo (C:au) (x:Nat→Value) (h:aj):Option (Ex×Env×aj):=
 ae (some ((x 5),h)) fun y77 h=>
 ae (pu (aA (x 4) 2) h) fun y78 h=>
 ae (aN y78 h) fun y79 h=>
 ae (pu (bin Tryz.prog .lss 3 y77 y79) h) fun y80 h=>
 (match y80 with
 | .bool true=>
 let g18_0:=h
 ae (pu (aA (x 4) 36) g18_0) fun y83 g18_1=>
 ae (aN y83 g18_1) fun y84 g18_2=>
 ae (some ((x 0),g18_2)) fun y85 g18_3=>
 ae (some ((x 5),g18_3)) fun y86 g18_4=>
 ae (pu (bin Tryz.prog .mul 3 (.int .i64 32) y86) g18_4) fun y87 g18_5=>
 ae (pu (bin Tryz.prog .add 3 (.int .i64 39) y87) g18_5) fun y88 g18_6=>
 ae (C 122 [y85,y88] g18_6) fun y89 g18_7=>
 ae (bslR 32 (.agg (List.replicate 32 (.int .u8 0)).toArray) 1 [(0,y89)] g18_7) fun y90 g18_8=>
 ae (cl 32 32 y84 y90 g18_8) fun y91 g18_9=>
 ae (pu (aA (x 4) 36) g18_9) fun y92 g18_10=>
 ae (bw 1 y92 y91 g18_10) fun _ g18_11=>
 (match (dH true (aN y83 g18_7) y84&&true) with
 |true=>
 let h:=g18_11
 ae (some ((x 5),h)) fun y81 h=>
 ae (pu (bin Tryz.prog .add 3 y81 (.int .i64 1)) h) fun y82 h=>
 ae (some (y82,h)) fun y5 h=>
 some (.normal,(aJ 94 (up x [(5,y5),(77,y77),(78,y78),(79,y79),(80,y80),(81,y81),(82,y82),(83,y83),(84,y84),(85,y85),(86,y86),(87,y87),(88,y88),(89,y89),(90,y90),(91,y91),(92,y92)])),h)
 |false=>none)
 | .bool false=>
 some (.exit 0,(aJ 94 (up x [(77,y77),(78,y78),(79,y79),(80,y80)])),h)
 |_=>none)
theorem t83s0_eq (C:au) (x:Nat→Value) (h:aj):k83s0 C (aJ 94 x) h=t83s0 C x h:=
 aR (a:=partOf Tryz.f83 [0]) (c:=partOf Tryz.f83 [1]) (by kernel_rfl) (k83s1 C) rfl (T:=t83s0 C) (fun x h=>by kernel_rfl) x h
theorem t83s1_eq (C:au) (x:Nat→Value) (h:aj):k83s1 C (aJ 94 x) h=t83s1 C x h:=
 aR (a:=partOf Tryz.f83 [1,0]) (c:=partOf Tryz.f83 [1,1]) (by kernel_rfl) (k83s2 C) rfl (T:=t83s1 C) (fun x h=>by kernel_rfl) x h
theorem t83s2_eq (C:au) (x:Nat→Value) (h:aj):k83s2 C (aJ 94 x) h=t83s2 C x h:=
 aR (a:=partOf Tryz.f83 [1,1,0]) (c:=partOf Tryz.f83 [1,1,1]) (by kernel_rfl) (k83s3 C) rfl (T:=t83s2 C) (fun x h=>by kernel_rfl) x h
theorem t83s3_eq (C:au) (x:Nat→Value) (h:aj):k83s3 C (aJ 94 x) h=t83s3 C x h:=
 aR (a:=partOf Tryz.f83 [1,1,1,0]) (c:=partOf Tryz.f83 [1,1,1,1]) (by kernel_rfl) (k83s4 C) rfl (T:=t83s3 C) (fun x h=>by kernel_rfl) x h
theorem t83s4_eq (C:au) (x:Nat→Value) (h:aj):k83s4 C (aJ 94 x) h=t83s4 C x h:=
 aR (a:=partOf Tryz.f83 [1,1,1,1,0]) (c:=partOf Tryz.f83 [1,1,1,1,1]) (by kernel_rfl) (k83s5 C) rfl (T:=t83s4 C) (fun x h=>by kernel_rfl) x h
theorem t83s5_eq (C:au) (x:Nat→Value) (h:aj):k83s5 C (aJ 94 x) h=t83s5 C x h:=
 aR (a:=partOf Tryz.f83 [1,1,1,1,1,0]) (c:=partOf Tryz.f83 [1,1,1,1,1,1]) (by kernel_rfl) (k83s6 C) rfl (T:=t83s5 C) (fun x h=>by kernel_rfl) x h
theorem t83s6_eq (C:au) (x:Nat→Value) (h:aj):k83s6 C (aJ 94 x) h=t83s6 C x h:=
 aR (a:=partOf Tryz.f83 [1,1,1,1,1,1,0]) (c:=partOf Tryz.f83 [1,1,1,1,1,1,1]) (by kernel_rfl) (k83s7 C) rfl (T:=t83s6 C) (fun x h=>by kernel_rfl) x h
theorem t83s7_eq (C:au) (x:Nat→Value) (h:aj):k83s7 C (aJ 94 x) h=t83s7 C x h:=
 aR (a:=partOf Tryz.f83 [1,1,1,1,1,1,1,0]) (c:=partOf Tryz.f83 [1,1,1,1,1,1,1,1]) (by kernel_rfl) (k83s8 C) rfl (T:=t83s7 C) (fun x h=>by kernel_rfl) x h
theorem t83s8_eq (C:au) (x:Nat→Value) (h:aj):k83s8 C (aJ 94 x) h=t83s8 C x h:=
 bg (b:=partOf Tryz.f83 [1,1,1,1,1,1,1,1]) (kE:=(ar Tryz.prog Tryz.f83.results.toList)) (rE:=(ar Tryz.prog Tryz.f83.results.toList)) (xE:=(fun _ _ _=>none)) (T:=t83s8 C) (fun x h=>by kernel_rfl) x h
theorem t83_eq (C:au) (x0:Value) (h:aj):bf Tryz.prog C Tryz.f83 [x0] h=k83s0 C (aJ 94 (bs [x0])) h:=by kernel_rfl
theorem t83k83_10_eq (C:au) (x:Nat→Value) (h:aj):k83_10 C (aJ 94 x) h=t83k83_10 C x h:=
 bg (b:=(partOf Tryz.f83 [1,1,1,1,1,1,1,1,1])) (kE:=(ar Tryz.prog Tryz.f83.results.toList)) (rE:=(ar Tryz.prog Tryz.f83.results.toList)) (xE:=(fun _ _ _=>none)) (T:=t83k83_10 C) (fun x h=>by kernel_rfl) x h
theorem t83l83_11111111010_eq (C:au) (x:Nat→Value) (h:aj):aM Tryz.prog C (partOf Tryz.f83 [1,1,1,1,1,1,1,1,0,1,0,0]) (aJ 94 x) h=eo C x h:=
 bn (T:=eo C) (fun x h=>by kernel_rfl) x h
end Go.Proofs.YtjghlcdidopcpaaGreatDoor

namespace Go.Proofs.YtjghlcdidopcpaaGreatDoor
open Go Go.Abs
noncomputable def k122_2 (C:au) (e:Env) (h:aj):Out:=aT Tryz.prog C (partOf Tryz.f122 [1,1,1]) e h (ar Tryz.prog Tryz.f122.results.toList) (ar Tryz.prog Tryz.f122.results.toList) (fun _ _ _=>none)
noncomputable def b122_4 (C:au) (i:Nat) (e:Env) (h:aj):Out:=if i=0 then (k122_2 C) e h else (fun _ _ _=>none) i e h
noncomputable def t122 (C:au) (x0 x1:Value) (h:aj):Out:=
 ae (cL (List.replicate 32 (.int .u8 0)) h) fun y4 h=>
 ae (cL (List.replicate 32 (.int .u8 0)) h) fun y5 h=>
 ae (some ((.int .i64 0),h)) fun y6 h=>
 dX (iter (aM Tryz.prog C (partOf Tryz.f122 [1,1,0,1,0,0])) rounds (aJ 20 (up (bs [x0,x1]) [(4,y4),(5,y5),(6,y6)])) h) (ar Tryz.prog Tryz.f122.results.toList) (b122_4 C)
noncomputable def t122k122_2 (_C:au) (x:Nat→Value) (h:aj):Out:=
 ae (bD 32 (x 5) h) fun y19 h=>
 ae (bw 32 (x 4) y19 h) fun _ h=>
 ar Tryz.prog Tryz.f122.results.toList (aJ 20 (up x [(19,y19)])) h
noncomputable def gx (_C:au) (x:Nat→Value) (h:aj):Option (Ex×Env×aj):=
 ae (some ((x 6),h)) fun y7 h=>
 ae (pu (bin Tryz.prog .lss 3 y7 (.int .i64 32)) h) fun y8 h=>
 (match y8 with
 | .bool true=>
 ae (some ((x 6),h)) fun y11 h=>
 ae (some ((x 0),h)) fun y12 h=>
 ae (some ((x 1),h)) fun y13 h=>
 ae (some ((x 6),h)) fun y14 h=>
 ae (pu (bin Tryz.prog .add 3 y13 y14) h) fun y15 h=>
 ae (pu (bB 1 y12 y15) h) fun y16 h=>
 ae (aN y16 h) fun y17 h=>
 ae (pu (idxA 32 1 (x 5) y11) h) fun y18 h=>
 ae (bw 1 y18 y17 h) fun _ h=>
 ae (some ((x 6),h)) fun y9 h=>
 ae (pu (bin Tryz.prog .add 3 y9 (.int .i64 1)) h) fun y10 h=>
 ae (some (y10,h)) fun y6 h=>
 some (.normal,(aJ 20 (up x [(6,y6),(7,y7),(8,y8),(9,y9),(10,y10),(11,y11),(12,y12),(13,y13),(14,y14),(15,y15),(16,y16),(17,y17),(18,y18)])),h)
 | .bool false=>
 some (.exit 0,(aJ 20 (up x [(7,y7),(8,y8)])),h)
 |_=>none)
theorem t122_eq (C:au) (x0 x1:Value) (h:aj):bf Tryz.prog C Tryz.f122 [x0,x1] h=t122 C x0 x1 h:=
 (aL Tryz.prog C Tryz.f122 [x0,x1] h (by kernel_rfl)).trans (by kernel_rfl)
theorem t122k122_2_eq (C:au) (x:Nat→Value) (h:aj):k122_2 C (aJ 20 x) h=t122k122_2 C x h:=
 bg (b:=(partOf Tryz.f122 [1,1,1])) (kE:=(ar Tryz.prog Tryz.f122.results.toList)) (rE:=(ar Tryz.prog Tryz.f122.results.toList)) (xE:=(fun _ _ _=>none)) (T:=t122k122_2 C) (fun x h=>by kernel_rfl) x h
theorem t122l122_11010_eq (C:au) (x:Nat→Value) (h:aj):aM Tryz.prog C (partOf Tryz.f122 [1,1,0,1,0,0]) (aJ 20 x) h=gx C x h:=
 bn (T:=gx C) (fun x h=>by kernel_rfl) x h
end Go.Proofs.YtjghlcdidopcpaaGreatDoor

namespace Go.Proofs.YtjghlcdidopcpaaGreatDoor
open Go Go.Abs
noncomputable def k40s0 (C:au) (e:Env) (h:aj):Out:=aT Tryz.prog C (partOf Tryz.f40 []) e h (ar Tryz.prog Tryz.f40.results.toList) (ar Tryz.prog Tryz.f40.results.toList) (fun _ _ _=>none)
noncomputable def k40s1 (C:au) (e:Env) (h:aj):Out:=aT Tryz.prog C (partOf Tryz.f40 [1]) e h (ar Tryz.prog Tryz.f40.results.toList) (ar Tryz.prog Tryz.f40.results.toList) (fun _ _ _=>none)
noncomputable def k40s2 (C:au) (e:Env) (h:aj):Out:=aT Tryz.prog C (partOf Tryz.f40 [1,1]) e h (ar Tryz.prog Tryz.f40.results.toList) (ar Tryz.prog Tryz.f40.results.toList) (fun _ _ _=>none)
noncomputable def k40s3 (C:au) (e:Env) (h:aj):Out:=aT Tryz.prog C (partOf Tryz.f40 [1,1,1]) e h (ar Tryz.prog Tryz.f40.results.toList) (ar Tryz.prog Tryz.f40.results.toList) (fun _ _ _=>none)
noncomputable def k40s4 (C:au) (e:Env) (h:aj):Out:=aT Tryz.prog C (partOf Tryz.f40 [1,1,1,1]) e h (ar Tryz.prog Tryz.f40.results.toList) (ar Tryz.prog Tryz.f40.results.toList) (fun _ _ _=>none)
noncomputable def k40s5 (C:au) (e:Env) (h:aj):Out:=aT Tryz.prog C (partOf Tryz.f40 [1,1,1,1,1]) e h (ar Tryz.prog Tryz.f40.results.toList) (ar Tryz.prog Tryz.f40.results.toList) (fun _ _ _=>none)
noncomputable def k40s6 (C:au) (e:Env) (h:aj):Out:=aT Tryz.prog C (partOf Tryz.f40 [1,1,1,1,1,1]) e h (ar Tryz.prog Tryz.f40.results.toList) (ar Tryz.prog Tryz.f40.results.toList) (fun _ _ _=>none)
noncomputable def b40_2 (C:au) (i:Nat) (e:Env) (h:aj):Out:=if i=0 then (k40s6 C) e h else (fun _ _ _=>none) i e h
noncomputable def t40s0 (C:au) (x:Nat→Value) (h:aj):Out:=
 ae (box (x 0) h) fun y2 h=>
 ae (box (x 1) h) fun y3 h=>
 ae (cL Zl h) fun y4 h=>
 ae (cL [(.slice none 0 0),(.bool false)] h) fun y5 h=>
 k40s1 C (aJ 63 (up x [(2,y2),(3,y3),(4,y4),(5,y5)])) h
noncomputable def t40s1 (C:au) (x:Nat→Value) (h:aj):Out:=
 ae (bD 2 (x 3) h) fun y12 h=>
 ae (C 78 [y12,(.int .i64 8)] h) fun y13 h=>
 ae (some (y13,h)) fun y11 h=>
 ae (pu (aG y11 0) h) fun y14 h=>
 ae (pu (aG y11 1) h) fun y15 h=>
 ae (pu (aA (x 2) 3) h) fun y16 h=>
 ae (bw 1 y16 y14 h) fun _ h=>
 ae (bw 2 (x 3) y15 h) fun _ h=>
 k40s2 C (aJ 63 (up x [(11,y11),(12,y12),(13,y13),(14,y14),(15,y15),(16,y16)])) h
noncomputable def t40s2 (C:au) (x:Nat→Value) (h:aj):Out:=
 ae (bD 2 (x 3) h) fun y18 h=>
 ae (C 78 [y18,(.int .i64 1)] h) fun y19 h=>
 ae (some (y19,h)) fun y17 h=>
 ae (pu (aG y17 0) h) fun y20 h=>
 ae (pu (aG y17 1) h) fun y21 h=>
 ae (some (y20,h)) fun y6 h=>
 ae (bw 2 (x 3) y21 h) fun _ h=>
 k40s3 C (aJ 63 (up x [(6,y6),(17,y17),(18,y18),(19,y19),(20,y20),(21,y21)])) h
noncomputable def t40s3 (C:au) (x:Nat→Value) (h:aj):Out:=
 ae (pu (aA (x 2) 0) h) fun y22 h=>
 ae (aN y22 h) fun y23 h=>
 ae (pu (bin Tryz.prog .eql 24 y23 (.int .u8 3)) h) fun y24 h=>
 (match y24 with
 | .bool true=>
 ae (some ((x 6),h)) fun y25 h=>
 ae (fc .i64 y25 h) fun cV h=>
 ae (pu (aA (x 2) 5) h) fun dn h=>
 ae (bw 1 dn cV h) fun _ h=>
 k40s4 C (aJ 63 (up x [(22,y22),(23,y23),(24,y24),(25,y25),(26,cV),(27,dn)])) h
 | .bool false=>
 ae (some ((x 6),h)) fun y28 h=>
 ae (fc .i64 y28 h) fun y29 h=>
 ae (pu (aA (x 2) 4) h) fun y30 h=>
 ae (bw 1 y30 y29 h) fun _ h=>
 k40s4 C (aJ 63 (up x [(22,y22),(23,y23),(24,y24),(28,y28),(29,y29),(30,y30)])) h
 |_=>none)
noncomputable def t40s4 (C:au) (x:Nat→Value) (h:aj):Out:=
 ae (bD 2 (x 3) h) fun y32 h=>
 ae (C 78 [y32,(.int .i64 1)] h) fun y33 h=>
 ae (some (y33,h)) fun y31 h=>
 ae (pu (aG y31 0) h) fun y34 h=>
 ae (pu (aG y31 1) h) fun y35 h=>
 ae (some (y34,h)) fun y7 h=>
 ae (bw 2 (x 3) y35 h) fun _ h=>
 k40s5 C (aJ 63 (up x [(7,y7),(31,y31),(32,y32),(33,y33),(34,y34),(35,y35)])) h
noncomputable def t40s5 (C:au) (x:Nat→Value) (h:aj):Out:=
 ae (some ((.int .i64 0),h)) fun y8 h=>
 dX (iter (aM Tryz.prog C (partOf Tryz.f40 [1,1,1,1,1,0,1,0,0])) rounds (aJ 63 (up x [(8,y8)])) h) (ar Tryz.prog Tryz.f40.results.toList) (b40_2 C)
noncomputable def t40s6 (_C:au) (x:Nat→Value) (h:aj):Out:=
 let g4_0:=h
 ae (bD 116 (x 2) g4_0) fun y61 g4_1=>
 ae (bD 2 (x 3) g4_1) fun y62 g4_2=>
 ae (bw 116 (x 4) y61 g4_2) fun _ g4_3=>
 ae (bw 2 (x 5) y62 g4_3) fun _ g4_4=>
 (match (dH true (bD 2 (x 3) g4_3) y62&&true) with
 |true=>
 let h:=g4_4
 ar Tryz.prog Tryz.f40.results.toList (aJ 63 (up x [(61,y61),(62,y62)])) h
 |false=>none)
noncomputable def fF (C:au) (x:Nat→Value) (h:aj):Option (Ex×Env×aj):=
 ae (some ((x 8),h)) fun y36 h=>
 ae (some ((x 7),h)) fun y37 h=>
 ae (fc .i64 y37 h) fun y38 h=>
 ae (pu (bin Tryz.prog .lss 3 y36 y38) h) fun y39 h=>
 (match y39 with
 | .bool true=>
 ae (some ((.int .u64 0),h)) fun _y9 h=>
 ae (some ((.int .u64 0),h)) fun _y10 h=>
 ae (bD 2 (x 3) h) fun y43 h=>
 ae (C 78 [y43,(.int .i64 8)] h) fun y44 h=>
 ae (some (y44,h)) fun y42 h=>
 ae (pu (aG y42 0) h) fun y45 h=>
 ae (pu (aG y42 1) h) fun y46 h=>
 ae (some (y45,h)) fun y9_1 h=>
 ae (bw 2 (x 3) y46 h) fun _ h=>
 ae (bD 2 (x 3) h) fun y48 h=>
 ae (C 78 [y48,(.int .i64 1)] h) fun y49 h=>
 ae (some (y49,h)) fun y47 h=>
 ae (pu (aG y47 0) h) fun y50 h=>
 ae (pu (aG y47 1) h) fun y51 h=>
 ae (some (y50,h)) fun y10_1 h=>
 ae (bw 2 (x 3) y51 h) fun _ h=>
 ae (pu (aA (x 2) 6) h) fun y52 h=>
 ae (aN y52 h) fun eJ h=>
 ae (some (y9_1,h)) fun eN h=>
 ae (some (y10_1,h)) fun y55 h=>
 ae (fc .u8 y55 h) fun y56 h=>
 ae (pu (bU [(.int .u64 0),(.int .u8 0)] [(0,1,eN),(1,1,y56)]) h) fun y57 h=>
 ae (bslR 2 (.agg #[(.int .u64 0),(.int .u8 0)]) 1 [(0,y57)] h) fun y58 h=>
 ae (cl 2 16 eJ y58 h) fun y59 h=>
 ae (pu (aA (x 2) 6) h) fun y60 h=>
 ae (bw 1 y60 y59 h) fun _ h=>
 ae (some ((x 8),h)) fun y40 h=>
 ae (pu (bin Tryz.prog .add 3 y40 (.int .i64 1)) h) fun y41 h=>
 ae (some (y41,h)) fun y8 h=>
 some (.normal,(aJ 63 (up x [(8,y8),(9,y9_1),(10,y10_1),(36,y36),(37,y37),(38,y38),(39,y39),(40,y40),(41,y41),(42,y42),(43,y43),(44,y44),(45,y45),(46,y46),(47,y47),(48,y48),(49,y49),(50,y50),(51,y51),(52,y52),(53,eJ),(54,eN),(55,y55),(56,y56),(57,y57),(58,y58),(59,y59),(60,y60)])),h)
 | .bool false=>
 some (.exit 0,(aJ 63 (up x [(36,y36),(37,y37),(38,y38),(39,y39)])),h)
 |_=>none)
theorem t40s0_eq (C:au) (x:Nat→Value) (h:aj):k40s0 C (aJ 63 x) h=t40s0 C x h:=
 aR (a:=partOf Tryz.f40 [0]) (c:=partOf Tryz.f40 [1]) (by kernel_rfl) (k40s1 C) rfl (T:=t40s0 C) (fun x h=>by kernel_rfl) x h
theorem t40s1_eq (C:au) (x:Nat→Value) (h:aj):k40s1 C (aJ 63 x) h=t40s1 C x h:=
 aR (a:=partOf Tryz.f40 [1,0]) (c:=partOf Tryz.f40 [1,1]) (by kernel_rfl) (k40s2 C) rfl (T:=t40s1 C) (fun x h=>by kernel_rfl) x h
theorem t40s2_eq (C:au) (x:Nat→Value) (h:aj):k40s2 C (aJ 63 x) h=t40s2 C x h:=
 aR (a:=partOf Tryz.f40 [1,1,0]) (c:=partOf Tryz.f40 [1,1,1]) (by kernel_rfl) (k40s3 C) rfl (T:=t40s2 C) (fun x h=>by kernel_rfl) x h
theorem t40s3_eq (C:au) (x:Nat→Value) (h:aj):k40s3 C (aJ 63 x) h=t40s3 C x h:=
 aR (a:=partOf Tryz.f40 [1,1,1,0]) (c:=partOf Tryz.f40 [1,1,1,1]) (by kernel_rfl) (k40s4 C) rfl (T:=t40s3 C) (fun x h=>by kernel_rfl) x h
theorem t40s4_eq (C:au) (x:Nat→Value) (h:aj):k40s4 C (aJ 63 x) h=t40s4 C x h:=
 aR (a:=partOf Tryz.f40 [1,1,1,1,0]) (c:=partOf Tryz.f40 [1,1,1,1,1]) (by kernel_rfl) (k40s5 C) rfl (T:=t40s4 C) (fun x h=>by kernel_rfl) x h
theorem t40s5_eq (C:au) (x:Nat→Value) (h:aj):k40s5 C (aJ 63 x) h=t40s5 C x h:=
 aR (a:=partOf Tryz.f40 [1,1,1,1,1,0]) (c:=partOf Tryz.f40 [1,1,1,1,1,1]) (by kernel_rfl) (k40s6 C) rfl (T:=t40s5 C) (fun x h=>by kernel_rfl) x h
theorem t40s6_eq (C:au) (x:Nat→Value) (h:aj):k40s6 C (aJ 63 x) h=t40s6 C x h:=
 bg (b:=partOf Tryz.f40 [1,1,1,1,1,1]) (kE:=(ar Tryz.prog Tryz.f40.results.toList)) (rE:=(ar Tryz.prog Tryz.f40.results.toList)) (xE:=(fun _ _ _=>none)) (T:=t40s6 C) (fun x h=>by kernel_rfl) x h
theorem t40_eq (C:au) (x0 x1:Value) (h:aj):bf Tryz.prog C Tryz.f40 [x0,x1] h=k40s0 C (aJ 63 (bs [x0,x1])) h:=by kernel_rfl
theorem t40l40_11111010_eq (C:au) (x:Nat→Value) (h:aj):aM Tryz.prog C (partOf Tryz.f40 [1,1,1,1,1,0,1,0,0]) (aJ 63 x) h=fF C x h:=
 bn (T:=fF C) (fun x h=>by kernel_rfl) x h
end Go.Proofs.YtjghlcdidopcpaaGreatDoor

namespace Go.Proofs.YtjghlcdidopcpaaGreatDoor
open Go Go.Abs
noncomputable def k41s0 (C:au) (e:Env) (h:aj):Out:=aT Tryz.prog C (partOf Tryz.f41 []) e h (ar Tryz.prog Tryz.f41.results.toList) (ar Tryz.prog Tryz.f41.results.toList) (fun _ _ _=>none)
noncomputable def k41s1 (C:au) (e:Env) (h:aj):Out:=aT Tryz.prog C (partOf Tryz.f41 [1]) e h (ar Tryz.prog Tryz.f41.results.toList) (ar Tryz.prog Tryz.f41.results.toList) (fun _ _ _=>none)
noncomputable def k41s2 (C:au) (e:Env) (h:aj):Out:=aT Tryz.prog C (partOf Tryz.f41 [1,1]) e h (ar Tryz.prog Tryz.f41.results.toList) (ar Tryz.prog Tryz.f41.results.toList) (fun _ _ _=>none)
noncomputable def k41s3 (C:au) (e:Env) (h:aj):Out:=aT Tryz.prog C (partOf Tryz.f41 [1,1,1]) e h (ar Tryz.prog Tryz.f41.results.toList) (ar Tryz.prog Tryz.f41.results.toList) (fun _ _ _=>none)
noncomputable def k41s4 (C:au) (e:Env) (h:aj):Out:=aT Tryz.prog C (partOf Tryz.f41 [1,1,1,1]) e h (ar Tryz.prog Tryz.f41.results.toList) (ar Tryz.prog Tryz.f41.results.toList) (fun _ _ _=>none)
noncomputable def k41s5 (C:au) (e:Env) (h:aj):Out:=aT Tryz.prog C (partOf Tryz.f41 [1,1,1,1,1]) e h (ar Tryz.prog Tryz.f41.results.toList) (ar Tryz.prog Tryz.f41.results.toList) (fun _ _ _=>none)
noncomputable def k41s6 (C:au) (e:Env) (h:aj):Out:=aT Tryz.prog C (partOf Tryz.f41 [1,1,1,1,1,1]) e h (ar Tryz.prog Tryz.f41.results.toList) (ar Tryz.prog Tryz.f41.results.toList) (fun _ _ _=>none)
noncomputable def k41s7 (C:au) (e:Env) (h:aj):Out:=aT Tryz.prog C (partOf Tryz.f41 [1,1,1,1,1,1,1]) e h (ar Tryz.prog Tryz.f41.results.toList) (ar Tryz.prog Tryz.f41.results.toList) (fun _ _ _=>none)
noncomputable def k41s8 (C:au) (e:Env) (h:aj):Out:=aT Tryz.prog C (partOf Tryz.f41 [1,1,1,1,1,1,1,1]) e h (ar Tryz.prog Tryz.f41.results.toList) (ar Tryz.prog Tryz.f41.results.toList) (fun _ _ _=>none)
noncomputable def k41s9 (C:au) (e:Env) (h:aj):Out:=aT Tryz.prog C (partOf Tryz.f41 [1,1,1,1,1,1,1,1,1]) e h (ar Tryz.prog Tryz.f41.results.toList) (ar Tryz.prog Tryz.f41.results.toList) (fun _ _ _=>none)
noncomputable def b41_9 (C:au) (i:Nat) (e:Env) (h:aj):Out:=if i=0 then (k41s9 C) e h else (fun _ _ _=>none) i e h
noncomputable def t41s0 (C:au) (x:Nat→Value) (h:aj):Out:=
 ae (box (x 0) h) fun y2 h=>
 ae (box (x 1) h) fun y3 h=>
 ae (cL Zl h) fun y4 h=>
 ae (cL [(.slice none 0 0),(.bool false)] h) fun y5 h=>
 k41s1 C (aJ 94 (up x [(2,y2),(3,y3),(4,y4),(5,y5)])) h
noncomputable def t41s1 (C:au) (x:Nat→Value) (h:aj):Out:=
 ae (bD 2 (x 3) h) fun y15 h=>
 ae (C 79 [y15] h) fun y16 h=>
 ae (some (y16,h)) fun y14 h=>
 ae (pu (aG y14 0) h) fun y17 h=>
 ae (pu (aG y14 1) h) fun y18 h=>
 ae (pu (aA (x 2) 7) h) fun y19 h=>
 ae (bw 1 y19 y17 h) fun _ h=>
 ae (bw 2 (x 3) y18 h) fun _ h=>
 k41s2 C (aJ 94 (up x [(14,y14),(15,y15),(16,y16),(17,y17),(18,y18),(19,y19)])) h
noncomputable def t41s2 (C:au) (x:Nat→Value) (h:aj):Out:=
 ae (bD 2 (x 3) h) fun y21 h=>
 ae (C 79 [y21] h) fun y22 h=>
 ae (some (y22,h)) fun y20 h=>
 ae (pu (aG y20 0) h) fun y23 h=>
 ae (pu (aG y20 1) h) fun y24 h=>
 ae (pu (aA (x 2) 8) h) fun y25 h=>
 ae (bw 1 y25 y23 h) fun _ h=>
 ae (bw 2 (x 3) y24 h) fun _ h=>
 k41s3 C (aJ 94 (up x [(20,y20),(21,y21),(22,y22),(23,y23),(24,y24),(25,y25)])) h
noncomputable def t41s3 (C:au) (x:Nat→Value) (h:aj):Out:=
 ae (pu (aA (x 2) 0) h) fun cV h=>
 ae (aN cV h) fun dn h=>
 ae (pu (bin Tryz.prog .eql 24 dn (.int .u8 4)) h) fun y28 h=>
 (match y28 with
 | .bool true=>
 ae (some ((.int .u64 0),h)) fun _y6 h=>
 ae (bD 2 (x 3) h) fun y30 h=>
 ae (C 78 [y30,(.int .i64 4)] h) fun y31 h=>
 ae (some (y31,h)) fun y29 h=>
 ae (pu (aG y29 0) h) fun y32 h=>
 ae (pu (aG y29 1) h) fun y33 h=>
 ae (some (y32,h)) fun y6_1 h=>
 ae (bw 2 (x 3) y33 h) fun _ h=>
 ae (some (y6_1,h)) fun y34 h=>
 ae (fc .i64 y34 h) fun y35 h=>
 ae (pu (aA (x 2) 9) h) fun y36 h=>
 ae (bw 1 y36 y35 h) fun _ h=>
 ae (bD 2 (x 3) h) fun y38 h=>
 ae (C 80 [y38] h) fun y39 h=>
 ae (some (y39,h)) fun y37 h=>
 ae (pu (aG y37 0) h) fun y40 h=>
 ae (pu (aG y37 1) h) fun y41 h=>
 ae (pu (aA (x 2) 10) h) fun y42 h=>
 ae (bw 32 y42 y40 h) fun _ h=>
 ae (bw 2 (x 3) y41 h) fun _ h=>
 let g6_0:=h
 ae (bD 116 (x 2) g6_0) fun y43 g6_1=>
 ae (bD 2 (x 3) g6_1) fun y44 g6_2=>
 ae (bw 116 (x 4) y43 g6_2) fun _ g6_3=>
 ae (bw 2 (x 5) y44 g6_3) fun _ g6_4=>
 (match (dH true (bD 2 (x 3) g6_3) y44&&true) with
 |true=>
 let h:=g6_4
 ar Tryz.prog Tryz.f41.results.toList (aJ 94 (up x [(6,y6_1),(26,cV),(27,dn),(28,y28),(29,y29),(30,y30),(31,y31),(32,y32),(33,y33),(34,y34),(35,y35),(36,y36),(37,y37),(38,y38),(39,y39),(40,y40),(41,y41),(42,y42),(43,y43),(44,y44)])) h
 |false=>none)
 | .bool false=>
 k41s4 C (aJ 94 (up x [(26,cV),(27,dn),(28,y28)])) h
 |_=>none)
noncomputable def t41s4 (C:au) (x:Nat→Value) (h:aj):Out:=
 ae (bD 2 (x 3) h) fun y46 h=>
 ae (C 78 [y46,(.int .i64 1)] h) fun y47 h=>
 ae (some (y47,h)) fun y45 h=>
 ae (pu (aG y45 0) h) fun y48 h=>
 ae (pu (aG y45 1) h) fun y49 h=>
 ae (some (y48,h)) fun y7 h=>
 ae (bw 2 (x 3) y49 h) fun _ h=>
 k41s5 C (aJ 94 (up x [(7,y7),(45,y45),(46,y46),(47,y47),(48,y48),(49,y49)])) h
noncomputable def t41s5 (C:au) (x:Nat→Value) (h:aj):Out:=
 ae (some ((x 7),h)) fun y50 h=>
 ae (pu (bin Tryz.prog .gtr 25 y50 (.int .u64 1)) h) fun y51 h=>
 (match y51 with
 | .bool true=>
 ae (pu (aA (x 3) 1) h) fun y52 h=>
 ae (bw 1 y52 (.bool true) h) fun _ h=>
 k41s6 C (aJ 94 (up x [(50,y50),(51,y51),(52,y52)])) h
 | .bool false=>
 k41s6 C (aJ 94 (up x [(50,y50),(51,y51)])) h
 |_=>none)
noncomputable def t41s6 (C:au) (x:Nat→Value) (h:aj):Out:=
 ae (some ((x 7),h)) fun eJ h=>
 ae (pu (bin Tryz.prog .eql 25 eJ (.int .u64 1)) h) fun eN h=>
 ae (pu (aA (x 2) 43) h) fun y55 h=>
 ae (bw 1 y55 eN h) fun _ h=>
 k41s7 C (aJ 94 (up x [(53,eJ),(54,eN),(55,y55)])) h
noncomputable def t41s7 (C:au) (x:Nat→Value) (h:aj):Out:=
 ae (bD 2 (x 3) h) fun y57 h=>
 ae (C 78 [y57,(.int .i64 2)] h) fun y58 h=>
 ae (some (y58,h)) fun y56 h=>
 ae (pu (aG y56 0) h) fun y59 h=>
 ae (pu (aG y56 1) h) fun y60 h=>
 ae (some (y59,h)) fun y8 h=>
 ae (bw 2 (x 3) y60 h) fun _ h=>
 k41s8 C (aJ 94 (up x [(8,y8),(56,y56),(57,y57),(58,y58),(59,y59),(60,y60)])) h
noncomputable def t41s8 (C:au) (x:Nat→Value) (h:aj):Out:=
 ae (some ((.int .i64 0),h)) fun y9 h=>
 dX (iter (aM Tryz.prog C (partOf Tryz.f41 [1,1,1,1,1,1,1,1,0,1,0,0])) rounds (aJ 94 (up x [(9,y9)])) h) (ar Tryz.prog Tryz.f41.results.toList) (b41_9 C)
noncomputable def t41s9 (_C:au) (x:Nat→Value) (h:aj):Out:=
 let g11_0:=h
 ae (bD 116 (x 2) g11_0) fun y92 g11_1=>
 ae (bD 2 (x 3) g11_1) fun y93 g11_2=>
 ae (bw 116 (x 4) y92 g11_2) fun _ g11_3=>
 ae (bw 2 (x 5) y93 g11_3) fun _ g11_4=>
 (match (dH true (bD 2 (x 3) g11_3) y93&&true) with
 |true=>
 let h:=g11_4
 ar Tryz.prog Tryz.f41.results.toList (aJ 94 (up x [(92,y92),(93,y93)])) h
 |false=>none)
noncomputable def eu (C:au) (x:Nat→Value) (h:aj):Option (Ex×Env×aj):=
 ae (some ((x 9),h)) fun y61 h=>
 ae (some ((x 8),h)) fun y62 h=>
 ae (fc .i64 y62 h) fun y63 h=>
 ae (pu (bin Tryz.prog .lss 3 y61 y63) h) fun y64 h=>
 ae (some (y64,h)) fun y65 h=>
 ae (aq (aI y65==some true) (pu (aA (x 3) 1) h) h) fun y66 h=>
 ae (aq (aI y65==some true) (aN y66 h) h) fun y67 h=>
 ae (aq (aI y65==some true) (pu (unA .not y67) h) h) fun y68 h=>
 ae (match y65 with | .bool t=>some (if t then y68 else (.bool false),h)|_=>none) fun y69 h=>
 (match y69 with
 | .bool true=>
 ae (bD 2 (x 3) h) fun y73 h=>
 ae (C 81 [y73,(.int .i64 53)] h) fun y74 h=>
 ae (some (y74,h)) fun y72 h=>
 ae (pu (aG y72 0) h) fun y75 h=>
 ae (pu (aG y72 1) h) fun y76 h=>
 ae (cL [(.slice none 0 0),(.bool false)] h) fun y11 h=>
 ae (some (y75,h)) fun y10 h=>
 ae (bw 2 y11 y76 h) fun _ h=>
 ae (some (y10,h)) fun y78 h=>
 ae (C 82 [y78] h) fun y79 h=>
 ae (some (y79,h)) fun y77 h=>
 ae (pu (aG y77 0) h) fun y80 h=>
 ae (pu (aG y77 1) h) fun y81 h=>
 ae (cL Zr h) fun y12 h=>
 ae (bw 39 y12 y80 h) fun _ h=>
 ae (some (y81,h)) fun y13 h=>
 ae (bD 2 y11 h) fun y82 h=>
 ae (bw 2 (x 3) y82 h) fun _ h=>
 ae (some (y13,h)) fun y83 h=>
 ae (pu (bin Tryz.prog .neq 35 y83 (.int .i64 0)) h) fun y84 h=>
 (match y84 with
 | .bool true=>
 ae (pu (aA (x 3) 1) h) fun y85 h=>
 ae (bw 1 y85 (.bool true) h) fun _ h=>
 ae (pu (aA (x 2) 42) h) fun y86 h=>
 ae (aN y86 h) fun y87 h=>
 ae (bD 39 y12 h) fun y88 h=>
 ae (bslR 39 (.agg Zr.toArray) 1 [(0,y88)] h) fun y89 h=>
 ae (cl 39 88 y87 y89 h) fun y90 h=>
 ae (pu (aA (x 2) 42) h) fun y91 h=>
 ae (bw 1 y91 y90 h) fun _ h=>
 ae (some ((x 9),h)) fun y70 h=>
 ae (pu (bin Tryz.prog .add 3 y70 (.int .i64 1)) h) fun y71 h=>
 ae (some (y71,h)) fun y9 h=>
 some (.normal,(aJ 94 (up x [(9,y9),(10,y10),(11,y11),(12,y12),(13,y13),(61,y61),(62,y62),(63,y63),(64,y64),(65,y65),(66,y66),(67,y67),(68,y68),(69,y69),(70,y70),(71,y71),(72,y72),(73,y73),(74,y74),(75,y75),(76,y76),(77,y77),(78,y78),(79,y79),(80,y80),(81,y81),(82,y82),(83,y83),(84,y84),(85,y85),(86,y86),(87,y87),(88,y88),(89,y89),(90,y90),(91,y91)])),h)
 | .bool false=>
 ae (pu (aA (x 2) 42) h) fun y86 h=>
 ae (aN y86 h) fun y87 h=>
 ae (bD 39 y12 h) fun y88 h=>
 ae (bslR 39 (.agg Zr.toArray) 1 [(0,y88)] h) fun y89 h=>
 ae (cl 39 88 y87 y89 h) fun y90 h=>
 ae (pu (aA (x 2) 42) h) fun y91 h=>
 ae (bw 1 y91 y90 h) fun _ h=>
 ae (some ((x 9),h)) fun y70 h=>
 ae (pu (bin Tryz.prog .add 3 y70 (.int .i64 1)) h) fun y71 h=>
 ae (some (y71,h)) fun y9 h=>
 some (.normal,(aJ 94 (up x [(9,y9),(10,y10),(11,y11),(12,y12),(13,y13),(61,y61),(62,y62),(63,y63),(64,y64),(65,y65),(66,y66),(67,y67),(68,y68),(69,y69),(70,y70),(71,y71),(72,y72),(73,y73),(74,y74),(75,y75),(76,y76),(77,y77),(78,y78),(79,y79),(80,y80),(81,y81),(82,y82),(83,y83),(84,y84),(86,y86),(87,y87),(88,y88),(89,y89),(90,y90),(91,y91)])),h)
 |_=>none)
 | .bool false=>
 some (.exit 0,(aJ 94 (up x [(61,y61),(62,y62),(63,y63),(64,y64),(65,y65),(66,y66),(67,y67),(68,y68),(69,y69)])),h)
 |_=>none)
theorem t41s0_eq (C:au) (x:Nat→Value) (h:aj):k41s0 C (aJ 94 x) h=t41s0 C x h:=
 aR (a:=partOf Tryz.f41 [0]) (c:=partOf Tryz.f41 [1]) (by kernel_rfl) (k41s1 C) rfl (T:=t41s0 C) (fun x h=>by kernel_rfl) x h
theorem t41s1_eq (C:au) (x:Nat→Value) (h:aj):k41s1 C (aJ 94 x) h=t41s1 C x h:=
 aR (a:=partOf Tryz.f41 [1,0]) (c:=partOf Tryz.f41 [1,1]) (by kernel_rfl) (k41s2 C) rfl (T:=t41s1 C) (fun x h=>by kernel_rfl) x h
theorem t41s2_eq (C:au) (x:Nat→Value) (h:aj):k41s2 C (aJ 94 x) h=t41s2 C x h:=
 aR (a:=partOf Tryz.f41 [1,1,0]) (c:=partOf Tryz.f41 [1,1,1]) (by kernel_rfl) (k41s3 C) rfl (T:=t41s2 C) (fun x h=>by kernel_rfl) x h
theorem t41s3_eq (C:au) (x:Nat→Value) (h:aj):k41s3 C (aJ 94 x) h=t41s3 C x h:=
 aR (a:=partOf Tryz.f41 [1,1,1,0]) (c:=partOf Tryz.f41 [1,1,1,1]) (by kernel_rfl) (k41s4 C) rfl (T:=t41s3 C) (fun x h=>by kernel_rfl) x h
theorem t41s4_eq (C:au) (x:Nat→Value) (h:aj):k41s4 C (aJ 94 x) h=t41s4 C x h:=
 aR (a:=partOf Tryz.f41 [1,1,1,1,0]) (c:=partOf Tryz.f41 [1,1,1,1,1]) (by kernel_rfl) (k41s5 C) rfl (T:=t41s4 C) (fun x h=>by kernel_rfl) x h
theorem t41s5_eq (C:au) (x:Nat→Value) (h:aj):k41s5 C (aJ 94 x) h=t41s5 C x h:=
 aR (a:=partOf Tryz.f41 [1,1,1,1,1,0]) (c:=partOf Tryz.f41 [1,1,1,1,1,1]) (by kernel_rfl) (k41s6 C) rfl (T:=t41s5 C) (fun x h=>by kernel_rfl) x h
theorem t41s6_eq (C:au) (x:Nat→Value) (h:aj):k41s6 C (aJ 94 x) h=t41s6 C x h:=
 aR (a:=partOf Tryz.f41 [1,1,1,1,1,1,0]) (c:=partOf Tryz.f41 [1,1,1,1,1,1,1]) (by kernel_rfl) (k41s7 C) rfl (T:=t41s6 C) (fun x h=>by kernel_rfl) x h
theorem t41s7_eq (C:au) (x:Nat→Value) (h:aj):k41s7 C (aJ 94 x) h=t41s7 C x h:=
 aR (a:=partOf Tryz.f41 [1,1,1,1,1,1,1,0]) (c:=partOf Tryz.f41 [1,1,1,1,1,1,1,1]) (by kernel_rfl) (k41s8 C) rfl (T:=t41s7 C) (fun x h=>by kernel_rfl) x h
theorem t41s8_eq (C:au) (x:Nat→Value) (h:aj):k41s8 C (aJ 94 x) h=t41s8 C x h:=
 aR (a:=partOf Tryz.f41 [1,1,1,1,1,1,1,1,0]) (c:=partOf Tryz.f41 [1,1,1,1,1,1,1,1,1]) (by kernel_rfl) (k41s9 C) rfl (T:=t41s8 C) (fun x h=>by kernel_rfl) x h
theorem t41s9_eq (C:au) (x:Nat→Value) (h:aj):k41s9 C (aJ 94 x) h=t41s9 C x h:=
 bg (b:=partOf Tryz.f41 [1,1,1,1,1,1,1,1,1]) (kE:=(ar Tryz.prog Tryz.f41.results.toList)) (rE:=(ar Tryz.prog Tryz.f41.results.toList)) (xE:=(fun _ _ _=>none)) (T:=t41s9 C) (fun x h=>by kernel_rfl) x h
theorem t41_eq (C:au) (x0 x1:Value) (h:aj):bf Tryz.prog C Tryz.f41 [x0,x1] h=k41s0 C (aJ 94 (bs [x0,x1])) h:=by kernel_rfl
theorem t41l41_11111111010_eq (C:au) (x:Nat→Value) (h:aj):aM Tryz.prog C (partOf Tryz.f41 [1,1,1,1,1,1,1,1,0,1,0,0]) (aJ 94 x) h=eu C x h:=
 bn (T:=eu C) (fun x h=>by kernel_rfl) x h
end Go.Proofs.YtjghlcdidopcpaaGreatDoor

namespace Go.Proofs.YtjghlcdidopcpaaGreatDoor
open Go Go.Abs
noncomputable def k42s0 (C:au) (e:Env) (h:aj):Out:=aT Tryz.prog C (partOf Tryz.f42 []) e h (ar Tryz.prog Tryz.f42.results.toList) (ar Tryz.prog Tryz.f42.results.toList) (fun _ _ _=>none)
noncomputable def k42s1 (C:au) (e:Env) (h:aj):Out:=aT Tryz.prog C (partOf Tryz.f42 [1]) e h (ar Tryz.prog Tryz.f42.results.toList) (ar Tryz.prog Tryz.f42.results.toList) (fun _ _ _=>none)
noncomputable def k42s2 (C:au) (e:Env) (h:aj):Out:=aT Tryz.prog C (partOf Tryz.f42 [1,1]) e h (ar Tryz.prog Tryz.f42.results.toList) (ar Tryz.prog Tryz.f42.results.toList) (fun _ _ _=>none)
noncomputable def k42s3 (C:au) (e:Env) (h:aj):Out:=aT Tryz.prog C (partOf Tryz.f42 [1,1,1]) e h (ar Tryz.prog Tryz.f42.results.toList) (ar Tryz.prog Tryz.f42.results.toList) (fun _ _ _=>none)
noncomputable def k42s4 (C:au) (e:Env) (h:aj):Out:=aT Tryz.prog C (partOf Tryz.f42 [1,1,1,1]) e h (ar Tryz.prog Tryz.f42.results.toList) (ar Tryz.prog Tryz.f42.results.toList) (fun _ _ _=>none)
noncomputable def t42s0 (C:au) (x:Nat→Value) (h:aj):Out:=
 ae (box (x 0) h) fun y2 h=>
 ae (box (x 1) h) fun y3 h=>
 ae (cL Zl h) fun y4 h=>
 ae (cL [(.slice none 0 0),(.bool false)] h) fun y5 h=>
 k42s1 C (aJ 71 (up x [(2,y2),(3,y3),(4,y4),(5,y5)])) h
noncomputable def t42s1 (C:au) (x:Nat→Value) (h:aj):Out:=
 ae (bD 2 (x 3) h) fun y13 h=>
 ae (C 80 [y13] h) fun y14 h=>
 ae (some (y14,h)) fun y12 h=>
 ae (pu (aG y12 0) h) fun y15 h=>
 ae (pu (aG y12 1) h) fun y16 h=>
 ae (pu (aA (x 2) 44) h) fun y17 h=>
 ae (bw 32 y17 y15 h) fun _ h=>
 ae (bw 2 (x 3) y16 h) fun _ h=>
 k42s2 C (aJ 71 (up x [(12,y12),(13,y13),(14,y14),(15,y15),(16,y16),(17,y17)])) h
noncomputable def t42s2 (C:au) (x:Nat→Value) (h:aj):Out:=
 ae (pu (aA (x 2) 0) h) fun y18 h=>
 ae (aN y18 h) fun y19 h=>
 ae (pu (bin Tryz.prog .eql 24 y19 (.int .u8 8)) h) fun y20 h=>
 ae (some (y20,h)) fun y21 h=>
 ae (aq (aI y21==some false) (pu (aA (x 2) 0) h) h) fun y22 h=>
 ae (aq (aI y21==some false) (aN y22 h) h) fun y23 h=>
 ae (aq (aI y21==some false) (pu (bin Tryz.prog .eql 24 y23 (.int .u8 10)) h) h) fun y24 h=>
 ae (match y21 with | .bool t=>some (if t then (.bool true) else y24,h)|_=>none) fun y25 h=>
 (match y25 with
 | .bool true=>
 ae (bD 2 (x 3) h) fun dn h=>
 ae (C 79 [dn] h) fun y28 h=>
 ae (some (y28,h)) fun cV h=>
 ae (pu (aG cV 0) h) fun y29 h=>
 ae (pu (aG cV 1) h) fun y30 h=>
 ae (cL [(.slice none 0 0),(.bool false)] h) fun y7 h=>
 ae (some (y29,h)) fun y6 h=>
 ae (bw 2 y7 y30 h) fun _ h=>
 ae (some (y6,h)) fun y32 h=>
 ae (C 83 [y32] h) fun y33 h=>
 ae (some (y33,h)) fun y31 h=>
 ae (pu (aG y31 0) h) fun y34 h=>
 ae (pu (aG y31 1) h) fun y35 h=>
 ae (cL Zg h) fun y8 h=>
 ae (bw 37 y8 y34 h) fun _ h=>
 ae (some (y35,h)) fun y9 h=>
 ae (bD 2 y7 h) fun y36 h=>
 ae (bw 2 (x 3) y36 h) fun _ h=>
 ae (some (y9,h)) fun y37 h=>
 ae (pu (bin Tryz.prog .neq 35 y37 (.int .i64 0)) h) fun y38 h=>
 (match y38 with
 | .bool true=>
 ae (pu (aA (x 3) 1) h) fun y39 h=>
 ae (bw 1 y39 (.bool true) h) fun _ h=>
 ae (bD 37 y8 h) fun y40 h=>
 ae (pu (aA (x 2) 76) h) fun y41 h=>
 ae (bw 37 y41 y40 h) fun _ h=>
 ae (some ((.int .u64 0),h)) fun _y10 h=>
 ae (bD 2 (x 3) h) fun y43 h=>
 ae (C 78 [y43,(.int .i64 2)] h) fun y44 h=>
 ae (some (y44,h)) fun y42 h=>
 ae (pu (aG y42 0) h) fun y45 h=>
 ae (pu (aG y42 1) h) fun y46 h=>
 ae (some (y45,h)) fun y10_1 h=>
 ae (bw 2 (x 3) y46 h) fun _ h=>
 ae (some (y10_1,h)) fun y47 h=>
 ae (fc .i64 y47 h) fun y48 h=>
 ae (pu (aA (x 2) 113) h) fun y49 h=>
 ae (pu (aA y49 0) h) fun y50 h=>
 ae (bw 1 y50 y48 h) fun _ h=>
 ae (bD 2 (x 3) h) fun y52 h=>
 ae (C 79 [y52] h) fun eJ h=>
 ae (some (eJ,h)) fun y51 h=>
 ae (pu (aG y51 0) h) fun eN h=>
 ae (pu (aG y51 1) h) fun y55 h=>
 ae (pu (aA (x 2) 113) h) fun y56 h=>
 ae (pu (aA y56 1) h) fun y57 h=>
 ae (bw 1 y57 eN h) fun _ h=>
 ae (bw 2 (x 3) y55 h) fun _ h=>
 k42s3 C (aJ 71 (up x [(6,y6),(7,y7),(8,y8),(9,y9),(10,y10_1),(18,y18),(19,y19),(20,y20),(21,y21),(22,y22),(23,y23),(24,y24),(25,y25),(26,cV),(27,dn),(28,y28),(29,y29),(30,y30),(31,y31),(32,y32),(33,y33),(34,y34),(35,y35),(36,y36),(37,y37),(38,y38),(39,y39),(40,y40),(41,y41),(42,y42),(43,y43),(44,y44),(45,y45),(46,y46),(47,y47),(48,y48),(49,y49),(50,y50),(51,y51),(52,y52),(53,eJ),(54,eN),(55,y55),(56,y56),(57,y57)])) h
 | .bool false=>
 ae (bD 37 y8 h) fun y40 h=>
 ae (pu (aA (x 2) 76) h) fun y41 h=>
 ae (bw 37 y41 y40 h) fun _ h=>
 ae (some ((.int .u64 0),h)) fun _y10 h=>
 ae (bD 2 (x 3) h) fun y43 h=>
 ae (C 78 [y43,(.int .i64 2)] h) fun y44 h=>
 ae (some (y44,h)) fun y42 h=>
 ae (pu (aG y42 0) h) fun y45 h=>
 ae (pu (aG y42 1) h) fun y46 h=>
 ae (some (y45,h)) fun y10_1 h=>
 ae (bw 2 (x 3) y46 h) fun _ h=>
 ae (some (y10_1,h)) fun y47 h=>
 ae (fc .i64 y47 h) fun y48 h=>
 ae (pu (aA (x 2) 113) h) fun y49 h=>
 ae (pu (aA y49 0) h) fun y50 h=>
 ae (bw 1 y50 y48 h) fun _ h=>
 ae (bD 2 (x 3) h) fun y52 h=>
 ae (C 79 [y52] h) fun eJ h=>
 ae (some (eJ,h)) fun y51 h=>
 ae (pu (aG y51 0) h) fun eN h=>
 ae (pu (aG y51 1) h) fun y55 h=>
 ae (pu (aA (x 2) 113) h) fun y56 h=>
 ae (pu (aA y56 1) h) fun y57 h=>
 ae (bw 1 y57 eN h) fun _ h=>
 ae (bw 2 (x 3) y55 h) fun _ h=>
 k42s3 C (aJ 71 (up x [(6,y6),(7,y7),(8,y8),(9,y9),(10,y10_1),(18,y18),(19,y19),(20,y20),(21,y21),(22,y22),(23,y23),(24,y24),(25,y25),(26,cV),(27,dn),(28,y28),(29,y29),(30,y30),(31,y31),(32,y32),(33,y33),(34,y34),(35,y35),(36,y36),(37,y37),(38,y38),(40,y40),(41,y41),(42,y42),(43,y43),(44,y44),(45,y45),(46,y46),(47,y47),(48,y48),(49,y49),(50,y50),(51,y51),(52,y52),(53,eJ),(54,eN),(55,y55),(56,y56),(57,y57)])) h
 |_=>none)
 | .bool false=>
 k42s3 C (aJ 71 (up x [(18,y18),(19,y19),(20,y20),(21,y21),(22,y22),(23,y23),(24,y24),(25,y25)])) h
 |_=>none)
noncomputable def t42s3 (C:au) (x:Nat→Value) (h:aj):Out:=
 ae (pu (aA (x 2) 0) h) fun y58 h=>
 ae (aN y58 h) fun y59 h=>
 ae (pu (bin Tryz.prog .eql 24 y59 (.int .u8 11)) h) fun y60 h=>
 (match y60 with
 | .bool true=>
 ae (some ((.int .u64 0),h)) fun _y11 h=>
 ae (bD 2 (x 3) h) fun y62 h=>
 ae (C 78 [y62,(.int .i64 2)] h) fun y63 h=>
 ae (some (y63,h)) fun y61 h=>
 ae (pu (aG y61 0) h) fun y64 h=>
 ae (pu (aG y61 1) h) fun y65 h=>
 ae (some (y64,h)) fun y11_1 h=>
 ae (bw 2 (x 3) y65 h) fun _ h=>
 ae (some (y11_1,h)) fun y66 h=>
 ae (fc .i64 y66 h) fun y67 h=>
 ae (pu (aA (x 2) 115) h) fun y68 h=>
 ae (bw 1 y68 y67 h) fun _ h=>
 k42s4 C (aJ 71 (up x [(11,y11_1),(58,y58),(59,y59),(60,y60),(61,y61),(62,y62),(63,y63),(64,y64),(65,y65),(66,y66),(67,y67),(68,y68)])) h
 | .bool false=>
 k42s4 C (aJ 71 (up x [(58,y58),(59,y59),(60,y60)])) h
 |_=>none)
noncomputable def t42s4 (_C:au) (x:Nat→Value) (h:aj):Out:=
 let g14_0:=h
 ae (bD 116 (x 2) g14_0) fun y69 g14_1=>
 ae (bD 2 (x 3) g14_1) fun y70 g14_2=>
 ae (bw 116 (x 4) y69 g14_2) fun _ g14_3=>
 ae (bw 2 (x 5) y70 g14_3) fun _ g14_4=>
 (match (dH true (bD 2 (x 3) g14_3) y70&&true) with
 |true=>
 let h:=g14_4
 ar Tryz.prog Tryz.f42.results.toList (aJ 71 (up x [(69,y69),(70,y70)])) h
 |false=>none)
theorem t42s0_eq (C:au) (x:Nat→Value) (h:aj):k42s0 C (aJ 71 x) h=t42s0 C x h:=
 aR (a:=partOf Tryz.f42 [0]) (c:=partOf Tryz.f42 [1]) (by kernel_rfl) (k42s1 C) rfl (T:=t42s0 C) (fun x h=>by kernel_rfl) x h
theorem t42s1_eq (C:au) (x:Nat→Value) (h:aj):k42s1 C (aJ 71 x) h=t42s1 C x h:=
 aR (a:=partOf Tryz.f42 [1,0]) (c:=partOf Tryz.f42 [1,1]) (by kernel_rfl) (k42s2 C) rfl (T:=t42s1 C) (fun x h=>by kernel_rfl) x h
theorem t42s2_eq (C:au) (x:Nat→Value) (h:aj):k42s2 C (aJ 71 x) h=t42s2 C x h:=
 aR (a:=partOf Tryz.f42 [1,1,0]) (c:=partOf Tryz.f42 [1,1,1]) (by kernel_rfl) (k42s3 C) rfl (T:=t42s2 C) (fun x h=>by kernel_rfl) x h
theorem t42s3_eq (C:au) (x:Nat→Value) (h:aj):k42s3 C (aJ 71 x) h=t42s3 C x h:=
 aR (a:=partOf Tryz.f42 [1,1,1,0]) (c:=partOf Tryz.f42 [1,1,1,1]) (by kernel_rfl) (k42s4 C) rfl (T:=t42s3 C) (fun x h=>by kernel_rfl) x h
theorem t42s4_eq (C:au) (x:Nat→Value) (h:aj):k42s4 C (aJ 71 x) h=t42s4 C x h:=
 bg (b:=partOf Tryz.f42 [1,1,1,1]) (kE:=(ar Tryz.prog Tryz.f42.results.toList)) (rE:=(ar Tryz.prog Tryz.f42.results.toList)) (xE:=(fun _ _ _=>none)) (T:=t42s4 C) (fun x h=>by kernel_rfl) x h
theorem t42_eq (C:au) (x0 x1:Value) (h:aj):bf Tryz.prog C Tryz.f42 [x0,x1] h=k42s0 C (aJ 71 (bs [x0,x1])) h:=by kernel_rfl
end Go.Proofs.YtjghlcdidopcpaaGreatDoor

