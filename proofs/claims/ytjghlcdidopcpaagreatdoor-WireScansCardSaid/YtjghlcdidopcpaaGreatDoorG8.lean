/-
  A part of the proof, spaces and names shortened by a program (a claim may hold 1,500,000 bytes).
  Conditions: as each theorem states.
-/
import Derived.Test.YtjghlcdidopcpaaGreatDoorG7
import Derived.Test.YtjghlcdidopcpaaGreatDoorProg
import Derived.KernelRfl
namespace Go.Proofs.YtjghlcdidopcpaaGreatDoor
open Go Go.Abs
noncomputable def k14s0 (C:au) (e:Env) (h:aj):Out:=aT Tryz.prog C (partOf Tryz.f14 []) e h (ar Tryz.prog Tryz.f14.results.toList) (ar Tryz.prog Tryz.f14.results.toList) (fun _ _ _=>none)
noncomputable def k14s1 (C:au) (e:Env) (h:aj):Out:=aT Tryz.prog C (partOf Tryz.f14 [1]) e h (ar Tryz.prog Tryz.f14.results.toList) (ar Tryz.prog Tryz.f14.results.toList) (fun _ _ _=>none)
noncomputable def k14s2 (C:au) (e:Env) (h:aj):Out:=aT Tryz.prog C (partOf Tryz.f14 [1,1]) e h (ar Tryz.prog Tryz.f14.results.toList) (ar Tryz.prog Tryz.f14.results.toList) (fun _ _ _=>none)
noncomputable def k14s3 (C:au) (e:Env) (h:aj):Out:=aT Tryz.prog C (partOf Tryz.f14 [1,1,1]) e h (ar Tryz.prog Tryz.f14.results.toList) (ar Tryz.prog Tryz.f14.results.toList) (fun _ _ _=>none)
noncomputable def k14s4 (C:au) (e:Env) (h:aj):Out:=aT Tryz.prog C (partOf Tryz.f14 [1,1,1,1]) e h (ar Tryz.prog Tryz.f14.results.toList) (ar Tryz.prog Tryz.f14.results.toList) (fun _ _ _=>none)
noncomputable def k14s5 (C:au) (e:Env) (h:aj):Out:=aT Tryz.prog C (partOf Tryz.f14 [1,1,1,1,1]) e h (ar Tryz.prog Tryz.f14.results.toList) (ar Tryz.prog Tryz.f14.results.toList) (fun _ _ _=>none)
noncomputable def k14s6 (C:au) (e:Env) (h:aj):Out:=aT Tryz.prog C (partOf Tryz.f14 [1,1,1,1,1,1]) e h (ar Tryz.prog Tryz.f14.results.toList) (ar Tryz.prog Tryz.f14.results.toList) (fun _ _ _=>none)
noncomputable def k14s7 (C:au) (e:Env) (h:aj):Out:=aT Tryz.prog C (partOf Tryz.f14 [1,1,1,1,1,1,1]) e h (ar Tryz.prog Tryz.f14.results.toList) (ar Tryz.prog Tryz.f14.results.toList) (fun _ _ _=>none)
noncomputable def k14s8 (C:au) (e:Env) (h:aj):Out:=aT Tryz.prog C (partOf Tryz.f14 [1,1,1,1,1,1,1,1]) e h (ar Tryz.prog Tryz.f14.results.toList) (ar Tryz.prog Tryz.f14.results.toList) (fun _ _ _=>none)
noncomputable def k14s9 (C:au) (e:Env) (h:aj):Out:=aT Tryz.prog C (partOf Tryz.f14 [1,1,1,1,1,1,1,1,1]) e h (ar Tryz.prog Tryz.f14.results.toList) (ar Tryz.prog Tryz.f14.results.toList) (fun _ _ _=>none)
noncomputable def k14s10 (C:au) (e:Env) (h:aj):Out:=aT Tryz.prog C (partOf Tryz.f14 [1,1,1,1,1,1,1,1,1,1]) e h (ar Tryz.prog Tryz.f14.results.toList) (ar Tryz.prog Tryz.f14.results.toList) (fun _ _ _=>none)
noncomputable def k14s11 (C:au) (e:Env) (h:aj):Out:=aT Tryz.prog C (partOf Tryz.f14 [1,1,1,1,1,1,1,1,1,1,1]) e h (ar Tryz.prog Tryz.f14.results.toList) (ar Tryz.prog Tryz.f14.results.toList) (fun _ _ _=>none)
noncomputable def k14s12 (C:au) (e:Env) (h:aj):Out:=aT Tryz.prog C (partOf Tryz.f14 [1,1,1,1,1,1,1,1,1,1,1,1]) e h (ar Tryz.prog Tryz.f14.results.toList) (ar Tryz.prog Tryz.f14.results.toList) (fun _ _ _=>none)
noncomputable def t14s0 (C:au) (x:Nat→Value) (h:aj):Out:=
 ae (cL Zl h) fun y2 h=>
 ae (some ((.int .i64 0),h)) fun y3 h=>
 k14s1 C (aJ 106 (up x [(2,y2),(3,y3)])) h
noncomputable def t14s1 (C:au) (x:Nat→Value) (h:aj):Out:=
 ae (some ((x 0),h)) fun y9 h=>
 ae (C 37 [y9] h) fun y10 h=>
 ae (some (y10,h)) fun y8 h=>
 ae (pu (aG y8 0) h) fun y11 h=>
 ae (pu (aG y8 1) h) fun y12 h=>
 ae (some (y11,h)) fun y4 h=>
 ae (some (y12,h)) fun y5 h=>
 k14s2 C (aJ 106 (up x [(4,y4),(5,y5),(8,y8),(9,y9),(10,y10),(11,y11),(12,y12)])) h
noncomputable def t14s2 (C:au) (x:Nat→Value) (h:aj):Out:=
 ae (some ((x 5),h)) fun y13 h=>
 ae (pu (bin Tryz.prog .neq 35 y13 (.int .i64 0)) h) fun y14 h=>
 (match y14 with
 | .bool true=>
 ae (pu (bU Zl []) h) fun y15 h=>
 ae (some ((x 5),h)) fun y16 h=>
 ae (bw 116 (x 2) y15 h) fun _ h=>
 ae (some (y16,h)) fun y3 h=>
 ar Tryz.prog Tryz.f14.results.toList (aJ 106 (up x [(3,y3),(13,y13),(14,y14),(15,y15),(16,y16)])) h
 | .bool false=>
 k14s3 C (aJ 106 (up x [(13,y13),(14,y14)])) h
 |_=>none)
noncomputable def t14s3 (C:au) (x:Nat→Value) (h:aj):Out:=
 ae (some ((x 0),h)) fun y17 h=>
 ae (pu (bG y17) h) fun y18 h=>
 ae (some ((x 4),h)) fun y19 h=>
 ae (pu (bin Tryz.prog .lss 3 y18 y19) h) fun y20 h=>
 (match y20 with
 | .bool true=>
 ae (pu (bU Zl []) h) fun y21 h=>
 ae (bw 116 (x 2) y21 h) fun _ h=>
 ae (some ((.int .i64 4),h)) fun y3 h=>
 ar Tryz.prog Tryz.f14.results.toList (aJ 106 (up x [(3,y3),(17,y17),(18,y18),(19,y19),(20,y20),(21,y21)])) h
 | .bool false=>
 k14s4 C (aJ 106 (up x [(17,y17),(18,y18),(19,y19),(20,y20)])) h
 |_=>none)
noncomputable def t14s4 (C:au) (x:Nat→Value) (h:aj):Out:=
 ae (some ((x 0),h)) fun y22 h=>
 ae (pu (bG y22) h) fun y23 h=>
 ae (some ((x 4),h)) fun y24 h=>
 ae (pu (bin Tryz.prog .gtr 3 y23 y24) h) fun y25 h=>
 (match y25 with
 | .bool true=>
 ae (pu (bU Zl []) h) fun cV h=>
 ae (bw 116 (x 2) cV h) fun _ h=>
 ae (some ((.int .i64 3),h)) fun y3 h=>
 ar Tryz.prog Tryz.f14.results.toList (aJ 106 (up x [(3,y3),(22,y22),(23,y23),(24,y24),(25,y25),(26,cV)])) h
 | .bool false=>
 k14s5 C (aJ 106 (up x [(22,y22),(23,y23),(24,y24),(25,y25)])) h
 |_=>none)
noncomputable def t14s5 (C:au) (x:Nat→Value) (h:aj):Out:=
 ae (some ((x 0),h)) fun dn h=>
 ae (some ((x 4),h)) fun y28 h=>
 ae (pu (bin Tryz.prog .sub 3 y28 (.int .i64 4)) h) fun y29 h=>
 ae (pu (slR 1 dn (some y29) none none) h) fun y30 h=>
 ae (C 38 [y30] h) fun y31 h=>
 ae (some ((x 0),h)) fun y32 h=>
 ae (some ((x 4),h)) fun y33 h=>
 ae (pu (bin Tryz.prog .sub 3 y33 (.int .i64 4)) h) fun y34 h=>
 ae (pu (slR 1 y32 none (some y34) none) h) fun y35 h=>
 ae (C 39 [y35] h) fun y36 h=>
 ae (fc .u64 y36 h) fun y37 h=>
 ae (pu (bin Tryz.prog .neq 25 y31 y37) h) fun y38 h=>
 (match y38 with
 | .bool true=>
 ae (pu (bU Zl []) h) fun y39 h=>
 ae (bw 116 (x 2) y39 h) fun _ h=>
 ae (some ((.int .i64 20),h)) fun y3 h=>
 ar Tryz.prog Tryz.f14.results.toList (aJ 106 (up x [(3,y3),(27,dn),(28,y28),(29,y29),(30,y30),(31,y31),(32,y32),(33,y33),(34,y34),(35,y35),(36,y36),(37,y37),(38,y38),(39,y39)])) h
 | .bool false=>
 k14s6 C (aJ 106 (up x [(27,dn),(28,y28),(29,y29),(30,y30),(31,y31),(32,y32),(33,y33),(34,y34),(35,y35),(36,y36),(37,y37),(38,y38)])) h
 |_=>none)
noncomputable def t14s6 (C:au) (x:Nat→Value) (h:aj):Out:=
 ae (some ((x 0),h)) fun y40 h=>
 ae (pu (bB 1 y40 (.int .i64 3)) h) fun y41 h=>
 ae (aN y41 h) fun y42 h=>
 ae (some ((x 0),h)) fun y43 h=>
 ae (pu (bB 1 y43 (.int .i64 4)) h) fun y44 h=>
 ae (aN y44 h) fun y45 h=>
 ae (fc .i64 y45 h) fun y46 h=>
 ae (some ((x 0),h)) fun y47 h=>
 ae (pu (bB 1 y47 (.int .i64 5)) h) fun y48 h=>
 ae (aN y48 h) fun y49 h=>
 ae (fc .i64 y49 h) fun y50 h=>
 ae (pu (bU Zl [(0,1,y42),(1,1,y46),(2,1,y50)]) h) fun y51 h=>
 ae (cL Zl h) fun y6 h=>
 ae (bw 116 y6 y51 h) fun _ h=>
 k14s7 C (aJ 106 (up x [(6,y6),(40,y40),(41,y41),(42,y42),(43,y43),(44,y44),(45,y45),(46,y46),(47,y47),(48,y48),(49,y49),(50,y50),(51,y51)])) h
noncomputable def t14s7 (C:au) (x:Nat→Value) (h:aj):Out:=
 ae (pu (aA (x 6) 0) h) fun y52 h=>
 ae (aN y52 h) fun eJ h=>
 ae (pu (bin Tryz.prog .lss 24 eJ (.int .u8 1)) h) fun eN h=>
 ae (some (eN,h)) fun y55 h=>
 ae (aq (aI y55==some false) (pu (aA (x 6) 0) h) h) fun y56 h=>
 ae (aq (aI y55==some false) (aN y56 h) h) fun y57 h=>
 ae (aq (aI y55==some false) (pu (bin Tryz.prog .gtr 24 y57 (.int .u8 13)) h) h) fun y58 h=>
 ae (match y55 with | .bool t=>some (if t then (.bool true) else y58,h)|_=>none) fun y59 h=>
 (match y59 with
 | .bool true=>
 ae (pu (bU Zl []) h) fun y60 h=>
 ae (bw 116 (x 2) y60 h) fun _ h=>
 ae (some ((.int .i64 2),h)) fun y3 h=>
 ar Tryz.prog Tryz.f14.results.toList (aJ 106 (up x [(3,y3),(52,y52),(53,eJ),(54,eN),(55,y55),(56,y56),(57,y57),(58,y58),(59,y59),(60,y60)])) h
 | .bool false=>
 k14s8 C (aJ 106 (up x [(52,y52),(53,eJ),(54,eN),(55,y55),(56,y56),(57,y57),(58,y58),(59,y59)])) h
 |_=>none)
noncomputable def t14s8 (C:au) (x:Nat→Value) (h:aj):Out:=
 ae (some ((x 0),h)) fun y61 h=>
 ae (some ((x 4),h)) fun y62 h=>
 ae (pu (bin Tryz.prog .sub 3 y62 (.int .i64 4)) h) fun y63 h=>
 ae (pu (slR 1 y61 (some (.int .i64 10)) (some y63) none) h) fun y64 h=>
 ae (pu (bU [(.slice none 0 0),(.bool false)] [(0,1,y64),(1,1,(.bool false))]) h) fun y65 h=>
 ae (cL [(.slice none 0 0),(.bool false)] h) fun y7 h=>
 ae (bw 2 y7 y65 h) fun _ h=>
 k14s9 C (aJ 106 (up x [(7,y7),(61,y61),(62,y62),(63,y63),(64,y64),(65,y65)])) h
noncomputable def t14s9 (C:au) (x:Nat→Value) (h:aj):Out:=
 ae (pu (aA (x 6) 0) h) fun y73 h=>
 ae (aN y73 h) fun y74 h=>
 ae (pu (bin Tryz.prog .leq 24 y74 (.int .u8 3)) h) fun y75 h=>
 ae (some (y75,h)) fun y72 h=>
 (match y72 with
 | .bool true=>
 ae (bD 116 (x 6) h) fun y77 h=>
 ae (bD 2 (x 7) h) fun y78 h=>
 ae (C 40 [y77,y78] h) fun y79 h=>
 ae (some (y79,h)) fun y76 h=>
 ae (pu (aG y76 0) h) fun y80 h=>
 ae (pu (aG y76 1) h) fun y81 h=>
 ae (bw 116 (x 6) y80 h) fun _ h=>
 ae (bw 2 (x 7) y81 h) fun _ h=>
 k14s10 C (aJ 106 (up x [(72,y72),(73,y73),(74,y74),(75,y75),(76,y76),(77,y77),(78,y78),(79,y79),(80,y80),(81,y81)])) h
 | .bool false=>
 ae (pu (aA (x 6) 0) h) fun y83 h=>
 ae (aN y83 h) fun y84 h=>
 ae (pu (bin Tryz.prog .leq 24 y84 (.int .u8 5)) h) fun y85 h=>
 ae (some (y85,h)) fun y82 h=>
 (match y82 with
 | .bool true=>
 ae (bD 116 (x 6) h) fun y87 h=>
 ae (bD 2 (x 7) h) fun y88 h=>
 ae (C 41 [y87,y88] h) fun y89 h=>
 ae (some (y89,h)) fun y86 h=>
 ae (pu (aG y86 0) h) fun y90 h=>
 ae (pu (aG y86 1) h) fun y91 h=>
 ae (bw 116 (x 6) y90 h) fun _ h=>
 ae (bw 2 (x 7) y91 h) fun _ h=>
 k14s10 C (aJ 106 (up x [(72,y72),(73,y73),(74,y74),(75,y75),(82,y82),(83,y83),(84,y84),(85,y85),(86,y86),(87,y87),(88,y88),(89,y89),(90,y90),(91,y91)])) h
 | .bool false=>
 ae (bD 116 (x 6) h) fun y67 h=>
 ae (bD 2 (x 7) h) fun y68 h=>
 ae (C 42 [y67,y68] h) fun y69 h=>
 ae (some (y69,h)) fun y66 h=>
 ae (pu (aG y66 0) h) fun y70 h=>
 ae (pu (aG y66 1) h) fun y71 h=>
 ae (bw 116 (x 6) y70 h) fun _ h=>
 ae (bw 2 (x 7) y71 h) fun _ h=>
 k14s10 C (aJ 106 (up x [(66,y66),(67,y67),(68,y68),(69,y69),(70,y70),(71,y71),(72,y72),(73,y73),(74,y74),(75,y75),(82,y82),(83,y83),(84,y84),(85,y85)])) h
 |_=>none)
 |_=>none)
noncomputable def t14s10 (C:au) (x:Nat→Value) (h:aj):Out:=
 ae (pu (aA (x 7) 1) h) fun y92 h=>
 ae (aN y92 h) fun y93 h=>
 ae (some (y93,h)) fun y94 h=>
 ae (aq (aI y94==some false) (pu (aA (x 7) 0) h) h) fun y95 h=>
 ae (aq (aI y94==some false) (aN y95 h) h) fun y96 h=>
 ae (aq (aI y94==some false) (pu (bG y96) h) h) fun y97 h=>
 ae (aq (aI y94==some false) (pu (bin Tryz.prog .gtr 3 y97 (.int .i64 0)) h) h) fun y98 h=>
 ae (match y94 with | .bool t=>some (if t then (.bool true) else y98,h)|_=>none) fun y99 h=>
 (match y99 with
 | .bool true=>
 ae (pu (bU Zl []) h) fun y100 h=>
 ae (bw 116 (x 2) y100 h) fun _ h=>
 ae (some ((.int .i64 5),h)) fun y3 h=>
 ar Tryz.prog Tryz.f14.results.toList (aJ 106 (up x [(3,y3),(92,y92),(93,y93),(94,y94),(95,y95),(96,y96),(97,y97),(98,y98),(99,y99),(100,y100)])) h
 | .bool false=>
 k14s11 C (aJ 106 (up x [(92,y92),(93,y93),(94,y94),(95,y95),(96,y96),(97,y97),(98,y98),(99,y99)])) h
 |_=>none)
noncomputable def t14s11 (C:au) (x:Nat→Value) (h:aj):Out:=
 ae (bD 116 (x 6) h) fun y101 h=>
 ae (C 25 [y101] h) fun y102 h=>
 ae (pu (unA .not y102) h) fun y103 h=>
 (match y103 with
 | .bool true=>
 ae (pu (bU Zl []) h) fun y104 h=>
 ae (bw 116 (x 2) y104 h) fun _ h=>
 ae (some ((.int .i64 2),h)) fun y3 h=>
 ar Tryz.prog Tryz.f14.results.toList (aJ 106 (up x [(3,y3),(101,y101),(102,y102),(103,y103),(104,y104)])) h
 | .bool false=>
 k14s12 C (aJ 106 (up x [(101,y101),(102,y102),(103,y103)])) h
 |_=>none)
noncomputable def t14s12 (C:au) (x:Nat→Value) (h:aj):Out:=
 ae (bD 116 (x 6) h) fun y105 h=>
 ae (bw 116 (x 2) y105 h) fun _ h=>
 ae (some ((.int .i64 0),h)) fun y3 h=>
 ar Tryz.prog Tryz.f14.results.toList (aJ 106 (up x [(3,y3),(105,y105)])) h
theorem t14s0_eq (C:au) (x:Nat→Value) (h:aj):k14s0 C (aJ 106 x) h=t14s0 C x h:=
 aR (a:=partOf Tryz.f14 [0]) (c:=partOf Tryz.f14 [1]) (by kernel_rfl) (k14s1 C) rfl (T:=t14s0 C) (fun x h=>by kernel_rfl) x h
theorem t14s1_eq (C:au) (x:Nat→Value) (h:aj):k14s1 C (aJ 106 x) h=t14s1 C x h:=
 aR (a:=partOf Tryz.f14 [1,0]) (c:=partOf Tryz.f14 [1,1]) (by kernel_rfl) (k14s2 C) rfl (T:=t14s1 C) (fun x h=>by kernel_rfl) x h
theorem t14s2_eq (C:au) (x:Nat→Value) (h:aj):k14s2 C (aJ 106 x) h=t14s2 C x h:=
 aR (a:=partOf Tryz.f14 [1,1,0]) (c:=partOf Tryz.f14 [1,1,1]) (by kernel_rfl) (k14s3 C) rfl (T:=t14s2 C) (fun x h=>by kernel_rfl) x h
theorem t14s3_eq (C:au) (x:Nat→Value) (h:aj):k14s3 C (aJ 106 x) h=t14s3 C x h:=
 aR (a:=partOf Tryz.f14 [1,1,1,0]) (c:=partOf Tryz.f14 [1,1,1,1]) (by kernel_rfl) (k14s4 C) rfl (T:=t14s3 C) (fun x h=>by kernel_rfl) x h
theorem t14s4_eq (C:au) (x:Nat→Value) (h:aj):k14s4 C (aJ 106 x) h=t14s4 C x h:=
 aR (a:=partOf Tryz.f14 [1,1,1,1,0]) (c:=partOf Tryz.f14 [1,1,1,1,1]) (by kernel_rfl) (k14s5 C) rfl (T:=t14s4 C) (fun x h=>by kernel_rfl) x h
theorem t14s5_eq (C:au) (x:Nat→Value) (h:aj):k14s5 C (aJ 106 x) h=t14s5 C x h:=
 aR (a:=partOf Tryz.f14 [1,1,1,1,1,0]) (c:=partOf Tryz.f14 [1,1,1,1,1,1]) (by kernel_rfl) (k14s6 C) rfl (T:=t14s5 C) (fun x h=>by kernel_rfl) x h
theorem t14s6_eq (C:au) (x:Nat→Value) (h:aj):k14s6 C (aJ 106 x) h=t14s6 C x h:=
 aR (a:=partOf Tryz.f14 [1,1,1,1,1,1,0]) (c:=partOf Tryz.f14 [1,1,1,1,1,1,1]) (by kernel_rfl) (k14s7 C) rfl (T:=t14s6 C) (fun x h=>by kernel_rfl) x h
theorem t14s7_eq (C:au) (x:Nat→Value) (h:aj):k14s7 C (aJ 106 x) h=t14s7 C x h:=
 aR (a:=partOf Tryz.f14 [1,1,1,1,1,1,1,0]) (c:=partOf Tryz.f14 [1,1,1,1,1,1,1,1]) (by kernel_rfl) (k14s8 C) rfl (T:=t14s7 C) (fun x h=>by kernel_rfl) x h
theorem t14s8_eq (C:au) (x:Nat→Value) (h:aj):k14s8 C (aJ 106 x) h=t14s8 C x h:=
 aR (a:=partOf Tryz.f14 [1,1,1,1,1,1,1,1,0]) (c:=partOf Tryz.f14 [1,1,1,1,1,1,1,1,1]) (by kernel_rfl) (k14s9 C) rfl (T:=t14s8 C) (fun x h=>by kernel_rfl) x h
theorem t14s9_eq (C:au) (x:Nat→Value) (h:aj):k14s9 C (aJ 106 x) h=t14s9 C x h:=
 aR (a:=partOf Tryz.f14 [1,1,1,1,1,1,1,1,1,0]) (c:=partOf Tryz.f14 [1,1,1,1,1,1,1,1,1,1]) (by kernel_rfl) (k14s10 C) rfl (T:=t14s9 C) (fun x h=>by kernel_rfl) x h
theorem t14s10_eq (C:au) (x:Nat→Value) (h:aj):k14s10 C (aJ 106 x) h=t14s10 C x h:=
 aR (a:=partOf Tryz.f14 [1,1,1,1,1,1,1,1,1,1,0]) (c:=partOf Tryz.f14 [1,1,1,1,1,1,1,1,1,1,1]) (by kernel_rfl) (k14s11 C) rfl (T:=t14s10 C) (fun x h=>by kernel_rfl) x h
theorem t14s11_eq (C:au) (x:Nat→Value) (h:aj):k14s11 C (aJ 106 x) h=t14s11 C x h:=
 aR (a:=partOf Tryz.f14 [1,1,1,1,1,1,1,1,1,1,1,0]) (c:=partOf Tryz.f14 [1,1,1,1,1,1,1,1,1,1,1,1]) (by kernel_rfl) (k14s12 C) rfl (T:=t14s11 C) (fun x h=>by kernel_rfl) x h
theorem t14s12_eq (C:au) (x:Nat→Value) (h:aj):k14s12 C (aJ 106 x) h=t14s12 C x h:=
 bg (b:=partOf Tryz.f14 [1,1,1,1,1,1,1,1,1,1,1,1]) (kE:=(ar Tryz.prog Tryz.f14.results.toList)) (rE:=(ar Tryz.prog Tryz.f14.results.toList)) (xE:=(fun _ _ _=>none)) (T:=t14s12 C) (fun x h=>by kernel_rfl) x h
theorem t14_eq (C:au) (x0:Value) (h:aj):bf Tryz.prog C Tryz.f14 [x0] h=k14s0 C (aJ 106 (bs [x0])) h:=by kernel_rfl
end Go.Proofs.YtjghlcdidopcpaaGreatDoor

namespace Go.Proofs.YtjghlcdidopcpaaGreatDoor
open Go Go.Abs
end Go.Proofs.YtjghlcdidopcpaaGreatDoor

namespace Go.Proofs.YtjghlcdidopcpaaGreatDoor
open Go Go.Abs
noncomputable def k10_9 (C:au) (e:Env) (h:aj):Out:=aT Tryz.prog C (partOf Tryz.f10 [1,1,1,1,1,1]) e h (ar Tryz.prog Tryz.f10.results.toList) (ar Tryz.prog Tryz.f10.results.toList) (fun _ _ _=>none)
noncomputable def b10_11 (C:au) (i:Nat) (e:Env) (h:aj):Out:=if i=0 then (k10_9 C) e h else (fun _ _ _=>none) i e h
noncomputable def t10 (C:au) (x0:Value) (h:aj):Out:=
 ae (some ((.bool false),h)) fun y2 h=>
 ae (some (x0,h)) fun y10 h=>
 ae (pu (bG y10) h) fun y11 h=>
 ae (pu (bin Tryz.prog .gtr 3 y11 (.int .i64 40000)) h) fun y12 h=>
 (match y12 with
 | .bool true=>
 ae (C 12 [] h) fun y13 h=>
 ae (some (y13,h)) fun y2_1 h=>
 some (y2_1,h)
 | .bool false=>
 ae (bslR 1 (.int .u8 0) 0 [] h) fun y15 h=>
 ae (some (x0,h)) fun y16 h=>
 ae (cl 1 1 y15 y16 h) fun y17 h=>
 ae (C 29 [y17] h) fun y18 h=>
 ae (some (y18,h)) fun y14 h=>
 ae (pu (aG y14 0) h) fun y19 h=>
 ae (pu (aG y14 1) h) fun y20 h=>
 ae (pu (aG y14 2) h) fun y21 h=>
 ae (some (y19,h)) fun y3 h=>
 ae (some (y20,h)) fun y4 h=>
 ae (some (y21,h)) fun y5 h=>
 ae (some (x0,h)) fun y23 h=>
 ae (C 30 [y23] h) fun y24 h=>
 ae (some (y24,h)) fun y22 h=>
 ae (pu (aG y22 0) h) fun y25 h=>
 ae (pu (aG y22 1) h) fun cV h=>
 ae (pu (aG y22 2) h) fun dn h=>
 ae (some (y25,h)) fun y6 h=>
 ae (some (cV,h)) fun y7 h=>
 ae (some (dn,h)) fun y8 h=>
 ae (some (y4,h)) fun y28 h=>
 ae (some (y7,h)) fun y29 h=>
 ae (pu (bin Tryz.prog .neq 3 y28 y29) h) fun y30 h=>
 ae (some (y30,h)) fun y31 h=>
 ae (aq (aI y31==some false) (some (y5,h)) h) fun y32 h=>
 ae (aq (aI y31==some false) (some (y8,h)) h) fun y33 h=>
 ae (aq (aI y31==some false) (pu (bin Tryz.prog .neq 35 y32 y33) h) h) fun y34 h=>
 ae (match y31 with | .bool t=>some (if t then (.bool true) else y34,h)|_=>none) fun y35 h=>
 ae (some (y35,h)) fun y36 h=>
 ae (aq (aI y36==some false) (some (y3,h)) h) fun y37 h=>
 ae (aq (aI y36==some false) (pu (bG y37) h) h) fun y38 h=>
 ae (aq (aI y36==some false) (some (y6,h)) h) fun y39 h=>
 ae (aq (aI y36==some false) (pu (bG y39) h) h) fun y40 h=>
 ae (aq (aI y36==some false) (pu (bin Tryz.prog .neq 3 y38 y40) h) h) fun y41 h=>
 ae (match y36 with | .bool t=>some (if t then (.bool true) else y41,h)|_=>none) fun y42 h=>
 (match y42 with
 | .bool true=>
 ae (some ((.bool false),h)) fun y2_1 h=>
 some (y2_1,h)
 | .bool false=>
 ae (some ((.int .i64 0),h)) fun y9 h=>
 dX (iter (aM Tryz.prog C (partOf Tryz.f10 [1,1,1,1,1,0,1,0,0])) rounds (aJ 60 (up (bs [x0]) [(2,y2),(3,y3),(4,y4),(5,y5),(6,y6),(7,y7),(8,y8),(9,y9),(10,y10),(11,y11),(12,y12),(14,y14),(15,y15),(16,y16),(17,y17),(18,y18),(19,y19),(20,y20),(21,y21),(22,y22),(23,y23),(24,y24),(25,y25),(26,cV),(27,dn),(28,y28),(29,y29),(30,y30),(31,y31),(32,y32),(33,y33),(34,y34),(35,y35),(36,y36),(37,y37),(38,y38),(39,y39),(40,y40),(41,y41),(42,y42)])) h) (ar Tryz.prog Tryz.f10.results.toList) (b10_11 C)
 |_=>none)
 |_=>none)
noncomputable def t10k10_9 (C:au) (x:Nat→Value) (h:aj):Out:=
 ae (C 12 [] h) fun y59 h=>
 ae (some (y59,h)) fun y2 h=>
 some (y2,h)
noncomputable def fE (C:au) (x:Nat→Value) (h:aj):Option (Ex×Env×aj):=
 ae (some ((x 9),h)) fun y43 h=>
 ae (some ((x 3),h)) fun y44 h=>
 ae (pu (bG y44) h) fun y45 h=>
 ae (pu (bin Tryz.prog .lss 3 y43 y45) h) fun y46 h=>
 (match y46 with
 | .bool true=>
 ae (some ((x 3),h)) fun y49 h=>
 ae (some ((x 9),h)) fun y50 h=>
 ae (pu (bB 116 y49 y50) h) fun y51 h=>
 ae (bD 116 y51 h) fun y52 h=>
 ae (some ((x 6),h)) fun eJ h=>
 ae (some ((x 9),h)) fun eN h=>
 ae (pu (bB 116 eJ eN) h) fun y55 h=>
 ae (bD 116 y55 h) fun y56 h=>
 ae (C 15 [y52,y56] h) fun y57 h=>
 ae (pu (unA .not y57) h) fun y58 h=>
 (match y58 with
 | .bool true=>
 ae (some ((.bool false),h)) fun y2 h=>
 some (.ret,(aJ 60 (up x [(2,y2),(43,y43),(44,y44),(45,y45),(46,y46),(49,y49),(50,y50),(51,y51),(52,y52),(53,eJ),(54,eN),(55,y55),(56,y56),(57,y57),(58,y58)])),h)
 | .bool false=>
 ae (some ((x 9),h)) fun y47 h=>
 ae (pu (bin Tryz.prog .add 3 y47 (.int .i64 1)) h) fun y48 h=>
 ae (some (y48,h)) fun y9 h=>
 some (.normal,(aJ 60 (up x [(9,y9),(43,y43),(44,y44),(45,y45),(46,y46),(47,y47),(48,y48),(49,y49),(50,y50),(51,y51),(52,y52),(53,eJ),(54,eN),(55,y55),(56,y56),(57,y57),(58,y58)])),h)
 |_=>none)
 | .bool false=>
 some (.exit 0,(aJ 60 (up x [(43,y43),(44,y44),(45,y45),(46,y46)])),h)
 |_=>none)
theorem t10_eq (C:au) (x0:Value) (h:aj):bf Tryz.prog C Tryz.f10 [x0] h=t10 C x0 h:=
 (aL Tryz.prog C Tryz.f10 [x0] h (by kernel_rfl)).trans (by kernel_rfl)
theorem t10k10_9_eq (C:au) (x:Nat→Value) (h:aj):k10_9 C (aJ 60 x) h=t10k10_9 C x h:=
 bg (b:=(partOf Tryz.f10 [1,1,1,1,1,1])) (kE:=(ar Tryz.prog Tryz.f10.results.toList)) (rE:=(ar Tryz.prog Tryz.f10.results.toList)) (xE:=(fun _ _ _=>none)) (T:=t10k10_9 C) (fun x h=>by kernel_rfl) x h
theorem t10l10_11111010_eq (C:au) (x:Nat→Value) (h:aj):aM Tryz.prog C (partOf Tryz.f10 [1,1,1,1,1,0,1,0,0]) (aJ 60 x) h=fE C x h:=
 bn (T:=fE C) (fun x h=>by kernel_rfl) x h
noncomputable def k30_3 (C:au) (e:Env) (h:aj):Out:=aT Tryz.prog C (partOf Tryz.f30 [1,1,1,1]) e h (ar Tryz.prog Tryz.f30.results.toList) (ar Tryz.prog Tryz.f30.results.toList) (fun _ _ _=>none)
noncomputable def b30_4 (C:au) (i:Nat) (e:Env) (h:aj):Out:=if i=0 then (k30_3 C) e h else (fun _ _ _=>none) i e h
noncomputable def t30 (C:au) (x0:Value) (h:aj):Out:=
 ae (some ((.slice none 0 0),h)) fun y2 h=>
 ae (some ((.int .i64 0),h)) fun y3 h=>
 ae (some ((.int .i64 0),h)) fun y4 h=>
 ae (bslR 116 (.agg Zl.toArray) 0 [] h) fun y10 h=>
 ae (some (y10,h)) fun y5 h=>
 ae (some ((.int .i64 0),h)) fun y6 h=>
 dX (iter (aM Tryz.prog C (partOf Tryz.f30 [1,1,1,0,0,0])) rounds (aJ 60 (up (bs [x0]) [(2,y2),(3,y3),(4,y4),(5,y5),(6,y6),(10,y10)])) h) (ar Tryz.prog Tryz.f30.results.toList) (b30_4 C)
noncomputable def t30k30_3 (C:au) (x:Nat→Value) (h:aj):Out:=
 ae (some ((x 5),h)) fun y58 h=>
 ae (some ((x 6),h)) fun y59 h=>
 ae (some (y58,h)) fun y2 h=>
 ae (some (y59,h)) fun y3 h=>
 ae (some ((.int .i64 0),h)) fun y4 h=>
 some (.tuple #[y2,y3,y4],h)
noncomputable def t30l30_11100 (C:au) (x:Nat→Value) (h:aj):Option (Ex×Env×aj):=
 ae (some ((x 0),h)) fun y11 h=>
 ae (pu (bG y11) h) fun y12 h=>
 ae (some ((x 6),h)) fun y13 h=>
 ae (pu (bin Tryz.prog .sub 3 y12 y13) h) fun y14 h=>
 ae (pu (bin Tryz.prog .geq 3 y14 (.int .i64 10)) h) fun y15 h=>
 (match y15 with
 | .bool true=>
 ae (some ((x 0),h)) fun y17 h=>
 ae (some ((x 6),h)) fun y18 h=>
 ae (pu (slR 1 y17 (some y18) none none) h) fun y19 h=>
 ae (C 37 [y19] h) fun y20 h=>
 ae (some (y20,h)) fun y16 h=>
 ae (pu (aG y16 0) h) fun y21 h=>
 ae (pu (aG y16 1) h) fun y22 h=>
 ae (some (y21,h)) fun y7 h=>
 ae (some (y22,h)) fun y8 h=>
 ae (some (y8,h)) fun y23 h=>
 ae (pu (bin Tryz.prog .neq 35 y23 (.int .i64 0)) h) fun y24 h=>
 (match y24 with
 | .bool true=>
 ae (some ((x 5),h)) fun y25 h=>
 ae (some ((x 6),h)) fun cV h=>
 ae (some (y8,h)) fun dn h=>
 ae (some (y25,h)) fun y2 h=>
 ae (some (cV,h)) fun y3 h=>
 ae (some (dn,h)) fun y4 h=>
 some (.ret,(aJ 60 (up x [(2,y2),(3,y3),(4,y4),(7,y7),(8,y8),(11,y11),(12,y12),(13,y13),(14,y14),(15,y15),(16,y16),(17,y17),(18,y18),(19,y19),(20,y20),(21,y21),(22,y22),(23,y23),(24,y24),(25,y25),(26,cV),(27,dn)])),h)
 | .bool false=>
 ae (some ((x 0),h)) fun y28 h=>
 ae (pu (bG y28) h) fun y29 h=>
 ae (some ((x 6),h)) fun y30 h=>
 ae (pu (bin Tryz.prog .sub 3 y29 y30) h) fun y31 h=>
 ae (some (y7,h)) fun y32 h=>
 ae (pu (bin Tryz.prog .lss 3 y31 y32) h) fun y33 h=>
 (match y33 with
 | .bool true=>
 ae (some ((x 5),h)) fun y34 h=>
 ae (some ((x 6),h)) fun y35 h=>
 ae (some (y34,h)) fun y2 h=>
 ae (some (y35,h)) fun y3 h=>
 ae (some ((.int .i64 0),h)) fun y4 h=>
 some (.ret,(aJ 60 (up x [(2,y2),(3,y3),(4,y4),(7,y7),(8,y8),(11,y11),(12,y12),(13,y13),(14,y14),(15,y15),(16,y16),(17,y17),(18,y18),(19,y19),(20,y20),(21,y21),(22,y22),(23,y23),(24,y24),(28,y28),(29,y29),(30,y30),(31,y31),(32,y32),(33,y33),(34,y34),(35,y35)])),h)
 | .bool false=>
 ae (some ((x 0),h)) fun y37 h=>
 ae (some ((x 6),h)) fun y38 h=>
 ae (some ((x 6),h)) fun y39 h=>
 ae (some (y7,h)) fun y40 h=>
 ae (pu (bin Tryz.prog .add 3 y39 y40) h) fun y41 h=>
 ae (pu (slR 1 y37 (some y38) (some y41) none) h) fun y42 h=>
 ae (C 14 [y42] h) fun y43 h=>
 ae (some (y43,h)) fun y36 h=>
 ae (pu (aG y36 0) h) fun y44 h=>
 ae (pu (aG y36 1) h) fun y45 h=>
 ae (cL Zl h) fun y9 h=>
 ae (bw 116 y9 y44 h) fun _ h=>
 ae (some (y45,h)) fun y8_1 h=>
 ae (some (y8_1,h)) fun y46 h=>
 ae (pu (bin Tryz.prog .neq 35 y46 (.int .i64 0)) h) fun y47 h=>
 (match y47 with
 | .bool true=>
 ae (some ((x 5),h)) fun y48 h=>
 ae (some ((x 6),h)) fun y49 h=>
 ae (some (y8_1,h)) fun y50 h=>
 ae (some (y48,h)) fun y2 h=>
 ae (some (y49,h)) fun y3 h=>
 ae (some (y50,h)) fun y4 h=>
 some (.ret,(aJ 60 (up x [(2,y2),(3,y3),(4,y4),(7,y7),(8,y8_1),(9,y9),(11,y11),(12,y12),(13,y13),(14,y14),(15,y15),(16,y16),(17,y17),(18,y18),(19,y19),(20,y20),(21,y21),(22,y22),(23,y23),(24,y24),(28,y28),(29,y29),(30,y30),(31,y31),(32,y32),(33,y33),(36,y36),(37,y37),(38,y38),(39,y39),(40,y40),(41,y41),(42,y42),(43,y43),(44,y44),(45,y45),(46,y46),(47,y47),(48,y48),(49,y49),(50,y50)])),h)
 | .bool false=>
 ae (some ((x 5),h)) fun y51 h=>
 ae (bD 116 y9 h) fun y52 h=>
 ae (bslR 116 (.agg Zl.toArray) 1 [(0,y52)] h) fun eJ h=>
 ae (cl 116 352 y51 eJ h) fun eN h=>
 ae (some (eN,h)) fun y5 h=>
 ae (some ((x 6),h)) fun y55 h=>
 ae (some (y7,h)) fun y56 h=>
 ae (pu (bin Tryz.prog .add 3 y55 y56) h) fun y57 h=>
 ae (some (y57,h)) fun y6 h=>
 some (.normal,(aJ 60 (up x [(5,y5),(6,y6),(7,y7),(8,y8_1),(9,y9),(11,y11),(12,y12),(13,y13),(14,y14),(15,y15),(16,y16),(17,y17),(18,y18),(19,y19),(20,y20),(21,y21),(22,y22),(23,y23),(24,y24),(28,y28),(29,y29),(30,y30),(31,y31),(32,y32),(33,y33),(36,y36),(37,y37),(38,y38),(39,y39),(40,y40),(41,y41),(42,y42),(43,y43),(44,y44),(45,y45),(46,y46),(47,y47),(51,y51),(52,y52),(53,eJ),(54,eN),(55,y55),(56,y56),(57,y57)])),h)
 |_=>none)
 |_=>none)
 |_=>none)
 | .bool false=>
 some (.exit 0,(aJ 60 (up x [(11,y11),(12,y12),(13,y13),(14,y14),(15,y15)])),h)
 |_=>none)
theorem t30_eq (C:au) (x0:Value) (h:aj):bf Tryz.prog C Tryz.f30 [x0] h=t30 C x0 h:=
 (aL Tryz.prog C Tryz.f30 [x0] h (by kernel_rfl)).trans (by kernel_rfl)
theorem t30k30_3_eq (C:au) (x:Nat→Value) (h:aj):k30_3 C (aJ 60 x) h=t30k30_3 C x h:=
 bg (b:=(partOf Tryz.f30 [1,1,1,1])) (kE:=(ar Tryz.prog Tryz.f30.results.toList)) (rE:=(ar Tryz.prog Tryz.f30.results.toList)) (xE:=(fun _ _ _=>none)) (T:=t30k30_3 C) (fun x h=>by kernel_rfl) x h
theorem t30l30_11100_eq (C:au) (x:Nat→Value) (h:aj):aM Tryz.prog C (partOf Tryz.f30 [1,1,1,0,0,0]) (aJ 60 x) h=t30l30_11100 C x h:=
 bn (T:=t30l30_11100 C) (fun x h=>by kernel_rfl) x h
end Go.Proofs.YtjghlcdidopcpaaGreatDoor

