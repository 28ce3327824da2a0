/-
  A part of the proof, spaces and names shortened by a program (a claim may hold 1,500,000 bytes).
  Conditions: as each theorem states.
-/
import Derived.Test.YtdnahgfgoajmcaaGreatDoorG11
import Derived.Test.YtdnahgfgoajmcaaGreatDoorProg
import Derived.KernelRfl
namespace Go.Proofs.YtdnahgfgoajmcaaGreatDoor
open Go Go.Abs Tryz
section
variable (C:au) (i:Nat) (x:fL) (e:aX) (h:ai)
noncomputable def k54_5:bc:=codeK prog C (ao f42 [1,1,1,1]) e h (dC f42) (dC f42) iL
noncomputable def b54_7:bc:=if i=0 then (k54_5 C) e h else iL i e h
noncomputable def k54_9:bc:=codeK prog C (ao f42 [1,1,1,1,1,1]) e h (dC f42) (dC f42) iL
noncomputable def b54_11:bc:=if i=4 then (k54_9 C) e h else iL i e h
noncomputable def yU:eI:=codeK prog C (ao f42 [1,1,1,0,1,0,0,1,1,1]) e h (fun e h=>some (Ex.normal,e,h)) (fun e h=>some (Ex.ret,e,h)) (fun i e h=>some (Ex.exit i,e,h))
noncomputable def b54_15:eI:=if i=1 then (yU C) e h else (fun i e h=>some (Ex.exit i,e,h)) i e h
noncomputable def k54_18:eI:=codeK prog C (ao f42 [1,1,1,0,1,0,0,1,1,0,0,1,1,1]) e h (yU C) (fun e h=>some (Ex.ret,e,h)) (b54_15 C)
noncomputable def b54_20:eI:=if i=2 then (k54_18 C) e h else (b54_15 C) i e h
noncomputable def t54 (C:au) (x0:Value) (h:ai):bc:=
 af (eH (List.replicate 32 (.int .u8 0)) h) fun y2 h=>af (some (x0,h)) fun y11 h=>af (pu (lenL y11) h) fun y12 h=>af (pu (aF prog .eql 3 y12 (.int .i64 0)) h) fun y13 h=>(match y13 with
 | .bool true=>af (C 73 [.slice none 0 0] h) fun y14 h=>af (eY 32 y2 y14 h) fun _ h=>resultsA prog f42.results.toList (aK 66 (up (bs [x0]) [(2,y2),(11,y11),(12,y12),(13,y13),(14,y14)])) h
 | .bool false=>af (some (.slice none 0 0,h)) fun y3 h=>af (some (x0,h)) fun y15 h=>af (pu (lenL y15) h) fun y16 h=>af (some (.int .i64 0,h)) fun y17 h=>fe (iter (codeA prog C (ao f42 [1,1,1,0,1,0,0])) aD (aK 66 (up (bs [x0]) [(2,y2),(3,y3),(11,y11),(12,y12),(13,y13),(15,y15),(16,y16),(17,y17)])) h) (dC f42) (b54_7 C)
 |_=>none)
noncomputable def yT:bc:=
 af (some (x 3,h)) fun y48 h=>af (some (x 3,h)) fun y49 h=>af (pu (lenL y49) h) fun y50 h=>af (pu (aF prog .sub 3 y50 (.int .i64 1)) h) fun y51 h=>af (pu (idxS 32 y48 y51) h) fun y52 h=>af (du 32 y52 h) fun y53 h=>af (eH (List.replicate 32 (.int .u8 0)) h) fun y8 h=>af (eY 32 y8 y53 h) fun _ h=>af (some (x 3,h)) fun y54 h=>af (some (x 3,h)) fun y55 h=>af (pu (lenL y55) h) fun y56 h=>af (pu (aF prog .sub 3 y56 (.int .i64 1)) h) fun y57 h=>af (pu (nT 32 y54 none (some y57) none) h) fun y58 h=>af (C 76 [y58] h) fun y59 h=>
 endN (codeA prog C (ao f42 [1,1,1,1,1,0,1,0]) (aK 66 (up x [(8,y8),(48,y48),(49,y49),(50,y50),(51,y51),(52,y52),(53,y53),(54,y54),(55,y55),(56,y56),(57,y57),(58,y58),(59,y59)])) h) (k54_9 C) (dC f42) (b54_11 C)
noncomputable def nn:eI:=
 af (pu (aF prog .lss 3 (x 17) (x 16)) h) fun y18 h=>(match y18 with
 | .bool true=>af (some (x 17,h)) fun y19 h=>af (pu (idxS 39 (x 15) (x 17)) h) fun y20 h=>af (du 39 y20 h) fun y21 h=>af (eH mE h) fun y5 h=>af (some (y19,h)) fun y4 h=>af (eY 39 y5 y21 h) fun _ h=>af (du 39 y5 h) fun y22 h=>af (C 74 [y22] h) fun y23 h=>af (eH (List.replicate 32 (.int .u8 0)) h) fun y6 h=>af (eY 32 y6 y23 h) fun _ h=>af (some (y4,h)) fun y24 h=>af (some (y24,h)) fun y7 h=>fe (iter (codeA prog C (ao f42 [1,1,1,0,1,0,0,1,1,0,0,1,1,0,1,0,0])) aD (aK 66 (up x [(4,y4),(5,y5),(6,y6),(7,y7),(18,y18),(19,y19),(20,y20),(21,y21),(22,y22),(23,y23),(24,y24)])) h) (fun e h=>some (Ex.ret,e,h)) (b54_20 C)
 | .bool false=>some (.exit 0,(aK 66 (up x [(18,y18)])),h)
 |_=>none)
noncomputable def yG (_:au) (x:fL) (h:ai):bc:=
 af (du 32 (x 8) h) fun y65 h=>af (eY 32 (x 2) y65 h) fun _ h=>resultsA prog f42.results.toList (aK 66 (up x [(65,y65)])) h
noncomputable def jK (_:au) (x:fL) (h:ai):eI:=
 af (eH (List.replicate 32 (.int .u8 0)) h) fun y10 h=>af (eY 32 y10 (x 61) h) fun _ h=>some (.normal,(aK 66 (up x [(10,y10)])),h)
noncomputable def jM:eI:=
 af (du 32 (x 10) h) fun y62 h=>af (du 32 (x 8) h) fun y63 h=>af (C 75 [y62,y63] h) fun y64 h=>af (eY 32 (x 8) y64 h) fun _ h=>some (.normal,(aK 66 (up x [(62,y62),(63,y63),(64,y64)])),h)
noncomputable def vm (_:au) (x:fL) (h:ai):eI:=
 af (pu (aF prog .add 3 (x 17) (.int .i64 1)) h) fun y47 h=>af (some (y47,h)) fun y17 h=>some (.normal,(aK 66 (up x [(17,y17),(47,y47)])),h)
noncomputable def u5:eI:=
 af (some (x 3,h)) fun y43 h=>af (du 32 (x 6) h) fun y44 h=>af (dg 32 (.agg (List.replicate 32 (.int .u8 0)).toArray) 1 [(0,y44)] h) fun y45 h=>af (appendA 32 32 y43 y45 h) fun y46 h=>af (some (y46,h)) fun y3 h=>yU C (aK 66 (up x [(3,y3),(43,y43),(44,y44),(45,y45),(46,y46)])) h
noncomputable def fp:eI:=
 af (some (x 7,h)) fun y25 h=>af (pu (aF prog .and 3 y25 (.int .i64 1)) h) fun y26 h=>af (pu (aF prog .eql 3 y26 (.int .i64 1)) h) fun y27 h=>(match y27 with
 | .bool true=>af (some (x 3,h)) fun y30 h=>af (some (x 3,h)) fun y31 h=>af (pu (lenL y31) h) fun y32 h=>af (pu (aF prog .sub 3 y32 (.int .i64 1)) h) fun y33 h=>af (pu (idxS 32 y30 y33) h) fun y34 h=>af (du 32 y34 h) fun y35 h=>af (du 32 (x 6) h) fun y36 h=>af (C 75 [y35,y36] h) fun y37 h=>af (eY 32 (x 6) y37 h) fun _ h=>af (some (x 3,h)) fun y38 h=>af (some (x 3,h)) fun y39 h=>af (pu (lenL y39) h) fun y40 h=>af (pu (aF prog .sub 3 y40 (.int .i64 1)) h) fun y41 h=>af (pu (nT 32 y38 none (some y41) none) h) fun y42 h=>af (some (y42,h)) fun y3 h=>af (some (x 7,h)) fun y28 h=>af (pu (aF prog .shr 3 y28 (.int .u64 1)) h) fun y29 h=>af (some (y29,h)) fun y7 h=>
 some (.normal,(aK 66 (up x [(3,y3),(7,y7),(25,y25),(26,y26),(27,y27),(28,y28),(29,y29),(30,y30),(31,y31),(32,y32),(33,y33),(34,y34),(35,y35),(36,y36),(37,y37),(38,y38),(39,y39),(40,y40),(41,y41),(42,y42)])),h)
 | .bool false=>some (.exit 2,(aK 66 (up x [(25,y25),(26,y26),(27,y27)])),h)
 |_=>none)
theorem t54_eq (C:au) (x0:Value) (h:ai):bw prog C f42 [x0] h=t54 C x0 h:=
 fM (by kernel_rfl) (by kernel_rfl)
theorem t54k54_5_eq:k54_5 C (aK 66 x) h=yT C x h:=
 uJ (T:=yT C) (fun x h=>by kernel_rfl) x h
theorem uU:codeA prog C (ao f42 [1,1,1,0,1,0,0]) (aK 66 x) h=nn C x h:=
 aA (T:=nn C) (fun x h=>by kernel_rfl) x h
theorem t54k54_9_eq:k54_9 C (aK 66 x) h=yG C x h:=
 uJ (T:=yG C) (fun x h=>by kernel_rfl) x h
theorem rG:codeA prog C (rgA (ao f42 [1,1,1,1,1,0,1,0])) (aK 66 x) h=jK C x h:=
 aA (T:=jK C) (fun x h=>by kernel_rfl) x h
theorem rH:codeA prog C (rgB (ao f42 [1,1,1,1,1,0,1,0])) (aK 66 x) h=jM C x h:=
 aA (T:=jM C) (fun x h=>by kernel_rfl) x h
theorem Cg:yU C (aK 66 x) h=vm C x h:=
 lC (b:=(ao f42 [1,1,1,0,1,0,0,1,1,1])) (kE:=(fun e h=>some (Ex.normal,e,h))) (rE:=(fun e h=>some (Ex.ret,e,h))) (xE:=(fun i e h=>some (Ex.exit i,e,h))) (T:=vm C) (fun x h=>by kernel_rfl) x h
theorem Cm:k54_18 C (aK 66 x) h=u5 C x h:=
 lC (b:=(ao f42 [1,1,1,0,1,0,0,1,1,0,0,1,1,1])) (kE:=(yU C)) (rE:=(fun e h=>some (Ex.ret,e,h))) (xE:=(b54_15 C)) (T:=u5 C) (fun x h=>by kernel_rfl) x h
theorem lO:codeA prog C (ao f42 [1,1,1,0,1,0,0,1,1,0,0,1,1,0,1,0,0]) (aK 66 x) h=fp C x h:=
 aA (T:=fp C) (fun x h=>by kernel_rfl) x h
noncomputable def t107 (_:au) (x0:Value) (h:ai):bc:=
 af (box x0 h) fun y1 h=>af (some (.nilFunc,h)) fun _ h=>af (some (.func (.func 98) #[] #[y1],h)) fun y3 h=>af (some (y3,h)) fun y2_1 h=>some (y2_1,h)
theorem t107_eq (C:au) (x0:Value) (h:ai):bw prog C f76 [x0] h=t107 C x0 h:=
 fM (by kernel_rfl) (by kernel_rfl)
noncomputable def b135_1 (_:au) (i:Nat) (e:aX) (h:ai):bc:=if i=0 then (dC f98) e h else iL i e h
noncomputable def t135 (C:au) (x0 x1:Value) (h:ai):bc:=
 af (ld1 x1 h) fun y4 h=>af (pu (lenL y4) h) fun y5 h=>af (pu (aF prog .sub 3 y5 (.int .i64 1)) h) fun y6 h=>af (some (y6,h)) fun y3 h=>fe (iter (codeA prog C (ao f98 [1,0,0])) aD (aK 19 (up (bs [x0,x1]) [(3,y3),(4,y4),(5,y5),(6,y6)])) h) (dC f98) (b135_1 C)
noncomputable def qD:eI:=
 af (some (x 3,h)) fun y7 h=>af (pu (aF prog .geq 3 y7 (.int .i64 0)) h) fun y8 h=>(match y8 with
 | .bool true=>af (some (x 0,h)) fun y11 h=>af (some (x 3,h)) fun y12 h=>af (ld1 (x 1) h) fun y13 h=>af (some (x 3,h)) fun y14 h=>af (pu (idxS 32 y13 y14) h) fun y15 h=>af (du 32 y15 h) fun y16 h=>af (callA prog C y11 [y12,y16] h) fun y17 h=>af (pu (unA .not y17) h) fun y18 h=>(match y18 with
 | .bool true=>some (.ret,(aK 19 (up x [(7,y7),(8,y8),(11,y11),(12,y12),(13,y13),(14,y14),(15,y15),(16,y16),(17,y17),(18,y18)])),h)
 | .bool false=>af (some (x 3,h)) fun y9 h=>af (pu (aF prog .sub 3 y9 (.int .i64 1)) h) fun y10 h=>af (some (y10,h)) fun y3 h=>some (.normal,(aK 19 (up x [(3,y3),(7,y7),(8,y8),(9,y9),(10,y10),(11,y11),(12,y12),(13,y13),(14,y14),(15,y15),(16,y16),(17,y17),(18,y18)])),h)
 |_=>none)
 | .bool false=>some (.exit 0,(aK 19 (up x [(7,y7),(8,y8)])),h)
 |_=>none)
theorem t135_eq (C:au) (x0 x1:Value) (h:ai):bw prog C f98 [x0,x1] h=t135 C x0 x1 h:=
 fM (by kernel_rfl) (by kernel_rfl)
theorem zf:codeA prog C (ao f98 [1,0,0]) (aK 19 x) h=qD C x h:=
 aA (T:=qD C) (fun x h=>by kernel_rfl) x h
noncomputable def t106 (C:au) (x0:Value) (h:ai):bc:=
 af (eH (List.replicate 32 (.int .u8 0)) h) fun y2 h=>af (C 95 [] h) fun y4 h=>af (some (y4,h)) fun y3 h=>af (some (y3,h)) fun y5 h=>af (some (x0,h)) fun y6 h=>af (C 96 [y5,y6] h) fun y7 h=>af (some (y3,h)) fun y8 h=>af (C 97 [y8] h) fun y9 h=>af (eY 32 y2 y9 h) fun _ h=>resultsA prog f73.results.toList (aK 10 (up (bs [x0]) [(2,y2),(3,y3),(4,y4),(5,y5),(6,y6),(7,y7),(8,y8),(9,y9)])) h
theorem t106_eq (C:au) (x0:Value) (h:ai):bw prog C f73 [x0] h=t106 C x0 h:=
 fM (by kernel_rfl) (by kernel_rfl)
end
noncomputable def t60 (C:au) (x0 x1:Value) (h:ai):bc:=
 af (some (.bool false,h)) fun _ h=>af (some (x0,h)) fun y5 h=>af (some (x1,h)) fun y6 h=>af (C 62 [y5,y6] h) fun y7 h=>af (pu (aF prog .geq 3 y7 (.int .i64 0)) h) fun y8 h=>af (some (y8,h)) fun y4_1 h=>some (y4_1,h)
theorem t60_eq (C:au) (x0 x1:Value) (h:ai):bw prog C f28 [x0,x1] h=t60 C x0 x1 h:=
 fM (by kernel_rfl) (by kernel_rfl)
noncomputable def t26 (_:au) (x0:Value) (h:ai):bc:=
 af (some (.slice none 0 0,h)) fun _ h=>af (dg 39 (.agg pg) 0 [] h) fun y3 h=>af (some (x0,h)) fun y4 h=>af (appendA 39 88 y3 y4 h) fun y5 h=>af (some (y5,h)) fun y2_1 h=>some (y2_1,h)
theorem t26_eq (C:au) (x0:Value) (h:ai):bw prog C f8 [x0] h=t26 C x0 h:=
 fM (by kernel_rfl) (by kernel_rfl)
section
variable (C:au) (i:Nat) (x:fL) (e:aX) (h:ai)
noncomputable def k113_1:bc:=codeK prog C (ao f62 [1,1]) e h (dC f62) (dC f62) iL
noncomputable def b113_3:bc:=if i=0 then (k113_1 C) e h else iL i e h
noncomputable def t113 (C:au) (x0 x1:Value) (h:ai):bc:=
 af (some (.int .i64 0,h)) fun y4 h=>af (some (x0,h)) fun y6 h=>af (pu (lenL y6) h) fun y7 h=>af (some (.int .i64 0,h)) fun y8 h=>fe (iter (codeA prog C (ao f62 [1,0,1,0,0])) aD (aK 19 (up (bs [x0,x1]) [(4,y4),(6,y6),(7,y7),(8,y8)])) h) (dC f62) (b113_3 C)
noncomputable def oD (_:au) (_:fL) (h:ai):bc:=
 af (some ((.int .i64 (-1)),h)) fun y4 h=>some (y4,h)
noncomputable def jV:eI:=
 af (pu (aF prog .lss 3 (x 8) (x 7)) h) fun y9 h=>(match y9 with
 | .bool true=>af (some (x 8,h)) fun y10 h=>af (some (y10,h)) fun y5 h=>af (some (x 1,h)) fun y11 h=>af (some (x 0,h)) fun y12 h=>af (some (y5,h)) fun y13 h=>af (pu (idxS 39 y12 y13) h) fun y14 h=>af (du 39 y14 h) fun y15 h=>af (callA prog C y11 [y15] h) fun y16 h=>(match y16 with
 | .bool true=>af (some (y5,h)) fun y17 h=>af (some (y17,h)) fun y4 h=>some (.ret,(aK 19 (up x [(4,y4),(5,y5),(9,y9),(10,y10),(11,y11),(12,y12),(13,y13),(14,y14),(15,y15),(16,y16),(17,y17)])),h)
 | .bool false=>af (pu (aF prog .add 3 (x 8) (.int .i64 1)) h) fun y18 h=>af (some (y18,h)) fun y8 h=>some (.normal,(aK 19 (up x [(5,y5),(8,y8),(9,y9),(10,y10),(11,y11),(12,y12),(13,y13),(14,y14),(15,y15),(16,y16),(18,y18)])),h)
 |_=>none)
 | .bool false=>some (.exit 0,(aK 19 (up x [(9,y9)])),h)
 |_=>none)
theorem t113_eq (C:au) (x0 x1:Value) (h:ai):bw prog C f62 [x0,x1] h=t113 C x0 x1 h:=
 fM (by kernel_rfl) (by kernel_rfl)
theorem rW:k113_1 C (aK 19 x) h=oD C x h:=
 uJ (T:=oD C) (fun x h=>by kernel_rfl) x h
theorem nX:codeA prog C (ao f62 [1,0,1,0,0]) (aK 19 x) h=jV C x h:=
 aA (T:=jV C) (fun x h=>by kernel_rfl) x h
end
section
variable (C:au) (i:Nat) (x:fL) (e:aX) (h:ai)
noncomputable def b25_5 (_:au) (i:Nat) (e:aX) (h:ai):eI:=if i=0 then (fun e h=>some (Ex.normal,e,h)) e h else (fun i e h=>some (Ex.exit i,e,h)) i e h
noncomputable def B8:eI:=codeK prog C (ao f21 [1,1,1,1,0,1,0,0,1,1,1]) e h (fun e h=>some (Ex.normal,e,h)) (fun e h=>some (Ex.ret,e,h)) (fun i e h=>some (Ex.exit i,e,h))
noncomputable def b25_20:eI:=if i=1 then (B8 C) e h else (fun i e h=>some (Ex.exit i,e,h)) i e h
noncomputable def b25_23:eI:=if i=2 then (B8 C) e h else (b25_20 C) i e h
noncomputable def t25p25_0 (_:au) (x:fL) (h:ai):eI:=
 af (some (.int .i64 0,h)) fun y4 h=>some (.normal,(aK 103 (up x [(4,y4)])),h)
noncomputable def uY (_:au) (x:fL) (h:ai):eI:=
 af (some (x 0,h)) fun y18 h=>af (pu (aF prog .eql 25 y18 (.pointer none)) h) fun y19 h=>(match y19 with
 | .bool true=>af (some (.int .i64 1,h)) fun y4 h=>some (.ret,(aK 103 (up x [(4,y4),(18,y18),(19,y19)])),h)
 | .bool false=>some (.normal,(aK 103 (up x [(18,y18),(19,y19)])),h)
 |_=>none)
noncomputable def oS:eI:=
 af (some (x 1,h)) fun y20 h=>af (C 28 [y20,(.func (.func 46) #[] #[])] h) fun y21 h=>(match y21 with
 | .bool true=>af (some (.int .i64 2,h)) fun y4 h=>some (.ret,(aK 103 (up x [(4,y4),(20,y20),(21,y21)])),h)
 | .bool false=>some (.normal,(aK 103 (up x [(20,y20),(21,y21)])),h)
 |_=>none)
noncomputable def pE (_:au) (x:fL) (h:ai):eI:=
 af (iv none prog 91 h) fun y22 h=>af (some (y22,h)) fun y5 h=>some (.normal,(aK 103 (up x [(5,y5),(22,y22)])),h)
noncomputable def jg:eI:=
 af (some (x 0,h)) fun y23 h=>af (pu (nilCheckA y23) h) fun y24 h=>af (pu (aP y24 0) h) fun y25 h=>af (ld1 y25 h) fun y26 h=>af (some (x 1,h)) fun y27 h=>af (dg 1 (.slice none 0 0) 2 [(0,y26),(1,y27)] h) fun y28 h=>af (pu (lenL y28) h) fun y29 h=>af (some (.int .i64 0,h)) fun y30 h=>fe (iter (codeA prog C (ao f21 [1,1,1,1,0,1,0,0])) aD (aK 103 (up x [(23,y23),(24,y24),(25,y25),(26,y26),(27,y27),(28,y28),(29,y29),(30,y30)])) h) (fun e h=>some (Ex.ret,e,h)) (b25_5 C)
noncomputable def ny (_:au) (x:fL) (h:ai):eI:=
 af (dg 39 (.agg pg) 0 [] h) fun y61 h=>af (some (y61,h)) fun y12 h=>some (.normal,(aK 103 (up x [(12,y12),(61,y61)])),h)
noncomputable def kq (_:au) (x:fL) (h:ai):eI:=
 af (some (x 5,h)) fun y62 h=>af (rangeA prog 91 y62 h) fun y63 h=>some (.normal,(aK 103 (up x [(62,y62),(63,y63)])),h)
noncomputable def fD (_:au) (x:fL) (h:ai):eI:=
 (match (x 65) with
 | .bool true=>af (entryA (x 63) h) fun y66 h=>af (pu (extractA y66 0) h) fun y67 h=>af (pu (extractA y66 1) h) fun y68 h=>af (eH BJ h) fun y13 h=>af (eH mE h) fun y14 h=>af (eY 34 y13 y67 h) fun _ h=>af (eY 39 y14 y68 h) fun _ h=>af (pu (aP y13 0) h) fun y69 h=>af (ld1 y69 h) fun y70 h=>af (pu (aF prog .eql 64 y70 (.int .u8 3)) h) fun y71 h=>(match y71 with
 | .bool true=>af (some (x 5,h)) fun y72 h=>af (pu (aP y13 33) h) fun y73 h=>af (ld1 y73 h) fun y74 h=>af (pu (fZ BJ [(0,1,.int .u8 1),(33,1,y74)]) h) fun y75 h=>af (lookupA prog 91 y72 y75 false h) fun y76 h=>af (eH mE h) fun y15 h=>af (eY 39 y15 y76 h) fun _ h=>af (some (x 5,h)) fun y78 h=>af (pu (aP y13 1) h) fun y79 h=>af (du 32 y79 h) fun y80 h=>af (pu (fZ BJ [(0,1,.int .u8 2),(1,32,y80)]) h) fun y81 h=>af (lookupA prog 91 y78 y81 true h) fun y82 h=>af (some (y82,h)) fun y77 h=>af (pu (extractA y77 0) h) fun y83 h=>af (pu (extractA y77 1) h) fun y84 h=>af (eH mE h) fun y16 h=>af (eY 39 y16 y83 h) fun _ h=>af (some (y84,h)) fun y17 h=>af (some (y17,h)) fun y85 h=>
 af (some (y85,h)) fun y86 h=>af (ay (cn y86==some false) (pu (aP y14 34) h) h) fun y87 h=>af (ay (cn y86==some false) (ld1 y87 h) h) fun y88 h=>af (ay (cn y86==some false) (pu (aP y15 34) h) h) fun y89 h=>af (ay (cn y86==some false) (ld1 y89 h) h) fun y90 h=>af (ay (cn y86==some false) (pu (aF prog .lss 32 y88 y90) h) h) fun y91 h=>af (match y86 with | .bool t=>some (if t then (.bool true) else y91,h)|_=>none) fun y92 h=>(match y92 with
 | .bool true=>some (.normal,(aK 103 (up x [(13,y13),(14,y14),(15,y15),(16,y16),(17,y17),(66,y66),(67,y67),(68,y68),(69,y69),(70,y70),(71,y71),(72,y72),(73,y73),(74,y74),(75,y75),(76,y76),(77,y77),(78,y78),(79,y79),(80,y80),(81,y81),(82,y82),(83,y83),(84,y84),(85,y85),(86,y86),(87,y87),(88,y88),(89,y89),(90,y90),(91,y91),(92,y92)])),h)
 | .bool false=>af (some (x 12,h)) fun y93 h=>af (du 39 y14 h) fun y94 h=>af (dg 39 (.agg pg) 1 [(0,y94)] h) fun y95 h=>af (appendA 39 88 y93 y95 h) fun y96 h=>af (some (y96,h)) fun y12 h=>some (.normal,(aK 103 (up x [(12,y12),(13,y13),(14,y14),(15,y15),(16,y16),(17,y17),(66,y66),(67,y67),(68,y68),(69,y69),(70,y70),(71,y71),(72,y72),(73,y73),(74,y74),(75,y75),(76,y76),(77,y77),(78,y78),(79,y79),(80,y80),(81,y81),(82,y82),(83,y83),(84,y84),(85,y85),(86,y86),(87,y87),(88,y88),(89,y89),(90,y90),(91,y91),(92,y92),(93,y93),(94,y94),(95,y95),(96,y96)])),h)
 |_=>none)
 | .bool false=>af (some (x 12,h)) fun y93 h=>af (du 39 y14 h) fun y94 h=>af (dg 39 (.agg pg) 1 [(0,y94)] h) fun y95 h=>af (appendA 39 88 y93 y95 h) fun y96 h=>af (some (y96,h)) fun y12 h=>some (.normal,(aK 103 (up x [(12,y12),(13,y13),(14,y14),(66,y66),(67,y67),(68,y68),(69,y69),(70,y70),(71,y71),(93,y93),(94,y94),(95,y95),(96,y96)])),h)
 |_=>none)
 | .bool false=>some (.exit 4,(aK 103 (up x [])),h)
 |_=>none)
noncomputable def kZ:eI:=
 af (some (x 12,h)) fun y97 h=>af (C 49 [y97,(.func (.func 50) #[] #[])] h) fun y98 h=>af (some (x 0,h)) fun y99 h=>af (some (x 12,h)) fun y100 h=>af (pu (nilCheckA y99) h) fun y101 h=>af (pu (aP y101 0) h) fun y102 h=>af (eY 1 y102 y100 h) fun _ h=>af (some (.int .i64 0,h)) fun y4 h=>some (.ret,(aK 103 (up x [(4,y4),(97,y97),(98,y98),(99,y99),(100,y100),(101,y101),(102,y102)])),h)
noncomputable def lI:eI:=
 af (pu (aF prog .lss 3 (x 30) (x 29)) h) fun y31 h=>(match y31 with
 | .bool true=>af (pu (idxS 1 (x 28) (x 30)) h) fun y32 h=>af (ld1 y32 h) fun y33 h=>af (some (y33,h)) fun y7 h=>af (some (y7,h)) fun y34 h=>af (pu (lenL y34) h) fun y35 h=>af (some (.int .i64 0,h)) fun y36 h=>fe (iter (codeA prog C (ao f21 [1,1,1,1,0,1,0,0,1,1,0,0,1,1,0,0])) aD (aK 103 (up x [(7,y7),(31,y31),(32,y32),(33,y33),(34,y34),(35,y35),(36,y36)])) h) (fun e h=>some (Ex.ret,e,h)) (b25_23 C)
 | .bool false=>some (.exit 0,(aK 103 (up x [(31,y31)])),h)
 |_=>none)
noncomputable def qK (_:au) (x:fL) (h:ai):eI:=
 af (pu (aF prog .add 3 (x 30) (.int .i64 1)) h) fun y60 h=>af (some (y60,h)) fun y30 h=>some (.normal,(aK 103 (up x [(30,y30),(60,y60)])),h)
noncomputable def fA:eI:=
 af (pu (aF prog .lss 3 (x 36) (x 35)) h) fun y37 h=>(match y37 with
 | .bool true=>af (pu (idxS 39 (x 34) (x 36)) h) fun y38 h=>af (du 39 y38 h) fun y39 h=>af (eH mE h) fun y9 h=>af (eY 39 y9 y39 h) fun _ h=>af (some (x 5,h)) fun y41 h=>af (du 39 y9 h) fun y42 h=>af (C 47 [y42] h) fun y43 h=>af (lookupA prog 91 y41 y43 true h) fun y44 h=>af (some (y44,h)) fun y40 h=>af (pu (extractA y40 0) h) fun y45 h=>af (pu (extractA y40 1) h) fun y46 h=>af (eH mE h) fun y10 h=>af (eY 39 y10 y45 h) fun _ h=>af (some (y46,h)) fun y11 h=>af (some (y11,h)) fun y47 h=>af (pu (unA .not y47) h) fun y48 h=>af (some (y48,h)) fun y49 h=>af (ay (cn y49==some false) (du 39 y9 h) h) fun y50 h=>af (ay (cn y49==some false) (du 39 y10 h) h) fun y51 h=>
 af (ay (cn y49==some false) (C 48 [y50,y51] h) h) fun y52 h=>af (ay (cn y49==some false) (pu (aF prog .gtr 3 y52 (.int .i64 0)) h) h) fun y53 h=>af (match y49 with | .bool t=>some (if t then (.bool true) else y53,h)|_=>none) fun y54 h=>(match y54 with
 | .bool true=>let g31_0:=h
 af (some (x 5,g31_0)) fun y55 g31_1=>af (du 39 y9 g31_1) fun y56 g31_2=>af (C 47 [y56] g31_2) fun y57 g31_3=>af (du 39 y9 g31_3) fun y58 g31_4=>af (mapUpdateA prog 91 y55 y57 y58 g31_4) fun _ g31_5=>(match (cq true (du 39 y9 g31_2) y58&&true) with
 |true=>let h:=g31_5
 af (pu (aF prog .add 3 (x 36) (.int .i64 1)) h) fun y59 h=>af (some (y59,h)) fun y36 h=>some (.normal,(aK 103 (up x [(9,y9),(10,y10),(11,y11),(36,y36),(37,y37),(38,y38),(39,y39),(40,y40),(41,y41),(42,y42),(43,y43),(44,y44),(45,y45),(46,y46),(47,y47),(48,y48),(49,y49),(50,y50),(51,y51),(52,y52),(53,y53),(54,y54),(55,y55),(56,y56),(57,y57),(58,y58),(59,y59)])),h)
 |false=>none)
 | .bool false=>af (pu (aF prog .add 3 (x 36) (.int .i64 1)) h) fun y59 h=>af (some (y59,h)) fun y36 h=>some (.normal,(aK 103 (up x [(9,y9),(10,y10),(11,y11),(36,y36),(37,y37),(38,y38),(39,y39),(40,y40),(41,y41),(42,y42),(43,y43),(44,y44),(45,y45),(46,y46),(47,y47),(48,y48),(49,y49),(50,y50),(51,y51),(52,y52),(53,y53),(54,y54),(59,y59)])),h)
 |_=>none)
 | .bool false=>some (.exit 2,(aK 103 (up x [(37,y37)])),h)
 |_=>none)
theorem t25p25_0_eq:codeA prog C (ao f21 [0]) (aK 103 x) h=t25p25_0 C x h:=
 aA (T:=t25p25_0 C) (fun x h=>by kernel_rfl) x h
theorem Dg:codeA prog C (ao f21 [1,0]) (aK 103 x) h=uY C x h:=
 aA (T:=uY C) (fun x h=>by kernel_rfl) x h
theorem rV:codeA prog C (ao f21 [1,1,0]) (aK 103 x) h=oS C x h:=
 aA (T:=oS C) (fun x h=>by kernel_rfl) x h
theorem zw:codeA prog C (ao f21 [1,1,1,0]) (aK 103 x) h=pE C x h:=
 aA (T:=pE C) (fun x h=>by kernel_rfl) x h
theorem wV:codeA prog C (ao f21 [1,1,1,1,0]) (aK 103 x) h=jg C x h:=
 aA (T:=jg C) (fun x h=>by kernel_rfl) x h
theorem uX:codeA prog C (ao f21 [1,1,1,1,1,0]) (aK 103 x) h=ny C x h:=
 aA (T:=ny C) (fun x h=>by kernel_rfl) x h
theorem tb:codeA prog C (ao f21 [1,1,1,1,1,1,0,0]) (aK 103 x) h=kq C x h:=
 aA (T:=kq C) (fun x h=>by kernel_rfl) x h
theorem jA:codeA prog C (ao f21 [1,1,1,1,1,1,0,1,0,0,1]) (aK 103 x) h=fD C x h:=
 aA (T:=fD C) (fun x h=>by kernel_rfl) x h
theorem tW:codeA prog C (ao f21 [1,1,1,1,1,1,1]) (aK 103 x) h=kZ C x h:=
 aA (T:=kZ C) (fun x h=>by kernel_rfl) x h
theorem ue:codeA prog C (ao f21 [1,1,1,1,0,1,0,0]) (aK 103 x) h=lI C x h:=
 aA (T:=lI C) (fun x h=>by kernel_rfl) x h
theorem ui:B8 C (aK 103 x) h=qK C x h:=
 lC (b:=(ao f21 [1,1,1,1,0,1,0,0,1,1,1])) (kE:=(fun e h=>some (Ex.normal,e,h))) (rE:=(fun e h=>some (Ex.ret,e,h))) (xE:=(fun i e h=>some (Ex.exit i,e,h))) (T:=qK C) (fun x h=>by kernel_rfl) x h
theorem mj:codeA prog C (ao f21 [1,1,1,1,0,1,0,0,1,1,0,0,1,1,0,0]) (aK 103 x) h=fA C x h:=
 aA (T:=fA C) (fun x h=>by kernel_rfl) x h
noncomputable def t61 (C:au) (x0:Value) (h:ai):bc:=
 af (box x0 h) fun y1 h=>af (some (.bool false,h)) fun _ h=>af (du 39 y1 h) fun y3 h=>af (C 20 [y3] h) fun y4 h=>af (pu (unA .not y4) h) fun y5 h=>af (some (y5,h)) fun y2_1 h=>some (y2_1,h)
theorem t61_eq (C:au) (x0:Value) (h:ai):bw prog C f46 [x0] h=t61 C x0 h:=
 fM (by kernel_rfl) (by kernel_rfl)
noncomputable def t57 (_:au) (x0:Value) (h:ai):bc:=
 af (some (.slice none 0 0,h)) fun _ h=>af (some (x0,h)) fun y3 h=>af (pu (aF prog .eql 22 y3 (.slice none 0 0)) h) fun y4 h=>(match y4 with
 | .bool true=>af (some (.slice none 0 0,h)) fun y2_1 h=>some (y2_1,h)
 | .bool false=>af (dg 39 (.agg pg) 0 [] h) fun y5 h=>af (some (x0,h)) fun y6 h=>af (appendA 39 88 y5 y6 h) fun y7 h=>af (some (y7,h)) fun y2_1 h=>some (y2_1,h)
 |_=>none)
theorem Cr (C:au) (x0:Value) (h:ai):bw prog C f40 [x0] h=t57 C x0 h:=
 fM (by kernel_rfl) (by kernel_rfl)
noncomputable def t15 (C:au) (x0:Value) (h:ai):bc:=
 af (some (.pointer none,h)) fun _ h=>af (some (.int .i64 0,h)) fun _ h=>af (C 19 [] h) fun y5 h=>af (some (y5,h)) fun y4 h=>af (some (y4,h)) fun y6 h=>af (pu (aF prog .eql 25 y6 (.pointer none)) h) fun y7 h=>(match y7 with
 | .bool true=>af (some (.pointer none,h)) fun y2_1 h=>af (some (.int .i64 1,h)) fun y3_1 h=>some (.tuple #[y2_1,y3_1],h)
 | .bool false=>af (some (y4,h)) fun y8 h=>af (some (y4,h)) fun y9 h=>af (some (x0,h)) fun y10 h=>af (C 8 [y10] h) fun y11 h=>af (C 21 [y9,y11] h) fun y12 h=>af (some (y8,h)) fun y2_1 h=>af (some (y12,h)) fun y3_1 h=>some (.tuple #[y2_1,y3_1],h)
 |_=>none)
theorem t15_eq (C:au) (x0:Value) (h:ai):bw prog C f6 [x0] h=t15 C x0 h:=
 fM (by kernel_rfl) (by kernel_rfl)
noncomputable def t33 (_:au) (h:ai):bc:=
 af (some (.pointer none,h)) fun _ h=>af (pu (fZ [.slice none 0 0] []) h) fun y1 h=>af (box y1 h) fun y2 h=>af (some (y2,h)) fun y0_1 h=>some (y0_1,h)
theorem t33_eq (C:au) (h:ai):bw prog C f19 [] h=t33 C h:=
 fM (by kernel_rfl) (by kernel_rfl)
noncomputable def t23 (C:au) (x0:Value) (h:ai):bc:=
 af (some (.slice none 0 0,h)) fun _ h=>af (some (x0,h)) fun y3 h=>af (pu (aF prog .eql 25 y3 (.pointer none)) h) fun y4 h=>(match y4 with
 | .bool true=>af (some (.slice none 0 0,h)) fun y2_1 h=>some (y2_1,h)
 | .bool false=>af (some (x0,h)) fun y5 h=>af (pu (nilCheckA y5) h) fun y6 h=>af (pu (aP y6 0) h) fun y7 h=>af (ld1 y7 h) fun y8 h=>af (C 40 [y8] h) fun y9 h=>af (some (y9,h)) fun y2_1 h=>some (y2_1,h)
 |_=>none)
theorem t23_eq (C:au) (x0:Value) (h:ai):bw prog C f13 [x0] h=t23 C x0 h:=
 fM (by kernel_rfl) (by kernel_rfl)
end
noncomputable def t65 (C:au) (x0 x1:Value) (h:ai):bc:=
 af (box x0 h) fun y2 h=>af (box x1 h) fun y3 h=>af (some (.int .i64 0,h)) fun _ h=>let g2_0:=h
 af (du 39 y2 g2_0) fun y5 g2_1=>af (C 52 [y5] g2_1) fun y6 g2_2=>af (du 39 y3 g2_2) fun y7 g2_3=>af (C 52 [y7] g2_3) fun y8 g2_4=>af (C 51 [y6,y8] g2_4) fun y9 g2_5=>af (some (y9,g2_5)) fun y4_1 g2_6=>(match (cq true (du 39 y3 g2_1) y7&&true) with
 |true=>let h:=g2_6
 some (y4_1,h)
 |false=>none)
theorem t65_eq (C:au) (x0 x1:Value) (h:ai):bw prog C f50 [x0,x1] h=t65 C x0 x1 h:=
 fM (by kernel_rfl) (by kernel_rfl)
noncomputable def t66 (C:au) (x0 x1:Value) (h:ai):bc:=
 af (some (.int .i64 0,h)) fun _ h=>af (some (x0,h)) fun y5 h=>af (some (x1,h)) fun y6 h=>af (C 85 [y5,y6] h) fun y7 h=>af (some (y7,h)) fun y4_1 h=>some (y4_1,h)
theorem t66_eq (C:au) (x0 x1:Value) (h:ai):bw prog C f51 [x0,x1] h=t66 C x0 x1 h:=
 fM (by kernel_rfl) (by kernel_rfl)
section
variable (C:au) (i:Nat) (x:fL) (e:aX) (h:ai)
noncomputable def k24_5:bc:=codeK prog C (ao f14 [1,1,1,1]) e h (dC f14) (dC f14) iL
noncomputable def b24_7:bc:=if i=0 then (k24_5 C) e h else iL i e h
noncomputable def Ce:eI:=codeK prog C (ao f14 [1,1,1,0,1,0,0,1,1]) e h (fun e h=>some (Ex.normal,e,h)) (fun e h=>some (Ex.ret,e,h)) (fun i e h=>some (Ex.exit i,e,h))
noncomputable def b24_12:eI:=if i=1 then (Ce C) e h else (fun i e h=>some (Ex.exit i,e,h)) i e h
noncomputable def b24_18:eI:=if i=2 then (Ce C) e h else (b24_12 C) i e h
noncomputable def t24 (C:au) (x0:Value) (h:ai):bc:=
 af (some (.bool false,h)) fun y2 h=>af (some (x0,h)) fun y6 h=>af (pu (lenL y6) h) fun y7 h=>af (pu (aF prog .gtr 3 y7 (.int .i64 40)) h) fun y8 h=>(match y8 with
 | .bool true=>af (some (.bool false,h)) fun y2_1 h=>some (y2_1,h)
 | .bool false=>af (some (.int .i64 0,h)) fun y3 h=>af (some (.int .i64 0,h)) fun y4 h=>fe (iter (codeA prog C (ao f14 [1,1,1,0,1,0,0])) aD (aK 48 (up (bs [x0]) [(2,y2),(3,y3),(4,y4),(6,y6),(7,y7),(8,y8)])) h) (dC f14) (b24_7 C)
 |_=>none)
noncomputable def zy (_:au) (x:fL) (h:ai):bc:=
 af (some (x 3,h)) fun y46 h=>af (pu (aF prog .leq 3 y46 (.int .i64 120)) h) fun y47 h=>af (some (y47,h)) fun y2 h=>some (y2,h)
noncomputable def nG:eI:=
 af (some (x 4,h)) fun y9 h=>af (some (x 0,h)) fun y10 h=>af (pu (lenL y10) h) fun y11 h=>af (pu (aF prog .lss 3 y9 y11) h) fun y12 h=>(match y12 with
 | .bool true=>af (some (x 0,h)) fun y15 h=>af (some (x 4,h)) fun y16 h=>af (pu (idxS 1 y15 y16) h) fun y17 h=>af (ld1 y17 h) fun y18 h=>af (pu (lenL y18) h) fun y19 h=>af (pu (aF prog .gtr 3 y19 (.int .i64 120)) h) fun y20 h=>(match y20 with
 | .bool true=>af (some (.bool false,h)) fun y2 h=>some (.ret,(aK 48 (up x [(2,y2),(9,y9),(10,y10),(11,y11),(12,y12),(15,y15),(16,y16),(17,y17),(18,y18),(19,y19),(20,y20)])),h)
 | .bool false=>af (some (x 3,h)) fun y21 h=>af (some (x 0,h)) fun y22 h=>af (some (x 4,h)) fun y23 h=>af (pu (idxS 1 y22 y23) h) fun y24 h=>af (ld1 y24 h) fun y25 h=>af (pu (lenL y25) h) fun y26 h=>af (pu (aF prog .add 3 y21 y26) h) fun y27 h=>af (some (y27,h)) fun y3 h=>af (some (.int .i64 0,h)) fun y5 h=>fe (iter (codeA prog C (ao f14 [1,1,1,0,1,0,0,1,0,0,1,1,1,0,0])) aD (aK 48 (up x [(3,y3),(5,y5),(9,y9),(10,y10),(11,y11),(12,y12),(15,y15),(16,y16),(17,y17),(18,y18),(19,y19),(20,y20),(21,y21),(22,y22),(23,y23),(24,y24),(25,y25),(26,y26),(27,y27)])) h) (fun e h=>some (Ex.ret,e,h)) (b24_18 C)
 |_=>none)
 | .bool false=>some (.exit 0,(aK 48 (up x [(9,y9),(10,y10),(11,y11),(12,y12)])),h)
 |_=>none)
noncomputable def uK (_:au) (x:fL) (h:ai):eI:=
 af (some (x 4,h)) fun y13 h=>af (pu (aF prog .add 3 y13 (.int .i64 1)) h) fun y14 h=>af (some (y14,h)) fun y4 h=>some (.normal,(aK 48 (up x [(4,y4),(13,y13),(14,y14)])),h)
noncomputable def fY:eI:=
 af (some (x 5,h)) fun y28 h=>af (some (x 0,h)) fun y29 h=>af (some (x 4,h)) fun y30 h=>af (pu (idxS 1 y29 y30) h) fun y31 h=>af (ld1 y31 h) fun y32 h=>af (pu (lenL y32) h) fun y33 h=>af (pu (aF prog .lss 3 y28 y33) h) fun y34 h=>(match y34 with
 | .bool true=>af (some (x 0,h)) fun y37 h=>af (some (x 4,h)) fun y38 h=>af (pu (idxS 1 y37 y38) h) fun y39 h=>af (ld1 y39 h) fun y40 h=>af (some (x 5,h)) fun y41 h=>af (pu (idxS 39 y40 y41) h) fun y42 h=>af (du 39 y42 h) fun y43 h=>af (C 20 [y43] h) fun y44 h=>af (pu (unA .not y44) h) fun y45 h=>(match y45 with
 | .bool true=>af (some (.bool false,h)) fun y2 h=>some (.ret,(aK 48 (up x [(2,y2),(28,y28),(29,y29),(30,y30),(31,y31),(32,y32),(33,y33),(34,y34),(37,y37),(38,y38),(39,y39),(40,y40),(41,y41),(42,y42),(43,y43),(44,y44),(45,y45)])),h)
 | .bool false=>af (some (x 5,h)) fun y35 h=>af (pu (aF prog .add 3 y35 (.int .i64 1)) h) fun y36 h=>af (some (y36,h)) fun y5 h=>some (.normal,(aK 48 (up x [(5,y5),(28,y28),(29,y29),(30,y30),(31,y31),(32,y32),(33,y33),(34,y34),(35,y35),(36,y36),(37,y37),(38,y38),(39,y39),(40,y40),(41,y41),(42,y42),(43,y43),(44,y44),(45,y45)])),h)
 |_=>none)
 | .bool false=>some (.exit 2,(aK 48 (up x [(28,y28),(29,y29),(30,y30),(31,y31),(32,y32),(33,y33),(34,y34)])),h)
 |_=>none)
theorem t24_eq (C:au) (x0:Value) (h:ai):bw prog C f14 [x0] h=t24 C x0 h:=
 fM (by kernel_rfl) (by kernel_rfl)
theorem t24k24_5_eq:k24_5 C (aK 48 x) h=zy C x h:=
 uJ (T:=zy C) (fun x h=>by kernel_rfl) x h
theorem uV:codeA prog C (ao f14 [1,1,1,0,1,0,0]) (aK 48 x) h=nG C x h:=
 aA (T:=nG C) (fun x h=>by kernel_rfl) x h
theorem CE:Ce C (aK 48 x) h=uK C x h:=
 lC (b:=(ao f14 [1,1,1,0,1,0,0,1,1])) (kE:=(fun e h=>some (Ex.normal,e,h))) (rE:=(fun e h=>some (Ex.ret,e,h))) (xE:=(fun i e h=>some (Ex.exit i,e,h))) (T:=uK C) (fun x h=>by kernel_rfl) x h
theorem nE:codeA prog C (ao f14 [1,1,1,0,1,0,0,1,0,0,1,1,1,0,0]) (aK 48 x) h=fY C x h:=
 aA (T:=fY C) (fun x h=>by kernel_rfl) x h
noncomputable def k19_4:bc:=codeK prog C (ao f12 [1,1,1]) e h (dC f12) (dC f12) iL
noncomputable def b19_6:bc:=if i=0 then (k19_4 C) e h else iL i e h
noncomputable def t19 (C:au) (x0 x1:Value) (h:ai):bc:=
 af (some (.bool false,h)) fun y4 h=>af (some (x0,h)) fun y6 h=>af (pu (lenL y6) h) fun y7 h=>af (some (x1,h)) fun y8 h=>af (pu (lenL y8) h) fun y9 h=>af (pu (aF prog .neq 3 y7 y9) h) fun y10 h=>(match y10 with
 | .bool true=>af (some (.bool false,h)) fun y4_1 h=>some (y4_1,h)
 | .bool false=>af (some (.int .i64 0,h)) fun y5 h=>fe (iter (codeA prog C (ao f12 [1,1,0,1,0,0])) aD (aK 26 (up (bs [x0,x1]) [(4,y4),(5,y5),(6,y6),(7,y7),(8,y8),(9,y9),(10,y10)])) h) (dC f12) (b19_6 C)
 |_=>none)
noncomputable def yX (_:au) (_:fL) (h:ai):bc:=
 af (some (.bool true,h)) fun y4 h=>some (y4,h)
noncomputable def om (_:au) (x:fL) (h:ai):eI:=
 af (some (x 5,h)) fun y11 h=>af (some (x 0,h)) fun y12 h=>af (pu (lenL y12) h) fun y13 h=>af (pu (aF prog .lss 3 y11 y13) h) fun y14 h=>(match y14 with
 | .bool true=>af (some (x 0,h)) fun y17 h=>af (some (x 5,h)) fun y18 h=>af (pu (idxS 39 y17 y18) h) fun y19 h=>af (du 39 y19 h) fun y20 h=>af (some (x 1,h)) fun y21 h=>af (some (x 5,h)) fun y22 h=>af (pu (idxS 39 y21 y22) h) fun y23 h=>af (du 39 y23 h) fun y24 h=>af (pu (aF prog .neq 66 y20 y24) h) fun y25 h=>(match y25 with
 | .bool true=>af (some (.bool false,h)) fun y4 h=>some (.ret,(aK 26 (up x [(4,y4),(11,y11),(12,y12),(13,y13),(14,y14),(17,y17),(18,y18),(19,y19),(20,y20),(21,y21),(22,y22),(23,y23),(24,y24),(25,y25)])),h)
 | .bool false=>af (some (x 5,h)) fun y15 h=>af (pu (aF prog .add 3 y15 (.int .i64 1)) h) fun y16 h=>af (some (y16,h)) fun y5 h=>some (.normal,(aK 26 (up x [(5,y5),(11,y11),(12,y12),(13,y13),(14,y14),(15,y15),(16,y16),(17,y17),(18,y18),(19,y19),(20,y20),(21,y21),(22,y22),(23,y23),(24,y24),(25,y25)])),h)
 |_=>none)
 | .bool false=>some (.exit 0,(aK 26 (up x [(11,y11),(12,y12),(13,y13),(14,y14)])),h)
 |_=>none)
theorem t19_eq (C:au) (x0 x1:Value) (h:ai):bw prog C f12 [x0,x1] h=t19 C x0 x1 h:=
 fM (by kernel_rfl) (by kernel_rfl)
theorem t19k19_4_eq:k19_4 C (aK 26 x) h=yX C x h:=
 uJ (T:=yX C) (fun x h=>by kernel_rfl) x h
theorem xe:codeA prog C (ao f12 [1,1,0,1,0,0]) (aK 26 x) h=om C x h:=
 aA (T:=om C) (fun x h=>by kernel_rfl) x h
end
section
variable (C:au) (i:Nat) (x:fL) (e:aX) (h:ai)
noncomputable def t56 (C:au) (x0 x1:Value) (h:ai):bc:=
 af (box x0 h) fun y2 h=>af (box x1 h) fun y3 h=>af (some (.int .i64 0,h)) fun _ h=>af (ld1 y2 h) fun y5 h=>af (pu (nilCheckA y5) h) fun y6 h=>af (pu (aP y6 0) h) fun y7 h=>af (ld1 y7 h) fun y8 h=>af (pu (lenL y8) h) fun y9 h=>af (some (.func (.func 79) #[] #[y2,y3],h)) fun y10 h=>af (C 78 [y9,y10] h) fun y11 h=>af (some (y11,h)) fun y4_1 h=>some (y4_1,h)
theorem t56_eq (C:au) (x0 x1:Value) (h:ai):bw prog C f44 [x0,x1] h=t56 C x0 x1 h:=
 fM (by kernel_rfl) (by kernel_rfl)
noncomputable def k111_2:bc:=codeK prog C (ao f78 [1,1,1]) e h (dC f78) (dC f78) iL
noncomputable def b111_3:bc:=if i=0 then (k111_2 C) e h else iL i e h
noncomputable def t111 (C:au) (x0 x1:Value) (h:ai):bc:=
 af (some (.int .i64 0,h)) fun y4 h=>af (some (x0,h)) fun y8 h=>af (some (.int .i64 0,h)) fun y5 h=>af (some (y8,h)) fun y6 h=>fe (iter (codeA prog C (ao f78 [1,1,0,0,0])) aD (aK 26 (up (bs [x0,x1]) [(4,y4),(5,y5),(6,y6),(8,y8)])) h) (dC f78) (b111_3 C)
noncomputable def sO (_:au) (x:fL) (h:ai):bc:=
 af (some (x 5,h)) fun y25 h=>af (some (y25,h)) fun y4 h=>some (y4,h)
noncomputable def mX:eI:=
 af (some (x 5,h)) fun y9 h=>af (some (x 6,h)) fun y10 h=>af (pu (aF prog .lss 3 y9 y10) h) fun y11 h=>(match y11 with
 | .bool true=>af (some (x 5,h)) fun y12 h=>af (some (x 6,h)) fun y13 h=>af (pu (aF prog .add 3 y12 y13) h) fun y14 h=>af (lW .u64 y14 h) fun y15 h=>af (pu (aF prog .shr 120 y15 (.int .u64 1)) h) fun y16 h=>af (lW .i64 y16 h) fun y17 h=>af (some (y17,h)) fun y7 h=>af (some (x 1,h)) fun y18 h=>af (some (y7,h)) fun y19 h=>af (callA prog C y18 [y19] h) fun y20 h=>af (pu (unA .not y20) h) fun y21 h=>(match y21 with
 | .bool true=>af (some (y7,h)) fun y22 h=>af (pu (aF prog .add 3 y22 (.int .i64 1)) h) fun y23 h=>af (some (y23,h)) fun y5 h=>some (.normal,(aK 26 (up x [(5,y5),(7,y7),(9,y9),(10,y10),(11,y11),(12,y12),(13,y13),(14,y14),(15,y15),(16,y16),(17,y17),(18,y18),(19,y19),(20,y20),(21,y21),(22,y22),(23,y23)])),h)
 | .bool false=>af (some (y7,h)) fun y24 h=>af (some (y24,h)) fun y6 h=>some (.normal,(aK 26 (up x [(6,y6),(7,y7),(9,y9),(10,y10),(11,y11),(12,y12),(13,y13),(14,y14),(15,y15),(16,y16),(17,y17),(18,y18),(19,y19),(20,y20),(21,y21),(24,y24)])),h)
 |_=>none)
 | .bool false=>some (.exit 0,(aK 26 (up x [(9,y9),(10,y10),(11,y11)])),h)
 |_=>none)
theorem t111_eq (C:au) (x0 x1:Value) (h:ai):bw prog C f78 [x0,x1] h=t111 C x0 x1 h:=
 fM (by kernel_rfl) (by kernel_rfl)
theorem AS:k111_2 C (aK 26 x) h=sO C x h:=
 uJ (T:=sO C) (fun x h=>by kernel_rfl) x h
theorem vI:codeA prog C (ao f78 [1,1,0,0,0]) (aK 26 x) h=mX C x h:=
 aA (T:=mX C) (fun x h=>by kernel_rfl) x h
noncomputable def t112 (C:au) (x0 x1 x2:Value) (h:ai):bc:=
 af (some (.bool false,h)) fun _ h=>let g2_0:=h
 af (ld1 x1 g2_0) fun y5 g2_1=>af (pu (nilCheckA y5) g2_1) fun y6 g2_2=>af (pu (aP y6 0) g2_2) fun y7 g2_3=>af (ld1 y7 g2_3) fun y8 g2_4=>af (some (x0,g2_4)) fun y9 g2_5=>af (pu (idxS 39 y8 y9) g2_5) fun y10 g2_6=>af (du 39 y10 g2_6) fun y11 g2_7=>af (C 52 [y11] g2_7) fun y12 g2_8=>af (ld1 x2 g2_8) fun y13 g2_9=>af (C 51 [y12,y13] g2_9) fun y14 g2_10=>af (pu (aF prog .geq 3 y14 (.int .i64 0)) g2_10) fun y15 g2_11=>af (some (y15,g2_11)) fun y4_1 g2_12=>(match (cq true (ld1 x2 g2_7) y13&&true) with
 |true=>let h:=g2_12
 some (y4_1,h)
 |false=>none)
theorem t112_eq (C:au) (x0 x1 x2:Value) (h:ai):bw prog C f79 [x0,x1,x2] h=t112 C x0 x1 x2 h:=
 fM (by kernel_rfl) (by kernel_rfl)
end
noncomputable def t20 (C:au) (x0 x1 x2:Value) (h:ai):bc:=
 af (some (.slice none 0 0,h)) fun _ h=>af (some (x0,h)) fun y9 h=>af (pu (aF prog .eql 25 y9 (.pointer none)) h) fun y10 h=>(match y10 with
 | .bool true=>af (some (.slice none 0 0,h)) fun y6_1 h=>some (y6_1,h)
 | .bool false=>let g5_0:=h
 af (some (x0,g5_0)) fun y11 g5_1=>af (some (x1,g5_1)) fun y12 g5_2=>af (C 44 [y11,y12] g5_2) fun y13 g5_3=>af (some (x0,g5_3)) fun y14 g5_4=>af (pu (nilCheckA y14) g5_4) fun y15 g5_5=>af (pu (aP y15 0) g5_5) fun y16 g5_6=>af (ld1 y16 g5_6) fun y17 g5_7=>af (pu (lenL y17) g5_7) fun y18 g5_8=>af (some (y13,g5_8)) fun y7 g5_9=>af (some (y18,g5_9)) fun y8 g5_10=>(match (cq true (ld1 y16 g5_2) y17&&(cq true (pu (lenL y17) g5_2) y18&&true)) with
 |true=>let h:=g5_10
 af (some (x2,h)) fun y19 h=>af (pu (lenL y19) h) fun y20 h=>af (pu (aF prog .gtr 3 y20 (.int .i64 0)) h) fun y21 h=>(match y21 with
 | .bool true=>af (some (y7,h)) fun y22 h=>af (some (x0,h)) fun y23 h=>af (some (x2,h)) fun y24 h=>af (C 44 [y23,y24] h) fun y25 h=>af (pu (minmax true y22 [y25]) h) fun y26 h=>af (some (y26,h)) fun y8_1 h=>af (some (x0,h)) fun y27 h=>af (pu (nilCheckA y27) h) fun y28 h=>af (pu (aP y28 0) h) fun y29 h=>af (ld1 y29 h) fun y30 h=>af (some (y7,h)) fun y31 h=>af (some (y8_1,h)) fun y32 h=>af (pu (nT 39 y30 (some y31) (some y32) none) h) fun y33 h=>af (C 40 [y33] h) fun y34 h=>af (some (y34,h)) fun y6_1 h=>some (y6_1,h)
 | .bool false=>af (some (x0,h)) fun y27 h=>af (pu (nilCheckA y27) h) fun y28 h=>af (pu (aP y28 0) h) fun y29 h=>af (ld1 y29 h) fun y30 h=>af (some (y7,h)) fun y31 h=>af (some (y8,h)) fun y32 h=>af (pu (nT 39 y30 (some y31) (some y32) none) h) fun y33 h=>af (C 40 [y33] h) fun y34 h=>af (some (y34,h)) fun y6_1 h=>some (y6_1,h)
 |_=>none)
 |false=>none)
 |_=>none)
theorem C6 (C:au) (x0 x1 x2:Value) (h:ai):bw prog C f18 [x0,x1,x2] h=t20 C x0 x1 x2 h:=
 fM (by kernel_rfl) (by kernel_rfl)
noncomputable def t17 (C:au) (x0 x1 x2:Value) (h:ai):bc:=
 af (eH zp h) fun y6 h=>af (some (x0,h)) fun y8 h=>af (pu (aF prog .eql 25 y8 (.pointer none)) h) fun y9 h=>(match y9 with
 | .bool true=>af (pu (fZ zp []) h) fun y10 h=>af (eY 116 y6 y10 h) fun _ h=>resultsA prog f15.results.toList (aK 24 (up (bs [x0,x1,x2]) [(6,y6),(8,y8),(9,y9),(10,y10)])) h
 | .bool false=>af (some (x0,h)) fun y11 h=>af (some (x1,h)) fun y12 h=>af (some (x2,h)) fun y13 h=>af (C 18 [y11,y12,y13] h) fun y14 h=>af (some (y14,h)) fun y7 h=>af (some (x1,h)) fun y15 h=>af (C 41 [y15] h) fun y16 h=>af (some (x2,h)) fun y17 h=>af (C 41 [y17] h) fun y18 h=>af (some (y7,h)) fun y19 h=>af (pu (lenL y19) h) fun y20 h=>af (some (y7,h)) fun y21 h=>af (C 42 [y21] h) fun y22 h=>af (pu (fZ zp [(0,1,.int .u8 4),(7,1,y16),(8,1,y18),(9,1,y20),(10,32,y22)]) h) fun y23 h=>af (eY 116 y6 y23 h) fun _ h=>
 resultsA prog f15.results.toList (aK 24 (up (bs [x0,x1,x2]) [(6,y6),(7,y7),(8,y8),(9,y9),(11,y11),(12,y12),(13,y13),(14,y14),(15,y15),(16,y16),(17,y17),(18,y18),(19,y19),(20,y20),(21,y21),(22,y22),(23,y23)])) h
 |_=>none)
theorem t17_eq (C:au) (x0 x1 x2:Value) (h:ai):bw prog C f15 [x0,x1,x2] h=t17 C x0 x1 x2 h:=
 fM (by kernel_rfl) (by kernel_rfl)
section
variable (C:au) (i:Nat) (x:fL) (e:aX) (h:ai)
noncomputable def t100 (C:au) (x0 x1:Value) (h:ai):bc:=
 af (box x1 h) fun y3 h=>af (some (.slice none 0 0,h)) fun _ h=>af (some (x0,h)) fun y8 h=>af (pu (aP y3 7) h) fun y9 h=>af (ld1 y9 h) fun y10 h=>af (pu (aP y3 8) h) fun y11 h=>af (ld1 y11 h) fun y12 h=>af (C 15 [y8,y10,y12] h) fun y13 h=>af (eH zp h) fun y5 h=>af (eY 116 y5 y13 h) fun _ h=>af (some (x0,h)) fun y14 h=>af (pu (aP y3 7) h) fun y15 h=>af (ld1 y15 h) fun y16 h=>af (pu (aP y3 8) h) fun y17 h=>af (ld1 y17 h) fun y18 h=>af (C 18 [y14,y16,y18] h) fun y19 h=>af (some (y19,h)) fun y6 h=>af (pu (aP y5 9) h) fun y21 h=>af (ld1 y21 h) fun y22 h=>af (pu (aP y3 9) h) fun y23 h=>af (ld1 y23 h) fun y24 h=>af (pu (aF prog .eql 3 y22 y24) h) fun y25 h=>af (some (y25,h)) fun y26 h=>
 af (ay (cn y26==some true) (pu (aP y5 10) h) h) fun y27 h=>af (ay (cn y26==some true) (du 32 y27 h) h) fun y28 h=>af (ay (cn y26==some true) (pu (aP y3 10) h) h) fun y29 h=>af (ay (cn y26==some true) (du 32 y29 h) h) fun y30 h=>af (ay (cn y26==some true) (pu (aF prog .eql 36 y28 y30) h) h) fun y31 h=>af (match y26 with | .bool t=>some (if t then y31 else (.bool false),h)|_=>none) fun y32 h=>af (some (y32,h)) fun y20 h=>(match y20 with
 | .bool true=>af (some (.slice none 0 0,h)) fun y4_1 h=>some (y4_1,h)
 | .bool false=>af (some (y6,h)) fun y34 h=>af (pu (lenL y34) h) fun y35 h=>af (pu (aF prog .leq 3 y35 (.int .i64 8)) h) fun y36 h=>af (some (y36,h)) fun y33 h=>(match y33 with
 | .bool true=>af (du 116 y3 h) fun y37 h=>af (some (y6,h)) fun y38 h=>af (C 61 [y37,y38,.bool true] h) fun y39 h=>af (dg 116 (.agg zlit3) 1 [(0,y39)] h) fun y40 h=>af (some (y40,h)) fun y4_1 h=>some (y4_1,h)
 | .bool false=>af (some (y6,h)) fun y41 h=>af (some (y6,h)) fun y42 h=>af (pu (lenL y42) h) fun y43 h=>af (pu (aF prog .quo 3 y43 (.int .i64 2)) h) fun y44 h=>af (pu (idxS 39 y41 y44) h) fun y45 h=>af (du 39 y45 h) fun y46 h=>af (C 52 [y46] h) fun y47 h=>af (some (y47,h)) fun y7 h=>let g11_0:=h
 af (some (x0,g11_0)) fun y48 g11_1=>af (pu (aP y3 7) g11_1) fun y49 g11_2=>af (ld1 y49 g11_2) fun y50 g11_3=>af (some (y7,g11_3)) fun y51 g11_4=>af (C 15 [y48,y50,y51] g11_4) fun y52 g11_5=>af (some (x0,g11_5)) fun y53 g11_6=>af (some (y7,g11_6)) fun y54 g11_7=>af (pu (aP y3 8) g11_7) fun y55 g11_8=>af (ld1 y55 g11_8) fun y56 g11_9=>af (C 15 [y53,y54,y56] g11_9) fun y57 g11_10=>af (dg 116 (.agg zlit3) 2 [(0,y52),(1,y57)] g11_10) fun y58 g11_11=>af (some (y58,g11_11)) fun y4_1 g11_12=>(match (cq true (ld1 y55 g11_4) y56&&true) with
 |true=>let h:=g11_12
 some (y4_1,h)
 |false=>none)
 |_=>none)
 |_=>none)
theorem t100_eq (C:au) (x0 x1:Value) (h:ai):bw prog C f27 [x0,x1] h=t100 C x0 x1 h:=
 fM (by kernel_rfl) (by kernel_rfl)
noncomputable def k50_8:bc:=codeK prog C (ao f9 [1,1,1,1,1]) e h (dC f9) (dC f9) iL
noncomputable def b50_10:bc:=if i=1 then (k50_8 C) e h else iL i e h
noncomputable def t50 (C:au) (x0 x1:Value) (h:ai):bc:=
 af (box x1 h) fun y3 h=>af (some (.slice none 0 0,h)) fun y4 h=>af (some (.int .i64 0,h)) fun y5 h=>af (some (x0,h)) fun y8 h=>af (pu (aF prog .eql 25 y8 (.pointer none)) h) fun y9 h=>(match y9 with
 | .bool true=>af (some (.slice none 0 0,h)) fun y4_1 h=>af (some (.int .i64 1,h)) fun y5_1 h=>some (.tuple #[y4_1,y5_1],h)
 | .bool false=>af (some (.slice none 0 0,h)) fun _ h=>af (pu (aP y3 0) h) fun y11 h=>af (ld1 y11 h) fun y12 h=>af (pu (aF prog .eql 31 y12 (.int .u8 4)) h) fun y13 h=>af (some (y13,h)) fun y14 h=>af (ay (cn y14==some true) (pu (aP y3 9) h) h) fun y15 h=>af (ay (cn y14==some true) (ld1 y15 h) h) fun y16 h=>af (ay (cn y14==some true) (pu (aF prog .geq 3 y16 (.int .i64 0)) h) h) fun y17 h=>af (match y14 with | .bool t=>some (if t then y17 else (.bool false),h)|_=>none) fun y18 h=>af (some (y18,h)) fun y10 h=>(match y10 with
 | .bool true=>af (some (x0,h)) fun y19 h=>af (du 116 y3 h) fun y20 h=>af (C 27 [y19,y20] h) fun y21 h=>af (some (y21,h)) fun y6_1 h=>af (some (y6_1,h)) fun y46 h=>af (pu (lenL y46) h) fun y47 h=>af (some (.int .i64 0,h)) fun y48 h=>fe (iter (codeA prog C (ao f9 [1,1,1,1,0,1,0,0])) aD (aK 65 (up (bs [x0,x1]) [(3,y3),(4,y4),(5,y5),(6,y6_1),(8,y8),(9,y9),(10,y10),(11,y11),(12,y12),(13,y13),(14,y14),(15,y15),(16,y16),(17,y17),(18,y18),(19,y19),(20,y20),(21,y21),(46,y46),(47,y47),(48,y48)])) h) (dC f9) (b50_10 C)
 | .bool false=>af (pu (aP y3 0) h) fun y23 h=>af (ld1 y23 h) fun y24 h=>af (pu (aF prog .eql 31 y24 (.int .u8 5)) h) fun y25 h=>af (some (y25,h)) fun y26 h=>af (ay (cn y26==some true) (pu (aP y3 42) h) h) fun y27 h=>af (ay (cn y26==some true) (ld1 y27 h) h) fun y28 h=>af (ay (cn y26==some true) (pu (lenL y28) h) h) fun y29 h=>af (ay (cn y26==some true) (pu (aF prog .gtr 3 y29 (.int .i64 64)) h) h) fun y30 h=>af (match y26 with | .bool t=>some (if t then y30 else (.bool false),h)|_=>none) fun y31 h=>af (some (y31,h)) fun y22 h=>(match y22 with
 | .bool true=>af (some (.slice none 0 0,h)) fun y4_1 h=>af (some (.int .i64 3,h)) fun y5_1 h=>some (.tuple #[y4_1,y5_1],h)
 | .bool false=>af (pu (aP y3 0) h) fun y33 h=>af (ld1 y33 h) fun y34 h=>af (pu (aF prog .eql 31 y34 (.int .u8 5)) h) fun y35 h=>af (some (y35,h)) fun y36 h=>af (ay (cn y36==some true) (pu (aP y3 42) h) h) fun y37 h=>af (ay (cn y36==some true) (ld1 y37 h) h) fun y38 h=>af (ay (cn y36==some true) (some (.func (.func 29) #[] #[y3],h)) h) fun y39 h=>af (ay (cn y36==some true) (C 28 [y38,y39] h) h) fun y40 h=>af (ay (cn y36==some true) (pu (unA .not y40) h) h) fun y41 h=>af (match y36 with | .bool t=>some (if t then y41 else (.bool false),h)|_=>none) fun y42 h=>af (some (y42,h)) fun y32 h=>(match y32 with
 | .bool true=>af (some (x0,h)) fun y43 h=>af (du 116 y3 h) fun y44 h=>af (C 31 [y43,y44] h) fun y45 h=>af (some (y45,h)) fun y6_1 h=>af (some (y6_1,h)) fun y46 h=>af (pu (lenL y46) h) fun y47 h=>af (some (.int .i64 0,h)) fun y48 h=>
 fe (iter (codeA prog C (ao f9 [1,1,1,1,0,1,0,0])) aD (aK 65 (up (bs [x0,x1]) [(3,y3),(4,y4),(5,y5),(6,y6_1),(8,y8),(9,y9),(10,y10),(11,y11),(12,y12),(13,y13),(14,y14),(15,y15),(16,y16),(17,y17),(18,y18),(22,y22),(23,y23),(24,y24),(25,y25),(26,y26),(27,y27),(28,y28),(29,y29),(30,y30),(31,y31),(32,y32),(33,y33),(34,y34),(35,y35),(36,y36),(37,y37),(38,y38),(39,y39),(40,y40),(41,y41),(42,y42),(43,y43),(44,y44),(45,y45),(46,y46),(47,y47),(48,y48)])) h) (dC f9) (b50_10 C)
 | .bool false=>af (some (.slice none 0 0,h)) fun y4_1 h=>af (some (.int .i64 2,h)) fun y5_1 h=>some (.tuple #[y4_1,y5_1],h)
 |_=>none)
 |_=>none)
 |_=>none)
 |_=>none)
noncomputable def tq (_:au) (x:fL) (h:ai):bc:=
 af (some (x 6,h)) fun y64 h=>af (some (y64,h)) fun y4 h=>af (some (.int .i64 0,h)) fun y5 h=>some (.tuple #[y4,y5],h)
noncomputable def iV (_:au) (x:fL) (h:ai):eI:=
 af (pu (aF prog .lss 3 (x 48) (x 47)) h) fun y49 h=>(match y49 with
 | .bool true=>af (some (x 48,h)) fun y50 h=>af (some (y50,h)) fun y7 h=>let g21_0:=h
 af (some (x 6,g21_0)) fun y51 g21_1=>af (some (y7,g21_1)) fun y52 g21_2=>af (some (x 6,g21_2)) fun y53 g21_3=>af (some (y7,g21_3)) fun y54 g21_4=>af (pu (aP (x 3) 2) g21_4) fun y55 g21_5=>af (ld1 y55 g21_5) fun y56 g21_6=>af (pu (aP (x 3) 1) g21_6) fun y57 g21_7=>af (ld1 y57 g21_7) fun y58 g21_8=>af (pu (idxS 116 y51 y52) g21_8) fun y59 g21_9=>af (pu (aP y59 1) g21_9) fun y60 g21_10=>af (eY 1 y60 y56 g21_10) fun _ g21_11=>af (pu (idxS 116 y53 y54) g21_11) fun y61 g21_12=>af (pu (aP y61 2) g21_12) fun y62 g21_13=>af (eY 1 y62 y58 g21_13) fun _ g21_14=>(match (cq true (ld1 y57 g21_11) y58&&true) with
 |true=>let h:=g21_14
 af (pu (aF prog .add 3 (x 48) (.int .i64 1)) h) fun y63 h=>af (some (y63,h)) fun y48 h=>some (.normal,(aK 65 (up x [(7,y7),(48,y48),(49,y49),(50,y50),(51,y51),(52,y52),(53,y53),(54,y54),(55,y55),(56,y56),(57,y57),(58,y58),(59,y59),(60,y60),(61,y61),(62,y62),(63,y63)])),h)
 |false=>none)
 | .bool false=>some (.exit 1,(aK 65 (up x [(49,y49)])),h)
 |_=>none)
theorem zL (C:au) (x0 x1:Value) (h:ai):bw prog C f9 [x0,x1] h=t50 C x0 x1 h:=
 fM (by kernel_rfl) (by kernel_rfl)
theorem wB:k50_8 C (aK 65 x) h=tq C x h:=
 uJ (T:=tq C) (fun x h=>by kernel_rfl) x h
theorem mN:codeA prog C (ao f9 [1,1,1,1,0,1,0,0]) (aK 65 x) h=iV C x h:=
 aA (T:=iV C) (fun x h=>by kernel_rfl) x h
end
noncomputable def t129 (C:au) (x0 x1 x2:Value) (h:ai):bc:=
 af (box x0 h) fun y3 h=>af (eH zp h) fun y6 h=>let g2_0:=h
 af (pu (aP y3 7) g2_0) fun y7 g2_1=>af (ld1 y7 g2_1) fun y8 g2_2=>af (C 41 [y8] g2_2) fun y9 g2_3=>af (pu (aP y3 8) g2_3) fun y10 g2_4=>af (ld1 y10 g2_4) fun y11 g2_5=>af (C 41 [y11] g2_5) fun y12 g2_6=>af (some (x1,g2_6)) fun y13 g2_7=>af (C 40 [y13] g2_7) fun y14 g2_8=>af (some (x2,g2_8)) fun y15 g2_9=>af (pu (fZ zp [(0,1,.int .u8 5),(7,1,y9),(8,1,y12),(42,1,y14),(43,1,y15)]) g2_9) fun y16 g2_10=>af (eY 116 y6 y16 g2_10) fun _ g2_11=>(match (cq true (ld1 y10 g2_2) y11&&true) with
 |true=>let h:=g2_11
 resultsA prog f61.results.toList (aK 17 (up (bs [x0,x1,x2]) [(3,y3),(6,y6),(7,y7),(8,y8),(9,y9),(10,y10),(11,y11),(12,y12),(13,y13),(14,y14),(15,y15),(16,y16)])) h
 |false=>none)
theorem t129_eq (C:au) (x0 x1 x2:Value) (h:ai):bw prog C f61 [x0,x1,x2] h=t129 C x0 x1 x2 h:=
 fM (by kernel_rfl) (by kernel_rfl)
section
variable (C:au) (i:Nat) (x:fL) (e:aX) (h:ai)
noncomputable def k151_1:bc:=codeK prog C (ao f91 [1,1]) e h (dC f91) (dC f91) iL
noncomputable def b151_3:bc:=if i=0 then (k151_1 C) e h else iL i e h
noncomputable def t151 (C:au) (x0 x1:Value) (h:ai):bc:=
 af (box x1 h) fun y3 h=>af (some (.int .i64 0,h)) fun y4 h=>af (some (x0,h)) fun y6 h=>af (pu (lenL y6) h) fun y7 h=>af (some (.int .i64 0,h)) fun y8 h=>fe (iter (codeA prog C (ao f91 [1,0,1,0,0])) aD (aK 19 (up (bs [x0,x1]) [(3,y3),(4,y4),(6,y6),(7,y7),(8,y8)])) h) (dC f91) (b151_3 C)
noncomputable def sZ (_:au) (_:fL) (h:ai):bc:=
 af (some ((.int .i64 (-1)),h)) fun y4 h=>some (y4,h)
noncomputable def ng (_:au) (x:fL) (h:ai):eI:=
 af (pu (aF prog .lss 3 (x 8) (x 7)) h) fun y9 h=>(match y9 with
 | .bool true=>af (some (x 8,h)) fun y10 h=>af (some (y10,h)) fun y5 h=>af (du 39 (x 3) h) fun y11 h=>af (some (x 0,h)) fun y12 h=>af (some (y5,h)) fun y13 h=>af (pu (idxS 39 y12 y13) h) fun y14 h=>af (du 39 y14 h) fun y15 h=>af (pu (aF prog .eql 66 y11 y15) h) fun y16 h=>(match y16 with
 | .bool true=>af (some (y5,h)) fun y17 h=>af (some (y17,h)) fun y4 h=>some (.ret,(aK 19 (up x [(4,y4),(5,y5),(9,y9),(10,y10),(11,y11),(12,y12),(13,y13),(14,y14),(15,y15),(16,y16),(17,y17)])),h)
 | .bool false=>af (pu (aF prog .add 3 (x 8) (.int .i64 1)) h) fun y18 h=>af (some (y18,h)) fun y8 h=>some (.normal,(aK 19 (up x [(5,y5),(8,y8),(9,y9),(10,y10),(11,y11),(12,y12),(13,y13),(14,y14),(15,y15),(16,y16),(18,y18)])),h)
 |_=>none)
 | .bool false=>some (.exit 0,(aK 19 (up x [(9,y9)])),h)
 |_=>none)
theorem t151_eq (C:au) (x0 x1:Value) (h:ai):bw prog C f91 [x0,x1] h=t151 C x0 x1 h:=
 fM (by kernel_rfl) (by kernel_rfl)
theorem AG:k151_1 C (aK 19 x) h=sZ C x h:=
 uJ (T:=sZ C) (fun x h=>by kernel_rfl) x h
theorem vg:codeA prog C (ao f91 [1,0,1,0,0]) (aK 19 x) h=ng C x h:=
 aA (T:=ng C) (fun x h=>by kernel_rfl) x h
noncomputable def t133 (C:au) (x0 x1:Value) (h:ai):bc:=
 af (box x1 h) fun y3 h=>af (some (.bool false,h)) fun _ h=>af (some (x0,h)) fun y5 h=>af (du 39 y3 h) fun y6 h=>af (C 91 [y5,y6] h) fun y7 h=>af (pu (aF prog .geq 3 y7 (.int .i64 0)) h) fun y8 h=>af (some (y8,h)) fun y4_1 h=>some (y4_1,h)
theorem t133_eq (C:au) (x0 x1:Value) (h:ai):bw prog C f67 [x0,x1] h=t133 C x0 x1 h:=
 fM (by kernel_rfl) (by kernel_rfl)
noncomputable def t132 (C:au) (x0 x1:Value) (h:ai):bc:=
 af (box x0 h) fun y2 h=>af (some (.bool false,h)) fun _ h=>af (pu (aP x1 42) h) fun y4 h=>af (ld1 y4 h) fun y5 h=>af (du 39 y2 h) fun y6 h=>af (C 67 [y5,y6] h) fun y7 h=>af (some (y7,h)) fun y3_1 h=>some (y3_1,h)
theorem t132_eq (C:au) (x0 x1:Value) (h:ai):bw prog C f66 [x0,x1] h=t132 C x0 x1 h:=
 fM (by kernel_rfl) (by kernel_rfl)
noncomputable def k130_1:bc:=codeK prog C (ao f64 [1,1]) e h (dC f64) (dC f64) iL
noncomputable def b130_3:bc:=if i=0 then (k130_1 C) e h else iL i e h
noncomputable def t130 (C:au) (x0 x1:Value) (h:ai):bc:=
 af (some (.int .i64 0,h)) fun y4 h=>af (some (x0,h)) fun y9 h=>af (pu (lenL y9) h) fun y10 h=>af (some (.int .i64 0,h)) fun y11 h=>fe (iter (codeA prog C (ao f64 [1,0,1,0,0])) aD (aK 36 (up (bs [x0,x1]) [(4,y4),(9,y9),(10,y10),(11,y11)])) h) (dC f64) (b130_3 C)
noncomputable def sC (_:au) (x:fL) (h:ai):bc:=
 af (some (x 0,h)) fun y31 h=>af (pu (lenL y31) h) fun y32 h=>af (some (x 1,h)) fun y33 h=>af (pu (lenL y33) h) fun y34 h=>af (pu (aF prog .lss 3 y32 y34) h) fun y35 h=>(match y35 with
 | .bool true=>af (some ((.int .i64 (-1)),h)) fun y4 h=>some (y4,h)
 | .bool false=>af (some (.int .i64 0,h)) fun y4 h=>some (y4,h)
 |_=>none)
noncomputable def mY:eI:=
 af (pu (aF prog .lss 3 (x 11) (x 10)) h) fun y12 h=>(match y12 with
 | .bool true=>af (some (x 11,h)) fun y13 h=>af (pu (idxS 1 (x 9) (x 11)) h) fun y14 h=>af (ld1 y14 h) fun y15 h=>af (some (y13,h)) fun y5 h=>af (some (y15,h)) fun y6 h=>af (some (y5,h)) fun y16 h=>af (some (x 1,h)) fun y17 h=>af (pu (lenL y17) h) fun y18 h=>af (pu (aF prog .geq 3 y16 y18) h) fun y19 h=>(match y19 with
 | .bool true=>af (some (.int .i64 1,h)) fun y4 h=>some (.ret,(aK 36 (up x [(4,y4),(5,y5),(6,y6),(12,y12),(13,y13),(14,y14),(15,y15),(16,y16),(17,y17),(18,y18),(19,y19)])),h)
 | .bool false=>af (some (x 1,h)) fun y20 h=>af (some (y5,h)) fun y21 h=>af (pu (idxS 1 y20 y21) h) fun y22 h=>af (ld1 y22 h) fun y23 h=>af (some (y23,h)) fun y7 h=>af (some (y6,h)) fun y24 h=>af (some (y7,h)) fun y25 h=>af (C 90 [y24,y25] h) fun y26 h=>af (some (y26,h)) fun y8 h=>af (some (y8,h)) fun y27 h=>af (pu (aF prog .neq 3 y27 (.int .i64 0)) h) fun y28 h=>(match y28 with
 | .bool true=>af (some (y8,h)) fun y29 h=>af (some (y29,h)) fun y4 h=>some (.ret,(aK 36 (up x [(4,y4),(5,y5),(6,y6),(7,y7),(8,y8),(12,y12),(13,y13),(14,y14),(15,y15),(16,y16),(17,y17),(18,y18),(19,y19),(20,y20),(21,y21),(22,y22),(23,y23),(24,y24),(25,y25),(26,y26),(27,y27),(28,y28),(29,y29)])),h)
 | .bool false=>af (pu (aF prog .add 3 (x 11) (.int .i64 1)) h) fun y30 h=>af (some (y30,h)) fun y11 h=>some (.normal,(aK 36 (up x [(5,y5),(6,y6),(7,y7),(8,y8),(11,y11),(12,y12),(13,y13),(14,y14),(15,y15),(16,y16),(17,y17),(18,y18),(19,y19),(20,y20),(21,y21),(22,y22),(23,y23),(24,y24),(25,y25),(26,y26),(27,y27),(28,y28),(30,y30)])),h)
 |_=>none)
 |_=>none)
 | .bool false=>some (.exit 0,(aK 36 (up x [(12,y12)])),h)
 |_=>none)
theorem t130_eq (C:au) (x0 x1:Value) (h:ai):bw prog C f64 [x0,x1] h=t130 C x0 x1 h:=
 fM (by kernel_rfl) (by kernel_rfl)
theorem Az:k130_1 C (aK 36 x) h=sC C x h:=
 uJ (T:=sC C) (fun x h=>by kernel_rfl) x h
theorem vE:codeA prog C (ao f64 [1,0,1,0,0]) (aK 36 x) h=mY C x h:=
 aA (T:=mY C) (fun x h=>by kernel_rfl) x h
noncomputable def t150 (C:au) (x0 x1:Value) (h:ai):bc:=
 af (some (.int .i64 0,h)) fun _ h=>af (some (x0,h)) fun y7 h=>af (C 112 [y7] h) fun y8 h=>af (some (y8,h)) fun y5 h=>af (some (x1,h)) fun y9 h=>af (C 112 [y9] h) fun y10 h=>af (some (y10,h)) fun y6 h=>af (some (y5,h)) fun y11 h=>(match y11 with
 | .bool true=>af (some (y6,h)) fun y12 h=>(match y12 with
 | .bool true=>af (some (.int .i64 0,h)) fun y4_1 h=>some (y4_1,h)
 | .bool false=>af (some ((.int .i64 (-1)),h)) fun y4_1 h=>some (y4_1,h)
 |_=>none)
 | .bool false=>af (some (y6,h)) fun y13 h=>(match y13 with
 | .bool true=>af (some (.int .i64 1,h)) fun y4_1 h=>some (y4_1,h)
 | .bool false=>af (some (x0,h)) fun y14 h=>af (some (x1,h)) fun y15 h=>af (pu (aF prog .lss 5 y14 y15) h) fun y16 h=>(match y16 with
 | .bool true=>af (some ((.int .i64 (-1)),h)) fun y4_1 h=>some (y4_1,h)
 | .bool false=>af (some (x0,h)) fun y17 h=>af (some (x1,h)) fun y18 h=>af (pu (aF prog .gtr 5 y17 y18) h) fun y19 h=>(match y19 with
 | .bool true=>af (some (.int .i64 1,h)) fun y4_1 h=>some (y4_1,h)
 | .bool false=>af (some (.int .i64 0,h)) fun y4_1 h=>some (y4_1,h)
 |_=>none)
 |_=>none)
 |_=>none)
 |_=>none)
theorem t150_eq (C:au) (x0 x1:Value) (h:ai):bw prog C f90 [x0,x1] h=t150 C x0 x1 h:=
 fM (by kernel_rfl) (by kernel_rfl)
noncomputable def t160 (_:au) (x0:Value) (h:ai):bc:=
 af (some (.bool false,h)) fun _ h=>af (some (x0,h)) fun y3 h=>af (some (x0,h)) fun y4 h=>af (pu (aF prog .neq 5 y3 y4) h) fun y5 h=>af (some (y5,h)) fun y2_1 h=>some (y2_1,h)
theorem t160_eq (C:au) (x0:Value) (h:ai):bw prog C f112 [x0] h=t160 C x0 h:=
 fM (by kernel_rfl) (by kernel_rfl)
noncomputable def t102 (C:au) (x0 x1:Value) (h:ai):bc:=
 af (box x0 h) fun y2 h=>af (box x1 h) fun y3 h=>af (some (.bool false,h)) fun _ h=>af (du 39 y2 h) fun y8 h=>af (C 63 [y8] h) fun y9 h=>af (some (y9,h)) fun y7 h=>af (pu (extractA y7 0) h) fun y10 h=>af (pu (extractA y7 1) h) fun y11 h=>af (some (y10,h)) fun y5 h=>af (some (y11,h)) fun y6 h=>af (some (y6,h)) fun y12 h=>af (pu (aF prog .neq 26 y12 (.int .i64 0)) h) fun y13 h=>af (some (y13,h)) fun y14 h=>af (ay (cn y14==some false) (some (y5,h)) h) fun y15 h=>af (ay (cn y14==some false) (pu (aP y3 7) h) h) fun y16 h=>af (ay (cn y14==some false) (ld1 y16 h) h) fun y17 h=>af (ay (cn y14==some false) (C 64 [y15,y17] h) h) fun y18 h=>
 af (ay (cn y14==some false) (pu (aF prog .lss 3 y18 (.int .i64 0)) h) h) fun y19 h=>af (match y14 with | .bool t=>some (if t then (.bool true) else y19,h)|_=>none) fun y20 h=>af (some (y20,h)) fun y21 h=>af (ay (cn y21==some false) (pu (aP y3 8) h) h) fun y22 h=>af (ay (cn y21==some false) (ld1 y22 h) h) fun y23 h=>af (ay (cn y21==some false) (pu (lenL y23) h) h) fun y24 h=>af (ay (cn y21==some false) (pu (aF prog .gtr 3 y24 (.int .i64 0)) h) h) fun y25 h=>af (ay (cn y21==some false) (some (y25,h)) h) fun y26 h=>af (ay (cn y26==some true) (some (y5,h)) h) fun y27 h=>af (ay (cn y26==some true) (pu (aP y3 8) h) h) fun y28 h=>af (ay (cn y26==some true) (ld1 y28 h) h) fun y29 h=>
 af (ay (cn y26==some true) (C 64 [y27,y29] h) h) fun y30 h=>af (ay (cn y26==some true) (pu (aF prog .geq 3 y30 (.int .i64 0)) h) h) fun y31 h=>af (ay (cn y21==some false) (match y26 with | .bool t=>some (if t then y31 else (.bool false),h)|_=>none) h) fun y32 h=>af (match y21 with | .bool t=>some (if t then (.bool true) else y32,h)|_=>none) fun y33 h=>af (some (y33,h)) fun y4_1 h=>some (y4_1,h)
theorem t102_eq (C:au) (x0 x1:Value) (h:ai):bw prog C f30 [x0,x1] h=t102 C x0 x1 h:=
 fM (by kernel_rfl) (by kernel_rfl)
noncomputable def t101 (C:au) (x0 x1:Value) (h:ai):bc:=
 af (box x0 h) fun y2 h=>af (some (.bool false,h)) fun _ h=>af (du 39 y2 h) fun y4 h=>af (du 116 x1 h) fun y5 h=>af (C 30 [y4,y5] h) fun y6 h=>af (some (y6,h)) fun y3_1 h=>some (y3_1,h)
theorem t101_eq (C:au) (x0 x1:Value) (h:ai):bw prog C f29 [x0,x1] h=t101 C x0 x1 h:=
 fM (by kernel_rfl) (by kernel_rfl)
noncomputable def k131_5:bc:=codeK prog C (ao f65 [1,1,1,1]) e h (dC f65) (dC f65) iL
noncomputable def b131_7:bc:=if i=0 then (k131_5 C) e h else iL i e h
noncomputable def t131 (C:au) (x0 x1:Value) (h:ai):bc:=
 af (some (.slice none 0 0,h)) fun y4 h=>af (some (x0,h)) fun y8 h=>af (some (x1,h)) fun y9 h=>af (C 62 [y8,y9] h) fun y10 h=>af (some (y10,h)) fun y5 h=>af (some (y5,h)) fun y11 h=>af (pu (aF prog .eql 3 y11 (.int .i64 (-1))) h) fun y12 h=>(match y12 with
 | .bool true=>af (some (x0,h)) fun y13 h=>af (some (y13,h)) fun y4_1 h=>some (y4_1,h)
 | .bool false=>af (some (y5,h)) fun y14 h=>af (pu (aF prog .add 3 y14 (.int .i64 1)) h) fun y15 h=>af (some (y15,h)) fun y6 h=>fe (iter (codeA prog C (ao f65 [1,1,1,0,1,0,0])) aD (aK 42 (up (bs [x0,x1]) [(4,y4),(5,y5),(6,y6),(8,y8),(9,y9),(10,y10),(11,y11),(12,y12),(14,y14),(15,y15)])) h) (dC f65) (b131_7 C)
 |_=>none)
noncomputable def sx (_:au) (x:fL) (h:ai):bc:=
 af (some (x 0,h)) fun y36 h=>af (some (x 5,h)) fun y37 h=>af (pu (nT 39 y36 (some y37) none none) h) fun y38 h=>af (clrR (.agg pg) 39 y38 h) fun _ h=>af (some (x 0,h)) fun y39 h=>af (some (x 5,h)) fun y40 h=>af (pu (nT 39 y39 none (some y40) none) h) fun y41 h=>af (some (y41,h)) fun y4 h=>some (y4,h)
noncomputable def ku:eI:=
 af (some (x 6,h)) fun y16 h=>af (some (x 0,h)) fun y17 h=>af (pu (lenL y17) h) fun y18 h=>af (pu (aF prog .lss 3 y16 y18) h) fun y19 h=>(match y19 with
 | .bool true=>af (some (x 0,h)) fun y22 h=>af (some (x 6,h)) fun y23 h=>af (pu (idxS 39 y22 y23) h) fun y24 h=>af (du 39 y24 h) fun y25 h=>af (eH mE h) fun y7 h=>af (eY 39 y7 y25 h) fun _ h=>af (some (x 1,h)) fun y26 h=>af (du 39 y7 h) fun y27 h=>af (callA prog C y26 [y27] h) fun y28 h=>af (pu (unA .not y28) h) fun y29 h=>(match y29 with
 | .bool true=>af (some (x 0,h)) fun y30 h=>af (some (x 5,h)) fun y31 h=>af (du 39 y7 h) fun y32 h=>af (pu (idxS 39 y30 y31) h) fun y33 h=>af (eY 39 y33 y32 h) fun _ h=>af (some (x 5,h)) fun y34 h=>af (pu (aF prog .add 3 y34 (.int .i64 1)) h) fun y35 h=>af (some (y35,h)) fun y5 h=>af (some (x 6,h)) fun y20 h=>af (pu (aF prog .add 3 y20 (.int .i64 1)) h) fun y21 h=>af (some (y21,h)) fun y6 h=>some (.normal,(aK 42 (up x [(5,y5),(6,y6),(7,y7),(16,y16),(17,y17),(18,y18),(19,y19),(20,y20),(21,y21),(22,y22),(23,y23),(24,y24),(25,y25),(26,y26),(27,y27),(28,y28),(29,y29),(30,y30),(31,y31),(32,y32),(33,y33),(34,y34),(35,y35)])),h)
 | .bool false=>af (some (x 6,h)) fun y20 h=>af (pu (aF prog .add 3 y20 (.int .i64 1)) h) fun y21 h=>af (some (y21,h)) fun y6 h=>some (.normal,(aK 42 (up x [(6,y6),(7,y7),(16,y16),(17,y17),(18,y18),(19,y19),(20,y20),(21,y21),(22,y22),(23,y23),(24,y24),(25,y25),(26,y26),(27,y27),(28,y28),(29,y29)])),h)
 |_=>none)
 | .bool false=>some (.exit 0,(aK 42 (up x [(16,y16),(17,y17),(18,y18),(19,y19)])),h)
 |_=>none)
theorem t131_eq (C:au) (x0 x1:Value) (h:ai):bw prog C f65 [x0,x1] h=t131 C x0 x1 h:=
 fM (by kernel_rfl) (by kernel_rfl)
theorem Ak:k131_5 C (aK 42 x) h=sx C x h:=
 uJ (T:=sx C) (fun x h=>by kernel_rfl) x h
theorem sy:codeA prog C (ao f65 [1,1,1,0,1,0,0]) (aK 42 x) h=ku C x h:=
 aA (T:=ku C) (fun x h=>by kernel_rfl) x h
noncomputable def b152_1 (_:au) (i:Nat) (e:aX) (h:ai):bc:=if i=0 then (dC f92) e h else iL i e h
noncomputable def t152 (C:au) (x0 x1 x2:Value) (h:ai):bc:=
 af (some (.int .i64 0,h)) fun y4 h=>fe (iter (codeA prog C (ao f92 [1,0,0])) aD (aK 31 (up (bs [x0,x1,x2]) [(4,y4)])) h) (dC f92) (b152_1 C)
noncomputable def qn:eI:=
 af (some (x 4,h)) fun y6 h=>af (ld1 (x 1) h) fun y7 h=>af (pu (lenL y7) h) fun y8 h=>af (pu (aF prog .lss 3 y6 y8) h) fun y9 h=>(match y9 with
 | .bool true=>af (ld1 (x 2) h) fun y13 h=>af (ld1 (x 1) h) fun y14 h=>af (some (x 4,h)) fun y15 h=>af (pu (nT 39 y14 (some y15) none none) h) fun y16 h=>af (pu (lenL y16) h) fun y17 h=>af (pu (minmax false y13 [y17]) h) fun y18 h=>af (some (y18,h)) fun y5 h=>af (some (x 0,h)) fun y19 h=>af (ld1 (x 1) h) fun y20 h=>af (some (x 4,h)) fun y21 h=>af (some (x 4,h)) fun y22 h=>af (some (y5,h)) fun y23 h=>af (pu (aF prog .add 3 y22 y23) h) fun y24 h=>af (some (x 4,h)) fun y25 h=>af (some (y5,h)) fun y26 h=>af (pu (aF prog .add 3 y25 y26) h) fun y27 h=>af (pu (nT 39 y20 (some y21) (some y24) (some y27)) h) fun y28 h=>af (callA prog C y19 [y28] h) fun y29 h=>af (pu (unA .not y29) h) fun y30 h=>
 (match y30 with
 | .bool true=>some (.ret,(aK 31 (up x [(5,y5),(6,y6),(7,y7),(8,y8),(9,y9),(13,y13),(14,y14),(15,y15),(16,y16),(17,y17),(18,y18),(19,y19),(20,y20),(21,y21),(22,y22),(23,y23),(24,y24),(25,y25),(26,y26),(27,y27),(28,y28),(29,y29),(30,y30)])),h)
 | .bool false=>af (some (x 4,h)) fun y10 h=>af (ld1 (x 2) h) fun y11 h=>af (pu (aF prog .add 3 y10 y11) h) fun y12 h=>af (some (y12,h)) fun y4 h=>some (.normal,(aK 31 (up x [(4,y4),(5,y5),(6,y6),(7,y7),(8,y8),(9,y9),(10,y10),(11,y11),(12,y12),(13,y13),(14,y14),(15,y15),(16,y16),(17,y17),(18,y18),(19,y19),(20,y20),(21,y21),(22,y22),(23,y23),(24,y24),(25,y25),(26,y26),(27,y27),(28,y28),(29,y29),(30,y30)])),h)
 |_=>none)
 | .bool false=>some (.exit 0,(aK 31 (up x [(6,y6),(7,y7),(8,y8),(9,y9)])),h)
 |_=>none)
theorem t152_eq (C:au) (x0 x1 x2:Value) (h:ai):bw prog C f92 [x0,x1,x2] h=t152 C x0 x1 x2 h:=
 fM (by kernel_rfl) (by kernel_rfl)
theorem xR:codeA prog C (ao f92 [1,0,0]) (aK 31 x) h=qn C x h:=
 aA (T:=qn C) (fun x h=>by kernel_rfl) x h
noncomputable def k103_7:bc:=codeK prog C (ao f31 [1,1,1,1,1,1]) e h (dC f31) (dC f31) iL
noncomputable def b103_9:bc:=if i=0 then (k103_7 C) e h else iL i e h
noncomputable def t103 (C:au) (x0 x1:Value) (h:ai):bc:=
 af (box x1 h) fun y3 h=>af (some (.slice none 0 0,h)) fun y4 h=>af (some (x0,h)) fun y8 h=>af (pu (aP y3 42) h) fun y9 h=>af (ld1 y9 h) fun y10 h=>af (C 21 [y8,y10] h) fun y11 h=>af (pu (aP y3 43) h) fun y12 h=>af (ld1 y12 h) fun y13 h=>af (pu (unA .not y13) h) fun y14 h=>(match y14 with
 | .bool true=>af (some (.slice none 0 0,h)) fun y4_1 h=>some (y4_1,h)
 | .bool false=>af (some (x0,h)) fun y15 h=>af (pu (aP y3 7) h) fun y16 h=>af (ld1 y16 h) fun y17 h=>af (pu (aP y3 8) h) fun y18 h=>af (ld1 y18 h) fun y19 h=>af (C 18 [y15,y17,y19] h) fun y20 h=>af (some (.func (.func 66) #[] #[y3],h)) fun y21 h=>af (C 65 [y20,y21] h) fun y22 h=>af (some (y22,h)) fun y5 h=>af (eH [.slice none 0 0] h) fun y6 h=>af (some (y5,h)) fun y23 h=>af (C 68 [y23,.int .i64 64] h) fun y24 h=>
 endN (codeA prog C (ao f31 [1,1,1,1,1,0,1,0]) (aK 33 (up (bs [x0,x1]) [(3,y3),(4,y4),(5,y5),(6,y6),(8,y8),(9,y9),(10,y10),(11,y11),(12,y12),(13,y13),(14,y14),(15,y15),(16,y16),(17,y17),(18,y18),(19,y19),(20,y20),(21,y21),(22,y22),(23,y23),(24,y24)])) h) (k103_7 C) (dC f31) (b103_9 C)
 |_=>none)
noncomputable def sG (_:au) (x:fL) (h:ai):bc:=
 af (ld1 (x 6) h) fun y32 h=>af (some (y32,h)) fun y4 h=>some (y4,h)
noncomputable def lE (_:au) (x:fL) (h:ai):eI:=
 af (some (x 25,h)) fun y7 h=>some (.normal,(aK 33 (up x [(7,y7)])),h)
noncomputable def fC:eI:=
 let g12_0:=h
 af (ld1 (x 6) g12_0) fun y26 g12_1=>af (du 116 (x 3) g12_1) fun y27 g12_2=>af (some (x 7,g12_2)) fun y28 g12_3=>af (C 61 [y27,y28,.bool false] g12_3) fun y29 g12_4=>af (dg 116 (.agg zlit3) 1 [(0,y29)] g12_4) fun y30 g12_5=>af (appendA 116 352 y26 y30 g12_5) fun y31 g12_6=>af (eY 1 (x 6) y31 g12_6) fun _ g12_7=>(match (cq true (ld1 (x 6) g12_4) y26&&true) with
 |true=>let h:=g12_7
 some (.normal,(aK 33 (up x [(26,y26),(27,y27),(28,y28),(29,y29),(30,y30),(31,y31)])),h)
 |false=>none)
theorem t103_eq (C:au) (x0 x1:Value) (h:ai):bw prog C f31 [x0,x1] h=t103 C x0 x1 h:=
 fM (by kernel_rfl) (by kernel_rfl)
theorem AH:k103_7 C (aK 33 x) h=sG C x h:=
 uJ (T:=sG C) (fun x h=>by kernel_rfl) x h
theorem pn:codeA prog C (rgA (ao f31 [1,1,1,1,1,0,1,0])) (aK 33 x) h=lE C x h:=
 aA (T:=lE C) (fun x h=>by kernel_rfl) x h
theorem po:codeA prog C (rgB (ao f31 [1,1,1,1,1,0,1,0])) (aK 33 x) h=fC C x h:=
 aA (T:=fC C) (fun x h=>by kernel_rfl) x h
end
section
variable (C:au) (i:Nat) (x:fL) (e:aX) (h:ai)
noncomputable def sS (_:au) (x:fL) (h:ai):eI:=
 af (box (x 0) h) fun y2 h=>af (box (x 1) h) fun y3 h=>af (some (.nilFunc,h)) fun y4 h=>some (.normal,(aK 9 (up x [(2,y2),(3,y3),(4,y4)])),h)
noncomputable def oR (_:au) (x:fL) (h:ai):eI:=
 af (ld1 (x 3) h) fun y5 h=>af (pu (aF prog .lss 3 y5 (.int .i64 1)) h) fun y6 h=>some (.normal,(aK 9 (up x [(5,y5),(6,y6)])),h)
noncomputable def qC (_:au) (x:fL) (h:ai):eI:=
 af (some (.func (.func 92) #[] #[x 2,x 3],h)) fun y8 h=>af (some (y8,h)) fun y4 h=>some (.ret,(aK 9 (up x [(4,y4),(8,y8)])),h)
theorem AD:codeA prog C (ao f68 [0]) (aK 9 x) h=sS C x h:=
 aA (T:=sS C) (fun x h=>by kernel_rfl) x h
theorem wU:codeA prog C (ao f68 [1,0,0]) (aK 9 x) h=oR C x h:=
 aA (T:=oR C) (fun x h=>by kernel_rfl) x h
theorem qB:codeA prog C (ao f68 [1,1]) (aK 9 x) h=qC C x h:=
 aA (T:=qC C) (fun x h=>by kernel_rfl) x h
end
noncomputable def t55 (C:au) (x0:Value) (h:ai):bc:=
 af (eH (List.replicate 32 (.int .u8 0)) h) fun y2 h=>af (some (x0,h)) fun y4 h=>af (pu (lenL y4) h) fun y5 h=>af (pu (aF prog .eql 3 y5 (.int .i64 0)) h) fun y6 h=>(match y6 with
 | .bool true=>af (C 69 [.slice none 0 0] h) fun y7 h=>af (eY 32 y2 y7 h) fun _ h=>resultsA prog f33.results.toList (aK 27 (up (bs [x0]) [(2,y2),(4,y4),(5,y5),(6,y6),(7,y7)])) h
 | .bool false=>af (some (x0,h)) fun y8 h=>af (pu (lenL y8) h) fun y9 h=>af (pu (aF prog .eql 3 y9 (.int .i64 1)) h) fun y10 h=>(match y10 with
 | .bool true=>af (some (x0,h)) fun y11 h=>af (pu (idxS 39 y11 (.int .i64 0)) h) fun y12 h=>af (du 39 y12 h) fun y13 h=>af (C 70 [y13] h) fun y14 h=>af (eY 32 y2 y14 h) fun _ h=>resultsA prog f33.results.toList (aK 27 (up (bs [x0]) [(2,y2),(4,y4),(5,y5),(6,y6),(8,y8),(9,y9),(10,y10),(11,y11),(12,y12),(13,y13),(14,y14)])) h
 | .bool false=>af (some (x0,h)) fun y15 h=>af (pu (lenL y15) h) fun y16 h=>af (C 71 [y16] h) fun y17 h=>af (some (y17,h)) fun y3 h=>af (some (x0,h)) fun y18 h=>af (some (y3,h)) fun y19 h=>af (pu (nT 39 y18 none (some y19) none) h) fun y20 h=>af (C 33 [y20] h) fun y21 h=>af (some (x0,h)) fun y22 h=>af (some (y3,h)) fun y23 h=>af (pu (nT 39 y22 (some y23) none none) h) fun y24 h=>af (C 33 [y24] h) fun y25 h=>af (C 72 [y21,y25] h) fun y26 h=>af (eY 32 y2 y26 h) fun _ h=>resultsA prog f33.results.toList (aK 27 (up (bs [x0]) [(2,y2),(3,y3),(4,y4),(5,y5),(6,y6),(8,y8),(9,y9),(10,y10),(15,y15),(16,y16),(17,y17),(18,y18),(19,y19),(20,y20),(21,y21),(22,y22),(23,y23),(24,y24),(25,y25),(26,y26)])) h
 |_=>none)
 |_=>none)
theorem t55_eq (C:au) (x0:Value) (h:ai):bw prog C f33 [x0] h=t55 C x0 h:=
 fM (by kernel_rfl) (by kernel_rfl)
end Go.Proofs.YtdnahgfgoajmcaaGreatDoor
