/-
  A part of the proof, shortened by a program.
  Conditions: as each theorem states.
-/
import Derived.Test.YtdhpgacmgebjdaaGreatDoorG16
set_option linter.all false
namespace Go.Proofs.YtdhpgacmgebjdaaGreatDoor
open Go Go.Abs Tryz
noncomputable section
def known_lt:12<prog.funcs.size:=EO (by kernel_rfl)
def outT_true : ∀ {r:ba},outT r=true -> ∃ v h,r=some (v,h)/\v = .bool true
 |none,e=>by cases e
 |some (v,h),e=>by
  have e:isTrueV v=true:=e;unfold isTrueV at e;split at e
  ·exact ⟨_,h,rfl,rfl⟩
  ·cases e
def known_W:ofC (CC prog XC) 12 [] (ou prog DI) fun v _=>v = .bool true:=by obtain ⟨v,h,e,hv⟩:=outT_true known_runs;exact ⟨v,h,callF_CC (by unfold aK;omega) Bh smF_X (fun _ _=>XT.ok) 60 _ _ _ _ e,hv⟩
def s12 (args:List Vl) (h:ae):ba:=by classical exact if args = []/\h.get 1=some cH then some (.bool true,h) else none
def s12_eq {h:ae} (g:h.get 1=some cH):s12 [] h=some (.bool true,h):=by unfold s12;rw [DR ⟨rfl,g⟩]
def c12:bq prog 12 s12:=by
 refine bq.closedQ (qf (jK dZ XC_sound)) known_lt (v := .bool true) rfl DI ?_ known_W s12 ?_
 ·intro b cs e;unfold DI at e;split at e
  ·cases e;kernel_rfl
  ·cases e
 ·intro args h r e;unfold s12 at e;split at e
  ·rename_i hh;cases e;refine ⟨hh.1,rfl,fun b cs _ hd => ?_⟩;unfold DI at hd;split at hd
   ·cases hd;exact hh.2
   ·cases hd
  ·cases e
abbrev XL:List (FuncId×(List Vl->ae->ba)) := [(12,s12)]
abbrev XX:ah:=jc XL
end
end Go.Proofs.YtdhpgacmgebjdaaGreatDoor
namespace Go.Proofs.YtdhpgacmgebjdaaGreatDoor.W
open Go Go.Abs Tryz
noncomputable section
section
variable (C:ah) (x:Nat->Vl) (x0 x1 x2 x3 x4 x5:Vl) (h:ae)
def t22 (C:ah) (x0 x1 x2 x3:Vl) (h:ae):ba:=
 aa (some ((.int .i64 0),h)) fun R h=>
 aa (some (x0,h)) fun k h=>
 aa (pu (aE prog .eql 24 k (.pointer none)) h) fun l h=>
 aa (some (l,h)) fun m h=>
 (match m with
 | .bool true=>
 aa (some ((.int .i64 1),h)) fun b h=>
 some (b,h)
 | .bool false=>
 aa (some (x1,h)) fun n h=>
 aa (pu (aE prog .lss 3 n (.int .i64 0)) h) fun o h=>
 aa (some (o,h)) fun a h=>
 aa (au (bC a==some false) (some (x1,h)) h) fun p h=>
 aa (au (bC a==some false) (some (x0,h)) h) fun q h=>
 aa (au (bC a==some false) (pu (nilCheckA q) h) h) fun r h=>
 aa (au (bC a==some false) (pu (aL r 0) h) h) fun s h=>
 aa (au (bC a==some false) (ld1 s h) h) fun u h=>
 aa (au (bC a==some false) (pu (cI u) h) h) fun v h=>
 aa (au (bC a==some false) (pu (aE prog .geq 3 p v) h) h) fun w h=>
 aa (match a with | .bool t=>some (if t then (.bool true) else w,h)|_=>none) fun y h=>
 aa (some (y,h)) fun c h=>
 aa (au (bC c==some false) (some (x2,h)) h) fun z h=>
 aa (au (bC c==some false) (pu (aE prog .lss 3 z (.int .i64 0)) h) h) fun A h=>
 aa (match c with | .bool t=>some (if t then (.bool true) else A,h)|_=>none) fun B h=>
 aa (some (B,h)) fun d h=>
 aa (au (bC d==some false) (some (x2,h)) h) fun D h=>
 aa (au (bC d==some false) (pu (aE prog .geq 3 D (.int .i64 128)) h) h) fun E h=>
 aa (match d with | .bool t=>some (if t then (.bool true) else E,h)|_=>none) fun F h=>
 aa (some (F,h)) fun G h=>
 (match G with
 | .bool true=>
 aa (some ((.int .i64 2),h)) fun b h=>
 some (b,h)
 | .bool false=>
 aa (some (x0,h)) fun H h=>
 aa (pu (nilCheckA H) h) fun I h=>
 aa (pu (aL I 0) h) fun J h=>
 aa (ld1 J h) fun f h=>
 aa (some (x1,h)) fun g h=>
 aa (some (x2,h)) fun j h=>
 aa (pu (idxS 128 f g) h) fun K h=>
 aa (pu (idxA 128 1 K j) h) fun L h=>
 aa (ld1 L h) fun M h=>
 aa (some (x3,h)) fun N h=>
 aa (pu (aE prog .xor 5 M N) h) fun O h=>
 aa (pu (idxS 128 f g) h) fun P h=>
 aa (pu (idxA 128 1 P j) h) fun Q h=>
 aa (bX 1 Q O h) fun _ h=>
 aa (some ((.int .i64 0),h)) fun b h=>
 some (b,h)
 |_=>none)
 |_=>none)
def t22_eq:aY prog C f22 [x0,x1,x2,x3] h=t22 C x0 x1 x2 x3 h:=
 lkT (by kernel_rfl) (by kernel_rfl)
def t49 (C:ah) (x0:Vl) (h:ae):ba:=
 aa (some (x0,h)) fun c h=>
 aa (pu (aE prog .eql 24 c (.pointer none)) h) fun d h=>
 aa (some (d,h)) fun a h=>
 aa (au (bC a==some false) (some (x0,h)) h) fun f h=>
 aa (au (bC a==some false) (pu (nilCheckA f) h) h) fun g h=>
 aa (au (bC a==some false) (pu (aL g 1) h) h) fun j h=>
 aa (au (bC a==some false) (ld1 j h) h) fun k h=>
 aa (match a with | .bool t=>some (if t then (.bool true) else k,h)|_=>none) fun l h=>
 (match l with
 | .bool true=>
 some (.tuple #[],h)
 | .bool false=>
 aa (some (x0,h)) fun m h=>
 aa (some (x0,h)) fun n h=>
 aa (pu (nilCheckA m) h) fun o h=>
 aa (pu (aL o 1) h) fun p h=>
 aa (bX 1 p (.bool true) h) fun _ h=>
 aa (pu (nilCheckA n) h) fun q h=>
 aa (pu (aL q 2) h) fun r h=>
 aa (bX 1 r (.bool false) h) fun _ h=>
 aa (some (x0,h)) fun b h=>
 aa (pu (nilCheckA b) h) fun s h=>
 aa (pu (aL s 5) h) fun u h=>
 aa (ld1 u h) fun v h=>
 aa (pu (aE prog .add 3 v (.int .i64 1)) h) fun w h=>
 aa (pu (nilCheckA b) h) fun y h=>
 aa (pu (aL y 5) h) fun z h=>
 aa (bX 1 z w h) fun _ h=>
 some (.tuple #[],h)
 |_=>none)
def t49_eq:aY prog C f49 [x0] h=t49 C x0 h:=
 lkT (by kernel_rfl) (by kernel_rfl)
def k57_7 (C:ah) (e:aQ) (h:ae):ba:=codeK prog C (al f57 [1,1,1,1,1]) e h (resultsA prog f57.results.toList) (resultsA prog f57.results.toList) (fun _ _ _=>none)
def b57_9 (C:ah) (i:Nat) (e:aQ) (h:ae):ba:=if i=0 then (k57_7 C) e h else (fun _ _ _=>none) i e h
def k57_11 (C:ah) (e:aQ) (h:ae):ba:=codeK prog C (al f57 [1,1,1,1,1,1,1]) e h (resultsA prog f57.results.toList) (resultsA prog f57.results.toList) (fun _ _ _=>none)
def b57_13 (C:ah) (i:Nat) (e:aQ) (h:ae):ba:=if i=4 then (k57_11 C) e h else (fun _ _ _=>none) i e h
def k57_16 (C:ah) (e:aQ) (h:ae):Option (Ex×aQ×ae):=codeK prog C (al f57 [1,1,1,1,0,1,0,0,1,1,1]) e h (fun e h=>some (Ex.normal,e,h)) (fun e h=>some (Ex.ret,e,h)) (fun i e h=>some (Ex.exit i,e,h))
def b57_17 (C:ah) (i:Nat) (e:aQ) (h:ae):Option (Ex×aQ×ae):=if i=1 then (k57_16 C) e h else (fun i e h=>some (Ex.exit i,e,h)) i e h
def uH (C:ah) (i:Nat) (e:aQ) (h:ae):Option (Ex×aQ×ae):=if i=2 then (k57_16 C) e h else (b57_17 C) i e h
def t57 (C:ah) (x0:Vl) (h:ae):ba:=
 aa (some ((.pointer none),h)) fun w h=>
 aa (some ((.slice none 0 0),h)) fun y h=>
 aa (some ((.int .i64 0),h)) fun z h=>
 aa (some (x0,h)) fun c h=>
 aa (C 105 [c,(.int .i64 0)] h) fun d h=>
 aa (some (d,h)) fun a h=>
 aa (some (a,h)) fun f h=>
 aa (pu (aE prog .neq 25 f (.int .i64 0)) h) fun g h=>
 (match g with
 | .bool true=>
 aa (some (a,h)) fun A h=>
 aa (some ((.pointer none),h)) fun B h=>
 aa (some ((.slice none 0 0),h)) fun D h=>
 aa (some (A,h)) fun E h=>
 some (.tuple #[B,D,E],h)
 | .bool false=>
 aa (some (x0,h)) fun b h=>
 aa (pu (nilCheckA b) h) fun j h=>
 aa (pu (aL j 5) h) fun k h=>
 aa (ld1 k h) fun l h=>
 aa (pu (aE prog .add 3 l (.int .i64 1)) h) fun m h=>
 aa (pu (nilCheckA b) h) fun n h=>
 aa (pu (aL n 5) h) fun o h=>
 aa (bX 1 o m h) fun _ h=>
 aa (some (x0,h)) fun p h=>
 aa (some (x0,h)) fun q h=>
 aa (pu (nilCheckA q) h) fun r h=>
 aa (pu (aL r 5) h) fun s h=>
 aa (ld1 s h) fun t h=>
 aa (pu (dG zlit2 [(0,1,p),(1,1,t),(2,1,(.int .i64 (-1)))]) h) fun u h=>
 aa (box u h) fun v h=>
 aa (some (v,h)) fun F h=>
 aa (some ((.int .i64 0),h)) fun G h=>
 fb (iter (codeA prog C (al f57 [1,1,1,1,0,1,0,0])) aK (aT 131 (up (bs [x0]) [(2,w),(3,y),(4,z),(5,a),(6,F),(18,c),(19,d),(20,f),(21,g),(23,b),(24,j),(25,k),(26,l),(27,m),(28,n),(29,o),(30,p),(31,q),(32,r),(33,s),(34,t),(35,u),(36,v),(37,G)])) h) (resultsA prog f57.results.toList) (b57_9 C)
 |_=>none)
def xH (C:ah) (x:Nat->Vl) (h:ae):ba:=
 aa (some ((.slice none 0 0),h)) fun a h=>
 aa (some ((.int .i64 0),h)) fun b h=>
 fb (iter (codeA prog C (al f57 [1,1,1,1,1,1,0,1,0,0])) aK (aT 131 (up x [(14,a),(15,b)])) h) (resultsA prog f57.results.toList) (b57_13 C)
def fa (C:ah) (x:Nat->Vl) (h:ae):Option (Ex×aQ×ae):=
 aa (pu (aE prog .lss 3 (x 37) (.int .i64 2)) h) fun f h=>
 (match f with
 | .bool true=>
 aa (some ((x 37),h)) fun v h=>
 aa (some (v,h)) fun g h=>
 aa (some ((x 0),h)) fun w h=>
 aa (some (g,h)) fun y h=>
 aa (C 106 [w,y] h) fun z h=>
 aa (some (z,h)) fun d h=>
 aa (pu (extractA d 0) h) fun A h=>
 aa (pu (extractA d 1) h) fun B h=>
 aa (pu (extractA d 2) h) fun D h=>
 aa (some (A,h)) fun c h=>
 aa (some (B,h)) fun E h=>
 aa (some (D,h)) fun F h=>
 aa (some (F,h)) fun G h=>
 (match G with
 | .bool true=>
 aa (some ((x 6),h)) fun H h=>
 aa (pu (nilCheckA H) h) fun I h=>
 aa (pu (aL I 2) h) fun J h=>
 aa (ld1 J h) fun K h=>
 aa (pu (aE prog .lss 3 K (.int .i64 0)) h) fun L h=>
 aa (some (L,h)) fun a h=>
 aa (au (bC a==some false) (some (c,h)) h) fun M h=>
 aa (au (bC a==some false) (some ((x 6),h)) h) fun N h=>
 aa (au (bC a==some false) (pu (nilCheckA N) h) h) fun O h=>
 aa (au (bC a==some false) (pu (aL O 4) h) h) fun P h=>
 aa (au (bC a==some false) (ld1 P h) h) fun Q h=>
 aa (au (bC a==some false) (pu (aE prog .gtr 52 M Q) h) h) fun R h=>
 aa (match a with | .bool t=>some (if t then (.bool true) else R,h)|_=>none) fun S h=>
 (match S with
 | .bool true=>
 aa (some ((x 6),h)) fun T h=>
 aa (some ((x 6),h)) fun U h=>
 aa (some ((x 6),h)) fun V h=>
 aa (some (g,h)) fun W h=>
 aa (some (c,h)) fun X h=>
 aa (some (E,h)) fun Y h=>
 aa (pu (nilCheckA T) h) fun Z h=>
 aa (pu (aL Z 2) h) fun a0 h=>
 aa (bX 1 a0 W h) fun _ h=>
 aa (pu (nilCheckA U) h) fun a1 h=>
 aa (pu (aL a1 4) h) fun a2 h=>
 aa (bX 1 a2 X h) fun _ h=>
 aa (pu (nilCheckA V) h) fun a3 h=>
 aa (pu (aL a3 3) h) fun a4 h=>
 aa (bX 1 a4 Y h) fun _ h=>
 aa (some ((x 6),h)) fun j h=>
 aa (some ((x 6),h)) fun k h=>
 aa (pu (nilCheckA k) h) fun l h=>
 aa (pu (aL l 5) h) fun m h=>
 aa (ld1 m h) fun n h=>
 aa (some (c,h)) fun o h=>
 aa (pu (minmax true n [o]) h) fun p h=>
 aa (pu (nilCheckA j) h) fun q h=>
 aa (pu (aL q 5) h) fun r h=>
 aa (bX 1 r p h) fun _ h=>
 aa (some ((x 0),h)) fun b h=>
 aa (C 107 [b] h) fun s h=>
 aa (some ((.int .i64 0),h)) fun u h=>
 fb (iter (codeA prog C (al f57 [1,1,1,1,0,1,0,0,1,1,0,0,1,1,1,0,0])) aK (aT 131 (up x [(7,g),(8,c),(9,E),(10,F),(38,f),(39,v),(40,d),(41,w),(42,y),(43,z),(44,A),(45,B),(46,D),(47,G),(48,H),(49,I),(50,J),(51,K),(52,L),(53,a),(54,M),(55,N),(56,O),(57,P),(58,Q),(59,R),(60,S),(61,T),(62,U),(63,V),(64,W),(65,X),(66,Y),(67,Z),(68,a0),(69,a1),(70,a2),(71,a3),(72,a4),(73,j),(74,k),(75,l),(76,m),(77,n),(78,o),(79,p),(80,q),(81,r),(82,b),(83,s),(84,u)])) h) (fun e h=>some (Ex.ret,e,h)) (uH C)
 | .bool false=>
 aa (some ((x 6),h)) fun j h=>
 aa (some ((x 6),h)) fun k h=>
 aa (pu (nilCheckA k) h) fun l h=>
 aa (pu (aL l 5) h) fun m h=>
 aa (ld1 m h) fun n h=>
 aa (some (c,h)) fun o h=>
 aa (pu (minmax true n [o]) h) fun p h=>
 aa (pu (nilCheckA j) h) fun q h=>
 aa (pu (aL q 5) h) fun r h=>
 aa (bX 1 r p h) fun _ h=>
 aa (some ((x 0),h)) fun b h=>
 aa (C 107 [b] h) fun s h=>
 aa (some ((.int .i64 0),h)) fun u h=>
 fb (iter (codeA prog C (al f57 [1,1,1,1,0,1,0,0,1,1,0,0,1,1,1,0,0])) aK (aT 131 (up x [(7,g),(8,c),(9,E),(10,F),(38,f),(39,v),(40,d),(41,w),(42,y),(43,z),(44,A),(45,B),(46,D),(47,G),(48,H),(49,I),(50,J),(51,K),(52,L),(53,a),(54,M),(55,N),(56,O),(57,P),(58,Q),(59,R),(60,S),(73,j),(74,k),(75,l),(76,m),(77,n),(78,o),(79,p),(80,q),(81,r),(82,b),(83,s),(84,u)])) h) (fun e h=>some (Ex.ret,e,h)) (uH C)
 |_=>none)
 | .bool false=>
 aa (some ((x 0),h)) fun b h=>
 aa (C 107 [b] h) fun s h=>
 aa (some ((.int .i64 0),h)) fun u h=>
 fb (iter (codeA prog C (al f57 [1,1,1,1,0,1,0,0,1,1,0,0,1,1,1,0,0])) aK (aT 131 (up x [(7,g),(8,c),(9,E),(10,F),(38,f),(39,v),(40,d),(41,w),(42,y),(43,z),(44,A),(45,B),(46,D),(47,G),(82,b),(83,s),(84,u)])) h) (fun e h=>some (Ex.ret,e,h)) (uH C)
 |_=>none)
 | .bool false=>
 some (.exit 0,(aT 131 (up x [(38,f)])),h)
 |_=>none)
def uk (C:ah) (x:Nat->Vl) (h:ae):ba:=
 aa (some ((x 6),h)) fun a h=>
 aa (some ((x 14),h)) fun b h=>
 aa (some (a,h)) fun c h=>
 aa (some (b,h)) fun d h=>
 aa (some ((.int .i64 0),h)) fun f h=>
 some (.tuple #[c,d,f],h)
def gG (C:ah) (x:Nat->Vl) (h:ae):Option (Ex×aQ×ae):=
 aa (some ((x 15),h)) fun g h=>
 aa (some ((x 0),h)) fun j h=>
 aa (C 107 [j] h) fun k h=>
 aa (pu (aE prog .lss 3 g k) h) fun l h=>
 (match l with
 | .bool true=>
 aa (some ((x 6),h)) fun n h=>
 aa (some ((x 15),h)) fun o h=>
 aa (C 109 [n,o] h) fun p h=>
 aa (some (p,h)) fun m h=>
 aa (pu (extractA m 0) h) fun q h=>
 aa (pu (extractA m 1) h) fun r h=>
 aa (some (q,h)) fun s h=>
 aa (some (r,h)) fun a h=>
 aa (some (a,h)) fun t h=>
 aa (pu (aE prog .gtr 3 t (.int .i64 0)) h) fun u h=>
 (match u with
 | .bool true=>
 aa (some ((x 14),h)) fun w h=>
 aa (some ((x 15),h)) fun y h=>
 aa (some (s,h)) fun z h=>
 aa (pu (dG [(.int .i64 0),(.slice none 0 0)] [(0,1,y),(1,1,z)]) h) fun A h=>
 aa (fE 2 (.agg #[(.int .i64 0),(.slice none 0 0)]) 1 [(0,A)] h) fun B h=>
 aa (appendA 2 32 w B h) fun D h=>
 aa (some (D,h)) fun E h=>
 aa (some ((x 15),h)) fun b h=>
 aa (some (a,h)) fun c h=>
 aa (pu (minmax true c [(.int .i64 1)]) h) fun d h=>
 aa (pu (aE prog .add 3 b d) h) fun f h=>
 aa (some (f,h)) fun v h=>
 some (.normal,(aT 131 (up x [(14,E),(15,v),(16,s),(17,a),(107,g),(108,j),(109,k),(110,l),(111,m),(112,n),(113,o),(114,p),(115,q),(116,r),(117,t),(118,u),(119,w),(120,y),(121,z),(122,A),(123,B),(124,D),(125,b),(126,c),(127,d),(128,f)])),h)
 | .bool false=>
 aa (some ((x 15),h)) fun b h=>
 aa (some (a,h)) fun c h=>
 aa (pu (minmax true c [(.int .i64 1)]) h) fun d h=>
 aa (pu (aE prog .add 3 b d) h) fun f h=>
 aa (some (f,h)) fun v h=>
 some (.normal,(aT 131 (up x [(15,v),(16,s),(17,a),(107,g),(108,j),(109,k),(110,l),(111,m),(112,n),(113,o),(114,p),(115,q),(116,r),(117,t),(118,u),(125,b),(126,c),(127,d),(128,f)])),h)
 |_=>none)
 | .bool false=>
 some (.exit 4,(aT 131 (up x [(107,g),(108,j),(109,k),(110,l)])),h)
 |_=>none)
def uD (C:ah) (x:Nat->Vl) (h:ae):Option (Ex×aQ×ae):=
 aa (pu (aE prog .add 3 (x 37) (.int .i64 1)) h) fun a h=>
 aa (some (a,h)) fun b h=>
 some (.normal,(aT 131 (up x [(37,b),(106,a)])),h)
def dB (C:ah) (x:Nat->Vl) (h:ae):Option (Ex×aQ×ae):=
 aa (pu (aE prog .lss 3 (x 84) (x 83)) h) fun b h=>
 (match b with
 | .bool true=>
 aa (some ((x 84),h)) fun f h=>
 aa (some (f,h)) fun g h=>
 aa (some ((x 0),h)) fun j h=>
 aa (some ((x 7),h)) fun k h=>
 aa (some (g,h)) fun l h=>
 aa (C 108 [j,k,l] h) fun m h=>
 aa (some (m,h)) fun c h=>
 aa (pu (extractA c 0) h) fun n h=>
 aa (pu (extractA c 1) h) fun o h=>
 aa (dj [(.int .u64 0),(.int .i64 0),(.int .i64 0),(.slice none 0 0)] h) fun d h=>
 aa (bX 4 d n h) fun _ h=>
 aa (some (o,h)) fun p h=>
 aa (some (p,h)) fun q h=>
 (match q with
 | .bool true=>
 aa (some ((x 6),h)) fun s h=>
 aa (some ((x 6),h)) fun t h=>
 aa (pu (nilCheckA t) h) fun u h=>
 aa (pu (aL u 5) h) fun v h=>
 aa (ld1 v h) fun w h=>
 aa (pu (aL d 0) h) fun y h=>
 aa (ld1 y h) fun z h=>
 aa (pu (minmax true w [z]) h) fun A h=>
 aa (pu (nilCheckA s) h) fun B h=>
 aa (pu (aL B 5) h) fun D h=>
 aa (bX 1 D A h) fun _ h=>
 aa (pu (aE prog .add 3 (x 84) (.int .i64 1)) h) fun a h=>
 aa (some (a,h)) fun r h=>
 some (.normal,(aT 131 (up x [(11,g),(12,d),(13,p),(84,r),(85,b),(86,f),(87,c),(88,j),(89,k),(90,l),(91,m),(92,n),(93,o),(94,q),(95,s),(96,t),(97,u),(98,v),(99,w),(100,y),(101,z),(102,A),(103,B),(104,D),(105,a)])),h)
 | .bool false=>
 aa (pu (aE prog .add 3 (x 84) (.int .i64 1)) h) fun a h=>
 aa (some (a,h)) fun r h=>
 some (.normal,(aT 131 (up x [(11,g),(12,d),(13,p),(84,r),(85,b),(86,f),(87,c),(88,j),(89,k),(90,l),(91,m),(92,n),(93,o),(94,q),(105,a)])),h)
 |_=>none)
 | .bool false=>
 some (.exit 2,(aT 131 (up x [(85,b)])),h)
 |_=>none)
def t57_eq:aY prog C f57 [x0] h=t57 C x0 h:=
 lkT (by kernel_rfl) (by kernel_rfl)
def t57k57_7_eq:k57_7 C (aT 131 x) h=xH C x h:=
 bI (T:=xH C) (fun x h=>by kernel_rfl) x h
def tq:codeA prog C (al f57 [1,1,1,1,0,1,0,0]) (aT 131 x) h=fa C x h:=
 aF (T:=fa C) (fun x h=>by kernel_rfl) x h
def Cx:k57_11 C (aT 131 x) h=uk C x h:=
 bI (T:=uk C) (fun x h=>by kernel_rfl) x h
def qT:codeA prog C (al f57 [1,1,1,1,1,1,0,1,0,0]) (aT 131 x) h=gG C x h:=
 aF (T:=gG C) (fun x h=>by kernel_rfl) x h
def Da:k57_16 C (aT 131 x) h=uD C x h:=
 bI (T:=uD C) (fun x h=>by kernel_rfl) x h
def kB:codeA prog C (al f57 [1,1,1,1,0,1,0,0,1,1,0,0,1,1,1,0,0]) (aT 131 x) h=dB C x h:=
 aF (T:=dB C) (fun x h=>by kernel_rfl) x h
def k109_7 (C:ah) (e:aQ) (h:ae):ba:=codeK prog C (al f109 [1,1,1,1,1,1]) e h (resultsA prog f109.results.toList) (resultsA prog f109.results.toList) (fun _ _ _=>none)
def b109_9 (C:ah) (i:Nat) (e:aQ) (h:ae):ba:=if i=0 then (k109_7 C) e h else (fun _ _ _=>none) i e h
def t109 (C:ah) (x0 x1:Vl) (h:ae):ba:=
 aa (some ((.slice none 0 0),h)) fun z h=>
 aa (some ((.int .i64 0),h)) fun A h=>
 aa (some (x0,h)) fun c h=>
 aa (pu (nilCheckA c) h) fun d h=>
 aa (pu (aL d 0) h) fun f h=>
 aa (ld1 f h) fun g h=>
 aa (C 107 [g] h) fun j h=>
 aa (some (j,h)) fun k h=>
 aa (some (x0,h)) fun l h=>
 aa (pu (nilCheckA l) h) fun m h=>
 aa (pu (aL m 2) h) fun n h=>
 aa (ld1 n h) fun o h=>
 aa (pu (aE prog .lss 3 o (.int .i64 0)) h) fun p h=>
 aa (some (p,h)) fun b h=>
 aa (au (bC b==some false) (some (x1,h)) h) fun q h=>
 aa (au (bC b==some false) (pu (aE prog .lss 3 q (.int .i64 0)) h) h) fun r h=>
 aa (match b with | .bool t=>some (if t then (.bool true) else r,h)|_=>none) fun s h=>
 aa (some (s,h)) fun a h=>
 aa (au (bC a==some false) (some (x1,h)) h) fun u h=>
 aa (au (bC a==some false) (some (k,h)) h) fun v h=>
 aa (au (bC a==some false) (pu (aE prog .geq 3 u v) h) h) fun w h=>
 aa (match a with | .bool t=>some (if t then (.bool true) else w,h)|_=>none) fun y h=>
 (match y with
 | .bool true=>
 aa (some ((.slice none 0 0),h)) fun B h=>
 aa (some ((.int .i64 0),h)) fun D h=>
 some (.tuple #[B,D],h)
 | .bool false=>
 aa (some ((.slice none 0 0),h)) fun E h=>
 aa (some ((.int .i64 1),h)) fun F h=>
 aa (some ((.int .i64 0),h)) fun G h=>
 fb (iter (codeA prog C (al f109 [1,1,1,1,1,0,1,0,0])) aK (aT 89 (up (bs [x0,x1]) [(4,z),(5,A),(6,k),(7,E),(8,F),(9,G),(12,c),(13,d),(14,f),(15,g),(16,j),(17,l),(18,m),(19,n),(20,o),(21,p),(22,b),(23,q),(24,r),(25,s),(26,a),(27,u),(28,v),(29,w),(30,y)])) h) (resultsA prog f109.results.toList) (b109_9 C)
 |_=>none)
def rJ (C:ah) (x:Nat->Vl) (h:ae):ba:=
 aa (some ((x 7),h)) fun a h=>
 aa (some ((x 8),h)) fun b h=>
 aa (some (a,h)) fun c h=>
 aa (some (b,h)) fun d h=>
 some (.tuple #[c,d],h)
def fH (C:ah) (x:Nat->Vl) (h:ae):Option (Ex×aQ×ae):=
 aa (some ((x 9),h)) fun f h=>
 aa (some ((x 8),h)) fun g h=>
 aa (pu (aE prog .lss 3 f g) h) fun j h=>
 (match j with
 | .bool true=>
 aa (some ((x 1),h)) fun H h=>
 aa (some ((x 9),h)) fun I h=>
 aa (pu (aE prog .add 3 H I) h) fun J h=>
 aa (some ((x 6),h)) fun K h=>
 aa (pu (aE prog .geq 3 J K) h) fun L h=>
 (match L with
 | .bool true=>
 aa (some ((.slice none 0 0),h)) fun O h=>
 aa (some ((.int .i64 0),h)) fun P h=>
 some (.ret,(aT 89 (up x [(4,O),(5,P),(31,f),(32,g),(33,j),(36,H),(37,I),(38,J),(39,K),(40,L)])),h)
 | .bool false=>
 aa (some ((x 0),h)) fun Q h=>
 aa (pu (nilCheckA Q) h) fun R h=>
 aa (pu (aL R 0) h) fun S h=>
 aa (ld1 S h) fun T h=>
 aa (some ((x 0),h)) fun U h=>
 aa (pu (nilCheckA U) h) fun V h=>
 aa (pu (aL V 3) h) fun W h=>
 aa (ld1 W h) fun X h=>
 aa (some ((x 1),h)) fun Y h=>
 aa (some ((x 9),h)) fun Z h=>
 aa (pu (aE prog .add 3 Y Z) h) fun a0 h=>
 aa (C 108 [T,X,a0] h) fun a1 h=>
 aa (some (a1,h)) fun M h=>
 aa (pu (extractA M 0) h) fun a2 h=>
 aa (pu (extractA M 1) h) fun a3 h=>
 aa (dj [(.int .u64 0),(.int .i64 0),(.int .i64 0),(.slice none 0 0)] h) fun d h=>
 aa (bX 4 d a2 h) fun _ h=>
 aa (some (a3,h)) fun N h=>
 aa (some ((x 9),h)) fun a4 h=>
 aa (pu (aE prog .eql 3 a4 (.int .i64 0)) h) fun a5 h=>
 (match a5 with
 | .bool true=>
 aa (pu (aL d 2) h) fun b2 h=>
 aa (ld1 b2 h) fun b3 h=>
 aa (some (b3,h)) fun b4 h=>
 aa (some (N,h)) fun k h=>
 aa (pu (unA .not k) h) fun l h=>
 aa (some (l,h)) fun a h=>
 aa (au (bC a==some false) (pu (aL d 0) h) h) fun m h=>
 aa (au (bC a==some false) (ld1 m h) h) fun n h=>
 aa (au (bC a==some false) (some ((x 0),h)) h) fun o h=>
 aa (au (bC a==some false) (pu (nilCheckA o) h) h) fun p h=>
 aa (au (bC a==some false) (pu (aL p 4) h) h) fun q h=>
 aa (au (bC a==some false) (ld1 q h) h) fun r h=>
 aa (au (bC a==some false) (pu (aE prog .neq 52 n r) h) h) fun s h=>
 aa (match a with | .bool t=>some (if t then (.bool true) else s,h)|_=>none) fun u h=>
 aa (some (u,h)) fun b h=>
 aa (au (bC b==some false) (pu (aL d 1) h) h) fun v h=>
 aa (au (bC b==some false) (ld1 v h) h) fun w h=>
 aa (au (bC b==some false) (some ((x 9),h)) h) fun y h=>
 aa (au (bC b==some false) (pu (aE prog .neq 3 w y) h) h) fun z h=>
 aa (match b with | .bool t=>some (if t then (.bool true) else z,h)|_=>none) fun A h=>
 aa (some (A,h)) fun c h=>
 aa (au (bC c==some false) (pu (aL d 2) h) h) fun B h=>
 aa (au (bC c==some false) (ld1 B h) h) fun D h=>
 aa (au (bC c==some false) (some (b4,h)) h) fun E h=>
 aa (au (bC c==some false) (pu (aE prog .neq 3 D E) h) h) fun F h=>
 aa (match c with | .bool t=>some (if t then (.bool true) else F,h)|_=>none) fun G h=>
 (match G with
 | .bool true=>
 aa (some ((.slice none 0 0),h)) fun O h=>
 aa (some ((.int .i64 0),h)) fun P h=>
 some (.ret,(aT 89 (up x [(4,O),(5,P),(8,b4),(10,d),(11,N),(31,f),(32,g),(33,j),(36,H),(37,I),(38,J),(39,K),(40,L),(41,M),(42,Q),(43,R),(44,S),(45,T),(46,U),(47,V),(48,W),(49,X),(50,Y),(51,Z),(52,a0),(53,a1),(54,a2),(55,a3),(56,a4),(57,a5),(58,b2),(59,b3),(60,k),(61,l),(62,a),(63,m),(64,n),(65,o),(66,p),(67,q),(68,r),(69,s),(70,u),(71,b),(72,v),(73,w),(74,y),(75,z),(76,A),(77,c),(78,B),(79,D),(80,E),(81,F),(82,G)])),h)
 | .bool false=>
 aa (some ((x 7),h)) fun a6 h=>
 aa (pu (aL d 3) h) fun a7 h=>
 aa (ld1 a7 h) fun a8 h=>
 aa (appendA 1 1 a6 a8 h) fun a9 h=>
 aa (some (a9,h)) fun b5 h=>
 aa (some ((x 9),h)) fun b0 h=>
 aa (pu (aE prog .add 3 b0 (.int .i64 1)) h) fun b1 h=>
 aa (some (b1,h)) fun b6 h=>
 some (.normal,(aT 89 (up x [(7,b5),(8,b4),(9,b6),(10,d),(11,N),(31,f),(32,g),(33,j),(34,b0),(35,b1),(36,H),(37,I),(38,J),(39,K),(40,L),(41,M),(42,Q),(43,R),(44,S),(45,T),(46,U),(47,V),(48,W),(49,X),(50,Y),(51,Z),(52,a0),(53,a1),(54,a2),(55,a3),(56,a4),(57,a5),(58,b2),(59,b3),(60,k),(61,l),(62,a),(63,m),(64,n),(65,o),(66,p),(67,q),(68,r),(69,s),(70,u),(71,b),(72,v),(73,w),(74,y),(75,z),(76,A),(77,c),(78,B),(79,D),(80,E),(81,F),(82,G),(83,a6),(84,a7),(85,a8),(86,a9)])),h)
 |_=>none)
 | .bool false=>
 aa (some (N,h)) fun k h=>
 aa (pu (unA .not k) h) fun l h=>
 aa (some (l,h)) fun a h=>
 aa (au (bC a==some false) (pu (aL d 0) h) h) fun m h=>
 aa (au (bC a==some false) (ld1 m h) h) fun n h=>
 aa (au (bC a==some false) (some ((x 0),h)) h) fun o h=>
 aa (au (bC a==some false) (pu (nilCheckA o) h) h) fun p h=>
 aa (au (bC a==some false) (pu (aL p 4) h) h) fun q h=>
 aa (au (bC a==some false) (ld1 q h) h) fun r h=>
 aa (au (bC a==some false) (pu (aE prog .neq 52 n r) h) h) fun s h=>
 aa (match a with | .bool t=>some (if t then (.bool true) else s,h)|_=>none) fun u h=>
 aa (some (u,h)) fun b h=>
 aa (au (bC b==some false) (pu (aL d 1) h) h) fun v h=>
 aa (au (bC b==some false) (ld1 v h) h) fun w h=>
 aa (au (bC b==some false) (some ((x 9),h)) h) fun y h=>
 aa (au (bC b==some false) (pu (aE prog .neq 3 w y) h) h) fun z h=>
 aa (match b with | .bool t=>some (if t then (.bool true) else z,h)|_=>none) fun A h=>
 aa (some (A,h)) fun c h=>
 aa (au (bC c==some false) (pu (aL d 2) h) h) fun B h=>
 aa (au (bC c==some false) (ld1 B h) h) fun D h=>
 aa (au (bC c==some false) (some ((x 8),h)) h) fun E h=>
 aa (au (bC c==some false) (pu (aE prog .neq 3 D E) h) h) fun F h=>
 aa (match c with | .bool t=>some (if t then (.bool true) else F,h)|_=>none) fun G h=>
 (match G with
 | .bool true=>
 aa (some ((.slice none 0 0),h)) fun O h=>
 aa (some ((.int .i64 0),h)) fun P h=>
 some (.ret,(aT 89 (up x [(4,O),(5,P),(10,d),(11,N),(31,f),(32,g),(33,j),(36,H),(37,I),(38,J),(39,K),(40,L),(41,M),(42,Q),(43,R),(44,S),(45,T),(46,U),(47,V),(48,W),(49,X),(50,Y),(51,Z),(52,a0),(53,a1),(54,a2),(55,a3),(56,a4),(57,a5),(60,k),(61,l),(62,a),(63,m),(64,n),(65,o),(66,p),(67,q),(68,r),(69,s),(70,u),(71,b),(72,v),(73,w),(74,y),(75,z),(76,A),(77,c),(78,B),(79,D),(80,E),(81,F),(82,G)])),h)
 | .bool false=>
 aa (some ((x 7),h)) fun a6 h=>
 aa (pu (aL d 3) h) fun a7 h=>
 aa (ld1 a7 h) fun a8 h=>
 aa (appendA 1 1 a6 a8 h) fun a9 h=>
 aa (some (a9,h)) fun b5 h=>
 aa (some ((x 9),h)) fun b0 h=>
 aa (pu (aE prog .add 3 b0 (.int .i64 1)) h) fun b1 h=>
 aa (some (b1,h)) fun b6 h=>
 some (.normal,(aT 89 (up x [(7,b5),(9,b6),(10,d),(11,N),(31,f),(32,g),(33,j),(34,b0),(35,b1),(36,H),(37,I),(38,J),(39,K),(40,L),(41,M),(42,Q),(43,R),(44,S),(45,T),(46,U),(47,V),(48,W),(49,X),(50,Y),(51,Z),(52,a0),(53,a1),(54,a2),(55,a3),(56,a4),(57,a5),(60,k),(61,l),(62,a),(63,m),(64,n),(65,o),(66,p),(67,q),(68,r),(69,s),(70,u),(71,b),(72,v),(73,w),(74,y),(75,z),(76,A),(77,c),(78,B),(79,D),(80,E),(81,F),(82,G),(83,a6),(84,a7),(85,a8),(86,a9)])),h)
 |_=>none)
 |_=>none)
 |_=>none)
 | .bool false=>
 some (.exit 0,(aT 89 (up x [(31,f),(32,g),(33,j)])),h)
 |_=>none)
def t109_eq:aY prog C f109 [x0,x1] h=t109 C x0 x1 h:=
 lkT (by kernel_rfl) (by kernel_rfl)
def AH:k109_7 C (aT 89 x) h=rJ C x h:=
 bI (T:=rJ C) (fun x h=>by kernel_rfl) x h
def pU:codeA prog C (al f109 [1,1,1,1,1,0,1,0,0]) (aT 89 x) h=fH C x h:=
 aF (T:=fH C) (fun x h=>by kernel_rfl) x h
def k114_6 (C:ah) (e:aQ) (h:ae):ba:=codeK prog C (al f114 [1,1,1,1]) e h (resultsA prog f114.results.toList) (resultsA prog f114.results.toList) (fun _ _ _=>none)
def b114_8 (C:ah) (i:Nat) (e:aQ) (h:ae):ba:=if i=0 then (k114_6 C) e h else (fun _ _ _=>none) i e h
def k114_16 (C:ah) (e:aQ) (h:ae):ba:=codeK prog C (al f114 [1,1,1,1,1,1,1,1,1]) e h (resultsA prog f114.results.toList) (resultsA prog f114.results.toList) (fun _ _ _=>none)
def wu (C:ah) (i:Nat) (e:aQ) (h:ae):ba:=if i=2 then (k114_16 C) e h else (fun _ _ _=>none) i e h
def t114 (C:ah) (x0 x1:Vl) (h:ae):ba:=
 aa (some ((.slice none 0 0),h)) fun j h=>
 aa (some ((.int .i64 0),h)) fun k h=>
 aa (some (x0,h)) fun b h=>
 aa (C 132 [b] h) fun c h=>
 aa (some (c,h)) fun a h=>
 aa (some (a,h)) fun d h=>
 aa (pu (aE prog .neq 25 d (.int .i64 0)) h) fun f h=>
 (match f with
 | .bool true=>
 aa (some (a,h)) fun l h=>
 aa (some ((.slice none 0 0),h)) fun m h=>
 aa (some (l,h)) fun n h=>
 some (.tuple #[m,n],h)
 | .bool false=>
 aa (some ((.int .i64 0),h)) fun o h=>
 aa (some ((.bool false),h)) fun p h=>
 aa (some (x1,h)) fun g h=>
 aa (pu (cI g) h) fun q h=>
 aa (some ((.int .i64 0),h)) fun r h=>
 fb (iter (codeA prog C (al f114 [1,1,1,0,1,0,0])) aK (aT 151 (up (bs [x0,x1]) [(4,j),(5,k),(6,a),(7,o),(8,p),(21,b),(22,c),(23,d),(24,f),(26,g),(27,q),(28,r)])) h) (resultsA prog f114.results.toList) (b114_8 C)
 |_=>none)
def rW (C:ah) (x:Nat->Vl) (h:ae):ba:=
 aa (some ((x 8),h)) fun d h=>
 aa (some (d,h)) fun a h=>
 aa (au (bC a==some false) (some ((x 0),h)) h) fun f h=>
 aa (au (bC a==some false) (pu (nilCheckA f) h) h) fun g h=>
 aa (au (bC a==some false) (pu (aL g 5) h) h) fun j h=>
 aa (au (bC a==some false) (ld1 j h) h) fun k h=>
 aa (au (bC a==some false) (pu (aE prog .eql 52 k (.int .u64 18446744073709551615)) h) h) fun l h=>
 aa (match a with | .bool t=>some (if t then (.bool true) else l,h)|_=>none) fun m h=>
 (match m with
 | .bool true=>
 aa (some ((.slice none 0 0),h)) fun P h=>
 aa (some ((.int .i64 8),h)) fun Q h=>
 some (.tuple #[P,Q],h)
 | .bool false=>
 aa (some ((x 0),h)) fun n h=>
 aa (pu (nilCheckA n) h) fun o h=>
 aa (pu (aL o 5) h) fun p h=>
 aa (ld1 p h) fun q h=>
 aa (pu (aE prog .add 52 q (.int .u64 1)) h) fun r h=>
 aa (some ((.int .i64 0),h)) fun R h=>
 aa (some ((.int .i64 0),h)) fun S h=>
 aa (some (r,h)) fun E h=>
 aa (some ((x 0),h)) fun s h=>
 aa (pu (nilCheckA s) h) fun u h=>
 aa (pu (aL u 2) h) fun v h=>
 aa (ld1 v h) fun w h=>
 aa (pu (aE prog .geq 3 w (.int .i64 0)) h) fun y h=>
 (match y with
 | .bool true=>
 aa (some ((x 0),h)) fun F h=>
 aa (pu (nilCheckA F) h) fun G h=>
 aa (pu (aL G 3) h) fun H h=>
 aa (ld1 H h) fun I h=>
 aa (pu (aE prog .sub 3 (.int .i64 1) I) h) fun J h=>
 aa (some ((x 0),h)) fun K h=>
 aa (pu (nilCheckA K) h) fun L h=>
 aa (pu (aL L 2) h) fun M h=>
 aa (ld1 M h) fun N h=>
 aa (pu (aE prog .sub 3 (.int .i64 1) N) h) fun O h=>
 aa (some (J,h)) fun T h=>
 aa (some (O,h)) fun U h=>
 aa (fE 1 (.int .i64 0) 0 [] h) fun b h=>
 aa (some ((.int .i64 0),h)) fun z h=>
 aa (some (b,h)) fun A h=>
 aa (some ((x 1),h)) fun c h=>
 aa (pu (cI c) h) fun B h=>
 aa (some ((.int .i64 0),h)) fun D h=>
 fb (iter (codeA prog C (al f114 [1,1,1,1,1,1,1,1,0,1,0,0])) aK (aT 151 (up x [(11,T),(12,U),(13,E),(14,z),(15,A),(52,d),(53,a),(54,f),(55,g),(56,j),(57,k),(58,l),(59,m),(60,n),(61,o),(62,p),(63,q),(64,r),(65,s),(66,u),(67,v),(68,w),(69,y),(70,F),(71,G),(72,H),(73,I),(74,J),(75,K),(76,L),(77,M),(78,N),(79,O),(80,b),(81,c),(82,B),(83,D)])) h) (resultsA prog f114.results.toList) (wu C)
 | .bool false=>
 aa (fE 1 (.int .i64 0) 0 [] h) fun b h=>
 aa (some ((.int .i64 0),h)) fun z h=>
 aa (some (b,h)) fun A h=>
 aa (some ((x 1),h)) fun c h=>
 aa (pu (cI c) h) fun B h=>
 aa (some ((.int .i64 0),h)) fun D h=>
 fb (iter (codeA prog C (al f114 [1,1,1,1,1,1,1,1,0,1,0,0])) aK (aT 151 (up x [(11,R),(12,S),(13,E),(14,z),(15,A),(52,d),(53,a),(54,f),(55,g),(56,j),(57,k),(58,l),(59,m),(60,n),(61,o),(62,p),(63,q),(64,r),(65,s),(66,u),(67,v),(68,w),(69,y),(80,b),(81,c),(82,B),(83,D)])) h) (resultsA prog f114.results.toList) (wu C)
 |_=>none)
 |_=>none)
def hU (C:ah) (x:Nat->Vl) (h:ae):Option (Ex×aQ×ae):=
 aa (pu (aE prog .lss 3 (x 28) (x 27)) h) fun b h=>
 (match b with
 | .bool true=>
 aa (pu (idxS 1 (x 26) (x 28)) h) fun d h=>
 aa (ld1 d h) fun f h=>
 aa (some (f,h)) fun c h=>
 aa (some (c,h)) fun g h=>
 aa (pu (cI g) h) fun j h=>
 aa (pu (aE prog .gtr 3 j (.int .i64 20000)) h) fun k h=>
 (match k with
 | .bool true=>
 aa (some ((.slice none 0 0),h)) fun F h=>
 aa (some ((.int .i64 3),h)) fun G h=>
 some (.ret,(aT 151 (up x [(4,F),(5,G),(10,c),(29,b),(30,d),(31,f),(32,g),(33,j),(34,k)])),h)
 | .bool false=>
 aa (some ((x 7),h)) fun l h=>
 aa (some (c,h)) fun m h=>
 aa (pu (cI m) h) fun n h=>
 aa (C 73 [n] h) fun o h=>
 aa (pu (aE prog .add 3 l o) h) fun p h=>
 aa (pu (minmax false p [(.int .i64 4096)]) h) fun q h=>
 aa (some (q,h)) fun r h=>
 aa (some ((x 8),h)) fun s h=>
 aa (some (s,h)) fun a h=>
 aa (au (bC a==some false) (some (r,h)) h) fun u h=>
 aa (au (bC a==some false) (some ((x 0),h)) h) fun v h=>
 aa (au (bC a==some false) (pu (nilCheckA v) h) h) fun w h=>
 aa (au (bC a==some false) (pu (aL w 0) h) h) fun y h=>
 aa (au (bC a==some false) (ld1 y h) h) fun z h=>
 aa (au (bC a==some false) (C 107 [z] h) h) fun A h=>
 aa (au (bC a==some false) (pu (aE prog .gtr 3 u A) h) h) fun B h=>
 aa (match a with | .bool t=>some (if t then (.bool true) else B,h)|_=>none) fun D h=>
 aa (some (D,h)) fun H h=>
 aa (pu (aE prog .add 3 (x 28) (.int .i64 1)) h) fun E h=>
 aa (some (E,h)) fun I h=>
 some (.normal,(aT 151 (up x [(7,r),(8,H),(10,c),(28,I),(29,b),(30,d),(31,f),(32,g),(33,j),(34,k),(35,l),(36,m),(37,n),(38,o),(39,p),(40,q),(41,s),(42,a),(43,u),(44,v),(45,w),(46,y),(47,z),(48,A),(49,B),(50,D),(51,E)])),h)
 |_=>none)
 | .bool false=>
 some (.exit 0,(aT 151 (up x [(29,b)])),h)
 |_=>none)
def lF (C:ah) (x:Nat->Vl) (h:ae):ba:=
 aa (C 116 [(.int .i64 124)] h) fun j h=>
 aa (some (j,h)) fun a h=>
 aa (some (a,h)) fun k h=>
 aa (C 177 [k,(.int .u32 1398034252)] h) fun Z h=>
 aa (some (a,h)) fun l h=>
 aa (some ((x 13),h)) fun m h=>
 aa (C 133 [l,m] h) fun a0 h=>
 aa (some (a,h)) fun n h=>
 aa (some ((x 11),h)) fun o h=>
 aa (iD .u8 o h) fun p h=>
 aa (C 117 [n,p] h) fun a1 h=>
 let g34_0:=h
 aa (some ((x 0),g34_0)) fun q g34_1=>
 aa (pu (nilCheckA q) g34_1) fun r g34_2=>
 aa (pu (aL r 0) g34_2) fun d g34_3=>
 aa (ld1 d g34_3) fun f g34_4=>
 aa (some ((x 12),g34_4)) fun s g34_5=>
 aa (some (a,g34_5)) fun t g34_6=>
 aa (C 179 [t] g34_6) fun u g34_7=>
 aa (C 178 [f,s,u] g34_7) fun v g34_8=>
 aa (some (v,g34_8)) fun g g34_9=>
 (match (fP true (ld1 d g34_7) f&&true) with
 |true=>
 let h:=g34_9
 aa (some (g,h)) fun w h=>
 aa (pu (aE prog .neq 25 w (.int .i64 0)) h) fun y h=>
 (match y with
 | .bool true=>
 aa (some (g,h)) fun z h=>
 aa (some ((.slice none 0 0),h)) fun b h=>
 aa (some (z,h)) fun c h=>
 some (.tuple #[b,c],h)
 | .bool false=>
 aa (some ((x 0),h)) fun A h=>
 aa (some ((x 0),h)) fun B h=>
 aa (some ((x 0),h)) fun D h=>
 aa (some ((x 0),h)) fun E h=>
 aa (some ((x 0),h)) fun F h=>
 aa (some ((x 0),h)) fun G h=>
 aa (some ((x 12),h)) fun H h=>
 aa (some ((x 11),h)) fun I h=>
 aa (some ((x 13),h)) fun J h=>
 aa (some ((x 13),h)) fun K h=>
 aa (some ((x 14),h)) fun L h=>
 aa (pu (nilCheckA A) h) fun M h=>
 aa (pu (aL M 2) h) fun N h=>
 aa (bX 1 N H h) fun _ h=>
 aa (pu (nilCheckA B) h) fun O h=>
 aa (pu (aL O 3) h) fun P h=>
 aa (bX 1 P I h) fun _ h=>
 aa (pu (nilCheckA D) h) fun Q h=>
 aa (pu (aL Q 4) h) fun R h=>
 aa (bX 1 R J h) fun _ h=>
 aa (pu (nilCheckA E) h) fun S h=>
 aa (pu (aL S 5) h) fun T h=>
 aa (bX 1 T K h) fun _ h=>
 aa (pu (nilCheckA F) h) fun U h=>
 aa (pu (aL U 6) h) fun V h=>
 aa (bX 1 V (.bool true) h) fun _ h=>
 aa (pu (nilCheckA G) h) fun W h=>
 aa (pu (aL W 7) h) fun X h=>
 aa (bX 1 X L h) fun _ h=>
 aa (some ((x 15),h)) fun Y h=>
 aa (some (Y,h)) fun b h=>
 aa (some ((.int .i64 0),h)) fun c h=>
 some (.tuple #[b,c],h)
 |_=>none)
 |false=>none)
def eA (C:ah) (x:Nat->Vl) (h:ae):Option (Ex×aQ×ae):=
 aa (pu (aE prog .lss 3 (x 83) (x 82)) h) fun a h=>
 (match a with
 | .bool true=>
 aa (pu (idxS 1 (x 81) (x 83)) h) fun d h=>
 aa (ld1 d h) fun f h=>
 aa (some (f,h)) fun b h=>
 aa (some ((x 0),h)) fun g h=>
 aa (some ((x 11),h)) fun j h=>
 aa (some ((x 13),h)) fun k h=>
 aa (some ((x 14),h)) fun l h=>
 aa (some (b,h)) fun m h=>
 aa (C 176 [g,j,k,l,m] h) fun n h=>
 aa (some (n,h)) fun c h=>
 aa (some (c,h)) fun o h=>
 aa (pu (aE prog .neq 25 o (.int .i64 0)) h) fun p h=>
 (match p with
 | .bool true=>
 aa (some (c,h)) fun q h=>
 aa (some ((.slice none 0 0),h)) fun D h=>
 aa (some (q,h)) fun E h=>
 some (.ret,(aT 151 (up x [(4,D),(5,E),(17,b),(18,c),(84,a),(85,d),(86,f),(87,g),(88,j),(89,k),(90,l),(91,m),(92,n),(93,o),(94,p),(95,q)])),h)
 | .bool false=>
 aa (some ((x 15),h)) fun r h=>
 aa (some ((x 14),h)) fun s h=>
 aa (fE 1 (.int .i64 0) 1 [(0,s)] h) fun t h=>
 aa (appendA 1 8 r t h) fun u h=>
 aa (some (u,h)) fun F h=>
 aa (some ((x 14),h)) fun v h=>
 aa (some (b,h)) fun w h=>
 aa (pu (cI w) h) fun y h=>
 aa (C 73 [y] h) fun z h=>
 aa (pu (aE prog .add 3 v z) h) fun A h=>
 aa (some (A,h)) fun G h=>
 aa (pu (aE prog .add 3 (x 83) (.int .i64 1)) h) fun B h=>
 aa (some (B,h)) fun H h=>
 some (.normal,(aT 151 (up x [(14,G),(15,F),(17,b),(18,c),(83,H),(84,a),(85,d),(86,f),(87,g),(88,j),(89,k),(90,l),(91,m),(92,n),(93,o),(94,p),(96,r),(97,s),(98,t),(99,u),(100,v),(101,w),(102,y),(103,z),(104,A),(105,B)])),h)
 |_=>none)
 | .bool false=>
 some (.exit 2,(aT 151 (up x [(84,a)])),h)
 |_=>none)
def t114_eq:aY prog C f114 [x0,x1] h=t114 C x0 x1 h:=
 lkT (by kernel_rfl) (by kernel_rfl)
def Ah:k114_6 C (aT 151 x) h=rW C x h:=
 bI (T:=rW C) (fun x h=>by kernel_rfl) x h
def su:codeA prog C (al f114 [1,1,1,0,1,0,0]) (aT 151 x) h=hU C x h:=
 aF (T:=hU C) (fun x h=>by kernel_rfl) x h
def xu:k114_16 C (aT 151 x) h=lF C x h:=
 bI (T:=lF C) (fun x h=>by kernel_rfl) x h
def mM:codeA prog C (al f114 [1,1,1,1,1,1,1,1,0,1,0,0]) (aT 151 x) h=eA C x h:=
 aF (T:=eA C) (fun x h=>by kernel_rfl) x h
def t117 (C:ah) (x0 x1:Vl) (h:ae):ba:=
 aa (some (x0,h)) fun a h=>
 aa (some (x1,h)) fun b h=>
 aa (iD .u64 b h) fun c h=>
 aa (C 180 [a,c,(.int .i64 1)] h) fun d h=>
 some (.tuple #[],h)
def t117_eq:aY prog C f117 [x0,x1] h=t117 C x0 x1 h:=
 lkT (by kernel_rfl) (by kernel_rfl)
def t118 (C:ah) (x0 x1:Vl) (h:ae):ba:=
 aa (some (x0,h)) fun a h=>
 aa (some (x1,h)) fun b h=>
 aa (iD .u64 b h) fun c h=>
 aa (C 180 [a,c,(.int .i64 2)] h) fun d h=>
 some (.tuple #[],h)
def t118_eq:aY prog C f118 [x0,x1] h=t118 C x0 x1 h:=
 lkT (by kernel_rfl) (by kernel_rfl)
def t128 (C:ah) (x0 x1:Vl) (h:ae):ba:=
 aa (some ((.slice none 0 0),h)) fun w h=>
 aa (some ((.int .i64 0),h)) fun y h=>
 aa (some (x0,h)) fun f h=>
 aa (C 132 [f] h) fun g h=>
 aa (some (g,h)) fun c h=>
 aa (some (c,h)) fun j h=>
 aa (pu (aE prog .neq 25 j (.int .i64 0)) h) fun k h=>
 (match k with
 | .bool true=>
 aa (some (c,h)) fun l h=>
 aa (some ((.slice none 0 0),h)) fun a h=>
 aa (some (l,h)) fun b h=>
 some (.tuple #[a,b],h)
 | .bool false=>
 aa (some (x0,h)) fun m h=>
 aa (some (x1,h)) fun n h=>
 aa (C 109 [m,n] h) fun o h=>
 aa (some (o,h)) fun d h=>
 aa (pu (extractA d 0) h) fun p h=>
 aa (pu (extractA d 1) h) fun q h=>
 aa (some (p,h)) fun r h=>
 aa (some (q,h)) fun s h=>
 aa (some (s,h)) fun t h=>
 aa (pu (aE prog .eql 3 t (.int .i64 0)) h) fun u h=>
 (match u with
 | .bool true=>
 aa (some ((.slice none 0 0),h)) fun a h=>
 aa (some ((.int .i64 6),h)) fun b h=>
 some (.tuple #[a,b],h)
 | .bool false=>
 aa (some (r,h)) fun v h=>
 aa (some (v,h)) fun a h=>
 aa (some ((.int .i64 0),h)) fun b h=>
 some (.tuple #[a,b],h)
 |_=>none)
 |_=>none)
def Co:aY prog C f128 [x0,x1] h=t128 C x0 x1 h:=
 lkT (by kernel_rfl) (by kernel_rfl)
def t133 (C:ah) (x0 x1:Vl) (h:ae):ba:=
 aa (some (x0,h)) fun a h=>
 aa (some (x1,h)) fun b h=>
 aa (C 180 [a,b,(.int .i64 8)] h) fun c h=>
 some (.tuple #[],h)
def t133_eq:aY prog C f133 [x0,x1] h=t133 C x0 x1 h:=
 lkT (by kernel_rfl) (by kernel_rfl)
def k176_2 (C:ah) (e:aQ) (h:ae):ba:=codeK prog C (al f176 [1,1,1]) e h (resultsA prog f176.results.toList) (resultsA prog f176.results.toList) (fun _ _ _=>none)
def b176_4 (C:ah) (i:Nat) (e:aQ) (h:ae):ba:=if i=0 then (k176_2 C) e h else (fun _ _ _=>none) i e h
def t176 (C:ah) (x0 x1 x2 x3 x4:Vl) (h:ae):ba:=
 aa (some ((.int .i64 0),h)) fun f h=>
 aa (some (x4,h)) fun a h=>
 aa (pu (cI a) h) fun b h=>
 aa (C 73 [b] h) fun c h=>
 aa (some (c,h)) fun d h=>
 aa (some (d,h)) fun g h=>
 aa (some ((.int .i64 0),h)) fun j h=>
 fb (iter (codeA prog C (al f176 [1,1,0,1,0,0])) aK (aT 77 (up (bs [x0,x1,x2,x3,x4]) [(10,f),(11,d),(16,a),(17,b),(18,c),(19,g),(20,j)])) h) (resultsA prog f176.results.toList) (b176_4 C)
def rB (C:ah) (x:Nat->Vl) (h:ae):ba:=
 aa (some ((.int .i64 0),h)) fun a h=>
 some (a,h)
def iV (C:ah) (x:Nat->Vl) (h:ae):Option (Ex×aQ×ae):=
 aa (pu (aE prog .lss 3 (x 20) (x 19)) h) fun f h=>
 (match f with
 | .bool true=>
 aa (some ((x 20),h)) fun j h=>
 aa (some (j,h)) fun b h=>
 aa (some ((x 4),h)) fun k h=>
 aa (some (b,h)) fun l h=>
 aa (pu (aE prog .mul 3 l (.int .i64 106)) h) fun m h=>
 aa (some ((x 4),h)) fun n h=>
 aa (pu (cI n) h) fun o h=>
 aa (some (b,h)) fun p h=>
 aa (pu (aE prog .add 3 p (.int .i64 1)) h) fun q h=>
 aa (pu (aE prog .mul 3 q (.int .i64 106)) h) fun r h=>
 aa (pu (minmax false o [r]) h) fun s h=>
 aa (pu (slR 1 k (some m) (some s) none) h) fun t h=>
 aa (some (t,h)) fun u h=>
 aa (C 116 [(.int .i64 124)] h) fun v h=>
 aa (some (v,h)) fun a h=>
 aa (some (a,h)) fun w h=>
 aa (some ((x 2),h)) fun y h=>
 aa (C 133 [w,y] h) fun a6 h=>
 aa (some (a,h)) fun z h=>
 aa (some ((x 3),h)) fun A h=>
 aa (some (b,h)) fun B h=>
 aa (pu (aE prog .add 3 A B) h) fun D h=>
 aa (iD .u32 D h) fun E h=>
 aa (C 177 [z,E] h) fun a7 h=>
 aa (some (a,h)) fun F h=>
 aa (some (b,h)) fun G h=>
 aa (iD .u16 G h) fun H h=>
 aa (C 118 [F,H] h) fun a8 h=>
 aa (some (a,h)) fun I h=>
 aa (some ((x 11),h)) fun J h=>
 aa (iD .u16 J h) fun K h=>
 aa (C 118 [I,K] h) fun a9 h=>
 aa (some (a,h)) fun L h=>
 aa (some (u,h)) fun M h=>
 aa (C 119 [L,M] h) fun b0 h=>
 let g19_0:=h
 aa (some ((x 0),g19_0)) fun N g19_1=>
 aa (pu (nilCheckA N) g19_1) fun O g19_2=>
 aa (pu (aL O 0) g19_2) fun c g19_3=>
 aa (ld1 c g19_3) fun d g19_4=>
 aa (some ((x 1),g19_4)) fun P g19_5=>
 aa (some ((x 0),g19_5)) fun Q g19_6=>
 aa (pu (nilCheckA Q) g19_6) fun R g19_7=>
 aa (pu (aL R 0) g19_7) fun S g19_8=>
 aa (ld1 S g19_8) fun T g19_9=>
 aa (C 107 [T] g19_9) fun U g19_10=>
 aa (pu (aE prog .mul 3 P U) g19_10) fun V g19_11=>
 aa (pu (aE prog .add 3 (.int .i64 2) V) g19_11) fun W g19_12=>
 aa (some ((x 3),g19_12)) fun X g19_13=>
 aa (pu (aE prog .add 3 W X) g19_13) fun Y g19_14=>
 aa (some (b,g19_14)) fun Z g19_15=>
 aa (pu (aE prog .add 3 Y Z) g19_15) fun a0 g19_16=>
 aa (some (a,g19_16)) fun a1 g19_17=>
 aa (C 179 [a1] g19_17) fun a2 g19_18=>
 aa (C 178 [d,a0,a2] g19_18) fun a3 g19_19=>
 aa (some (a3,g19_19)) fun g g19_20=>
 (match (fP true (ld1 c g19_10) d&&(fP true (ld1 c g19_18) d&&true)) with
 |true=>
 let h:=g19_20
 aa (some (g,h)) fun a4 h=>
 aa (pu (aE prog .neq 25 a4 (.int .i64 0)) h) fun a5 h=>
 (match a5 with
 | .bool true=>
 aa (some (g,h)) fun b1 h=>
 aa (some (b1,h)) fun b3 h=>
 some (.ret,(aT 77 (up x [(10,b3),(12,b),(13,u),(14,a),(15,g),(21,f),(22,j),(23,k),(24,l),(25,m),(26,n),(27,o),(28,p),(29,q),(30,r),(31,s),(32,t),(33,v),(34,w),(35,y),(36,a6),(37,z),(38,A),(39,B),(40,D),(41,E),(42,a7),(43,F),(44,G),(45,H),(46,a8),(47,I),(48,J),(49,K),(50,a9),(51,L),(52,M),(53,b0),(54,N),(55,O),(56,c),(57,d),(58,P),(59,Q),(60,R),(61,S),(62,T),(63,U),(64,V),(65,W),(66,X),(67,Y),(68,Z),(69,a0),(70,a1),(71,a2),(72,a3),(73,a4),(74,a5),(75,b1)])),h)
 | .bool false=>
 aa (pu (aE prog .add 3 (x 20) (.int .i64 1)) h) fun b2 h=>
 aa (some (b2,h)) fun b4 h=>
 some (.normal,(aT 77 (up x [(12,b),(13,u),(14,a),(15,g),(20,b4),(21,f),(22,j),(23,k),(24,l),(25,m),(26,n),(27,o),(28,p),(29,q),(30,r),(31,s),(32,t),(33,v),(34,w),(35,y),(36,a6),(37,z),(38,A),(39,B),(40,D),(41,E),(42,a7),(43,F),(44,G),(45,H),(46,a8),(47,I),(48,J),(49,K),(50,a9),(51,L),(52,M),(53,b0),(54,N),(55,O),(56,c),(57,d),(58,P),(59,Q),(60,R),(61,S),(62,T),(63,U),(64,V),(65,W),(66,X),(67,Y),(68,Z),(69,a0),(70,a1),(71,a2),(72,a3),(73,a4),(74,a5),(76,b2)])),h)
 |_=>none)
 |false=>none)
 | .bool false=>
 some (.exit 0,(aT 77 (up x [(21,f)])),h)
 |_=>none)
def t176_eq:aY prog C f176 [x0,x1,x2,x3,x4] h=t176 C x0 x1 x2 x3 x4 h:=
 lkT (by kernel_rfl) (by kernel_rfl)
def zY:k176_2 C (aT 77 x) h=rB C x h:=
 bI (T:=rB C) (fun x h=>by kernel_rfl) x h
def tJ:codeA prog C (al f176 [1,1,0,1,0,0]) (aT 77 x) h=iV C x h:=
 aF (T:=iV C) (fun x h=>by kernel_rfl) x h
def t177 (C:ah) (x0 x1:Vl) (h:ae):ba:=
 aa (some (x0,h)) fun a h=>
 aa (some (x1,h)) fun b h=>
 aa (iD .u64 b h) fun c h=>
 aa (C 180 [a,c,(.int .i64 4)] h) fun d h=>
 some (.tuple #[],h)
def t177_eq:aY prog C f177 [x0,x1] h=t177 C x0 x1 h:=
 lkT (by kernel_rfl) (by kernel_rfl)
def t178 (C:ah) (x0 x1 x2:Vl) (h:ae):ba:=
 aa (some ((.int .i64 0),h)) fun b1 h=>
 aa (some (x0,h)) fun d h=>
 aa (some (x1,h)) fun f h=>
 aa (C 105 [d,f] h) fun g h=>
 aa (some (g,h)) fun b h=>
 aa (some (b,h)) fun j h=>
 aa (pu (aE prog .neq 25 j (.int .i64 0)) h) fun k h=>
 (match k with
 | .bool true=>
 aa (some (b,h)) fun l h=>
 aa (some (l,h)) fun a h=>
 some (a,h)
 | .bool false=>
 aa (some (x2,h)) fun m h=>
 aa (pu (cI m) h) fun n h=>
 aa (pu (aE prog .neq 3 n (.int .i64 128)) h) fun o h=>
 (match o with
 | .bool true=>
 aa (some ((.int .i64 10),h)) fun a h=>
 some (a,h)
 | .bool false=>
 aa (some (x0,h)) fun p h=>
 aa (pu (nilCheckA p) h) fun q h=>
 aa (pu (aL q 2) h) fun r h=>
 aa (ld1 r h) fun s h=>
 aa (pu (unA .not s) h) fun t h=>
 (match t with
 | .bool true=>
 aa (some (x0,h)) fun u h=>
 aa (pu (nilCheckA u) h) fun v h=>
 aa (pu (aL v 0) h) fun w h=>
 aa (ld1 w h) fun y h=>
 aa (some (x1,h)) fun z h=>
 aa (pu (idxS 128 y z) h) fun A h=>
 aa (pu (sliceArr 128 1 A none none none) h) fun B h=>
 aa (some (x2,h)) fun D h=>
 aa (iv 1 B D h) fun b2 h=>
 aa (some ((.int .i64 0),h)) fun a h=>
 some (a,h)
 | .bool false=>
 aa (some (x0,h)) fun E h=>
 aa (pu (nilCheckA E) h) fun F h=>
 aa (pu (aL F 3) h) fun G h=>
 aa (ld1 G h) fun H h=>
 aa (pu (aE prog .eql 3 H (.int .i64 0)) h) fun I h=>
 (match I with
 | .bool true=>
 aa (some (x0,h)) fun J h=>
 aa (pu (nilCheckA J) h) fun K h=>
 aa (pu (aL K 0) h) fun L h=>
 aa (ld1 L h) fun M h=>
 aa (some (x1,h)) fun N h=>
 aa (pu (idxS 128 M N) h) fun O h=>
 aa (pu (sliceArr 128 1 O none none none) h) fun P h=>
 aa (some (x2,h)) fun Q h=>
 aa (some (x0,h)) fun R h=>
 aa (pu (nilCheckA R) h) fun S h=>
 aa (pu (aL S 4) h) fun T h=>
 aa (ld1 T h) fun U h=>
 aa (pu (slR 1 Q none (some U) none) h) fun V h=>
 aa (iv 1 P V h) fun b3 h=>
 aa (some (x0,h)) fun W h=>
 aa (C 49 [W] h) fun b4 h=>
 aa (some ((.int .i64 9),h)) fun a h=>
 some (a,h)
 | .bool false=>
 aa (some (x0,h)) fun c h=>
 aa (pu (nilCheckA c) h) fun X h=>
 aa (pu (aL X 3) h) fun Y h=>
 aa (ld1 Y h) fun Z h=>
 aa (pu (aE prog .sub 3 Z (.int .i64 1)) h) fun a0 h=>
 aa (pu (nilCheckA c) h) fun a1 h=>
 aa (pu (aL a1 3) h) fun a2 h=>
 aa (bX 1 a2 a0 h) fun _ h=>
 aa (some (x0,h)) fun a3 h=>
 aa (pu (nilCheckA a3) h) fun a4 h=>
 aa (pu (aL a4 0) h) fun a5 h=>
 aa (ld1 a5 h) fun a6 h=>
 aa (some (x1,h)) fun a7 h=>
 aa (pu (idxS 128 a6 a7) h) fun a8 h=>
 aa (pu (sliceArr 128 1 a8 none none none) h) fun a9 h=>
 aa (some (x2,h)) fun b0 h=>
 aa (iv 1 a9 b0 h) fun b5 h=>
 aa (some ((.int .i64 0),h)) fun a h=>
 some (a,h)
 |_=>none)
 |_=>none)
 |_=>none)
 |_=>none)
def t178_eq:aY prog C f178 [x0,x1,x2] h=t178 C x0 x1 x2 h:=
 lkT (by kernel_rfl) (by kernel_rfl)
def b180_2 (C:ah) (i:Nat) (e:aQ) (h:ae):ba:=if i=0 then (resultsA prog f180.results.toList) e h else (fun _ _ _=>none) i e h
def t180 (C:ah) (x0 x1 x2:Vl) (h:ae):ba:=
 aa (some (x0,h)) fun a h=>
 aa (some (x2,h)) fun b h=>
 aa (C 181 [a,b] h) fun c h=>
 (match c with
 | .bool true=>
 aa (some (x2,h)) fun d h=>
 aa (pu (aE prog .sub 3 d (.int .i64 1)) h) fun f h=>
 aa (some (f,h)) fun g h=>
 fb (iter (codeA prog C (al f180 [1,0,1,0,0])) aK (aT 30 (up (bs [x0,x1,x2]) [(6,g),(7,a),(8,b),(9,c),(10,d),(11,f)])) h) (resultsA prog f180.results.toList) (b180_2 C)
 | .bool false=>
 some (.tuple #[],h)
 |_=>none)
def mw (C:ah) (x:Nat->Vl) (h:ae):Option (Ex×aQ×ae):=
 aa (some ((x 6),h)) fun a h=>
 aa (pu (aE prog .geq 3 a (.int .i64 0)) h) fun b h=>
 (match b with
 | .bool true=>
 aa (some ((x 0),h)) fun c h=>
 aa (some ((x 0),h)) fun d h=>
 aa (pu (nilCheckA d) h) fun f h=>
 aa (pu (aL f 2) h) fun g h=>
 aa (ld1 g h) fun j h=>
 aa (some ((x 1),h)) fun k h=>
 aa (some ((x 6),h)) fun l h=>
 aa (pu (aE prog .mul 3 (.int .i64 8) l) h) fun m h=>
 aa (pu (aE prog .shr 52 k m) h) fun n h=>
 aa (iD .u8 n h) fun o h=>
 aa (fE 1 (.int .u8 0) 1 [(0,o)] h) fun p h=>
 aa (appendA 1 1 j p h) fun q h=>
 aa (pu (nilCheckA c) h) fun r h=>
 aa (pu (aL r 2) h) fun s h=>
 aa (bX 1 s q h) fun _ h=>
 aa (some ((x 6),h)) fun t h=>
 aa (pu (aE prog .sub 3 t (.int .i64 1)) h) fun u h=>
 aa (some (u,h)) fun v h=>
 some (.normal,(aT 30 (up x [(6,v),(12,a),(13,b),(14,t),(15,u),(16,c),(17,d),(18,f),(19,g),(20,j),(21,k),(22,l),(23,m),(24,n),(25,o),(26,p),(27,q),(28,r),(29,s)])),h)
 | .bool false=>
 some (.exit 0,(aT 30 (up x [(12,a),(13,b)])),h)
 |_=>none)
def t180_eq:aY prog C f180 [x0,x1,x2] h=t180 C x0 x1 x2 h:=
 lkT (by kernel_rfl) (by kernel_rfl)
def ui:codeA prog C (al f180 [1,0,1,0,0]) (aT 30 x) h=mw C x h:=
 aF (T:=mw C) (fun x h=>by kernel_rfl) x h
end
abbrev XL:List (FuncId×(List Vl->ae->ba)) := [(12,s12),(208,s208),(187,s187)]
abbrev XX:ah:=jc XL
def XX_sound:aZ prog XX:=dS _ (by
 intro p hp;simp only [EN,EU,GF] at hp;rcases hp with rfl|rfl|rfl
 ·exact c12
 ·exact c208
 ·exact c187)
def CD:ah:=CU prog XX
def aJ {f:FuncId} {fn:Func} (i:bJ prog f fn) {args:List Vl} {h:ae} {r:Vl×ae} (hX:XX f args h=none) (e:aY prog CD fn args h=some r):CD f args h=some r:=CU_body i hX e
def tb {f:FuncId} {args:List Vl} {h:ae} {r:Vl×ae} (e:XX f args h=some r):CD f args h=some r:=yq e
def X208:XX 208=s208:=rfl
def X12:XX 12=s12:=rfl
def r12 {h:ae} (g:h.get 1=some cH):CD 12 [] h=some (.bool true,h):=tb (show XX 12 [] h=some (.bool true,h) from s12_eq g)
def CD_to {f:FuncId} {args:List Vl} {h:ae} {r:Vl×ae} (hG:3<=h.n0) (e:CD f args h=some r):CC prog XX f args h=some r:=CU_to dZ XX_sound (by rw [cX];exact hG) e
section
variable (C:ah) (x:Nat->Vl) (x0 x1 x2 x3 x4 x5:Vl) (h:ae)
def b130_2 (C:ah) (i:Nat) (e:aQ) (h:ae):ba:=if i=0 then (resultsA prog f130.results.toList) e h else (fun _ _ _=>none) i e h
def t130 (C:ah) (x0 x1:Vl) (h:ae):ba:=
 aa (some (x0,h)) fun a h=>
 aa (pu (aE prog .eql 234 a (.pointer none)) h) fun b h=>
 (match b with
 | .bool true=>
 some (.tuple #[],h)
 | .bool false=>
 fb (iter (codeA prog C (al f130 [1,0,0])) aK (aT 40 (up (bs [x0,x1]) [(6,a),(7,b)])) h) (resultsA prog f130.results.toList) (b130_2 C)
 |_=>none)
def oN (C:ah) (x:Nat->Vl) (h:ae):Option (Ex×aQ×ae):=
 aa (some ((x 1),h)) fun b h=>
 aa (pu (cI b) h) fun c h=>
 aa (pu (aE prog .gtr 3 c (.int .i64 0)) h) fun d h=>
 (match d with
 | .bool true=>
 aa (some ((x 0),h)) fun j h=>
 aa (pu (nilCheckA j) h) fun k h=>
 aa (pu (aL k 72) h) fun l h=>
 aa (ld1 l h) fun m h=>
 aa (pu (aE prog .rem 3 m (.int .i64 64)) h) fun n h=>
 aa (some (n,h)) fun f h=>
 aa (some ((x 0),h)) fun o h=>
 aa (pu (nilCheckA o) h) fun p h=>
 aa (pu (aL p 8) h) fun q h=>
 aa (some (f,h)) fun r h=>
 aa (pu (sliceArr 64 1 q (some r) none none) h) fun s h=>
 aa (some ((x 1),h)) fun t h=>
 aa (iv 1 s t h) fun u h=>
 aa (some (u,h)) fun a h=>
 aa (some ((x 0),h)) fun g h=>
 aa (pu (nilCheckA g) h) fun v h=>
 aa (pu (aL v 72) h) fun w h=>
 aa (ld1 w h) fun y h=>
 aa (some (a,h)) fun z h=>
 aa (pu (aE prog .add 3 y z) h) fun A h=>
 aa (pu (nilCheckA g) h) fun B h=>
 aa (pu (aL B 72) h) fun D h=>
 aa (bX 1 D A h) fun _ h=>
 aa (some ((x 1),h)) fun E h=>
 aa (some (a,h)) fun F h=>
 aa (pu (slR 1 E (some F) none none) h) fun G h=>
 aa (some (G,h)) fun L h=>
 aa (some (f,h)) fun H h=>
 aa (some (a,h)) fun I h=>
 aa (pu (aE prog .add 3 H I) h) fun J h=>
 aa (pu (aE prog .eql 3 J (.int .i64 64)) h) fun K h=>
 (match K with
 | .bool true=>
 aa (some ((x 0),h)) fun M h=>
 aa (C 187 [M] h) fun N h=>
 some (.normal,(aT 40 (up x [(1,L),(4,f),(5,a),(8,b),(9,c),(10,d),(11,j),(12,k),(13,l),(14,m),(15,n),(16,o),(17,p),(18,q),(19,r),(20,s),(21,t),(22,u),(23,g),(24,v),(25,w),(26,y),(27,z),(28,A),(29,B),(30,D),(31,E),(32,F),(33,G),(34,H),(35,I),(36,J),(37,K),(38,M),(39,N)])),h)
 | .bool false=>
 some (.normal,(aT 40 (up x [(1,L),(4,f),(5,a),(8,b),(9,c),(10,d),(11,j),(12,k),(13,l),(14,m),(15,n),(16,o),(17,p),(18,q),(19,r),(20,s),(21,t),(22,u),(23,g),(24,v),(25,w),(26,y),(27,z),(28,A),(29,B),(30,D),(31,E),(32,F),(33,G),(34,H),(35,I),(36,J),(37,K)])),h)
 |_=>none)
 | .bool false=>
 some (.exit 0,(aT 40 (up x [(8,b),(9,c),(10,d)])),h)
 |_=>none)
def t130_eq:aY prog C f130 [x0,x1] h=t130 C x0 x1 h:=
 lkT (by kernel_rfl) (by kernel_rfl)
def zD:codeA prog C (al f130 [1,0,0]) (aT 40 x) h=oN C x h:=
 aF (T:=oN C) (fun x h=>by kernel_rfl) x h
def k131_9 (C:ah) (e:aQ) (h:ae):ba:=codeK prog C (al f131 [1,1,1,1,1,1,1,1]) e h (resultsA prog f131.results.toList) (resultsA prog f131.results.toList) (fun _ _ _=>none)
def b131_11 (C:ah) (i:Nat) (e:aQ) (h:ae):ba:=if i=0 then (k131_9 C) e h else (fun _ _ _=>none) i e h
def k131_14 (C:ah) (e:aQ) (h:ae):ba:=codeK prog C (al f131 [1,1,1,1,1,1,1,1,1,1,1]) e h (resultsA prog f131.results.toList) (resultsA prog f131.results.toList) (fun _ _ _=>none)
def b131_16 (C:ah) (i:Nat) (e:aQ) (h:ae):ba:=if i=2 then (k131_14 C) e h else (fun _ _ _=>none) i e h
def t131 (C:ah) (x0:Vl) (h:ae):ba:=
 aa (dj (List.replicate 32 (.int .u8 0)) h) fun a h=>
 aa (some (x0,h)) fun b h=>
 aa (pu (aE prog .eql 234 b (.pointer none)) h) fun c h=>
 (match c with
 | .bool true=>
 aa (pu (dG (List.replicate 32 (.int .u8 0)) []) h) fun d h=>
 aa (bX 32 a d h) fun _ h=>
 resultsA prog f131.results.toList (aT 66 (up (bs [x0]) [(2,a),(10,b),(11,c),(12,d)])) h
 | .bool false=>
 aa (some (x0,h)) fun f h=>
 aa (pu (nilCheckA f) h) fun g h=>
 aa (bZ 73 g h) fun j h=>
 aa (dj zlit1 h) fun k h=>
 aa (bX 73 k j h) fun _ h=>
 aa (dj (List.replicate 72 (.int .u8 0)) h) fun l h=>
 aa (pu (idxA 72 1 l (.int .i64 0)) h) fun m h=>
 aa (bX 1 m (.int .u8 128) h) fun _ h=>
 aa (some (x0,h)) fun n h=>
 aa (pu (nilCheckA n) h) fun o h=>
 aa (pu (aL o 72) h) fun p h=>
 aa (ld1 p h) fun q h=>
 aa (pu (aE prog .add 3 q (.int .i64 8)) h) fun r h=>
 aa (pu (aE prog .rem 3 r (.int .i64 64)) h) fun s h=>
 aa (pu (aE prog .sub 3 (.int .i64 64) s) h) fun t h=>
 aa (some (t,h)) fun B h=>
 aa (some (x0,h)) fun u h=>
 aa (pu (nilCheckA u) h) fun v h=>
 aa (pu (aL v 72) h) fun w h=>
 aa (ld1 w h) fun y h=>
 aa (iD .u64 y h) fun z h=>
 aa (pu (aE prog .mul 52 z (.int .u64 8)) h) fun A h=>
 aa (some (A,h)) fun D h=>
 aa (some ((.int .i64 0),h)) fun E h=>
 fb (iter (codeA prog C (al f131 [1,1,1,1,1,1,1,0,1,0,0])) aK (aT 66 (up (bs [x0]) [(2,a),(3,k),(4,l),(5,B),(6,D),(10,b),(11,c),(13,f),(14,g),(15,j),(16,m),(17,n),(18,o),(19,p),(20,q),(21,r),(22,s),(23,t),(24,u),(25,v),(26,w),(27,y),(28,z),(29,A),(30,E)])) h) (resultsA prog f131.results.toList) (b131_11 C)
 |_=>none)
def rH (C:ah) (x:Nat->Vl) (h:ae):ba:=
 aa (some ((x 5),h)) fun a h=>
 aa (pu (aE prog .add 3 a (.int .i64 8)) h) fun b h=>
 aa (pu (sliceArr 72 1 (x 4) none (some b) none) h) fun c h=>
 aa (C 130 [(x 3),c] h) fun d h=>
 aa (dj (List.replicate 32 (.int .u8 0)) h) fun f h=>
 aa (some ((.int .i64 0),h)) fun g h=>
 fb (iter (codeA prog C (al f131 [1,1,1,1,1,1,1,1,1,1,0,1,0,0])) aK (aT 66 (up x [(8,f),(44,a),(45,b),(46,c),(47,d),(48,g)])) h) (resultsA prog f131.results.toList) (b131_16 C)
def gO (C:ah) (x:Nat->Vl) (h:ae):Option (Ex×aQ×ae):=
 aa (pu (aE prog .lss 3 (x 30) (.int .i64 8)) h) fun a h=>
 (match a with
 | .bool true=>
 aa (some ((x 30),h)) fun c h=>
 aa (some (c,h)) fun b h=>
 aa (some ((x 5),h)) fun d h=>
 aa (some (b,h)) fun f h=>
 aa (pu (aE prog .add 3 d f) h) fun g h=>
 aa (some ((x 6),h)) fun j h=>
 aa (some (b,h)) fun k h=>
 aa (pu (aE prog .mul 3 (.int .i64 8) k) h) fun l h=>
 aa (pu (aE prog .sub 3 (.int .i64 56) l) h) fun m h=>
 aa (pu (aE prog .shr 52 j m) h) fun n h=>
 aa (iD .u8 n h) fun o h=>
 aa (pu (idxA 72 1 (x 4) g) h) fun p h=>
 aa (bX 1 p o h) fun _ h=>
 aa (pu (aE prog .add 3 (x 30) (.int .i64 1)) h) fun q h=>
 aa (some (q,h)) fun r h=>
 some (.normal,(aT 66 (up x [(7,b),(30,r),(31,a),(32,c),(33,d),(34,f),(35,g),(36,j),(37,k),(38,l),(39,m),(40,n),(41,o),(42,p),(43,q)])),h)
 | .bool false=>
 some (.exit 0,(aT 66 (up x [(31,a)])),h)
 |_=>none)
def oH (C:ah) (x:Nat->Vl) (h:ae):ba:=
 aa (bZ 32 (x 8) h) fun a h=>
 aa (bX 32 (x 2) a h) fun _ h=>
 resultsA prog f131.results.toList (aT 66 (up x [(65,a)])) h
def ft (C:ah) (x:Nat->Vl) (h:ae):Option (Ex×aQ×ae):=
 aa (pu (aE prog .lss 3 (x 48) (.int .i64 32)) h) fun b h=>
 (match b with
 | .bool true=>
 aa (some ((x 48),h)) fun c h=>
 aa (some (c,h)) fun a h=>
 aa (some (a,h)) fun d h=>
 aa (some (a,h)) fun f h=>
 aa (pu (aE prog .quo 3 f (.int .i64 4)) h) fun g h=>
 aa (pu (aL (x 3) 0) h) fun j h=>
 aa (pu (idxA 8 1 j g) h) fun k h=>
 aa (ld1 k h) fun l h=>
 aa (some (a,h)) fun m h=>
 aa (pu (aE prog .rem 3 m (.int .i64 4)) h) fun n h=>
 aa (pu (aE prog .mul 3 (.int .i64 8) n) h) fun o h=>
 aa (pu (aE prog .sub 3 (.int .i64 24) o) h) fun p h=>
 aa (pu (aE prog .shr 186 l p) h) fun q h=>
 aa (iD .u8 q h) fun r h=>
 aa (pu (idxA 32 1 (x 8) d) h) fun s h=>
 aa (bX 1 s r h) fun _ h=>
 aa (pu (aE prog .add 3 (x 48) (.int .i64 1)) h) fun t h=>
 aa (some (t,h)) fun u h=>
 some (.normal,(aT 66 (up x [(9,a),(48,u),(49,b),(50,c),(51,d),(52,f),(53,g),(54,j),(55,k),(56,l),(57,m),(58,n),(59,o),(60,p),(61,q),(62,r),(63,s),(64,t)])),h)
 | .bool false=>
 some (.exit 2,(aT 66 (up x [(49,b)])),h)
 |_=>none)
def t131_eq:aY prog C f131 [x0] h=t131 C x0 h:=
 lkT (by kernel_rfl) (by kernel_rfl)
def Az:k131_9 C (aT 66 x) h=rH C x h:=
 bI (T:=rH C) (fun x h=>by kernel_rfl) x h
def nU:codeA prog C (al f131 [1,1,1,1,1,1,1,0,1,0,0]) (aT 66 x) h=gO C x h:=
 aF (T:=gO C) (fun x h=>by kernel_rfl) x h
def wR:k131_14 C (aT 66 x) h=oH C x h:=
 bI (T:=oH C) (fun x h=>by kernel_rfl) x h
def lE:codeA prog C (al f131 [1,1,1,1,1,1,1,1,1,1,0,1,0,0]) (aT 66 x) h=ft C x h:=
 aF (T:=ft C) (fun x h=>by kernel_rfl) x h
def t67 (C:ah) (x0:Vl) (h:ae):ba:=
 aa (dj (List.replicate 32 (.int .u8 0)) h) fun b h=>
 aa (C 129 [] h) fun c h=>
 aa (some (c,h)) fun a h=>
 aa (some (a,h)) fun d h=>
 aa (some (x0,h)) fun f h=>
 aa (C 130 [d,f] h) fun k h=>
 aa (some (a,h)) fun g h=>
 aa (C 131 [g] h) fun j h=>
 aa (bX 32 b j h) fun _ h=>
 resultsA prog f67.results.toList (aT 10 (up (bs [x0]) [(2,b),(3,a),(4,c),(5,d),(6,f),(7,k),(8,g),(9,j)])) h
def t67_eq:aY prog C f67 [x0] h=t67 C x0 h:=
 lkT (by kernel_rfl) (by kernel_rfl)
def t70 (C:ah) (x0 x1:Vl) (h:ae):ba:=
 aa (dj (List.replicate 32 (.int .u8 0)) h) fun b h=>
 aa (C 129 [] h) fun c h=>
 aa (some (c,h)) fun a h=>
 aa (some (a,h)) fun d h=>
 aa (some (x0,h)) fun f h=>
 aa (pu (aE prog .shr 3 f (.int .u64 8)) h) fun g h=>
 aa (iD .u8 g h) fun j h=>
 aa (some (x0,h)) fun k h=>
 aa (iD .u8 k h) fun l h=>
 aa (fE 1 (.int .u8 0) 2 [(0,j),(1,l)] h) fun m h=>
 aa (C 130 [d,m] h) fun r h=>
 aa (some (a,h)) fun n h=>
 aa (some (x1,h)) fun o h=>
 aa (C 130 [n,o] h) fun s h=>
 aa (some (a,h)) fun p h=>
 aa (C 131 [p] h) fun q h=>
 aa (bX 32 b q h) fun _ h=>
 resultsA prog f70.results.toList (aT 20 (up (bs [x0,x1]) [(4,b),(5,a),(6,c),(7,d),(8,f),(9,g),(10,j),(11,k),(12,l),(13,m),(14,r),(15,n),(16,o),(17,s),(18,p),(19,q)])) h
def t70_eq:aY prog C f70 [x0,x1] h=t70 C x0 x1 h:=
 lkT (by kernel_rfl) (by kernel_rfl)
def t24 (C:ah) (x0:Vl) (h:ae):ba:=
 aa (box x0 h) fun d h=>
 aa (dj (List.replicate 32 (.int .u8 0)) h) fun a h=>
 aa (some ((.int .i64 0),h)) fun t h=>
 aa (bZ 37 d h) fun f h=>
 aa (C 66 [f] h) fun g h=>
 aa (some (g,h)) fun b h=>
 aa (pu (extractA b 0) h) fun j h=>
 aa (pu (extractA b 1) h) fun k h=>
 aa (some (j,h)) fun l h=>
 aa (some (k,h)) fun c h=>
 aa (some (c,h)) fun m h=>
 aa (pu (aE prog .neq 25 m (.int .i64 0)) h) fun n h=>
 (match n with
 | .bool true=>
 aa (pu (dG (List.replicate 32 (.int .u8 0)) []) h) fun p h=>
 aa (some (c,h)) fun q h=>
 aa (bX 32 a p h) fun _ h=>
 aa (some (q,h)) fun o h=>
 resultsA prog f24.results.toList (aT 17 (up (bs [x0]) [(1,d),(2,a),(3,o),(4,l),(5,c),(6,b),(7,f),(8,g),(9,j),(10,k),(11,m),(12,n),(13,p),(14,q)])) h
 | .bool false=>
 aa (some (l,h)) fun r h=>
 aa (C 67 [r] h) fun s h=>
 aa (bX 32 a s h) fun _ h=>
 aa (some ((.int .i64 0),h)) fun o h=>
 resultsA prog f24.results.toList (aT 17 (up (bs [x0]) [(1,d),(2,a),(3,o),(4,l),(5,c),(6,b),(7,f),(8,g),(9,j),(10,k),(11,m),(12,n),(15,r),(16,s)])) h
 |_=>none)
def t24_eq:aY prog C f24 [x0] h=t24 C x0 h:=
 lkT (by kernel_rfl) (by kernel_rfl)
def t25 (C:ah) (x0 x1:Vl) (h:ae):ba:=
 aa (box x0 h) fun d h=>
 aa (box x1 h) fun b h=>
 aa (some ((.int .i64 0),h)) fun Z h=>
 aa (bZ 37 d h) fun p h=>
 aa (C 68 [p] h) fun q h=>
 aa (some (q,h)) fun f h=>
 aa (some (f,h)) fun r h=>
 aa (pu (aE prog .neq 25 r (.int .i64 0)) h) fun s h=>
 (match s with
 | .bool true=>
 aa (some (f,h)) fun u h=>
 aa (some (u,h)) fun a h=>
 some (a,h)
 | .bool false=>
 aa (pu (aL b 0) h) fun v h=>
 aa (ld1 v h) fun w h=>
 aa (pu (aE prog .lss 3 w (.int .i64 0)) h) fun y h=>
 aa (some (y,h)) fun c h=>
 aa (au (bC c==some false) (pu (aL b 0) h) h) fun z h=>
 aa (au (bC c==some false) (ld1 z h) h) fun A h=>
 aa (au (bC c==some false) (pu (aL d 2) h) h) fun B h=>
 aa (au (bC c==some false) (ld1 B h) h) fun D h=>
 aa (au (bC c==some false) (pu (aE prog .geq 3 A D) h) h) fun E h=>
 aa (match c with | .bool t=>some (if t then (.bool true) else E,h)|_=>none) fun F h=>
 (match F with
 | .bool true=>
 aa (some ((.int .i64 2),h)) fun a h=>
 some (a,h)
 | .bool false=>
 aa (pu (aL d 0) h) fun G h=>
 aa (ld1 G h) fun H h=>
 aa (pu (aL d 3) h) fun I h=>
 aa (ld1 I h) fun J h=>
 aa (C 69 [H,J] h) fun K h=>
 aa (some (K,h)) fun g h=>
 aa (pu (extractA g 0) h) fun L h=>
 aa (pu (extractA g 1) h) fun M h=>
 aa (some (L,h)) fun N h=>
 aa (some (M,h)) fun a0 h=>
 aa (pu (aL b 1) h) fun O h=>
 aa (ld1 O h) fun P h=>
 aa (pu (cI P) h) fun Q h=>
 aa (some (N,h)) fun R h=>
 aa (pu (aE prog .neq 3 Q R) h) fun S h=>
 (match S with
 | .bool true=>
 aa (some ((.int .i64 10),h)) fun a h=>
 some (a,h)
 | .bool false=>
 let g14_0:=h
 aa (pu (aL b 0) g14_0) fun T g14_1=>
 aa (ld1 T g14_1) fun U g14_2=>
 aa (pu (aL b 1) g14_2) fun V g14_3=>
 aa (ld1 V g14_3) fun W g14_4=>
 aa (C 70 [U,W] g14_4) fun X g14_5=>
 aa (pu (aL d 36) g14_5) fun j g14_6=>
 aa (ld1 j g14_6) fun k g14_7=>
 aa (pu (aL b 0) g14_7) fun l g14_8=>
 aa (ld1 l g14_8) fun m g14_9=>
 aa (pu (idxS 32 k m) g14_9) fun n g14_10=>
 aa (bZ 32 n g14_10) fun o g14_11=>
 aa (pu (aE prog .neq 32 X o) g14_11) fun Y g14_12=>
 (match (fP true (ld1 j g14_4) k&&(fP true (ld1 l g14_4) m&&(fP true (bZ 32 n g14_4) o&&true))) with
 |true=>
 let h:=g14_12
 (match Y with
 | .bool true=>
 aa (some ((.int .i64 20),h)) fun a h=>
 some (a,h)
 | .bool false=>
 aa (some ((.int .i64 0),h)) fun a h=>
 some (a,h)
 |_=>none)
 |false=>none)
 |_=>none)
 |_=>none)
 |_=>none)
def xp:aY prog C f25 [x0,x1] h=t25 C x0 x1 h:=
 lkT (by kernel_rfl) (by kernel_rfl)
def k66_12 (C:ah) (e:aQ) (h:ae):ba:=codeK prog C (al f66 [1,1,1,1,1,1,1,1,1,1]) e h (resultsA prog f66.results.toList) (resultsA prog f66.results.toList) (fun _ _ _=>none)
def b66_14 (C:ah) (i:Nat) (e:aQ) (h:ae):ba:=if i=0 then (k66_12 C) e h else (fun _ _ _=>none) i e h
def t66 (C:ah) (x0:Vl) (h:ae):ba:=
 aa (box x0 h) fun a h=>
 aa (some ((.slice none 0 0),h)) fun N h=>
 aa (some ((.int .i64 0),h)) fun O h=>
 aa (bZ 37 a h) fun d h=>
 aa (C 68 [d] h) fun f h=>
 aa (some (f,h)) fun c h=>
 aa (some (c,h)) fun g h=>
 aa (pu (aE prog .neq 25 g (.int .i64 0)) h) fun j h=>
 (match j with
 | .bool true=>
 aa (some (c,h)) fun P h=>
 aa (some ((.slice none 0 0),h)) fun Q h=>
 aa (some (P,h)) fun R h=>
 some (.tuple #[Q,R],h)
 | .bool false=>
 aa (pu (aL a 2) h) fun k h=>
 aa (ld1 k h) fun l h=>
 aa (pu (aE prog .mul 3 (.int .i64 32) l) h) fun m h=>
 aa (pu (aE prog .add 3 (.int .i64 39) m) h) fun n h=>
 aa (C 116 [n] h) fun o h=>
 aa (some (o,h)) fun b h=>
 aa (some (b,h)) fun p h=>
 aa (C 118 [p,(.int .u16 19713)] h) fun S h=>
 aa (some (b,h)) fun q h=>
 aa (pu (aL a 0) h) fun r h=>
 aa (ld1 r h) fun s h=>
 aa (iD .u8 s h) fun t h=>
 aa (C 117 [q,t] h) fun T h=>
 aa (some (b,h)) fun u h=>
 aa (pu (aL a 1) h) fun v h=>
 aa (ld1 v h) fun w h=>
 aa (iD .u8 w h) fun y h=>
 aa (C 117 [u,y] h) fun U h=>
 aa (some (b,h)) fun z h=>
 aa (pu (aL a 2) h) fun A h=>
 aa (ld1 A h) fun B h=>
 aa (iD .u8 B h) fun D h=>
 aa (C 117 [z,D] h) fun V h=>
 aa (some (b,h)) fun E h=>
 aa (pu (aL a 3) h) fun F h=>
 aa (ld1 F h) fun G h=>
 aa (iD .u16 G h) fun H h=>
 aa (C 118 [E,H] h) fun W h=>
 aa (some (b,h)) fun I h=>
 aa (pu (aL a 4) h) fun J h=>
 aa (pu (sliceArr 32 1 J none none none) h) fun K h=>
 aa (C 120 [I,K] h) fun X h=>
 aa (pu (aL a 36) h) fun L h=>
 aa (ld1 L h) fun M h=>
 aa (pu (cI M) h) fun Y h=>
 aa (some ((.int .i64 0),h)) fun Z h=>
 fb (iter (codeA prog C (al f66 [1,1,1,1,1,1,1,1,1,0,1,0,0])) aK (aT 59 (up (bs [x0]) [(1,a),(2,N),(3,O),(4,c),(5,b),(8,d),(9,f),(10,g),(11,j),(13,k),(14,l),(15,m),(16,n),(17,o),(18,p),(19,S),(20,q),(21,r),(22,s),(23,t),(24,T),(25,u),(26,v),(27,w),(28,y),(29,U),(30,z),(31,A),(32,B),(33,D),(34,V),(35,E),(36,F),(37,G),(38,H),(39,W),(40,I),(41,J),(42,K),(43,X),(44,L),(45,M),(46,Y),(47,Z)])) h) (resultsA prog f66.results.toList) (b66_14 C)
 |_=>none)
def um (C:ah) (x:Nat->Vl) (h:ae):ba:=
 aa (some ((x 5),h)) fun b h=>
 aa (C 121 [b] h) fun a h=>
 aa (pu (extractA a 0) h) fun c h=>
 aa (pu (extractA a 1) h) fun d h=>
 aa (some (c,h)) fun f h=>
 aa (some (d,h)) fun g h=>
 some (.tuple #[f,g],h)
def eU (C:ah) (x:Nat->Vl) (h:ae):Option (Ex×aQ×ae):=
 aa (pu (aE prog .lss 3 (x 47) (x 46)) h) fun a h=>
 (match a with
 | .bool true=>
 aa (pu (idxS 32 (x 45) (x 47)) h) fun c h=>
 aa (bZ 32 c h) fun d h=>
 aa (dj (List.replicate 32 (.int .u8 0)) h) fun b h=>
 aa (bX 32 b d h) fun _ h=>
 aa (some ((x 5),h)) fun f h=>
 aa (pu (sliceArr 32 1 b none none none) h) fun g h=>
 aa (C 120 [f,g] h) fun k h=>
 aa (pu (aE prog .add 3 (x 47) (.int .i64 1)) h) fun j h=>
 aa (some (j,h)) fun l h=>
 some (.normal,(aT 59 (up x [(7,b),(47,l),(48,a),(49,c),(50,d),(51,f),(52,g),(53,k),(54,j)])),h)
 | .bool false=>
 some (.exit 0,(aT 59 (up x [(48,a)])),h)
 |_=>none)
def t66_eq:aY prog C f66 [x0] h=t66 C x0 h:=
 lkT (by kernel_rfl) (by kernel_rfl)
def Di:k66_12 C (aT 59 x) h=um C x h:=
 bI (T:=um C) (fun x h=>by kernel_rfl) x h
def nE:codeA prog C (al f66 [1,1,1,1,1,1,1,1,1,0,1,0,0]) (aT 59 x) h=eU C x h:=
 aF (T:=eU C) (fun x h=>by kernel_rfl) x h
def Ci (C:ah) (e:aQ) (h:ae):ba:=codeK prog C (al f173 [1,1,1,1,1,1,1,1,1]) e h (resultsA prog f173.results.toList) (resultsA prog f173.results.toList) (fun _ _ _=>none)
def Cv (C:ah) (i:Nat) (e:aQ) (h:ae):ba:=if i=0 then (Ci C) e h else (fun _ _ _=>none) i e h
def t173 (C:ah) (x0:Vl) (h:ae):ba:=
 aa (dj fy h) fun c h=>
 aa (some ((.int .i64 0),h)) fun a4 h=>
 aa (some (x0,h)) fun g h=>
 aa (C 110 [g] h) fun j h=>
 aa (some (j,h)) fun a h=>
 aa (some (a,h)) fun k h=>
 aa (C 168 [k] h) fun l h=>
 aa (some (l,h)) fun m h=>
 aa (some (a,h)) fun n h=>
 aa (C 111 [n] h) fun o h=>
 aa (iD .i64 o h) fun p h=>
 aa (some (a,h)) fun q h=>
 aa (C 111 [q] h) fun r h=>
 aa (iD .i64 r h) fun s h=>
 aa (some (a,h)) fun u h=>
 aa (C 111 [u] h) fun v h=>
 aa (iD .i64 v h) fun w h=>
 aa (some (a,h)) fun y h=>
 aa (C 168 [y] h) fun z h=>
 aa (iD .i64 z h) fun A h=>
 aa (pu (dG fy [(0,1,p),(1,1,s),(2,1,w),(3,1,A)]) h) fun B h=>
 aa (dj fy h) fun b h=>
 aa (bX 37 b B h) fun _ h=>
 aa (some (a,h)) fun D h=>
 aa (C 170 [D] h) fun E h=>
 aa (some (E,h)) fun d h=>
 aa (some (d,h)) fun F h=>
 aa (pu (aE prog .neq 25 F (.int .i64 0)) h) fun G h=>
 (match G with
 | .bool true=>
 aa (pu (dG fy []) h) fun W h=>
 aa (some (d,h)) fun X h=>
 aa (bX 37 c W h) fun _ h=>
 aa (some (X,h)) fun H h=>
 resultsA prog f173.results.toList (aT 71 (up (bs [x0]) [(2,c),(3,H),(4,a),(5,m),(6,b),(7,d),(9,g),(10,j),(11,k),(12,l),(13,n),(14,o),(15,p),(16,q),(17,r),(18,s),(19,u),(20,v),(21,w),(22,y),(23,z),(24,A),(25,B),(26,D),(27,E),(28,F),(29,G),(30,W),(31,X)])) h
 | .bool false=>
 aa (some (m,h)) fun I h=>
 aa (pu (aE prog .neq 222 I (.int .u16 19713)) h) fun J h=>
 (match J with
 | .bool true=>
 aa (pu (dG fy []) h) fun Y h=>
 aa (bX 37 c Y h) fun _ h=>
 aa (some ((.int .i64 5),h)) fun H h=>
 resultsA prog f173.results.toList (aT 71 (up (bs [x0]) [(2,c),(3,H),(4,a),(5,m),(6,b),(7,d),(9,g),(10,j),(11,k),(12,l),(13,n),(14,o),(15,p),(16,q),(17,r),(18,s),(19,u),(20,v),(21,w),(22,y),(23,z),(24,A),(25,B),(26,D),(27,E),(28,F),(29,G),(32,I),(33,J),(34,Y)])) h
 | .bool false=>
 aa (pu (aL b 0) h) fun K h=>
 aa (ld1 K h) fun L h=>
 aa (pu (aL b 1) h) fun M h=>
 aa (ld1 M h) fun N h=>
 aa (pu (aL b 2) h) fun O h=>
 aa (ld1 O h) fun P h=>
 aa (C 103 [L,N,P] h) fun Q h=>
 aa (pu (unA .not Q) h) fun R h=>
 aa (some (R,h)) fun f h=>
 aa (au (bC f==some false) (pu (aL b 3) h) h) fun S h=>
 aa (au (bC f==some false) (ld1 S h) h) fun T h=>
 aa (au (bC f==some false) (pu (aE prog .gtr 3 T (.int .i64 8192)) h) h) fun U h=>
 aa (match f with | .bool t=>some (if t then (.bool true) else U,h)|_=>none) fun V h=>
 (match V with
 | .bool true=>
 aa (pu (dG fy []) h) fun Z h=>
 aa (bX 37 c Z h) fun _ h=>
 aa (some ((.int .i64 2),h)) fun H h=>
 resultsA prog f173.results.toList (aT 71 (up (bs [x0]) [(2,c),(3,H),(4,a),(5,m),(6,b),(7,d),(9,g),(10,j),(11,k),(12,l),(13,n),(14,o),(15,p),(16,q),(17,r),(18,s),(19,u),(20,v),(21,w),(22,y),(23,z),(24,A),(25,B),(26,D),(27,E),(28,F),(29,G),(32,I),(33,J),(35,K),(36,L),(37,M),(38,N),(39,O),(40,P),(41,Q),(42,R),(43,f),(44,S),(45,T),(46,U),(47,V),(48,Z)])) h
 | .bool false=>
 aa (some (a,h)) fun a0 h=>
 aa (C 210 [a0] h) fun a1 h=>
 aa (pu (aL b 4) h) fun a2 h=>
 aa (bX 32 a2 a1 h) fun _ h=>
 aa (pu (aL b 2) h) fun a3 h=>
 aa (ld1 a3 h) fun a5 h=>
 aa (some ((.int .i64 0),h)) fun a6 h=>
 fb (iter (codeA prog C (al f173 [1,1,1,1,1,1,1,1,0,1,0,0])) aK (aT 71 (up (bs [x0]) [(2,c),(3,a4),(4,a),(5,m),(6,b),(7,d),(9,g),(10,j),(11,k),(12,l),(13,n),(14,o),(15,p),(16,q),(17,r),(18,s),(19,u),(20,v),(21,w),(22,y),(23,z),(24,A),(25,B),(26,D),(27,E),(28,F),(29,G),(32,I),(33,J),(35,K),(36,L),(37,M),(38,N),(39,O),(40,P),(41,Q),(42,R),(43,f),(44,S),(45,T),(46,U),(47,V),(49,a0),(50,a1),(51,a2),(52,a3),(53,a5),(54,a6)])) h) (resultsA prog f173.results.toList) (Cv C)
 |_=>none)
 |_=>none)
 |_=>none)
def oZ (C:ah) (x:Nat->Vl) (h:ae):ba:=
 aa (some ((x 4),h)) fun b h=>
 aa (C 211 [b] h) fun c h=>
 aa (some (c,h)) fun a h=>
 aa (some (a,h)) fun d h=>
 aa (pu (aE prog .neq 25 d (.int .i64 0)) h) fun f h=>
 (match f with
 | .bool true=>
 aa (pu (dG fy []) h) fun j h=>
 aa (some (a,h)) fun k h=>
 aa (bX 37 (x 2) j h) fun _ h=>
 aa (some (k,h)) fun g h=>
 resultsA prog f173.results.toList (aT 71 (up x [(3,g),(8,a),(64,b),(65,c),(66,d),(67,f),(68,j),(69,k)])) h
 | .bool false=>
 aa (bZ 37 (x 6) h) fun l h=>
 aa (bX 37 (x 2) l h) fun _ h=>
 aa (some ((.int .i64 0),h)) fun g h=>
 resultsA prog f173.results.toList (aT 71 (up x [(3,g),(8,a),(64,b),(65,c),(66,d),(67,f),(70,l)])) h
 |_=>none)
def ez (C:ah) (x:Nat->Vl) (h:ae):Option (Ex×aQ×ae):=
 aa (pu (aE prog .lss 3 (x 54) (x 53)) h) fun a h=>
 (match a with
 | .bool true=>
 let g27_0:=h
 aa (pu (aL (x 6) 36) g27_0) fun b g27_1=>
 aa (ld1 b g27_1) fun c g27_2=>
 aa (some ((x 4),g27_2)) fun d g27_3=>
 aa (C 210 [d] g27_3) fun f g27_4=>
 aa (fE 32 (.agg (List.replicate 32 (.int .u8 0)).toArray) 1 [(0,f)] g27_4) fun g g27_5=>
 aa (appendA 32 32 c g g27_5) fun j g27_6=>
 aa (pu (aL (x 6) 36) g27_6) fun k g27_7=>
 aa (bX 1 k j g27_7) fun _ g27_8=>
 (match (fP true (ld1 b g27_4) c&&true) with
 |true=>
 let h:=g27_8
 aa (pu (aE prog .add 3 (x 54) (.int .i64 1)) h) fun l h=>
 aa (some (l,h)) fun m h=>
 some (.normal,(aT 71 (up x [(54,m),(55,a),(56,b),(57,c),(58,d),(59,f),(60,g),(61,j),(62,k),(63,l)])),h)
 |false=>none)
 | .bool false=>
 some (.exit 0,(aT 71 (up x [(55,a)])),h)
 |_=>none)
def vW:aY prog C f173 [x0] h=t173 C x0 h:=
 lkT (by kernel_rfl) (by kernel_rfl)
def xF:Ci C (aT 71 x) h=oZ C x h:=
 bI (T:=oZ C) (fun x h=>by kernel_rfl) x h
def mI:codeA prog C (al f173 [1,1,1,1,1,1,1,1,0,1,0,0]) (aT 71 x) h=ez C x h:=
 aF (T:=ez C) (fun x h=>by kernel_rfl) x h
def t113 (C:ah) (x0:Vl) (h:ae):ba:=
 aa (dj fy h) fun c h=>
 aa (dj [(.int .i64 0),(.slice none 0 0)] h) fun b h=>
 aa (dj (List.replicate 32 (.int .u8 0)) h) fun a h=>
 aa (some ((.bool false),h)) fun a8 h=>
 aa (some (x0,h)) fun n h=>
 aa (C 110 [n] h) fun o h=>
 aa (some (o,h)) fun d h=>
 aa (some (d,h)) fun p h=>
 aa (C 111 [p] h) fun q h=>
 aa (some (q,h)) fun r h=>
 aa (some (d,h)) fun s h=>
 aa (C 168 [s] h) fun u h=>
 aa (iD .i64 u h) fun v h=>
 aa (pu (aL b 0) h) fun w h=>
 aa (bX 1 w v h) fun _ h=>
 aa (some (d,h)) fun y h=>
 aa (C 174 [y] h) fun z h=>
 aa (C 173 [z] h) fun A h=>
 aa (some (A,h)) fun k h=>
 aa (pu (extractA k 0) h) fun B h=>
 aa (pu (extractA k 1) h) fun D h=>
 aa (bX 37 c B h) fun _ h=>
 aa (some (D,h)) fun E h=>
 aa (some (d,h)) fun F h=>
 aa (some (d,h)) fun G h=>
 aa (C 175 [G] h) fun H h=>
 aa (C 169 [F,H] h) fun I h=>
 aa (pu (aL b 1) h) fun J h=>
 aa (bX 1 J I h) fun _ h=>
 aa (some (r,h)) fun K h=>
 aa (pu (aE prog .neq 155 K (.int .u8 2)) h) fun L h=>
 aa (some (L,h)) fun g h=>
 aa (au (bC g==some false) (some (d,h)) h) fun M h=>
 aa (au (bC g==some false) (C 170 [M] h) h) fun N h=>
 aa (au (bC g==some false) (pu (aE prog .neq 25 N (.int .i64 0)) h) h) fun O h=>
 aa (match g with | .bool t=>some (if t then (.bool true) else O,h)|_=>none) fun P h=>
 aa (some (P,h)) fun j h=>
 aa (au (bC j==some false) (some (E,h)) h) fun Q h=>
 aa (au (bC j==some false) (pu (aE prog .neq 25 Q (.int .i64 0)) h) h) fun R h=>
 aa (match j with | .bool t=>some (if t then (.bool true) else R,h)|_=>none) fun S h=>
 aa (some (S,h)) fun f h=>
 aa (au (bC f==some false) (bZ 37 c h) h) fun T h=>
 aa (au (bC f==some false) (bZ 2 b h) h) fun U h=>
 aa (au (bC f==some false) (C 25 [T,U] h) h) fun V h=>
 aa (au (bC f==some false) (pu (aE prog .neq 25 V (.int .i64 0)) h) h) fun W h=>
 aa (match f with | .bool t=>some (if t then (.bool true) else W,h)|_=>none) fun X h=>
 (match X with
 | .bool true=>
 let g9_0:=h
 aa (pu (dG fy []) g9_0) fun a1 g9_1=>
 aa (pu (dG [(.int .i64 0),(.slice none 0 0)] []) g9_1) fun a2 g9_2=>
 aa (bZ 32 a g9_2) fun l g9_3=>
 aa (bX 37 c a1 g9_3) fun _ g9_4=>
 aa (bX 2 b a2 g9_4) fun _ g9_5=>
 aa (bX 32 a l g9_5) fun _ g9_6=>
 aa (some ((.bool false),g9_6)) fun Y g9_7=>
 (match (fP true (bZ 32 a g9_4) l&&(fP true (bZ 32 a g9_5) l&&true)) with
 |true=>
 let h:=g9_7
 resultsA prog f113.results.toList (aT 56 (up (bs [x0]) [(2,c),(3,b),(4,a),(5,Y),(6,d),(7,r),(8,E),(9,n),(10,o),(11,p),(12,q),(13,s),(14,u),(15,v),(16,w),(17,k),(18,y),(19,z),(20,A),(21,B),(22,D),(23,F),(24,G),(25,H),(26,I),(27,J),(28,K),(29,L),(30,g),(31,M),(32,N),(33,O),(34,P),(35,j),(36,Q),(37,R),(38,S),(39,f),(40,T),(41,U),(42,V),(43,W),(44,X),(45,a1),(46,a2),(47,l)])) h
 |false=>none)
 | .bool false=>
 aa (bZ 37 c h) fun a3 h=>
 aa (C 24 [a3] h) fun a4 h=>
 aa (some (a4,h)) fun Z h=>
 aa (pu (extractA Z 0) h) fun a5 h=>
 aa (pu (extractA Z 1) h) fun a7 h=>
 aa (bX 32 a a5 h) fun _ h=>
 let g12_0:=h
 aa (bZ 37 c g12_0) fun a6 g12_1=>
 aa (bZ 2 b g12_1) fun a0 g12_2=>
 aa (bZ 32 a g12_2) fun m g12_3=>
 aa (bX 37 c a6 g12_3) fun _ g12_4=>
 aa (bX 2 b a0 g12_4) fun _ g12_5=>
 aa (bX 32 a m g12_5) fun _ g12_6=>
 aa (some ((.bool true),g12_6)) fun Y g12_7=>
 (match (fP true (bZ 2 b g12_4) a0&&(fP true (bZ 32 a g12_4) m&&(fP true (bZ 32 a g12_5) m&&true))) with
 |true=>
 let h:=g12_7
 resultsA prog f113.results.toList (aT 56 (up (bs [x0]) [(2,c),(3,b),(4,a),(5,Y),(6,d),(7,r),(8,E),(9,n),(10,o),(11,p),(12,q),(13,s),(14,u),(15,v),(16,w),(17,k),(18,y),(19,z),(20,A),(21,B),(22,D),(23,F),(24,G),(25,H),(26,I),(27,J),(28,K),(29,L),(30,g),(31,M),(32,N),(33,O),(34,P),(35,j),(36,Q),(37,R),(38,S),(39,f),(40,T),(41,U),(42,V),(43,W),(44,X),(48,Z),(49,a3),(50,a4),(51,a5),(52,a7),(53,a6),(54,a0),(55,m)])) h
 |false=>none)
 |_=>none)
def t113_eq:aY prog C f113 [x0] h=t113 C x0 h:=
 lkT (by kernel_rfl) (by kernel_rfl)
def t74 (C:ah) (x0:Vl) (h:ae):ba:=
 aa (some ((.slice none 0 0),h)) fun q h=>
 aa (C 116 [(.int .i64 9)] h) fun c h=>
 aa (some (c,h)) fun a h=>
 aa (some (a,h)) fun d h=>
 aa (C 117 [d,(.int .u8 1)] h) fun r h=>
 aa (some (a,h)) fun f h=>
 aa (some (x0,h)) fun g h=>
 aa (C 133 [f,g] h) fun s h=>
 aa (some (a,h)) fun j h=>
 aa (C 121 [j] h) fun k h=>
 aa (some (k,h)) fun b h=>
 aa (pu (extractA b 0) h) fun l h=>
 aa (pu (extractA b 1) h) fun m h=>
 aa (some (l,h)) fun n h=>
 aa (some (m,h)) fun t h=>
 aa (some (n,h)) fun o h=>
 aa (some (o,h)) fun p h=>
 some (p,h)
def t74_eq:aY prog C f74 [x0] h=t74 C x0 h:=
 lkT (by kernel_rfl) (by kernel_rfl)
def t76 (C:ah) (x0 x1:Vl) (h:ae):ba:=
 aa (box x1 h) fun a h=>
 aa (some ((.slice none 0 0),h)) fun j h=>
 aa (some (x0,h)) fun b h=>
 aa (fE 1 (.int .u8 0) 1 [(0,b)] h) fun c h=>
 aa (pu (sliceArr 32 1 a none none none) h) fun d h=>
 aa (appendA 1 1 c d h) fun f h=>
 aa (some (f,h)) fun g h=>
 some (g,h)
def t76_eq:aY prog C f76 [x0,x1] h=t76 C x0 x1 h:=
 lkT (by kernel_rfl) (by kernel_rfl)
end
end
end Go.Proofs.YtdhpgacmgebjdaaGreatDoor.W
namespace Go.Proofs.YtdhpgacmgebjdaaGreatDoor.W
open Go Go.Abs
noncomputable section
def inI64 (n:Int):Bool:=decide (-9223372036854775808<=n)&&decide (n<=9223372036854775807)
def cost (n:Int):Int:=if n<=106 then 1 else (n-1)/106+1
def s3:List Vl->ae->ba
 | [.int .i64 n],h=>if inI64 n then some (.bool true,h) else none
 |_,_=>none
end
end Go.Proofs.YtdhpgacmgebjdaaGreatDoor.W
namespace Go.Proofs.YtdhpgacmgebjdaaGreatDoor.W
open Go Go.Abs Tryz
noncomputable section
structure Dk where
 bb:Nat
 n:Nat
 img:List Nat
 down:Bool
 armed:Bool
 after:Int
 keep:Int
 turn:Int
def Dk.hdr (D:Dk):eW := [.slice (some ⟨D.bb,0,none⟩) D.n D.n,.bool D.down,.bool D.armed,.int .i64 D.after,.int .i64 D.keep,.int .i64 D.turn]
structure br (h:ae) (d:Nat) (D:Dk):Prop where
 hdr:h.get d=some D.hdr
 img:h.get D.bb=some (D.img.map u8)
 len:D.img.length=128*D.n
 byte : ∀ x∈D.img,x<256
 dn:h.n0<=d
 bn:h.n0<=D.bb
 ne:d≠D.bb
 small:D.n<=4096
 after:0<=D.after/\D.after<=9223372036854775807
 keep:0<=D.keep/\D.keep<=128
def uj : ∀ {l m:List Nat},l.map u8=m.map u8->l=m
 | [],[],_=>rfl
 | [],_::_,h=>by simp at h
 |_::_,[],h=>by simp at h
 |a::l,b::m,h=>by simp only [ES,H5,Value.int.injEq,true_and,Int.natCast_inj] at h;rw [h.1,uj h.2]
def br.mono {h h':ae} {d:Nat} {D:Dk} (a:br h d D) (hn:h'.n0=h.n0) (hg:h'.get d=h.get d) (hb:h'.get D.bb=h.get D.bb):br h' d D:=
 ⟨hg.trans a.hdr,hb.trans a.img,a.len,a.byte,hn▸a.dn,hn▸a.bn,a.ne,a.small,a.after,a.keep⟩
section
variable {h:ae} {d:Nat} {D:Dk}
def br.lt (a:br h d D):d<h.next:=h.aW a.hdr
def br.blt (a:br h d D):D.bb<h.next:=h.aW a.img
def br.l0 (a:br h d D):ld1 (ptr d 0) h=some (.slice (some ⟨D.bb,0,none⟩) D.n D.n,h):=aP a.hdr rfl
def br.l1 (a:br h d D):ld1 (ptr d 1) h=some (.bool D.down,h):=aP a.hdr rfl
def br.l2 (a:br h d D):ld1 (ptr d 2) h=some (.bool D.armed,h):=aP a.hdr rfl
def br.l3 (a:br h d D):ld1 (ptr d 3) h=some (.int .i64 D.after,h):=aP a.hdr rfl
def br.l4 (a:br h d D):ld1 (ptr d 4) h=some (.int .i64 D.keep,h):=aP a.hdr rfl
def br.l5 (a:br h d D):ld1 (ptr d 5) h=some (.int .i64 D.turn,h):=aP a.hdr rfl
def br.s1 (a:br h d D) (b:Bool):bX 1 (ptr d 1) (.bool b) h=some (undef,h.set d { D with down:=b }.hdr):=dK a.hdr (by simp [Dk.hdr]) a.dn rfl rfl
def br.s2 (a:br h d D) (b:Bool):bX 1 (ptr d 2) (.bool b) h=some (undef,h.set d { D with armed:=b }.hdr):=dK a.hdr (by simp [Dk.hdr]) a.dn rfl rfl
def br.s3 (a:br h d D) (n:Int):bX 1 (ptr d 3) (.int .i64 n) h=some (undef,h.set d { D with after:=n }.hdr):=dK a.hdr (by simp [Dk.hdr]) a.dn rfl rfl
def br.s5 (a:br h d D) (n:Int):bX 1 (ptr d 5) (.int .i64 n) h=some (undef,h.set d { D with turn:=n }.hdr):=dK a.hdr (by simp [Dk.hdr]) a.dn rfl rfl
end
structure Like (D E:Dk):Prop where
 bb:E.bb=D.bb
 n:E.n=D.n
 img:E.img=D.img
def br.setHdr {h:ae} {d:Nat} {D E:Dk} (a:br h d D) (l:Like D E) (ha:0<=E.after/\E.after<=9223372036854775807) (hk:0<=E.keep/\E.keep<=128):br (h.set d E.hdr) d E:=by
 have hb:(h.set d E.hdr).get E.bb=some (E.img.map u8):=by rw [ae.jC a.dn a.lt _ (by rw [l.bb];exact a.ne.symm),l.bb,l.img];exact a.img
 exact ⟨ae.bL a.dn a.hdr _,hb,by rw [l.img,l.n];exact a.len,by rw [l.img];exact a.byte,a.dn,by rw [l.bb];exact a.bn,by rw [l.bb];exact a.ne,by rw [l.n];exact a.small,ha,hk⟩
structure Okd (D E:Dk):Prop where
 bb:E.bb=D.bb
 n:E.n=D.n
 len:E.img.length=D.img.length
 byte : ∀ x∈E.img,x<256
 after:0<=E.after/\E.after<=9223372036854775807
 keep:0<=E.keep/\E.keep<=128
@[simp] theorem nil27e (b o : Nat) : aE prog .eql 24 (ptr b o) (.pointer none) = some (.bool false) := by kernel_rfl
@[simp] theorem nil27n (b o : Nat) : aE prog .neq 24 (ptr b o) (.pointer none) = some (.bool true) := by kernel_rfl
def sf:(some true==some false)=false:=rfl
def fs:(some false==some true)=false:=rfl
def Dk.fault (D:Dk) (i:Int):Int:=if D.down then 9 else if i<0\/(D.n:Int)<=i then 2 else 0
def t105_is (C:ah) {d:Nat} {D:Dk} (i:Int) {h:ae} (a:br h d D):t105 C (ptr d 0) (.int .i64 i) h=some (.int .i64 (D.fault i),h):=by
 unfold t105 Dk.fault;simp -implicitDefEqProofs only [af,nil27e,aj,av,ax,DK,a.l1];cases D.down with
 |true=>rfl
 |false=>
  simp -implicitDefEqProofs only [af,aj,bU,aH,DJ,D3];by_cases h1:i<0
  ·simp -implicitDefEqProofs only [h1,GO,sf,aG,af,D8,true_or]
  ·simp -implicitDefEqProofs only [h1,FN,D6,az,af,aj,av,ax,DK,a.l0,cV,dA,false_or,DJ,D3];by_cases h2:(D.n:Int)<=i
   ·simp -implicitDefEqProofs only [h2,ge_iff_le,GO,D8]
   ·simp -implicitDefEqProofs only [h2,ge_iff_le,FN,D3]
structure Upd (h:ae) (d:Nat) (D E:Dk) (g:ae):Prop where
 n0:g.n0=h.n0
 next:g.next=h.next
 was:br h d D
 is:br g d E
 like:Like D E
 getB : ∀ c,c≠d->g.getB c=h.getB c
def Upd.refl {h:ae} {d:Nat} {D:Dk} (a:br h d D):Upd h d D D h:=⟨rfl,rfl,a,a,⟨rfl,rfl,rfl⟩,fun _ _=>rfl⟩
def Upd.step {h g:ae} {d:Nat} {D E F:Dk} (u:Upd h d D E g) (l:Like E F) (ha:0<=F.after/\F.after<=9223372036854775807) (hk:0<=F.keep/\F.keep<=128):Upd h d D F (g.set d F.hdr) where
 n0:=u.n0
 next:=u.next
 was:=u.was
 is:=u.is.setHdr l ha hk
 like:=⟨l.bb.trans u.like.bb,l.n.trans u.like.n,l.img.trans u.like.img⟩
 getB c hc:=(ae.cq u.is.dn u.is.lt _ hc).trans (u.getB c hc)
def get_of {g h:ae} {c:Nat} (e:g.getB c=h.getB c):g.get c=h.get c:=by unfold ae.get;rw [e]
section bytes
def ey (l:List Nat) (off:Nat) (xs:List Nat):List Nat:=l.take off++xs++l.drop (off+xs.length)
def spliceN_map (l:List Nat) (off:Nat) (xs:List Nat):splice (l.map u8) off (xs.map u8)=(ey l off xs).map u8:=by simp [splice,ey]
def yX {l:List Nat} {off:Nat} {xs:List Nat} (h:off+xs.length<=l.length):(ey l off xs).length=l.length:=by simp [ey];omega
def Cr {l:List Nat} {off:Nat} {xs:List Nat} (hl : ∀ x∈l,x<256) (hx : ∀ x∈xs,x<256) : ∀ x∈ey l off xs,x<256:=by
 intro x h;simp only [ey,EF] at h;rcases h with (h|h)|h
 ·exact hl x (EH h)
 ·exact hx x h
 ·exact hl x (ET h)
def sz : ∀ l:List Nat,aN (l.map u8)=true
 | []=>rfl
 |x::l=>by have:=sz l;simp only [aN,ES,List.all_cons] at this |-;rw [this];rfl
def jv {a:Option Addr} {n c:Nat} {h:ae} {l:List Nat} (e:aq a n h=some l) {m:Nat} (hm:m<=n):firstA 1 m (.slice a n c) h=some ((l.take m).map u8):=by
 unfold aq at e;rw [D4] at e;obtain ⟨cs,h1,h2⟩:=e;obtain ⟨rfl,h3⟩:=od h2;cases a with
 |none=>
  simp only [firstA] at h1 |-;split at h1
  ·cases l with
   |nil=>simp;omega
   |cons=>simp at h1
  ·cases h1
 |some x=>
  obtain ⟨b,off,s⟩:=x;simp only [firstA,FQ] at h1 |-;by_cases hm0:m=0
  ·subst hm0;simp
  ·rw [DU hm0];rw [DU (by omega)] at h1;cases hk:h.get b with
   |none=>rw [hk] at h1;cases h1
   |some k=>
    rw [hk] at h1;simp only at h1 |-;split at h1
    ·rename_i hl0;have hl1:=hl0.1;simp only [DH] at h1;have hk2:List.take m (List.drop off k)=(l.take m).map u8:=by rw [List.map_take,<-h1,HX,GD hm]
     rw [DR ⟨by omega,by rw [hk2];exact fT _⟩,hk2]
    ·cases h1
def js {h:ae} {b off dl dc n c:Nat} {s:Option Nat} {a:Option Addr} {img l:List Nat} (hb:h.get b=some (img.map u8)) (h0:h.n0<=b) (hs:aq a n h=some l) (hlen:off+min n dl<=img.length) :
  ∃ g,iv 1 (.slice (some ⟨b,off,s⟩) dl dc) (.slice a n c) h=some (ak (min n dl),g)/\g.n0=h.n0/\g.next=h.next/\g.get b=some ((ey img off (l.take (min n dl))).map u8)/\(∀ e,e≠b->g.getB e=h.getB e):=by
 have hl:=(ay hs).1;unfold iv;simp only [ot];rw [jv hs (Nat.min_le_left n dl)];simp only;by_cases h1:min n dl=0
 ·rw [DR h1];refine ⟨h,rfl,rfl,rfl,?_,fun _ _=>rfl⟩;rw [h1,hb];simp [ey]
 ·rw [DU h1];refine ⟨h.set b ((ey img off (l.take (min n dl))).map u8),?_,rfl,rfl,ae.bL h0 hb _,fun e he=>ae.cq h0 (h.aW hb) _ he⟩;unfold stL;simp only [hb];rw [DR (by simp only [sz,DY,E0,EY,DN,D7];exact ⟨h0,by omega⟩),spliceN_map];rfl
end bytes
def Dk.off (D:Dk):Dk:=if D.down then D else { D with down:=true,armed:=false,turn:=IntKind.wrap .i64 (D.turn+1) }
def Dk.off_like (D:Dk):Like D D.off:=by unfold Dk.off;split<;>exact ⟨rfl,rfl,rfl⟩
def t49_is (C:ah) {d:Nat} {D:Dk} {h:ae} (a:br h d D) : ∃ g,t49 C (ptr d 0) h=some (.tuple #[],g)/\Upd h d D D.off g:=by
 unfold t49 Dk.off;simp -implicitDefEqProofs only [af,nil27e,aj,aH,D6,az,av,ax,DK,a.l1,DJ,D3];cases hd:D.down with
 |true=>exact ⟨h,rfl,by rw [DR rfl];exact .refl a⟩
 |false=>
  have u1:Upd h d D { D with down:=true } _:=(Upd.refl a).step ⟨rfl,rfl,rfl⟩ a.after a.keep;have u2:Upd h d D { D with down:=true,armed:=false } _:=u1.step ⟨rfl,rfl,rfl⟩ a.after a.keep;have u3:Upd h d D { D with down:=true,armed:=false,turn:=IntKind.wrap .i64 (D.turn+1) } _:=u2.step ⟨rfl,rfl,rfl⟩ a.after a.keep;simp -implicitDefEqProofs only [a.s1,u1.is.s2,u2.is.l5,u2.is.s5,af,dI,aj,DJ,D3];exact ⟨_,rfl,u3⟩
def is49:bJ prog 49 f49 := .of (by kernel_rfl)
def r105 {h:ae} {d:Nat} {D:Dk} (i:Int) (a:br h d D):CD 105 [ptr d 0,.int .i64 i] h=some (.int .i64 (D.fault i),h):=aJ is105 rfl ((t105_eq _ _ _ _).trans (t105_is _ i a))
abbrev ek (d bb:Nat) (h h':ae):Prop:=aw h h' (fun c=>c=d\/c=bb)
def r49 {h:ae} {d:Nat} {D:Dk} (a:br h d D) : ∃ g,CD 49 [ptr d 0] h=some (.tuple #[],g)/\Upd h d D D.off g:=by obtain ⟨g,e,u⟩:=t49_is CD a;exact ⟨g,aJ is49 rfl ((t49_eq _ _ _).trans e),u⟩
def Dk.lay (D:Dk) (i:Int) (l:List Nat):Dk:={ D with img:=ey D.img (i.toNat*128) l }
def Dk.write (D:Dk) (i:Int) (l:List Nat):Int×Dk:=
 if D.fault i=0 then
  if l.length=128 then
   if D.armed then
    if D.after=0 then (9,(D.lay i (l.take D.keep.toNat)).off)
    else (0,{ D.lay i l with after:=D.after-1 })
   else (0,D.lay i l)
  else (10,D)
 else (D.fault i,D)
def Dk.xe {D:Dk} {i:Int} (h:D.fault i=0):D.down=false/\0<=i/\i<D.n:=by
 unfold Dk.fault at h;split at h
 ·cases h
 ·split at h
  ·cases h
  ·rename_i h1 h2;refine ⟨by simpa using h1,by omega,by omega⟩
def Dk.Cy {h:ae} {d:Nat} {D:Dk} (a:br h d D) {i:Int} {l:List Nat} (hi:D.fault i=0) (hl:l.length<=128) (hb : ∀ x∈l,x<256):Okd D (D.lay i l):=by
 obtain ⟨_,h1,h2⟩:=Dk.xe hi;refine ⟨rfl,rfl,?_,?_,a.after,a.keep⟩
 ·exact yX (by have:=a.len;omega)
 ·exact Cr a.byte hb
def Dk.write_okd {h:ae} {d:Nat} {D:Dk} (a:br h d D) (i:Int) {l:List Nat} (hb : ∀ x∈l,x<256):Okd D (D.write i l).2:=by
 have r:Okd D D:=⟨rfl,rfl,rfl,a.byte,a.after,a.keep⟩
 unfold Dk.write;split
 ·rename_i hf;split
  ·rename_i hl;have o1:=Dk.Cy a hf (by omega) hb;split
   ·split
    ·have o:=Dk.Cy a (l:=l.take D.keep.toNat) hf (by simp;omega) (fun x hx=>hb x (EH hx));have lk:=(D.lay i (l.take D.keep.toNat)).off_like;refine ⟨lk.bb.trans o.bb,lk.n.trans o.n,by rw [lk.img];exact o.len,by rw [lk.img];exact o.byte,?_,?_⟩
     ·unfold Dk.off;split<;>exact a.after
     ·unfold Dk.off;split<;>exact a.keep
    ·rename_i h1;refine ⟨o1.bb,o1.n,o1.len,o1.byte,?_,a.keep⟩;have:=a.after;show 0<=D.after-1/\D.after-1<=_;omega
   ·exact o1
  ·exact r
 ·exact r
def ct (a:Option Addr) (n c:Nat):Bool:=Nat.ble n c&&(match a with|some ⟨_,_,some s⟩=>s==1|_=>true)
def jF {a:Option Addr} {n c:Nat} (h:ct a n c=true):n<=c:=by unfold ct at h;rw [DN] at h;exact EO h.1
def fX {b off n lo hi:Nat} {s s':Option Nat} {h:ae} {l:List Nat} (e:aq (some ⟨b,off,s⟩) n h=some l) (h1:lo<=hi) (h2:hi<=n) :
  aq (some ⟨b,off+lo,s'⟩) (hi-lo) h=some ((l.drop lo).take (hi-lo)):=by
 obtain ⟨hl,hb,hat⟩:=ay e;unfold aq;rw [D4];refine ⟨((l.drop lo).take (hi-lo)).map u8,?_,gf (fun x hx=>hb x (ET (EH hx)))⟩;simp only [firstA,FQ];by_cases h0:hi-lo=0
 ·rw [DR h0,h0];rfl
 ·rw [DU h0];obtain ⟨b',off',s'',k,hx,hk,hkl,hk2⟩:=hat (by omega);cases hx;simp only [hk];have hcells:(k.drop (off+lo)).take (hi-lo)=((l.drop lo).take (hi-lo)).map u8:=by
   apply FA;intro i;rw [FJ,EG,FJ,FH,FH];by_cases hi2:i<hi-lo
   ·rw [DR hi2,DR hi2,GI,hk2 (lo+i) (by omega),DV,DL (by omega)];rfl
   ·rw [DU hi2,DU hi2];rfl
  rw [hcells,DR ⟨by omega,fT _⟩]
def mZ {a:Option Addr} {n c lo hi:Nat} {vl vh:Option Vl} {h:ae} {l:List Nat} (g:ct a n c=true) (e:aq a n h=some l) (h1:lo<=hi) (h2:hi<=n) (hh:boundA n c vh=some hi) (hl:boundA 0 hi vl=some lo) :
  ∃ a' c',slR 1 (.slice a n c) vl vh none=some (.slice a' (hi-lo) c')/\aq a' (hi-lo) h=some ((l.drop lo).take (hi-lo))/\ct a' (hi-lo) c'=true:=by
 have hn:=jF g;have hb:boundsA n c vl vh none=some (lo,hi,c):=by unfold boundsA;have:boundA c c none=some c:=rfl;rw [this];simp only [hh,hl]
 have hble:Nat.ble (hi-lo) (c-lo)=true:=FV (by omega);cases a with
 |none=>
  have hl0:l = []:=by
   unfold aq firstA at e;by_cases hz:n=0
   ·subst hz;obtain ⟨h3,_⟩:=ay (a:=none) (n:=0) (h:=h) (l:=l) (by unfold aq firstA;exact e);exact EE.1 h3
   ·simp only [hz,D3,Option.bind_none] at e;cases e
  have hn0:n=0:=by have:=(ay e).1;rw [hl0] at this;exact this.symm
  subst hn0;have:hi=0:=by omega
  subst this;have:lo=0:=by omega
  subst this;refine ⟨none,c-0,?_,?_,?_⟩
  ·unfold slR sliceSl;simp only [hb]
  ·subst hl0;rfl
  ·unfold ct;simp
 |some x=>
  obtain ⟨b,off,s⟩:=x;cases s with
  |none=>
   refine ⟨some ⟨b,if c=lo then off else off+lo*1,none⟩,c-lo,?_,?_,?_⟩
   ·unfold slR sliceSl;simp only [hb]
   ·by_cases hc:c=lo
    ·have h3:hi-lo=0:=by omega
     rw [DR hc,h3];have:(l.drop lo).take 0 = []:=rfl;rw [this];unfold aq firstA;simp;rfl
    ·rw [DU hc,FQ];exact fX e h1 h2
   ·unfold ct;rw [hble];rfl
  |some s=>
   have hs:s=1:=by unfold ct at g;rw [DN] at g;exact eq_of_beq g.2
   subst hs;refine ⟨some ⟨b,off+lo*1,some 1⟩,c-lo,?_,?_,?_⟩
   ·unfold slR sliceSl;simp [hb]
   ·rw [FQ];exact fX e h1 h2
   ·unfold ct;rw [hble];rfl
def jt {a:Option Addr} {n:Nat} {h h':ae} (e : ∀ x,a=some x->h'.get x.block=h.get x.block):aq a n h'=aq a n h:=by
 unfold aq firstA;cases a with
 |none=>rfl
 |some x=>simp only [e x rfl]
def br.bytes_off {h:ae} {d:Nat} {D:Dk} (x:br h d D) {a:Option Addr} {n:Nat} {l:List Nat} (e:aq a n h=some l) (hn:6<n) : ∀ y,a=some y->y.block≠d:=by rintro y rfl rfl;obtain ⟨_,_,hat⟩:=ay e;obtain ⟨b,off,s,k,hx,hk,hkl,_⟩:=hat (by omega);cases hx;have h1:h.get b=some D.hdr:=x.hdr;rw [hk] at h1;cases h1;simp [Dk.hdr] at hkl;omega
def xD (b off:Nat):sliceArr 128 1 (ptr b off) none none none=some (.slice (some ⟨b,off,none⟩) 128 128):=by unfold sliceArr ptr;have:boundsA 128 128 none none none=some (0,128,128):=rfl;simp only [this,HF,Nat.add_zero,ite_self,Nat.sub_zero]
def bin28n (a b:Int):aE prog .neq 25 (.int .i64 a) (.int .i64 b)=some (.bool (a != b)):=cS ..
def bin28e (a b:Int):aE prog .eql 25 (.int .i64 a) (.int .i64 b)=some (.bool (a==b)):=dm ..
def xR {h g:ae} {d:Nat} {D E:Dk} {i:Int} {l:List Nat} (u:Upd h d D E g) (hi:E.fault i=0) (hl:l.length<=128) (hb : ∀ x∈l,x<256) {g':ae} (h0:g'.n0=g.n0) (hn:g'.next=g.next)
  (hg:g'.get E.bb=some ((ey E.img (i.toNat*128) l).map u8)) (ho : ∀ e,e≠E.bb->g'.getB e=g.getB e) :
  br g' d (E.lay i l)/\(∀ c,c≠d->c≠D.bb->g'.getB c=h.getB c):=by
 have o:=Dk.Cy u.is hi hl hb;refine ⟨⟨?_,hg,by rw [o.len];exact u.is.len,o.byte,by rw [h0];exact u.is.dn,by rw [h0];exact u.is.bn,u.is.ne,u.is.small,u.is.after,u.is.keep⟩,?_⟩
 ·rw [get_of (ho d u.is.ne)];exact u.is.hdr
 ·intro c h1 h2;rw [ho c (by rw [u.like.bb];exact h2)];exact u.getB c h1
def is178:bJ prog 178 f178 := .of (by kernel_rfl)
structure Wrt (h:ae) (d:Nat) (D E:Dk) (g:ae):Prop where
 is:br g d E
 n0:g.n0=h.n0
 next:g.next=h.next
 getB : ∀ c,c≠d->c≠D.bb->g.getB c=h.getB c
def r178' {d:Nat} {D:Dk} {h:ae} (x:br h d D) (i:Int) {a:Option Addr} {n c:Nat} {l:List Nat} (hl:aq a n h=some l) (hgd:ct a n c=true) :
  ∃ g,CD 178 [ptr d 0,.int .i64 i,.slice a n c] h=some (.int .i64 (D.write i l).1,g)/\Wrt h d D (D.write i l).2 g:=by
 have H105:=r105 i x
 suffices q : ∃ g,t178 CD (ptr d 0) (.int .i64 i) (.slice a n c) h=some (.int .i64 (D.write i l).1,g)/\Wrt h d D (D.write i l).2 g by obtain ⟨g,e,w⟩:=q;exact ⟨g,aJ is178 rfl ((t178_eq _ _ _ _ _).trans e),w⟩
 obtain ⟨hlen,hbyte,_⟩:=ay hl;unfold t178 Dk.write;simp -implicitDefEqProofs only [af,H105,bin28n,aj];by_cases hf:D.fault i=0
 ·obtain ⟨hdn,hi1,hi2⟩:=Dk.xe hf;have hix:idxS 128 (.slice (some ⟨D.bb,0,none⟩) D.n D.n) (.int .i64 i)=some (ptr D.bb (i.toNat*128)):=by unfold idxS;simp only [hi1,hi2,and_self,D8,DK]
  have hroom:i.toNat*128+128<=D.img.length:=by have:=x.len;omega
  simp -implicitDefEqProofs only [hf,EW,af,cV,aj,cS,D8,hlen];by_cases hn:n=128
  ·subst hn;simp -implicitDefEqProofs only [Int.cast_ofNat_Int,EW,af,av,aj,ax,DK,x.l2,dp,D8];cases har:D.armed with
   |false=>
    obtain ⟨g,hc,g0,gn,gb,go⟩:=js (dl:=128) (dc:=128) (s:=none) (c:=c) x.img x.bn hl (off:=i.toNat*128) (by simpa using hroom);simp -implicitDefEqProofs only [EJ,af,av,aj,ax,DK,x.l0,hix,xD,hc,DJ,D3];rw [Nat.min_self,EB (by omega)] at gb;obtain ⟨y,yo⟩:=xR (.refl x) hf (by omega) hbyte g0 gn gb go;exact ⟨g,rfl,y,g0,gn,yo⟩
   |true=>
    simp -implicitDefEqProofs only [EP,af,av,aj,ax,DK,x.l3,dm,D8];by_cases hz:D.after=0
    ·obtain ⟨kn,hk⟩ : ∃ kn:Nat,D.keep=(kn:Int):=⟨D.keep.toNat,by have:=x.keep;omega⟩
     have hk128:kn<=128:=by have:=x.keep;omega
     have hcl:=jF hgd;obtain ⟨a',c',e1,e2,e3⟩:=mZ (vl:=none) (vh:=some (.int .i64 D.keep)) (lo:=0) (hi:=kn) hgd hl (by omega) hk128 (by simp only [boundA];rw [DR (by omega),hk];rfl) rfl
     obtain ⟨g,hc,g0,gn,gb,go⟩:=js (dl:=128) (dc:=128) (s:=none) (c:=c') x.img x.bn e2 (off:=i.toNat*128) (by omega);have hkt:D.keep.toNat=kn:=by omega
     rw [Nat.sub_zero,GD hk128] at gb hc;rw [FO,HX,Nat.min_self] at gb;obtain ⟨y,yo⟩:=xR (.refl x) hf (l:=l.take kn) (by simp;omega) (fun q hq=>hbyte q (EH hq)) g0 gn gb go;simp -implicitDefEqProofs only [hz,D6,af,av,aj,ax,DK,x.l0,hix,xD,x.l4,e1,Nat.sub_zero,hc,D8];have hd2:ld1 (ptr d 4) h=some (.int .i64 D.keep,h):=x.l4;obtain ⟨g2,e49,u2⟩:=r49 y;simp -implicitDefEqProofs only [e49,af,hkt];exact ⟨_,rfl,u2.is,u2.n0.trans g0,u2.next.trans gn,fun c h1 h2=>(u2.getB c h1).trans (yo c h1 h2)⟩
    ·have hz2:(D.after==0)=false:=by simpa using hz
     have hw:IntKind.wrap .i64 (D.after-1)=D.after-1:=wrap_i64 (by have:=x.after;omega) (by have:=x.after;omega);have u1:Upd h d D { D with after:=D.after-1 } _:=(Upd.refl x).step ⟨rfl,rfl,rfl⟩ ⟨by have:=x.after;show 0<=D.after-1;omega,by have:=x.after;show D.after-1<=_;omega⟩ x.keep;have hl2:aq a 128 (h.set d { D with after:=D.after-1 }.hdr)=some l:=by rw [jt (h:=h) (fun y hy=>ae.jC x.dn x.lt _ (x.bytes_off hl (by omega) y hy))];exact hl
     obtain ⟨g,hc,g0,gn,gb,go⟩:=js (dl:=128) (dc:=128) (s:=none) (c:=c) u1.is.img u1.is.bn hl2 (off:=i.toNat*128) (by simpa using hroom);rw [Nat.min_self,EB (by omega)] at gb;obtain ⟨y,yo⟩:=xR u1 hf (by omega) hbyte g0 gn gb go;have hc:iv 1 (.slice (some ⟨D.bb,i.toNat*128,none⟩) 128 128) (.slice a 128 c) (h.set d { D with after:=D.after-1 }.hdr)=some (ak (min 128 128),g):=hc;have l0:ld1 (ptr d 0) (h.set d { D with after:=D.after-1 }.hdr)=some (.slice (some ⟨D.bb,0,none⟩) D.n D.n,h.set d { D with after:=D.after-1 }.hdr):=u1.is.l0;simp -implicitDefEqProofs only [hz2,af,av,aj,ax,DK,x.l3,gu,hw,x.s3,l0,hix,xD,hz,D3,hc];exact ⟨g,rfl,y,g0.trans u1.n0,gn.trans u1.next,yo⟩
  ·have hn2:((n:Int) != 128)=true:=by
    have:(n:Int)≠128:=by omega
    simpa using this
   simp -implicitDefEqProofs only [hn2,af,hn,D3];exact ⟨h,rfl,x,rfl,rfl,fun _ _ _=>rfl⟩
 ·have hf2:(D.fault i != 0)=true:=by simpa using hf
  simp -implicitDefEqProofs only [hf2,af,hf,D3];exact ⟨h,rfl,x,rfl,rfl,fun _ _ _=>rfl⟩
end
end Go.Proofs.YtdhpgacmgebjdaaGreatDoor.W
namespace Go.Proofs.YtdhpgacmgebjdaaGreatDoor.W
open Go Go.Abs
noncomputable section
def newSlice (h:ae) (n:Nat):Vl := .slice (some ⟨h.next,0,none⟩) n n
def Dk.new (h:ae) (n:Nat):Dk:={ bb:=h.next,n:=n,img:=List.replicate (128*n) 0,down:=false,armed:=false,after:=0,keep:=0,turn:=0 }
def zeros1 (n:Nat):dC [.int .u8 0] n=(List.replicate n 0).map u8:=by
 unfold dC;rw [List.map_replicate];induction n with
 |zero=>rfl
 |succ n ih=>rw [IN,GP,ih,List.replicate_succ'];rfl
def mk1 {h:ae} {n c:Nat} (hn:n<=c) (hc:c<=281474976710656) :
  mkR 1 1 (.int .u8 0) (ak n) (ak c) h=some (.slice (some ⟨h.next,0,none⟩) n c,h.alloc ((List.replicate c 0).map u8)):=by
 have e:(Value.int .u8 0).cells = #[.int .u8 0]:=rfl;unfold mkR;simp only [e];rw [DR (by simp only [DN,D7,beq_iff_eq];refine ⟨⟨⟨⟨⟨⟨by omega,by omega⟩,by omega⟩,by omega⟩,rfl⟩,rfl⟩,by decide⟩)]
 rw [Int.toNat_natCast,Int.toNat_natCast,zeros1]
def yk {h:ae} {d:Nat} {D:Dk} (x:br h d D) {i:Nat} (hi:i<D.n):aq (some ⟨D.bb,i*128,none⟩) 128 h=some ((D.img.drop (i*128)).take 128):=by unfold aq;rw [D4];refine ⟨((D.img.drop (i*128)).take 128).map u8,?_,gf (fun y hy=>x.byte y (ET (EH hy)))⟩;simp only [firstA,x.img];rw [DU (by decide),DR ⟨by have:=x.len;simp;omega,tw _ _ _⟩];simp
def wk {h:ae} {b o:Nat} {l:List Nat} {v:Nat} (hg:h.get b=some (l.map u8)) (ho:o<l.length) (hn:h.n0<=b):bX 1 (ptr b o) (u8 v) h=some (undef,h.set b ((l.set o v).map u8)):=by rw [dK hg (by simpa using ho) hn rfl rfl,G8]
def dP {h:ae} {b off n:Nat} {s:Option Nat} {l:List Nat} (hg:h.get b=some (l.map u8)) (hl:off+n<=l.length) (hb : ∀ x∈l,x<256):aq (some ⟨b,off,s⟩) n h=some ((l.drop off).take n):=by
 unfold aq;rw [D4];refine ⟨((l.drop off).take n).map u8,?_,gf (fun y hy=>hb y (ET (EH hy)))⟩;simp only [firstA,hg,FQ];by_cases h0:n=0
 ·rw [DR h0,h0];rfl
 ·rw [DU h0,DR ⟨by simpa using hl,tw _ _ _⟩];simp
def tY {g:ae} {E:Nat} {a:Option Addr} {n c:Nat} {l:List Nat} (hE:g.n0<=E) (hl:aq a n g=some l) (hn:n<=21000) :
  ∃ b s c' g',appendA 1 1 (.slice (some ⟨E,0,none⟩) 0 0) (.slice a n c) g=some (.slice (some ⟨b,0,s⟩) n c',g')/\aq (some ⟨b,0,s⟩) n g'=some l/\ct (some ⟨b,0,s⟩) n c'=true/\(b=E\/(b=g.next/\g.next<g'.next)) /\
    g'.n0=g.n0/\g.next<=g'.next/\(∀ e,e<g.next->g'.getB e=g.getB e):=by
 obtain ⟨hlen,hb,_⟩:=ay hl;have hf:=jv hl (DO n) (c:=c);rw [EB (by omega)] at hf;have hcond:(!(aN (l.map u8)) || !(decide ((0+n)*1<=140737488355328)) || !(decide (0+n<=4611686018427387904))||decide ((l.map u8).length≠n*1))=false:=by rw [sz,DS (by omega:(0+n)*1<=140737488355328),DS (by omega:0+n<=4611686018427387904),DP (by simp;omega)];rfl
 unfold appendA;simp only [ot,hf];rw [DU (by rw [hcond];decide)];by_cases h0:n=0
 ·subst h0;have:l = []:=EE.1 hlen;subst this;rw [DR (by omega),DR rfl];exact ⟨E,none,0,g,rfl,rfl,rfl,.inl rfl,rfl,DO _,fun _ _=>rfl⟩
 ·rw [DU (by omega)];have f0:firstA 1 0 (.slice (some ⟨E,0,none⟩) 0 0) g=some []:=rfl;simp only [f0];rw [DU (by simp)];refine ⟨g.next,some 1,0+n,g.alloc ([]++l.map u8),by rw [DK],?_,?_,.inr ⟨rfl,by simp⟩,rfl,by simp,?_⟩
  ·rw [List.nil_append,dP (l:=l) (by rw [ae.aX,DR rfl]) (by omega) hb,FO,EB (by omega)]
  ·unfold ct;rw [DK];simp
  ·intro e he;rw [ae.dt,DU (by omega)]
def du {a:Option Addr} {n:Nat} {h:ae} {l:List Nat} (e:aq a n h=some l) (hn:0<n) : ∃ b off s,a=some ⟨b,off,s⟩/\b<h.next:=by obtain ⟨_,_,hat⟩:=ay e;obtain ⟨b,off,s,k,rfl,hk,_⟩:=hat hn;exact ⟨b,off,s,rfl,h.aW hk⟩
def BN (h:ae):fE 1 (.int .u8 0) 0 [] h=some (.slice (some ⟨h.next,0,none⟩) 0 0,h.alloc []):=rfl
end
end Go.Proofs.YtdhpgacmgebjdaaGreatDoor.W
namespace Go.Proofs.YtdhpgacmgebjdaaGreatDoor.W
open Go Go.Abs Tryz
noncomputable section
abbrev aM (h h':ae):Prop:=aw h h' (fun _=>False)
def aM.get {h h':ae} (o:aM h h') {b:Nat} {k:eW} (e:h.get b=some k):h'.get b=some k:=(aw.get o b (h.aW e) (fun h=>h)).trans e
def aM.bytes {h h':ae} (o:aM h h') {a:Option Addr} {n:Nat} {l:List Nat} (e:aq a n h=some l):aq a n h'=some l:=fx e fun _ _=>o.get
def aM.dk {h h':ae} (o:aM h h') {d:Nat} {D:Dk} (x:br h d D):br h' d D:=x.mono o.n0 (aw.get o d x.lt (fun h=>h)) (aw.get o D.bb x.blt (fun h=>h))
def eql22 (a:Option Addr) (n c:Nat):aE prog .eql 22 (.slice a n c) (.slice none 0 0)=some (.bool a.isNone):=by cases a<;>kernel_rfl
def r171 {a:Option Addr} {n c:Nat} {l:List Nat} {h:ae} (hl:aq a n h=some l) (hn:n<=21000) :
  ∃ a' c' h',CD 171 [.slice a n c] h=some (.slice a' n c',h')/\aq a' n h'=some l/\ct a' n c'=true/\aM h h'/\(∀ y,a'=some y->h.next<=y.block)/\(a'.isNone=a.isNone):=by
 cases a with
 |none=>
  have h0:n=0:=by
   obtain ⟨h1,_,h3⟩:=ay hl;by_cases hz:n=0
   ·exact hz
   ·obtain ⟨_,_,_,_,h4,_⟩:=h3 (by omega);cases h4
  subst h0;refine ⟨none,0,h,aJ AS rfl ((qG _ _ _).trans ?_),hl,rfl,aw.refl _ _,fun y hy=>by (cases hy),rfl⟩;unfold t171;simp -implicitDefEqProofs only [af,eql22,aj,Option.isNone_none]
 |some x=>
  have hl1:aq (some x) n (h.alloc [])=some l:=fx hl fun _ _ hc=>ae.iF hc _;obtain ⟨b,s,c',g',e1,e2,e3,e4,e5,e6,e7⟩:=tY (g:=h.alloc []) (E:=h.next) (c:=c) h.n0_le_next hl1 hn;refine ⟨some ⟨b,0,s⟩,c',g',aJ AS rfl ((qG _ _ _).trans ?_),e2,e3,(aw.alloc h [] _).trans ⟨e5,e6,fun d hd _=>e7 d hd⟩,?_,rfl⟩
  ·unfold t171;simp -implicitDefEqProofs only [af,eql22,aj,Option.isNone_some,BN,e1]
  ·intro y hy;cases hy;rcases e4 with e4|⟨e4,_⟩
   ·show h.next<=b;omega
   ·have:(h.alloc []).next=h.next+1:=by simp
    show h.next<=b;omega
def _root_.Go.Abs.aw.bytes {h h':ae} {B:Nat->Prop} (k:aw h h' B) {a:Option Addr} {n:Nat} {l:List Nat} (e:aq a n h=some l) (hb : ∀ y,a=some y->0<n -> ¬B y.block):aq a n h'=some l:=by
 by_cases h0:n=0
 ·subst h0;obtain ⟨hl,_,_⟩:=ay e;have:l = []:=EE.1 hl;subst this;cases a with
  |none=>rfl
  |some x=>unfold aq firstA;simp;rfl
 ·obtain ⟨_,_,h3⟩:=ay e;obtain ⟨b,off,s,c,rfl,hc,_⟩:=h3 (by omega);rw [jt (h:=h) (fun y hy=>by cases hy;exact k.get b (h.aW hc) (hb _ rfl (by omega)))];exact e
def _root_.Go.Abs.aw.dk {h h':ae} {B:Nat->Prop} (k:aw h h' B) {d:Nat} {D:Dk} (x:br h d D) (h1 : ¬B d) (h2 : ¬B D.bb):br h' d D:=x.mono k.n0 (k.get d x.lt h1) (k.get D.bb x.blt h2)
def de {h:ae} {a:Option Addr} {n:Nat} {l:List Nat} (e:aq a n h=some l) {r:Nat} {k:eW} (hk:h.get r=some k) (hv : ∀ v∈k,nat8 v=none) : ∀ y,a=some y->0<n->y.block≠r:=by
 intro y hy hn he;obtain ⟨_,hb,h3⟩:=ay e;obtain ⟨b,off,s,c,rfl,hc,hlen,hat⟩:=h3 hn;cases hy;have:b=r:=he;subst this;rw [hk] at hc;cases hc;have h4:=hat 0 hn;have h5:=hv _ (EC h4);have h6:l.getD 0 0<256:=by
  rw [DV];cases hz:l[0]? with
  |none=>decide
  |some z=>exact hb z (EC hz)
 have h7:nat8 (u8 (l.getD 0 0))=some (l.getD 0 0):=by show (if l.getD 0 0<256 then some (l.getD 0 0) else none)=some (l.getD 0 0);rw [DR h6]
 rw [h7] at h5;cases h5
structure IsR (h:ae) (r:Nat) (l:List Nat) (e:Int):Prop where
 ex : ∃ a n c,h.get r=some [.slice a n c,.int .i64 e]/\aq a n h=some l/\ct a n c=true
 n0:h.n0<=r
 len:l.length<=21000
def IsR.keep {h h':ae} {B:Nat->Prop} {r:Nat} {l:List Nat} {e:Int} (R:IsR h r l e) (k:aM h h'):IsR h' r l e:=by obtain ⟨a,n,c,h1,h2,h3⟩:=R.ex;exact ⟨⟨a,n,c,k.getE h1 (fun h=>h),k.bytes h2,h3⟩,k.n0▸R.n0,R.len⟩
def iL (h:ae) (cs:List Vl) (hc:aN cs=true):box (.agg cs.toArray) h=some (ptr h.next 0,h.alloc cs):=by have e:(Value.agg cs.toArray).cells=cs.toArray:=rfl;unfold box;rw [e,DR (by simpa using hc)];simp [Abs.newRow]
def r110 {a:Option Addr} {n c:Nat} {l:List Nat} {h:ae} (hl:aq a n h=some l) (hn:n<=21000) :
  ∃ r h',CD 110 [.slice a n c] h=some (ptr r 0,h')/\IsR h' r l 0/\aM h h'/\h.next<=r:=by
 obtain ⟨a',c',h1,e1,e2,e3,e4,e5,_⟩:=r171 (c:=c) hl hn;have hb:dG [(.slice none 0 0),(.int .i64 0)] [(0,1,.slice a' n c')]=some (.agg [.slice a' n c',.int .i64 0].toArray):=rfl;refine ⟨h1.next,h1.alloc [.slice a' n c',.int .i64 0],aJ is110 rfl ((BQ _ _ _).trans ?_),⟨⟨a',n,c',by rw [ae.aX,DR rfl],(aw.alloc h1 _ (fun _=>False)).bytes e2 (fun _ _ _ h=>h),e3⟩,?_,?_⟩,e4.trans (aw.alloc h1 _ _),e4.next⟩
 ·unfold t110;simp -implicitDefEqProofs only [af,e1,hb,aj,iL h1 [.slice a' n c',.int .i64 0] rfl]
 ·exact h1.n0_le_next
 ·rw [(ay hl).1];exact hn
def eql210 (b o:Nat):aE prog .eql 210 (ptr b o) (.pointer none)=some (.bool false):=by kernel_rfl
def cZ (a:Int):aE prog .neq 25 (.int .i64 a) (.int .i64 0)=some (.bool (a != 0)):=cS ..
def mN (a:Option Addr) (n c:Nat) (e:Int) : ∀ v ∈ [Value.slice a n c,.int .i64 e],nat8 v=none:=by intro v hv;simp only [EN,EU,GF] at hv;rcases hv with rfl|rfl<;>rfl
def r209 {r:Nat} {l:List Nat} {h:ae} (R:IsR h r l 0) {n:Nat} (hn:n<=l.length) :
  ∃ a' c' h',CD 209 [ptr r 0,ak n] h=some (.slice a' n c',h')/\aq a' n h'=some (l.take n)/\ct a' n c'=true/\IsR h' r (l.drop n) 0/\aw h h' (fun c=>c=r)/\h'.next=h.next:=by
 obtain ⟨a,m,c,h1,h2,h3⟩:=R.ex;have hm:=(ay h2).1;subst hm;have l0:ld1 (ptr r 0) h=some (.slice a l.length c,h):=aP h1 rfl;have l1:ld1 (ptr r 1) h=some (.int .i64 0,h):=aP h1 rfl;obtain ⟨a1,c1,e1,e2,e3⟩:=mZ (vl:=none) (vh:=some (ak n)) (lo:=0) (hi:=n) h3 h2 (by omega) hn (by simp only [boundA,ak];rw [DR (by have:=jF h3;omega)];rfl) rfl;obtain ⟨a2,c2,f1,f2,f3⟩:=mZ (vl:=some (ak n)) (vh:=none) (lo:=n) (hi:=l.length) h3 h2 hn (DO _) rfl (by simp only [boundA,ak];rw [DR (by omega)];rfl);have hst:bX 1 (ptr r 0) (.slice a2 (l.length-n) c2) h=some (undef,h.set r [.slice a2 (l.length-n) c2,.int .i64 0]):=dK h1 (by simp) R.n0 rfl rfl;have kp:aw h (h.set r [.slice a2 (l.length-n) c2,.int .i64 0]) (fun c=>c=r):=aw.set R.n0 h1 (.inr rfl);have hap:=fun {a:Option Addr} {n:Nat} {l:List Nat} (e:aq a n h=some l)=>de e h1 (mN _ _ _ _);rw [FO,Nat.sub_zero] at e2;rw [Nat.sub_zero] at e1 e3;rw [EB (by simp)] at f2;refine ⟨a1,c1,h.set r [.slice a2 (l.length-n) c2,.int .i64 0],aJ yY rfl ((oe _ _ _ _).trans ?_),kp.bytes e2 (hap e2),e3,⟨⟨a2,l.length-n,c2,ae.bL R.n0 h1 _,kp.bytes f2 (hap f2),f3⟩,R.n0,by have:=R.len;simp;omega⟩,kp,rfl⟩;have g1 : ¬((n:Int)<0):=by omega
 have g2 : ¬((n:Int)>(l.length:Int)):=by omega
 unfold t209;simp -implicitDefEqProofs only [af,eql210,aj,aH,D6,az,av,ax,DK,l1,cZ,EW,DJ,D3,ak,bU,g1,FN,l0,cV,dN,g2];rw [show (Value.int .i64 (n:Int))=ak n from rfl,e1];simp -implicitDefEqProofs only [af,aj,l0,f1,hst]
def r7 {r:Nat} {l:List Nat} {h:ae} (R:IsR h r l 0) {n:Nat} (hn:l.length<n) :
  ∃ h',CD 209 [ptr r 0,ak n] h=some (.slice none 0 0,h')/\IsR h' r l 4/\aw h h' (fun c=>c=r)/\h'.next=h.next:=by
 obtain ⟨a,m,c,h1,h2,h3⟩:=R.ex;have hm:=(ay h2).1;subst hm;have l0:ld1 (ptr r 0) h=some (.slice a l.length c,h):=aP h1 rfl;have l1:ld1 (ptr r 1) h=some (.int .i64 0,h):=aP h1 rfl;have hst:bX 1 (ptr r 1) (.int .i64 4) h=some (undef,h.set r [.slice a l.length c,.int .i64 4]):=dK h1 (by simp) R.n0 rfl rfl;have kp:aw h (h.set r [.slice a l.length c,.int .i64 4]) (fun c=>c=r):=aw.set R.n0 h1 (.inr rfl);refine ⟨h.set r [.slice a l.length c,.int .i64 4],aJ yY rfl ((oe _ _ _ _).trans ?_),⟨⟨a,l.length,c,ae.bL R.n0 h1 _,kp.bytes h2 (de h2 h1 (mN _ _ _ _)),h3⟩,R.n0,R.len⟩,kp,rfl⟩;have g1 : ¬((n:Int)<0):=by omega
 have g2:((n:Int)>(l.length:Int)):=by omega
 unfold t209;simp -implicitDefEqProofs only [af,eql210,aj,aH,D6,az,av,ax,DK,l1,cZ,EW,DJ,D3,ak,bU,g1,FN,l0,cV,dN,g2,GO,hst]
def r172 {r:Nat} {l:List Nat} {h:ae} (R:IsR h r l 0) {n:Nat} (hn:n<=l.length) (h8:n<=8) :
  ∃ h',CD 172 [ptr r 0,ak n] h=some (.int .u64 (be (l.take n)),h')/\IsR h' r (l.drop n) 0/\aw h h' (fun c=>c=r)/\h'.next=h.next:=by
 obtain ⟨a,c,h1,e1,e2,e3,e4,e5,e6⟩:=r209 R hn;refine ⟨h1,aJ is172 rfl ((wx _ _ _ _).trans ?_),e4,e5,e6⟩;exact Dz e1 e2 h8
end
end Go.Proofs.YtdhpgacmgebjdaaGreatDoor.W
namespace Go.Proofs.YtdhpgacmgebjdaaGreatDoor.W
open Go Go.Abs
noncomputable section
def IsR.byte {h:ae} {r:Nat} {l:List Nat} {e:Int} (R:IsR h r l e) : ∀ x∈l,x<256:=by obtain ⟨a,n,c,_,h2,_⟩:=R.ex;exact (ay h2).2.1
def IsR.lt {h:ae} {r:Nat} {l:List Nat} {e:Int} (R:IsR h r l e):r<h.next:=by obtain ⟨a,n,c,h1,_,_⟩:=R.ex;exact h.aW h1
def rI {l:List Nat} (hb : ∀ x∈l,x<256) {n:Nat} (hn:n<=l.length):be (l.take n)<256^n:=pN n _ (by simp;omega) fun x hx=>hb x (EH hx)
structure RdOk (h:ae) (r:Nat) (l:List Nat) (n:Nat) (h':ae):Prop where
 rd:IsR h' r (l.drop n) 0
 kept:aw h h' (fun c=>c=r)
 next:h'.next=h.next
section
variable {r:Nat} {l:List Nat} {h:ae} (R:IsR h r l 0)
include R
def r167 (hn:4<=l.length) : ∃ h',CD 167 [ptr r 0] h=some (.int .u32 (be (l.take 4)),h')/\RdOk h r l 4 h':=by obtain ⟨h1,e1,e2,e3,e4⟩:=r172 R hn (by decide);refine ⟨h1,aJ is167 rfl ((t167_eq _ _ _).trans ?_),e2,e3,e4⟩;have e1:CD 172 [ptr r 0,.int .i64 4] h=_:=e1;have hb:=rI R.byte hn;have hw:IntKind.wrap .u32 ((be (l.take 4):Nat):Int)=(be (l.take 4):Nat):=pz (by omega) (by omega);unfold t167;simp -implicitDefEqProofs only [af,e1,bV,hw]
def r112 (hn:8<=l.length) : ∃ h',CD 112 [ptr r 0] h=some (.int .u64 (be (l.take 8)),h')/\RdOk h r l 8 h':=by obtain ⟨h1,e1,e2,e3,e4⟩:=r172 R hn (by decide);refine ⟨h1,aJ is112 rfl ((Du _ _ _).trans ?_),e2,e3,e4⟩;have e1:CD 172 [ptr r 0,.int .i64 8] h=_:=e1;unfold t112;simp -implicitDefEqProofs only [af,e1]
def r111 (hn:1<=l.length) : ∃ h',CD 111 [ptr r 0] h=some (.int .u8 (be (l.take 1)),h')/\RdOk h r l 1 h':=by obtain ⟨h1,e1,e2,e3,e4⟩:=r172 R hn (by decide);refine ⟨h1,aJ is111 rfl ((C9 _ _ _).trans ?_),e2,e3,e4⟩;have e1:CD 172 [ptr r 0,.int .i64 1] h=_:=e1;have hb:=rI R.byte hn;have hw:IntKind.wrap .u8 ((be (l.take 1):Nat):Int)=(be (l.take 1):Nat):=wrap_u8 (by omega) (by omega);unfold t111;simp -implicitDefEqProofs only [af,e1,bV,hw]
def r168 (hn:2<=l.length) : ∃ h',CD 168 [ptr r 0] h=some (.int .u16 (be (l.take 2)),h')/\RdOk h r l 2 h':=by obtain ⟨h1,e1,e2,e3,e4⟩:=r172 R hn (by decide);refine ⟨h1,aJ is168 rfl ((Ck _ _ _).trans ?_),e2,e3,e4⟩;have e1:CD 172 [ptr r 0,.int .i64 2] h=_:=e1;have hb:=rI R.byte hn;have hw:IntKind.wrap .u16 ((be (l.take 2):Nat):Int)=(be (l.take 2):Nat):=yh (by omega) (by omega);unfold t168;simp -implicitDefEqProofs only [af,e1,bV,hw]
def r169 {n:Nat} (hn:n<=l.length) : ∃ a' c' h',CD 169 [ptr r 0,ak n] h=some (.slice a' n c',h')/\aq a' n h'=some (l.take n)/\ct a' n c'=true/\IsR h' r (l.drop n) 0/\aw h h' (fun c=>c=r) /\
  (∀ y,a'=some y->h.next<=y.block):=by
 obtain ⟨a,c,h1,e1,e2,e3,e4,e5,e6⟩:=r209 R hn;obtain ⟨a',c',h2,f1,f2,f3,f4,f5,_⟩:=r171 (c:=c) e2 (by have:=R.len;omega);refine ⟨a',c',h2,aJ is169 rfl ((vX _ _ _ _).trans ?_),f2,f3,e4.keep (B:=fun _=>False) f4,e5.also f4 (fun _ _ h=>h.elim),fun y hy=>e6▸f5 y hy⟩;unfold t169;simp -implicitDefEqProofs only [af,e1,f1]
def r169_short {n:Nat} (hn:l.length<n) : ∃ h',CD 169 [ptr r 0,ak n] h=some (.slice none 0 0,h')/\IsR h' r l 4/\aw h h' (fun c=>c=r):=by
 obtain ⟨h1,e1,e2,e3,e4⟩:=r7 R hn;obtain ⟨a',c',h2,f1,f2,f3,f4,f5,f6⟩:=r171 (a:=none) (n:=0) (c:=0) (l := []) (h:=h1) rfl (by omega);have ha:a'=none:=by simpa using f6
 subst ha;have f1':CD 171 [.slice none 0 0] h1=some (.slice none 0 0,h1):=by refine aJ AS rfl ((qG _ _ _).trans ?_);unfold t171;simp -implicitDefEqProofs only [af,eql22,aj,Option.isNone_none]
 refine ⟨h1,aJ is169 rfl ((vX _ _ _ _).trans ?_),e2,e3⟩;unfold t169;simp -implicitDefEqProofs only [af,e1,f1']
end
def r170 {r:Nat} {l:List Nat} {h:ae} {e:Int} (R:IsR h r l e):CD 170 [ptr r 0] h=some (.int .i64 e,h):=by obtain ⟨a,n,c,h1,_,_⟩:=R.ex;have l1:ld1 (ptr r 1) h=some (.int .i64 e,h):=aP h1 rfl;refine aJ is170 rfl ((DG _ _ _).trans ?_);unfold t170;simp -implicitDefEqProofs only [af,eql210,aj,av,ax,DK,l1]
def Dk.blk (D:Dk) (i:Nat):List Nat:=(D.img.drop (i*128)).take 128
def Dk.rC {h:ae} {d:Nat} {D:Dk} (x:br h d D) {i:Nat} (hi:i<D.n):(D.blk i).length=128:=by have:=x.len;simp only [Dk.blk,E0,FK];omega
def Dk.yy {h:ae} {d:Nat} {D:Dk} (x:br h d D) (i:Nat) : ∀ y∈D.blk i,y<256:=fun y hy=>x.byte y (ET (EH hy))
def right (b:List Nat):Bool:=be (b.take 4)==vS (b.drop 4)
def nG (a b:Nat):((a:Int)==(b:Int))=(a==b):=by
 by_cases h:a=b
 ·subst h;rw [D6,D6]
 ·have h1 : ¬((a:Int)=(b:Int)):=by omega
  rw [GJ.2 h1,GJ.2 h]
def arr128_4 (b off:Nat):sliceArr 128 1 (ptr b off) (some (.int .i64 4)) none none=some (.slice (some ⟨b,off+4,none⟩) 124 124):=rfl
def r166 {d:Nat} {D:Dk} {h:ae} (x:br h d D) {i:Nat} (hi:i<D.n) :
  ∃ r h',CD 166 [ptr d 0,ak i] h=some (.tuple #[ptr r 0,.bool (right (D.blk i))],h')/\IsR h' r ((D.blk i).drop 4) 0/\aM h h'/\h.next<=r:=by
 have hb:aq (some ⟨D.bb,i*128,none⟩) 128 h=some (D.blk i):=yk x hi;have hlen:=Dk.rC x hi;obtain ⟨r,h1,e1,e2,e3,e4⟩:=r110 (c:=128) hb (by omega);obtain ⟨h2,f1,f2⟩:=r167 e2 (show 4<=(D.blk i).length by omega);have x2:br h2 d D:=f2.kept.dk (e3.dk x) (by have:=x.lt;omega) (by have:=x.blt;omega);have hix:idxS 128 (.slice (some ⟨D.bb,0,none⟩) D.n D.n) (ak i)=some (ptr D.bb (i*128)):=by unfold idxS;simp only [ak];rw [DR (by omega),Int.toNat_natCast,DK]
 have hs:aq (some ⟨D.bb,i*128+4,none⟩) 124 h2=some ((D.blk i).drop 4):=by have:=fX (s':=none) (yk x2 hi) (lo:=4) (hi:=128) (by decide) (by decide);rw [this];exact E2 some (EB (by simp only [FK];unfold Dk.blk at hlen;omega))
 have hc:CD 208 [.slice (some ⟨D.bb,i*128+4,none⟩) 124 124] h2=some (u32 (vS ((D.blk i).drop 4)),h2):=by refine tb ?_;rw [X208];unfold s208;simp only [hs];rfl
 refine ⟨r,h2,aJ is166 rfl ((t166_eq _ _ _ _).trans ?_),f2.rd,e3.also f2.kept (fun c h1 h2=>by omega),e4⟩;unfold t166;simp -implicitDefEqProofs only [af,aj,av,ax,DK,x.l0,hix,xD,e1,f1,x2.l0,arr128_4,hc,u32,dm,nG,right]
def bS (b:List Nat):Nat:=be ((b.drop 8).take 8)
def eo (b:List Nat):Nat:=be ((b.drop 16).take 1)
def dz (b:List Nat):Bool:=right b&&(be ((b.drop 4).take 4)==1398034252)&&decide (eo b<=1)
def r106 {d:Nat} {D:Dk} {h:ae} (x:br h d D) {i:Nat} (hi:i<D.n) :
  ∃ h',CD 106 [ptr d 0,ak i] h=some (.tuple #[.int .u64 (bS (D.blk i)),ak (eo (D.blk i)),.bool (dz (D.blk i))],h')/\aM h h':=by
 have hlen:=Dk.rC x hi;have hbb:=Dk.yy x i;obtain ⟨r,h1,e1,R1,o1,g1⟩:=r166 x hi;obtain ⟨h2,e2,R2⟩:=r167 R1 (by simp;omega);obtain ⟨h3,e3,R3⟩:=r112 R2.rd (by simp;omega);obtain ⟨h4,e4,R4⟩:=r111 R3.rd (by simp;omega);simp only [F4,Nat.reduceAdd] at e2 e3 e4;have ha:be (((D.blk i).drop 16).take 1)<256:=pN 1 _ (by simp;omega) fun y hy=>hbb y (ET (EH hy));have hw:IntKind.wrap .i64 ((be (((D.blk i).drop 16).take 1):Nat):Int)=(be (((D.blk i).drop 16).take 1):Nat):=wrap_i64 (by omega) (by omega);refine ⟨h4,aJ is106 rfl ((t106_eq _ _ _ _).trans ?_),((o1.also R2.kept (fun c h1 h2=>by omega)).also R3.kept (fun c h1 h2=>by omega)).also R4.kept (fun c h1 h2=>by omega)⟩;have hx0 : ∀ a b:Vl,extractA (.tuple #[a,b]) 0=some a:=fun _ _=>rfl;have hx1 : ∀ a b:Vl,extractA (.tuple #[a,b]) 1=some b:=fun _ _=>rfl;have hm:((1398034252:Int))=((1398034252:Nat):Int):=rfl;unfold t106 dz bS eo;simp -implicitDefEqProofs only [af,e1,hx0,hx1,aj,e2,e3,e4,bV,hw,aH];cases right (D.blk i) with
 |false=>
  simp -implicitDefEqProofs only [fs,aG,af,DJ,D3,aH,E4]
 |true=>
  simp -implicitDefEqProofs only [D6,az,af,aj,dm,D8,aH,E3,hm,nG];cases be (((D.blk i).drop 4).take 4)==1398034252 with
  |false=>simp -implicitDefEqProofs only [fs,aG,af,DJ,D3,E4]
  |true=>
   simp -implicitDefEqProofs only [D6,az,af,aj,nW,D8,E3,ak];have:decide (((be (((D.blk i).drop 16).take 1):Nat):Int)<=1)=decide (be (((D.blk i).drop 16).take 1)<=1):=F9.2 (by omega);rw [this]
def Dk.ar (D:Dk):Nat:=(D.n-2)/2
def yA {d:Nat} {D:Dk} {h:ae} (x:br h d D) (h2:2<=D.n):CD 107 [ptr d 0] h=some (ak D.ar,h):=by
 refine aJ is107 rfl ((t107_eq _ _ _).trans ?_);have hs:=x.small;have w1:IntKind.wrap .i64 ((D.n:Int)-2)=((D.n-2:Nat):Int):=by rw [wrap_i64 (by omega) (by omega)];omega
 have w2:IntKind.wrap .i64 (((D.n-2:Nat):Int).tdiv 2)=((D.ar:Nat):Int):=by
  have:((D.n-2:Nat):Int).tdiv 2=(((D.n-2)/2:Nat):Int):=by rw [H8 (by omega)];rfl
  rw [this,wrap_i64 (by omega) (by omega)];rfl
 unfold t107;simp -implicitDefEqProofs only [af,aj,av,ax,DK,x.l0,cV,gu,w1,sP _ _ _ _ _ (show (2:Int)≠0 by decide),w2]
end
end Go.Proofs.YtdhpgacmgebjdaaGreatDoor.W
