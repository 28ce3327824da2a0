/-
  A part of the proof, shortened by a program.
  Conditions: as each theorem states.
-/
import Derived.Test.YtdhpgacmgebjdaaGreatDoorG8
import Derived.Test.YtdhpgacmgebjdaaGreatDoorProg
import Derived.KernelRfl
set_option linter.all false
namespace Go.Proofs.YtdhpgacmgebjdaaGreatDoor
open Go Go.Abs Tryz
noncomputable section
section
variable (C:ah) (x:Nat->Vl) (x0 x1 x2 x3 x4 x5:Vl) (h:ae)
def k208_2 (C:ah) (e:aQ) (h:ae):ba:=codeK prog C (al f208 [1,1,1]) e h (resultsA prog f208.results.toList) (resultsA prog f208.results.toList) (fun _ _ _=>none)
def b208_4 (C:ah) (i:Nat) (e:aQ) (h:ae):ba:=if i=0 then (k208_2 C) e h else (fun _ _ _=>none) i e h
def k208_6 (C:ah) (e:aQ) (h:ae):ba:=codeK prog C (al f208 [1,1,1,1,1]) e h (resultsA prog f208.results.toList) (resultsA prog f208.results.toList) (fun _ _ _=>none)
def b208_8 (C:ah) (i:Nat) (e:aQ) (h:ae):ba:=if i=4 then (k208_6 C) e h else (fun _ _ _=>none) i e h
def sU (C:ah) (e:aQ) (h:ae):Option (Ex×aQ×ae):=codeK prog C (al f208 [1,1,0,1,0,0,1,1,1]) e h (fun e h=>some (Ex.normal,e,h)) (fun e h=>some (Ex.ret,e,h)) (fun i e h=>some (Ex.exit i,e,h))
def BX (C:ah) (i:Nat) (e:aQ) (h:ae):Option (Ex×aQ×ae):=if i=1 then (sU C) e h else (fun i e h=>some (Ex.exit i,e,h)) i e h
def k208_15 (C:ah) (e:aQ) (h:ae):Option (Ex×aQ×ae):=codeK prog C (al f208 [1,1,0,1,0,0,1,1,0,0,1,1,1]) e h (sU C) (fun e h=>some (Ex.ret,e,h)) (BX C)
def b208_17 (C:ah) (i:Nat) (e:aQ) (h:ae):Option (Ex×aQ×ae):=if i=2 then (k208_15 C) e h else (BX C) i e h
def t208 (C:ah) (x0:Vl) (h:ae):ba:=
 aa (some ((.int .u32 0),h)) fun a h=>
 aa (dj (List.replicate 16 (.int .u32 0)) h) fun b h=>
 aa (some ((.int .i64 0),h)) fun c h=>
 fb (iter (codeA prog C (al f208 [1,1,0,1,0,0])) aK (aT 54 (up (bs [x0]) [(2,a),(3,b),(9,c)])) h) (resultsA prog f208.results.toList) (b208_4 C)
def sC (C:ah) (x:Nat->Vl) (h:ae):ba:=
 aa (some ((.int .u32 4294967295),h)) fun b h=>
 aa (some ((x 0),h)) fun a h=>
 aa (pu (cI a) h) fun c h=>
 aa (some ((.int .i64 0),h)) fun d h=>
 fb (iter (codeA prog C (al f208 [1,1,1,1,0,1,0,0])) aK (aT 54 (up x [(6,b),(27,a),(28,c),(29,d)])) h) (resultsA prog f208.results.toList) (b208_8 C)
def kY (C:ah) (x:Nat->Vl) (h:ae):Option (Ex×aQ×ae):=
 aa (pu (aE prog .lss 3 (x 9) (.int .i64 16)) h) fun a h=>
 (match a with
 | .bool true=>
 aa (some ((x 9),h)) fun b h=>
 aa (some (b,h)) fun c h=>
 aa (some (c,h)) fun d h=>
 aa (iD .u32 d h) fun f h=>
 aa (some (f,h)) fun g h=>
 aa (some ((.int .i64 0),h)) fun j h=>
 fb (iter (codeA prog C (al f208 [1,1,0,1,0,0,1,1,0,0,1,1,0,1,0,0])) aK (aT 54 (up x [(4,c),(5,g),(10,a),(11,b),(12,d),(13,f),(14,j)])) h) (fun e h=>some (Ex.ret,e,h)) (b208_17 C)
 | .bool false=>
 some (.exit 0,(aT 54 (up x [(10,a)])),h)
 |_=>none)
def rV (C:ah) (x:Nat->Vl) (h:ae):ba:=
 aa (some ((x 6),h)) fun a h=>
 aa (pu (unA .xor a) h) fun b h=>
 aa (some (b,h)) fun c h=>
 some (c,h)
def eZ (C:ah) (x:Nat->Vl) (h:ae):Option (Ex×aQ×ae):=
 aa (pu (aE prog .lss 3 (x 29) (x 28)) h) fun a h=>
 (match a with
 | .bool true=>
 aa (pu (idxS 1 (x 27) (x 29)) h) fun b h=>
 aa (ld1 b h) fun c h=>
 aa (some (c,h)) fun d h=>
 aa (some ((x 6),h)) fun f h=>
 aa (some (d,h)) fun g h=>
 aa (iD .u32 g h) fun j h=>
 aa (pu (aE prog .xor 186 f j) h) fun k h=>
 aa (some (k,h)) fun l h=>
 aa (some (l,h)) fun m h=>
 aa (pu (aE prog .and 186 m (.int .u32 15)) h) fun n h=>
 aa (pu (idxA 16 1 (x 3) n) h) fun o h=>
 aa (ld1 o h) fun p h=>
 aa (some (l,h)) fun q h=>
 aa (pu (aE prog .shr 186 q (.int .u64 4)) h) fun r h=>
 aa (pu (aE prog .xor 186 p r) h) fun s h=>
 aa (some (s,h)) fun t h=>
 aa (some (t,h)) fun u h=>
 aa (pu (aE prog .and 186 u (.int .u32 15)) h) fun v h=>
 aa (pu (idxA 16 1 (x 3) v) h) fun w h=>
 aa (ld1 w h) fun y h=>
 aa (some (t,h)) fun z h=>
 aa (pu (aE prog .shr 186 z (.int .u64 4)) h) fun A h=>
 aa (pu (aE prog .xor 186 y A) h) fun B h=>
 aa (some (B,h)) fun E h=>
 aa (pu (aE prog .add 3 (x 29) (.int .i64 1)) h) fun D h=>
 aa (some (D,h)) fun F h=>
 some (.normal,(aT 54 (up x [(6,E),(8,d),(29,F),(30,a),(31,b),(32,c),(33,f),(34,g),(35,j),(36,k),(37,m),(38,n),(39,o),(40,p),(41,q),(42,r),(43,s),(44,u),(45,v),(46,w),(47,y),(48,z),(49,A),(50,B),(51,D)])),h)
 | .bool false=>
 some (.exit 4,(aT 54 (up x [(30,a)])),h)
 |_=>none)
def oP (C:ah) (x:Nat->Vl) (h:ae):Option (Ex×aQ×ae):=
 aa (pu (aE prog .add 3 (x 9) (.int .i64 1)) h) fun a h=>
 aa (some (a,h)) fun b h=>
 some (.normal,(aT 54 (up x [(9,b),(26,a)])),h)
def pP (C:ah) (x:Nat->Vl) (h:ae):Option (Ex×aQ×ae):=
 aa (some ((x 4),h)) fun a h=>
 aa (some ((x 5),h)) fun b h=>
 aa (pu (idxA 16 1 (x 3) a) h) fun c h=>
 aa (bX 1 c b h) fun _ h=>
 sU C (aT 54 (up x [(23,a),(24,b),(25,c)])) h
def eP (C:ah) (x:Nat->Vl) (h:ae):Option (Ex×aQ×ae):=
 aa (pu (aE prog .lss 3 (x 14) (.int .i64 4)) h) fun a h=>
 (match a with
 | .bool true=>
 aa (some ((x 5),h)) fun b h=>
 aa (pu (aE prog .shr 186 b (.int .u64 1)) h) fun c h=>
 aa (some ((x 5),h)) fun d h=>
 aa (pu (aE prog .and 186 d (.int .u32 1)) h) fun f h=>
 aa (pu (aE prog .mul 186 (.int .u32 2197175160) f) h) fun g h=>
 aa (pu (aE prog .xor 186 c g) h) fun j h=>
 aa (some (j,h)) fun l h=>
 aa (pu (aE prog .add 3 (x 14) (.int .i64 1)) h) fun k h=>
 aa (some (k,h)) fun m h=>
 some (.normal,(aT 54 (up x [(5,l),(14,m),(15,a),(16,b),(17,c),(18,d),(19,f),(20,g),(21,j),(22,k)])),h)
 | .bool false=>
 some (.exit 2,(aT 54 (up x [(15,a)])),h)
 |_=>none)
def t208_eq:aY prog C f208 [x0] h=t208 C x0 h:=
 lkT (by kernel_rfl) (by kernel_rfl)
def zR:k208_2 C (aT 54 x) h=sC C x h:=
 bI (T:=sC C) (fun x h=>by kernel_rfl) x h
def sV:codeA prog C (al f208 [1,1,0,1,0,0]) (aT 54 x) h=kY C x h:=
 aF (T:=kY C) (fun x h=>by kernel_rfl) x h
def zV:k208_6 C (aT 54 x) h=rV C x h:=
 bI (T:=rV C) (fun x h=>by kernel_rfl) x h
def qR:codeA prog C (al f208 [1,1,1,1,0,1,0,0]) (aT 54 x) h=eZ C x h:=
 aF (T:=eZ C) (fun x h=>by kernel_rfl) x h
def xw:sU C (aT 54 x) h=oP C x h:=
 bI (T:=oP C) (fun x h=>by kernel_rfl) x h
def yW:k208_15 C (aT 54 x) h=pP C x h:=
 bI (T:=pP C) (fun x h=>by kernel_rfl) x h
def j9:codeA prog C (al f208 [1,1,0,1,0,0,1,1,0,0,1,1,0,1,0,0]) (aT 54 x) h=eP C x h:=
 aF (T:=eP C) (fun x h=>by kernel_rfl) x h
end
end
end Go.Proofs.YtdhpgacmgebjdaaGreatDoor
