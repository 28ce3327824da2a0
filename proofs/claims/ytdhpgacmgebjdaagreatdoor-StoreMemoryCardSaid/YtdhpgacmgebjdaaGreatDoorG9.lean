/-
  A part of the proof, shortened by a program.
  Conditions: as each theorem states.
-/
import Derived.Test.YtdhpgacmgebjdaaGreatDoorG8
import Derived.Test.YtdhpgacmgebjdaaGreatDoorProg
import Derived.KernelRfl
set_option linter.all false
namespace Go.Proofs.YtdhpgacmgebjdaaGreatDoor
open Go Go.Abs Tryz
noncomputable section
section
variable (C:ah) (x:Nat->Vl) (x0 x1 x2 x3 x4 x5:Vl) (h:ae)
def k208_2 (C:ah) (e:aO) (h:ae):aY:=codeK prog C (aq f208 [1,1,1]) e h (resultsA prog f208.results.toList) (resultsA prog f208.results.toList) (fun _ _ _=>none)
def b208_4 (C:ah) (i:Nat) (e:aO) (h:ae):aY:=if i=0 then (k208_2 C) e h else (fun _ _ _=>none) i e h
def k208_6 (C:ah) (e:aO) (h:ae):aY:=codeK prog C (aq f208 [1,1,1,1,1]) e h (resultsA prog f208.results.toList) (resultsA prog f208.results.toList) (fun _ _ _=>none)
def b208_8 (C:ah) (i:Nat) (e:aO) (h:ae):aY:=if i=4 then (k208_6 C) e h else (fun _ _ _=>none) i e h
def tC (C:ah) (e:aO) (h:ae):Option (Ex×aO×ae):=codeK prog C (aq f208 [1,1,0,1,0,0,1,1,1]) e h (fun e h=>some (Ex.normal,e,h)) (fun e h=>some (Ex.ret,e,h)) (fun i e h=>some (Ex.exit i,e,h))
def Cr (C:ah) (i:Nat) (e:aO) (h:ae):Option (Ex×aO×ae):=if i=1 then (tC C) e h else (fun i e h=>some (Ex.exit i,e,h)) i e h
def k208_15 (C:ah) (e:aO) (h:ae):Option (Ex×aO×ae):=codeK prog C (aq f208 [1,1,0,1,0,0,1,1,0,0,1,1,1]) e h (tC C) (fun e h=>some (Ex.ret,e,h)) (Cr C)
def b208_17 (C:ah) (i:Nat) (e:aO) (h:ae):Option (Ex×aO×ae):=if i=2 then (k208_15 C) e h else (Cr C) i e h
def t208 (C:ah) (x0:Vl) (h:ae):aY:=
 aa (some ((.int .u32 0),h)) fun a h=>
 aa (cO (List.replicate 16 (.int .u32 0)) h) fun b h=>
 aa (some ((.int .i64 0),h)) fun c h=>
 dH (iter (codeA prog C (aq f208 [1,1,0,1,0,0])) az (aS 54 (up (bs [x0]) [(2,a),(3,b),(9,c)])) h) (resultsA prog f208.results.toList) (b208_4 C)
def sI (C:ah) (x:Nat->Vl) (h:ae):aY:=
 aa (some ((.int .u32 4294967295),h)) fun b h=>
 aa (some ((x 0),h)) fun a h=>
 aa (pu (cg a) h) fun c h=>
 aa (some ((.int .i64 0),h)) fun d h=>
 dH (iter (codeA prog C (aq f208 [1,1,1,1,0,1,0,0])) az (aS 54 (up x [(6,b),(27,a),(28,c),(29,d)])) h) (resultsA prog f208.results.toList) (b208_8 C)
def lO (C:ah) (x:Nat->Vl) (h:ae):Option (Ex×aO×ae):=
 aa (pu (aA prog .lss 3 (x 9) (.int .i64 16)) h) fun a h=>
 (match a with
 | .bool true=>
 aa (some ((x 9),h)) fun b h=>
 aa (some (b,h)) fun c h=>
 aa (some (c,h)) fun d h=>
 aa (iQ .u32 d h) fun f h=>
 aa (some (f,h)) fun g h=>
 aa (some ((.int .i64 0),h)) fun j h=>
 dH (iter (codeA prog C (aq f208 [1,1,0,1,0,0,1,1,0,0,1,1,0,1,0,0])) az (aS 54 (up x [(4,c),(5,g),(10,a),(11,b),(12,d),(13,f),(14,j)])) h) (fun e h=>some (Ex.ret,e,h)) (b208_17 C)
 | .bool false=>
 some (.exit 0,(aS 54 (up x [(10,a)])),h)
 |_=>none)
def sy (C:ah) (x:Nat->Vl) (h:ae):aY:=
 aa (some ((x 6),h)) fun fD h=>
 aa (pu (unA .xor fD) h) fun a h=>
 aa (some (a,h)) fun b h=>
 some (b,h)
def fp (C:ah) (x:Nat->Vl) (h:ae):Option (Ex×aO×ae):=
 aa (pu (aA prog .lss 3 (x 29) (x 28)) h) fun a h=>
 (match a with
 | .bool true=>
 aa (pu (idxS 1 (x 27) (x 29)) h) fun b h=>
 aa (ld1 b h) fun c h=>
 aa (some (c,h)) fun d h=>
 aa (some ((x 6),h)) fun f h=>
 aa (some (d,h)) fun dU h=>
 aa (iQ .u32 dU h) fun dI h=>
 aa (pu (aA prog .xor 186 f dI) h) fun ee h=>
 aa (some (ee,h)) fun g h=>
 aa (some (g,h)) fun j h=>
 aa (pu (aA prog .and 186 j (.int .u32 15)) h) fun k h=>
 aa (pu (idxA 16 1 (x 3) k) h) fun l h=>
 aa (ld1 l h) fun m h=>
 aa (some (g,h)) fun n h=>
 aa (pu (aA prog .shr 186 n (.int .u64 4)) h) fun o h=>
 aa (pu (aA prog .xor 186 m o) h) fun p h=>
 aa (some (p,h)) fun q h=>
 aa (some (q,h)) fun r h=>
 aa (pu (aA prog .and 186 r (.int .u32 15)) h) fun s h=>
 aa (pu (idxA 16 1 (x 3) s) h) fun t h=>
 aa (ld1 t h) fun u h=>
 aa (some (q,h)) fun v h=>
 aa (pu (aA prog .shr 186 v (.int .u64 4)) h) fun w h=>
 aa (pu (aA prog .xor 186 u w) h) fun gP h=>
 aa (some (gP,h)) fun y h=>
 aa (pu (aA prog .add 3 (x 29) (.int .i64 1)) h) fun fU h=>
 aa (some (fU,h)) fun z h=>
 some (.normal,(aS 54 (up x [(6,y),(8,d),(29,z),(30,a),(31,b),(32,c),(33,f),(34,dU),(35,dI),(36,ee),(37,j),(38,k),(39,l),(40,m),(41,n),(42,o),(43,p),(44,r),(45,s),(46,t),(47,u),(48,v),(49,w),(50,gP),(51,fU)])),h)
 | .bool false=>
 some (.exit 4,(aS 54 (up x [(30,a)])),h)
 |_=>none)
def pw (C:ah) (x:Nat->Vl) (h:ae):Option (Ex×aO×ae):=
 aa (pu (aA prog .add 3 (x 9) (.int .i64 1)) h) fun a h=>
 aa (some (a,h)) fun b h=>
 some (.normal,(aS 54 (up x [(9,b),(26,a)])),h)
def qq (C:ah) (x:Nat->Vl) (h:ae):Option (Ex×aO×ae):=
 aa (some ((x 4),h)) fun a h=>
 aa (some ((x 5),h)) fun b h=>
 aa (pu (idxA 16 1 (x 3) a) h) fun c h=>
 aa (bI 1 c b h) fun _ h=>
 tC C (aS 54 (up x [(23,a),(24,b),(25,c)])) h
def eS (C:ah) (x:Nat->Vl) (h:ae):Option (Ex×aO×ae):=
 aa (pu (aA prog .lss 3 (x 14) (.int .i64 4)) h) fun a h=>
 (match a with
 | .bool true=>
 aa (some ((x 5),h)) fun b h=>
 aa (pu (aA prog .shr 186 b (.int .u64 1)) h) fun c h=>
 aa (some ((x 5),h)) fun d h=>
 aa (pu (aA prog .and 186 d (.int .u32 1)) h) fun f h=>
 aa (pu (aA prog .mul 186 (.int .u32 2197175160) f) h) fun g h=>
 aa (pu (aA prog .xor 186 c g) h) fun j h=>
 aa (some (j,h)) fun l h=>
 aa (pu (aA prog .add 3 (x 14) (.int .i64 1)) h) fun k h=>
 aa (some (k,h)) fun m h=>
 some (.normal,(aS 54 (up x [(5,l),(14,m),(15,a),(16,b),(17,c),(18,d),(19,f),(20,g),(21,j),(22,k)])),h)
 | .bool false=>
 some (.exit 2,(aS 54 (up x [(15,a)])),h)
 |_=>none)
def t208_eq:aV prog C f208 [x0] h=t208 C x0 h:=
 lkT (by kernel_rfl) (by kernel_rfl)
def zO:k208_2 C (aS 54 x) h=sI C x h:=
 bg (T:=sI C) (fun x h=>by kernel_rfl) x h
def te:codeA prog C (aq f208 [1,1,0,1,0,0]) (aS 54 x) h=lO C x h:=
 aW (T:=lO C) (fun x h=>by kernel_rfl) x h
def zY:k208_6 C (aS 54 x) h=sy C x h:=
 bg (T:=sy C) (fun x h=>by kernel_rfl) x h
def rk:codeA prog C (aq f208 [1,1,1,1,0,1,0,0]) (aS 54 x) h=fp C x h:=
 aW (T:=fp C) (fun x h=>by kernel_rfl) x h
def xB:tC C (aS 54 x) h=pw C x h:=
 bg (T:=pw C) (fun x h=>by kernel_rfl) x h
def zw:k208_15 C (aS 54 x) h=qq C x h:=
 bg (T:=qq C) (fun x h=>by kernel_rfl) x h
def kK:codeA prog C (aq f208 [1,1,0,1,0,0,1,1,0,0,1,1,0,1,0,0]) (aS 54 x) h=eS C x h:=
 aW (T:=eS C) (fun x h=>by kernel_rfl) x h
end
end
end Go.Proofs.YtdhpgacmgebjdaaGreatDoor
