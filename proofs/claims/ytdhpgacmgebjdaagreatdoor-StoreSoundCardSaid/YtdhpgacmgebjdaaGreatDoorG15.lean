/-
  A part of the proof, shortened by a program.
  Conditions: as each theorem states.
-/
import Derived.Test.YtdhpgacmgebjdaaGreatDoorG14
set_option linter.all false
namespace Go.Proofs.YtdhpgacmgebjdaaGreatDoor
open Go Go.Abs Tryz
noncomputable section
section
variable (C:ah) (x:Nat->Vl) (x0 x1 x2 x3 x4 x5:Vl) (h:ae)
def t209 (C:ah) (x0 x1:Vl) (h:ae):ba:=
 aa (some ((.slice none 0 0),h)) fun Y h=>
 aa (some (x0,h)) fun c h=>
 aa (pu (aE prog .eql 210 c (.pointer none)) h) fun d h=>
 aa (some (d,h)) fun b h=>
 aa (au (bC b==some false) (some (x0,h)) h) fun f h=>
 aa (au (bC b==some false) (pu (nilCheckA f) h) h) fun g h=>
 aa (au (bC b==some false) (pu (aL g 1) h) h) fun j h=>
 aa (au (bC b==some false) (ld1 j h) h) fun k h=>
 aa (au (bC b==some false) (pu (aE prog .neq 25 k (.int .i64 0)) h) h) fun l h=>
 aa (match b with | .bool t=>some (if t then (.bool true) else l,h)|_=>none) fun m h=>
 (match m with
 | .bool true=>
 aa (some ((.slice none 0 0),h)) fun a h=>
 some (a,h)
 | .bool false=>
 aa (some (x1,h)) fun n h=>
 aa (pu (aE prog .lss 3 n (.int .i64 0)) h) fun o h=>
 aa (some (o,h)) fun p h=>
 (match p with
 | .bool true=>
 aa (some (x0,h)) fun q h=>
 aa (pu (nilCheckA q) h) fun r h=>
 aa (pu (aL r 1) h) fun s h=>
 aa (bX 1 s (.int .i64 2) h) fun _ h=>
 aa (some ((.slice none 0 0),h)) fun a h=>
 some (a,h)
 | .bool false=>
 aa (some (x1,h)) fun u h=>
 aa (some (x0,h)) fun v h=>
 aa (pu (nilCheckA v) h) fun w h=>
 aa (pu (aL w 0) h) fun y h=>
 aa (ld1 y h) fun z h=>
 aa (pu (cI z) h) fun A h=>
 aa (pu (aE prog .gtr 3 u A) h) fun B h=>
 aa (some (B,h)) fun D h=>
 (match D with
 | .bool true=>
 aa (some (x0,h)) fun E h=>
 aa (pu (nilCheckA E) h) fun F h=>
 aa (pu (aL F 1) h) fun G h=>
 aa (bX 1 G (.int .i64 4) h) fun _ h=>
 aa (some ((.slice none 0 0),h)) fun a h=>
 some (a,h)
 | .bool false=>
 aa (some (x0,h)) fun H h=>
 aa (pu (nilCheckA H) h) fun I h=>
 aa (pu (aL I 0) h) fun J h=>
 aa (ld1 J h) fun K h=>
 aa (some (x1,h)) fun L h=>
 aa (pu (slR 1 K none (some L) none) h) fun M h=>
 aa (some (M,h)) fun N h=>
 aa (some (x0,h)) fun O h=>
 aa (some (x0,h)) fun P h=>
 aa (pu (nilCheckA P) h) fun Q h=>
 aa (pu (aL Q 0) h) fun R h=>
 aa (ld1 R h) fun S h=>
 aa (some (x1,h)) fun T h=>
 aa (pu (slR 1 S (some T) none none) h) fun U h=>
 aa (pu (nilCheckA O) h) fun V h=>
 aa (pu (aL V 0) h) fun W h=>
 aa (bX 1 W U h) fun _ h=>
 aa (some (N,h)) fun X h=>
 aa (some (X,h)) fun a h=>
 some (a,h)
 |_=>none)
 |_=>none)
 |_=>none)
def oe:aY prog C f209 [x0,x1] h=t209 C x0 x1 h:=
 lkT (by kernel_rfl) (by kernel_rfl)
def k172_2 (C:ah) (e:aQ) (h:ae):ba:=codeK prog C (al f172 [1,1,1]) e h (resultsA prog f172.results.toList) (resultsA prog f172.results.toList) (fun _ _ _=>none)
def b172_4 (C:ah) (i:Nat) (e:aQ) (h:ae):ba:=if i=0 then (k172_2 C) e h else (fun _ _ _=>none) i e h
def t172 (C:ah) (x0 x1:Vl) (h:ae):ba:=
 aa (some ((.int .u64 0),h)) fun d h=>
 aa (some ((.int .u64 0),h)) fun f h=>
 aa (some (x0,h)) fun a h=>
 aa (some (x1,h)) fun b h=>
 aa (C 209 [a,b] h) fun c h=>
 aa (pu (cI c) h) fun g h=>
 aa (some ((.int .i64 0),h)) fun j h=>
 fb (iter (codeA prog C (al f172 [1,1,0,1,0,0])) aK (aT 23 (up (bs [x0,x1]) [(4,d),(5,f),(8,a),(9,b),(10,c),(11,g),(12,j)])) h) (resultsA prog f172.results.toList) (b172_4 C)
def rF (C:ah) (x:Nat->Vl) (h:ae):ba:=
 aa (some ((x 5),h)) fun a h=>
 aa (some (a,h)) fun b h=>
 some (b,h)
def kO (C:ah) (x:Nat->Vl) (h:ae):Option (Ex×aQ×ae):=
 aa (pu (aE prog .lss 3 (x 12) (x 11)) h) fun a h=>
 (match a with
 | .bool true=>
 aa (pu (idxS 1 (x 10) (x 12)) h) fun b h=>
 aa (ld1 b h) fun c h=>
 aa (some (c,h)) fun d h=>
 aa (some ((x 5),h)) fun f h=>
 aa (pu (aE prog .shl 52 f (.int .u64 8)) h) fun g h=>
 aa (some (d,h)) fun j h=>
 aa (iD .u64 j h) fun k h=>
 aa (pu (aE prog .or 52 g k) h) fun l h=>
 aa (some (l,h)) fun n h=>
 aa (pu (aE prog .add 3 (x 12) (.int .i64 1)) h) fun m h=>
 aa (some (m,h)) fun o h=>
 some (.normal,(aT 23 (up x [(5,n),(7,d),(12,o),(13,a),(14,b),(15,c),(16,f),(17,g),(18,j),(19,k),(20,l),(21,m)])),h)
 | .bool false=>
 some (.exit 0,(aT 23 (up x [(13,a)])),h)
 |_=>none)
def wx:aY prog C f172 [x0,x1] h=t172 C x0 x1 h:=
 lkT (by kernel_rfl) (by kernel_rfl)
def Al:k172_2 C (aT 23 x) h=rF C x h:=
 bI (T:=rF C) (fun x h=>by kernel_rfl) x h
def tH:codeA prog C (al f172 [1,1,0,1,0,0]) (aT 23 x) h=kO C x h:=
 aF (T:=kO C) (fun x h=>by kernel_rfl) x h
def t171 (C:ah) (x0:Vl) (h:ae):ba:=
 aa (some ((.slice none 0 0),h)) fun j h=>
 aa (some (x0,h)) fun b h=>
 aa (pu (aE prog .eql 22 b (.slice none 0 0)) h) fun c h=>
 (match c with
 | .bool true=>
 aa (some ((.slice none 0 0),h)) fun a h=>
 some (a,h)
 | .bool false=>
 aa (fE 1 (.int .u8 0) 0 [] h) fun d h=>
 aa (some (x0,h)) fun f h=>
 aa (appendA 1 1 d f h) fun g h=>
 aa (some (g,h)) fun a h=>
 some (a,h)
 |_=>none)
def qG:aY prog C f171 [x0] h=t171 C x0 h:=
 lkT (by kernel_rfl) (by kernel_rfl)
end
def dZ:prog.follows .mixedOrders=true:=by kernel_rfl
def c136:bq prog 136 cmpS:=Dy (fn:=f136) (by kernel_rfl) (by kernel_rfl) (by kernel_rfl) (by kernel_rfl) (by kernel_rfl)
def COnce:ah:=jc [(232,s232)]
def COnce_sound:aZ prog COnce:=dS _ (by intro p hp;simp only [EN,EU,GF] at hp;subst hp;exact c232)
def s231:List Vl->ae->ba:=onceS COnce
def c231:bq prog 231 s231:=Ab COnce_sound (EO (by kernel_rfl))
abbrev XB:ah:=jc []
def XB_sound:aZ prog XB:=dS _ (fun _ hp=>by cases hp)
def be (l:List Nat):Nat:=l.foldl (fun v x=>v*256+x) 0
def be_snoc (l:List Nat) (x:Nat):be (l ++ [x])=be l*256+x:=by simp [be]
def pN : ∀ (n:Nat) (l:List Nat),l.length=n->(∀ x∈l,x<256)->be l<256^n
 | 0,l,hl,_=>by have:l = []:=EE.1 hl;subst this;decide
 |n+1,l,hl,hb=>by
  rcases List.eq_nil_or_concat l with h0|⟨m,x,h0⟩
  ·subst h0;cases hl
  ·rw [List.concat_eq_append] at h0;subst h0;have hm:m.length=n:=by simpa using hl
   have:=pN n m hm (fun y hy=>hb y (List.mem_append_left _ hy));have hx:=hb x (by simp);rw [be_snoc,Nat.pow_succ];omega
def take_snocN {l:List Nat} {i:Nat} (h:i<l.length):l.take (i+1)=l.take i ++ [l.getD i 0]:=by rw [HA,DL h,DV,DL h];rfl
def shl_or {v x:Nat} (hv:v<72057594037927936) (hx:x<256):aE prog .shl 52 (.int .u64 (v:Int)) (.int .u64 8)=some (.int .u64 ((v*256:Nat):Int)) /\
  aE prog .or 52 (.int .u64 ((v*256:Nat):Int)) (.int .u64 (x:Int))=some (.int .u64 ((v*256+x:Nat):Int)):=by
 constructor
 ·rw [ee];have h2:min (8:Int).toNat (IntKind.bits .u64)=8:=by decide
  simp only [gV,show ¬((8:Int)<0) by decide,D3,h2];have h3:(2:Int)^8=256:=by decide
  rw [h3,show (v:Int)*256=((v*256:Nat):Int) by omega,wrap_u64 (by omega) (by omega)]
 ·rw [yP prog 52 (k := .u64) rfl (by show _<2^64;omega) (by show _<2^64;omega)];have:=Nat.two_pow_add_eq_or_of_lt (i:=8) (b:=x) (by omega) v;rw [show v*256=2^8*v by omega,<-this]
def byte_at {h:ae} {a:Option Addr} {n c i:Nat} {l:List Nat} (e:aq a n h=some l) (hi:i<n) : ∃ b p,a.map (·.block)=some b/\idxS 1 (.slice a n c) (ak i)=some (ptr b p)/\ld1 (ptr b p) h=some (u8 (l.getD i 0),h):=by obtain ⟨h1,h2,h3⟩:=ay e;obtain ⟨b,off,s,k,rfl,hk,hlen,hc⟩:=h3 (by omega);refine ⟨b,off+i,rfl,?_,aP hk (hc i hi) rfl⟩;unfold idxS;simp only [ak];rw [DR (by omega),Int.toNat_natCast,FQ]
def Dz {C:ah} {x y:Vl} {h h1:ae} {a:Option Addr} {n c:Nat} {l:List Nat} (e1:C 209 [x,y] h=some (.slice a n c,h1)) (e:aq a n h1=some l) (hn:n<=8):t172 C x y h=some (.int .u64 ((be l:Nat):Int),h1):=by
 obtain ⟨hl,hb,_⟩:=ay e;have hll:cI (.slice a n c)=some (ak n):=rfl;unfold t172;simp -implicitDefEqProofs only [af,e1,hll,aj];refine cp (n:=23) (fin:=fun ex y g=>ex = .exit 0/\g=h1/\y 5 = .int .u64 ((be l:Nat):Int)) (Q:=fun o:ba=>o=some (Value.int .u64 ((be l:Nat):Int),h1))
  (cj (tH C) (Inv:=fun k y g => ∃ i,i+k=n/\y 10 = .slice a n c/\y 11=ak n/\y 12=ak i/\g=h1/\y 5 = .int .u64 ((be (l.take i):Nat):Int)) ?_ n (by have:aK=18446744073709551616:=rfl;omega) ⟨0,DK _,rfl,rfl,rfl,rfl,rfl⟩) ?_
 ·rintro k y g ⟨i,hik,y10,y11,y12,rfl,y5⟩;unfold kO;simp -implicitDefEqProofs only [y12,y11,af,aj,fF];by_cases hi:i<n
  ·obtain ⟨b,p,_,i1,i2⟩:=byte_at (c:=c) e hi;have hv:l.getD i 0<256:=by rw [DV,DL (by omega)];exact hb _ (GV _)
   have hbe:=pN i (l.take i) (by simp;omega) (fun x hx=>hb x (EH hx));have hbe2:be (l.take i)<72057594037927936:=FC hbe (ED (IB (by decide) (show i<=7 by omega)) (by decide));obtain ⟨b1,b2⟩:=shl_or hbe2 hv;have hw:IntKind.wrap .u64 ((l.getD i 0:Nat):Int)=((l.getD i 0:Nat):Int):=wrap_u64 (by omega) (by omega);simp -implicitDefEqProofs only [DS hi,af,y10,y5,b1,aj,i1,i2,u8,bV,hw,b2,ei (show i+1<=9223372036854775807 by omega)];refine dE.next (k-1) (by omega) ⟨i+1,by omega,y10,y11,rfl,rfl,?_⟩;rw [take_snocN (by omega),be_snoc];rfl
  ·have:i=n:=by omega
   subst this;simp -implicitDefEqProofs only [DP hi];exact dE.out 0 ⟨rfl,rfl,by rw [EB (by omega)] at y5;exact y5⟩
 ·rintro ex z g ⟨rfl,rfl,z5⟩;simp -implicitDefEqProofs only [bK,b172_4,D8,Al];unfold rF;rw [z5];rfl
def s172 (args:List Vl) (h:ae):ba:=
 match args with
 | [x,y]=>match t209 noC x y h with
   |some (.slice a n _,g)=>match aq a n g with
    |some l=>if Nat.ble 3 h.n0&&Nat.ble n 8 then some (.int .u64 (be l:Nat),g) else none
    |none=>none
   |_=>none
 |_=>none
def yY:bJ prog 209 f209 := .of (by kernel_rfl)
def is172:bJ prog 172 f172 := .of (by kernel_rfl)
def c172:bq prog 172 s172:=(bq.of_CC mixed XB_sound is172).weaker fun args h r e=>by
 unfold s172 at e;split at e
 ·rename_i x y;split at e
  ·rename_i a n c g h209;split at e
   ·rename_i l hl;split at e
    ·rename_i hc;cases e;rw [DN] at hc;have hg:prog.globals.size<=h.n0:=by rw [cX];exact EO hc.1
     have e:=(oe noC x y h).trans h209;rw [nc] at e;exact jy is172 hg rfl ((wx _ _ _ _).trans (Dz (jy yY hg rfl (rT (fun _ _ _ _ e=>by cases e) e)) hl (EO hc.2)))
    ·cases e
   ·cases e
  ·cases e
 ·cases e
abbrev XC:ah:=jc [(172,s172),(208,s208),(187,s187),(136,cmpS),(231,s231)]
def XC_sound:aZ prog XC:=dS _ (by
 intro p hp;simp only [EN,EU,GF] at hp;rcases hp with rfl|rfl|rfl|rfl|rfl
 ·exact c172
 ·exact c208
 ·exact c187
 ·exact c136
 ·exact c231)
section
variable (C:ah) (x:Nat->Vl) (x0 x1 x2 x3 x4 x5:Vl) (h:ae)
def t13 (C:ah) (x0:Vl) (h:ae):ba:=
 aa (some ((.pointer none),h)) fun p h=>
 aa (some ((.int .i64 0),h)) fun q h=>
 aa (some (x0,h)) fun f h=>
 aa (pu (aE prog .lss 3 f (.int .i64 4)) h) fun g h=>
 aa (some (g,h)) fun a h=>
 aa (au (bC a==some false) (some (x0,h)) h) fun j h=>
 aa (au (bC a==some false) (pu (aE prog .gtr 3 j (.int .i64 4096)) h) h) fun k h=>
 aa (match a with | .bool t=>some (if t then (.bool true) else k,h)|_=>none) fun l h=>
 (match l with
 | .bool true=>
 aa (some ((.pointer none),h)) fun b h=>
 aa (some ((.int .i64 2),h)) fun c h=>
 some (.tuple #[b,c],h)
 | .bool false=>
 aa (some (x0,h)) fun d h=>
 aa (mkR 128 128 (.agg (List.replicate 128 (.int .u8 0)).toArray) d d h) fun m h=>
 aa (pu (dG [(.slice none 0 0),(.bool false),(.bool false),(.int .i64 0),(.int .i64 0),(.int .i64 0)] [(0,1,m)]) h) fun n h=>
 aa (box n h) fun o h=>
 aa (some (o,h)) fun b h=>
 aa (some ((.int .i64 0),h)) fun c h=>
 some (.tuple #[b,c],h)
 |_=>none)
def t13_eq:aY prog C f13 [x0] h=t13 C x0 h:=
 lkT (by kernel_rfl) (by kernel_rfl)
def t69 (C:ah) (x0 x1:Vl) (h:ae):ba:=
 aa (some ((.int .i64 0),h)) fun B h=>
 aa (some ((.int .i64 0),h)) fun D h=>
 aa (some (x0,h)) fun g h=>
 aa (pu (aE prog .lss 3 g (.int .i64 1)) h) fun j h=>
 aa (some (j,h)) fun a h=>
 aa (au (bC a==some false) (some (x0,h)) h) fun k h=>
 aa (au (bC a==some false) (pu (aE prog .gtr 3 k (.int .i64 255)) h) h) fun l h=>
 aa (match a with | .bool t=>some (if t then (.bool true) else l,h)|_=>none) fun m h=>
 aa (some (m,h)) fun b h=>
 aa (au (bC b==some false) (some (x1,h)) h) fun n h=>
 aa (au (bC b==some false) (pu (aE prog .lss 3 n (.int .i64 0)) h) h) fun o h=>
 aa (match b with | .bool t=>some (if t then (.bool true) else o,h)|_=>none) fun p h=>
 aa (some (p,h)) fun c h=>
 aa (au (bC c==some false) (some (x1,h)) h) fun q h=>
 aa (au (bC c==some false) (pu (aE prog .gtr 3 q (.int .i64 8192)) h) h) fun r h=>
 aa (match c with | .bool t=>some (if t then (.bool true) else r,h)|_=>none) fun s h=>
 (match s with
 | .bool true=>
 aa (some ((.int .i64 0),h)) fun d h=>
 aa (some ((.int .i64 2),h)) fun f h=>
 some (.tuple #[d,f],h)
 | .bool false=>
 aa (some (x1,h)) fun u h=>
 aa (some (x0,h)) fun v h=>
 aa (pu (aE prog .add 3 u v) h) fun w h=>
 aa (pu (aE prog .sub 3 w (.int .i64 1)) h) fun y h=>
 aa (some (x0,h)) fun z h=>
 aa (pu (aE prog .quo 3 y z) h) fun A h=>
 aa (some (A,h)) fun d h=>
 aa (some ((.int .i64 0),h)) fun f h=>
 some (.tuple #[d,f],h)
 |_=>none)
def t69_eq:aY prog C f69 [x0,x1] h=t69 C x0 x1 h:=
 lkT (by kernel_rfl) (by kernel_rfl)
def t73 (C:ah) (x0:Vl) (h:ae):ba:=
 aa (some ((.int .i64 0),h)) fun k h=>
 aa (some (x0,h)) fun b h=>
 aa (pu (aE prog .leq 3 b (.int .i64 106)) h) fun c h=>
 (match c with
 | .bool true=>
 aa (some ((.int .i64 1),h)) fun a h=>
 some (a,h)
 | .bool false=>
 aa (some (x0,h)) fun d h=>
 aa (pu (aE prog .sub 3 d (.int .i64 1)) h) fun f h=>
 aa (pu (aE prog .quo 3 f (.int .i64 106)) h) fun g h=>
 aa (pu (aE prog .add 3 g (.int .i64 1)) h) fun j h=>
 aa (some (j,h)) fun a h=>
 some (a,h)
 |_=>none)
def t73_eq:aY prog C f73 [x0] h=t73 C x0 h:=
 lkT (by kernel_rfl) (by kernel_rfl)
def t83 (C:ah) (x0 x1:Vl) (h:ae):ba:=
 aa (some ((.int .i64 0),h)) fun f h=>
 aa (some (x0,h)) fun a h=>
 aa (some (x1,h)) fun b h=>
 aa (C 136 [a,b] h) fun c h=>
 aa (some (c,h)) fun d h=>
 some (d,h)
def t83_eq:aY prog C f83 [x0,x1] h=t83 C x0 x1 h:=
 lkT (by kernel_rfl) (by kernel_rfl)
def t103 (C:ah) (x0 x1 x2:Vl) (h:ae):ba:=
 aa (some ((.bool false),h)) fun v h=>
 aa (some (x0,h)) fun d h=>
 aa (pu (aE prog .leq 3 (.int .i64 1) d) h) fun f h=>
 aa (some (f,h)) fun a h=>
 aa (au (bC a==some true) (some (x0,h)) h) fun g h=>
 aa (au (bC a==some true) (some (x1,h)) h) fun j h=>
 aa (au (bC a==some true) (pu (aE prog .leq 3 g j) h) h) fun k h=>
 aa (match a with | .bool t=>some (if t then k else (.bool false),h)|_=>none) fun l h=>
 aa (some (l,h)) fun b h=>
 aa (au (bC b==some true) (some (x1,h)) h) fun m h=>
 aa (au (bC b==some true) (some (x2,h)) h) fun n h=>
 aa (au (bC b==some true) (pu (aE prog .leq 3 m n) h) h) fun o h=>
 aa (match b with | .bool t=>some (if t then o else (.bool false),h)|_=>none) fun p h=>
 aa (some (p,h)) fun c h=>
 aa (au (bC c==some true) (some (x2,h)) h) fun q h=>
 aa (au (bC c==some true) (pu (aE prog .leq 3 q (.int .i64 255)) h) h) fun r h=>
 aa (match c with | .bool t=>some (if t then r else (.bool false),h)|_=>none) fun s h=>
 aa (some (s,h)) fun u h=>
 some (u,h)
def t103_eq:aY prog C f103 [x0,x1,x2] h=t103 C x0 x1 x2 h:=
 lkT (by kernel_rfl) (by kernel_rfl)
def t105 (C:ah) (x0 x1:Vl) (h:ae):ba:=
 aa (some ((.int .i64 0),h)) fun A h=>
 aa (some (x0,h)) fun c h=>
 aa (pu (aE prog .eql 24 c (.pointer none)) h) fun d h=>
 aa (some (d,h)) fun f h=>
 (match f with
 | .bool true=>
 aa (some ((.int .i64 1),h)) fun b h=>
 some (b,h)
 | .bool false=>
 aa (some (x0,h)) fun g h=>
 aa (pu (nilCheckA g) h) fun j h=>
 aa (pu (aL j 1) h) fun k h=>
 aa (ld1 k h) fun l h=>
 aa (some (l,h)) fun m h=>
 (match m with
 | .bool true=>
 aa (some ((.int .i64 9),h)) fun b h=>
 some (b,h)
 | .bool false=>
 aa (some (x1,h)) fun n h=>
 aa (pu (aE prog .lss 3 n (.int .i64 0)) h) fun o h=>
 aa (some (o,h)) fun a h=>
 aa (au (bC a==some false) (some (x1,h)) h) fun p h=>
 aa (au (bC a==some false) (some (x0,h)) h) fun q h=>
 aa (au (bC a==some false) (pu (nilCheckA q) h) h) fun r h=>
 aa (au (bC a==some false) (pu (aL r 0) h) h) fun s h=>
 aa (au (bC a==some false) (ld1 s h) h) fun u h=>
 aa (au (bC a==some false) (pu (cI u) h) h) fun v h=>
 aa (au (bC a==some false) (pu (aE prog .geq 3 p v) h) h) fun w h=>
 aa (match a with | .bool t=>some (if t then (.bool true) else w,h)|_=>none) fun y h=>
 aa (some (y,h)) fun z h=>
 (match z with
 | .bool true=>
 aa (some ((.int .i64 2),h)) fun b h=>
 some (b,h)
 | .bool false=>
 aa (some ((.int .i64 0),h)) fun b h=>
 some (b,h)
 |_=>none)
 |_=>none)
 |_=>none)
def t105_eq:aY prog C f105 [x0,x1] h=t105 C x0 x1 h:=
 lkT (by kernel_rfl) (by kernel_rfl)
def t107 (C:ah) (x0:Vl) (h:ae):ba:=
 aa (some ((.int .i64 0),h)) fun l h=>
 aa (some (x0,h)) fun a h=>
 aa (pu (nilCheckA a) h) fun b h=>
 aa (pu (aL b 0) h) fun c h=>
 aa (ld1 c h) fun d h=>
 aa (pu (cI d) h) fun f h=>
 aa (pu (aE prog .sub 3 f (.int .i64 2)) h) fun g h=>
 aa (pu (aE prog .quo 3 g (.int .i64 2)) h) fun j h=>
 aa (some (j,h)) fun k h=>
 some (k,h)
def t107_eq:aY prog C f107 [x0] h=t107 C x0 h:=
 lkT (by kernel_rfl) (by kernel_rfl)
def t110 (C:ah) (x0:Vl) (h:ae):ba:=
 aa (some ((.pointer none),h)) fun g h=>
 aa (some (x0,h)) fun a h=>
 aa (C 171 [a] h) fun b h=>
 aa (pu (dG [(.slice none 0 0),(.int .i64 0)] [(0,1,b)]) h) fun c h=>
 aa (box c h) fun d h=>
 aa (some (d,h)) fun f h=>
 some (f,h)
def BQ:aY prog C f110 [x0] h=t110 C x0 h:=
 lkT (by kernel_rfl) (by kernel_rfl)
def t111 (C:ah) (x0:Vl) (h:ae):ba:=
 aa (some ((.int .u8 0),h)) fun f h=>
 aa (some (x0,h)) fun a h=>
 aa (C 172 [a,(.int .i64 1)] h) fun b h=>
 aa (iD .u8 b h) fun c h=>
 aa (some (c,h)) fun d h=>
 some (d,h)
def C9:aY prog C f111 [x0] h=t111 C x0 h:=
 lkT (by kernel_rfl) (by kernel_rfl)
def t112 (C:ah) (x0:Vl) (h:ae):ba:=
 aa (some ((.int .u64 0),h)) fun d h=>
 aa (some (x0,h)) fun a h=>
 aa (C 172 [a,(.int .i64 8)] h) fun b h=>
 aa (some (b,h)) fun c h=>
 some (c,h)
def Du:aY prog C f112 [x0] h=t112 C x0 h:=
 lkT (by kernel_rfl) (by kernel_rfl)
def t116 (C:ah) (x0:Vl) (h:ae):ba:=
 aa (some ((.pointer none),h)) fun g h=>
 aa (some (x0,h)) fun a h=>
 aa (pu (minmax true (.int .i64 0) [a]) h) fun b h=>
 aa (pu (dG [(.int .i64 0),(.bool false),(.slice none 0 0)] [(0,1,b)]) h) fun c h=>
 aa (box c h) fun d h=>
 aa (some (d,h)) fun f h=>
 some (f,h)
def t116_eq:aY prog C f116 [x0] h=t116 C x0 h:=
 lkT (by kernel_rfl) (by kernel_rfl)
def t121 (C:ah) (x0:Vl) (h:ae):ba:=
 aa (some ((.slice none 0 0),h)) fun s h=>
 aa (some ((.int .i64 0),h)) fun t h=>
 aa (some (x0,h)) fun c h=>
 aa (pu (aE prog .eql 218 c (.pointer none)) h) fun d h=>
 aa (some (d,h)) fun f h=>
 (match f with
 | .bool true=>
 aa (some ((.slice none 0 0),h)) fun a h=>
 aa (some ((.int .i64 1),h)) fun b h=>
 some (.tuple #[a,b],h)
 | .bool false=>
 aa (some (x0,h)) fun g h=>
 aa (pu (nilCheckA g) h) fun j h=>
 aa (pu (aL j 1) h) fun k h=>
 aa (ld1 k h) fun l h=>
 aa (some (l,h)) fun m h=>
 (match m with
 | .bool true=>
 aa (some ((.slice none 0 0),h)) fun a h=>
 aa (some ((.int .i64 3),h)) fun b h=>
 some (.tuple #[a,b],h)
 | .bool false=>
 aa (some (x0,h)) fun n h=>
 aa (pu (nilCheckA n) h) fun o h=>
 aa (pu (aL o 2) h) fun p h=>
 aa (ld1 p h) fun q h=>
 aa (C 171 [q] h) fun r h=>
 aa (some (r,h)) fun a h=>
 aa (some ((.int .i64 0),h)) fun b h=>
 some (.tuple #[a,b],h)
 |_=>none)
 |_=>none)
def t121_eq:aY prog C f121 [x0] h=t121 C x0 h:=
 lkT (by kernel_rfl) (by kernel_rfl)
def t126 (C:ah) (x0:Vl) (h:ae):ba:=
 aa (box x0 h) fun a h=>
 aa (some (.nilFunc,h)) fun d h=>
 aa (some (.func (.func 186) #[] #[a],h)) fun b h=>
 aa (some (b,h)) fun c h=>
 some (c,h)
def t126_eq:aY prog C f126 [x0] h=t126 C x0 h:=
 lkT (by kernel_rfl) (by kernel_rfl)
def t129 (C:ah) (h:ae):ba:=
 aa (some ((.pointer none),h)) fun f h=>
 aa (pu (dG (List.replicate 8 (.int .u32 0)) [(0,1,(.int .u32 1779033703)),(1,1,(.int .u32 3144134277)),(2,1,(.int .u32 1013904242)),(3,1,(.int .u32 2773480762)),(4,1,(.int .u32 1359893119)),(5,1,(.int .u32 2600822924)),(6,1,(.int .u32 528734635)),(7,1,(.int .u32 1541459225))]) h) fun a h=>
 aa (pu (dG zlit1 [(0,8,a)]) h) fun b h=>
 aa (box b h) fun c h=>
 aa (some (c,h)) fun d h=>
 some (d,h)
def t129_eq:aY prog C f129 [] h=t129 C h:=
 lkT (by kernel_rfl) (by kernel_rfl)
def t132 (C:ah) (x0:Vl) (h:ae):ba:=
 aa (some ((.int .i64 0),h)) fun G h=>
 aa (some (x0,h)) fun c h=>
 aa (pu (aE prog .eql 119 c (.pointer none)) h) fun d h=>
 aa (some (d,h)) fun f h=>
 (match f with
 | .bool true=>
 aa (some ((.int .i64 1),h)) fun b h=>
 some (b,h)
 | .bool false=>
 aa (some (x0,h)) fun g h=>
 aa (pu (nilCheckA g) h) fun j h=>
 aa (pu (aL j 0) h) fun k h=>
 aa (ld1 k h) fun l h=>
 aa (pu (nilCheckA l) h) fun m h=>
 aa (pu (aL m 1) h) fun n h=>
 aa (ld1 n h) fun o h=>
 aa (some (o,h)) fun a h=>
 aa (au (bC a==some false) (some (x0,h)) h) fun p h=>
 aa (au (bC a==some false) (pu (nilCheckA p) h) h) fun q h=>
 aa (au (bC a==some false) (pu (aL q 0) h) h) fun r h=>
 aa (au (bC a==some false) (ld1 r h) h) fun s h=>
 aa (au (bC a==some false) (pu (nilCheckA s) h) h) fun u h=>
 aa (au (bC a==some false) (pu (aL u 5) h) h) fun v h=>
 aa (au (bC a==some false) (ld1 v h) h) fun w h=>
 aa (au (bC a==some false) (some (x0,h)) h) fun y h=>
 aa (au (bC a==some false) (pu (nilCheckA y) h) h) fun z h=>
 aa (au (bC a==some false) (pu (aL z 1) h) h) fun A h=>
 aa (au (bC a==some false) (ld1 A h) h) fun B h=>
 aa (au (bC a==some false) (pu (aE prog .neq 3 w B) h) h) fun D h=>
 aa (match a with | .bool t=>some (if t then (.bool true) else D,h)|_=>none) fun E h=>
 aa (some (E,h)) fun F h=>
 (match F with
 | .bool true=>
 aa (some ((.int .i64 9),h)) fun b h=>
 some (b,h)
 | .bool false=>
 aa (some ((.int .i64 0),h)) fun b h=>
 some (b,h)
 |_=>none)
 |_=>none)
def t132_eq:aY prog C f132 [x0] h=t132 C x0 h:=
 lkT (by kernel_rfl) (by kernel_rfl)
def t167 (C:ah) (x0:Vl) (h:ae):ba:=
 aa (some ((.int .u32 0),h)) fun f h=>
 aa (some (x0,h)) fun a h=>
 aa (C 172 [a,(.int .i64 4)] h) fun b h=>
 aa (iD .u32 b h) fun c h=>
 aa (some (c,h)) fun d h=>
 some (d,h)
def t167_eq:aY prog C f167 [x0] h=t167 C x0 h:=
 lkT (by kernel_rfl) (by kernel_rfl)
def t168 (C:ah) (x0:Vl) (h:ae):ba:=
 aa (some ((.int .u16 0),h)) fun f h=>
 aa (some (x0,h)) fun a h=>
 aa (C 172 [a,(.int .i64 2)] h) fun b h=>
 aa (iD .u16 b h) fun c h=>
 aa (some (c,h)) fun d h=>
 some (d,h)
def Ck:aY prog C f168 [x0] h=t168 C x0 h:=
 lkT (by kernel_rfl) (by kernel_rfl)
def t169 (C:ah) (x0 x1:Vl) (h:ae):ba:=
 aa (some ((.slice none 0 0),h)) fun g h=>
 aa (some (x0,h)) fun a h=>
 aa (some (x1,h)) fun b h=>
 aa (C 209 [a,b] h) fun c h=>
 aa (C 171 [c] h) fun d h=>
 aa (some (d,h)) fun f h=>
 some (f,h)
def vX:aY prog C f169 [x0,x1] h=t169 C x0 x1 h:=
 lkT (by kernel_rfl) (by kernel_rfl)
def t170 (C:ah) (x0:Vl) (h:ae):ba:=
 aa (some ((.int .i64 0),h)) fun k h=>
 aa (some (x0,h)) fun b h=>
 aa (pu (aE prog .eql 210 b (.pointer none)) h) fun c h=>
 (match c with
 | .bool true=>
 aa (some ((.int .i64 1),h)) fun a h=>
 some (a,h)
 | .bool false=>
 aa (some (x0,h)) fun d h=>
 aa (pu (nilCheckA d) h) fun f h=>
 aa (pu (aL f 1) h) fun g h=>
 aa (ld1 g h) fun j h=>
 aa (some (j,h)) fun a h=>
 some (a,h)
 |_=>none)
def DG:aY prog C f170 [x0] h=t170 C x0 h:=
 lkT (by kernel_rfl) (by kernel_rfl)
def t174 (C:ah) (x0:Vl) (h:ae):ba:=
 aa (some ((.slice none 0 0),h)) fun M h=>
 aa (some (x0,h)) fun c h=>
 aa (pu (aE prog .eql 210 c (.pointer none)) h) fun d h=>
 aa (some (d,h)) fun a h=>
 aa (au (bC a==some false) (some (x0,h)) h) fun f h=>
 aa (au (bC a==some false) (pu (nilCheckA f) h) h) fun g h=>
 aa (au (bC a==some false) (pu (aL g 1) h) h) fun j h=>
 aa (au (bC a==some false) (ld1 j h) h) fun k h=>
 aa (au (bC a==some false) (pu (aE prog .neq 25 k (.int .i64 0)) h) h) fun l h=>
 aa (match a with | .bool t=>some (if t then (.bool true) else l,h)|_=>none) fun m h=>
 (match m with
 | .bool true=>
 aa (some ((.slice none 0 0),h)) fun b h=>
 some (b,h)
 | .bool false=>
 aa (some (x0,h)) fun n h=>
 aa (pu (nilCheckA n) h) fun o h=>
 aa (pu (aL o 0) h) fun p h=>
 aa (ld1 p h) fun q h=>
 aa (some (q,h)) fun r h=>
 aa (some (x0,h)) fun s h=>
 aa (some (x0,h)) fun u h=>
 aa (C 172 [u,(.int .i64 2)] h) fun v h=>
 aa (iD .i64 v h) fun w h=>
 aa (C 209 [s,w] h) fun y h=>
 aa (some (y,h)) fun z h=>
 aa (some (x0,h)) fun A h=>
 aa (pu (nilCheckA A) h) fun B h=>
 aa (pu (aL B 1) h) fun D h=>
 aa (ld1 D h) fun E h=>
 aa (pu (aE prog .neq 25 E (.int .i64 0)) h) fun F h=>
 (match F with
 | .bool true=>
 aa (some (x0,h)) fun G h=>
 aa (some (r,h)) fun H h=>
 aa (pu (nilCheckA G) h) fun I h=>
 aa (pu (aL I 0) h) fun J h=>
 aa (bX 1 J H h) fun _ h=>
 aa (some ((.slice none 0 0),h)) fun b h=>
 some (b,h)
 | .bool false=>
 aa (some (z,h)) fun K h=>
 aa (C 171 [K] h) fun L h=>
 aa (some (L,h)) fun b h=>
 some (b,h)
 |_=>none)
 |_=>none)
def wi:aY prog C f174 [x0] h=t174 C x0 h:=
 lkT (by kernel_rfl) (by kernel_rfl)
def t175 (C:ah) (x0:Vl) (h:ae):ba:=
 aa (some ((.int .i64 0),h)) fun l h=>
 aa (some (x0,h)) fun b h=>
 aa (pu (aE prog .eql 210 b (.pointer none)) h) fun c h=>
 (match c with
 | .bool true=>
 aa (some ((.int .i64 0),h)) fun a h=>
 some (a,h)
 | .bool false=>
 aa (some (x0,h)) fun d h=>
 aa (pu (nilCheckA d) h) fun f h=>
 aa (pu (aL f 0) h) fun g h=>
 aa (ld1 g h) fun j h=>
 aa (pu (cI j) h) fun k h=>
 aa (some (k,h)) fun a h=>
 some (a,h)
 |_=>none)
def t175_eq:aY prog C f175 [x0] h=t175 C x0 h:=
 lkT (by kernel_rfl) (by kernel_rfl)
def t179 (C:ah) (x0:Vl) (h:ae):ba:=
 aa (some ((.slice none 0 0),h)) fun P h=>
 aa (some (x0,h)) fun d h=>
 aa (C 121 [d] h) fun f h=>
 aa (some (f,h)) fun c h=>
 aa (pu (extractA c 0) h) fun g h=>
 aa (pu (extractA c 1) h) fun j h=>
 aa (some (g,h)) fun k h=>
 aa (some (j,h)) fun Q h=>
 aa (mkR 1 1 (.int .u8 0) (.int .i64 128) (.int .i64 128) h) fun l h=>
 aa (some (l,h)) fun a h=>
 aa (some (a,h)) fun m h=>
 aa (pu (slR 1 m (some (.int .i64 4)) none none) h) fun n h=>
 aa (some (k,h)) fun o h=>
 aa (iv 1 n o h) fun R h=>
 aa (some (a,h)) fun p h=>
 aa (pu (slR 1 p (some (.int .i64 4)) none none) h) fun q h=>
 aa (C 208 [q] h) fun r h=>
 aa (some (r,h)) fun b h=>
 aa (some (a,h)) fun s h=>
 aa (some (a,h)) fun t h=>
 aa (some (a,h)) fun u h=>
 aa (some (a,h)) fun v h=>
 aa (some (b,h)) fun w h=>
 aa (pu (aE prog .shr 186 w (.int .u64 24)) h) fun y h=>
 aa (iD .u8 y h) fun z h=>
 aa (some (b,h)) fun A h=>
 aa (pu (aE prog .shr 186 A (.int .u64 16)) h) fun B h=>
 aa (iD .u8 B h) fun D h=>
 aa (some (b,h)) fun E h=>
 aa (pu (aE prog .shr 186 E (.int .u64 8)) h) fun F h=>
 aa (iD .u8 F h) fun G h=>
 aa (some (b,h)) fun H h=>
 aa (iD .u8 H h) fun I h=>
 aa (pu (idxS 1 s (.int .i64 0)) h) fun J h=>
 aa (bX 1 J z h) fun _ h=>
 aa (pu (idxS 1 t (.int .i64 1)) h) fun K h=>
 aa (bX 1 K D h) fun _ h=>
 aa (pu (idxS 1 u (.int .i64 2)) h) fun L h=>
 aa (bX 1 L G h) fun _ h=>
 aa (pu (idxS 1 v (.int .i64 3)) h) fun M h=>
 aa (bX 1 M I h) fun _ h=>
 aa (some (a,h)) fun N h=>
 aa (some (N,h)) fun O h=>
 some (O,h)
def t179_eq:aY prog C f179 [x0] h=t179 C x0 h:=
 lkT (by kernel_rfl) (by kernel_rfl)
def t181 (C:ah) (x0 x1:Vl) (h:ae):ba:=
 aa (some ((.bool false),h)) fun J h=>
 aa (some (x0,h)) fun c h=>
 aa (pu (aE prog .eql 218 c (.pointer none)) h) fun d h=>
 aa (some (d,h)) fun a h=>
 aa (au (bC a==some false) (some (x0,h)) h) fun f h=>
 aa (au (bC a==some false) (pu (nilCheckA f) h) h) fun g h=>
 aa (au (bC a==some false) (pu (aL g 1) h) h) fun j h=>
 aa (au (bC a==some false) (ld1 j h) h) fun k h=>
 aa (match a with | .bool t=>some (if t then (.bool true) else k,h)|_=>none) fun l h=>
 (match l with
 | .bool true=>
 aa (some ((.bool false),h)) fun b h=>
 some (b,h)
 | .bool false=>
 aa (some (x0,h)) fun m h=>
 aa (some (x1,h)) fun n h=>
 aa (some (x0,h)) fun o h=>
 aa (pu (nilCheckA o) h) fun p h=>
 aa (pu (aL p 0) h) fun q h=>
 aa (ld1 q h) fun r h=>
 aa (some (x0,h)) fun s h=>
 aa (pu (nilCheckA s) h) fun u h=>
 aa (pu (aL u 2) h) fun v h=>
 aa (ld1 v h) fun w h=>
 aa (pu (cI w) h) fun y h=>
 aa (pu (aE prog .sub 3 r y) h) fun z h=>
 aa (pu (aE prog .gtr 3 n z) h) fun A h=>
 aa (pu (nilCheckA m) h) fun B h=>
 aa (pu (aL B 1) h) fun D h=>
 aa (bX 1 D A h) fun _ h=>
 aa (some (x0,h)) fun E h=>
 aa (pu (nilCheckA E) h) fun F h=>
 aa (pu (aL F 1) h) fun G h=>
 aa (ld1 G h) fun H h=>
 aa (pu (unA .not H) h) fun I h=>
 aa (some (I,h)) fun b h=>
 some (b,h)
 |_=>none)
def t181_eq:aY prog C f181 [x0,x1] h=t181 C x0 x1 h:=
 lkT (by kernel_rfl) (by kernel_rfl)
def t210 (C:ah) (x0:Vl) (h:ae):ba:=
 aa (dj (List.replicate 32 (.int .u8 0)) h) fun b h=>
 aa (dj (List.replicate 32 (.int .u8 0)) h) fun a h=>
 aa (pu (sliceArr 32 1 a none none none) h) fun c h=>
 aa (some (x0,h)) fun d h=>
 aa (C 209 [d,(.int .i64 32)] h) fun f h=>
 aa (iv 1 c f h) fun j h=>
 aa (bZ 32 a h) fun g h=>
 aa (bX 32 b g h) fun _ h=>
 resultsA prog f210.results.toList (aT 9 (up (bs [x0]) [(2,b),(3,a),(4,c),(5,d),(6,f),(7,j),(8,g)])) h
def t210_eq:aY prog C f210 [x0] h=t210 C x0 h:=
 lkT (by kernel_rfl) (by kernel_rfl)
def t211 (C:ah) (x0:Vl) (h:ae):ba:=
 aa (some ((.int .i64 0),h)) fun q h=>
 aa (some (x0,h)) fun c h=>
 aa (C 170 [c] h) fun d h=>
 aa (some (d,h)) fun b h=>
 aa (some (b,h)) fun f h=>
 aa (pu (aE prog .neq 25 f (.int .i64 0)) h) fun g h=>
 (match g with
 | .bool true=>
 aa (some (b,h)) fun j h=>
 aa (some (j,h)) fun a h=>
 some (a,h)
 | .bool false=>
 aa (some (x0,h)) fun k h=>
 aa (pu (nilCheckA k) h) fun l h=>
 aa (pu (aL l 0) h) fun m h=>
 aa (ld1 m h) fun n h=>
 aa (pu (cI n) h) fun o h=>
 aa (pu (aE prog .gtr 3 o (.int .i64 0)) h) fun p h=>
 (match p with
 | .bool true=>
 aa (some ((.int .i64 5),h)) fun a h=>
 some (a,h)
 | .bool false=>
 aa (some ((.int .i64 0),h)) fun a h=>
 some (a,h)
 |_=>none)
 |_=>none)
def t211_eq:aY prog C f211 [x0] h=t211 C x0 h:=
 lkT (by kernel_rfl) (by kernel_rfl)
def t68 (C:ah) (x0:Vl) (h:ae):ba:=
 aa (box x0 h) fun a h=>
 aa (some ((.int .i64 0),h)) fun I h=>
 aa (pu (aL a 0) h) fun g h=>
 aa (ld1 g h) fun j h=>
 aa (pu (aL a 1) h) fun k h=>
 aa (ld1 k h) fun l h=>
 aa (pu (aL a 2) h) fun m h=>
 aa (ld1 m h) fun n h=>
 aa (C 103 [j,l,n] h) fun o h=>
 aa (pu (unA .not o) h) fun p h=>
 aa (some (p,h)) fun c h=>
 aa (au (bC c==some false) (pu (aL a 3) h) h) fun q h=>
 aa (au (bC c==some false) (ld1 q h) h) fun r h=>
 aa (au (bC c==some false) (pu (aE prog .lss 3 r (.int .i64 0)) h) h) fun s h=>
 aa (match c with | .bool t=>some (if t then (.bool true) else s,h)|_=>none) fun u h=>
 aa (some (u,h)) fun d h=>
 aa (au (bC d==some false) (pu (aL a 3) h) h) fun v h=>
 aa (au (bC d==some false) (ld1 v h) h) fun w h=>
 aa (au (bC d==some false) (pu (aE prog .gtr 3 w (.int .i64 8192)) h) h) fun y h=>
 aa (match d with | .bool t=>some (if t then (.bool true) else y,h)|_=>none) fun z h=>
 aa (some (z,h)) fun b h=>
 aa (au (bC b==some false) (pu (aL a 36) h) h) fun A h=>
 aa (au (bC b==some false) (ld1 A h) h) fun B h=>
 aa (au (bC b==some false) (pu (cI B) h) h) fun D h=>
 aa (au (bC b==some false) (pu (aL a 2) h) h) fun E h=>
 aa (au (bC b==some false) (ld1 E h) h) fun F h=>
 aa (au (bC b==some false) (pu (aE prog .neq 3 D F) h) h) fun G h=>
 aa (match b with | .bool t=>some (if t then (.bool true) else G,h)|_=>none) fun H h=>
 (match H with
 | .bool true=>
 aa (some ((.int .i64 2),h)) fun f h=>
 some (f,h)
 | .bool false=>
 aa (some ((.int .i64 0),h)) fun f h=>
 some (f,h)
 |_=>none)
def t68_eq:aY prog C f68 [x0] h=t68 C x0 h:=
 lkT (by kernel_rfl) (by kernel_rfl)
def t72 (C:ah) (x0:Vl) (h:ae):ba:=
 aa (some ((.int .i64 0),h)) fun B h=>
 aa (some (x0,h)) fun f h=>
 aa (C 132 [f] h) fun g h=>
 aa (pu (aE prog .neq 25 g (.int .i64 0)) h) fun j h=>
 aa (some (j,h)) fun a h=>
 aa (au (bC a==some false) (some (x0,h)) h) fun k h=>
 aa (au (bC a==some false) (pu (nilCheckA k) h) h) fun l h=>
 aa (au (bC a==some false) (pu (aL l 2) h) h) fun m h=>
 aa (au (bC a==some false) (ld1 m h) h) fun n h=>
 aa (au (bC a==some false) (pu (aE prog .lss 3 n (.int .i64 0)) h) h) fun o h=>
 aa (match a with | .bool t=>some (if t then (.bool true) else o,h)|_=>none) fun p h=>
 (match p with
 | .bool true=>
 aa (some ((.int .i64 0),h)) fun b h=>
 some (b,h)
 | .bool false=>
 let g5_0:=h
 aa (some (x0,g5_0)) fun q g5_1=>
 aa (pu (nilCheckA q) g5_1) fun r g5_2=>
 aa (pu (aL r 3) g5_2) fun c g5_3=>
 aa (ld1 c g5_3) fun d g5_4=>
 aa (some (x0,g5_4)) fun s g5_5=>
 aa (pu (nilCheckA s) g5_5) fun u g5_6=>
 aa (pu (aL u 0) g5_6) fun v g5_7=>
 aa (ld1 v g5_7) fun w g5_8=>
 aa (C 107 [w] g5_8) fun y g5_9=>
 aa (pu (aE prog .mul 3 d y) g5_9) fun z g5_10=>
 aa (pu (aE prog .add 3 (.int .i64 2) z) g5_10) fun A g5_11=>
 aa (some (A,g5_11)) fun b g5_12=>
 (match (fP true (ld1 c g5_9) d&&true) with
 |true=>
 let h:=g5_12
 some (b,h)
 |false=>none)
 |_=>none)
def t72_eq:aY prog C f72 [x0] h=t72 C x0 h:=
 lkT (by kernel_rfl) (by kernel_rfl)
def t79 (C:ah) (x0:Vl) (h:ae):ba:=
 aa (some ((.int .i64 0),h)) fun A h=>
 aa (some (x0,h)) fun f h=>
 aa (C 132 [f] h) fun g h=>
 aa (pu (aE prog .neq 25 g (.int .i64 0)) h) fun j h=>
 aa (some (j,h)) fun a h=>
 aa (au (bC a==some false) (some (x0,h)) h) fun k h=>
 aa (au (bC a==some false) (pu (nilCheckA k) h) h) fun l h=>
 aa (au (bC a==some false) (pu (aL l 6) h) h) fun m h=>
 aa (au (bC a==some false) (ld1 m h) h) fun n h=>
 aa (au (bC a==some false) (pu (unA .not n) h) h) fun o h=>
 aa (match a with | .bool t=>some (if t then (.bool true) else o,h)|_=>none) fun p h=>
 (match p with
 | .bool true=>
 aa (some ((.int .i64 0),h)) fun b h=>
 some (b,h)
 | .bool false=>
 let g5_0:=h
 aa (some (x0,g5_0)) fun q g5_1=>
 aa (pu (nilCheckA q) g5_1) fun r g5_2=>
 aa (pu (aL r 0) g5_2) fun s g5_3=>
 aa (ld1 s g5_3) fun u g5_4=>
 aa (C 107 [u] g5_4) fun v g5_5=>
 aa (some (x0,g5_5)) fun w g5_6=>
 aa (pu (nilCheckA w) g5_6) fun y g5_7=>
 aa (pu (aL y 7) g5_7) fun c g5_8=>
 aa (ld1 c g5_8) fun d g5_9=>
 aa (pu (aE prog .sub 3 v d) g5_9) fun z g5_10=>
 aa (some (z,g5_10)) fun b g5_11=>
 (match (fP true (ld1 c g5_4) d&&true) with
 |true=>
 let h:=g5_11
 some (b,h)
 |false=>none)
 |_=>none)
def t79_eq:aY prog C f79 [x0] h=t79 C x0 h:=
 lkT (by kernel_rfl) (by kernel_rfl)
def t115 (C:ah) (x0:Vl) (h:ae):ba:=
 aa (some ((.int .i64 0),h)) fun m h=>
 aa (some (x0,h)) fun b h=>
 aa (C 132 [b] h) fun c h=>
 aa (pu (aE prog .neq 25 c (.int .i64 0)) h) fun d h=>
 (match d with
 | .bool true=>
 aa (some ((.int .i64 0),h)) fun a h=>
 some (a,h)
 | .bool false=>
 aa (some (x0,h)) fun f h=>
 aa (pu (nilCheckA f) h) fun g h=>
 aa (pu (aL g 0) h) fun j h=>
 aa (ld1 j h) fun k h=>
 aa (C 107 [k] h) fun l h=>
 aa (some (l,h)) fun a h=>
 some (a,h)
 |_=>none)
def t115_eq:aY prog C f115 [x0] h=t115 C x0 h:=
 lkT (by kernel_rfl) (by kernel_rfl)
def t119 (C:ah) (x0 x1:Vl) (h:ae):ba:=
 aa (some (x0,h)) fun a h=>
 aa (pu (aE prog .eql 218 a (.pointer none)) h) fun b h=>
 (match b with
 | .bool true=>
 some (.tuple #[],h)
 | .bool false=>
 aa (some (x1,h)) fun c h=>
 aa (pu (cI c) h) fun d h=>
 aa (pu (aE prog .gtr 3 d (.int .i64 65535)) h) fun f h=>
 (match f with
 | .bool true=>
 aa (some (x0,h)) fun g h=>
 aa (pu (nilCheckA g) h) fun j h=>
 aa (pu (aL j 1) h) fun k h=>
 aa (bX 1 k (.bool true) h) fun _ h=>
 some (.tuple #[],h)
 | .bool false=>
 aa (some (x0,h)) fun l h=>
 aa (some (x1,h)) fun m h=>
 aa (pu (cI m) h) fun n h=>
 aa (pu (aE prog .add 3 n (.int .i64 2)) h) fun o h=>
 aa (C 181 [l,o] h) fun p h=>
 (match p with
 | .bool true=>
 aa (some (x0,h)) fun q h=>
 aa (some (x0,h)) fun r h=>
 aa (pu (nilCheckA r) h) fun s h=>
 aa (pu (aL s 2) h) fun t h=>
 aa (ld1 t h) fun u h=>
 aa (some (x1,h)) fun v h=>
 aa (pu (cI v) h) fun w h=>
 aa (pu (aE prog .shr 3 w (.int .u64 8)) h) fun y h=>
 aa (iD .u8 y h) fun z h=>
 aa (some (x1,h)) fun A h=>
 aa (pu (cI A) h) fun B h=>
 aa (iD .u8 B h) fun D h=>
 aa (fE 1 (.int .u8 0) 2 [(0,z),(1,D)] h) fun E h=>
 aa (appendA 1 1 u E h) fun F h=>
 aa (pu (nilCheckA q) h) fun G h=>
 aa (pu (aL G 2) h) fun H h=>
 aa (bX 1 H F h) fun _ h=>
 aa (some (x0,h)) fun I h=>
 aa (some (x0,h)) fun J h=>
 aa (pu (nilCheckA J) h) fun K h=>
 aa (pu (aL K 2) h) fun L h=>
 aa (ld1 L h) fun M h=>
 aa (some (x1,h)) fun N h=>
 aa (appendA 1 1 M N h) fun O h=>
 aa (pu (nilCheckA I) h) fun P h=>
 aa (pu (aL P 2) h) fun Q h=>
 aa (bX 1 Q O h) fun _ h=>
 some (.tuple #[],h)
 | .bool false=>
 some (.tuple #[],h)
 |_=>none)
 |_=>none)
 |_=>none)
def t119_eq:aY prog C f119 [x0,x1] h=t119 C x0 x1 h:=
 lkT (by kernel_rfl) (by kernel_rfl)
def t120 (C:ah) (x0 x1:Vl) (h:ae):ba:=
 aa (some (x0,h)) fun a h=>
 aa (some (x1,h)) fun b h=>
 aa (pu (cI b) h) fun c h=>
 aa (C 181 [a,c] h) fun d h=>
 (match d with
 | .bool true=>
 aa (some (x0,h)) fun f h=>
 aa (some (x0,h)) fun g h=>
 aa (pu (nilCheckA g) h) fun j h=>
 aa (pu (aL j 2) h) fun k h=>
 aa (ld1 k h) fun l h=>
 aa (some (x1,h)) fun m h=>
 aa (appendA 1 1 l m h) fun n h=>
 aa (pu (nilCheckA f) h) fun o h=>
 aa (pu (aL o 2) h) fun p h=>
 aa (bX 1 p n h) fun _ h=>
 some (.tuple #[],h)
 | .bool false=>
 some (.tuple #[],h)
 |_=>none)
def t120_eq:aY prog C f120 [x0,x1] h=t120 C x0 x1 h:=
 lkT (by kernel_rfl) (by kernel_rfl)
def t166 (C:ah) (x0 x1:Vl) (h:ae):ba:=
 aa (some ((.pointer none),h)) fun E h=>
 aa (some ((.bool false),h)) fun F h=>
 aa (some (x0,h)) fun b h=>
 aa (pu (nilCheckA b) h) fun c h=>
 aa (pu (aL c 0) h) fun d h=>
 aa (ld1 d h) fun f h=>
 aa (some (x1,h)) fun g h=>
 aa (pu (idxS 128 f g) h) fun j h=>
 aa (pu (sliceArr 128 1 j none none none) h) fun k h=>
 aa (C 110 [k] h) fun l h=>
 aa (some (l,h)) fun a h=>
 aa (some (a,h)) fun m h=>
 aa (C 167 [m] h) fun n h=>
 aa (some (n,h)) fun o h=>
 aa (some (a,h)) fun p h=>
 aa (some (o,h)) fun q h=>
 aa (some (x0,h)) fun r h=>
 aa (pu (nilCheckA r) h) fun s h=>
 aa (pu (aL s 0) h) fun t h=>
 aa (ld1 t h) fun u h=>
 aa (some (x1,h)) fun v h=>
 aa (pu (idxS 128 u v) h) fun w h=>
 aa (pu (sliceArr 128 1 w (some (.int .i64 4)) none none) h) fun y h=>
 aa (C 208 [y] h) fun z h=>
 aa (pu (aE prog .eql 186 q z) h) fun A h=>
 aa (some (p,h)) fun B h=>
 aa (some (A,h)) fun D h=>
 some (.tuple #[B,D],h)
def t166_eq:aY prog C f166 [x0,x1] h=t166 C x0 x1 h:=
 lkT (by kernel_rfl) (by kernel_rfl)
def t60 (C:ah) (x0:Vl) (h:ae):ba:=
 aa (some ((.int .i64 0),h)) fun m h=>
 aa (some (x0,h)) fun b h=>
 aa (pu (aE prog .eql 28 b (.pointer none)) h) fun c h=>
 (match c with
 | .bool true=>
 aa (some ((.int .i64 1),h)) fun a h=>
 some (a,h)
 | .bool false=>
 aa (some (x0,h)) fun d h=>
 aa (pu (nilCheckA d) h) fun f h=>
 aa (pu (aL f 0) h) fun g h=>
 aa (ld1 g h) fun j h=>
 aa (C 115 [j] h) fun k h=>
 aa (pu (aE prog .eql 3 k (.int .i64 0)) h) fun l h=>
 (match l with
 | .bool true=>
 aa (some ((.int .i64 9),h)) fun a h=>
 some (a,h)
 | .bool false=>
 aa (some ((.int .i64 0),h)) fun a h=>
 some (a,h)
 |_=>none)
 |_=>none)
def t60_eq:aY prog C f60 [x0] h=t60 C x0 h:=
 lkT (by kernel_rfl) (by kernel_rfl)
def t106 (C:ah) (x0 x1:Vl) (h:ae):ba:=
 aa (some ((.int .u64 0),h)) fun M h=>
 aa (some ((.int .i64 0),h)) fun N h=>
 aa (some ((.bool false),h)) fun O h=>
 aa (some (x0,h)) fun g h=>
 aa (some (x1,h)) fun j h=>
 aa (C 166 [g,j] h) fun k h=>
 aa (some (k,h)) fun d h=>
 aa (pu (extractA d 0) h) fun l h=>
 aa (pu (extractA d 1) h) fun m h=>
 aa (some (l,h)) fun a h=>
 aa (some (m,h)) fun n h=>
 aa (some (a,h)) fun o h=>
 aa (C 167 [o] h) fun p h=>
 aa (some (p,h)) fun q h=>
 aa (some (a,h)) fun r h=>
 aa (C 112 [r] h) fun s h=>
 aa (some (a,h)) fun u h=>
 aa (C 111 [u] h) fun v h=>
 aa (iD .i64 v h) fun w h=>
 aa (some (s,h)) fun y h=>
 aa (some (w,h)) fun f h=>
 aa (some (y,h)) fun z h=>
 aa (some (f,h)) fun A h=>
 aa (some (n,h)) fun B h=>
 aa (some (B,h)) fun b h=>
 aa (au (bC b==some true) (some (q,h)) h) fun D h=>
 aa (au (bC b==some true) (pu (aE prog .eql 186 D (.int .u32 1398034252)) h) h) fun E h=>
 aa (match b with | .bool t=>some (if t then E else (.bool false),h)|_=>none) fun F h=>
 aa (some (F,h)) fun c h=>
 aa (au (bC c==some true) (some (f,h)) h) fun G h=>
 aa (au (bC c==some true) (pu (aE prog .leq 3 G (.int .i64 1)) h) h) fun H h=>
 aa (match c with | .bool t=>some (if t then H else (.bool false),h)|_=>none) fun I h=>
 aa (some (z,h)) fun J h=>
 aa (some (A,h)) fun K h=>
 aa (some (I,h)) fun L h=>
 some (.tuple #[J,K,L],h)
def t106_eq:aY prog C f106 [x0,x1] h=t106 C x0 x1 h:=
 lkT (by kernel_rfl) (by kernel_rfl)
def t108 (C:ah) (x0 x1 x2:Vl) (h:ae):ba:=
 aa (dj [(.int .u64 0),(.int .i64 0),(.int .i64 0),(.slice none 0 0)] h) fun k h=>
 aa (some ((.bool false),h)) fun b8 h=>
 aa (some (x0,h)) fun l h=>
 aa (some (x1,h)) fun m h=>
 aa (some (x0,h)) fun n h=>
 aa (C 107 [n] h) fun o h=>
 aa (pu (aE prog .mul 3 m o) h) fun p h=>
 aa (pu (aE prog .add 3 (.int .i64 2) p) h) fun q h=>
 aa (some (x2,h)) fun r h=>
 aa (pu (aE prog .add 3 q r) h) fun s h=>
 aa (C 166 [l,s] h) fun u h=>
 aa (some (u,h)) fun j h=>
 aa (pu (extractA j 0) h) fun v h=>
 aa (pu (extractA j 1) h) fun w h=>
 aa (some (v,h)) fun b h=>
 aa (some (w,h)) fun y h=>
 aa (some (b,h)) fun z h=>
 aa (C 112 [z] h) fun A h=>
 aa (pu (dG [(.int .u64 0),(.int .i64 0),(.int .i64 0),(.slice none 0 0)] [(0,1,A)]) h) fun B h=>
 aa (dj [(.int .u64 0),(.int .i64 0),(.int .i64 0),(.slice none 0 0)] h) fun a h=>
 aa (bX 4 a B h) fun _ h=>
 aa (some (b,h)) fun D h=>
 aa (C 167 [D] h) fun E h=>
 aa (iD .i64 E h) fun F h=>
 aa (some (F,h)) fun G h=>
 aa (some (b,h)) fun H h=>
 aa (C 168 [H] h) fun I h=>
 aa (iD .i64 I h) fun J h=>
 aa (some (b,h)) fun K h=>
 aa (C 168 [K] h) fun L h=>
 aa (iD .i64 L h) fun M h=>
 aa (pu (aL a 1) h) fun N h=>
 aa (bX 1 N J h) fun _ h=>
 aa (pu (aL a 2) h) fun O h=>
 aa (bX 1 O M h) fun _ h=>
 aa (some (b,h)) fun P h=>
 aa (some (b,h)) fun Q h=>
 aa (C 168 [Q] h) fun R h=>
 aa (iD .i64 R h) fun S h=>
 aa (C 169 [P,S] h) fun T h=>
 aa (pu (aL a 3) h) fun U h=>
 aa (bX 1 U T h) fun _ h=>
 aa (some (y,h)) fun V h=>
 aa (some (V,h)) fun d h=>
 aa (au (bC d==some true) (some (G,h)) h) fun W h=>
 aa (au (bC d==some true) (some (x2,h)) h) fun X h=>
 aa (au (bC d==some true) (pu (aE prog .eql 3 W X) h) h) fun Y h=>
 aa (match d with | .bool t=>some (if t then Y else (.bool false),h)|_=>none) fun Z h=>
 aa (some (Z,h)) fun f h=>
 aa (au (bC f==some true) (pu (aL a 2) h) h) fun a0 h=>
 aa (au (bC f==some true) (ld1 a0 h) h) fun a1 h=>
 aa (au (bC f==some true) (pu (aE prog .geq 3 a1 (.int .i64 1)) h) h) fun a2 h=>
 aa (match f with | .bool t=>some (if t then a2 else (.bool false),h)|_=>none) fun a3 h=>
 aa (some (a3,h)) fun c h=>
 aa (au (bC c==some true) (pu (aL a 1) h) h) fun a4 h=>
 aa (au (bC c==some true) (ld1 a4 h) h) fun a5 h=>
 aa (au (bC c==some true) (pu (aL a 2) h) h) fun a6 h=>
 aa (au (bC c==some true) (ld1 a6 h) h) fun a7 h=>
 aa (au (bC c==some true) (pu (aE prog .lss 3 a5 a7) h) h) fun a8 h=>
 aa (match c with | .bool t=>some (if t then a8 else (.bool false),h)|_=>none) fun a9 h=>
 aa (some (a9,h)) fun g h=>
 aa (au (bC g==some true) (some (b,h)) h) fun b0 h=>
 aa (au (bC g==some true) (C 170 [b0] h) h) fun b1 h=>
 aa (au (bC g==some true) (pu (aE prog .eql 25 b1 (.int .i64 0)) h) h) fun b2 h=>
 aa (match g with | .bool t=>some (if t then b2 else (.bool false),h)|_=>none) fun b3 h=>
 aa (some (b3,h)) fun b4 h=>
 aa (bZ 4 a h) fun b5 h=>
 aa (some (b4,h)) fun b6 h=>
 aa (bX 4 k b5 h) fun _ h=>
 aa (some (b6,h)) fun b7 h=>
 resultsA prog f108.results.toList (aT 70 (up (bs [x0,x1,x2]) [(6,k),(7,b7),(8,b),(9,y),(10,a),(11,G),(12,b4),(13,j),(14,l),(15,m),(16,n),(17,o),(18,p),(19,q),(20,r),(21,s),(22,u),(23,v),(24,w),(25,z),(26,A),(27,B),(28,D),(29,E),(30,F),(31,H),(32,I),(33,J),(34,K),(35,L),(36,M),(37,N),(38,O),(39,P),(40,Q),(41,R),(42,S),(43,T),(44,U),(45,V),(46,d),(47,W),(48,X),(49,Y),(50,Z),(51,f),(52,a0),(53,a1),(54,a2),(55,a3),(56,c),(57,a4),(58,a5),(59,a6),(60,a7),(61,a8),(62,a9),(63,g),(64,b0),(65,b1),(66,b2),(67,b3),(68,b5),(69,b6)])) h
def t108_eq:aY prog C f108 [x0,x1,x2] h=t108 C x0 x1 x2 h:=
 lkT (by kernel_rfl) (by kernel_rfl)
def t23 (C:ah) (x0 x1:Vl) (h:ae):ba:=
 aa (box x1 h) fun c h=>
 aa (some ((.bool false),h)) fun v h=>
 aa (some (x0,h)) fun d h=>
 aa (C 60 [d] h) fun f h=>
 aa (pu (aE prog .neq 25 f (.int .i64 0)) h) fun g h=>
 (match g with
 | .bool true=>
 aa (some ((.bool false),h)) fun a h=>
 some (a,h)
 | .bool false=>
 aa (some (x0,h)) fun j h=>
 aa (pu (nilCheckA j) h) fun k h=>
 aa (pu (aL k 2) h) fun l h=>
 aa (pu (aL l 1) h) fun m h=>
 aa (ld1 m h) fun n h=>
 aa (bZ 32 c h) fun o h=>
 aa (lookupA prog 123 n o true h) fun p h=>
 aa (some (p,h)) fun b h=>
 aa (pu (extractA b 0) h) fun q h=>
 aa (pu (extractA b 1) h) fun r h=>
 aa (dj [(.int .i64 0),(.int .i64 0),(.int .i64 0)] h) fun s h=>
 aa (bX 3 s q h) fun _ h=>
 aa (some (r,h)) fun t h=>
 aa (some (t,h)) fun u h=>
 aa (some (u,h)) fun a h=>
 some (a,h)
 |_=>none)
def t23_eq:aY prog C f23 [x0,x1] h=t23 C x0 x1 h:=
 lkT (by kernel_rfl) (by kernel_rfl)
def t27 (C:ah) (x0:Vl) (h:ae):ba:=
 aa (some ((.int .u64 0),h)) fun m h=>
 aa (some (x0,h)) fun b h=>
 aa (C 60 [b] h) fun c h=>
 aa (pu (aE prog .neq 25 c (.int .i64 0)) h) fun d h=>
 (match d with
 | .bool true=>
 aa (some ((.int .u64 0),h)) fun a h=>
 some (a,h)
 | .bool false=>
 aa (some (x0,h)) fun f h=>
 aa (pu (nilCheckA f) h) fun g h=>
 aa (pu (aL g 2) h) fun j h=>
 aa (pu (aL j 0) h) fun k h=>
 aa (ld1 k h) fun l h=>
 aa (some (l,h)) fun a h=>
 some (a,h)
 |_=>none)
def t27_eq:aY prog C f27 [x0] h=t27 C x0 h:=
 lkT (by kernel_rfl) (by kernel_rfl)
def t41 (C:ah) (x0 x1:Vl) (h:ae):ba:=
 aa (box x1 h) fun b h=>
 aa (some ((.bool false),h)) fun r h=>
 aa (some (x0,h)) fun c h=>
 aa (C 60 [c] h) fun d h=>
 aa (pu (aE prog .eql 25 d (.int .i64 0)) h) fun f h=>
 aa (some (f,h)) fun a h=>
 aa (au (bC a==some true) (some (x0,h)) h) fun g h=>
 aa (au (bC a==some true) (pu (nilCheckA g) h) h) fun j h=>
 aa (au (bC a==some true) (pu (aL j 2) h) h) fun k h=>
 aa (au (bC a==some true) (pu (aL k 2) h) h) fun l h=>
 aa (au (bC a==some true) (ld1 l h) h) fun m h=>
 aa (au (bC a==some true) (bZ 32 b h) h) fun n h=>
 aa (au (bC a==some true) (lookupA prog 124 m n false h) h) fun o h=>
 aa (match a with | .bool t=>some (if t then o else (.bool false),h)|_=>none) fun p h=>
 aa (some (p,h)) fun q h=>
 some (q,h)
def t41_eq:aY prog C f41 [x0,x1] h=t41 C x0 x1 h:=
 lkT (by kernel_rfl) (by kernel_rfl)
end
def is13:bJ prog 13 f13 := .of (by kernel_rfl)
def is23:bJ prog 23 f23 := .of (by kernel_rfl)
def is27:bJ prog 27 f27 := .of (by kernel_rfl)
def is41:bJ prog 41 f41 := .of (by kernel_rfl)
def is60:bJ prog 60 f60 := .of (by kernel_rfl)
def is68:bJ prog 68 f68 := .of (by kernel_rfl)
def is69:bJ prog 69 f69 := .of (by kernel_rfl)
def is72:bJ prog 72 f72 := .of (by kernel_rfl)
def is73:bJ prog 73 f73 := .of (by kernel_rfl)
def is79:bJ prog 79 f79 := .of (by kernel_rfl)
def is83:bJ prog 83 f83 := .of (by kernel_rfl)
def is103:bJ prog 103 f103 := .of (by kernel_rfl)
def is105:bJ prog 105 f105 := .of (by kernel_rfl)
def is106:bJ prog 106 f106 := .of (by kernel_rfl)
def is107:bJ prog 107 f107 := .of (by kernel_rfl)
def is108:bJ prog 108 f108 := .of (by kernel_rfl)
def is110:bJ prog 110 f110 := .of (by kernel_rfl)
def is111:bJ prog 111 f111 := .of (by kernel_rfl)
def is112:bJ prog 112 f112 := .of (by kernel_rfl)
def is115:bJ prog 115 f115 := .of (by kernel_rfl)
def is116:bJ prog 116 f116 := .of (by kernel_rfl)
def is119:bJ prog 119 f119 := .of (by kernel_rfl)
def is120:bJ prog 120 f120 := .of (by kernel_rfl)
def is121:bJ prog 121 f121 := .of (by kernel_rfl)
def is126:bJ prog 126 f126 := .of (by kernel_rfl)
def is129:bJ prog 129 f129 := .of (by kernel_rfl)
def is132:bJ prog 132 f132 := .of (by kernel_rfl)
def is166:bJ prog 166 f166 := .of (by kernel_rfl)
def is167:bJ prog 167 f167 := .of (by kernel_rfl)
def is168:bJ prog 168 f168 := .of (by kernel_rfl)
def is169:bJ prog 169 f169 := .of (by kernel_rfl)
def is170:bJ prog 170 f170 := .of (by kernel_rfl)
def AS:bJ prog 171 f171 := .of (by kernel_rfl)
def is174:bJ prog 174 f174 := .of (by kernel_rfl)
def is175:bJ prog 175 f175 := .of (by kernel_rfl)
def is179:bJ prog 179 f179 := .of (by kernel_rfl)
def is181:bJ prog 181 f181 := .of (by kernel_rfl)
def is210:bJ prog 210 f210 := .of (by kernel_rfl)
def is211:bJ prog 211 f211 := .of (by kernel_rfl)
def DI:Nat->Option (List Vl):=fun b=>match b with
 | 1=>some cH
 |_=>none
def okF (f:FuncId):Bool:=match prog.funcs[f]? with|some fn=>sw prog fn|none=>false
def Bh : ∀ f fn,okF f=true->prog.funcs[f]? = some fn->sw prog fn=true:=by intro f fn h1 h2;unfold okF at h1;rw [h2] at h1;exact h1
def XT:TxT prog:=(.node 116 (.node 83 (.node 68 (.node 27 (.node 23 (.fc 13 (tx1 is13 t13_eq)) (.fc 23 (tx2 is23 t23_eq))) (.node 41 (.fc 27 (tx1 is27 t27_eq)) (.node 60 (.fc 41 (tx2 is41 t41_eq)) (.fc 60 (tx1 is60 t60_eq))))) (.node 72 (.node 69 (.fc 68 (tx1 is68 t68_eq)) (.fc 69 (tx2 is69 t69_eq))) (.node 73 (.fc 72 (tx1 is72 t72_eq)) (.node 79 (.fc 73 (tx1 is73 t73_eq)) (.fc 79 (tx1 is79 t79_eq)))))) (.node 108 (.node 105 (.node 103 (.fc 83 (tx2 is83 t83_eq)) (.fc 103 (tx3 is103 t103_eq))) (.node 106 (.fc 105 (tx2 is105 t105_eq)) (.node 107 (.fc 106 (tx2 is106 t106_eq)) (.fc 107 (tx1 is107 t107_eq))))) (.node 111 (.node 110 (.fc 108 (tx3 is108 t108_eq)) (.fc 110 (tx1 is110 BQ))) (.node 112 (.fc 111 (tx1 is111 C9)) (.node 115 (.fc 112 (tx1 is112 Du)) (.fc 115 (tx1 is115 t115_eq))))))) (.node 169 (.node 129 (.node 120 (.node 119 (.fc 116 (tx1 is116 t116_eq)) (.fc 119 (tx2 is119 t119_eq))) (.node 121 (.fc 120 (tx2 is120 t120_eq)) (.node 126 (.fc 121 (tx1 is121 t121_eq)) (.fc 126 (tx1 is126 t126_eq))))) (.node 166 (.node 132 (.fc 129 (tx0 is129 t129_eq)) (.fc 132 (tx1 is132 t132_eq))) (.node 167 (.fc 166 (tx2 is166 t166_eq)) (.node 168 (.fc 167 (tx1 is167 t167_eq)) (.fc 168 (tx1 is168 Ck)))))) (.node 179 (.node 171 (.node 170 (.fc 169 (tx2 is169 vX)) (.fc 170 (tx1 is170 DG))) (.node 174 (.fc 171 (tx1 AS qG)) (.node 175 (.fc 174 (tx1 is174 wi)) (.fc 175 (tx1 is175 t175_eq))))) (.node 209 (.node 181 (.fc 179 (tx1 is179 t179_eq)) (.fc 181 (tx2 is181 t181_eq))) (.node 210 (.fc 209 (tx2 yY oe)) (.node 211 (.fc 210 (tx1 is210 t210_eq)) (.fc 211 (tx1 is211 t211_eq))))))))
def isTrueV:Vl->Bool
 | .bool true=>true
 |_=>false
def smF (f:FuncId):Bool:=Nat.beq f 172||(Nat.beq f 208||(Nat.beq f 187||(Nat.beq f 136||Nat.beq f 231)))
def smF_X (f:FuncId) (args:List Vl) (h:ae) (e:smF f=false):XC f args h=none:=by unfold smF at e;simp only [I1] at e;obtain ⟨e1,e2,e3,e4,e5⟩:=e;simp only [XC,jc];rw [DU (F6 e1),DU (F6 e2),DU (F6 e3),DU (F6 e4),DU (F6 e5)]
def outT (r:ba):Bool:=Option.rec (motive:=fun _=>Bool) false (fun p=>isTrueV p.1) r
def runF:ba:=BM prog okF XC smF XT.get 100000 60 12 [] (ou prog DI)
end
end Go.Proofs.YtdhpgacmgebjdaaGreatDoor
