/-
  A part of the proof, shortened by a program.
  Conditions: as each theorem states.
-/
import Derived.Test.YtdhpgacmgebjdaaGreatDoorG14
set_option linter.all false
namespace Go.Proofs.YtdhpgacmgebjdaaGreatDoor
open Go Go.Abs Tryz
noncomputable section
section
variable (C:ah) (x:Nat->Vl) (x0 x1 x2 x3 x4 x5:Vl) (h:ae)
def t209 (C:ah) (x0 x1:Vl) (h:ae):aY:=
 aa (some ((.slice none 0 0),h)) fun V h=>
 aa (some (x0,h)) fun c h=>
 aa (pu (aA prog .eql 210 c (.pointer none)) h) fun d h=>
 aa (some (d,h)) fun b h=>
 aa (al (bt b==some false) (some (x0,h)) h) fun f h=>
 aa (al (bt b==some false) (pu (nilCheckA f) h) h) fun g h=>
 aa (al (bt b==some false) (pu (aC g 1) h) h) fun j h=>
 aa (al (bt b==some false) (ld1 j h) h) fun k h=>
 aa (al (bt b==some false) (pu (aA prog .neq 25 k (.int .i64 0)) h) h) fun l h=>
 aa (match b with | .bool t=>some (if t then (.bool true) else l,h)|_=>none) fun m h=>
 (match m with
 | .bool true=>
 aa (some ((.slice none 0 0),h)) fun a h=>
 some (a,h)
 | .bool false=>
 aa (some (x1,h)) fun n h=>
 aa (pu (aA prog .lss 3 n (.int .i64 0)) h) fun o h=>
 aa (some (o,h)) fun p h=>
 (match p with
 | .bool true=>
 aa (some (x0,h)) fun q h=>
 aa (pu (nilCheckA q) h) fun r h=>
 aa (pu (aC r 1) h) fun s h=>
 aa (bI 1 s (.int .i64 2) h) fun _ h=>
 aa (some ((.slice none 0 0),h)) fun a h=>
 some (a,h)
 | .bool false=>
 aa (some (x1,h)) fun u h=>
 aa (some (x0,h)) fun v h=>
 aa (pu (nilCheckA v) h) fun w h=>
 aa (pu (aC w 0) h) fun y h=>
 aa (ld1 y h) fun z h=>
 aa (pu (cg z) h) fun A h=>
 aa (pu (aA prog .gtr 3 u A) h) fun B h=>
 aa (some (B,h)) fun D h=>
 (match D with
 | .bool true=>
 aa (some (x0,h)) fun E h=>
 aa (pu (nilCheckA E) h) fun F h=>
 aa (pu (aC F 1) h) fun G h=>
 aa (bI 1 G (.int .i64 4) h) fun _ h=>
 aa (some ((.slice none 0 0),h)) fun a h=>
 some (a,h)
 | .bool false=>
 aa (some (x0,h)) fun H h=>
 aa (pu (nilCheckA H) h) fun I h=>
 aa (pu (aC I 0) h) fun dU h=>
 aa (ld1 dU h) fun dI h=>
 aa (some (x1,h)) fun ee h=>
 aa (pu (zR 1 dI none (some ee) none) h) fun J h=>
 aa (some (J,h)) fun K h=>
 aa (some (x0,h)) fun L h=>
 aa (some (x0,h)) fun M h=>
 aa (pu (nilCheckA M) h) fun N h=>
 aa (pu (aC N 0) h) fun O h=>
 aa (ld1 O h) fun P h=>
 aa (some (x1,h)) fun Q h=>
 aa (pu (zR 1 P (some Q) none none) h) fun R h=>
 aa (pu (nilCheckA L) h) fun S h=>
 aa (pu (aC S 0) h) fun T h=>
 aa (bI 1 T R h) fun _ h=>
 aa (some (K,h)) fun U h=>
 aa (some (U,h)) fun a h=>
 some (a,h)
 |_=>none)
 |_=>none)
 |_=>none)
def oH:aV prog C f209 [x0,x1] h=t209 C x0 x1 h:=
 lkT (by kernel_rfl) (by kernel_rfl)
def k172_2 (C:ah) (e:aO) (h:ae):aY:=codeK prog C (aq f172 [1,1,1]) e h (resultsA prog f172.results.toList) (resultsA prog f172.results.toList) (fun _ _ _=>none)
def b172_4 (C:ah) (i:Nat) (e:aO) (h:ae):aY:=if i=0 then (k172_2 C) e h else (fun _ _ _=>none) i e h
def t172 (C:ah) (x0 x1:Vl) (h:ae):aY:=
 aa (some ((.int .u64 0),h)) fun d h=>
 aa (some ((.int .u64 0),h)) fun f h=>
 aa (some (x0,h)) fun a h=>
 aa (some (x1,h)) fun b h=>
 aa (C 209 [a,b] h) fun c h=>
 aa (pu (cg c) h) fun g h=>
 aa (some ((.int .i64 0),h)) fun j h=>
 dH (iter (codeA prog C (aq f172 [1,1,0,1,0,0])) az (aS 23 (up (bs [x0,x1]) [(4,d),(5,f),(8,a),(9,b),(10,c),(11,g),(12,j)])) h) (resultsA prog f172.results.toList) (b172_4 C)
def sk (C:ah) (x:Nat->Vl) (h:ae):aY:=
 aa (some ((x 5),h)) fun a h=>
 aa (some (a,h)) fun b h=>
 some (b,h)
def lQ (C:ah) (x:Nat->Vl) (h:ae):Option (Ex×aO×ae):=
 aa (pu (aA prog .lss 3 (x 12) (x 11)) h) fun a h=>
 (match a with
 | .bool true=>
 aa (pu (idxS 1 (x 10) (x 12)) h) fun b h=>
 aa (ld1 b h) fun c h=>
 aa (some (c,h)) fun d h=>
 aa (some ((x 5),h)) fun f h=>
 aa (pu (aA prog .shl 52 f (.int .u64 8)) h) fun g h=>
 aa (some (d,h)) fun j h=>
 aa (iQ .u64 j h) fun k h=>
 aa (pu (aA prog .or 52 g k) h) fun l h=>
 aa (some (l,h)) fun n h=>
 aa (pu (aA prog .add 3 (x 12) (.int .i64 1)) h) fun m h=>
 aa (some (m,h)) fun o h=>
 some (.normal,(aS 23 (up x [(5,n),(7,d),(12,o),(13,a),(14,b),(15,c),(16,f),(17,g),(18,j),(19,k),(20,l),(21,m)])),h)
 | .bool false=>
 some (.exit 0,(aS 23 (up x [(13,a)])),h)
 |_=>none)
def wX:aV prog C f172 [x0,x1] h=t172 C x0 x1 h:=
 lkT (by kernel_rfl) (by kernel_rfl)
def Ap:k172_2 C (aS 23 x) h=sk C x h:=
 bg (T:=sk C) (fun x h=>by kernel_rfl) x h
def tW:codeA prog C (aq f172 [1,1,0,1,0,0]) (aS 23 x) h=lQ C x h:=
 aW (T:=lQ C) (fun x h=>by kernel_rfl) x h
def t171 (C:ah) (x0:Vl) (h:ae):aY:=
 aa (some ((.slice none 0 0),h)) fun j h=>
 aa (some (x0,h)) fun b h=>
 aa (pu (aA prog .eql 22 b (.slice none 0 0)) h) fun c h=>
 (match c with
 | .bool true=>
 aa (some ((.slice none 0 0),h)) fun a h=>
 some (a,h)
 | .bool false=>
 aa (gK 1 (.int .u8 0) 0 [] h) fun d h=>
 aa (some (x0,h)) fun f h=>
 aa (appendA 1 1 d f h) fun g h=>
 aa (some (g,h)) fun a h=>
 some (a,h)
 |_=>none)
def qQ:aV prog C f171 [x0] h=t171 C x0 h:=
 lkT (by kernel_rfl) (by kernel_rfl)
end
def iE:prog.follows .mixedOrders=true:=by kernel_rfl
def c136:bU prog 136 cmpS:=BP (fn:=f136) (by kernel_rfl) (by kernel_rfl) (by kernel_rfl) (by kernel_rfl) (by kernel_rfl)
def COnce:ah:=km [(232,s232)]
def COnce_sound:bk prog COnce:=fx _ (by intro p hp;simp only [ER,ET,GX] at hp;subst hp;exact c232)
def s231:List Vl->ae->aY:=onceS COnce
def c231:bU prog 231 s231:=zD COnce_sound (EH (by kernel_rfl))
abbrev XB:ah:=km []
def XB_sound:bk prog XB:=fx _ (fun _ hp=>by cases hp)
def be (l:List Nat):Nat:=l.foldl (fun v x=>v*256+x) 0
def be_snoc (l:List Nat) (x:Nat):be (l ++ [x])=be l*256+x:=by simp [be]
def qe : ∀ (n:Nat) (l:List Nat),l.length=n->(∀ x∈l,x<256)->be l<256^n
 | 0,l,hl,_=>by have:l = []:=EC.1 hl;subst this;decide
 |n+1,l,hl,hb=>by
  rcases List.eq_nil_or_concat l with h0|⟨m,x,h0⟩
  ·subst h0;cases hl
  ·rw [List.concat_eq_append] at h0;subst h0;have hm:m.length=n:=by simpa using hl
   have:=qe n m hm (fun y hy=>hb y (List.mem_append_left _ hy));have hx:=hb x (by simp);rw [be_snoc,Nat.pow_succ];omega
def take_snocN {l:List Nat} {i:Nat} (h:i<l.length):l.take (i+1)=l.take i ++ [l.getD i 0]:=by rw [H5,DE h,DK,DE h];rfl
def shl_or {v x:Nat} (hv:v<72057594037927936) (hx:x<256):aA prog .shl 52 (.int .u64 (v:Int)) (.int .u64 8)=some (.int .u64 ((v*256:Nat):Int)) /\
  aA prog .or 52 (.int .u64 ((v*256:Nat):Int)) (.int .u64 (x:Int))=some (.int .u64 ((v*256+x:Nat):Int)):=by
 constructor
 ·rw [ef];have h2:min (8:Int).toNat (IntKind.bits .u64)=8:=by decide
  simp only [iw,show ¬((8:Int)<0) by decide,DS,h2];have h3:(2:Int)^8=256:=by decide
  rw [h3,show (v:Int)*256=((v*256:Nat):Int) by omega,jk (by omega) (by omega)]
 ·rw [x7 prog 52 (k := .u64) rfl (by show _<2^64;omega) (by show _<2^64;omega)];have:=Nat.two_pow_add_eq_or_of_lt (i:=8) (b:=x) (by omega) v;rw [show v*256=2^8*v by omega,<-this]
def byte_at {h:ae} {a:Option Addr} {n c i:Nat} {l:List Nat} (e:ao a n h=some l) (hi:i<n) : ∃ b p,a.map (·.block)=some b/\idxS 1 (.slice a n c) (aj i)=some (ptr b p)/\ld1 (ptr b p) h=some (u8 (l.getD i 0),h):=by obtain ⟨h1,h2,h3⟩:=ay e;obtain ⟨b,off,s,k,rfl,hk,hlen,hc⟩:=h3 (by omega);refine ⟨b,off+i,rfl,?_,aH hk (hc i hi) rfl⟩;unfold idxS;simp only [aj];rw [DH (by omega),Int.toNat_natCast,FG]
def CL {C:ah} {x y:Vl} {h h1:ae} {a:Option Addr} {n c:Nat} {l:List Nat} (e1:C 209 [x,y] h=some (.slice a n c,h1)) (e:ao a n h1=some l) (hn:n<=8):t172 C x y h=some (.int .u64 ((be l:Nat):Int),h1):=by
 obtain ⟨hl,hb,_⟩:=ay e;have hll:cg (.slice a n c)=some (aj n):=rfl;unfold t172;simp -implicitDefEqProofs only [af,e1,hll,ak];refine cH (n:=23) (fin:=fun ex y g=>ex = .exit 0/\g=h1/\y 5 = .int .u64 ((be l:Nat):Int)) (Q:=fun o:aY=>o=some (Value.int .u64 ((be l:Nat):Int),h1))
  (bL (tW C) (Inv:=fun k y g => ∃ i,i+k=n/\y 10 = .slice a n c/\y 11=aj n/\y 12=aj i/\g=h1/\y 5 = .int .u64 ((be (l.take i):Nat):Int)) ?_ n (by have:az=18446744073709551616:=rfl;omega) ⟨0,DC _,rfl,rfl,rfl,rfl,rfl⟩) ?_
 ·rintro k y g ⟨i,hik,y10,y11,y12,rfl,y5⟩;unfold lQ;simp -implicitDefEqProofs only [y12,y11,af,ak,gS];by_cases hi:i<n
  ·obtain ⟨b,p,_,i1,i2⟩:=byte_at (c:=c) e hi;have hv:l.getD i 0<256:=by rw [DK,DE (by omega)];exact hb _ (GP _)
   have hbe:=qe i (l.take i) (by simp;omega) (fun x hx=>hb x (D6 hx));have hbe2:be (l.take i)<72057594037927936:=EX hbe (D9 (H8 (by decide) (show i<=7 by omega)) (by decide));obtain ⟨b1,b2⟩:=shl_or hbe2 hv;have hw:IntKind.wrap .u64 ((l.getD i 0:Nat):Int)=((l.getD i 0:Nat):Int):=jk (by omega) (by omega);simp -implicitDefEqProofs only [DN hi,af,y10,y5,b1,ak,i1,i2,u8,bY,hw,b2,eW (show i+1<=9223372036854775807 by omega)];refine dE.next (k-1) (by omega) ⟨i+1,by omega,y10,y11,rfl,rfl,?_⟩;rw [take_snocN (by omega),be_snoc];rfl
  ·have:i=n:=by omega
   subst this;simp -implicitDefEqProofs only [DW hi];exact dE.out 0 ⟨rfl,rfl,by rw [D3 (by omega)] at y5;exact y5⟩
 ·rintro ex z g ⟨rfl,rfl,z5⟩;simp -implicitDefEqProofs only [bh,b172_4,DV,Ap];unfold sk;rw [z5];rfl
def s172 (args:List Vl) (h:ae):aY:=
 match args with
 | [x,y]=>match t209 noC x y h with
   |some (.slice a n _,g)=>match ao a n g with
    |some l=>if Nat.ble 3 h.n0&&Nat.ble n 8 then some (.int .u64 (be l:Nat),g) else none
    |none=>none
   |_=>none
 |_=>none
def yE:bE prog 209 f209 := .of (by kernel_rfl)
def is172:bE prog 172 f172 := .of (by kernel_rfl)
def c172:bU prog 172 s172:=(bU.of_CC mixed XB_sound is172).weaker fun args h r e=>by
 unfold s172 at e;split at e
 ·rename_i x y;split at e
  ·rename_i a n c g h209;split at e
   ·rename_i l hl;split at e
    ·rename_i hc;cases e;rw [DD] at hc;have hg:prog.globals.size<=h.n0:=by rw [iv];exact EH hc.1
     have e:=(oH noC x y h).trans h209;rw [mS] at e;exact tS is172 hg rfl ((wX _ _ _ _).trans (CL (tS yE hg rfl (r9 (fun _ _ _ _ e=>by cases e) e)) hl (EH hc.2)))
    ·cases e
   ·cases e
  ·cases e
 ·cases e
abbrev XC:ah:=km [(172,s172),(208,s208),(187,s187),(136,cmpS),(231,s231)]
def XC_sound:bk prog XC:=fx _ (by
 intro p hp;simp only [ER,ET,GX] at hp;rcases hp with rfl|rfl|rfl|rfl|rfl
 ·exact c172
 ·exact c208
 ·exact c187
 ·exact c136
 ·exact c231)
section
variable (C:ah) (x:Nat->Vl) (x0 x1 x2 x3 x4 x5:Vl) (h:ae)
def t13 (C:ah) (x0:Vl) (h:ae):aY:=
 aa (some ((.pointer none),h)) fun p h=>
 aa (some ((.int .i64 0),h)) fun q h=>
 aa (some (x0,h)) fun f h=>
 aa (pu (aA prog .lss 3 f (.int .i64 4)) h) fun g h=>
 aa (some (g,h)) fun a h=>
 aa (al (bt a==some false) (some (x0,h)) h) fun j h=>
 aa (al (bt a==some false) (pu (aA prog .gtr 3 j (.int .i64 4096)) h) h) fun k h=>
 aa (match a with | .bool t=>some (if t then (.bool true) else k,h)|_=>none) fun l h=>
 (match l with
 | .bool true=>
 aa (some ((.pointer none),h)) fun b h=>
 aa (some ((.int .i64 2),h)) fun c h=>
 some (.tuple #[b,c],h)
 | .bool false=>
 aa (some (x0,h)) fun d h=>
 aa (mkR 128 128 (.agg (List.replicate 128 (.int .u8 0)).toArray) d d h) fun m h=>
 aa (pu (cN [(.slice none 0 0),(.bool false),(.bool false),(.int .i64 0),(.int .i64 0),(.int .i64 0)] [(0,1,m)]) h) fun n h=>
 aa (box n h) fun o h=>
 aa (some (o,h)) fun b h=>
 aa (some ((.int .i64 0),h)) fun c h=>
 some (.tuple #[b,c],h)
 |_=>none)
def t13_eq:aV prog C f13 [x0] h=t13 C x0 h:=
 lkT (by kernel_rfl) (by kernel_rfl)
def t69 (C:ah) (x0 x1:Vl) (h:ae):aY:=
 aa (some ((.int .i64 0),h)) fun B h=>
 aa (some ((.int .i64 0),h)) fun D h=>
 aa (some (x0,h)) fun g h=>
 aa (pu (aA prog .lss 3 g (.int .i64 1)) h) fun j h=>
 aa (some (j,h)) fun a h=>
 aa (al (bt a==some false) (some (x0,h)) h) fun k h=>
 aa (al (bt a==some false) (pu (aA prog .gtr 3 k (.int .i64 255)) h) h) fun l h=>
 aa (match a with | .bool t=>some (if t then (.bool true) else l,h)|_=>none) fun m h=>
 aa (some (m,h)) fun b h=>
 aa (al (bt b==some false) (some (x1,h)) h) fun n h=>
 aa (al (bt b==some false) (pu (aA prog .lss 3 n (.int .i64 0)) h) h) fun o h=>
 aa (match b with | .bool t=>some (if t then (.bool true) else o,h)|_=>none) fun p h=>
 aa (some (p,h)) fun c h=>
 aa (al (bt c==some false) (some (x1,h)) h) fun q h=>
 aa (al (bt c==some false) (pu (aA prog .gtr 3 q (.int .i64 8192)) h) h) fun r h=>
 aa (match c with | .bool t=>some (if t then (.bool true) else r,h)|_=>none) fun s h=>
 (match s with
 | .bool true=>
 aa (some ((.int .i64 0),h)) fun d h=>
 aa (some ((.int .i64 2),h)) fun f h=>
 some (.tuple #[d,f],h)
 | .bool false=>
 aa (some (x1,h)) fun u h=>
 aa (some (x0,h)) fun v h=>
 aa (pu (aA prog .add 3 u v) h) fun w h=>
 aa (pu (aA prog .sub 3 w (.int .i64 1)) h) fun y h=>
 aa (some (x0,h)) fun z h=>
 aa (pu (aA prog .quo 3 y z) h) fun A h=>
 aa (some (A,h)) fun d h=>
 aa (some ((.int .i64 0),h)) fun f h=>
 some (.tuple #[d,f],h)
 |_=>none)
def t69_eq:aV prog C f69 [x0,x1] h=t69 C x0 x1 h:=
 lkT (by kernel_rfl) (by kernel_rfl)
def t73 (C:ah) (x0:Vl) (h:ae):aY:=
 aa (some ((.int .i64 0),h)) fun k h=>
 aa (some (x0,h)) fun b h=>
 aa (pu (aA prog .leq 3 b (.int .i64 106)) h) fun c h=>
 (match c with
 | .bool true=>
 aa (some ((.int .i64 1),h)) fun a h=>
 some (a,h)
 | .bool false=>
 aa (some (x0,h)) fun d h=>
 aa (pu (aA prog .sub 3 d (.int .i64 1)) h) fun f h=>
 aa (pu (aA prog .quo 3 f (.int .i64 106)) h) fun g h=>
 aa (pu (aA prog .add 3 g (.int .i64 1)) h) fun j h=>
 aa (some (j,h)) fun a h=>
 some (a,h)
 |_=>none)
def t73_eq:aV prog C f73 [x0] h=t73 C x0 h:=
 lkT (by kernel_rfl) (by kernel_rfl)
def t83 (C:ah) (x0 x1:Vl) (h:ae):aY:=
 aa (some ((.int .i64 0),h)) fun f h=>
 aa (some (x0,h)) fun a h=>
 aa (some (x1,h)) fun b h=>
 aa (C 136 [a,b] h) fun c h=>
 aa (some (c,h)) fun d h=>
 some (d,h)
def t83_eq:aV prog C f83 [x0,x1] h=t83 C x0 x1 h:=
 lkT (by kernel_rfl) (by kernel_rfl)
def t103 (C:ah) (x0 x1 x2:Vl) (h:ae):aY:=
 aa (some ((.bool false),h)) fun v h=>
 aa (some (x0,h)) fun d h=>
 aa (pu (aA prog .leq 3 (.int .i64 1) d) h) fun f h=>
 aa (some (f,h)) fun a h=>
 aa (al (bt a==some true) (some (x0,h)) h) fun g h=>
 aa (al (bt a==some true) (some (x1,h)) h) fun j h=>
 aa (al (bt a==some true) (pu (aA prog .leq 3 g j) h) h) fun k h=>
 aa (match a with | .bool t=>some (if t then k else (.bool false),h)|_=>none) fun l h=>
 aa (some (l,h)) fun b h=>
 aa (al (bt b==some true) (some (x1,h)) h) fun m h=>
 aa (al (bt b==some true) (some (x2,h)) h) fun n h=>
 aa (al (bt b==some true) (pu (aA prog .leq 3 m n) h) h) fun o h=>
 aa (match b with | .bool t=>some (if t then o else (.bool false),h)|_=>none) fun p h=>
 aa (some (p,h)) fun c h=>
 aa (al (bt c==some true) (some (x2,h)) h) fun q h=>
 aa (al (bt c==some true) (pu (aA prog .leq 3 q (.int .i64 255)) h) h) fun r h=>
 aa (match c with | .bool t=>some (if t then r else (.bool false),h)|_=>none) fun s h=>
 aa (some (s,h)) fun u h=>
 some (u,h)
def Cw:aV prog C f103 [x0,x1,x2] h=t103 C x0 x1 x2 h:=
 lkT (by kernel_rfl) (by kernel_rfl)
def t105 (C:ah) (x0 x1:Vl) (h:ae):aY:=
 aa (some ((.int .i64 0),h)) fun A h=>
 aa (some (x0,h)) fun c h=>
 aa (pu (aA prog .eql 24 c (.pointer none)) h) fun d h=>
 aa (some (d,h)) fun f h=>
 (match f with
 | .bool true=>
 aa (some ((.int .i64 1),h)) fun b h=>
 some (b,h)
 | .bool false=>
 aa (some (x0,h)) fun g h=>
 aa (pu (nilCheckA g) h) fun j h=>
 aa (pu (aC j 1) h) fun k h=>
 aa (ld1 k h) fun l h=>
 aa (some (l,h)) fun m h=>
 (match m with
 | .bool true=>
 aa (some ((.int .i64 9),h)) fun b h=>
 some (b,h)
 | .bool false=>
 aa (some (x1,h)) fun n h=>
 aa (pu (aA prog .lss 3 n (.int .i64 0)) h) fun o h=>
 aa (some (o,h)) fun a h=>
 aa (al (bt a==some false) (some (x1,h)) h) fun p h=>
 aa (al (bt a==some false) (some (x0,h)) h) fun q h=>
 aa (al (bt a==some false) (pu (nilCheckA q) h) h) fun r h=>
 aa (al (bt a==some false) (pu (aC r 0) h) h) fun s h=>
 aa (al (bt a==some false) (ld1 s h) h) fun u h=>
 aa (al (bt a==some false) (pu (cg u) h) h) fun v h=>
 aa (al (bt a==some false) (pu (aA prog .geq 3 p v) h) h) fun w h=>
 aa (match a with | .bool t=>some (if t then (.bool true) else w,h)|_=>none) fun y h=>
 aa (some (y,h)) fun z h=>
 (match z with
 | .bool true=>
 aa (some ((.int .i64 2),h)) fun b h=>
 some (b,h)
 | .bool false=>
 aa (some ((.int .i64 0),h)) fun b h=>
 some (b,h)
 |_=>none)
 |_=>none)
 |_=>none)
def t105_eq:aV prog C f105 [x0,x1] h=t105 C x0 x1 h:=
 lkT (by kernel_rfl) (by kernel_rfl)
def t107 (C:ah) (x0:Vl) (h:ae):aY:=
 aa (some ((.int .i64 0),h)) fun l h=>
 aa (some (x0,h)) fun a h=>
 aa (pu (nilCheckA a) h) fun b h=>
 aa (pu (aC b 0) h) fun c h=>
 aa (ld1 c h) fun d h=>
 aa (pu (cg d) h) fun f h=>
 aa (pu (aA prog .sub 3 f (.int .i64 2)) h) fun g h=>
 aa (pu (aA prog .quo 3 g (.int .i64 2)) h) fun j h=>
 aa (some (j,h)) fun k h=>
 some (k,h)
def t107_eq:aV prog C f107 [x0] h=t107 C x0 h:=
 lkT (by kernel_rfl) (by kernel_rfl)
def t110 (C:ah) (x0:Vl) (h:ae):aY:=
 aa (some ((.pointer none),h)) fun g h=>
 aa (some (x0,h)) fun a h=>
 aa (C 171 [a] h) fun b h=>
 aa (pu (cN [(.slice none 0 0),(.int .i64 0)] [(0,1,b)]) h) fun c h=>
 aa (box c h) fun d h=>
 aa (some (d,h)) fun f h=>
 some (f,h)
def BY:aV prog C f110 [x0] h=t110 C x0 h:=
 lkT (by kernel_rfl) (by kernel_rfl)
def t111 (C:ah) (x0:Vl) (h:ae):aY:=
 aa (some ((.int .u8 0),h)) fun f h=>
 aa (some (x0,h)) fun a h=>
 aa (C 172 [a,(.int .i64 1)] h) fun b h=>
 aa (iQ .u8 b h) fun c h=>
 aa (some (c,h)) fun d h=>
 some (d,h)
def BF:aV prog C f111 [x0] h=t111 C x0 h:=
 lkT (by kernel_rfl) (by kernel_rfl)
def t112 (C:ah) (x0:Vl) (h:ae):aY:=
 aa (some ((.int .u64 0),h)) fun d h=>
 aa (some (x0,h)) fun a h=>
 aa (C 172 [a,(.int .i64 8)] h) fun b h=>
 aa (some (b,h)) fun c h=>
 some (c,h)
def t112_eq:aV prog C f112 [x0] h=t112 C x0 h:=
 lkT (by kernel_rfl) (by kernel_rfl)
def t116 (C:ah) (x0:Vl) (h:ae):aY:=
 aa (some ((.pointer none),h)) fun g h=>
 aa (some (x0,h)) fun a h=>
 aa (pu (minmax true (.int .i64 0) [a]) h) fun b h=>
 aa (pu (cN [(.int .i64 0),(.bool false),(.slice none 0 0)] [(0,1,b)]) h) fun c h=>
 aa (box c h) fun d h=>
 aa (some (d,h)) fun f h=>
 some (f,h)
def t116_eq:aV prog C f116 [x0] h=t116 C x0 h:=
 lkT (by kernel_rfl) (by kernel_rfl)
def t121 (C:ah) (x0:Vl) (h:ae):aY:=
 aa (some ((.slice none 0 0),h)) fun s h=>
 aa (some ((.int .i64 0),h)) fun t h=>
 aa (some (x0,h)) fun c h=>
 aa (pu (aA prog .eql 218 c (.pointer none)) h) fun d h=>
 aa (some (d,h)) fun f h=>
 (match f with
 | .bool true=>
 aa (some ((.slice none 0 0),h)) fun a h=>
 aa (some ((.int .i64 1),h)) fun b h=>
 some (.tuple #[a,b],h)
 | .bool false=>
 aa (some (x0,h)) fun g h=>
 aa (pu (nilCheckA g) h) fun j h=>
 aa (pu (aC j 1) h) fun k h=>
 aa (ld1 k h) fun l h=>
 aa (some (l,h)) fun m h=>
 (match m with
 | .bool true=>
 aa (some ((.slice none 0 0),h)) fun a h=>
 aa (some ((.int .i64 3),h)) fun b h=>
 some (.tuple #[a,b],h)
 | .bool false=>
 aa (some (x0,h)) fun n h=>
 aa (pu (nilCheckA n) h) fun o h=>
 aa (pu (aC o 2) h) fun p h=>
 aa (ld1 p h) fun q h=>
 aa (C 171 [q] h) fun r h=>
 aa (some (r,h)) fun a h=>
 aa (some ((.int .i64 0),h)) fun b h=>
 some (.tuple #[a,b],h)
 |_=>none)
 |_=>none)
def t121_eq:aV prog C f121 [x0] h=t121 C x0 h:=
 lkT (by kernel_rfl) (by kernel_rfl)
def t126 (C:ah) (x0:Vl) (h:ae):aY:=
 aa (box x0 h) fun a h=>
 aa (some (.nilFunc,h)) fun d h=>
 aa (some (.func (.func 186) #[] #[a],h)) fun b h=>
 aa (some (b,h)) fun c h=>
 some (c,h)
def t126_eq:aV prog C f126 [x0] h=t126 C x0 h:=
 lkT (by kernel_rfl) (by kernel_rfl)
def t129 (C:ah) (h:ae):aY:=
 aa (some ((.pointer none),h)) fun f h=>
 aa (pu (cN (List.replicate 8 (.int .u32 0)) [(0,1,(.int .u32 1779033703)),(1,1,(.int .u32 3144134277)),(2,1,(.int .u32 1013904242)),(3,1,(.int .u32 2773480762)),(4,1,(.int .u32 1359893119)),(5,1,(.int .u32 2600822924)),(6,1,(.int .u32 528734635)),(7,1,(.int .u32 1541459225))]) h) fun a h=>
 aa (pu (cN zlit2 [(0,8,a)]) h) fun b h=>
 aa (box b h) fun c h=>
 aa (some (c,h)) fun d h=>
 some (d,h)
def t129_eq:aV prog C f129 [] h=t129 C h:=
 lkT (by kernel_rfl) (by kernel_rfl)
def t132 (C:ah) (x0:Vl) (h:ae):aY:=
 aa (some ((.int .i64 0),h)) fun G h=>
 aa (some (x0,h)) fun c h=>
 aa (pu (aA prog .eql 119 c (.pointer none)) h) fun d h=>
 aa (some (d,h)) fun f h=>
 (match f with
 | .bool true=>
 aa (some ((.int .i64 1),h)) fun b h=>
 some (b,h)
 | .bool false=>
 aa (some (x0,h)) fun g h=>
 aa (pu (nilCheckA g) h) fun j h=>
 aa (pu (aC j 0) h) fun k h=>
 aa (ld1 k h) fun l h=>
 aa (pu (nilCheckA l) h) fun m h=>
 aa (pu (aC m 1) h) fun n h=>
 aa (ld1 n h) fun o h=>
 aa (some (o,h)) fun a h=>
 aa (al (bt a==some false) (some (x0,h)) h) fun p h=>
 aa (al (bt a==some false) (pu (nilCheckA p) h) h) fun q h=>
 aa (al (bt a==some false) (pu (aC q 0) h) h) fun r h=>
 aa (al (bt a==some false) (ld1 r h) h) fun s h=>
 aa (al (bt a==some false) (pu (nilCheckA s) h) h) fun u h=>
 aa (al (bt a==some false) (pu (aC u 5) h) h) fun v h=>
 aa (al (bt a==some false) (ld1 v h) h) fun w h=>
 aa (al (bt a==some false) (some (x0,h)) h) fun y h=>
 aa (al (bt a==some false) (pu (nilCheckA y) h) h) fun z h=>
 aa (al (bt a==some false) (pu (aC z 1) h) h) fun A h=>
 aa (al (bt a==some false) (ld1 A h) h) fun B h=>
 aa (al (bt a==some false) (pu (aA prog .neq 3 w B) h) h) fun D h=>
 aa (match a with | .bool t=>some (if t then (.bool true) else D,h)|_=>none) fun E h=>
 aa (some (E,h)) fun F h=>
 (match F with
 | .bool true=>
 aa (some ((.int .i64 9),h)) fun b h=>
 some (b,h)
 | .bool false=>
 aa (some ((.int .i64 0),h)) fun b h=>
 some (b,h)
 |_=>none)
 |_=>none)
def t132_eq:aV prog C f132 [x0] h=t132 C x0 h:=
 lkT (by kernel_rfl) (by kernel_rfl)
def t167 (C:ah) (x0:Vl) (h:ae):aY:=
 aa (some ((.int .u32 0),h)) fun f h=>
 aa (some (x0,h)) fun a h=>
 aa (C 172 [a,(.int .i64 4)] h) fun b h=>
 aa (iQ .u32 b h) fun c h=>
 aa (some (c,h)) fun d h=>
 some (d,h)
def t167_eq:aV prog C f167 [x0] h=t167 C x0 h:=
 lkT (by kernel_rfl) (by kernel_rfl)
def t168 (C:ah) (x0:Vl) (h:ae):aY:=
 aa (some ((.int .u16 0),h)) fun f h=>
 aa (some (x0,h)) fun a h=>
 aa (C 172 [a,(.int .i64 2)] h) fun b h=>
 aa (iQ .u16 b h) fun c h=>
 aa (some (c,h)) fun d h=>
 some (d,h)
def BX:aV prog C f168 [x0] h=t168 C x0 h:=
 lkT (by kernel_rfl) (by kernel_rfl)
def t169 (C:ah) (x0 x1:Vl) (h:ae):aY:=
 aa (some ((.slice none 0 0),h)) fun g h=>
 aa (some (x0,h)) fun a h=>
 aa (some (x1,h)) fun b h=>
 aa (C 209 [a,b] h) fun c h=>
 aa (C 171 [c] h) fun d h=>
 aa (some (d,h)) fun f h=>
 some (f,h)
def wW:aV prog C f169 [x0,x1] h=t169 C x0 x1 h:=
 lkT (by kernel_rfl) (by kernel_rfl)
def t170 (C:ah) (x0:Vl) (h:ae):aY:=
 aa (some ((.int .i64 0),h)) fun k h=>
 aa (some (x0,h)) fun b h=>
 aa (pu (aA prog .eql 210 b (.pointer none)) h) fun c h=>
 (match c with
 | .bool true=>
 aa (some ((.int .i64 1),h)) fun a h=>
 some (a,h)
 | .bool false=>
 aa (some (x0,h)) fun d h=>
 aa (pu (nilCheckA d) h) fun f h=>
 aa (pu (aC f 1) h) fun g h=>
 aa (ld1 g h) fun j h=>
 aa (some (j,h)) fun a h=>
 some (a,h)
 |_=>none)
def Cf:aV prog C f170 [x0] h=t170 C x0 h:=
 lkT (by kernel_rfl) (by kernel_rfl)
def t174 (C:ah) (x0:Vl) (h:ae):aY:=
 aa (some ((.slice none 0 0),h)) fun M h=>
 aa (some (x0,h)) fun c h=>
 aa (pu (aA prog .eql 210 c (.pointer none)) h) fun d h=>
 aa (some (d,h)) fun a h=>
 aa (al (bt a==some false) (some (x0,h)) h) fun f h=>
 aa (al (bt a==some false) (pu (nilCheckA f) h) h) fun g h=>
 aa (al (bt a==some false) (pu (aC g 1) h) h) fun j h=>
 aa (al (bt a==some false) (ld1 j h) h) fun k h=>
 aa (al (bt a==some false) (pu (aA prog .neq 25 k (.int .i64 0)) h) h) fun l h=>
 aa (match a with | .bool t=>some (if t then (.bool true) else l,h)|_=>none) fun m h=>
 (match m with
 | .bool true=>
 aa (some ((.slice none 0 0),h)) fun b h=>
 some (b,h)
 | .bool false=>
 aa (some (x0,h)) fun n h=>
 aa (pu (nilCheckA n) h) fun o h=>
 aa (pu (aC o 0) h) fun p h=>
 aa (ld1 p h) fun q h=>
 aa (some (q,h)) fun r h=>
 aa (some (x0,h)) fun s h=>
 aa (some (x0,h)) fun u h=>
 aa (C 172 [u,(.int .i64 2)] h) fun v h=>
 aa (iQ .i64 v h) fun w h=>
 aa (C 209 [s,w] h) fun y h=>
 aa (some (y,h)) fun z h=>
 aa (some (x0,h)) fun A h=>
 aa (pu (nilCheckA A) h) fun B h=>
 aa (pu (aC B 1) h) fun D h=>
 aa (ld1 D h) fun E h=>
 aa (pu (aA prog .neq 25 E (.int .i64 0)) h) fun F h=>
 (match F with
 | .bool true=>
 aa (some (x0,h)) fun G h=>
 aa (some (r,h)) fun H h=>
 aa (pu (nilCheckA G) h) fun I h=>
 aa (pu (aC I 0) h) fun J h=>
 aa (bI 1 J H h) fun _ h=>
 aa (some ((.slice none 0 0),h)) fun b h=>
 some (b,h)
 | .bool false=>
 aa (some (z,h)) fun K h=>
 aa (C 171 [K] h) fun L h=>
 aa (some (L,h)) fun b h=>
 some (b,h)
 |_=>none)
 |_=>none)
def wM:aV prog C f174 [x0] h=t174 C x0 h:=
 lkT (by kernel_rfl) (by kernel_rfl)
def t175 (C:ah) (x0:Vl) (h:ae):aY:=
 aa (some ((.int .i64 0),h)) fun l h=>
 aa (some (x0,h)) fun b h=>
 aa (pu (aA prog .eql 210 b (.pointer none)) h) fun c h=>
 (match c with
 | .bool true=>
 aa (some ((.int .i64 0),h)) fun a h=>
 some (a,h)
 | .bool false=>
 aa (some (x0,h)) fun d h=>
 aa (pu (nilCheckA d) h) fun f h=>
 aa (pu (aC f 0) h) fun g h=>
 aa (ld1 g h) fun j h=>
 aa (pu (cg j) h) fun k h=>
 aa (some (k,h)) fun a h=>
 some (a,h)
 |_=>none)
def t175_eq:aV prog C f175 [x0] h=t175 C x0 h:=
 lkT (by kernel_rfl) (by kernel_rfl)
def t179 (C:ah) (x0:Vl) (h:ae):aY:=
 aa (some ((.slice none 0 0),h)) fun M h=>
 aa (some (x0,h)) fun d h=>
 aa (C 121 [d] h) fun f h=>
 aa (some (f,h)) fun c h=>
 aa (pu (extractA c 0) h) fun g h=>
 aa (pu (extractA c 1) h) fun j h=>
 aa (some (g,h)) fun k h=>
 aa (some (j,h)) fun N h=>
 aa (mkR 1 1 (.int .u8 0) (.int .i64 128) (.int .i64 128) h) fun l h=>
 aa (some (l,h)) fun a h=>
 aa (some (a,h)) fun m h=>
 aa (pu (zR 1 m (some (.int .i64 4)) none none) h) fun n h=>
 aa (some (k,h)) fun o h=>
 aa (js 1 n o h) fun O h=>
 aa (some (a,h)) fun p h=>
 aa (pu (zR 1 p (some (.int .i64 4)) none none) h) fun q h=>
 aa (C 208 [q] h) fun r h=>
 aa (some (r,h)) fun b h=>
 aa (some (a,h)) fun s h=>
 aa (some (a,h)) fun t h=>
 aa (some (a,h)) fun u h=>
 aa (some (a,h)) fun v h=>
 aa (some (b,h)) fun w h=>
 aa (pu (aA prog .shr 186 w (.int .u64 24)) h) fun y h=>
 aa (iQ .u8 y h) fun z h=>
 aa (some (b,h)) fun A h=>
 aa (pu (aA prog .shr 186 A (.int .u64 16)) h) fun B h=>
 aa (iQ .u8 B h) fun D h=>
 aa (some (b,h)) fun E h=>
 aa (pu (aA prog .shr 186 E (.int .u64 8)) h) fun F h=>
 aa (iQ .u8 F h) fun G h=>
 aa (some (b,h)) fun H h=>
 aa (iQ .u8 H h) fun dU h=>
 aa (pu (idxS 1 s (.int .i64 0)) h) fun dI h=>
 aa (bI 1 dI z h) fun _ h=>
 aa (pu (idxS 1 t (.int .i64 1)) h) fun ee h=>
 aa (bI 1 ee D h) fun _ h=>
 aa (pu (idxS 1 u (.int .i64 2)) h) fun I h=>
 aa (bI 1 I G h) fun _ h=>
 aa (pu (idxS 1 v (.int .i64 3)) h) fun J h=>
 aa (bI 1 J dU h) fun _ h=>
 aa (some (a,h)) fun K h=>
 aa (some (K,h)) fun L h=>
 some (L,h)
def t179_eq:aV prog C f179 [x0] h=t179 C x0 h:=
 lkT (by kernel_rfl) (by kernel_rfl)
def t181 (C:ah) (x0 x1:Vl) (h:ae):aY:=
 aa (some ((.bool false),h)) fun J h=>
 aa (some (x0,h)) fun c h=>
 aa (pu (aA prog .eql 218 c (.pointer none)) h) fun d h=>
 aa (some (d,h)) fun a h=>
 aa (al (bt a==some false) (some (x0,h)) h) fun f h=>
 aa (al (bt a==some false) (pu (nilCheckA f) h) h) fun g h=>
 aa (al (bt a==some false) (pu (aC g 1) h) h) fun j h=>
 aa (al (bt a==some false) (ld1 j h) h) fun k h=>
 aa (match a with | .bool t=>some (if t then (.bool true) else k,h)|_=>none) fun l h=>
 (match l with
 | .bool true=>
 aa (some ((.bool false),h)) fun b h=>
 some (b,h)
 | .bool false=>
 aa (some (x0,h)) fun m h=>
 aa (some (x1,h)) fun n h=>
 aa (some (x0,h)) fun o h=>
 aa (pu (nilCheckA o) h) fun p h=>
 aa (pu (aC p 0) h) fun q h=>
 aa (ld1 q h) fun r h=>
 aa (some (x0,h)) fun s h=>
 aa (pu (nilCheckA s) h) fun u h=>
 aa (pu (aC u 2) h) fun v h=>
 aa (ld1 v h) fun w h=>
 aa (pu (cg w) h) fun y h=>
 aa (pu (aA prog .sub 3 r y) h) fun z h=>
 aa (pu (aA prog .gtr 3 n z) h) fun A h=>
 aa (pu (nilCheckA m) h) fun B h=>
 aa (pu (aC B 1) h) fun D h=>
 aa (bI 1 D A h) fun _ h=>
 aa (some (x0,h)) fun E h=>
 aa (pu (nilCheckA E) h) fun F h=>
 aa (pu (aC F 1) h) fun G h=>
 aa (ld1 G h) fun H h=>
 aa (pu (unA .not H) h) fun I h=>
 aa (some (I,h)) fun b h=>
 some (b,h)
 |_=>none)
def t181_eq:aV prog C f181 [x0,x1] h=t181 C x0 x1 h:=
 lkT (by kernel_rfl) (by kernel_rfl)
def t210 (C:ah) (x0:Vl) (h:ae):aY:=
 aa (cO (List.replicate 32 (.int .u8 0)) h) fun b h=>
 aa (cO (List.replicate 32 (.int .u8 0)) h) fun a h=>
 aa (pu (sliceArr 32 1 a none none none) h) fun c h=>
 aa (some (x0,h)) fun d h=>
 aa (C 209 [d,(.int .i64 32)] h) fun f h=>
 aa (js 1 c f h) fun j h=>
 aa (bQ 32 a h) fun g h=>
 aa (bI 32 b g h) fun _ h=>
 resultsA prog f210.results.toList (aS 9 (up (bs [x0]) [(2,b),(3,a),(4,c),(5,d),(6,f),(7,j),(8,g)])) h
def t210_eq:aV prog C f210 [x0] h=t210 C x0 h:=
 lkT (by kernel_rfl) (by kernel_rfl)
def t211 (C:ah) (x0:Vl) (h:ae):aY:=
 aa (some ((.int .i64 0),h)) fun q h=>
 aa (some (x0,h)) fun c h=>
 aa (C 170 [c] h) fun d h=>
 aa (some (d,h)) fun b h=>
 aa (some (b,h)) fun f h=>
 aa (pu (aA prog .neq 25 f (.int .i64 0)) h) fun g h=>
 (match g with
 | .bool true=>
 aa (some (b,h)) fun j h=>
 aa (some (j,h)) fun a h=>
 some (a,h)
 | .bool false=>
 aa (some (x0,h)) fun k h=>
 aa (pu (nilCheckA k) h) fun l h=>
 aa (pu (aC l 0) h) fun m h=>
 aa (ld1 m h) fun n h=>
 aa (pu (cg n) h) fun o h=>
 aa (pu (aA prog .gtr 3 o (.int .i64 0)) h) fun p h=>
 (match p with
 | .bool true=>
 aa (some ((.int .i64 5),h)) fun a h=>
 some (a,h)
 | .bool false=>
 aa (some ((.int .i64 0),h)) fun a h=>
 some (a,h)
 |_=>none)
 |_=>none)
def t211_eq:aV prog C f211 [x0] h=t211 C x0 h:=
 lkT (by kernel_rfl) (by kernel_rfl)
def t68 (C:ah) (x0:Vl) (h:ae):aY:=
 aa (box x0 h) fun a h=>
 aa (some ((.int .i64 0),h)) fun I h=>
 aa (pu (aC a 0) h) fun g h=>
 aa (ld1 g h) fun j h=>
 aa (pu (aC a 1) h) fun k h=>
 aa (ld1 k h) fun l h=>
 aa (pu (aC a 2) h) fun m h=>
 aa (ld1 m h) fun n h=>
 aa (C 103 [j,l,n] h) fun o h=>
 aa (pu (unA .not o) h) fun p h=>
 aa (some (p,h)) fun c h=>
 aa (al (bt c==some false) (pu (aC a 3) h) h) fun q h=>
 aa (al (bt c==some false) (ld1 q h) h) fun r h=>
 aa (al (bt c==some false) (pu (aA prog .lss 3 r (.int .i64 0)) h) h) fun s h=>
 aa (match c with | .bool t=>some (if t then (.bool true) else s,h)|_=>none) fun u h=>
 aa (some (u,h)) fun d h=>
 aa (al (bt d==some false) (pu (aC a 3) h) h) fun v h=>
 aa (al (bt d==some false) (ld1 v h) h) fun w h=>
 aa (al (bt d==some false) (pu (aA prog .gtr 3 w (.int .i64 8192)) h) h) fun y h=>
 aa (match d with | .bool t=>some (if t then (.bool true) else y,h)|_=>none) fun z h=>
 aa (some (z,h)) fun b h=>
 aa (al (bt b==some false) (pu (aC a 36) h) h) fun A h=>
 aa (al (bt b==some false) (ld1 A h) h) fun B h=>
 aa (al (bt b==some false) (pu (cg B) h) h) fun D h=>
 aa (al (bt b==some false) (pu (aC a 2) h) h) fun E h=>
 aa (al (bt b==some false) (ld1 E h) h) fun F h=>
 aa (al (bt b==some false) (pu (aA prog .neq 3 D F) h) h) fun G h=>
 aa (match b with | .bool t=>some (if t then (.bool true) else G,h)|_=>none) fun H h=>
 (match H with
 | .bool true=>
 aa (some ((.int .i64 2),h)) fun f h=>
 some (f,h)
 | .bool false=>
 aa (some ((.int .i64 0),h)) fun f h=>
 some (f,h)
 |_=>none)
def t68_eq:aV prog C f68 [x0] h=t68 C x0 h:=
 lkT (by kernel_rfl) (by kernel_rfl)
def t72 (C:ah) (x0:Vl) (h:ae):aY:=
 aa (some ((.int .i64 0),h)) fun B h=>
 aa (some (x0,h)) fun f h=>
 aa (C 132 [f] h) fun g h=>
 aa (pu (aA prog .neq 25 g (.int .i64 0)) h) fun j h=>
 aa (some (j,h)) fun a h=>
 aa (al (bt a==some false) (some (x0,h)) h) fun k h=>
 aa (al (bt a==some false) (pu (nilCheckA k) h) h) fun l h=>
 aa (al (bt a==some false) (pu (aC l 2) h) h) fun m h=>
 aa (al (bt a==some false) (ld1 m h) h) fun n h=>
 aa (al (bt a==some false) (pu (aA prog .lss 3 n (.int .i64 0)) h) h) fun o h=>
 aa (match a with | .bool t=>some (if t then (.bool true) else o,h)|_=>none) fun p h=>
 (match p with
 | .bool true=>
 aa (some ((.int .i64 0),h)) fun b h=>
 some (b,h)
 | .bool false=>
 let g5_0:=h
 aa (some (x0,g5_0)) fun q g5_1=>
 aa (pu (nilCheckA q) g5_1) fun r g5_2=>
 aa (pu (aC r 3) g5_2) fun c g5_3=>
 aa (ld1 c g5_3) fun d g5_4=>
 aa (some (x0,g5_4)) fun s g5_5=>
 aa (pu (nilCheckA s) g5_5) fun u g5_6=>
 aa (pu (aC u 0) g5_6) fun v g5_7=>
 aa (ld1 v g5_7) fun w g5_8=>
 aa (C 107 [w] g5_8) fun y g5_9=>
 aa (pu (aA prog .mul 3 d y) g5_9) fun z g5_10=>
 aa (pu (aA prog .add 3 (.int .i64 2) z) g5_10) fun A g5_11=>
 aa (some (A,g5_11)) fun b g5_12=>
 (match (dW true (ld1 c g5_9) d&&true) with
 |true=>
 let h:=g5_12
 some (b,h)
 |false=>none)
 |_=>none)
def t72_eq:aV prog C f72 [x0] h=t72 C x0 h:=
 lkT (by kernel_rfl) (by kernel_rfl)
def t79 (C:ah) (x0:Vl) (h:ae):aY:=
 aa (some ((.int .i64 0),h)) fun A h=>
 aa (some (x0,h)) fun f h=>
 aa (C 132 [f] h) fun g h=>
 aa (pu (aA prog .neq 25 g (.int .i64 0)) h) fun j h=>
 aa (some (j,h)) fun a h=>
 aa (al (bt a==some false) (some (x0,h)) h) fun k h=>
 aa (al (bt a==some false) (pu (nilCheckA k) h) h) fun l h=>
 aa (al (bt a==some false) (pu (aC l 6) h) h) fun m h=>
 aa (al (bt a==some false) (ld1 m h) h) fun n h=>
 aa (al (bt a==some false) (pu (unA .not n) h) h) fun o h=>
 aa (match a with | .bool t=>some (if t then (.bool true) else o,h)|_=>none) fun p h=>
 (match p with
 | .bool true=>
 aa (some ((.int .i64 0),h)) fun b h=>
 some (b,h)
 | .bool false=>
 let g5_0:=h
 aa (some (x0,g5_0)) fun q g5_1=>
 aa (pu (nilCheckA q) g5_1) fun r g5_2=>
 aa (pu (aC r 0) g5_2) fun s g5_3=>
 aa (ld1 s g5_3) fun u g5_4=>
 aa (C 107 [u] g5_4) fun v g5_5=>
 aa (some (x0,g5_5)) fun w g5_6=>
 aa (pu (nilCheckA w) g5_6) fun y g5_7=>
 aa (pu (aC y 7) g5_7) fun c g5_8=>
 aa (ld1 c g5_8) fun d g5_9=>
 aa (pu (aA prog .sub 3 v d) g5_9) fun z g5_10=>
 aa (some (z,g5_10)) fun b g5_11=>
 (match (dW true (ld1 c g5_4) d&&true) with
 |true=>
 let h:=g5_11
 some (b,h)
 |false=>none)
 |_=>none)
def t79_eq:aV prog C f79 [x0] h=t79 C x0 h:=
 lkT (by kernel_rfl) (by kernel_rfl)
def t115 (C:ah) (x0:Vl) (h:ae):aY:=
 aa (some ((.int .i64 0),h)) fun m h=>
 aa (some (x0,h)) fun b h=>
 aa (C 132 [b] h) fun c h=>
 aa (pu (aA prog .neq 25 c (.int .i64 0)) h) fun d h=>
 (match d with
 | .bool true=>
 aa (some ((.int .i64 0),h)) fun a h=>
 some (a,h)
 | .bool false=>
 aa (some (x0,h)) fun f h=>
 aa (pu (nilCheckA f) h) fun g h=>
 aa (pu (aC g 0) h) fun j h=>
 aa (ld1 j h) fun k h=>
 aa (C 107 [k] h) fun l h=>
 aa (some (l,h)) fun a h=>
 some (a,h)
 |_=>none)
def t115_eq:aV prog C f115 [x0] h=t115 C x0 h:=
 lkT (by kernel_rfl) (by kernel_rfl)
def t119 (C:ah) (x0 x1:Vl) (h:ae):aY:=
 aa (some (x0,h)) fun a h=>
 aa (pu (aA prog .eql 218 a (.pointer none)) h) fun b h=>
 (match b with
 | .bool true=>
 some (.tuple #[],h)
 | .bool false=>
 aa (some (x1,h)) fun c h=>
 aa (pu (cg c) h) fun d h=>
 aa (pu (aA prog .gtr 3 d (.int .i64 65535)) h) fun f h=>
 (match f with
 | .bool true=>
 aa (some (x0,h)) fun g h=>
 aa (pu (nilCheckA g) h) fun j h=>
 aa (pu (aC j 1) h) fun k h=>
 aa (bI 1 k (.bool true) h) fun _ h=>
 some (.tuple #[],h)
 | .bool false=>
 aa (some (x0,h)) fun l h=>
 aa (some (x1,h)) fun m h=>
 aa (pu (cg m) h) fun n h=>
 aa (pu (aA prog .add 3 n (.int .i64 2)) h) fun o h=>
 aa (C 181 [l,o] h) fun p h=>
 (match p with
 | .bool true=>
 aa (some (x0,h)) fun q h=>
 aa (some (x0,h)) fun r h=>
 aa (pu (nilCheckA r) h) fun s h=>
 aa (pu (aC s 2) h) fun t h=>
 aa (ld1 t h) fun u h=>
 aa (some (x1,h)) fun v h=>
 aa (pu (cg v) h) fun w h=>
 aa (pu (aA prog .shr 3 w (.int .u64 8)) h) fun y h=>
 aa (iQ .u8 y h) fun z h=>
 aa (some (x1,h)) fun A h=>
 aa (pu (cg A) h) fun B h=>
 aa (iQ .u8 B h) fun D h=>
 aa (gK 1 (.int .u8 0) 2 [(0,z),(1,D)] h) fun E h=>
 aa (appendA 1 1 u E h) fun F h=>
 aa (pu (nilCheckA q) h) fun G h=>
 aa (pu (aC G 2) h) fun H h=>
 aa (bI 1 H F h) fun _ h=>
 aa (some (x0,h)) fun I h=>
 aa (some (x0,h)) fun dU h=>
 aa (pu (nilCheckA dU) h) fun dI h=>
 aa (pu (aC dI 2) h) fun ee h=>
 aa (ld1 ee h) fun J h=>
 aa (some (x1,h)) fun K h=>
 aa (appendA 1 1 J K h) fun L h=>
 aa (pu (nilCheckA I) h) fun M h=>
 aa (pu (aC M 2) h) fun N h=>
 aa (bI 1 N L h) fun _ h=>
 some (.tuple #[],h)
 | .bool false=>
 some (.tuple #[],h)
 |_=>none)
 |_=>none)
 |_=>none)
def t119_eq:aV prog C f119 [x0,x1] h=t119 C x0 x1 h:=
 lkT (by kernel_rfl) (by kernel_rfl)
def t120 (C:ah) (x0 x1:Vl) (h:ae):aY:=
 aa (some (x0,h)) fun a h=>
 aa (some (x1,h)) fun b h=>
 aa (pu (cg b) h) fun c h=>
 aa (C 181 [a,c] h) fun d h=>
 (match d with
 | .bool true=>
 aa (some (x0,h)) fun f h=>
 aa (some (x0,h)) fun g h=>
 aa (pu (nilCheckA g) h) fun j h=>
 aa (pu (aC j 2) h) fun k h=>
 aa (ld1 k h) fun l h=>
 aa (some (x1,h)) fun m h=>
 aa (appendA 1 1 l m h) fun n h=>
 aa (pu (nilCheckA f) h) fun o h=>
 aa (pu (aC o 2) h) fun p h=>
 aa (bI 1 p n h) fun _ h=>
 some (.tuple #[],h)
 | .bool false=>
 some (.tuple #[],h)
 |_=>none)
def t120_eq:aV prog C f120 [x0,x1] h=t120 C x0 x1 h:=
 lkT (by kernel_rfl) (by kernel_rfl)
def t166 (C:ah) (x0 x1:Vl) (h:ae):aY:=
 aa (some ((.pointer none),h)) fun E h=>
 aa (some ((.bool false),h)) fun F h=>
 aa (some (x0,h)) fun b h=>
 aa (pu (nilCheckA b) h) fun c h=>
 aa (pu (aC c 0) h) fun d h=>
 aa (ld1 d h) fun f h=>
 aa (some (x1,h)) fun g h=>
 aa (pu (idxS 128 f g) h) fun j h=>
 aa (pu (sliceArr 128 1 j none none none) h) fun k h=>
 aa (C 110 [k] h) fun l h=>
 aa (some (l,h)) fun a h=>
 aa (some (a,h)) fun m h=>
 aa (C 167 [m] h) fun n h=>
 aa (some (n,h)) fun o h=>
 aa (some (a,h)) fun p h=>
 aa (some (o,h)) fun q h=>
 aa (some (x0,h)) fun r h=>
 aa (pu (nilCheckA r) h) fun s h=>
 aa (pu (aC s 0) h) fun t h=>
 aa (ld1 t h) fun u h=>
 aa (some (x1,h)) fun v h=>
 aa (pu (idxS 128 u v) h) fun w h=>
 aa (pu (sliceArr 128 1 w (some (.int .i64 4)) none none) h) fun y h=>
 aa (C 208 [y] h) fun z h=>
 aa (pu (aA prog .eql 186 q z) h) fun A h=>
 aa (some (p,h)) fun B h=>
 aa (some (A,h)) fun D h=>
 some (.tuple #[B,D],h)
def t166_eq:aV prog C f166 [x0,x1] h=t166 C x0 x1 h:=
 lkT (by kernel_rfl) (by kernel_rfl)
def t60 (C:ah) (x0:Vl) (h:ae):aY:=
 aa (some ((.int .i64 0),h)) fun m h=>
 aa (some (x0,h)) fun b h=>
 aa (pu (aA prog .eql 28 b (.pointer none)) h) fun c h=>
 (match c with
 | .bool true=>
 aa (some ((.int .i64 1),h)) fun a h=>
 some (a,h)
 | .bool false=>
 aa (some (x0,h)) fun d h=>
 aa (pu (nilCheckA d) h) fun f h=>
 aa (pu (aC f 0) h) fun g h=>
 aa (ld1 g h) fun j h=>
 aa (C 115 [j] h) fun k h=>
 aa (pu (aA prog .eql 3 k (.int .i64 0)) h) fun l h=>
 (match l with
 | .bool true=>
 aa (some ((.int .i64 9),h)) fun a h=>
 some (a,h)
 | .bool false=>
 aa (some ((.int .i64 0),h)) fun a h=>
 some (a,h)
 |_=>none)
 |_=>none)
def t60_eq:aV prog C f60 [x0] h=t60 C x0 h:=
 lkT (by kernel_rfl) (by kernel_rfl)
def t106 (C:ah) (x0 x1:Vl) (h:ae):aY:=
 aa (some ((.int .u64 0),h)) fun M h=>
 aa (some ((.int .i64 0),h)) fun N h=>
 aa (some ((.bool false),h)) fun O h=>
 aa (some (x0,h)) fun g h=>
 aa (some (x1,h)) fun j h=>
 aa (C 166 [g,j] h) fun k h=>
 aa (some (k,h)) fun d h=>
 aa (pu (extractA d 0) h) fun l h=>
 aa (pu (extractA d 1) h) fun m h=>
 aa (some (l,h)) fun a h=>
 aa (some (m,h)) fun n h=>
 aa (some (a,h)) fun o h=>
 aa (C 167 [o] h) fun p h=>
 aa (some (p,h)) fun q h=>
 aa (some (a,h)) fun r h=>
 aa (C 112 [r] h) fun s h=>
 aa (some (a,h)) fun u h=>
 aa (C 111 [u] h) fun v h=>
 aa (iQ .i64 v h) fun w h=>
 aa (some (s,h)) fun y h=>
 aa (some (w,h)) fun f h=>
 aa (some (y,h)) fun z h=>
 aa (some (f,h)) fun A h=>
 aa (some (n,h)) fun B h=>
 aa (some (B,h)) fun b h=>
 aa (al (bt b==some true) (some (q,h)) h) fun D h=>
 aa (al (bt b==some true) (pu (aA prog .eql 186 D (.int .u32 1398034252)) h) h) fun E h=>
 aa (match b with | .bool t=>some (if t then E else (.bool false),h)|_=>none) fun F h=>
 aa (some (F,h)) fun c h=>
 aa (al (bt c==some true) (some (f,h)) h) fun G h=>
 aa (al (bt c==some true) (pu (aA prog .leq 3 G (.int .i64 1)) h) h) fun H h=>
 aa (match c with | .bool t=>some (if t then H else (.bool false),h)|_=>none) fun I h=>
 aa (some (z,h)) fun J h=>
 aa (some (A,h)) fun K h=>
 aa (some (I,h)) fun L h=>
 some (.tuple #[J,K,L],h)
def t106_eq:aV prog C f106 [x0,x1] h=t106 C x0 x1 h:=
 lkT (by kernel_rfl) (by kernel_rfl)
def t108 (C:ah) (x0 x1 x2:Vl) (h:ae):aY:=
 aa (cO [(.int .u64 0),(.int .i64 0),(.int .i64 0),(.slice none 0 0)] h) fun j h=>
 aa (some ((.bool false),h)) fun b2 h=>
 aa (some (x0,h)) fun k h=>
 aa (some (x1,h)) fun l h=>
 aa (some (x0,h)) fun m h=>
 aa (C 107 [m] h) fun n h=>
 aa (pu (aA prog .mul 3 l n) h) fun o h=>
 aa (pu (aA prog .add 3 (.int .i64 2) o) h) fun p h=>
 aa (some (x2,h)) fun q h=>
 aa (pu (aA prog .add 3 p q) h) fun r h=>
 aa (C 166 [k,r] h) fun s h=>
 aa (some (s,h)) fun g h=>
 aa (pu (extractA g 0) h) fun u h=>
 aa (pu (extractA g 1) h) fun v h=>
 aa (some (u,h)) fun b h=>
 aa (some (v,h)) fun w h=>
 aa (some (b,h)) fun y h=>
 aa (C 112 [y] h) fun z h=>
 aa (pu (cN [(.int .u64 0),(.int .i64 0),(.int .i64 0),(.slice none 0 0)] [(0,1,z)]) h) fun A h=>
 aa (cO [(.int .u64 0),(.int .i64 0),(.int .i64 0),(.slice none 0 0)] h) fun a h=>
 aa (bI 4 a A h) fun _ h=>
 aa (some (b,h)) fun B h=>
 aa (C 167 [B] h) fun D h=>
 aa (iQ .i64 D h) fun E h=>
 aa (some (E,h)) fun F h=>
 aa (some (b,h)) fun G h=>
 aa (C 168 [G] h) fun H h=>
 aa (iQ .i64 H h) fun I h=>
 aa (some (b,h)) fun dU h=>
 aa (C 168 [dU] h) fun dI h=>
 aa (iQ .i64 dI h) fun ee h=>
 aa (pu (aC a 1) h) fun J h=>
 aa (bI 1 J I h) fun _ h=>
 aa (pu (aC a 2) h) fun K h=>
 aa (bI 1 K ee h) fun _ h=>
 aa (some (b,h)) fun L h=>
 aa (some (b,h)) fun M h=>
 aa (C 168 [M] h) fun N h=>
 aa (iQ .i64 N h) fun O h=>
 aa (C 169 [L,O] h) fun P h=>
 aa (pu (aC a 3) h) fun Q h=>
 aa (bI 1 Q P h) fun _ h=>
 aa (some (w,h)) fun R h=>
 aa (some (R,h)) fun d h=>
 aa (al (bt d==some true) (some (F,h)) h) fun S h=>
 aa (al (bt d==some true) (some (x2,h)) h) fun T h=>
 aa (al (bt d==some true) (pu (aA prog .eql 3 S T) h) h) fun U h=>
 aa (match d with | .bool t=>some (if t then U else (.bool false),h)|_=>none) fun gP h=>
 aa (some (gP,h)) fun fU h=>
 aa (al (bt fU==some true) (pu (aC a 2) h) h) fun fD h=>
 aa (al (bt fU==some true) (ld1 fD h) h) fun V h=>
 aa (al (bt fU==some true) (pu (aA prog .geq 3 V (.int .i64 1)) h) h) fun W h=>
 aa (match fU with | .bool t=>some (if t then W else (.bool false),h)|_=>none) fun X h=>
 aa (some (X,h)) fun c h=>
 aa (al (bt c==some true) (pu (aC a 1) h) h) fun Y h=>
 aa (al (bt c==some true) (ld1 Y h) h) fun Z h=>
 aa (al (bt c==some true) (pu (aC a 2) h) h) fun a0 h=>
 aa (al (bt c==some true) (ld1 a0 h) h) fun a1 h=>
 aa (al (bt c==some true) (pu (aA prog .lss 3 Z a1) h) h) fun a2 h=>
 aa (match c with | .bool t=>some (if t then a2 else (.bool false),h)|_=>none) fun a3 h=>
 aa (some (a3,h)) fun f h=>
 aa (al (bt f==some true) (some (b,h)) h) fun a4 h=>
 aa (al (bt f==some true) (C 170 [a4] h) h) fun a5 h=>
 aa (al (bt f==some true) (pu (aA prog .eql 25 a5 (.int .i64 0)) h) h) fun a6 h=>
 aa (match f with | .bool t=>some (if t then a6 else (.bool false),h)|_=>none) fun a7 h=>
 aa (some (a7,h)) fun a8 h=>
 aa (bQ 4 a h) fun a9 h=>
 aa (some (a8,h)) fun b0 h=>
 aa (bI 4 j a9 h) fun _ h=>
 aa (some (b0,h)) fun b1 h=>
 resultsA prog f108.results.toList (aS 70 (up (bs [x0,x1,x2]) [(6,j),(7,b1),(8,b),(9,w),(10,a),(11,F),(12,a8),(13,g),(14,k),(15,l),(16,m),(17,n),(18,o),(19,p),(20,q),(21,r),(22,s),(23,u),(24,v),(25,y),(26,z),(27,A),(28,B),(29,D),(30,E),(31,G),(32,H),(33,I),(34,dU),(35,dI),(36,ee),(37,J),(38,K),(39,L),(40,M),(41,N),(42,O),(43,P),(44,Q),(45,R),(46,d),(47,S),(48,T),(49,U),(50,gP),(51,fU),(52,fD),(53,V),(54,W),(55,X),(56,c),(57,Y),(58,Z),(59,a0),(60,a1),(61,a2),(62,a3),(63,f),(64,a4),(65,a5),(66,a6),(67,a7),(68,a9),(69,b0)])) h
def t108_eq:aV prog C f108 [x0,x1,x2] h=t108 C x0 x1 x2 h:=
 lkT (by kernel_rfl) (by kernel_rfl)
def t23 (C:ah) (x0 x1:Vl) (h:ae):aY:=
 aa (box x1 h) fun c h=>
 aa (some ((.bool false),h)) fun v h=>
 aa (some (x0,h)) fun d h=>
 aa (C 60 [d] h) fun f h=>
 aa (pu (aA prog .neq 25 f (.int .i64 0)) h) fun g h=>
 (match g with
 | .bool true=>
 aa (some ((.bool false),h)) fun a h=>
 some (a,h)
 | .bool false=>
 aa (some (x0,h)) fun j h=>
 aa (pu (nilCheckA j) h) fun k h=>
 aa (pu (aC k 2) h) fun l h=>
 aa (pu (aC l 1) h) fun m h=>
 aa (ld1 m h) fun n h=>
 aa (bQ 32 c h) fun o h=>
 aa (lookupA prog 123 n o true h) fun p h=>
 aa (some (p,h)) fun b h=>
 aa (pu (extractA b 0) h) fun q h=>
 aa (pu (extractA b 1) h) fun r h=>
 aa (cO [(.int .i64 0),(.int .i64 0),(.int .i64 0)] h) fun s h=>
 aa (bI 3 s q h) fun _ h=>
 aa (some (r,h)) fun t h=>
 aa (some (t,h)) fun u h=>
 aa (some (u,h)) fun a h=>
 some (a,h)
 |_=>none)
def t23_eq:aV prog C f23 [x0,x1] h=t23 C x0 x1 h:=
 lkT (by kernel_rfl) (by kernel_rfl)
def t27 (C:ah) (x0:Vl) (h:ae):aY:=
 aa (some ((.int .u64 0),h)) fun m h=>
 aa (some (x0,h)) fun b h=>
 aa (C 60 [b] h) fun c h=>
 aa (pu (aA prog .neq 25 c (.int .i64 0)) h) fun d h=>
 (match d with
 | .bool true=>
 aa (some ((.int .u64 0),h)) fun a h=>
 some (a,h)
 | .bool false=>
 aa (some (x0,h)) fun f h=>
 aa (pu (nilCheckA f) h) fun g h=>
 aa (pu (aC g 2) h) fun j h=>
 aa (pu (aC j 0) h) fun k h=>
 aa (ld1 k h) fun l h=>
 aa (some (l,h)) fun a h=>
 some (a,h)
 |_=>none)
def t27_eq:aV prog C f27 [x0] h=t27 C x0 h:=
 lkT (by kernel_rfl) (by kernel_rfl)
def t41 (C:ah) (x0 x1:Vl) (h:ae):aY:=
 aa (box x1 h) fun b h=>
 aa (some ((.bool false),h)) fun r h=>
 aa (some (x0,h)) fun c h=>
 aa (C 60 [c] h) fun d h=>
 aa (pu (aA prog .eql 25 d (.int .i64 0)) h) fun f h=>
 aa (some (f,h)) fun a h=>
 aa (al (bt a==some true) (some (x0,h)) h) fun g h=>
 aa (al (bt a==some true) (pu (nilCheckA g) h) h) fun j h=>
 aa (al (bt a==some true) (pu (aC j 2) h) h) fun k h=>
 aa (al (bt a==some true) (pu (aC k 2) h) h) fun l h=>
 aa (al (bt a==some true) (ld1 l h) h) fun m h=>
 aa (al (bt a==some true) (bQ 32 b h) h) fun n h=>
 aa (al (bt a==some true) (lookupA prog 124 m n false h) h) fun o h=>
 aa (match a with | .bool t=>some (if t then o else (.bool false),h)|_=>none) fun p h=>
 aa (some (p,h)) fun q h=>
 some (q,h)
def t41_eq:aV prog C f41 [x0,x1] h=t41 C x0 x1 h:=
 lkT (by kernel_rfl) (by kernel_rfl)
end
def is13:bE prog 13 f13 := .of (by kernel_rfl)
def is23:bE prog 23 f23 := .of (by kernel_rfl)
def is27:bE prog 27 f27 := .of (by kernel_rfl)
def is41:bE prog 41 f41 := .of (by kernel_rfl)
def is60:bE prog 60 f60 := .of (by kernel_rfl)
def is68:bE prog 68 f68 := .of (by kernel_rfl)
def is69:bE prog 69 f69 := .of (by kernel_rfl)
def is72:bE prog 72 f72 := .of (by kernel_rfl)
def is73:bE prog 73 f73 := .of (by kernel_rfl)
def is79:bE prog 79 f79 := .of (by kernel_rfl)
def is83:bE prog 83 f83 := .of (by kernel_rfl)
def is103:bE prog 103 f103 := .of (by kernel_rfl)
def is105:bE prog 105 f105 := .of (by kernel_rfl)
def is106:bE prog 106 f106 := .of (by kernel_rfl)
def is107:bE prog 107 f107 := .of (by kernel_rfl)
def is108:bE prog 108 f108 := .of (by kernel_rfl)
def is110:bE prog 110 f110 := .of (by kernel_rfl)
def is111:bE prog 111 f111 := .of (by kernel_rfl)
def is112:bE prog 112 f112 := .of (by kernel_rfl)
def is115:bE prog 115 f115 := .of (by kernel_rfl)
def is116:bE prog 116 f116 := .of (by kernel_rfl)
def is119:bE prog 119 f119 := .of (by kernel_rfl)
def is120:bE prog 120 f120 := .of (by kernel_rfl)
def is121:bE prog 121 f121 := .of (by kernel_rfl)
def is126:bE prog 126 f126 := .of (by kernel_rfl)
def is129:bE prog 129 f129 := .of (by kernel_rfl)
def is132:bE prog 132 f132 := .of (by kernel_rfl)
def is166:bE prog 166 f166 := .of (by kernel_rfl)
def is167:bE prog 167 f167 := .of (by kernel_rfl)
def is168:bE prog 168 f168 := .of (by kernel_rfl)
def is169:bE prog 169 f169 := .of (by kernel_rfl)
def is170:bE prog 170 f170 := .of (by kernel_rfl)
def Bc:bE prog 171 f171 := .of (by kernel_rfl)
def is174:bE prog 174 f174 := .of (by kernel_rfl)
def is175:bE prog 175 f175 := .of (by kernel_rfl)
def is179:bE prog 179 f179 := .of (by kernel_rfl)
def is181:bE prog 181 f181 := .of (by kernel_rfl)
def is210:bE prog 210 f210 := .of (by kernel_rfl)
def is211:bE prog 211 f211 := .of (by kernel_rfl)
def DI:Nat->Option (List Vl):=fun b=>match b with
 | 1=>some cP
 |_=>none
def okF (f:FuncId):Bool:=match prog.funcs[f]? with|some fn=>sH prog fn|none=>false
def vj : ∀ f fn,okF f=true->prog.funcs[f]? = some fn->sH prog fn=true:=by intro f fn h1 h2;unfold okF at h1;rw [h2] at h1;exact h1
def XT:TxT prog:=(.node 116 (.node 83 (.node 68 (.node 27 (.node 23 (.fq 13 (tx1 is13 t13_eq)) (.fq 23 (tx2 is23 t23_eq))) (.node 41 (.fq 27 (tx1 is27 t27_eq)) (.node 60 (.fq 41 (tx2 is41 t41_eq)) (.fq 60 (tx1 is60 t60_eq))))) (.node 72 (.node 69 (.fq 68 (tx1 is68 t68_eq)) (.fq 69 (tx2 is69 t69_eq))) (.node 73 (.fq 72 (tx1 is72 t72_eq)) (.node 79 (.fq 73 (tx1 is73 t73_eq)) (.fq 79 (tx1 is79 t79_eq)))))) (.node 108 (.node 105 (.node 103 (.fq 83 (tx2 is83 t83_eq)) (.fq 103 (tx3 is103 Cw))) (.node 106 (.fq 105 (tx2 is105 t105_eq)) (.node 107 (.fq 106 (tx2 is106 t106_eq)) (.fq 107 (tx1 is107 t107_eq))))) (.node 111 (.node 110 (.fq 108 (tx3 is108 t108_eq)) (.fq 110 (tx1 is110 BY))) (.node 112 (.fq 111 (tx1 is111 BF)) (.node 115 (.fq 112 (tx1 is112 t112_eq)) (.fq 115 (tx1 is115 t115_eq))))))) (.node 169 (.node 129 (.node 120 (.node 119 (.fq 116 (tx1 is116 t116_eq)) (.fq 119 (tx2 is119 t119_eq))) (.node 121 (.fq 120 (tx2 is120 t120_eq)) (.node 126 (.fq 121 (tx1 is121 t121_eq)) (.fq 126 (tx1 is126 t126_eq))))) (.node 166 (.node 132 (.fq 129 (tx0 is129 t129_eq)) (.fq 132 (tx1 is132 t132_eq))) (.node 167 (.fq 166 (tx2 is166 t166_eq)) (.node 168 (.fq 167 (tx1 is167 t167_eq)) (.fq 168 (tx1 is168 BX)))))) (.node 179 (.node 171 (.node 170 (.fq 169 (tx2 is169 wW)) (.fq 170 (tx1 is170 Cf))) (.node 174 (.fq 171 (tx1 Bc qQ)) (.node 175 (.fq 174 (tx1 is174 wM)) (.fq 175 (tx1 is175 t175_eq))))) (.node 209 (.node 181 (.fq 179 (tx1 is179 t179_eq)) (.fq 181 (tx2 is181 t181_eq))) (.node 210 (.fq 209 (tx2 yE oH)) (.node 211 (.fq 210 (tx1 is210 t210_eq)) (.fq 211 (tx1 is211 t211_eq))))))))
def isTrueV:Vl->Bool
 | .bool true=>true
 |_=>false
def smF (f:FuncId):Bool:=Nat.beq f 172||(Nat.beq f 208||(Nat.beq f 187||(Nat.beq f 136||Nat.beq f 231)))
def smF_X (f:FuncId) (args:List Vl) (h:ae) (e:smF f=false):XC f args h=none:=by unfold smF at e;simp only [IU] at e;obtain ⟨e1,e2,e3,e4,e5⟩:=e;simp only [XC,km];rw [DL (GB e1),DL (GB e2),DL (GB e3),DL (GB e4),DL (GB e5)]
def outT (r:aY):Bool:=Option.rec (motive:=fun _=>Bool) false (fun p=>isTrueV p.1) r
def runF:aY:=yg prog okF XC smF XT.get 100000 60 12 [] (gH prog DI)
end
end Go.Proofs.YtdhpgacmgebjdaaGreatDoor
