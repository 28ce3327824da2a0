/-
  A part of the proof, shortened by a program.
  Conditions: as each theorem states.
-/
import Derived.Test.YtdhpgacmgebjdaaGreatDoorG24
set_option linter.all false
namespace Go.Proofs.YtdhpgacmgebjdaaGreatDoor.W
open Go Go.Abs Tryz
noncomputable section
section
variable (C:ah) (x:Nat->Vl) (x0 x1 x2 x3 x4 x5:Vl) (h:ae)
def t134 (C:ah) (x0:Vl) (h:ae):ba:=
 aa (box x0 h) fun a h=>
 aa (some (.nilFunc,h)) fun d h=>
 aa (some (.func (.func 188) #[] #[a],h)) fun b h=>
 aa (some (b,h)) fun c h=>
 some (c,h)
def t134_eq:aY prog C f134 [x0] h=t134 C x0 h:=
 lkT (by kernel_rfl) (by kernel_rfl)
def lC (C:ah) (x:Nat->Vl) (h:ae):Option (Ex×aQ×ae):=
 aa (dj (List.replicate 32 (.int .u8 0)) h) fun a h=>
 aa (bX 32 a (x 7) h) fun _ h=>
 some (.normal,(aT 13 (up x [(5,a)])),h)
def lu (C:ah) (x:Nat->Vl) (h:ae):Option (Ex×aQ×ae):=
 aa (ld1 (x 2) h) fun a h=>
 aa (bZ 32 (x 5) h) fun b h=>
 aa (fE 32 (.agg (List.replicate 32 (.int .u8 0)).toArray) 1 [(0,b)] h) fun c h=>
 aa (appendA 32 32 a c h) fun d h=>
 aa (bX 1 (x 2) d h) fun _ h=>
 some (.normal,(aT 13 (up x [(8,a),(9,b),(10,c),(11,d)])),h)
def tD:codeA prog C (rgA (al f212 [1,0,1,0])) (aT 13 x) h=lC C x h:=
 aF (T:=lC C) (fun x h=>by kernel_rfl) x h
def tE:codeA prog C (rgB (al f212 [1,0,1,0])) (aT 13 x) h=lu C x h:=
 aF (T:=lu C) (fun x h=>by kernel_rfl) x h
def t127 (C:ah) (x0 x1:Vl) (h:ae):ba:=
 aa (box x0 h) fun a h=>
 aa (box x1 h) fun b h=>
 aa (some ((.int .i64 0),h)) fun j h=>
 aa (pu (sliceArr 32 1 a none none none) h) fun c h=>
 aa (pu (sliceArr 32 1 b none none none) h) fun d h=>
 aa (C 83 [c,d] h) fun f h=>
 aa (some (f,h)) fun g h=>
 some (g,h)
def t127_eq:aY prog C f127 [x0,x1] h=t127 C x0 x1 h:=
 lkT (by kernel_rfl) (by kernel_rfl)
def t135 (C:ah) (x0 x1:Vl) (h:ae):ba:=
 aa (box x0 h) fun a h=>
 aa (box x1 h) fun b h=>
 aa (some ((.int .i64 0),h)) fun j h=>
 aa (pu (sliceArr 32 1 a none none none) h) fun c h=>
 aa (pu (sliceArr 32 1 b none none none) h) fun d h=>
 aa (C 83 [c,d] h) fun f h=>
 aa (some (f,h)) fun g h=>
 some (g,h)
def t135_eq:aY prog C f135 [x0,x1] h=t135 C x0 x1 h:=
 lkT (by kernel_rfl) (by kernel_rfl)
end
end
end Go.Proofs.YtdhpgacmgebjdaaGreatDoor.W
namespace Go.Proofs.YtdhpgacmgebjdaaGreatDoor.W
open Go Go.Abs Tryz
open Go.Lib (compareBytes)
open Go.Sort (flatK size_flatK get_flatK)
noncomputable section
section
attribute [local congr] aC
abbrev CS:ah:=CC prog (jc [(136,cmpS)])
def Bo:aZ prog (jc [(136,cmpS)]):=dS _ (by intro p hp;simp only [EN,EU,GF] at hp;subst hp;exact c136)
def nP (a b:List Nat):Int:=compareBytes (a.map UInt8.ofNat) (b.map UInt8.ofNat)
def vC : ∀ {l:List Nat},(l.map u8).mapM asByte=some (l.map UInt8.ofNat)
 | []=>rfl
 |n::l=>by have ih:=vC (l:=l);rw [ES,FW,ih];rfl
def BF {h:ae} {b:Nat} {l:List Nat} (g:h.get b=some (bA l)) (d:eE l):aq (some ⟨b,0,none⟩) 32 h=some l:=by have:=fN (off:=0) (s:=none) g (A := []) (C := []) (by simp) rfl d.2;rw [d.1] at this;exact this
def AR {a:Option Addr} {n c:Nat} {h:ae} {l:List Nat} (e:aq a n h=some l):bytesA (.slice a n c) h=some (l.map UInt8.ofNat):=by have hl:=(ay e).1;have hf:=jv e (DO n) (c:=c);rw [EB (by omega)] at hf;unfold bytesA;simp only [hf,Option.bind_some];exact vC
def wS:bJ prog 127 f127 := .of (by kernel_rfl)
def wT:bJ prog 135 f135 := .of (by kernel_rfl)
def r83 {h:ae} (hG:3<=h.n0) {a b:Option Addr} {n m c d:Nat} {x y:List Nat} (hx:aq a n h=some x) (hy:aq b m h=some y) :
  CS 83 [.slice a n c,.slice b m d] h=some (.int .i64 (nP x y),h):=by
 have e:CS 136 [.slice a n c,.slice b m d] h=some (.int .i64 (nP x y),h):=xL (by show cmpS [.slice a n c,.slice b m d] h=_;unfold cmpS;simp only [AR hx,AR hy];rfl)
 refine jy is83 (by rw [cX];exact hG) rfl ((t83_eq _ _ _ _).trans ?_);unfold t83;simp -implicitDefEqProofs only [af,e]
def ta {d:List Nat} (w:eE d) (h:ae) : ∃ g,box (.agg (bA d).toArray) h=some (ptr h.next 0,g)/\aM h g/\g.get h.next=some (bA d)/\g.next=h.next+1:=
 ⟨_,iL h (bA d) (qx w).2.2,aw.alloc _ _ _,by rw [ae.aX,DR rfl],rfl⟩
def r127 {h:ae} (hG:3<=h.n0) {a b:List Nat} (wa:eE a) (wb:eE b):(∃ h',CS 127 [.agg (bA a).toArray,.agg (bA b).toArray] h=some (.int .i64 (nP a b),h')/\aM h h')/\(∃ h',CS 135 [.agg (bA a).toArray,.agg (bA b).toArray] h=some (.int .i64 (nP a b),h')/\aM h h'):=by
 obtain ⟨h1,b1,o1,g1,n1⟩:=ta wa h;obtain ⟨h2,b2,o2,g2,n2⟩:=ta wb h1;have q1:=aM.get o2 g1;have e5:=r83 (h:=h2) (c:=32) (d:=32) (by rw [o2.n0,o1.n0];exact hG) (BF q1 wa) (BF g2 wb);refine ⟨⟨h2,jy wS (by rw [cX];exact hG) rfl ((t127_eq _ _ _ _).trans ?_),o1.trans o2⟩,⟨h2,jy wT (by rw [cX];exact hG) rfl ((t135_eq _ _ _ _).trans ?_),o1.trans o2⟩⟩
 ·unfold t127;simp -implicitDefEqProofs only [b1,b2,af,aj,tK,e5]
 ·unfold t135;simp -implicitDefEqProofs only [b1,b2,af,aj,tK,e5]
def qh (x y:UInt8) (a b:List UInt8):compareBytes (x::a) (y::b)=if x.toNat<y.toNat then -1 else if y.toNat<x.toNat then 1 else compareBytes a b:=by
 conv=>lhs;unfold compareBytes
 simp only [UInt8.lt_iff_toNat_lt]
def cb_self : ∀ a:List UInt8,compareBytes a a=0
 | []=>rfl
 |x::a=>by rw [qh,DU (GH _),DU (GH _),cb_self a]
def cb_trans : ∀ a b c:List UInt8,compareBytes a b<0->compareBytes b c<0->compareBytes a c<0
 | [],[],_,h,_=>absurd h (by decide)
 | [],_::_,[],_,h=>absurd h (by show ¬(1:Int)<0;decide)
 | [],_::_,_::_,_,_=>by show (-1:Int)<0;decide
 |_::_,[],_,h,_=>absurd h (by show ¬(1:Int)<0;decide)
 |_::_,_::_,[],_,h=>absurd h (by show ¬(1:Int)<0;decide)
 |x::a,y::b,z::c,h1,h2=>by
  rw [qh] at h1 h2 |-;by_cases e1:x.toNat<y.toNat
  ·by_cases e2:y.toNat<z.toNat
   ·rw [DR (by omega)];decide
   ·rw [DU e2] at h2;by_cases e3:z.toNat<y.toNat
    ·rw [DR e3] at h2;omega
    ·rw [DR (by omega)];decide
  ·rw [DU e1] at h1;by_cases e4:y.toNat<x.toNat
   ·rw [DR e4] at h1;omega
   ·rw [DU e4] at h1;by_cases e2:y.toNat<z.toNat
    ·rw [DR (by omega)];decide
    ·rw [DU e2] at h2;by_cases e3:z.toNat<y.toNat
     ·rw [DR e3] at h2;omega
     ·rw [DU e3] at h2;rw [DU (by omega),DU (by omega)];exact cb_trans a b c h1 h2
def uM : ∀ a b c:List UInt8,¬compareBytes a b<0 -> ¬compareBytes b c<0 -> ¬compareBytes a c<0
 | [],[],[],_,_=>by decide
 | [],[],_::_,_,h=>absurd (by show (-1:Int)<0;decide) h
 | [],_::_,_,h,_=>absurd (by show (-1:Int)<0;decide) h
 |_::_,_,[],_,_=>by show ¬(1:Int)<0;decide
 |_::_,[],_::_,_,h=>absurd (by show (-1:Int)<0;decide) h
 |x::a,y::b,z::c,h1,h2=>by
  rw [qh] at h1 h2 |-;by_cases e1:x.toNat<y.toNat
  ·rw [DR e1] at h1;exact absurd (by decide) h1
  ·rw [DU e1] at h1;by_cases e2:y.toNat<z.toNat
   ·rw [DR e2] at h2;exact absurd (by decide) h2
   ·rw [DU e2] at h2;by_cases e4:y.toNat<x.toNat
    ·rw [DU (by omega),DR (by omega)];decide
    ·rw [DU e4] at h1;by_cases e3:z.toNat<y.toNat
     ·rw [DU (by omega),DR (by omega)];decide
     ·rw [DU e3] at h2;rw [DU (by omega),DU (by omega)];exact uM a b c h1 h2
def cb_eq : ∀ a b:List UInt8,compareBytes a b=0->a=b
 | [],[],_=>rfl
 | [],_::_,h=>absurd h (by show ¬(-1:Int)=0;decide)
 |_::_,[],h=>absurd h (by show ¬(1:Int)=0;decide)
 |x::a,y::b,h=>by
  rw [qh] at h;by_cases e1:x.toNat<y.toNat
  ·rw [DR e1] at h;omega
  ·rw [DU e1] at h;by_cases e2:y.toNat<x.toNat
   ·rw [DR e2] at h;omega
   ·rw [DU e2] at h;rw [cb_eq a b h,UInt8.toNat_inj.1 (show x.toNat=y.toNat by omega)]
def cb_neg : ∀ a b:List UInt8,compareBytes b a = - compareBytes a b
 | [],[]=>by rfl
 | [],_::_=>by rfl
 |_::_,[]=>by rfl
 |x::a,y::b=>by
  rw [qh,qh,cb_neg a b];by_cases e1:x.toNat<y.toNat
  ·have e2 : ¬y.toNat<x.toNat:=by omega
   simp [e1,e2]
  ·by_cases e2:y.toNat<x.toNat
   ·simp [e1,e2]
   ·simp [e1,e2]
def Bx : ∀ {x y:List Nat},Bys x->Bys y->x.map UInt8.ofNat=y.map UInt8.ofNat->x=y
 | [],[],_,_,_=>rfl
 | [],_::_,_,_,h=>by simp at h
 |_::_,[],_,_,h=>by simp at h
 |a::x,b::y,hx,hy,h=>by
  simp only [ES,H5] at h;have ha:=hx a EM;have hb:=hy b EM;have e:a=b:=by have:=E2 UInt8.toNat h.1;simp only [UInt8.toNat_ofNat'] at this;omega
  rw [e,Bx (fun z hz=>hx z (EK _ hz)) (fun z hz=>hy z (EK _ hz)) h.2]
abbrev yz:={ d:List Nat // eE d }
instance:Inhabited yz:=⟨⟨List.replicate 32 0,rfl,fun x hx=>by have:=EZ hx;omega⟩⟩
def dH (x:yz):List Vl:=bA x.1
def cfW (x y:yz):Int:=nP x.1 y.1
def swoW:Go.Sort.SWO (Go.Proofs.ltOf cfW) where
 irrefl x:=by unfold Go.Proofs.ltOf cfW nP;rw [cb_self];rfl
 trans x y z h1 h2:=by unfold Go.Proofs.ltOf cfW nP at *;simp only [D7] at *;exact cb_trans _ _ _ h1 h2
 ntrans x y z h1 h2:=by unfold Go.Proofs.ltOf cfW nP at *;simp only [FM] at *;exact uM _ _ _ h1 h2
def mQ (x:yz):(dH x).length=32:=(qx x.2).1
def encW_one (x:yz) : ∀ v∈dH x,v.oneCell'=true:=fun v hv=>by have:=(qx x.2).2.2;unfold aN at this;rw [DX] at this;exact this v hv
def AY (x:yz) : ∀ v∈dH x,flat v=true:=fun v hv=>by have:=(bO x.2).all.2.2;unfold bD at this;rw [DX] at this;exact this v hv
def uT (L:List yz):List yz:=(Go.Sort.pdq (Go.Proofs.ltOf cfW) L.toArray 0 L.length (Go.Lib.bitLen L.length) true true).toList
def yg (L:List yz):(uT L).Perm L/\(uT L).length=L.length /\ ∀ i j,i<j->(hj:j<L.length) -> ¬nP ((uT L)[j]!).1 ((uT L)[i]!).1<0:=by
 have hs:L.toArray.size=L.length:=E7 ..;obtain ⟨⟨p1,p2,p3⟩,q⟩:=Go.Sort.pdq_sorts (Go.Proofs.ltOf cfW) swoW L.toArray 0 L.length (Go.Lib.bitLen L.length) true true (FB _) (by omega) (.inl rfl);refine ⟨?_,?_,?_⟩
 ·have e1 : ∀ d:Array yz,d.size=L.length->d.extract 0 L.length=d:=fun d hd=>by rw [<-hd];exact Array.extract_size ..
  rw [e1 _ (by omega),e1 _ hs] at p3;exact p3
 ·unfold uT;rw [Array.length_toList,p1,hs]
 ·intro i j hij hj;have:=q i j (FB _) hij hj;have h2 : ¬cfW ((Go.Sort.pdq (Go.Proofs.ltOf cfW) L.toArray 0 L.length (Go.Lib.bitLen L.length) true true)[j]!) ((Go.Sort.pdq (Go.Proofs.ltOf cfW) L.toArray 0 L.length (Go.Lib.bitLen L.length) true true)[i]!)<0:=of_decide_eq_false this;have e : ∀ (d:Array yz) (t:Nat),d.toList[t]! = d[t]! := fun d t=>by simp [List.getElem!_eq_getElem?_getD,Array.getElem!_eq_getD,Array.getD_eq_getD_getElem?]
  unfold uT;rw [e,e];exact h2
def ku : ∀ (L:List yz),(L.flatMap dH).length=L.length*32
 | []=>rfl
 |x::L=>by rw [E9,DW,mQ,ku L,List.length_cons];omega
def Bw : ∀ (L:List yz) (j:Nat) (hj:j<L.length) (i:Nat),i<32->(L.flatMap dH)[j*32+i]? = (dH L[j])[i]?
 |x::L,0,_,i,hi=>by rw [E9,HF,DK,EX (by rw [mQ];exact hi)];rfl
 |x::L,j+1,hj,i,hi=>by rw [E9,EI (by rw [mQ];omega),mQ,show (j+1)*32+i-32=j*32+i by omega,Bw L j (by simpa using hj) i hi];rfl
def yf (L:List yz):(flatK dH 32 L.toArray).toList=L.flatMap dH:=by
 have hs:L.toArray.size=L.length:=E7 ..;refine FA fun t => ?_;by_cases ht:t<L.length*32
 ·have hj:t/32<L.length:=by omega
  have e1:(flatK dH 32 L.toArray).toList[t]? = some ((dH L.toArray[t/32]!)[t%32]!):=by
   have h1:t<(flatK dH 32 L.toArray).size:=by rw [size_flatK,hs];exact ht
   rw [HK,FP h1,<-getElem!_pos (flatK dH 32 L.toArray) t h1,get_flatK _ _ _ _ (by rw [hs];exact ht)]
  have g:=Bw L (t/32) hj (t%32) (HE _ (by decide));rw [e1,<-show t/32*32+t%32=t by omega,g,show t/32*32+t%32=t by omega];have e3:L.toArray[t/32]! = L[t/32]:=by rw [IK L.toArray (t/32) (by omega)];simp
  rw [e3];have hl:t%32<(dH L[t/32]).length:=by rw [mQ];exact HE _ (by decide)
  rw [IK (dH L[t/32]) (t%32) hl];exact (DL hl).symm
 ·rw [ER (by rw [Array.length_toList,size_flatK,hs];omega),ER (by rw [ku];omega)]
def kU (L:List yz):bD (L.flatMap dH)=true/\aN (L.flatMap dH)=true:=by
 constructor
 ·unfold bD;rw [DX];intro v hv;obtain ⟨x,_,hx⟩:=GW.1 hv;exact AY x v hx
 ·unfold aN;rw [DX];intro v hv;obtain ⟨x,_,hx⟩:=GW.1 hv;exact encW_one x v hx
def pdqL_len (L:List yz):(uT L).length=L.length:=(yg L).2.1
end
end
end Go.Proofs.YtdhpgacmgebjdaaGreatDoor.W
namespace Go.Proofs.YtdhpgacmgebjdaaGreatDoor.W
open Go Go.Abs Tryz
open Go.Sort (flatK size_flatK get_flatK)
noncomputable section
def Dm (cl:Nat):Prop:=cl=127\/cl=135
def SortOk (args:List Vl) (h:ae) (b:Nat) (L:List yz) (cl:Nat):Prop:=
 Dm cl/\(∃ s,args = [.slice (some ⟨b,0,s⟩) L.length L.length,.func (.func cl) #[] #[]]/\(s=none\/(s=some 32/\L ≠ [])))/\h.n0<=b/\h.get b=some (L.flatMap dH)/\L.length<1099511627776
open Classical in
def AM (args:List Vl) (h:ae):ba:=
 if ∃ cl,Dm cl/\args = [.slice none 0 0,.func (.func cl) #[] #[]] then some (.tuple #[],h)
 else if x : ∃ b L cl,SortOk args h b L cl then some (.tuple #[],h.set x.choose ((uT x.choose_spec.choose).flatMap dH)) else none
def qs {args:List Vl} {h:ae} {r:Vl×ae} (e:AM args h=some r):(∃ cl,Dm cl/\args = [.slice none 0 0,.func (.func cl) #[] #[]]/\r=(.tuple #[],h)) \/ ∃ b L cl,SortOk args h b L cl/\r=(.tuple #[],h.set b ((uT L).flatMap dH)):=by
 unfold AM at e;split at e
 ·rename_i x;obtain ⟨cl,h1,h2⟩:=x;cases e;exact .inl ⟨cl,h1,h2,rfl⟩
 ·split at e
  ·rename_i x;cases e;exact .inr ⟨_,_,_,x.choose_spec.choose_spec.choose_spec,rfl⟩
  ·cases e
def enc_rel (μ:Mu) (x:yz):aD μ (.agg (dH x).toArray) (.agg (dH x).toArray):=by refine .agg rfl fun i a b ha hb => ?_;rw [ha] at hb;cases hb;exact .flat (AY x a (EC (by rw [IU] at ha;exact ha)))
def cmp_plain {cl:Nat} (hcl:Dm cl) (W:World) (hg:prog.globals.size<=W.heap.size) (x y:yz) :
  Calls prog cl (#[.agg (dH x).toArray,.agg (dH y).toArray] ++ #[]) W fun e w'=>e = .returned (.int .i64 (cfW x y)) /\ ∃ q os',w'=Go.Sort.grow (W.drewN q) os':=by
 have hb : ∀ x:yz,bR W.heap.size (.agg (dH x).toArray)=true:=fun x=>by rw [iG];exact c9 (bO x.2).all.2.2
 have hbl:cy W.heap.size [.agg (dH x).toArray,.agg (dH y).toArray]=true:=dM.2 (by
  intro v hv;simp only [EN,EU,GF] at hv;rcases hv with rfl|rfl
  ·exact hb x
  ·exact hb y)
 have hr:aU (iE W) [.agg (dH x).toArray,.agg (dH y).toArray] [.agg (dH x).toArray,.agg (dH y).toArray] := .cons (enc_rel _ x) (.cons (enc_rel _ y) (.nil _));obtain ⟨⟨h1,e1,_⟩,⟨h2,e2,_⟩⟩:=r127 (h:=dO W (view W)) (by rw [<-cX];exact hg) x.2 y.2;rcases hcl with rfl|rfl
 ·exact bq.yB (bq.of_CC dZ Bo wS) wS.at_ wS.name (by kernel_rfl) [.agg (dH x).toArray,.agg (dH y).toArray] W hg hbl hr _ rfl ⟨h1,e1⟩
 ·exact bq.yB (bq.of_CC dZ Bo wT) wT.at_ wT.name (by kernel_rfl) [.agg (dH x).toArray,.agg (dH y).toArray] W hg hbl hr _ rfl ⟨h2,e2⟩
def Dm.enters {cl:Nat} (h:Dm cl):Go.Proofs.Enters prog cl:=by
 rcases h with rfl|rfl
 ·exact Go.Proofs.enters_of wS.at_ wS.name (Option.some_get wS.some_).symm
 ·exact Go.Proofs.enters_of wT.at_ wT.name (Option.some_get wT.some_).symm
def nilF:ah:=CC prog noC
def nilF_sound:aZ prog nilF:=jK dZ (mO _)
abbrev nilK:ah:=BM prog okF noC (fun _=>false) (fun _=>none) 100 10
def nilK_to {f:FuncId} {args:List Vl} {h:ae} {r:Vl×ae} (e:nilK f args h=some r):nilF f args h=some r:=
 callF_CC (by have:aK=18446744073709551616:=rfl;omega) Bh (fun _ _ _ _=>rfl) (fun _ _ e=>by cases e) 10 _ _ _ _ e
def nilF_127 (k:Nat) (D:Nat->Option (List Vl)) (t:Tr) (n:Nat):nilK 185 [.slice none 0 0,.func (.func 127) #[] #[]] ⟨k+3,D,t,n⟩=some (.tuple #[],⟨k+3,D,t,n⟩):=by kernel_rfl
def nilF_135 (k:Nat) (D:Nat->Option (List Vl)) (t:Tr) (n:Nat):nilK 185 [.slice none 0 0,.func (.func 135) #[] #[]] ⟨k+3,D,t,n⟩=some (.tuple #[],⟨k+3,D,t,n⟩):=by kernel_rfl
def nilF_run {h:ae} (hG:3<=h.n0) {cl:Nat} (hc:Dm cl):nilF 185 [.slice none 0 0,.func (.func cl) #[] #[]] h=some (.tuple #[],h):=by
 obtain ⟨n0,D,t,n⟩:=h;obtain ⟨k,rfl⟩ : ∃ k,n0=k+3:=⟨n0-3,by have:3<=n0:=hG;omega⟩
 rcases hc with rfl|rfl
 ·exact nilK_to (nilF_127 k D t n)
 ·exact nilK_to (nilF_135 k D t n)
def c185:bq prog 185 AM:=by
 refine ⟨?_,?_,?_,?_⟩
 ·exact EO (by kernel_rfl)
 ·intro args h v h' e;rcases qs e with ⟨cl,_,_,e2⟩|⟨b,L,cl,_,e2⟩
  ·cases e2;exact bp.refl _
  ·cases e2;exact ⟨DO _,rfl,rfl⟩
 ·intro args h v h' e hb hh;rcases qs e with ⟨cl,_,_,e2⟩|⟨b,L,cl,⟨_,_,h0,hg,_⟩,e2⟩
  ·cases e2;exact ⟨rfl,hh⟩
  cases e2;refine ⟨rfl,?_⟩;exact hh.qO (x:=some (.cells _)) h0 (h.aW hg) (fun k hk=>by cases hk;exact c9 (kU _).1) (fun o ho=>by cases ho)
 ·intro args h v h' e hba hbh hg μ w args' S hf r;rcases qs e with ⟨cl,hcl,ha,e2⟩|⟨b,L,cl,⟨hcl,⟨s,ha,hs⟩,h0,hgb,hsz⟩,e2⟩
  ·cases e2;subst ha;exact nilF_sound.run _ _ _ _ _ (nilF_run (by rw [<-cX];exact hg) hcl) (EO (by kernel_rfl)) hba hbh hg μ w args' S hf r
  cases e2;subst ha;obtain ⟨Lc,arr,T,fr,m1,m2,m3,m4,m5,m6,m7,m8⟩:=S.new b _ h0 hgb;have hl:(L.flatMap dH).length=L.length*32:=ku L;have hd:(flatK dH 32 L.toArray).size=L.length*32:=by rw [size_flatK];simp
  have hin:Lc.off+L.length*32<=arr.size:=by rw [m4,<-hl,<-m2];exact m5
  have harr:((arr.toList.drop Lc.off).take Lc.len)=L.flatMap dH:=m8.bG (kU L).1;have hcell : ∀ j,j<L.length*32->arr[Lc.off+j]? = some (flatK dH 32 L.toArray)[j]! := by
   intro j hj;have e1:(L.flatMap dH)[j]? = some (flatK dH 32 L.toArray)[j]! := by rw [<-yf,HK,FP (by rw [hd];exact hj),IK _ j (by rw [hd];exact hj)]
   rw [<-harr,FJ,DR (by rw [m2,hl];exact hj),FH,HK] at e1;exact e1
  have hW:Go.Sort.HoldsK dH 32 w Lc.blk Lc.off L.toArray:=by
   intro j hj;rw [hd] at hj;refine ⟨?_,?_⟩
   ·unfold World.cell?;rw [m3];exact hcell j hj
   ·unfold World.frozen?;rw [m3];obtain ⟨lo,hi⟩:=fr;show (decide (lo<=Lc.off+j)&&decide (Lc.off+j<hi))=false;rcases m6 with m6|m6
    ·have m6:lo=hi:=m6;simp only [HG,FM];omega
    ·have m6:arr.size<=lo:=m6;simp only [HG,FM];omega
  have hblk:Lc.blk<w.heap.size:=(DZ.1 m3).1;have hlays:Go.Proofs.CmpLays prog cl #[] dH 32 cfW Lc.blk Lc.off L.toArray.size w:=by intro m os dk _ x y;exact cmp_plain hcl _ (ED (ED hg S.size) (Go.Proofs.size_sortWorldK_c ..)) x y
  have key : ∀ cap,Calls prog 185 #[.slice (some ⟨Lc.blk,Lc.off,none⟩) L.length cap,.func (.func cl) #[] #[]] w (mJ μ h w (.tuple #[]) (h.set b ((uT L).flatMap dH))):=by
   intro cap;have q:=Go.Proofs.AnyQ.slices_SortFunc_eq sortL 32 (fun w=>by kernel_rfl) (fun w=>by kernel_rfl) dH mQ encW_one cfW swoW cl #[] Lc.blk Lc.off cap L.toArray w hcl.enters hlays hW hblk (by rw [E7];omega);rw [E7] at q;refine q.mono ?_;rintro e w' ⟨rfl,n,os,rfl⟩;have hp:(flatK dH 32 (Go.Sort.pdq (Go.Proofs.ltOf cfW) L.toArray 0 L.length (Go.Lib.bitLen L.length) true true)).toList=(uT L).flatMap dH:=by rw [<-yf];rfl
   have hs2:(flatK dH 32 (Go.Sort.pdq (Go.Proofs.ltOf cfW) L.toArray 0 L.length (Go.Lib.bitLen L.length) true true)).size=(L.flatMap dH).length:=by rw [<-Array.length_toList,hp,ku,ku,pdqL_len]
   obtain ⟨s1,s2⟩:=sim_sorted prog S h0 hgb hs2 (by rw [hp];exact DX.1 (kU _).1) (by rw [hp];exact (kU _).2) (n:=n) (os:=os) m1;rw [hp] at s1 s2;exact ⟨μ,_,rfl,s1,s2,.tuple rfl (by intro i x y hx;simp at hx)⟩
  have hfin : ∀ cap,Cj prog 185 #[.slice (some ⟨Lc.blk,Lc.off,none⟩) L.length cap,.func (.func cl) #[] #[]] w (mJ μ h w (.tuple #[]) (h.set b ((uT L).flatMap dH))):=fun cap=>
   .inl ⟨f185,by kernel_rfl,by kernel_rfl,by kernel_rfl,key cap⟩
  obtain ⟨rl,rg⟩:=r
  match args',rl,rg with
  | [a',f'],_,rg=>
    have ra:=rg 0 _ _ rfl rfl;have rf:=rg 1 _ _ rfl rfl;have ef:f' = .func (.func cl) #[] #[]:=rf.bG rfl;subst ef;have ea : ∃ cap,a' = .slice (some ⟨Lc.blk,Lc.off,none⟩) L.length cap:=by
     generalize ev:Value.slice (some ⟨b,0,s⟩) L.length L.length=v at ra;cases ra with
     |flat hh=>subst ev;cases hh
     |slice hh=>cases ev;rw [m1] at hh;cases hh;exact ⟨_,rfl⟩
     |mW hh=>cases ev;rw [m1] at hh;cases hh;exact ⟨_,rfl⟩
     |jh hh=>
      injection ev with e1 e2 e3
      rcases hs with rfl|⟨_,hne⟩
      ·cases e1
      ·exact absurd (EE.1 e2) hne
     |yH=>
      injection ev with e1 e2 e3
      rcases hs with rfl|⟨_,hne⟩
      ·cases e1
      ·exact absurd (EE.1 e2) hne
     |_=>cases ev
    obtain ⟨cap,rfl⟩:=ea;exact hfin cap
end
end Go.Proofs.YtdhpgacmgebjdaaGreatDoor.W
namespace Go.Proofs.YtdhpgacmgebjdaaGreatDoor.W
open Go Go.Abs Tryz
noncomputable section
section
variable (C:ah) (x:Nat->Vl) (x0 x1 x2 x3 x4 x5:Vl) (h:ae)
def sk (C:ah) (x:Nat->Vl) (h:ae):Option (Ex×aQ×ae):=
 aa (ld1 (x 1) h) fun a h=>
 aa (rangeA prog 123 a h) fun b h=>
 some (.normal,(aT 14 (up x [(4,a),(5,b)])),h)
def jj (C:ah) (x:Nat->Vl) (h:ae):Option (Ex×aQ×ae):=
 aa (entryA (x 5) h) fun a h=>
 aa (pu (extractA a 0) h) fun b h=>
 aa (dj (List.replicate 32 (.int .u8 0)) h) fun c h=>
 aa (bX 32 c b h) fun _ h=>
 some (.normal,(aT 14 (up x [(3,c),(8,a),(9,b)])),h)
def zW:codeA prog C (al f186 [0]) (aT 14 x) h=sk C x h:=
 aF (T:=sk C) (fun x h=>by kernel_rfl) x h
def qP:codeA prog C (al f186 [1,0,0,1,1,0,0]) (aT 14 x) h=jj C x h:=
 aF (T:=jj C) (fun x h=>by kernel_rfl) x h
def rU (C:ah) (x:Nat->Vl) (h:ae):Option (Ex×aQ×ae):=
 aa (ld1 (x 1) h) fun a h=>
 aa (rangeA prog 124 a h) fun b h=>
 some (.normal,(aT 14 (up x [(4,a),(5,b)])),h)
def je (C:ah) (x:Nat->Vl) (h:ae):Option (Ex×aQ×ae):=
 aa (entryA (x 5) h) fun a h=>
 aa (pu (extractA a 0) h) fun b h=>
 aa (dj (List.replicate 32 (.int .u8 0)) h) fun c h=>
 aa (bX 32 c b h) fun _ h=>
 some (.normal,(aT 14 (up x [(3,c),(8,a),(9,b)])),h)
def zZ:codeA prog C (al f188 [0]) (aT 14 x) h=rU C x h:=
 aF (T:=rU C) (fun x h=>by kernel_rfl) x h
def qW:codeA prog C (al f188 [1,0,0,1,1,0,0]) (aT 14 x) h=je C x h:=
 aF (T:=je C) (fun x h=>by kernel_rfl) x h
def rM (C:ah) (x:Nat->Vl) (h:ae):Option (Ex×aQ×ae):=
 aa (box (x 0) h) fun a h=>
 aa (some ((.slice none 0 0),h)) fun b h=>
 some (.normal,(aT 13 (up x [(2,a),(4,b)])),h)
def nZ (C:ah) (x:Nat->Vl) (h:ae):Option (Ex×aQ×ae):=
 aa (some ((x 1),h)) fun a h=>
 some (.normal,(aT 13 (up x [(6,a)])),h)
def pg (C:ah) (x:Nat->Vl) (h:ae):Option (Ex×aQ×ae):=
 aa (ld1 (x 2) h) fun a h=>
 aa (some (a,h)) fun b h=>
 some (.ret,(aT 13 (up x [(4,b),(12,a)])),h)
def zO:codeA prog C (al f212 [0]) (aT 13 x) h=rM C x h:=
 aF (T:=rM C) (fun x h=>by kernel_rfl) x h
def vG:codeA prog C (al f212 [1,0,0]) (aT 13 x) h=nZ C x h:=
 aF (T:=nZ C) (fun x h=>by kernel_rfl) x h
def yR:codeA prog C (al f212 [1,1]) (aT 13 x) h=pg C x h:=
 aF (T:=pg C) (fun x h=>by kernel_rfl) x h
end
end
end Go.Proofs.YtdhpgacmgebjdaaGreatDoor.W
namespace Go.Proofs.YtdhpgacmgebjdaaGreatDoor.W
open Go Go.Abs Tryz R
noncomputable section
section
attribute [local congr] aC
def fs_256:256<prog.funcs.size:=EO (by kernel_rfl)
abbrev X185:ah:=jc [(185,AM)]
def X185_sound:aZ prog X185:=dS _ (by intro p hp;simp only [EN,EU,GF] at hp;subst hp;exact c185)
abbrev CK:ah:=CC prog X185
def CK_sound:aZ prog CK:=jK dZ X185_sound
def CK_yield {L:Nat} {args:List Vl} {h:ae} {r:Vl×ae} (hG:3<=h.n0) (e:roundA prog CK L args h=some r):CK (yid prog L) args h=some r:=by refine CC_round (by rw [cX];exact hG) ?_ e;show (if yid prog L=185 then AM args h else none)=none;rw [DU];have e1:=fs_256;show ¬(prog.funcs.size+L)=185;generalize prog.funcs.size=n at e1;omega
abbrev kV (d:List Nat):Vl := .agg (bA d).toArray
def ok212:codeOk prog (rgA (al f212 [1,0,1,0]))=true/\codeOk prog (rgB (al f212 [1,0,1,0]))=true:=⟨by kernel_rfl,by kernel_rfl⟩
structure AD (g:ae) (N B:Nat) (sv:Vl) (ds:List (List Nat)):Prop where
 box:g.get B=some [sv]
 hB:N<=B
 own:cF g N 32 sv ds.length (ds.flatMap bA)
 d : ∀ x∈ds,eE x
 z:ds = []->sv = .slice none 0 0
def AD.sl {g:ae} {N B:Nat} {sv:Vl} {ds:List (List Nat)} (a:AD g N B sv ds):j0 g fK sv ds.length (ds.flatMap bA):=oY (ks:=fK) a.own (fq (P:=eE) (fun x hx=>bO hx) _ a.d)
def yn {g:ae} {N L B:Nat} {x0:Nat->Vl} {sv:Vl} {ds:List (List Nat)} {d:List Nat} (x:u4 g L (aT 13 x0) [7] (rgA (al f212 [1,0,1,0])) (rgB (al f212 [1,0,1,0]))) (x2:x0 2=ptr B 0) (a:AD g N B sv ds) (w:eE d) (hN:g.n0<=N) (hn:N<=g.next) (hl:ds.length<=1000000) :
  ∃ g' sv',roundA prog CK L [kV d] g=some (.bool true,g')/\u4 g' L (aT 13 x0) [7] (rgA (al f212 [1,0,1,0])) (rgB (al f212 [1,0,1,0]))/\AD g' N B sv' (ds ++ [d])/\aw g g' (fun c=>c=L\/c=B\/(bx sv=some c/\g.get c=some (ds.flatMap bA))):=by
 have hpa:gQ (aT 13 x0) ([7].zip [kV d])=aT 13 (up x0 [(7,kV d)]):=jV 13 x0 7 (kV d);obtain ⟨h1,z1,o1,g1,n1⟩:=fresh (List.replicate 32 (.int .u8 0)) g;obtain ⟨h2,t2,k2,g2,p2,n2⟩:=aR (n:=32) (k':=bA d) g1 (by rw [o1.n0];exact g.n0_le_next) rfl (bf w) (bh _).2;have K2:aw g h2 (fun _=>False):=o1.also k2 (fun c hc q=>by subst q;omega);have ha:codeA prog CK (rgA (al f212 [1,0,1,0])) (gQ (aT 13 x0) ([7].zip [kV d])) g=some (.normal,aT 13 (up (up x0 [(7,kV d)]) [(5,ptr g.next 0)]),h2):=by rw [hpa,tD];unfold lC;simp -implicitDefEqProofs only [z1,show up x0 [(7,kV d)] 7=kV d from rfl,t2,af]
 have yL:u4 h2 L (aT 13 x0) [7] (rgA (al f212 [1,0,1,0])) (rgB (al f212 [1,0,1,0])):=x.keep K2 (fun q=>q);have hLB:L≠B:=fun q=>by have h1:g.getB L=some (.obj _):=x;rw [q,g.aO a.box] at h1;cases h1
 have nL:g.n0<=L:=g.bk x;generalize hh3:h2.setO L (.loop .busy none (aT 13 x0) [7] (rgA (al f212 [1,0,1,0])) (rgB (al f212 [1,0,1,0])))=h3;have k3:aw h2 h3 (· = L):=by rw [<-hh3];exact aw.setO yL rfl
 have nx3:h3.next=h2.next:=by rw [<-hh3];rfl
 have hLn:L≠g.next:=fun q=>by have:=g.lt_of_getB x;omega
 have B3:h3.get B=some [sv]:=k3.getE (K2.getE a.box (fun q=>q)) (fun q=>hLB q.symm);have C3:h3.get g.next=some (bA d):=k3.getE g2 (fun q=>hLn q.symm);have hcell:cw sv=false/\sv.oneCell'=true/\sv.cells = #[sv]:=iu a.sl;have l1:ld1 (ptr B 0) h3=some (sv,h3):=aP B3 rfl hcell.1;have l2:bZ 32 (ptr g.next 0) h3=some (kV d,h3):=aV C3 (bf w) (bh _).1;have hbs:=Dx (n:=32) (z:=List.replicate 32 (.int .u8 0)) h3 rfl rfl (by decide) (by decide) (bf w) (bh d).2;have oa:aM h3 (h3.alloc (bA d)):=aw.alloc _ _ _;have ga:(h3.alloc (bA d)).get h3.next=some (bA d):=by rw [ae.aX,DR rfl]
 generalize h3.alloc (bA d)=h4 at *;have S:=slice1 (s:=none) ga (bO w);have K4:aw g h4 (fun c=>c=L):=((K2.mono (fun _ _ q=>q.elim)).trans k3).trans (oa.mono (fun _ _ q=>q.elim));have hLbase : ∀ b,bx sv=some b->g.get b≠none->b≠L:=fun b hb hg q=>by
  subst q;have h1:g.getB b=some (.obj _):=x;rcases hgg:g.get b with _|k
  ·exact hg hgg
  ·rw [g.aO hgg] at h1;cases h1
 have O4:cF h4 N 32 sv ds.length (ds.flatMap bA):=by
  obtain ⟨h1,h2,h3,h4'⟩:=a.own;refine ⟨h1,h2,h3,?_⟩;rcases h4' with h4'|⟨b,s,e,h5,h6|⟨h6,h7⟩⟩
  ·exact .inl h4'
  ·exact .inr ⟨b,s,e,h5,.inl h6⟩
  ·exact .inr ⟨b,s,e,h5,.inr ⟨h6,K4.getE h7 (hLbase b (by rw [e];rfl) (by rw [h7];exact fun q=>by cases q))⟩⟩
 obtain ⟨sv',h5,e5,O5,k5,_⟩:=ic (qX:=32) O4 (by rw [K4.n0];exact hN) (ED hn K4.next) (by decide) S.slice (S.first (by decide)) (bh d).2 (bh d).1 (by rw [bf w]) (by omega) (by omega);have B4:=aM.get oa B3;have hcB : ∀ c,bx sv=some c/\h4.get c=some (ds.flatMap bA)->c≠B:=by
  rintro c ⟨_,q2⟩ rfl;rw [B4] at q2;injection q2 with q2
  have:=E2 List.length q2;have hm:=a.own.1;rw [List.length_singleton] at this;omega
 have B5:h5.get B=some [sv]:=k5.getE B4 (fun q=>hcB B q rfl);have D5 : ∀ q∈ds ++ [d],eE q:=fun q hq=>by
  rcases EF.1 hq with hq|hq
  ·exact a.d q hq
  ·rw [FI.1 hq];exact w
 have O5':cF h5 N 32 sv' (ds ++ [d]).length ((ds ++ [d]).flatMap bA):=by rw [GP,DW];simpa using O5
 have hcell':cw sv'=false/\sv'.oneCell'=true/\sv'.cells = #[sv']:=iu (oY (ks:=fK) O5' (fq (P:=eE) (fun x hx=>bO hx) _ D5));have n05:h5.n0<=B:=by rw [k5.n0,K4.n0];exact ED hN a.hB
 obtain ⟨h6,e6,k6,B6,_,n6⟩:=stored (v:=sv') (o:=0) B5 n05 (by rw [List.length_singleton];exact Nat.zero_lt_one) hcell'.2.2 hcell'.2.1;have hb:codeA prog CK (rgB (al f212 [1,0,1,0])) (aT 13 (up (up x0 [(7,kV d)]) [(5,ptr g.next 0)])) h3=some (.normal,aT 13 (up (up (up x0 [(7,kV d)]) [(5,ptr g.next 0)]) [(8,sv),(9,kV d),(10,.slice (some ⟨h3.next,0,none⟩) 1 1),(11,sv')]),h6):=by rw [tE];unfold lu;simp -implicitDefEqProofs only [show up (up x0 [(7,kV d)]) [(5,ptr g.next 0)] 2=x0 2 from rfl,show up (up x0 [(7,kV d)]) [(5,ptr g.next 0)] 5=ptr g.next 0 from rfl,x2,l1,l2,hbs,e5,e6,af]
 have hLc : ∀ c,bx sv=some c/\h4.get c=some (ds.flatMap bA)->c≠L:=by rintro c ⟨_,q2⟩ rfl;have h1:h4.getB c=some (.obj (.loop .busy none (aT 13 x0) [7] (rgA (al f212 [1,0,1,0])) (rgB (al f212 [1,0,1,0])))):=aw.obj oa (by rw [<-hh3];exact ae.fZ (h2.bk yL) yL _) (fun q=>q);rw [h4.aO q2] at h1;cases h1
 let BB:Nat->Prop:=fun c=>c≠L/\(c=B\/(bx sv=some c/\h4.get c=some (ds.flatMap bA)))
 have kb:aw h3 h6 BB:=((oa.mono (fun _ _ q=>q.elim)).trans (k5.mono (fun c _ q=>⟨hLc c q,.inr q⟩))).trans (k6.mono (fun c _ q=>⟨by rw [q];exact fun z=>hLB z.symm,.inl q⟩));obtain ⟨g',er,lr,nx,n0,ge,gb⟩:=x.round (by rfl) ok212.1 ok212.2 ha (K2.mono (B:=fun _=>False) (B':=BB) (fun _ _ q=>q.elim)) (fun q=>q.1 rfl) (by rw [hh3];exact hb) (by rw [hh3];exact kb);have kg:aw h6 g' (· = L):=⟨by rw [n0,kb.n0,k3.n0,K2.n0],by rw [nx];exact DO _,fun c _ hc=>gb c hc⟩
 refine ⟨g',sv',er,lr,⟨by rw [ge];exact B6,a.hB,?_,D5,fun q=>by simp at q⟩,?_⟩
 ·obtain ⟨h1,h2,h3,h4'⟩:=O5';refine ⟨h1,h2,h3,?_⟩;rcases h4' with h4'|⟨b,s,e,h5,h6|⟨h6,h7⟩⟩
  ·exact .inl h4'
  ·exact .inr ⟨b,s,e,h5,.inl h6⟩
  ·refine .inr ⟨b,s,e,h5,.inr ⟨h6,?_⟩⟩;rw [ge];refine k6.getE h7 (fun q => ?_);subst q;rw [B5] at h7;injection h7 with h7
   have:=E2 List.length h7;rw [List.length_singleton,h1] at this;omega
 ·have kk:aw g g' (fun c=>c=L\/c=B\/(bx sv=some c/\h4.get c=some (ds.flatMap bA))):=((((K2.mono (fun _ _ q=>q.elim)).trans (k3.mono (fun c _ q => .inl q))).trans (kb.mono (fun c _ q => .inr q.2))).trans (kg.mono (fun c _ q => .inl q)))
  refine ⟨kk.n0,kk.next,fun c hc hn=>kk.getB c hc fun q=>hn ?_⟩;by_cases hcL:c=L
  ·exact .inl hcL
  ·rcases q with q|q|⟨q1,q2⟩
   ·exact .inl q
   ·exact .inr (.inl q)
   ·refine .inr (.inr ⟨q1,?_⟩);have h1:=K4.getB c hc hcL;rw [h4.aO q2] at h1;exact g.get_of_getB h1.symm
end
section
attribute [local congr] aC
def xm : ∀ {es:List (Vl×Vl×Nat)} (nd:(es.map (·.2.2)).Nodup) {e:Vl×Vl×Nat} (he:e∈es),es.find? (fun x=>x.2.2==e.2.2)=some e
 |x::es,nd,e,he=>by
  rw [ES,H3] at nd;by_cases hx:x.2.2=e.2.2
  ·rw [IQ (by simpa using hx)];rcases EN.1 he with rfl|he
   ·rfl
   ·exact absurd (EL.2 ⟨e,he,hx.symm⟩) nd.1
  ·rw [HC (by simpa using hx)];rcases EN.1 he with rfl|he
   ·exact absurd rfl hx
   ·exact xm nd.2 he
def entryG {h:ae} {ib mb ck:Nat} {es:List (Vl×Vl×Nat)} {seen:List Nat} (m:qS h mb es ck) {e:Vl×Vl×Nat} (it:pF h ib mb ck (seen ++ [e.2.2])) (he:e∈es):entryA (ptr ib 0) h=some (.tuple #[e.1,e.2.1],h):=by
 unfold entryA ptr;have hl:(seen ++ [e.2.2]).getLast? = some e.2.2:=by simp
 simp only [show h.getB ib=_ from it,hl,m.get,D8,xm m.nd he,Option.map_some]
def _root_.Go.Abs.qS.old {h g:ae} {mb ck:Nat} {es:List (Vl×Vl×Nat)} (m:qS h mb es ck) (o:aM h g):qS g mb es ck:=⟨aw.obj o m.get (fun q=>q),m.nd,m.lt⟩
def rp (es:List (Vl×Vl×Nat)):Prop := ∀ e∈es,∃ d,eE d/\e.1=kV d
abbrev aB:Code:=rgA (al f212 [1,0,1,0])
abbrev bB:Code:=rgB (al f212 [1,0,1,0])
structure KI (h0:ae) (L B ib mb ck:Nat) (x0:Nat->Vl) (done:List (Vl×Vl×Nat)) (y:Nat->Vl) (g:ae) (sv:Vl) (ds:List (List Nat)):Prop where
 y0:y 0 = .func (.yield L) #[] #[]
 y5:y 5=ptr ib 0
 O:aM h0 g
 it:pF g ib mb ck (done.map (·.2.2))
 lp:u4 g L (aT 13 x0) [7] aB bB
 ib:h0.next<=ib
 L:h0.next<=L
 a:AD g h0.next B sv ds
 k:done.map (·.1)=ds.map kV
def CK_w {n:Nat} {f:FuncId} {args:List Vl} {h h':ae} {v:Vl} {K:Vl->ae->Prop} (e:CK f args h=some (v,h')) (k:K v h'):WW prog CK n f args h K:=WW_det n f args h _ _ (fun _ _ q=>q) ⟨v,h',e,k⟩
def pQ {h:ae} {b:Nat} {o:fl} {k:BB} (hb:h.n0<=b) (hg:h.getB b=some k):(h.setO b o).getB b=some (.obj o):=by unfold ae.setO;rw [h.fi hb (h.lt_of_getB hg),DR rfl]
def gC (fn:Func) (p:List Nat) (i:Nat):Oper:=match al fn p with | .region _ ops _=>ops.getD i default|_=>default
def is186:bJ prog 186 f186 := .of (by kernel_rfl)
def bod186:f186.body=some (al f186 []):=by kernel_rfl
def env186 (a b:Vl):([a,b]++List.replicate (f186.ntmps - [a,b].length) undef:aQ)=aT 14 (bs [a,b]):=by kernel_rfl
def res186:f186.results.toList = []:=by kernel_rfl
def par186:al f186 [] = .seq (al f186 [0]) (.block 0 (.loop (.seq (.region 1 #[gC f186 [1,0,0,0] 0,gC f186 [1,0,0,0] 1] false) (al f186 [1,0,0,1])))):=by kernel_rfl
def pas186:al f186 [1,0,0,1] = .seq (.cond (.tmp 7) .skip (.exit 0)) (.block 1 (.seq (al f186 [1,0,0,1,1,0,0]) (.seq (al f186 [1,0,0,1,1,0,1,0]) (.cond (.tmp 13) .ret .skip)))):=by kernel_rfl
def nx186:(gC f186 [1,0,0,0] 0).op = .next (.tmp 5) false/\(gC f186 [1,0,0,0] 0).dst=some 6/\(gC f186 [1,0,0,0] 0).guard=none/\(gC f186 [1,0,0,0] 1).op = .extract (.tmp 6) 0/\(gC f186 [1,0,0,0] 1).dst=some 7/\(gC f186 [1,0,0,0] 1).guard=none:=⟨by kernel_rfl,by kernel_rfl,by kernel_rfl,by kernel_rfl,by kernel_rfl,by kernel_rfl⟩
def ca186:zu (al f186 [1,0,0,1,1,0,1,0])=true/\(tS (al f186 [1,0,0,1,1,0,1,0])).length=4/\(tS (al f186 [1,0,0,1,1,0,1,0]))[2]? = some (gC f186 [1,0,0,1,1,0,1,0] 2)/\calleeOf (gC f186 [1,0,0,1,1,0,1,0] 2)=some (.tmp 10,[.tmp 11])/\(gC f186 [1,0,0,1,1,0,1,0] 2).dst=some 12:=⟨by kernel_rfl,by kernel_rfl,by kernel_rfl,by kernel_rfl,by kernel_rfl⟩
def cu186a (C:ah) (x:Nat->Vl) (h:ae):codeA prog C (ln (al f186 [1,0,0,1,1,0,1,0]) 0 2) (aT 14 x) h=aa (some (x 0,h)) fun y10 h=>aa (bZ 32 (x 3) h) fun y11 h=>some (.normal,aT 14 (up x [(10,y10),(11,y11)]),h):=
 aF (T:=fun x h=>aa (some (x 0,h)) fun y10 h=>aa (bZ 32 (x 3) h) fun y11 h=>some (.normal,aT 14 (up x [(10,y10),(11,y11)]),h)) (fun x h=>by kernel_rfl) x h
def cu186b (C:ah) (x:Nat->Vl) (h:ae):codeA prog C (ln (al f186 [1,0,0,1,1,0,1,0]) 3 4) (aT 14 x) h=aa (pu (unA .not (x 12)) h) fun y13 h=>some (.normal,aT 14 (up x [(13,y13)]),h):=
 aF (T:=fun x h=>aa (pu (unA .not (x 12)) h) fun y13 h=>some (.normal,aT 14 (up x [(13,y13)]),h)) (fun x h=>by kernel_rfl) x h
def map186:(mapT prog 123).isSome=true:=by kernel_rfl
def w186 {n:Nat} {h0 g:ae} {L B q mb ck:Nat} {es:List (Vl×Vl×Nat)} {x0:Nat->Vl} (x2:x0 2=ptr B 0) (hG:3<=h0.n0) (m:qS h0 mb es ck) (hk:rp es) (hl:es.length<=1000000) (hq:h0.get q=some [.map (some mb)]) (O:aM h0 g) (lp:u4 g L (aT 13 x0) [7] aB bB) (hL:h0.next<=L) (a:AD g h0.next B (.slice none 0 0) [])
  {K:Vl->ae->Prop} (hK : ∀ g' sv ds,aM h0 g'->u4 g' L (aT 13 x0) [7] aB bB->AD g' h0.next B sv ds->(ds.map kV).Perm (es.map (·.1))->K (.tuple #[]) g') :
  bodyW prog CK (WW prog CK n) f186 [.func (.yield L) #[] #[],ptr q 0] g K:=by
 unfold bodyW;rw [bod186];simp only;rw [env186,par186];have mq:=aM.get O hq;have lq:ld1 (ptr q 0) g=some (.map (some mb),g):=aP mq rfl rfl;have er:rangeA prog 123 (.map (some mb)) g=some (ptr g.next 0,g.bj (.obj (.iter (some mb) ck [] ck))):=by
  unfold rangeA;have h1:=map186;cases h2:mapT prog 123 with
  |none=>rw [h2] at h1;cases h1
  |some p=>simp only [(m.old O).get]
 refine vR ((zW CK _ _).trans (by unfold sk;simp -implicitDefEqProofs only [show bs [Value.func (.yield L) #[] #[],ptr q 0] 1=ptr q 0 from rfl,lq,er,af];rfl)) ?_
 have oI:aM g (g.bj (.obj (.iter (some mb) ck [] ck))):=aw.allocO _ _ _;have I0:KI h0 L B g.next mb ck x0 [] (up (bs [Value.func (.yield L) #[] #[],ptr q 0]) [(4,.map (some mb)),(5,ptr g.next 0)]) (g.bj (.obj (.iter (some mb) ck [] ck))) (.slice none 0 0) []:=
  ⟨rfl,rfl,O.trans oI,by unfold pF;rw [ae.bE,DR rfl];rfl,lp.keep oI (fun q=>q),O.next,hL,⟨aM.get oI a.box,a.hB,cF.nil _ _ _,a.d,fun _=>rfl⟩,rfl⟩
 obtain ⟨n1,n2,n3,n4,n5,n6⟩:=nx186;refine zw (rangeW n1 n2 n3 n4 n5 n6 (by decide) (by decide) (ib:=g.next) (mb:=mb) (ck:=ck) (es:=es) (fun done y g' => ∃ sv ds,KI h0 L B g.next mb ck x0 done y g' sv ds) (Kx:=fun x _ g'=>x = .exit 0 /\ ∃ sv ds,aM h0 g'/\u4 g' L (aT 13 x0) [7] aB bB/\AD g' h0.next B sv ds/\(ds.map kV).Perm (es.map (·.1))) ?_ ?_ ?_ ⟨_,_,I0⟩ (by have:aK=18446744073709551616:=rfl;omega) |> iK (xS n) _ ?_)
 ·rintro x e g' hx;obtain ⟨rfl,sv,ds,O',lp',a',hp⟩:=hx;exact ⟨.tuple #[],g',by rw [res186];rfl,hK g' sv ds O' lp' a' hp⟩
 ·rintro done y g' ⟨sv,ds,I⟩;exact ⟨m.old I.O,I.it,I.y5⟩
 ·rintro done e y g' he hd hlen ⟨sv,ds,I⟩;obtain ⟨d,wd,ed⟩:=hk e he;have nib:g'.n0<=g.next:=g'.bk I.it;have kS:aw g' (g'.setO g.next (.iter (some mb) ck (done.map (·.2.2) ++ [e.2.2]) ck)) (· = g.next):=aw.setO I.it rfl;have iS:pF (g'.setO g.next (.iter (some mb) ck (done.map (·.2.2) ++ [e.2.2]) ck)) g.next mb ck (done.map (·.2.2) ++ [e.2.2]):=pQ nib I.it;have OS:=I.O.also kS (fun c hc q=>by have:=I.ib;omega);have lS:=I.lp.keep kS (fun q=>by have h1:g'.getB L=some (.obj (.loop ..)):=I.lp;have h2:g'.getB g.next=some (.obj (.iter ..)):=I.it;rw [q,h2] at h1;cases h1)
  have neO : ∀ {c:Nat} {k:eW},g'.get c=some k->c≠g.next:=fun hg q=>by have h2:g'.getB g.next=some (.obj (.iter ..)):=I.it;rw [<-q,g'.aO hg] at h2;cases h2
  have aS:AD (g'.setO g.next (.iter (some mb) ck (done.map (·.2.2) ++ [e.2.2]) ck)) h0.next B sv ds:=⟨kS.getE I.a.box (neO I.a.box),I.a.hB,by
   obtain ⟨h1,h2,h3,h4⟩:=I.a.own;refine ⟨h1,h2,h3,?_⟩;rcases h4 with h4|⟨b,s,e,h5,h6|⟨h6,h7⟩⟩
   ·exact .inl h4
   ·exact .inr ⟨b,s,e,h5,.inl h6⟩
   ·exact .inr ⟨b,s,e,h5,.inr ⟨h6,kS.getE h7 (neO h7)⟩⟩,I.a.d,I.a.z⟩
  generalize g'.setO g.next (.iter (some mb) ck (done.map (·.2.2) ++ [e.2.2]) ck)=gS at *;have en:=entryG (m.old OS) iS he;obtain ⟨g1,z1,o1,p1,n1'⟩:=fresh (List.replicate 32 (.int .u8 0)) gS;obtain ⟨g2,t2,k2,p2,_,n2'⟩:=aR (n:=32) (k':=bA d) p1 (by rw [o1.n0];exact gS.n0_le_next) rfl (bf wd) (bh _).2;have K2:aw gS g2 (fun _=>False):=o1.also k2 (fun c hc q=>by subst q;omega);have l3:bZ 32 (ptr gS.next 0) g2=some (kV d,g2):=aV p2 (bf wd) (bh _).1;have O2:=OS.trans K2;have a2:AD g2 h0.next B sv ds:=⟨K2.getE aS.box (fun q=>q),aS.hB,aS.own.keep K2 (fun _ _ q=>q),aS.d,aS.z⟩
  have hdl:ds.length<=1000000:=by have h1:=E2 List.length I.k;rw [DY,DY] at h1;rw [DW,List.length_singleton] at hlen;omega
  obtain ⟨g3,sv',er3,lp3,a3,k3⟩:=yn (x0:=x0) (lS.keep K2 (fun q=>q)) x2 a2 wd (by rw [O2.n0];exact h0.n0_le_next) O2.next hdl;have Y0:up y [(7,.bool true),(6,.tuple #[.bool true,e.1,e.2.1])] 0 = .func (.yield L) #[] #[]:=I.y0;have Y5:up y [(7,.bool true),(6,.tuple #[.bool true,e.1,e.2.1])] 5=ptr g.next 0:=I.y5;have Y7:up y [(7,.bool true),(6,.tuple #[.bool true,e.1,e.2.1])] 7 = .bool true:=rfl;generalize up y [(7,.bool true),(6,.tuple #[.bool true,e.1,e.2.1])]=Y at *;rw [ed] at en;rw [pas186];refine vM (condWT ((fV (by decide) _).trans Y7) ?_);have cE:codeA prog CK (al f186 [1,0,0,1,1,0,0]) (aT 14 Y) gS=some (.normal,aT 14 (up Y [(3,ptr gS.next 0),(8,.tuple #[kV d,e.2.1]),(9,kV d)]),g2):=by rw [qP];unfold jj;simp -implicitDefEqProofs only [Y5,en,gZ,z1,t2,af,aj]
  refine skipWW (zw (vR cE ?_));obtain ⟨c1,c2,c3,c4,c5⟩:=ca186;have Z0:up Y [(3,ptr gS.next 0),(8,.tuple #[kV d,e.2.1]),(9,kV d)] 0 = .func (.yield L) #[] #[]:=Y0;have Z3:up Y [(3,ptr gS.next 0),(8,.tuple #[kV d,e.2.1]),(9,kV d)] 3=ptr gS.next 0:=rfl;have cA:codeA prog CK (ln (al f186 [1,0,0,1,1,0,1,0]) 0 2) (aT 14 (up Y [(3,ptr gS.next 0),(8,.tuple #[kV d,e.2.1]),(9,kV d)])) g2=some (.normal,aT 14 (up (up Y [(3,ptr gS.next 0),(8,.tuple #[kV d,e.2.1]),(9,kV d)]) [(10,.func (.yield L) #[] #[]),(11,kV d)]),g2):=by rw [cu186a,Z0,Z3];simp -implicitDefEqProofs only [l3,af]
  refine vM (mH c1 c2 c3 c4 c5 cA ?_);rw [show ev (aT 14 (up (up Y [(3,ptr gS.next 0),(8,.tuple #[kV d,e.2.1]),(9,kV d)]) [(10,.func (.yield L) #[] #[]),(11,kV d)])) (.tmp 10) = .func (.yield L) #[] #[] from (fV (by decide) _).trans rfl];rw [show [Operand.tmp 11].map (ev (aT 14 (up (up Y [(3,ptr gS.next 0),(8,.tuple #[kV d,e.2.1]),(9,kV d)]) [(10,.func (.yield L) #[] #[]),(11,kV d)]))) = [kV d] from E2 (fun z => [z]) ((fV (by decide) _).trans rfl)];refine CK_w (CK_yield (by rw [O2.n0];exact hG) er3) ?_;rw [jV];refine Dh ((cu186b CK _ _).trans rfl) ?_;refine Cw ((fV (by decide) _).trans rfl) ?_;have I2:pF g2 g.next mb ck (done.map (·.2.2) ++ [e.2.2]):=aw.obj K2 iS (fun q=>q);have neI : ∀ {c:Nat} {k:eW},g2.get c=some k->g.next≠c:=fun hg q=>by have h2:g2.getB g.next=some (.obj (.iter ..)):=I2;rw [q,g2.aO hg] at h2;cases h2
  have I3:pF g3 g.next mb ck ((done ++ [e]).map (·.2.2)):=by
   rw [EV];refine aw.obj k3 I2 (fun q => ?_);rcases q with q|q|⟨_,q⟩
   ·have h1:g2.getB L=some (.obj (.loop ..)):=lS.keep K2 (fun q=>q);have h2:g2.getB g.next=some (.obj (.iter ..)):=I2;rw [<-q,h2] at h1;cases h1
   ·exact neI a2.box q
   ·exact neI q rfl
  exact ⟨_,rfl,sv',ds ++ [d],Y0,Y5,O2.also k3 (fun c hc q=>by
   rcases q with q|q|⟨q,_⟩
   ·have:=I.L;omega
   ·have:=I.a.hB;omega
   ·have:=a2.own.base q;omega),I3,lp3,I.ib,I.L,a3,by rw [EV,EV,I.k,ES,HH,ed];rfl⟩
 ·rintro done y g' hp ⟨sv,ds,I⟩;rw [pas186];refine vM (Cw ((fV (by decide) _).trans rfl) ?_);exact ⟨rfl,sv,ds,I.O,I.lp,I.a,by rw [<-I.k];exact hp.map _⟩
def is188:bJ prog 188 f188 := .of (by kernel_rfl)
def bod188:f188.body=some (al f188 []):=by kernel_rfl
def env188 (a b:Vl):([a,b]++List.replicate (f188.ntmps - [a,b].length) undef:aQ)=aT 14 (bs [a,b]):=by kernel_rfl
def res188:f188.results.toList = []:=by kernel_rfl
def par188:al f188 [] = .seq (al f188 [0]) (.block 0 (.loop (.seq (.region 1 #[gC f188 [1,0,0,0] 0,gC f188 [1,0,0,0] 1] false) (al f188 [1,0,0,1])))):=by kernel_rfl
def pas188:al f188 [1,0,0,1] = .seq (.cond (.tmp 7) .skip (.exit 0)) (.block 1 (.seq (al f188 [1,0,0,1,1,0,0]) (.seq (al f188 [1,0,0,1,1,0,1,0]) (.cond (.tmp 13) .ret .skip)))):=by kernel_rfl
def nx188:(gC f188 [1,0,0,0] 0).op = .next (.tmp 5) false/\(gC f188 [1,0,0,0] 0).dst=some 6/\(gC f188 [1,0,0,0] 0).guard=none/\(gC f188 [1,0,0,0] 1).op = .extract (.tmp 6) 0/\(gC f188 [1,0,0,0] 1).dst=some 7/\(gC f188 [1,0,0,0] 1).guard=none:=⟨by kernel_rfl,by kernel_rfl,by kernel_rfl,by kernel_rfl,by kernel_rfl,by kernel_rfl⟩
def ca188:zu (al f188 [1,0,0,1,1,0,1,0])=true/\(tS (al f188 [1,0,0,1,1,0,1,0])).length=4/\(tS (al f188 [1,0,0,1,1,0,1,0]))[2]? = some (gC f188 [1,0,0,1,1,0,1,0] 2)/\calleeOf (gC f188 [1,0,0,1,1,0,1,0] 2)=some (.tmp 10,[.tmp 11])/\(gC f188 [1,0,0,1,1,0,1,0] 2).dst=some 12:=⟨by kernel_rfl,by kernel_rfl,by kernel_rfl,by kernel_rfl,by kernel_rfl⟩
def cu188a (C:ah) (x:Nat->Vl) (h:ae):codeA prog C (ln (al f188 [1,0,0,1,1,0,1,0]) 0 2) (aT 14 x) h=aa (some (x 0,h)) fun y10 h=>aa (bZ 32 (x 3) h) fun y11 h=>some (.normal,aT 14 (up x [(10,y10),(11,y11)]),h):=
 aF (T:=fun x h=>aa (some (x 0,h)) fun y10 h=>aa (bZ 32 (x 3) h) fun y11 h=>some (.normal,aT 14 (up x [(10,y10),(11,y11)]),h)) (fun x h=>by kernel_rfl) x h
def cu188b (C:ah) (x:Nat->Vl) (h:ae):codeA prog C (ln (al f188 [1,0,0,1,1,0,1,0]) 3 4) (aT 14 x) h=aa (pu (unA .not (x 12)) h) fun y13 h=>some (.normal,aT 14 (up x [(13,y13)]),h):=
 aF (T:=fun x h=>aa (pu (unA .not (x 12)) h) fun y13 h=>some (.normal,aT 14 (up x [(13,y13)]),h)) (fun x h=>by kernel_rfl) x h
def map188:(mapT prog 124).isSome=true:=by kernel_rfl
def w188 {n:Nat} {h0 g:ae} {L B q mb ck:Nat} {es:List (Vl×Vl×Nat)} {x0:Nat->Vl} (x2:x0 2=ptr B 0) (hG:3<=h0.n0) (m:qS h0 mb es ck) (hk:rp es) (hl:es.length<=1000000) (hq:h0.get q=some [.map (some mb)]) (O:aM h0 g) (lp:u4 g L (aT 13 x0) [7] aB bB) (hL:h0.next<=L) (a:AD g h0.next B (.slice none 0 0) [])
  {K:Vl->ae->Prop} (hK : ∀ g' sv ds,aM h0 g'->u4 g' L (aT 13 x0) [7] aB bB->AD g' h0.next B sv ds->(ds.map kV).Perm (es.map (·.1))->K (.tuple #[]) g') :
  bodyW prog CK (WW prog CK n) f188 [.func (.yield L) #[] #[],ptr q 0] g K:=by
 unfold bodyW;rw [bod188];simp only;rw [env188,par188];have mq:=aM.get O hq;have lq:ld1 (ptr q 0) g=some (.map (some mb),g):=aP mq rfl rfl;have er:rangeA prog 124 (.map (some mb)) g=some (ptr g.next 0,g.bj (.obj (.iter (some mb) ck [] ck))):=by
  unfold rangeA;have h1:=map188;cases h2:mapT prog 124 with
  |none=>rw [h2] at h1;cases h1
  |some p=>simp only [(m.old O).get]
 refine vR ((zZ CK _ _).trans (by unfold rU;simp -implicitDefEqProofs only [show bs [Value.func (.yield L) #[] #[],ptr q 0] 1=ptr q 0 from rfl,lq,er,af];rfl)) ?_
 have oI:aM g (g.bj (.obj (.iter (some mb) ck [] ck))):=aw.allocO _ _ _;have I0:KI h0 L B g.next mb ck x0 [] (up (bs [Value.func (.yield L) #[] #[],ptr q 0]) [(4,.map (some mb)),(5,ptr g.next 0)]) (g.bj (.obj (.iter (some mb) ck [] ck))) (.slice none 0 0) []:=
  ⟨rfl,rfl,O.trans oI,by unfold pF;rw [ae.bE,DR rfl];rfl,lp.keep oI (fun q=>q),O.next,hL,⟨aM.get oI a.box,a.hB,cF.nil _ _ _,a.d,fun _=>rfl⟩,rfl⟩
 obtain ⟨n1,n2,n3,n4,n5,n6⟩:=nx188;refine zw (rangeW n1 n2 n3 n4 n5 n6 (by decide) (by decide) (ib:=g.next) (mb:=mb) (ck:=ck) (es:=es) (fun done y g' => ∃ sv ds,KI h0 L B g.next mb ck x0 done y g' sv ds) (Kx:=fun x _ g'=>x = .exit 0 /\ ∃ sv ds,aM h0 g'/\u4 g' L (aT 13 x0) [7] aB bB/\AD g' h0.next B sv ds/\(ds.map kV).Perm (es.map (·.1))) ?_ ?_ ?_ ⟨_,_,I0⟩ (by have:aK=18446744073709551616:=rfl;omega) |> iK (xS n) _ ?_)
 ·rintro x e g' hx;obtain ⟨rfl,sv,ds,O',lp',a',hp⟩:=hx;exact ⟨.tuple #[],g',by rw [res188];rfl,hK g' sv ds O' lp' a' hp⟩
 ·rintro done y g' ⟨sv,ds,I⟩;exact ⟨m.old I.O,I.it,I.y5⟩
 ·rintro done e y g' he hd hlen ⟨sv,ds,I⟩;obtain ⟨d,wd,ed⟩:=hk e he;have nib:g'.n0<=g.next:=g'.bk I.it;have kS:aw g' (g'.setO g.next (.iter (some mb) ck (done.map (·.2.2) ++ [e.2.2]) ck)) (· = g.next):=aw.setO I.it rfl;have iS:pF (g'.setO g.next (.iter (some mb) ck (done.map (·.2.2) ++ [e.2.2]) ck)) g.next mb ck (done.map (·.2.2) ++ [e.2.2]):=pQ nib I.it;have OS:=I.O.also kS (fun c hc q=>by have:=I.ib;omega);have lS:=I.lp.keep kS (fun q=>by have h1:g'.getB L=some (.obj (.loop ..)):=I.lp;have h2:g'.getB g.next=some (.obj (.iter ..)):=I.it;rw [q,h2] at h1;cases h1)
  have neO : ∀ {c:Nat} {k:eW},g'.get c=some k->c≠g.next:=fun hg q=>by have h2:g'.getB g.next=some (.obj (.iter ..)):=I.it;rw [<-q,g'.aO hg] at h2;cases h2
  have aS:AD (g'.setO g.next (.iter (some mb) ck (done.map (·.2.2) ++ [e.2.2]) ck)) h0.next B sv ds:=⟨kS.getE I.a.box (neO I.a.box),I.a.hB,by
   obtain ⟨h1,h2,h3,h4⟩:=I.a.own;refine ⟨h1,h2,h3,?_⟩;rcases h4 with h4|⟨b,s,e,h5,h6|⟨h6,h7⟩⟩
   ·exact .inl h4
   ·exact .inr ⟨b,s,e,h5,.inl h6⟩
   ·exact .inr ⟨b,s,e,h5,.inr ⟨h6,kS.getE h7 (neO h7)⟩⟩,I.a.d,I.a.z⟩
  generalize g'.setO g.next (.iter (some mb) ck (done.map (·.2.2) ++ [e.2.2]) ck)=gS at *;have en:=entryG (m.old OS) iS he;obtain ⟨g1,z1,o1,p1,n1'⟩:=fresh (List.replicate 32 (.int .u8 0)) gS;obtain ⟨g2,t2,k2,p2,_,n2'⟩:=aR (n:=32) (k':=bA d) p1 (by rw [o1.n0];exact gS.n0_le_next) rfl (bf wd) (bh _).2;have K2:aw gS g2 (fun _=>False):=o1.also k2 (fun c hc q=>by subst q;omega);have l3:bZ 32 (ptr gS.next 0) g2=some (kV d,g2):=aV p2 (bf wd) (bh _).1;have O2:=OS.trans K2;have a2:AD g2 h0.next B sv ds:=⟨K2.getE aS.box (fun q=>q),aS.hB,aS.own.keep K2 (fun _ _ q=>q),aS.d,aS.z⟩
  have hdl:ds.length<=1000000:=by have h1:=E2 List.length I.k;rw [DY,DY] at h1;rw [DW,List.length_singleton] at hlen;omega
  obtain ⟨g3,sv',er3,lp3,a3,k3⟩:=yn (x0:=x0) (lS.keep K2 (fun q=>q)) x2 a2 wd (by rw [O2.n0];exact h0.n0_le_next) O2.next hdl;have Y0:up y [(7,.bool true),(6,.tuple #[.bool true,e.1,e.2.1])] 0 = .func (.yield L) #[] #[]:=I.y0;have Y5:up y [(7,.bool true),(6,.tuple #[.bool true,e.1,e.2.1])] 5=ptr g.next 0:=I.y5;have Y7:up y [(7,.bool true),(6,.tuple #[.bool true,e.1,e.2.1])] 7 = .bool true:=rfl;generalize up y [(7,.bool true),(6,.tuple #[.bool true,e.1,e.2.1])]=Y at *;rw [ed] at en;rw [pas188];refine vM (condWT ((fV (by decide) _).trans Y7) ?_);have cE:codeA prog CK (al f188 [1,0,0,1,1,0,0]) (aT 14 Y) gS=some (.normal,aT 14 (up Y [(3,ptr gS.next 0),(8,.tuple #[kV d,e.2.1]),(9,kV d)]),g2):=by rw [qW];unfold je;simp -implicitDefEqProofs only [Y5,en,gZ,z1,t2,af,aj]
  refine skipWW (zw (vR cE ?_));obtain ⟨c1,c2,c3,c4,c5⟩:=ca188;have Z0:up Y [(3,ptr gS.next 0),(8,.tuple #[kV d,e.2.1]),(9,kV d)] 0 = .func (.yield L) #[] #[]:=Y0;have Z3:up Y [(3,ptr gS.next 0),(8,.tuple #[kV d,e.2.1]),(9,kV d)] 3=ptr gS.next 0:=rfl;have cA:codeA prog CK (ln (al f188 [1,0,0,1,1,0,1,0]) 0 2) (aT 14 (up Y [(3,ptr gS.next 0),(8,.tuple #[kV d,e.2.1]),(9,kV d)])) g2=some (.normal,aT 14 (up (up Y [(3,ptr gS.next 0),(8,.tuple #[kV d,e.2.1]),(9,kV d)]) [(10,.func (.yield L) #[] #[]),(11,kV d)]),g2):=by rw [cu188a,Z0,Z3];simp -implicitDefEqProofs only [l3,af]
  refine vM (mH c1 c2 c3 c4 c5 cA ?_);rw [show ev (aT 14 (up (up Y [(3,ptr gS.next 0),(8,.tuple #[kV d,e.2.1]),(9,kV d)]) [(10,.func (.yield L) #[] #[]),(11,kV d)])) (.tmp 10) = .func (.yield L) #[] #[] from (fV (by decide) _).trans rfl];rw [show [Operand.tmp 11].map (ev (aT 14 (up (up Y [(3,ptr gS.next 0),(8,.tuple #[kV d,e.2.1]),(9,kV d)]) [(10,.func (.yield L) #[] #[]),(11,kV d)]))) = [kV d] from E2 (fun z => [z]) ((fV (by decide) _).trans rfl)];refine CK_w (CK_yield (by rw [O2.n0];exact hG) er3) ?_;rw [jV];refine Dh ((cu188b CK _ _).trans rfl) ?_;refine Cw ((fV (by decide) _).trans rfl) ?_;have I2:pF g2 g.next mb ck (done.map (·.2.2) ++ [e.2.2]):=aw.obj K2 iS (fun q=>q);have neI : ∀ {c:Nat} {k:eW},g2.get c=some k->g.next≠c:=fun hg q=>by have h2:g2.getB g.next=some (.obj (.iter ..)):=I2;rw [q,g2.aO hg] at h2;cases h2
  have I3:pF g3 g.next mb ck ((done ++ [e]).map (·.2.2)):=by
   rw [EV];refine aw.obj k3 I2 (fun q => ?_);rcases q with q|q|⟨_,q⟩
   ·have h1:g2.getB L=some (.obj (.loop ..)):=lS.keep K2 (fun q=>q);have h2:g2.getB g.next=some (.obj (.iter ..)):=I2;rw [<-q,h2] at h1;cases h1
   ·exact neI a2.box q
   ·exact neI q rfl
  exact ⟨_,rfl,sv',ds ++ [d],Y0,Y5,O2.also k3 (fun c hc q=>by
   rcases q with q|q|⟨q,_⟩
   ·have:=I.L;omega
   ·have:=I.a.hB;omega
   ·have:=a2.own.base q;omega),I3,lp3,I.ib,I.L,a3,by rw [EV,EV,I.k,ES,HH,ed];rfl⟩
 ·rintro done y g' hp ⟨sv,ds,I⟩;rw [pas188];refine vM (Cw ((fV (by decide) _).trans rfl) ?_);exact ⟨rfl,sv,ds,I.O,I.lp,I.a,by rw [<-I.k];exact hp.map _⟩
end
section
attribute [local congr] aC
def KS (L:List (List Nat)):Prop:=L.Pairwise fun a b=>nP a b<0
def KS.uniq {A B:List (List Nat)} (ha:KS A) (hb:KS B) (h:A.Perm B):A=B:=
 h.eq_of_pairwise (fun a b _ _ h1 h2=>absurd h2 (by unfold nP at *;rw [cb_neg] at h2;omega)) ha hb
def cmpD_eq {a b:List Nat} (wa:eE a) (wb:eE b) (h:nP a b=0):a=b:=Bx wa.2 wb.2 (cb_eq _ _ h)
def cmpD_neg (a b:List Nat):nP b a = - nP a b:=cb_neg _ _
def KS.of {L:List (List Nat)} (h:L.Pairwise fun a b => ¬nP b a<0) (d:L.Nodup) (v : ∀ x∈L,eE x):KS L:=by unfold KS;have:=List.Pairwise.and h d;refine List.Pairwise.imp_of_mem (R:=fun a b => ¬nP b a<0/\a≠b) (fun {a b} ha hb hh => ?_) this;have h2:=cmpD_neg a b;have h3:nP a b≠0:=fun e=>hh.2 (cmpD_eq (v a ha) (v b hb) e);omega
def leD (a b:List Nat):Bool := !decide (nP b a<0)
def cO (L:List (List Nat)):List (List Nat):=L.mergeSort leD
def cQ (L:List (List Nat)):(cO L).Perm L:=List.mergeSort_perm L leD
def xI {L:List (List Nat)} (d:L.Nodup) (v : ∀ x∈L,eE x):KS (cO L):=by
 have hp:=cQ L;refine KS.of ?_ (hp.nodup_iff.2 d) (fun r hr=>v r (hp.mem_iff.1 hr));have h:=List.pairwise_mergeSort (le:=leD) ?_ ?_ L
 ·refine List.Pairwise.imp (fun {a b} hh => ?_) h;unfold leD at hh;simpa using hh
 ·intro a b c h1 h2;unfold leD at *;simp only [FU,FM] at *;exact uM _ _ _ h2 h1
 ·intro a b;unfold leD;have:=cmpD_neg a b;simp only [FF,FU,FM];omega
def sortD_uniq {A L:List (List Nat)} (d:L.Nodup) (v : ∀ x∈L,eE x) (hp:A.Perm L) (h:A.Pairwise fun a b => ¬nP b a<0):A=cO L:=
 KS.uniq (KS.of h (hp.nodup_iff.2 d) fun r hr=>v r (hp.mem_iff.1 hr)) (xI d v) (hp.trans (cQ L).symm)
def sortD_congr {A L:List (List Nat)} (d:L.Nodup) (v : ∀ x∈L,eE x) (hp:A.Perm L):cO A=cO L:=
 KS.uniq (xI (hp.nodup_iff.2 d) fun r hr=>v r (hp.mem_iff.1 hr)) (xI d v) (((cQ A).trans hp).trans (cQ L).symm)
def kV_inj {a b:List Nat} (h:kV a=kV b):a=b:=by
 have h1:(bA a).toArray=(bA b).toArray:=by injection h
 have h2:=E2 Array.toList h1;exact uj h2
def wJ (f:Nat):Prop:=f=186\/f=188
def w_keys {f:Nat} (hf:wJ f) {n:Nat} {h0 g:ae} {L B q mb ck:Nat} {es:List (Vl×Vl×Nat)} {x0:Nat->Vl} (x2:x0 2=ptr B 0) (hG:3<=h0.n0) (m:qS h0 mb es ck) (hk:rp es) (hl:es.length<=1000000) (hq:h0.get q=some [.map (some mb)]) (O:aM h0 g) (lp:u4 g L (aT 13 x0) [7] aB bB) (hL:h0.next<=L) (a:AD g h0.next B (.slice none 0 0) [])
  {K:Vl->ae->Prop} (hK : ∀ g' sv ds,aM h0 g'->u4 g' L (aT 13 x0) [7] aB bB->AD g' h0.next B sv ds->(ds.map kV).Perm (es.map (·.1))->K (.tuple #[]) g'):WW prog CK (n+1) f [.func (.yield L) #[] #[],ptr q 0] g K:=by
 have hg:prog.globals.size<=g.n0:=by rw [cX,O.n0];exact hG
 rcases hf with rfl|rfl
 ·exact .inr (.inl ⟨_,is186,hg,w186 x2 hG m hk hl hq O lp hL a hK⟩)
 ·exact .inr (.inl ⟨_,is188,hg,w188 x2 hG m hk hl hq O lp hL a hK⟩)
def is212:bJ prog 212 f212 := .of (by kernel_rfl)
def bod212:f212.body=some (al f212 []):=by kernel_rfl
def env212 (a b:Vl):([a,b]++List.replicate (f212.ntmps - [a,b].length) undef:aQ)=aT 13 (bs [a,b]):=by kernel_rfl
def res212:f212.results.toList = [.tmp 4]:=by kernel_rfl
def par212:al f212 [] = .seq (al f212 [0]) (.seq (.seq (al f212 [1,0,0]) (.block 0 (.rangeFunc (.tmp 6) #[7] aB bB))) (al f212 [1,1])):=by kernel_rfl
def body_keys {f:Nat} (hf:wJ f):hasBody prog f=true:=by
 rcases hf with rfl|rfl
 ·kernel_rfl
 ·kernel_rfl
def rangeWW {P:Program} {C:ah} {W:dU} {g:Operand} {ps:Array Tmp} {a b:Code} {e:aQ} {h:ae} {K:Ex->aQ->ae->Prop} {i:FuncId} {first captured:Array Vl} (he:ev e g = .func (.func i) first captured) (hb:hasBody P i=true)
  (k:W i (first.toList ++ [.func (.yield h.next) #[] #[]]++captured.toList) (h.bj (.obj (.loop .ready none e ps.toList a b))) fun _ h2 => ∃ x e' h',endLoopA h.next e h2=some (x,e',h')/\K x e' h'):codeW P C W (.rangeFunc g ps a b) e h K:=by
 simp only [codeW,he];exact ⟨hb,k⟩
def w212 {f:Nat} (hf:wJ f) {n:Nat} {h:ae} {q mb ck:Nat} {es:List (Vl×Vl×Nat)} (hG:3<=h.n0) (m:qS h mb es ck) (hk:rp es) (hl:es.length<=1000000) (hq:h.get q=some [.map (some mb)])
  {K:Vl->ae->Prop} (hK : ∀ g sv ds B,aM h g->AD g h.next B sv ds->(ds.map kV).Perm (es.map (·.1))->K sv g):WW prog CK (n+2) 212 [.slice none 0 0,.func (.func f) #[] #[ptr q 0]] h K:=by
 refine .inr (.inl ⟨_,is212,by rw [cX];exact hG,?_⟩);unfold bodyW;rw [bod212];simp only;rw [env212,par212];have b1:box (.slice none 0 0) h=some (ptr h.next 0,h.alloc [.slice none 0 0]):=iL h [.slice none 0 0] rfl;have cA:codeA prog CK (al f212 [0]) (aT 13 (bs [.slice none 0 0,.func (.func f) #[] #[ptr q 0]])) h=some (.normal,aT 13 (up (bs [.slice none 0 0,.func (.func f) #[] #[ptr q 0]]) [(2,ptr h.next 0),(4,.slice none 0 0)]),h.alloc [.slice none 0 0]):=by rw [zO];unfold rM;simp -implicitDefEqProofs only [show bs [Value.slice none 0 0,.func (.func f) #[] #[ptr q 0]] 0 = .slice none 0 0 from rfl,b1,af]
 have o1:aM h (h.alloc [.slice none 0 0]):=aw.alloc _ _ _;have g1:(h.alloc [.slice none 0 0]).get h.next=some [.slice none 0 0]:=by rw [ae.aX,DR rfl]
 have n1:(h.alloc [.slice none 0 0]).next=h.next+1:=rfl;refine vR cA ?_;generalize h.alloc [.slice none 0 0]=h1 at *;have X1:up (bs [.slice none 0 0,.func (.func f) #[] #[ptr q 0]]) [(2,ptr h.next 0),(4,.slice none 0 0)] 1 = .func (.func f) #[] #[ptr q 0]:=rfl;have X2:up (bs [.slice none 0 0,.func (.func f) #[] #[ptr q 0]]) [(2,ptr h.next 0),(4,.slice none 0 0)] 2=ptr h.next 0:=rfl;generalize up (bs [.slice none 0 0,.func (.func f) #[] #[ptr q 0]]) [(2,ptr h.next 0),(4,.slice none 0 0)]=X at *;have cB:codeA prog CK (al f212 [1,0,0]) (aT 13 X) h1=some (.normal,aT 13 (up X [(6,.func (.func f) #[] #[ptr q 0])]),h1):=by rw [vG];unfold nZ;simp -implicitDefEqProofs only [X1,af]
 have Y2:up X [(6,.func (.func f) #[] #[ptr q 0])] 2=ptr h.next 0:=X2;refine vM (vR cB (zw (rangeWW (i:=f) (first := #[]) (captured := #[ptr q 0]) ((fV (by decide) _).trans rfl) (body_keys hf) ?_)));have oL:aM h1 (h1.bj (.obj (.loop .ready none (aT 13 (up X [(6,.func (.func f) #[] #[ptr q 0])])) [7] aB bB))):=aw.allocO _ _ _;refine w_keys hf (h0:=h) Y2 hG m hk hl hq (o1.trans oL) (u4.new _ _ _ _ _) o1.next ⟨aM.get oL g1,DO _,cF.nil _ _ _,(fun x hx=>by cases hx),fun _=>rfl⟩ ?_;intro g' sv ds O' lp' a' hp;obtain ⟨g2,e2,k2,n2⟩:=lp'.fin (e0:=aT 13 (up X [(6,.func (.func f) #[] #[ptr q 0])]));have neL : ∀ {c:Nat} {k:eW},g'.get c=some k->c≠h1.next:=fun hg z=>by have h2:g'.getB h1.next=some (.obj (.loop ..)):=lp';rw [<-z,g'.aO hg] at h2;cases h2
 have a2:AD g2 h.next h.next sv ds:=⟨k2.getE a'.box (neL a'.box),a'.hB,by
   obtain ⟨h1,h2,h3,h4⟩:=a'.own;refine ⟨h1,h2,h3,?_⟩;rcases h4 with h4|⟨b,s,e,h5,h6|⟨h6,h7⟩⟩
   ·exact .inl h4
   ·exact .inr ⟨b,s,e,h5,.inl h6⟩
   ·exact .inr ⟨b,s,e,h5,.inr ⟨h6,k2.getE h7 (neL h7)⟩⟩,a'.d,a'.z⟩
 refine ⟨.normal,_,g2,e2,?_⟩;have hcell:cw sv=false:=(iu a2.sl).1;have l2:ld1 (ptr h.next 0) g2=some (sv,g2):=aP a2.box rfl hcell;have cC:codeA prog CK (al f212 [1,1]) (aT 13 (up X [(6,.func (.func f) #[] #[ptr q 0])])) g2=some (.ret,aT 13 (up (up X [(6,.func (.func f) #[] #[ptr q 0])]) [(4,sv),(12,sv)]),g2):=by rw [yR];unfold pg;simp -implicitDefEqProofs only [Y2,l2,af]
 refine Dh cC ⟨sv,g2,?_,?_⟩
 ·rw [pW res212 (by decide)];rfl
 ·exact hK g2 sv ds h.next (O'.also k2 (fun c hc z=>by have:=o1.next;omega)) a2 hp
end
end
end Go.Proofs.YtdhpgacmgebjdaaGreatDoor.W
namespace Go.Proofs.YtdhpgacmgebjdaaGreatDoor.W
open Go Go.Abs Tryz
noncomputable section
section
variable (C:ah) (x:Nat->Vl) (x0 x1 x2 x3 x4 x5:Vl) (h:ae)
def xX (C:ah) (x:Nat->Vl) (h:ae):Option (Ex×aQ×ae):=
 aa (some ((.slice none 0 0),h)) fun a h=>
 some (.normal,(aT 12 (up x [(4,a)])),h)
def nQ (C:ah) (x:Nat->Vl) (h:ae):Option (Ex×aQ×ae):=
 aa (some ((x 5),h)) fun a h=>
 aa (some ((x 1),h)) fun b h=>
 aa (C 185 [a,b] h) fun c h=>
 some (.normal,(aT 12 (up x [(8,a),(9,b),(10,c)])),h)
def re (C:ah) (x:Nat->Vl) (h:ae):Option (Ex×aQ×ae):=
 aa (some ((x 5),h)) fun a h=>
 aa (some (a,h)) fun b h=>
 some (.normal,(aT 12 (up x [(4,b),(11,a)])),h)
def Ad:codeA prog C (al f125 [0]) (aT 12 x) h=xX C x h:=
 aF (T:=xX C) (fun x h=>by kernel_rfl) x h
def vF:codeA prog C (al f125 [1,1,0]) (aT 12 x) h=nQ C x h:=
 aF (T:=nQ C) (fun x h=>by kernel_rfl) x h
def uq:codeA prog C (al f125 [1,1,1,0]) (aT 12 x) h=re C x h:=
 aF (T:=re C) (fun x h=>by kernel_rfl) x h
def yi (C:ah) (x:Nat->Vl) (h:ae):Option (Ex×aQ×ae):=
 aa (some ((.slice none 0 0),h)) fun a h=>
 some (.normal,(aT 5 (up x [(2,a)])),h)
def Au:codeA prog C (al f184 [0]) (aT 5 x) h=yi C x h:=
 aF (T:=yi C) (fun x h=>by kernel_rfl) x h
def t64p64_0 (C:ah) (x:Nat->Vl) (h:ae):Option (Ex×aQ×ae):=
 aa (some ((.slice none 0 0),h)) fun a h=>
 some (.normal,(aT 6 (up x [(2,a)])),h)
def t64p64_0_eq:codeA prog C (al f64 [0]) (aT 6 x) h=t64p64_0 C x h:=
 aF (T:=t64p64_0 C) (fun x h=>by kernel_rfl) x h
def t80p80_0 (C:ah) (x:Nat->Vl) (h:ae):Option (Ex×aQ×ae):=
 aa (some ((.slice none 0 0),h)) fun a h=>
 some (.normal,(aT 6 (up x [(2,a)])),h)
def t80p80_0_eq:codeA prog C (al f80 [0]) (aT 6 x) h=t80p80_0 C x h:=
 aF (T:=t80p80_0 C) (fun x h=>by kernel_rfl) x h
end
end
end Go.Proofs.YtdhpgacmgebjdaaGreatDoor.W
namespace Go.Proofs.YtdhpgacmgebjdaaGreatDoor.W
open Go Go.Abs Tryz R
noncomputable section
section
attribute [local congr] aC
def is184:bJ prog 184 f184 := .of (by kernel_rfl)
def bod184:f184.body=some (al f184 []):=by kernel_rfl
def env184 (a:Vl):([a]++List.replicate (f184.ntmps - [a].length) undef:aQ)=aT 5 (bs [a]):=by kernel_rfl
def res184:f184.results.toList = [.tmp 2]:=by kernel_rfl
def par184:al f184 [] = .seq (al f184 [0]) (.seq (al f184 [1,0]) .ret):=by kernel_rfl
def ca184:zu (al f184 [1,0])=true/\(tS (al f184 [1,0])).length=3/\(tS (al f184 [1,0]))[1]? = some (gC f184 [1,0] 1)/\calleeOf (gC f184 [1,0] 1)=some (.func 212,[.const (.slice none 0 0),.tmp 3])/\(gC f184 [1,0] 1).dst=some 4:=⟨by kernel_rfl,by kernel_rfl,by kernel_rfl,by kernel_rfl,by kernel_rfl⟩
def cu184a (C:ah) (x:Nat->Vl) (h:ae):codeA prog C (ln (al f184 [1,0]) 0 1) (aT 5 x) h=aa (some (x 0,h)) fun y3 h=>some (.normal,aT 5 (up x [(3,y3)]),h):=
 aF (T:=fun x h=>aa (some (x 0,h)) fun y3 h=>some (.normal,aT 5 (up x [(3,y3)]),h)) (fun x h=>by kernel_rfl) x h
def cu184b (C:ah) (x:Nat->Vl) (h:ae):codeA prog C (ln (al f184 [1,0]) 2 3) (aT 5 x) h=aa (some (x 4,h)) fun y2 h=>some (.normal,aT 5 (up x [(2,y2)]),h):=
 aF (T:=fun x h=>aa (some (x 4,h)) fun y2 h=>some (.normal,aT 5 (up x [(2,y2)]),h)) (fun x h=>by kernel_rfl) x h
def v8 {f:Nat} (h:f<=256):f<prog.funcs.size:=by have:=fs_256;generalize prog.funcs.size=n at *;omega
def retWW {P:Program} {C:ah} {W:dU} {e:aQ} {h:ae} {K:Ex->aQ->ae->Prop} (k:K .ret e h):codeW P C W .ret e h K:=k
def w184 {f:Nat} (hf:wJ f) {n:Nat} {h:ae} {q mb ck:Nat} {es:List (Vl×Vl×Nat)} (hG:3<=h.n0) (m:qS h mb es ck) (hk:rp es) (hl:es.length<=1000000) (hq:h.get q=some [.map (some mb)])
  {K:Vl->ae->Prop} (hK : ∀ g sv ds B,aM h g->AD g h.next B sv ds->(ds.map kV).Perm (es.map (·.1))->K sv g):WW prog CK (n+3) 184 [.func (.func f) #[] #[ptr q 0]] h K:=by
 refine .inr (.inl ⟨_,is184,by rw [cX];exact hG,?_⟩);unfold bodyW;rw [bod184];simp only;rw [env184,par184];have cA:codeA prog CK (al f184 [0]) (aT 5 (bs [.func (.func f) #[] #[ptr q 0]])) h=some (.normal,aT 5 (up (bs [.func (.func f) #[] #[ptr q 0]]) [(2,.slice none 0 0)]),h):=Au CK _ _;refine vR cA ?_;have X0:up (bs [.func (.func f) #[] #[ptr q 0]]) [(2,.slice none 0 0)] 0 = .func (.func f) #[] #[ptr q 0]:=rfl;generalize up (bs [.func (.func f) #[] #[ptr q 0]]) [(2,.slice none 0 0)]=X at *;have cB:codeA prog CK (ln (al f184 [1,0]) 0 1) (aT 5 X) h=some (.normal,aT 5 (up X [(3,.func (.func f) #[] #[ptr q 0])]),h):=by rw [cu184a,X0];rfl
 obtain ⟨c1,c2,c3,c4,c5⟩:=ca184;refine vM (mH c1 c2 c3 c4 c5 cB ?_);rw [show [Operand.const (.slice none 0 0),.tmp 3].map (ev (aT 5 (up X [(3,.func (.func f) #[] #[ptr q 0])]))) = [.slice none 0 0,.func (.func f) #[] #[ptr q 0]] from E2 (fun z => [Value.slice none 0 0,z]) ((fV (by decide) _).trans rfl)];refine ⟨v8 (by decide),w212 hf (n:=n) hG m hk hl hq ?_⟩;intro g sv ds B O a hp;rw [jV];refine Dh (cu184b CK _ _) ?_;refine retWW ⟨sv,g,?_,hK g sv ds B O a hp⟩;rw [pW res184 (by decide)];rfl
def is125:bJ prog 125 f125 := .of (by kernel_rfl)
def bod125:f125.body=some (al f125 []):=by kernel_rfl
def env125 (a b:Vl):([a,b]++List.replicate (f125.ntmps - [a,b].length) undef:aQ)=aT 12 (bs [a,b]):=by kernel_rfl
def res125:f125.results.toList = [.tmp 4]:=by kernel_rfl
def par125:al f125 [] = .seq (al f125 [0]) (.seq (al f125 [1,0]) (.seq (al f125 [1,1,0]) (.seq (al f125 [1,1,1,0]) .ret))):=by kernel_rfl
def ca125:zu (al f125 [1,0])=true/\(tS (al f125 [1,0])).length=3/\(tS (al f125 [1,0]))[1]? = some (gC f125 [1,0] 1)/\calleeOf (gC f125 [1,0] 1)=some (.func 184,[.tmp 6])/\(gC f125 [1,0] 1).dst=some 7:=⟨by kernel_rfl,by kernel_rfl,by kernel_rfl,by kernel_rfl,by kernel_rfl⟩
def cu125a (C:ah) (x:Nat->Vl) (h:ae):codeA prog C (ln (al f125 [1,0]) 0 1) (aT 12 x) h=aa (some (x 0,h)) fun y6 h=>some (.normal,aT 12 (up x [(6,y6)]),h):=
 aF (T:=fun x h=>aa (some (x 0,h)) fun y6 h=>some (.normal,aT 12 (up x [(6,y6)]),h)) (fun x h=>by kernel_rfl) x h
def cu125b (C:ah) (x:Nat->Vl) (h:ae):codeA prog C (ln (al f125 [1,0]) 2 3) (aT 12 x) h=aa (some (x 7,h)) fun y5 h=>some (.normal,aT 12 (up x [(5,y5)]),h):=
 aF (T:=fun x h=>aa (some (x 7,h)) fun y5 h=>some (.normal,aT 12 (up x [(5,y5)]),h)) (fun x h=>by kernel_rfl) x h
def vE (g:ae) (N:Nat) (v:Vl) (L:List (List Nat)):Prop:=(L = []/\v = .slice none 0 0)\/(L ≠ [] /\ ∃ b,N<=b/\v = .slice (some ⟨b,0,some 32⟩) L.length L.length/\g.get b=some (L.flatMap bA))
def list_w {ds:List (List Nat)} (w : ∀ d∈ds,eE d) : ∃ LW:List yz,LW.map (·.1)=ds:=by refine ⟨ds.attach.map fun x=>⟨x.1,w x.1 x.2⟩,?_⟩;rw [GK];exact List.attach_map_subtype_val ds
def na (L:List yz):L.flatMap dH=(L.map (·.1)).flatMap bA:=by
 induction L with
 |nil=>rfl
 |cons x L ih=>rw [E9,ES,E9,ih];rfl
def tF : ∀ {A B:List (List Nat)},(∀ d∈A,eE d)->(∀ d∈B,eE d)->A.length=B.length->A.flatMap bA=B.flatMap bA->A=B
 | [],[],_,_,_,_=>rfl
 | [],_::_,_,_,h,_=>by simp at h
 |_::_,[],_,_,h,_=>by simp at h
 |a::A,b::B,ha,hb,hl,h=>by rw [E9,E9] at h;have h1:=bf (ha a EM);have h2:=bf (hb b EM);obtain ⟨e1,e2⟩:=List.append_inj h (by rw [h1,h2]);rw [uj e1,tF (fun d hd=>ha d (EK _ hd)) (fun d hd=>hb d (EK _ hd)) (by simpa using hl) e2]
def sort_call {g:ae} {N B:Nat} {sv:Vl} {ds:List (List Nat)} (a:AD g N B sv ds) (h0:g.n0<=N) (hl:ds.length<=1000000) (nd:ds.Nodup) {cl:Nat} (hc:Dm cl) :
  ∃ g',CK 185 [sv,.func (.func cl) #[] #[]] g=some (.tuple #[],g')/\aw g g' (fun c=>bx sv=some c)/\vE g' N sv (cO ds):=by
 have key : ∀ {r},AM [sv,.func (.func cl) #[] #[]] g=some r->CK 185 [sv,.func (.func cl) #[] #[]] g=some r:=fun e=>xL (by show (if (185:Nat)=185 then AM _ g else none)=_;rw [DR rfl];exact e)
 by_cases hd:ds = []
 ·have hz:=a.z hd;subst hd hz;refine ⟨g,key (by
   unfold AM;rw [DR ⟨cl,hc,rfl⟩]),aw.refl _ _,.inl ⟨by
   have:=(cQ []).length_eq;exact EE.1 this,rfl⟩⟩
 ·obtain ⟨LW,rfl⟩:=list_w a.d;obtain ⟨h1,_,_,h4⟩:=a.own;have hpos:0<(LW.map (·.1)).length:=IG.2 hd;rcases h4 with ⟨_,h4⟩|⟨b,s,rfl,hb,⟨_,h4⟩|⟨rfl,hg⟩⟩
  ·rw [h4] at hpos;exact absurd hpos (GH 0)
  ·rw [h4] at hpos;exact absurd hpos (GH 0)
  ·rw [DY] at hl |-;simp only [DY] at key;have ok:SortOk [.slice (some ⟨b,0,some 32⟩) LW.length LW.length,.func (.func cl) #[] #[]] g b LW cl:=⟨hc,⟨some 32,rfl,.inr ⟨rfl,fun q=>by subst q;exact hd rfl⟩⟩,ED h0 hb,by rw [hg,na],by omega⟩
   have hs : ∃ r,AM [.slice (some ⟨b,0,some 32⟩) LW.length LW.length,.func (.func cl) #[] #[]] g=some r:=by
    unfold AM;rw [DU (by rintro ⟨cl',_,e⟩;simp only [H5,Value.slice.injEq] at e;exact absurd e.1.1 (by simp)),dif_pos ⟨b,LW,cl,ok⟩]
    exact ⟨_,rfl⟩
   obtain ⟨r,hr⟩:=hs;rcases qs hr with ⟨cl',_,e,_⟩|⟨b',L',cl',⟨_,⟨s',ea,_⟩,_,hg',_⟩,e2⟩
   ·simp only [H5,Value.slice.injEq] at e;exact absurd e.1.1 (by simp)
   ·simp only [H5,Value.slice.injEq,DH,Addr.mk.injEq,true_and,and_true] at ea;obtain ⟨⟨⟨rfl,_⟩,elen,_⟩,_⟩:=ea;have w1 : ∀ (L:List yz),∀ d∈L.map (·.1),eE d:=fun L d hd=>by obtain ⟨x,_,rfl⟩:=EL.1 hd;exact x.2
    have eL:L'.map (·.1)=LW.map (·.1):=by rw [hg,na] at hg';exact (tF (w1 _) (w1 _) (by rw [DY,DY];omega) (by simpa using hg')).symm
    have hsrt:(uT L').map (·.1)=cO (LW.map (·.1)):=by obtain ⟨p1,p2,p3⟩:=yg L';refine sortD_uniq nd (w1 _) (by rw [<-eL];exact p1.map _) ?_;rw [List.pairwise_iff_getElem];intro i j hi hj hij;rw [DY] at hi hj;have:=p3 i j hij (by omega);rw [IK _ j hj,IK _ i hi] at this;simpa using this
    subst e2;have hn:=ED h0 hb;refine ⟨_,key hr,(aw.set hn hg (.inr rfl)).mono (fun c _ q=>by rw [q];rfl),.inr ⟨fun q => ?_,b,hb,?_,?_⟩⟩
    ·have:=(cQ (LW.map (·.1))).length_eq;rw [q,List.length_nil] at this;omega
    ·rw [(cQ (LW.map (·.1))).length_eq,DY]
    ·show (g.set b _).get b=_;rw [na,hsrt];unfold ae.set;rw [g.wh hn (g.aW hg),DR rfl];rfl
def w125 {f cl:Nat} (hf:wJ f) (hc:Dm cl) {n:Nat} {h:ae} {q mb ck:Nat} {es:List (Vl×Vl×Nat)} (hG:3<=h.n0) (m:qS h mb es ck) (hk:rp es) (hl:es.length<=1000000) (nd:(es.map (·.1)).Nodup) (hq:h.get q=some [.map (some mb)])
  {K:Vl->ae->Prop} (hK : ∀ g sv ds,aM h g->vE g h.next sv (cO ds)->(∀ d∈ds,eE d)->(ds.map kV).Perm (es.map (·.1))->K sv g):WW prog CK (n+4) 125 [.func (.func f) #[] #[ptr q 0],.func (.func cl) #[] #[]] h K:=by
 refine .inr (.inl ⟨_,is125,by rw [cX];exact hG,?_⟩);unfold bodyW;rw [bod125];simp only;rw [env125,par125];have cA:codeA prog CK (al f125 [0]) (aT 12 (bs [.func (.func f) #[] #[ptr q 0],.func (.func cl) #[] #[]])) h=some (.normal,aT 12 (up (bs [.func (.func f) #[] #[ptr q 0],.func (.func cl) #[] #[]]) [(4,.slice none 0 0)]),h):=Ad CK _ _;refine vR cA ?_;have X0:up (bs [.func (.func f) #[] #[ptr q 0],.func (.func cl) #[] #[]]) [(4,.slice none 0 0)] 0 = .func (.func f) #[] #[ptr q 0]:=rfl;have X1:up (bs [.func (.func f) #[] #[ptr q 0],.func (.func cl) #[] #[]]) [(4,.slice none 0 0)] 1 = .func (.func cl) #[] #[]:=rfl;generalize up (bs [.func (.func f) #[] #[ptr q 0],.func (.func cl) #[] #[]]) [(4,.slice none 0 0)]=X at *;have cB:codeA prog CK (ln (al f125 [1,0]) 0 1) (aT 12 X) h=some (.normal,aT 12 (up X [(6,.func (.func f) #[] #[ptr q 0])]),h):=by rw [cu125a,X0];rfl
 obtain ⟨c1,c2,c3,c4,c5⟩:=ca125;refine vM (mH c1 c2 c3 c4 c5 cB ?_);rw [show [Operand.tmp 6].map (ev (aT 12 (up X [(6,.func (.func f) #[] #[ptr q 0])]))) = [.func (.func f) #[] #[ptr q 0]] from E2 (fun z => [z]) ((fV (by decide) _).trans rfl)];refine ⟨v8 (by decide),w184 hf (n:=n) hG m hk hl hq ?_⟩;intro g sv ds B O a hp;rw [jV];refine Dh (cu125b CK _ _) ?_;have ndd:ds.Nodup:=by have h1:=hp.nodup_iff.2 nd;exact I4 kV (fun a b h q=>h (by rw [q])) h1
 have hdl:ds.length<=1000000:=by have:=hp.length_eq;rw [DY,DY] at this;omega
 obtain ⟨g',e',k',S⟩:=sort_call a (by rw [O.n0];exact h.n0_le_next) hdl ndd hc;have cC:codeA prog CK (al f125 [1,1,0]) (aT 12 (up (up (up X [(6,.func (.func f) #[] #[ptr q 0])]) [(7,sv)]) [(5,sv)])) g=some (.normal,aT 12 (up (up (up (up X [(6,.func (.func f) #[] #[ptr q 0])]) [(7,sv)]) [(5,sv)]) [(8,sv),(9,.func (.func cl) #[] #[]),(10,.tuple #[])]),g'):=by rw [vF];unfold nQ;simp -implicitDefEqProofs only [show up (up (up X [(6,.func (.func f) #[] #[ptr q 0])]) [(7,sv)]) [(5,sv)] 5=sv from rfl,show up (up (up X [(6,.func (.func f) #[] #[ptr q 0])]) [(7,sv)]) [(5,sv)] 1=X 1 from rfl,X1,e',af]
 refine vR cC (vR (uq CK _ _) (retWW ⟨sv,g',?_,hK g' sv ds (O.also k' (fun c hc q=>by have:=a.own.base q;omega)) S a.d hp⟩));rw [pW res125 (by decide)];rfl
def is64:bJ prog 64 f64 := .of (by kernel_rfl)
def bod64:f64.body=some (al f64 []):=by kernel_rfl
def env64 (a:Vl):([a]++List.replicate (f64.ntmps - [a].length) undef:aQ)=aT 6 (bs [a]):=by kernel_rfl
def res64:f64.results.toList = [.tmp 2]:=by kernel_rfl
def par64:al f64 [] = .seq (al f64 [0]) (.seq (al f64 [1,0]) .ret):=by kernel_rfl
def ca64:zu (al f64 [1,0])=true/\(tS (al f64 [1,0])).length=4/\(tS (al f64 [1,0]))[2]? = some (gC f64 [1,0] 2)/\calleeOf (gC f64 [1,0] 2)=some (.func 125,[.tmp 4,.func 127])/\(gC f64 [1,0] 2).dst=some 5:=⟨by kernel_rfl,by kernel_rfl,by kernel_rfl,by kernel_rfl,by kernel_rfl⟩
def cu64a (C:ah) (x:Nat->Vl) (h:ae):codeA prog C (ln (al f64 [1,0]) 0 2) (aT 6 x) h=aa (some (x 0,h)) fun y3 h=>aa (C 126 [y3] h) fun y4 h=>some (.normal,aT 6 (up x [(3,y3),(4,y4)]),h):=
 aF (T:=fun x h=>aa (some (x 0,h)) fun y3 h=>aa (C 126 [y3] h) fun y4 h=>some (.normal,aT 6 (up x [(3,y3),(4,y4)]),h)) (fun x h=>by kernel_rfl) x h
def cu64b (C:ah) (x:Nat->Vl) (h:ae):codeA prog C (ln (al f64 [1,0]) 3 4) (aT 6 x) h=aa (some (x 5,h)) fun y2 h=>some (.normal,aT 6 (up x [(2,y2)]),h):=
 aF (T:=fun x h=>aa (some (x 5,h)) fun y2 h=>some (.normal,aT 6 (up x [(2,y2)]),h)) (fun x h=>by kernel_rfl) x h
def is126':bJ prog 126 f126 := .of (by kernel_rfl)
def r126 {h:ae} (hG:3<=h.n0) (o:Option Nat):CK 126 [.map o] h=some (.func (.func 186) #[] #[ptr h.next 0],h.alloc [.map o]):=by refine jy is126' (by rw [cX];exact hG) rfl ((t126_eq _ _ _).trans ?_);have b1:box (.map o) h=some (ptr h.next 0,h.alloc [.map o]):=iL h [.map o] rfl;unfold t126;simp -implicitDefEqProofs only [b1,af]
def w64 {n:Nat} {h:ae} {mb ck:Nat} {es:List (Vl×Vl×Nat)} (hG:3<=h.n0) (m:qS h mb es ck) (hk:rp es) (hl:es.length<=1000000) (nd:(es.map (·.1)).Nodup)
  {K:Vl->ae->Prop} (hK : ∀ g sv ds,aM h g->vE g h.next sv (cO ds)->(∀ d∈ds,eE d)->(ds.map kV).Perm (es.map (·.1))->K sv g):bodyW prog CK (WW prog CK (n+4)) f64 [.map (some mb)] h K:=by
 unfold bodyW;rw [bod64];simp only;rw [env64,par64];have cA:codeA prog CK (al f64 [0]) (aT 6 (bs [.map (some mb)])) h=some (.normal,aT 6 (up (bs [.map (some mb)]) [(2,.slice none 0 0)]),h):=t64p64_0_eq CK _ _;refine vR cA ?_;have X0:up (bs [.map (some mb)]) [(2,.slice none 0 0)] 0 = .map (some mb):=rfl;generalize up (bs [.map (some mb)]) [(2,.slice none 0 0)]=X at *;have o1:aM h (h.alloc [.map (some mb)]):=aw.alloc _ _ _;have g1:(h.alloc [.map (some mb)]).get h.next=some [.map (some mb)]:=by rw [ae.aX,DR rfl]
 have cB:codeA prog CK (ln (al f64 [1,0]) 0 2) (aT 6 X) h=some (.normal,aT 6 (up X [(3,.map (some mb)),(4,.func (.func 186) #[] #[ptr h.next 0])]),h.alloc [.map (some mb)]):=by rw [cu64a,X0];simp -implicitDefEqProofs only [r126 hG,af]
 obtain ⟨c1,c2,c3,c4,c5⟩:=ca64;refine vM (mH c1 c2 c3 c4 c5 cB ?_);generalize h.alloc [.map (some mb)]=h1 at *;rw [show [Operand.tmp 4,.func 127].map (ev (aT 6 (up X [(3,.map (some mb)),(4,.func (.func 186) #[] #[ptr h.next 0])]))) = [.func (.func 186) #[] #[ptr h.next 0],.func (.func 127) #[] #[]] from E2 (fun z => [z,Value.func (.func 127) #[] #[]]) ((fV (by decide) _).trans rfl)];refine ⟨v8 (by decide),w125 (.inl rfl) (.inl rfl) (n:=n) (by rw [o1.n0];exact hG) (m.old o1) hk hl nd g1 ?_⟩;intro g sv ds O S w hp;rw [jV];refine Dh (cu64b CK _ _) ?_;refine retWW ⟨sv,g,?_,hK g sv ds (o1.trans O) ?_ w hp⟩
 ·rw [pW res64 (by decide)];rfl
 ·rcases S with S|⟨h1,b,h2,h3⟩
  ·exact .inl S
  ·exact .inr ⟨h1,b,ED o1.next h2,h3⟩
def is80:bJ prog 80 f80 := .of (by kernel_rfl)
def bod80:f80.body=some (al f80 []):=by kernel_rfl
def env80 (a:Vl):([a]++List.replicate (f80.ntmps - [a].length) undef:aQ)=aT 6 (bs [a]):=by kernel_rfl
def res80:f80.results.toList = [.tmp 2]:=by kernel_rfl
def par80:al f80 [] = .seq (al f80 [0]) (.seq (al f80 [1,0]) .ret):=by kernel_rfl
def ca80:zu (al f80 [1,0])=true/\(tS (al f80 [1,0])).length=4/\(tS (al f80 [1,0]))[2]? = some (gC f80 [1,0] 2)/\calleeOf (gC f80 [1,0] 2)=some (.func 125,[.tmp 4,.func 135])/\(gC f80 [1,0] 2).dst=some 5:=⟨by kernel_rfl,by kernel_rfl,by kernel_rfl,by kernel_rfl,by kernel_rfl⟩
def cu80a (C:ah) (x:Nat->Vl) (h:ae):codeA prog C (ln (al f80 [1,0]) 0 2) (aT 6 x) h=aa (some (x 0,h)) fun y3 h=>aa (C 134 [y3] h) fun y4 h=>some (.normal,aT 6 (up x [(3,y3),(4,y4)]),h):=
 aF (T:=fun x h=>aa (some (x 0,h)) fun y3 h=>aa (C 134 [y3] h) fun y4 h=>some (.normal,aT 6 (up x [(3,y3),(4,y4)]),h)) (fun x h=>by kernel_rfl) x h
def cu80b (C:ah) (x:Nat->Vl) (h:ae):codeA prog C (ln (al f80 [1,0]) 3 4) (aT 6 x) h=aa (some (x 5,h)) fun y2 h=>some (.normal,aT 6 (up x [(2,y2)]),h):=
 aF (T:=fun x h=>aa (some (x 5,h)) fun y2 h=>some (.normal,aT 6 (up x [(2,y2)]),h)) (fun x h=>by kernel_rfl) x h
def is134':bJ prog 134 f134 := .of (by kernel_rfl)
def r134 {h:ae} (hG:3<=h.n0) (o:Option Nat):CK 134 [.map o] h=some (.func (.func 188) #[] #[ptr h.next 0],h.alloc [.map o]):=by refine jy is134' (by rw [cX];exact hG) rfl ((t134_eq _ _ _).trans ?_);have b1:box (.map o) h=some (ptr h.next 0,h.alloc [.map o]):=iL h [.map o] rfl;unfold t134;simp -implicitDefEqProofs only [b1,af]
def w80 {n:Nat} {h:ae} {mb ck:Nat} {es:List (Vl×Vl×Nat)} (hG:3<=h.n0) (m:qS h mb es ck) (hk:rp es) (hl:es.length<=1000000) (nd:(es.map (·.1)).Nodup)
  {K:Vl->ae->Prop} (hK : ∀ g sv ds,aM h g->vE g h.next sv (cO ds)->(∀ d∈ds,eE d)->(ds.map kV).Perm (es.map (·.1))->K sv g):bodyW prog CK (WW prog CK (n+4)) f80 [.map (some mb)] h K:=by
 unfold bodyW;rw [bod80];simp only;rw [env80,par80];have cA:codeA prog CK (al f80 [0]) (aT 6 (bs [.map (some mb)])) h=some (.normal,aT 6 (up (bs [.map (some mb)]) [(2,.slice none 0 0)]),h):=t80p80_0_eq CK _ _;refine vR cA ?_;have X0:up (bs [.map (some mb)]) [(2,.slice none 0 0)] 0 = .map (some mb):=rfl;generalize up (bs [.map (some mb)]) [(2,.slice none 0 0)]=X at *;have o1:aM h (h.alloc [.map (some mb)]):=aw.alloc _ _ _;have g1:(h.alloc [.map (some mb)]).get h.next=some [.map (some mb)]:=by rw [ae.aX,DR rfl]
 have cB:codeA prog CK (ln (al f80 [1,0]) 0 2) (aT 6 X) h=some (.normal,aT 6 (up X [(3,.map (some mb)),(4,.func (.func 188) #[] #[ptr h.next 0])]),h.alloc [.map (some mb)]):=by rw [cu80a,X0];simp -implicitDefEqProofs only [r134 hG,af]
 obtain ⟨c1,c2,c3,c4,c5⟩:=ca80;refine vM (mH c1 c2 c3 c4 c5 cB ?_);generalize h.alloc [.map (some mb)]=h1 at *;rw [show [Operand.tmp 4,.func 135].map (ev (aT 6 (up X [(3,.map (some mb)),(4,.func (.func 188) #[] #[ptr h.next 0])]))) = [.func (.func 188) #[] #[ptr h.next 0],.func (.func 135) #[] #[]] from E2 (fun z => [z,Value.func (.func 135) #[] #[]]) ((fV (by decide) _).trans rfl)];refine ⟨v8 (by decide),w125 (.inr rfl) (.inr rfl) (n:=n) (by rw [o1.n0];exact hG) (m.old o1) hk hl nd g1 ?_⟩;intro g sv ds O S w hp;rw [jV];refine Dh (cu80b CK _ _) ?_;refine retWW ⟨sv,g,?_,hK g sv ds (o1.trans O) ?_ w hp⟩
 ·rw [pW res80 (by decide)];rfl
 ·rcases S with S|⟨h1,b,h2,h3⟩
  ·exact .inl S
  ·exact .inr ⟨h1,b,ED o1.next h2,h3⟩
structure MapS (h:ae) (mb:Nat) (es:List (Vl×Vl×Nat)) (ck:Nat):Prop where
 g:qS h mb es ck
 k:rp es
 l:es.length<=1000000
 nd:(es.map (·.1)).Nodup
def fO (h:ae) (L:List (List Nat)):Vl×ae:=if L = [] then (.slice none 0 0,h) else (.slice (some ⟨h.next,0,some 32⟩) L.length L.length,h.alloc (L.flatMap bA))
open Classical in
def ux (args:List Vl) (h:ae):ba:=
 if x : ∃ mb es ck,∃ ds:List (List Nat),args = [.map (some mb)]/\MapS h mb es ck/\(∀ d∈ds,eE d)/\es.map (·.1)=ds.map kV then some (fO h (cO x.choose_spec.choose_spec.choose_spec.choose)) else none
def qd {args:List Vl} {h:ae} {r:Vl×ae} (e:ux args h=some r) : ∃ mb es ck ds,args = [.map (some mb)]/\MapS h mb es ck/\(∀ d∈ds,eE d)/\es.map (·.1)=ds.map kV/\r=fO h (cO ds):=by
 unfold ux at e;split at e
 ·rename_i x;cases e;obtain ⟨h1,h2,h3,h4⟩:=x.choose_spec.choose_spec.choose_spec.choose_spec;exact ⟨_,_,_,_,h1,h2,h3,h4,rfl⟩
 ·cases e
def map_kV_inj {A B:List (List Nat)} (h:A.map kV=B.map kV):A=B:=by
 induction A generalizing B with
 |nil=>cases B with
  |nil=>rfl
  |cons b B=>simp at h
 |cons a A ih=>cases B with
  |nil=>simp at h
  |cons b B=>
   rw [ES,ES] at h;injection h with h1 h2
   rw [kV_inj h1,ih h2]
def sSrt_eq {h:ae} {mb ck:Nat} {es:List (Vl×Vl×Nat)} {ds:List (List Nat)} (m:MapS h mb es ck) (w : ∀ d∈ds,eE d) (hd:es.map (·.1)=ds.map kV):ux [.map (some mb)] h=some (fO h (cO ds)):=by
 have hx : ∃ mb' es ck,∃ ds:List (List Nat),[Value.map (some mb)] = [.map (some mb')]/\MapS h mb' es ck/\(∀ d∈ds,eE d)/\es.map (·.1)=ds.map kV:=⟨mb,es,ck,ds,rfl,m,w,hd⟩
 have hs : ∃ r,ux [.map (some mb)] h=some r:=by unfold ux;rw [dif_pos hx];exact ⟨_,rfl⟩
 obtain ⟨r,hr⟩:=hs;obtain ⟨mb',es',ck',ds',h1,h2,h3,h4,h5⟩:=qd hr;simp only [H5,Value.map.injEq,DH,and_true] at h1;subst h1;have h6:=h2.g.get;rw [m.g.get] at h6;simp only [DH,BB.obj.injEq,fl.map.injEq] at h6;obtain ⟨rfl,rfl⟩:=h6;rw [hd] at h4;rw [hr,h5,map_kV_inj h4]
def Bv {L:List (List Nat)} (w : ∀ d∈L,eE d):bD (L.flatMap bA)=true:=by obtain ⟨LW,rfl⟩:=list_w w;rw [<-na];exact (kU LW).1
def slice_bd' (n b l:Nat) (s:Option Nat) (h:b<n):bR n (.slice (some ⟨b,0,s⟩) l l)=true:=by cases s<;>simp [bR,h]
def vg {α β:Type} {f:α->β} (hf : ∀ {a b},f a=f b->a=b) : ∀ {A B:List α},(A.map f).Perm (B.map f)->A.Perm B
 | [],B,h=>by have:=h.length_eq;rw [HH,List.length_nil,DY] at this;rw [EE.1 this.symm]
 |a::A,B,h=>by
  have hm:f a∈B.map f:=h.mem_iff.1 (by rw [ES];exact EM);obtain ⟨b,hb,e⟩:=EL.1 hm;obtain rfl:=hf e;obtain ⟨s,t,rfl⟩:=List.append_of_mem hb;have h1:(f b::A.map f).Perm (f b::(s++t).map f):=by refine h.trans ?_;rw [EV,EV,ES];exact List.perm_middle
  exact ((vg hf (List.Perm.cons_inv h1)).cons b).trans List.perm_middle.symm
def cSrt {f:Nat} {fn:Func} (i:bJ prog f fn) (body : ∀ {h:ae} {mb ck:Nat} {es:List (Vl×Vl×Nat)} (_:3<=h.n0) (_:qS h mb es ck) (_:rp es) (_:es.length<=1000000) (_:(es.map (·.1)).Nodup)
  {K:Vl->ae->Prop} (_ : ∀ g sv (ds:List (List Nat)),aM h g->vE g h.next sv (cO ds)->(∀ d∈ds,eE d)->(ds.map kV).Perm (es.map (·.1))->K sv g),bodyW prog CK (WW prog CK 4) fn [.map (some mb)] h K):bq prog f ux:=by
 refine bq.of_bodyW CK_sound (WW_sound CK_sound dZ 4) dZ i ?_ ?_ ?_
 ·intro args h v h' e;obtain ⟨mb,es,ck,ds,_,_,_,_,e⟩:=qd e;unfold fO at e;split at e
  ·cases e;exact bp.refl _
  ·cases e;exact ⟨by rw [ae.eR];omega,rfl,rfl⟩
 ·intro args h v h' e hb hh;obtain ⟨mb,es,ck,ds,_,_,w,_,e⟩:=qd e;unfold fO at e;split at e
  ·cases e;exact ⟨rfl,hh⟩
  ·cases e;have hf:=Bv fun d hd=>w d ((cQ ds).mem_iff.1 hd);exact ⟨slice_bd' _ _ _ _ (by rw [ae.eR];omega),hh.alloc (c9 hf)⟩
 ·intro args h v h' e hba hh hg;obtain ⟨mb,es,ck,ds,rfl,m,w,hd,e⟩:=qd e;refine body (by rw [<-cX];exact hg) m.g m.k m.l m.nd ?_;intro g sv ds' O S w' hp;have hp':ds'.Perm ds:=by rw [hd] at hp;have:=hp.map (fun v=>match v with | .agg a=>a.toList|_ => []);rw [GK,GK] at this;have e2 : ∀ L:List (List Nat),L.map ((fun v=>match v with | .agg a=>a.toList|_ => [])∘kV)=L.map bA:=fun L=>List.map_congr_left fun d _=>rfl;rw [e2,e2] at this;exact vg uj this
  have nd':ds.Nodup:=by have:=m.nd;rw [hd] at this;exact I4 kV (fun a b h q=>h (by rw [q])) this
  have es':cO ds'=cO ds:=sortD_congr nd' w hp';rw [es'] at S;rcases S with ⟨h1,rfl⟩|⟨h1,b,h2,rfl,h3⟩
  ·have e:(v,h')=(Value.slice none 0 0,h):=e.trans (by unfold fO;rw [DR h1]);cases e;exact ⟨id,Gc.none rfl hh fun b k h1 h2=>(O.getB b (h.lt_of_getB h2) (fun h=>h)).trans h2⟩
  ·have e:(v,h')=(Value.slice (some ⟨h.next,0,some 32⟩) (cO ds).length (cO ds).length,h.alloc ((cO ds).flatMap bA)):=e.trans (by unfold fO;rw [DU h1]);cases e;have hf:=Bv fun d hd=>w d ((cQ ds).mem_iff.1 hd);refine ⟨_,Gc.one (B:=b) rfl rfl h2 hh (by simp [fh,xf]) ?_ ?_⟩
   ·rw [lR (n:=0) (fun b hb=>absurd hb (H4 b)) _ (c9 hf)];exact g.aO h3
   ·intro c k hc hk;exact (O.getB c (h.lt_of_getB hk) (fun h=>h)).trans hk
def c64:bq prog 64 ux:=cSrt is64 @fun _ _ _ _ hG m hk hl nd _ hK=>w64 (n:=0) hG m hk hl nd hK
def c80:bq prog 80 ux:=cSrt is80 @fun _ _ _ _ hG m hk hl nd _ hK=>w80 (n:=0) hG m hk hl nd hK
end
def eqA_d {a b:List Nat} (wa:eE a) (wb:eE b):eqA prog 32 (kV a) (kV b)=some (decide (a=b)):=by
 obtain ⟨r,hr,hrun⟩:=dig_run (d:=9998) (bO wa) (bO wb);have hr':r=decide (a=b):=by
  by_cases e:a=b
  ·rw [DS e,hr.2 (by rw [e])]
  ·rw [DP e];cases r with
   |false=>rfl
   |true=>exact absurd (uj (hr.1 rfl)) e
 rw [<-hr'];unfold eqA;rw [DR (by rw [kK (bO wa).all.2.2,kK (bO wb).all.2.2];rfl)];exact hrun
def agg5:sO prog 5=some false:=by kernel_rfl
def key_ok {d:List Nat} (w:eE d):(keyOk prog 10000 32 (kV d)&&ground (kV d))=true:=by
 rw [show ground (kV d)=true from kK (bO w).all.2.2,EY];have l1:=bf w;have h5 : ∀ (n:Nat) (v:Vl),keyOk prog (n+1) 5 v=true:=fun n v=>by unfold keyOk;simp only [Tryz.underlying5]
 unfold keyOk;simp only [Tryz.underlying32,size1];rw [DX];intro i hi;have hi:i<32:=by simpa using hi
 unfold po;simp only [agg5,size1,FQ];rw [IU,DL (by omega)];exact h5 _ _
def key_bits {d:List Nat}:Instr.sameBits 10000 (kV d) (kV d)=true:=by
 show ((bA d).toArray.size==(bA d).toArray.size&&((bA d).zip (bA d)).all fun (x,y)=>Instr.sameBits 9999 x y)=true;rw [D6,E3,DX];rintro ⟨x,y⟩ hm;have hxy:x=y/\x∈bA d:=by obtain ⟨i,hi⟩:=HJ.1 hm;rw [HN] at hi;have h1:=hi.1;have h2:=hi.2;simp only at h1 h2;rw [h1] at h2;cases h2;exact ⟨rfl,EC h1⟩
 obtain ⟨rfl,hx⟩:=hxy;obtain ⟨n,_,rfl⟩:=EL.1 hx;show Instr.sameBits 9999 (u8 n) (u8 n)=true;simp [u8,Instr.sameBits]
abbrev DM (α:Type):=List (List Nat×α)
def DM.get {α:Type} (M:DM α) (k:List Nat):Option α:=(M.find? fun p=>decide (k=p.1)).map (·.2)
def DM.ix {α:Type}:DM α->List Nat->Option Nat
 | [],_=>none
 |p::M,k=>if k=p.1 then some 0 else (DM.ix M k).map (· + 1)
def DM.put {α:Type} (M:DM α) (k:List Nat) (a:α):DM α:=match M.ix k with|some i=>M.set i (k,a)|none=>M ++ [(k,a)]
def DM.del {α:Type} (M:DM α) (k:List Nat):DM α:=match M.ix k with|some i=>M.eraseIdx i|none=>M
structure fM {α:Type} (V:α->Vl) (h:ae) (mb:Nat) (M:DM α):Prop where
 ex : ∃ es ck,qS h mb es ck/\es.map (fun e=>(e.1,e.2.1))=M.map fun p=>(kV p.1,V p.2)
 w : ∀ p∈M,eE p.1
 nd:(M.map (·.1)).Nodup
def DM.nS {α:Type} {k:List Nat} : ∀ {M:DM α} {i:Nat},M.ix k=some i -> ∃ hi:i<M.length,k=M[i].1/\M.get k=some M[i].2
 | [],i,h=>by cases h
 |p::M,i,h=>by
  unfold DM.ix at h;by_cases e:k=p.1
  ·rw [DR e] at h;cases h;exact ⟨by simp,e,by unfold DM.get;rw [IQ (by simpa using e)];rfl⟩
  ·rw [DU e] at h;cases hq:DM.ix M k with
   |none=>rw [hq] at h;cases h
   |some j=>
    rw [hq] at h;cases h;obtain ⟨hj,h1,h2⟩:=DM.nS hq;refine ⟨by simpa using hj,by simpa using h1,?_⟩;unfold DM.get at h2 |-;rw [HC (by simpa using e),h2];simp
def DM.CH {α:Type} {k:List Nat} : ∀ {M:DM α},M.ix k=none->M.get k=none
 | [],_=>rfl
 |p::M,h=>by
  unfold DM.ix at h;by_cases e:k=p.1
  ·rw [DR e] at h;cases h
  ·rw [DU e] at h;have h2:DM.ix M k=none:=by
    cases hq:DM.ix M k with
    |none=>rfl
    |some j=>rw [hq] at h;cases h
   unfold DM.get;rw [HC (by simpa using e)];exact DM.CH h2
def vV {α:Type} {V:α->Vl} {k:List Nat} (w:eE k) : ∀ (es:List (Vl×Vl×Nat)) (M:DM α) (j:Nat),(∀ p∈M,eE p.1)->es.map (fun e=>(e.1,e.2.1))=M.map (fun p=>(kV p.1,V p.2)) ->
  findA prog 32 (kV k) es j=some (match M.ix k with|some i=>(M[i]?).map fun p=>(j+i,V p.2)|none=>none)
 | [],[],_,_,_=>rfl
 | [],_::_,_,_,h=>by simp at h
 |_::_,[],_,_,h=>by simp at h
 |e::es,p::M,j,hw,h=>by
  rw [ES,ES] at h;injection h with h1 h2
  have h1a:e.1=kV p.1:=E2 Prod.fst h1;have h1b:e.2.1=V p.2:=E2 Prod.snd h1;obtain ⟨a,b,c⟩:=e;simp only at h1a h1b;subst h1a h1b;unfold findA DM.ix;rw [eqA_d w (hw p EM)];by_cases e:k=p.1
  ·rw [DS e,DR e];rfl
  ·rw [DP e,DU e];simp only [DJ,D3];rw [vV w es M (j+1) (fun q hq=>hw q (EK _ hq)) h2];cases DM.ix M k with
   |none=>rfl
   |some i=>
    simp only [Option.map_some,List.getElem?_cons_succ]
    congr 1
    funext
    cases M[i]? with
    |none=>rfl
    |some q=>simp only [Option.map_some];congr 2;omega
def qt {α β:Type} (f:α->β) : ∀ (l:List α) (i:Nat),(l.eraseIdx i).map f=(l.map f).eraseIdx i
 | [],_=>rfl
 |a::l,0=>rfl
 |a::l,i+1=>by simp [qt f l i]
section
variable {α:Type} {V:α->Vl} {h:ae} {mb t vt:Nat} {z:Vl} {M:DM α} {k:List Nat}
def lkD (m:fM V h mb M) (ht:mapT prog t=some (32,vt)) (hz:ja prog vt=some z) (gz:ground z=true) (w:eE k) :
  lookupA prog t (.map (some mb)) (kV k) true h=some (.tuple #[((M.get k).map V).getD z,.bool (M.get k).isSome],h)/\lookupA prog t (.map (some mb)) (kV k) false h=some (((M.get k).map V).getD z,h):=by
 obtain ⟨es,ck,m1,m2⟩:=m.ex;have hf:=vV w es M 0 m.w m2;unfold lookupA entriesA;simp only [ht,m1.get,key_ok w,D8,hf,hz];cases hq:DM.ix M k with
 |none=>
  rw [DM.CH hq];simp only [Option.map_none,gz,D8];exact ⟨rfl,rfl⟩
 |some i=>
  obtain ⟨hi,_,e⟩:=DM.nS hq;rw [e];simp only [DL hi,Option.map_some];exact ⟨rfl,rfl⟩
def Cl {es:List (Vl×Vl×Nat)} {V:α->Vl} {i:Nat} {e:Vl×Vl×Nat} {p:List Nat×α} (h:es.map (fun e=>(e.1,e.2.1))=M.map fun p=>(kV p.1,V p.2)) (he:(e.1,e.2.1)=(kV p.1,V p.2)):(es.set i e).map (fun e=>(e.1,e.2.1))=(M.set i p).map fun p=>(kV p.1,V p.2):=by rw [G8,G8,h,he]
def ix_nodup {k:List Nat} {a:α} : ∀ {M:DM α} (_:(M.map (·.1)).Nodup),((M.put k a).map (·.1)).Nodup:=by
 intro M nd;unfold DM.put;cases hq:M.ix k with
 |some i=>
  obtain ⟨hi,e,_⟩:=DM.nS hq;simp only;rw [G8];have:(M.map (·.1)).set i k=M.map (·.1):=by
   refine FA fun j => ?_;rw [FE];by_cases hj:i=j
   ·subst hj;rw [DR rfl,DR (by rw [DY];exact hi),EG,DL hi,e];rfl
   ·rw [DU hj]
  rw [this];exact nd
 |none=>
  simp only;rw [EV,HP];refine ⟨nd,by simp,fun a ha b hb e => ?_⟩;simp only [ES,HH,EN,EU,GF] at hb;subst hb;subst e;obtain ⟨p,hp,e⟩:=EL.1 ha;have : ∀ (M:DM α),p∈M->M.ix a=none->False:=by
   intro M;induction M with
   |nil=>intro h;cases h
   |cons q M ih=>
    intro h hn;unfold DM.ix at hn;by_cases e2:a=q.1
    ·rw [DR e2] at hn;cases hn
    ·rw [DU e2] at hn;rcases EN.1 h with rfl|h
     ·exact e2 e.symm
     ·exact ih h (by
       cases hh:DM.ix M a with
       |none=>rfl
       |some j=>rw [hh] at hn;cases hn)
  exact this M hp hq
def muD (m:fM V h mb M) (hb:h.n0<=mb) (ht:mapT prog t=some (32,vt)) (w:eE k) (a:α) :
  ∃ g,mapUpdateA prog t (.map (some mb)) (kV k) (V a) h=some (undef,g)/\fM V g mb (M.put k a)/\aw h g (· = mb)/\g.next=h.next:=by
 obtain ⟨es,ck,m1,m2⟩:=m.ex;have hf:=vV w es M 0 m.w m2;have hlen:es.length=M.length:=by
  have:=E2 List.length m2
  rwa [DY,DY] at this
 have wp : ∀ p∈M.put k a,eE p.1:=by
  intro p hp;unfold DM.put at hp;split at hp
  ·rcases F5 hp with h1|rfl
   ·exact m.w p h1
   ·exact w
  ·rcases EF.1 hp with h1|h1
   ·exact m.w p h1
   ·rw [FI.1 h1];exact w
 have fin : ∀ es' ck',(es'.map (·.2.2)).Nodup->(∀ e∈es',e.2.2<ck')->es'.map (fun e=>(e.1,e.2.1))=(M.put k a).map (fun p=>(kV p.1,V p.2)) ->
   ∃ g,some (undef,h.setO mb (.map es' ck'))=some (undef,g)/\fM V g mb (M.put k a)/\aw h g (· = mb)/\g.next=h.next:=fun es' ck' a1 a2 a3=>
  ⟨_,rfl,⟨⟨es',ck',⟨pQ hb m1.get,a1,a2⟩,a3⟩,wp,ix_nodup m.nd⟩,aw.setO m1.get rfl,rfl⟩
 unfold mapUpdateA;simp only [ht,m1.get,key_ok w,D8,hf];cases hq:DM.ix M k with
 |none=>
  simp only;refine fin _ _ ?_ ?_ ?_
  ·rw [EV,HP];refine ⟨m1.nd,by simp,fun a ha b hb e => ?_⟩;simp only [ES,HH,EN,EU,GF] at hb;obtain ⟨q,hq1,hq2⟩:=EL.1 ha;have:=m1.lt q hq1;omega
  ·intro e he;rcases EF.1 he with he|he
   ·have:=m1.lt e he;omega
   ·rw [FI.1 he];exact Nat.lt_succ_self _
  ·unfold DM.put;rw [hq];simp only;rw [EV,EV,m2];rfl
 |some i=>
  obtain ⟨hi,hk,_⟩:=DM.nS hq;have hei:i<es.length:=by omega
  have hkey:(es[i]).1=kV k:=by have:=E2 (fun l=>(l[i]?).map Prod.fst) m2;simp only [EG,DL hei,DL hi,Option.map_some,DH] at this;rw [this,<-hk]
  simp only [DL hi,Option.map_some,DK,DL hei,hkey,key_bits,D8];refine fin _ _ ?_ ?_ ?_
  ·rw [G8];have:(es.map (·.2.2)).set i (es[i]).2.2=es.map (·.2.2):=by
    refine FA fun j => ?_;rw [FE];by_cases hj:i=j
    ·subst hj;rw [DR rfl,DR (by rw [DY];exact hei),EG,DL hei];rfl
    ·rw [DU hj]
   rw [this];exact m1.nd
  ·intro e he;rcases F5 he with h1|rfl
   ·exact m1.lt e h1
   ·exact m1.lt (es[i]) (GV hei)
  ·unfold DM.put;rw [hq];exact Cl m2 rfl
def deD (m:fM V h mb M) (hb:h.n0<=mb) (ht:mapT prog t=some (32,vt)) (w:eE k) :
  ∃ g,deleteA prog t (.map (some mb)) (kV k) h=some (undef,g)/\fM V g mb (M.del k)/\aw h g (· = mb)/\g.next=h.next:=by
 obtain ⟨es,ck,m1,m2⟩:=m.ex;have hf:=vV w es M 0 m.w m2;have hlen:es.length=M.length:=by
  have:=E2 List.length m2
  rwa [DY,DY] at this
 unfold deleteA;simp only [ht,m1.get,key_ok w,D8,hf];cases hq:DM.ix M k with
 |none=>
  simp only;have hd:M.del k=M:=by unfold DM.del;rw [hq]
  rw [hd];exact ⟨_,rfl,⟨⟨es,ck,⟨pQ hb m1.get,m1.nd,m1.lt⟩,m2⟩,m.w,m.nd⟩,aw.setO m1.get rfl,rfl⟩
 |some i=>
  obtain ⟨hi,hk,_⟩:=DM.nS hq;have hd:M.del k=M.eraseIdx i:=by unfold DM.del;rw [hq]
  rw [hd];simp only [DL hi,Option.map_some,DK];have sub:=H6 es i;have sub2:=H6 M i;refine ⟨_,rfl,⟨⟨es.eraseIdx i,ck,⟨pQ hb m1.get,(sub.map _).nodup m1.nd,fun e he=>m1.lt e (sub.mem he)⟩,?_⟩,fun p hp=>m.w p (sub2.mem hp),(sub2.map _).nodup m.nd⟩,aw.setO m1.get rfl,rfl⟩;rw [qt,qt,m2]
def fM.kept (m:fM V h mb M) {g:ae} {B:Nat->Prop} (o:aw h g B) (hB : ¬B mb):fM V g mb M:=by obtain ⟨es,ck,m1,m2⟩:=m.ex;exact ⟨⟨es,ck,⟨aw.obj o m1.get hB,m1.nd,m1.lt⟩,m2⟩,m.w,m.nd⟩
def fM.old (m:fM V h mb M) {g:ae} (o:aM h g):fM V g mb M:=m.kept o (fun q=>q)
def fM.srt (m:fM V h mb M) (hl:M.length<=1000000):ux [.map (some mb)] h=some (fO h (cO (M.map (·.1)))):=by
 obtain ⟨es,ck,m1,m2⟩:=m.ex;have hk:es.map (·.1)=(M.map (·.1)).map kV:=by have:=E2 (List.map Prod.fst) m2;rw [GK,GK] at this;rw [GK];exact this
 have hw : ∀ d∈M.map (·.1),eE d:=fun d hd=>by obtain ⟨p,hp,rfl⟩:=EL.1 hd;exact m.w p hp
 have hlen:es.length=M.length:=by
  have:=E2 List.length m2
  rwa [DY,DY] at this
 refine sSrt_eq ⟨m1,fun e he => ?_,by omega,?_⟩ hw hk
 ·have:e.1∈(M.map (·.1)).map kV:=by rw [<-hk];exact EL.2 ⟨e,he,rfl⟩
  obtain ⟨d,hd,e2⟩:=EL.1 this;exact ⟨d,hw d hd,e2.symm⟩
 ·rw [hk];exact List.pairwise_map.2 (List.Pairwise.imp (fun {a b} hh e=>hh (kV_inj e)) m.nd)
end
def c183:bq prog 183 cloneS:=zl (fn:=f183) (by kernel_rfl) (by kernel_rfl) (by kernel_rfl) (by kernel_rfl) (by kernel_rfl)
abbrev Y1:ah:=jc [(64,ux),(80,ux),(183,cloneS)]
def Y1_sound:aZ prog Y1:=dS _ (by
 intro p hp;simp only [EN,EU,GF] at hp;rcases hp with rfl|rfl|rfl
 ·exact c64
 ·exact c80
 ·exact c183)
abbrev SV:List Nat := [12,13,21,22,24,25,57,61,66,67,68,69,70,72,73,74,76,79,105,110,111,112,113,114,115,122,128,132,168,170]
structure zF (Z:ah):Prop where
 mE:aZ prog Z
 none : ∀ f args h,f≠37->f≠62->Z f args h=none
def zF.nil:zF noC:=⟨mO _,fun _ _ _ _ _=>rfl⟩
abbrev ZX (Z:ah):ah:=over (over Z Y1) (only SV (CC prog XX))
def ZX_sound {Z:ah} (z:zF Z):aZ prog (ZX Z):=wY (wY z.mE Y1_sound) (only_sound (jK dZ XX_sound))
def CV (Z:ah):ah:=CU prog (ZX Z)
def freeF (f:Nat):Bool := !(([37,62,64,80,183]++SV).contains f)
def Y1_none {f:Nat} (h1:f≠64) (h2:f≠80) (h3:f≠183) (args:List Vl) (h:ae):Y1 f args h=none:=by show (if f=64 then ux args h else if f=80 then ux args h else if f=183 then cloneS args h else none)=none;rw [DU h1,DU h2,DU h3]
section
variable {Z:ah} (z:zF Z)
include z
def cY {f:FuncId} {fn:Func} (i:bJ prog f fn) {args:List Vl} {h:ae} {r:Vl×ae} (hf:freeF f=true) (e:aY prog (CV Z) fn args h=some r):CV Z f args h=some r:=by
 refine CU_body i ?_ e;unfold freeF at hf;simp only [FU,List.cons_append,List.nil_append] at hf;have hm:f ∉ [37,62,64,80,183]++SV:=by intro q;rw [<-List.contains_iff_mem] at q;simp only [List.cons_append,List.nil_append] at q;rw [hf] at q;cases q
 simp only [EF,EN,EU,GF,not_or] at hm;obtain ⟨⟨h1,h2,h3,h4,h5⟩,h6⟩:=hm;show over (over Z Y1) (only SV (CC prog XX)) f args h=none;unfold over only;rw [z.none _ _ _ h1 h2,Y1_none h3 h4 h5];simp only;rw [DU];rw [GR];simp only [SV,EN,EU,GF,not_or];exact h6
def jP {f:FuncId} {args:List Vl} {h:ae} {r:Vl×ae} (hG:3<=h.n0) (hS:SV.contains f=true) (e:CD f args h=some r):CV Z f args h=some r:=by
 refine yq ?_;have hm:f∈SV:=GR.1 hS;have h37:f≠37/\f≠62/\f≠64/\f≠80/\f≠183:=by refine ⟨?_,?_,?_,?_,?_⟩<;>rintro rfl<;>exact absurd hS (by decide)
 show over (over Z Y1) (only SV (CC prog XX)) f args h=some r;unfold over only;rw [z.none _ _ _ h37.1 h37.2.1,Y1_none h37.2.2.1 h37.2.2.2.1 h37.2.2.2.2];simp only;rw [DR hS];exact CD_to hG e
def CV_Y1 {f:FuncId} {args:List Vl} {h:ae} {r:Vl×ae} (h1:f≠37) (h2:f≠62) (e:Y1 f args h=some r):CV Z f args h=some r:=by refine yq ?_;show over (over Z Y1) (only SV (CC prog XX)) f args h=some r;unfold over;rw [z.none _ _ _ h1 h2];simp only;rw [e]
def CV_to {f:FuncId} {args:List Vl} {h:ae} {r:Vl×ae} (hG:3<=h.n0) (e:CV Z f args h=some r):CC prog (ZX Z) f args h=some r:=CU_to dZ (ZX_sound z) (by rw [cX];exact hG) e
def rS64 {α:Type} {V:α->Vl} {h:ae} {mb:Nat} {M:DM α} (m:fM V h mb M) (hl:M.length<=1000000):CV Z 64 [.map (some mb)] h=some (fO h (cO (M.map (·.1)))):=CV_Y1 z (by decide) (by decide) (m.srt hl)
def rS80 {α:Type} {V:α->Vl} {h:ae} {mb:Nat} {M:DM α} (m:fM V h mb M) (hl:M.length<=1000000):CV Z 80 [.map (some mb)] h=some (fO h (cO (M.map (·.1)))):=CV_Y1 z (by decide) (by decide) (m.srt hl)
end
end
end Go.Proofs.YtdhpgacmgebjdaaGreatDoor.W
namespace Go.Proofs.YtdhpgacmgebjdaaGreatDoor.W
open Go Go.Abs Tryz
noncomputable section
def t18 (C:ah) (x0:Vl) (h:ae):ba:=
 aa (some ((.slice none 0 0),h)) fun n h=>
 aa (some (x0,h)) fun b h=>
 aa (C 60 [b] h) fun c h=>
 aa (pu (aE prog .neq 25 c (.int .i64 0)) h) fun d h=>
 (match d with
 | .bool true=>
 aa (some ((.slice none 0 0),h)) fun a h=>
 some (a,h)
 | .bool false=>
 aa (some (x0,h)) fun f h=>
 aa (pu (nilCheckA f) h) fun g h=>
 aa (pu (aL g 2) h) fun j h=>
 aa (pu (aL j 1) h) fun k h=>
 aa (ld1 k h) fun l h=>
 aa (C 64 [l] h) fun m h=>
 aa (some (m,h)) fun a h=>
 some (a,h)
 |_=>none)
def t18_eq (C:ah) (x0:Vl) (h:ae):aY prog C f18 [x0] h=t18 C x0 h:=
 lkT (by kernel_rfl) (by kernel_rfl)
def t65 (C:ah) (x0 x1 x2:Vl) (h:ae):ba:=
 aa (box x1 h) fun d h=>
 aa (box x2 h) fun m h=>
 aa (dj fy h) fun c h=>
 aa (dj [(.int .i64 0),(.slice none 0 0)] h) fun a h=>
 aa (some ((.slice none 0 0),h)) fun U h=>
 aa (some ((.bool false),h)) fun V h=>
 aa (some (x0,h)) fun n h=>
 aa (pu (nilCheckA n) h) fun o h=>
 aa (pu (aL o 0) h) fun p h=>
 aa (ld1 p h) fun q h=>
 aa (pu (aL m 0) h) fun r h=>
 aa (ld1 r h) fun s h=>
 aa (C 128 [q,s] h) fun u h=>
 aa (some (u,h)) fun j h=>
 aa (pu (extractA j 0) h) fun v h=>
 aa (pu (extractA j 1) h) fun w h=>
 aa (some (v,h)) fun G h=>
 aa (some (w,h)) fun y h=>
 aa (some (y,h)) fun z h=>
 aa (pu (aE prog .neq 25 z (.int .i64 0)) h) fun A h=>
 (match A with
 | .bool true=>
 let g5_0:=h
 aa (bZ 37 c g5_0) fun H g5_1=>
 aa (bZ 2 a g5_1) fun B g5_2=>
 aa (bX 37 c H g5_2) fun _ g5_3=>
 aa (bX 2 a B g5_3) fun _ g5_4=>
 aa (some ((.slice none 0 0),g5_4)) fun D g5_5=>
 aa (some ((.bool false),g5_5)) fun E g5_6=>
 (match (fP true (bZ 2 a g5_3) B&&true) with
 |true=>
 let h:=g5_6
 resultsA prog f65.results.toList (aT 42 (up (bs [x0,x1,x2]) [(4,d),(5,m),(6,c),(7,a),(8,D),(9,E),(10,y),(12,j),(13,n),(14,o),(15,p),(16,q),(17,r),(18,s),(19,u),(20,v),(21,w),(22,z),(23,A),(24,H),(25,B)])) h
 |false=>none)
 | .bool false=>
 aa (some (G,h)) fun I h=>
 aa (C 113 [I] h) fun J h=>
 aa (some (J,h)) fun f h=>
 aa (pu (extractA f 0) h) fun K h=>
 aa (pu (extractA f 1) h) fun L h=>
 aa (pu (extractA f 2) h) fun M h=>
 aa (pu (extractA f 3) h) fun N h=>
 aa (dj (List.replicate 32 (.int .u8 0)) h) fun g h=>
 aa (bX 37 c K h) fun _ h=>
 aa (bX 2 a L h) fun _ h=>
 aa (bX 32 g M h) fun _ h=>
 aa (some (N,h)) fun E h=>
 let g8_0:=h
 aa (bZ 37 c g8_0) fun O g8_1=>
 aa (bZ 2 a g8_1) fun F g8_2=>
 aa (some (G,g8_2)) fun P g8_3=>
 aa (some (E,g8_3)) fun Q g8_4=>
 aa (some (Q,g8_4)) fun b g8_5=>
 aa (au (bC b==some true) (bZ 32 g g8_5) g8_5) fun k g8_6=>
 aa (au (bC b==some true) (bZ 32 d g8_6) g8_6) fun l g8_7=>
 aa (au (bC b==some true) (pu (aE prog .eql 32 k l) g8_7) g8_7) fun R g8_8=>
 aa (match b with | .bool t=>some (if t then R else (.bool false),g8_8)|_=>none) fun S g8_9=>
 aa (bX 37 c O g8_9) fun _ g8_10=>
 aa (bX 2 a F g8_10) fun _ g8_11=>
 aa (some (P,g8_11)) fun D g8_12=>
 aa (some (S,g8_12)) fun T g8_13=>
 (match (fP true (bZ 2 a g8_10) F&&(fP (bC b==some true) (bZ 32 g g8_10) k&&(fP (bC b==some true) (bZ 32 g g8_11) k&&(fP (bC b==some true) (bZ 32 d g8_10) l&&(fP (bC b==some true) (bZ 32 d g8_11) l&&true))))) with
 |true=>
 let h:=g8_13
 resultsA prog f65.results.toList (aT 42 (up (bs [x0,x1,x2]) [(4,d),(5,m),(6,c),(7,a),(8,D),(9,T),(10,y),(11,g),(12,j),(13,n),(14,o),(15,p),(16,q),(17,r),(18,s),(19,u),(20,v),(21,w),(22,z),(23,A),(26,f),(27,I),(28,J),(29,K),(30,L),(31,M),(32,N),(33,O),(34,F),(35,P),(36,Q),(37,b),(38,k),(39,l),(40,R),(41,S)])) h
 |false=>none)
 |_=>none)
def t65_eq (C:ah) (x0 x1 x2:Vl) (h:ae):aY prog C f65 [x0,x1,x2] h=t65 C x0 x1 x2 h:=
 lkT (by kernel_rfl) (by kernel_rfl)
end
end Go.Proofs.YtdhpgacmgebjdaaGreatDoor.W
namespace Go.Proofs.YtdhpgacmgebjdaaGreatDoor.W
open Go Go.Abs Tryz R
noncomputable section
section
attribute [local congr] aC
structure It where
 at_:Int
 dq:Nat
 size:Nat
def itC (x:It):List Vl := [.int .i64 x.at_,ak x.dq,ak x.size]
abbrev rk (x:It):Vl := .agg (itC x).toArray
abbrev grV (_:Unit):Vl := .bool true
def mA:mapT prog 123=some (32,136):=by kernel_rfl
def map124:mapT prog 124=some (32,4):=by kernel_rfl
abbrev zI:It:=⟨0,0,0⟩
def tm:ja prog 136=some (rk zI):=by kernel_rfl
def zero4:ja prog 4=some (.bool false):=by kernel_rfl
def itG (x:It):ground (rk x)=true:=rfl
structure Ss where
 s:Nat
 j:Nat
 d:Nat
 im:Nat
 gm:Nat
 quota:Int
 inc:Nat
 items:DM It
 graves:DM Unit
 cur:Vl
 cd:Option (List Nat)
 D:Dk
 J:Jn
def Ss.cells (S:Ss):eW := [ptr S.j 0,.int .i64 S.quota,.int .u64 (S.inc:Int),.map (some S.im),.map (some S.gm),S.cur]
def zh (h:ae) (cur:Vl) (cd:Option (List Nat)):Prop:=(cur = .pointer none/\cd=none) \/ ∃ b id,cur=ptr b 0/\cd=some id/\h.get b=some (bA id)/\eE id
def zh.old {h g:ae} {cur:Vl} {cd:Option (List Nat)} (x:zh h cur cd) (o:aM h g):zh g cur cd:=by
 rcases x with x|⟨b,id,h1,h2,h3,h4⟩
 ·exact .inl x
 ·exact .inr ⟨b,id,h1,h2,aM.get o h3,h4⟩
structure lD (h:ae) (S:Ss):Prop where
 c:h.get S.s=some S.cells
 n0:h.n0<=S.s
 dk:br h S.d S.D
 jn:cG h S.j S.d S.J
 ok:vT S.J S.D
 n2:2<=S.D.n
 it:fM rk h S.im S.items
 gr:fM grV h S.gm S.graves
 im0:h.n0<=S.im
 gm0:h.n0<=S.gm
 ne:S.im≠S.gm
 sd:S.s≠S.d
 sb:S.s≠S.D.bb
 sj:S.s≠S.j
 cu:zh h S.cur S.cd
 inc:S.inc<18446744073709551616
def lD.old {h g:ae} {S:Ss} (x:lD h S) (o:aM h g):lD g S:=
 ⟨aM.get o x.c,by rw [o.n0];exact x.n0,aM.dk o x.dk,x.jn.keep o (fun q=>q),x.ok,x.n2,x.it.old o,x.gr.old o,by rw [o.n0];exact x.im0,by rw [o.n0];exact x.gm0,x.ne,x.sd,x.sb,x.sj,x.cu.old o,x.inc⟩
section
variable {h:ae} {S:Ss} (x:lD h S)
include x
def lD.l0:ld1 (ptr S.s 0) h=some (ptr S.j 0,h):=aP x.c rfl
def lD.l3:ld1 (ptr S.s 3) h=some (.map (some S.im),h):=aP x.c rfl
end
def Ss.up (S:Ss):Bool:=S.J.live S.D&&decide (0<S.D.ar)
def nil28 (b o:Nat):aE prog .eql 28 (ptr b o) (.pointer none)=some (.bool false):=by kernel_rfl
def eql3i (a b:Int):aE prog .eql 3 (.int .i64 a) (.int .i64 b)=some (.bool (a==b)):=dm ..
section
variable {Z:ah} (z:zF Z) {h:ae} (hG:3<=h.n0) {S:Ss} (x:lD h S)
include z hG x
def r60:CV Z 60 [ptr S.s 0] h=some (.int .i64 (if S.up then 0 else 9),h):=by
 have e1:=jP z hG (by rfl) (r115 x.dk x.jn x.n2);refine cY z is60 rfl ((t60_eq _ _ _).trans ?_);unfold t60 Ss.up;cases hl:S.J.live S.D with
 |false=>
  rw [hl] at e1;have e1:CV Z 115 [ptr S.j 0] h=some (.int .i64 0,h):=e1;simp -implicitDefEqProofs only [nil28,av,ax,DK,x.l0,e1,eql3i,D6,E4,D3,DJ,af,aj]
 |true=>
  rw [hl] at e1;have e1:CV Z 115 [ptr S.j 0] h=some (.int .i64 (S.D.ar:Int),h):=e1;by_cases h0:0<S.D.ar
  ·have hb:((S.D.ar:Int)==0)=false:=by rw [GJ];omega
   simp -implicitDefEqProofs only [nil28,av,ax,DK,x.l0,e1,eql3i,hb,DS h0,E3,D8,af,aj]
  ·have hb:((S.D.ar:Int)==0)=true:=by rw [beq_iff_eq];omega
   simp -implicitDefEqProofs only [nil28,av,ax,DK,x.l0,e1,eql3i,hb,DP h0,E3,D3,DJ,af,aj]
end
def is18:bJ prog 18 f18 := .of (by kernel_rfl)
def n90:((9:Int) != 0)=true:=rfl
def n00:((0:Int) != 0)=false:=rfl
def xW (y:It) (h:ae) : ∃ h1 h2,dj [(.int .i64 0),(.int .i64 0),(.int .i64 0)] h=some (ptr h.next 0,h1)/\bX 3 (ptr h.next 0) (rk y) h1=some (undef,h2)/\aM h h2/\h2.get h.next=some (itC y)/\h2.next=h.next+1:=by obtain ⟨h1,z1,o1,g1,n1⟩:=fresh [(.int .i64 0),(.int .i64 0),(.int .i64 0)] h;obtain ⟨h2,t2,k2,g2,_,n2⟩:=aR (n:=3) (k':=itC y) g1 (by rw [o1.n0];exact h.n0_le_next) rfl rfl rfl;exact ⟨h1,h2,z1,t2,o1.also k2 (fun c hc q=>by subst q;omega),g2,by rw [n2,n1]⟩
def pB (o:Option It):(o.map rk).getD (rk zI)=rk (o.getD zI):=by cases o<;>rfl
def getD_grV (o:Option Unit):(o.map grV).getD (.bool false) = .bool o.isSome:=by cases o<;>rfl
section
variable {Z:ah} (z:zF Z) {h:ae} (hG:3<=h.n0) {S:Ss} (x:lD h S)
include z hG x
def r18 (hu:S.up=true) (hl:S.items.length<=1000000):CV Z 18 [ptr S.s 0] h=some (fO h (cO (S.items.map (·.1)))):=by have e1:=r60 z hG x;rw [hu] at e1;simp -implicitDefEqProofs only [D8] at e1;refine cY z is18 rfl ((t18_eq _ _ _).trans ?_);unfold t18;have e2:=rS64 z x.it hl;generalize fO h (cO (S.items.map (·.1)))=o at *;obtain ⟨v,g⟩:=o;simp -implicitDefEqProofs only [e1,fI,n00,av,ax,DK,Nat.reduceAdd,x.l3,e2,af,aj]
def r23 {id:List Nat} (w:eE id) : ∃ g,CV Z 23 [ptr S.s 0,kV id] h=some (.bool (S.up&&(S.items.get id).isSome),g)/\aM h g:=by
 obtain ⟨h1,b1,o1,g1,n1⟩:=ta w h;have x1:=x.old o1;have e1:=r60 z (by rw [o1.n0];exact hG) x1;cases hu:S.up with
 |false=>
  rw [hu] at e1;refine ⟨h1,cY z is23 rfl ((t23_eq _ _ _ _).trans ?_),o1⟩;unfold t23;simp -implicitDefEqProofs only [DJ,D3] at e1;simp -implicitDefEqProofs only [b1,e1,fI,n90,E4,af,aj]
 |true=>
  rw [hu] at e1;simp -implicitDefEqProofs only [D8] at e1;obtain ⟨lk,_⟩:=lkD x1.it mA tm (itG _) w;rw [pB] at lk;obtain ⟨h2,h3,z2,t3,o3,_,_⟩:=xW ((S.items.get id).getD zI) h1;refine ⟨h3,cY z is23 rfl ((t23_eq _ _ _ _).trans ?_),o1.trans o3⟩;unfold t23;have l32:bZ 32 (ptr h.next 0) h1=some (kV id,h1):=aV g1 (bf w) (bh _).1;simp -implicitDefEqProofs only [b1,e1,fI,n00,av,ax,DK,Nat.reduceAdd,x1.l3,l32,lk,gZ,iC,z2,t3,E3,af,aj]
end
end
section
attribute [local congr] aC
def zS (a b c d:Vl):extractA (.tuple #[a,b,c,d]) 0=some a:=rfl
def zH (a b c d:Vl):extractA (.tuple #[a,b,c,d]) 1=some b:=rfl
def AG (a b c d:Vl):extractA (.tuple #[a,b,c,d]) 2=some c:=rfl
def Aj (a b c d:Vl):extractA (.tuple #[a,b,c,d]) 3=some d:=rfl
def xl (D:Dk) (J:Jn) (at_:Int):Option (List Nat):=if J.live D&&J.stands D at_ then some (D.data J.area at_.toNat (D.parts J.area at_.toNat)) else none
def readP (D:Dk) (J:Jn) (id:List Nat) (at_:Int):Option (ej×Nat×List Nat×List Nat):=
 match xl D J at_ with
 |some r=>match eh r with
  |some (m,ix,d)=>if uA m=id then some (m,ix,d,r) else none
  |none=>none
 |none=>none
def my {D:Dk} {J:Jn} {at_:Int} (h:J.stands D at_=true):0<=at_/\at_<D.ar/\D.stands J.area J.gen at_.toNat=true:=by unfold Jn.stands at h;simp only [DN,D7] at h;exact ⟨h.1.1.2,h.1.2,h.2⟩
def Bz {D:Dk} {J:Jn} {at_:Int} {r:List Nat} (h:xl D J at_=some r):r.length<=106*D.ar:=by
 unfold xl at h;split at h
 ·rename_i hc;rw [DN] at hc;cases h;obtain ⟨_,_,h3⟩:=my hc.2;have h4:=Dk.nv h3;have h5:=D.data_length J.area at_.toNat (D.parts J.area at_.toNat);have:=IH 106 (show D.parts J.area at_.toNat<=D.ar by omega);omega
 ·cases h
def r128 {h:ae} {d j:Nat} {D:Dk} {J:Jn} (x:br h d D) (xj:cG h j d J) (h2:2<=D.n) (at_:Int) :
  ∃ v e g,CD 128 [ptr j 0,.int .i64 at_] h=some (.tuple #[v,.int .i64 e],g)/\aM h g/\match xl D J at_ with
    |some r=>e=0/\jq g h.next v r
    |none=>e≠0/\v = .slice none 0 0:=by
 unfold xl;cases hl:J.live D with
 |false=>exact ⟨_,9,h,r128_dead x xj _ hl,aw.refl _ _,by decide,rfl⟩
 |true=>
  cases hs:J.stands D at_ with
  |false=>
   obtain ⟨g,e,o⟩:=r128_no x xj h2 at_ hl hs;exact ⟨_,6,g,e,o,by decide,rfl⟩
  |true=>
   obtain ⟨h0,_,_⟩:=my hs;obtain ⟨n,rfl⟩:=Int.eq_ofNat_of_zero_le h0;obtain ⟨v,g,e,o,ow⟩:=r128_yes x xj h2 (at_:=n) hl hs;exact ⟨v,0,g,e,o,rfl,ow⟩
def jq.bs {h:ae} {N:Nat} {v:Vl} {l:List Nat} (o:jq h N v l):BS h v l /\ ∀ a n c,v = .slice (some a) n c->N<=a.block:=by obtain ⟨a,c,rfl,s,g,hb,_⟩:=o.bytes;exact ⟨.of s (fun _=>g),fun b n c e=>by cases e;exact hb _ rfl⟩
def is65:bJ prog 65 f65 := .of (by kernel_rfl)
def res65:f65.results.toList = [.cell 6 35,.cell 7 37,.tmp 8,.tmp 9]:=by kernel_rfl
def results65 {n:Nat} (hn:9<n) (x:Nat->Vl) {h:ae} {a b:Vl} (e2:bZ 37 (x 6) h=some (a,h)) (e3:bZ 2 (x 7) h=some (b,h)):resultsA prog f65.results.toList (aT n x) h=some (.tuple #[a,b,x 8,x 9],h):=by rw [res65];simp only [resultsA,FW,List.mapM_nil,dy,ep (show 6<n by omega),ep (show 7<n by omega),ep (show 8<n by omega),ep hn,nM rj siz35,nM agg37 siz37,e2,e3];rfl
def MPc (A B:List Vl):Prop:=A.length=37/\aN A=true/\Abs.noHoles A=true/\B.length=2/\aN B=true/\Abs.noHoles B=true
def RePost (h:ae) (o:ba) (r:Option (ej×Nat×List Nat×List Nat)):Prop:=
 ∃ g,aM h g/\match r with
   |none => ∃ A B v,o=some (.tuple #[.agg A.toArray,.agg B.toArray,v,.bool false],g)/\MPc A B
   |some (m,ix,d,rc) => ∃ v dv rv,o=some (.tuple #[mv m v,pv ix dv,rv,.bool true],g)/\ki g m v/\BS g dv d/\BS g rv rc/\(∀ b,AV v=some b->h.next<=b)/\(∀ a n c,dv = .slice (some a) n c->h.next<=a.block)/\(∀ a n c,rv = .slice (some a) n c->h.next<=a.block)
structure JP (h:ae) (s j d:Nat) (D:Dk) (J:Jn):Prop where
 l0 : ∃ k,h.get s=some k/\k[0]? = some (ptr j 0)
 dk:br h d D
 jn:cG h j d J
 ok:vT J D
 n2:2<=D.n
def JP.kept {h g:ae} {s j d:Nat} {D:Dk} {J:Jn} (x:JP h s j d D J) {B:Nat->Prop} (o:aw h g B) (h1 : ¬B s) (h2 : ¬B d) (h3 : ¬B D.bb) (h4 : ¬B j):JP g s j d D J:=by obtain ⟨k,a,b⟩:=x.l0;exact ⟨⟨k,o.getE a h1,b⟩,o.dk x.dk h2 h3,x.jn.keep o h4,x.ok,x.n2⟩
def JP.old {h g:ae} {s j d:Nat} {D:Dk} {J:Jn} (x:JP h s j d D J) (o:aM h g):JP g s j d D J:=x.kept o id id id id
def JP.ld {h:ae} {s j d:Nat} {D:Dk} {J:Jn} (x:JP h s j d D J):ld1 (ptr s 0) h=some (ptr j 0,h):=by obtain ⟨k,a,b⟩:=x.l0;exact aP a b rfl
def lD.jp {h:ae} {S:Ss} (x:lD h S):JP h S.s S.j S.d S.D S.J:=⟨⟨_,x.c,rfl⟩,x.dk,x.jn,x.ok,x.n2⟩
set_option maxRecDepth 100000 in
def r65 {Z:ah} (z:zF Z) {h:ae} (T:RT h) {s j d:Nat} {D:Dk} {J:Jn} (x:JP h s j d D J) (hs:D.ar<=190) {id:List Nat} (w:eE id) (y:It):RePost h (CV Z 65 [ptr s 0,kV id,rk y] h) (readP D J id y.at_):=by
 obtain ⟨h1,b1,o1,g1,n1⟩:=ta w h;obtain ⟨h2,b2,o2,g2,n2⟩ : ∃ g,box (rk y) h1=some (ptr h1.next 0,g)/\aM h1 g/\g.get h1.next=some (itC y)/\g.next=h1.next+1:=⟨_,iL h1 (itC y) rfl,aw.alloc _ _ _,by rw [ae.aX,DR rfl],rfl⟩
 obtain ⟨h3,z3,o3,g3,n3⟩:=fresh zM h2;obtain ⟨h4,z4,o4,g4,n4⟩:=fresh zP h3;have O4:=((o1.trans o2).trans o3).trans o4;have x4:=x.old O4;have T4:=T.old O4;have ly:ld1 (ptr h1.next 0) h4=some (.int .i64 y.at_,h4):=aP (aM.get (o3.trans o4) g2) rfl rfl;obtain ⟨v5,e5,h5,c5,o5,P5⟩:=r128 x4.dk x4.jn x.n2 y.at_;have c5:=jP z T4.n0 (by rfl) c5;have O5:=O4.trans o5;have T5:=T.old O5;have N0 : ∀ {g:ae},aM h g->g.n0=h.n0:=fun o=>o.n0;have hz:=h.n0_le_next;have m5:=o5.next;have G3:h5.get h2.next=some zM:=aM.get (o4.trans o5) g3;have G4:h5.get h3.next=some zP:=aM.get o5 g4;have vq : ∀ {B:List Vl},veqL B B=true->Abs.veq (.agg B.toArray) (.agg B.toArray)=true:=fun h=>h;cases hr:xl D J y.at_ with
 |none=>
  rw [hr] at P5;rw [show readP D J id y.at_=none by unfold readP;rw [hr]];obtain ⟨hne,rfl⟩:=P5;have hne:(e5 != 0)=true:=by rw [HQ];exact hne
  obtain ⟨h6,t6,k6,g6,_,n6⟩:=aR (n:=37) (k':=zM) G3 (by rw [N0 O5];omega) rfl rfl rfl;have O6:aM h h6:=aM.bu O5 k6 (by omega);have G46:h6.get h3.next=some zP:=aw.getE k6 G4 (by omega);obtain ⟨h7,t7,k7,g7,_,n7⟩:=aR (n:=2) (k':=zP) G46 (by rw [N0 O6];omega) rfl rfl rfl;have O7:aM h h7:=aM.bu O6 k7 (by omega);have L1:bZ 37 (ptr h2.next 0) h5=some (.agg zM.toArray,h5):=aV G3 rfl rfl;have L2:bZ 2 (ptr h3.next 0) h5=some (.agg zP.toArray,h5):=aV G4 rfl rfl;have C2:=eQ (aV (n:=2) G46 rfl rfl) (vq (B:=zP) rfl);have L3:bZ 37 (ptr h2.next 0) h7=some (.agg zM.toArray,h7):=aV (aw.getE k7 g6 (by omega)) rfl rfl;have L4:bZ 2 (ptr h3.next 0) h7=some (.agg zP.toArray,h7):=aV g7 rfl rfl;refine ⟨h7,O7,zM,zP,.slice none 0 0,cY z is65 rfl ((t65_eq _ _ _ _ _).trans ?_),rfl,rfl,rfl,rfl,rfl,rfl⟩;unfold t65;simp -implicitDefEqProofs only [b1,b2,z3,z4,av,ax,DK,x4.ld,ly,c5,gZ,iC,fI,hne,L1,L2,t6,t7,C2,EY,af,aj];refine results65 (n:=42) (by decide) _ ?_ ?_<;>assumption
 |some r=>
  rw [hr] at P5;obtain ⟨rfl,ow⟩:=P5;obtain ⟨bs5,nw5⟩:=ow.bs;have hlen:=Bz hr;obtain ⟨h6,o6,P6⟩:=r113 T5 bs5 (by have:=IH 106 hs;omega);have O6:=O5.trans o6;have T6:=T.old O6;have m6:=o6.next;obtain ⟨h7,z7,o7,g7,n7⟩:=fresh (List.replicate 32 (.int .u8 0)) h6;have O7:=O6.trans o7;have go : ∀ (A B:List Vl) (q:List Nat) (b:Bool),MPc A B->eE q->CD 113 [v5] h5=some (.tuple #[.agg A.toArray,.agg B.toArray,kV q,.bool b],h6)->veqL B B=true ->
    ∃ g,aM h g/\CV Z 65 [ptr s 0,kV id,rk y] h=some (.tuple #[.agg A.toArray,.agg B.toArray,v5,.bool (b&&decide (q=id))],g)/\aw h6 g (fun c=>c<h4.next):=by
   intro A B q b hM wq c6 hvB;obtain ⟨A0,A1,A2,B0,B1,B2⟩:=hM;have c6:=jP z T5.n0 (by rfl) c6;have D0:=bf wq;have D1:=(bh q).2;have D2:=(bh q).1;obtain ⟨x8,s1,k1,a1,_,e1⟩:=aR (n:=37) (k':=A) (aM.get (o6.trans o7) G3) (by rw [N0 O7];omega) rfl A0 A1;have P1:aM h x8:=aM.bu O7 k1 (by omega);obtain ⟨y8,s2,k2,a2,_,e2⟩:=aR (n:=2) (k':=B) (aw.getE k1 (aM.get (o6.trans o7) G4) (by omega)) (by rw [N0 P1];omega) rfl B0 B1;have P2:aM h y8:=aM.bu P1 k2 (by omega);obtain ⟨z8,s3,k3,a3,_,e3⟩:=aR (n:=32) (k':=bA q) (aw.getE k2 (aw.getE k1 g7 (by omega)) (by omega)) (by rw [N0 P2];omega) rfl D0 D1;have P3:aM h z8:=aM.bu P2 k3 (by omega);have b3:z8.get h3.next=some B:=aw.getE k3 a2 (by omega);have c3:z8.get h2.next=some A:=aw.getE k3 (aw.getE k2 a1 (by omega)) (by omega);obtain ⟨x9,s4,k4,a4,_,e4⟩:=aR (n:=37) (k':=A) c3 (by rw [N0 P3];omega) A0 A0 A1;have P4:aM h x9:=aM.bu P3 k4 (by omega);have b4:x9.get h3.next=some B:=aw.getE k4 b3 (by omega);obtain ⟨y9,s5,k5,a5,_,e5⟩:=aR (n:=2) (k':=B) b4 (by rw [N0 P4];omega) B0 B0 B1;have P5:aM h y9:=aM.bu P4 k5 (by omega);have i1:h1.get h.next=some (bA id):=g1;have i5:h7.get h.next=some (bA id):=aM.get (((((o2.trans o3).trans o4).trans o5).trans o6).trans o7) g1;have i8:z8.get h.next=some (bA id):=aw.getE k3 (aw.getE k2 (aw.getE k1 i5 (by omega)) (by omega)) (by omega);have i9:x9.get h.next=some (bA id):=aw.getE k4 i8 (by omega);have i10:y9.get h.next=some (bA id):=aw.getE k5 i9 (by omega);have a9:x9.get h6.next=some (bA q):=aw.getE k4 a3 (by omega);have a10:y9.get h6.next=some (bA q):=aw.getE k5 a9 (by omega);have L1:bZ 37 (ptr h2.next 0) z8=some (.agg A.toArray,z8):=aV c3 A0 A2;have L2:bZ 2 (ptr h3.next 0) z8=some (.agg B.toArray,z8):=aV b3 B0 B2;have L3:bZ 32 (ptr h6.next 0) z8=some (kV q,z8):=aV a3 D0 D2;have L4:bZ 32 (ptr h.next 0) z8=some (kV id,z8):=aV i8 (bf w) (bh _).1;have vk : ∀ {d:List Nat},eE d->Abs.veq (kV d) (kV d)=true:=fun hd=>(bO hd).veq;have C1:=eQ (aV (n:=2) b4 B0 B2) (vq hvB);have C2:=eQ (aV (n:=32) a9 D0 D2) (vk wq);have C3:=eQ (aV (n:=32) a10 D0 D2) (vk wq);have C4:=eQ (aV (n:=32) i9 (bf w) (bh _).1) (vk w);have C5:=eQ (aV (n:=32) i10 (bf w) (bh _).1) (vk w);have R1:bZ 37 (ptr h2.next 0) y9=some (.agg A.toArray,y9):=aV (aw.getE k5 a4 (by omega)) A0 A2;have R2:bZ 2 (ptr h3.next 0) y9=some (.agg B.toArray,y9):=aV a5 B0 B2;have eD:=(eqD32 wq w).1;refine ⟨y9,P5,cY z is65 rfl ((t65_eq _ _ _ _ _).trans ?_),?_⟩
   ·unfold t65;cases b with
    |false=>
     simp -implicitDefEqProofs only [b1,b2,z3,z4,z7,av,ax,DK,x4.ld,ly,c5,c6,gZ,iC,zS,zH,AG,Aj,fI,n00,bft,s1,s2,s3,s4,s5,L1,L2,C1,aG,show ∀ o v,fP false o v=true from fun _ _=>rfl,D3,DJ,E4,EY,G7,af,aj];refine results65 (n:=42) (by decide) _ ?_ ?_<;>assumption
    |true=>
     simp -implicitDefEqProofs only [b1,b2,z3,z4,z7,av,ax,DK,x4.ld,ly,c5,c6,gZ,iC,zS,zH,AG,Aj,fI,n00,btt,s1,s2,s3,s4,s5,L1,L2,L3,L4,eD,C1,C2,C3,C4,C5,az,E3,EY,G7,D8,af,aj];refine results65 (n:=42) (by decide) _ ?_ ?_<;>assumption
   ·have K1:aw h6 h7 (fun c=>c<h4.next):=o7.mono (fun _ _ q=>q.elim);have K2:=K1.trans (k1.mono (fun c _ q=>show c<h4.next by omega));have K3:=K2.trans (k2.mono (fun c _ q=>show c<h4.next by omega));have K4:=K3.also k3 (fun c hc q=>by omega);have K5:=K4.trans (k4.mono (fun c _ q=>show c<h4.next by omega));exact K5.trans (k5.mono (fun c _ q=>show c<h4.next by omega))
  have nz:h.next<=h5.next:=O5.next;cases hp:eh r with
  |none=>
   rw [hp] at P6;rw [show readP D J id y.at_=none by unfold readP;rw [hr];simp only [hp]];obtain ⟨g,og,eg,_⟩:=go zM zP z32 false ⟨rfl,rfl,rfl,rfl,rfl,rfl⟩ z32_d P6 rfl;exact ⟨g,og,zM,zP,v5,eg,rfl,rfl,rfl,rfl,rfl,rfl⟩
  |some p=>
   obtain ⟨m,ix,dd⟩:=p;rw [hp] at P6;obtain ⟨v,dv,e6,X,Bd,f1,f2⟩:=P6;have Bd':=Bd;obtain ⟨g,og,eg,kg⟩:=go (dL m v) [.int .i64 ix,dv] (uA m) true ⟨X.ok.1,X.ok.2.2,X.ok.2.1,rfl,by simp [aN,Bd.cell.2.1,show (Value.int .i64 (ix:Int)).oneCell'=true from rfl],by simp [Abs.noHoles,Bd.cell.1,show cw (Value.int .i64 (ix:Int))=false from rfl]⟩ (Cc m) e6 (by have:=Bd.veq;show (Abs.veq (.int .i64 ix) (.int .i64 ix)&&(Abs.veq dv dv&&true))=true;rw [this];simp [Abs.veq])
   by_cases mW:uA m=id
   ·rw [DS mW,EY] at eg;rw [show readP D J id y.at_=some (m,ix,dd,r) by unfold readP;rw [hr];simp only [hp,mW,D8]];refine ⟨g,og,v,dv,v5,eg,⟨X.sl.keep kg (fun b hb q=>by have:=f1 b hb;omega),X.wf⟩,?_,?_,fun b hb=>by have:=f1 b hb;omega,fun a n c e=>by have:=f2 a n c e;omega,fun a n c e=>by have:=nw5 a n c e;omega⟩
    ·obtain ⟨a,c,rfl,sb,gs⟩:=Bd.ex;refine .of (kg.bytes sb fun y hy _ q => ?_) gs;subst hy;have:=f2 y _ _ rfl;omega
    ·obtain ⟨a,c,rfl,sb,gs⟩:=bs5.ex;refine .of (kg.bytes (aM.bytes o6 sb) fun y hy _ q => ?_) gs;subst hy;have:=nw5 y _ _ rfl;omega
   ·rw [DP mW,HZ] at eg;rw [show readP D J id y.at_=none by unfold readP;rw [hr];simp only [hp,mW,D3]];exact ⟨g,og,dL m v,[.int .i64 ix,dv],v5,eg,X.ok.1,X.ok.2.2,X.ok.2.1,rfl,by simp [aN,Bd.cell.2.1,show (Value.int .i64 (ix:Int)).oneCell'=true from rfl],by simp [Abs.noHoles,Bd.cell.1,show cw (Value.int .i64 (ix:Int))=false from rfl]⟩
end
end
end Go.Proofs.YtdhpgacmgebjdaaGreatDoor.W
