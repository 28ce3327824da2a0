/-
  A part of the proof, shortened by a program.
  Conditions: as each theorem states.
-/
import Derived.Test.YtdhpgacmgebjdaaGreatDoorG17
set_option linter.all false
namespace Go.Proofs.YtdhpgacmgebjdaaGreatDoor.W
open Go Go.Abs Tryz
noncomputable section
def BJ (h:ae) (b:Nat):Prop := ∃ k,h.get b=some k /\ ∀ v∈k,nat8 v=none
def _root_.Go.Abs.aw.uW {h h':ae} {B:Nat->Prop} (k:aw h h' B) (hB : ∀ b,B b->BJ h b) {a:Option Addr} {n:Nat} {l:List Nat} (e:aq a n h=some l):aq a n h'=some l:=
 k.bytes e fun y hy hn hb=>by obtain ⟨c,h1,h2⟩:=hB _ hb;exact de e h1 h2 y hy hn rfl
def IsR.move {h h':ae} {B:Nat->Prop} {r:Nat} {l:List Nat} {e:Int} (R:IsR h r l e) (k:aw h h' B) (hr : ¬B r) (hB : ∀ b,B b->BJ h b):IsR h' r l e:=by obtain ⟨a,n,c,h1,h2,h3⟩:=R.ex;exact ⟨⟨a,n,c,k.getE h1 hr,k.uW hB h2,h3⟩,k.n0▸R.n0,R.len⟩
def mY {h:ae} {b:Nat} {k k':eW} (hk:h.get b=some k) (h0:h.n0<=b) {n:Nat} (hn:k.length=n) (hn':k'.length=n) (ho:aN k'=true):bX n (ptr b 0) (.agg k'.toArray) h=some (undef,h.set b k'):=by
 unfold bX ptr;have hc:(Value.agg k'.toArray).cells=k'.toArray:=rfl;simp only [hc,E7,hn',D8];unfold stL;simp only [hk];rw [DR (by simp [ho,h0,hn,hn'])];have:splice k 0 k'=k':=by simp [splice,hn,hn']
 simp [this]
def AW {h:ae} {b:Nat} {k:eW} (hk:h.get b=some k) {n:Nat} (hn:k.length=n) (hh:Abs.noHoles k=true):bZ n (ptr b 0) h=some (.agg k.toArray,h):=by
 have e:(k.drop 0).take n=k:=by rw [FO,EB (by omega)]
 rw [DE hk (by omega) (by rw [e];exact hh),e]
def gR {h:ae} {b:Nat} {k k':eW} (hk:h.get b=some k) (h0:h.n0<=b):aw h (h.set b k') (fun c=>c=b)/\(h.set b k').get b=some k':=⟨aw.set h0 hk (.inr rfl),ae.bL h0 hk _⟩
def cm (b:List Nat):Nat:=be ((b.drop 4).take 8)
def pa (b:List Nat):Nat:=be ((b.drop 12).take 4)
def b0 (b:List Nat):Nat:=be ((b.drop 16).take 2)
def bt (b:List Nat):Nat:=be ((b.drop 18).take 2)
def eV (b:List Nat):Nat:=be ((b.drop 20).take 2)
def jE (b:List Nat):List Nat:=if eV b<=106 then (b.drop 22).take (eV b) else []
def mc (at_:Nat) (b:List Nat):Bool:=right b&&(pa b==at_)&&decide (1<=bt b)&&decide (b0 b<bt b)&&decide (eV b<=106)
def results108:f108.results.toList = [.cell 6 205,.tmp 7]:=by kernel_rfl
def ld103 (v:Vl) (h:ae):ld prog 205 v h=bZ 4 v h:=by unfold ld;rw [show sO prog 205=some true by kernel_rfl,show cL prog 205=some 4 by kernel_rfl]
def res108 (x:Nat->Vl) {h:ae} {v:Vl} (e:bZ 4 (x 6) h=some (v,h)):resultsA prog f108.results.toList (aT 70 x) h=some (.tuple #[v,x 7],h):=by have h6:(aT 70 x).getD 6 undef=x 6:=rfl;have h7:(aT 70 x).getD 7 undef=x 7:=rfl;rw [results108];simp only [resultsA,FW,List.mapM_nil,dy,h6,h7,ld103,e];rfl
def gD:eW := [(.int .u64 0),(.int .i64 0),(.int .i64 0),(.slice none 0 0)]
def logC (g p q:Nat) (s:Vl):eW := [.int .u64 g,ak p,ak q,s]
def rD {h:ae} {b:Nat} {g p q:Int} {a:Option Addr} {n c:Nat} (e:h.get b=some [.int .u64 g,.int .i64 p,.int .i64 q,.slice a n c]):BJ h b:=⟨_,e,by intro v hv;simp only [EN,EU,GF] at hv;rcases hv with rfl|rfl|rfl|rfl<;>rfl⟩
def r108 {d:Nat} {D:Dk} {h:ae} (x:br h d D) (h2:2<=D.n) {area at_:Nat} (ha:area<=1) (hat:at_<D.ar) :
  ∃ a n c h',CD 108 [ptr d 0,ak area,ak at_] h=some (.tuple #[.agg (logC (cm (D.blk (2+area*D.ar+at_))) (b0 (D.blk (2+area*D.ar+at_))) (bt (D.blk (2+area*D.ar+at_))) (.slice a n c)).toArray,.bool (mc at_ (D.blk (2+area*D.ar+at_)))],h') /\
    aq a n h'=some (jE (D.blk (2+area*D.ar+at_)))/\ct a n c=true/\aM h h'/\(∀ y,a=some y->h.next<=y.block):=by
 have hsm:=x.small;have har:D.ar=(D.n-2)/2:=rfl;have hm:area*D.ar<=D.ar:=by have:=GZ D.ar ha;omega
 have hi:2+area*D.ar+at_<D.n:=by rcases Nat.le_one_iff_eq_zero_or_eq_one.1 ha with rfl|rfl<;>omega
 have w1:IntKind.wrap .i64 ((area:Int)*(D.ar:Int))=((area*D.ar:Nat):Int):=by rw [<-Int.natCast_mul,wrap_i64 (by omega) (by omega)]
 generalize hM:area*D.ar=M at *;generalize hI:2+M+at_=i at *;have w2:IntKind.wrap .i64 (2+(M:Int))=((2+M:Nat):Int):=by rw [wrap_i64 (by omega) (by omega)];omega
 have w3:IntKind.wrap .i64 (((2+M:Nat):Int)+(at_:Int))=((i:Nat):Int):=by rw [wrap_i64 (by omega) (by omega)];omega
 have kA:aM h (h.alloc gD):=aw.alloc h gD _;have xA:=kA.dk x;have gA:(h.alloc gD).get h.next=some gD:=by rw [ae.aX,DR rfl]
 have e55:=yA xA h2;obtain ⟨r,hB,eB,RB,oB,gB⟩:=r166 xA hi;have hlen:=Dk.rC x hi;have hbb:=Dk.yy x i;generalize hb:D.blk i=b at *;have hA1:(h.alloc gD).next=h.next+1:=ae.eR ..;obtain ⟨hC,eC,RC⟩:=r112 RB (by simp;omega);have qB:=oB.getE gA (fun h=>h);have qC:=RC.kept.getE qB (by omega);have hp:h.next+1<=hC.next:=by rw [RC.next];have:=oB.next;omega
 have hrp:r<hC.next:=by have:=RC.rd.lt;exact this
 have kD:aM hC (hC.alloc gD):=aw.alloc hC gD _;have pD:(hC.alloc gD).get hC.next=some gD:=by rw [ae.aX,DR rfl]
 have qD:=kD.getE qC (fun h=>h);generalize hP:hC.next=p at *;have n0C:hC.n0<=p:=hP▸hC.n0_le_next;have RD:=RC.rd.keep (B:=fun _=>False) kD;have eG:bX 4 (ptr p 0) (.agg #[.int .u64 (be ((b.drop 4).take 8)),.int .i64 0,.int .i64 0,.slice none 0 0]) (hC.alloc gD)=some (undef,(hC.alloc gD).set p [.int .u64 (be ((b.drop 4).take 8)),.int .i64 0,.int .i64 0,.slice none 0 0]):=
  mY (k' := [.int .u64 (be ((b.drop 4).take 8)),.int .i64 0,.int .i64 0,.slice none 0 0]) pD n0C rfl rfl rfl
 obtain ⟨kE,pE⟩:=gR (k' := [.int .u64 (be ((b.drop 4).take 8)),.int .i64 0,.int .i64 0,.slice none 0 0]) pD n0C;have RE:=RD.move kE (by omega) (fun c hc=>by subst hc;exact rD pD);have qE:=kE.getE qD (by omega);generalize hHE:(hC.alloc gD).set p [.int .u64 (be ((b.drop 4).take 8)),.int .i64 0,.int .i64 0,.slice none 0 0]=hE at *;obtain ⟨hF,eF,RF⟩:=r167 RE (by simp;omega);obtain ⟨hG,eG2,RG⟩:=r168 RF.rd (by simp;omega);obtain ⟨hH,eH,RH⟩:=r168 RG.rd (by simp;omega);simp only [F4,Nat.reduceAdd] at eF eG2 eH RH;have kH:aw hE hH (fun c=>c=r):=(RF.kept.trans RG.kept).trans RH.kept;have pH:=kH.getE pE (by omega);have qH:=kH.getE qE (by omega);have n0H:hH.n0<=p:=by rw [kH.n0,kE.n0];exact n0C
 have b16:=pN 2 ((b.drop 16).take 2) (by simp;omega) fun y hy=>hbb y (ET (EH hy));have b18:=pN 2 ((b.drop 18).take 2) (by simp;omega) fun y hy=>hbb y (ET (EH hy));have b20:=pN 2 ((b.drop 20).take 2) (by simp;omega) fun y hy=>hbb y (ET (EH hy));have b12:=pN 4 ((b.drop 12).take 4) (by simp;omega) fun y hy=>hbb y (ET (EH hy));have hg:be ((b.drop 4).take 8)=cm b:=rfl;have h12:be ((b.drop 12).take 4)=pa b:=rfl;have h16:be ((b.drop 16).take 2)=b0 b:=rfl;have h18:be ((b.drop 18).take 2)=bt b:=rfl;have h20:be ((b.drop 20).take 2)=eV b:=rfl;rw [h12] at eF b12;rw [h16] at eG2 b16;rw [h18] at eH b18;rw [hg] at eC eG pE pH;have v12:IntKind.wrap .i64 ((pa b:Nat):Int)=(pa b:Nat):=wrap_i64 (by omega) (by omega);have v16:IntKind.wrap .i64 ((b0 b:Nat):Int)=(b0 b:Nat):=wrap_i64 (by omega) (by omega);have v18:IntKind.wrap .i64 ((bt b:Nat):Int)=(bt b:Nat):=wrap_i64 (by omega) (by omega);have v20:IntKind.wrap .i64 ((eV b:Nat):Int)=(eV b:Nat):=wrap_i64 (by rw [<-h20];omega) (by rw [<-h20];omega);have eI:bX 1 (ptr p 1) (.int .i64 (b0 b)) hH=some (undef,hH.set p [.int .u64 (cm b),.int .i64 (b0 b),.int .i64 0,.slice none 0 0]):=dK pH (by simp) n0H rfl rfl;obtain ⟨kI,pI⟩:=gR (k' := [.int .u64 (cm b),.int .i64 (b0 b),.int .i64 0,.slice none 0 0]) pH n0H;have RI:=RH.rd.move kI (by omega) (fun c hc=>by subst hc;exact rD pH);have qI:=kI.getE qH (by omega);generalize hHI:hH.set p [.int .u64 (cm b),.int .i64 (b0 b),.int .i64 0,.slice none 0 0]=hI2 at *;have n0I:hI2.n0<=p:=by rw [kI.n0];exact n0H
 have eJ:bX 1 (ptr p 2) (.int .i64 (bt b)) hI2=some (undef,hI2.set p [.int .u64 (cm b),.int .i64 (b0 b),.int .i64 (bt b),.slice none 0 0]):=dK pI (by simp) n0I rfl rfl;obtain ⟨kJ,pJ⟩:=gR (k' := [.int .u64 (cm b),.int .i64 (b0 b),.int .i64 (bt b),.slice none 0 0]) pI n0I;have RJ:=RI.move kJ (by omega) (fun c hc=>by subst hc;exact rD pI);have qJ:=kJ.getE qI (by omega);generalize hHJ:hI2.set p [.int .u64 (cm b),.int .i64 (b0 b),.int .i64 (bt b),.slice none 0 0]=hJ at *;have n0J:hJ.n0<=p:=by rw [kJ.n0];exact n0I
 simp only [F4,Nat.reduceAdd] at RJ;obtain ⟨hK,eK,RK⟩:=r168 RJ (by simp;omega);rw [h20] at eK;have pK:=RK.kept.getE pJ (by omega);have qK:=RK.kept.getE qJ (by omega);have hraw : ∃ a n c hL,CD 169 [ptr r 0,ak (eV b)] hK=some (.slice a n c,hL)/\aq a n hL=some (jE b)/\ct a n c=true/\(∃ l,IsR hL r l (if eV b<=106 then 0 else 4))/\aw hK hL (fun c=>c=r)/\(∀ y,a=some y->hK.next<=y.block):=by
  have hl22:(b.drop 22).length=106:=by simp;omega
  have RK2:=RK.rd;simp only [F4,Nat.reduceAdd] at RK2;by_cases hc:eV b<=106
  ·obtain ⟨a',c',h',f1,f2,f3,f4,f5,f6⟩:=r169 RK2 (n:=eV b) (by omega);refine ⟨a',_,c',h',f1,?_,f3,⟨_,by rw [DR hc];exact f4⟩,f5,f6⟩;rw [f2,jE,DR hc]
  ·obtain ⟨h',f1,f2,f3⟩:=r169_short RK2 (n:=eV b) (by omega);refine ⟨none,0,0,h',f1,?_,rfl,⟨_,by rw [DU hc];exact f2⟩,f3,fun y hy=>by cases hy⟩;rw [jE,DU hc];rfl
 obtain ⟨a,n,c,hL,eL,sL,gL,⟨l,RL⟩,kL,fL⟩:=hraw;have pL:=kL.getE pK (by omega);have qL:=kL.getE qK (by omega);have n0L:hL.n0<=p:=by rw [kL.n0,RK.kept.n0];exact n0J
 have eM:bX 1 (ptr p 3) (.slice a n c) hL=some (undef,hL.set p [.int .u64 (cm b),.int .i64 (b0 b),.int .i64 (bt b),.slice a n c]):=dK pL (by simp) n0L rfl rfl;obtain ⟨kM,pM⟩:=gR (k' := [.int .u64 (cm b),.int .i64 (b0 b),.int .i64 (bt b),.slice a n c]) pL n0L;have RM:=RL.move kM (by omega) (fun c hc=>by subst hc;exact rD pL);have sM:=kM.uW (fun c hc=>by subst hc;exact rD pL) sL;have qM:=kM.getE qL (by omega);generalize hHM:hL.set p [.int .u64 (cm b),.int .i64 (b0 b),.int .i64 (bt b),.slice a n c]=hM2 at *;have e90:=r170 RM;have l1:ld1 (ptr p 1) hM2=some (.int .i64 (b0 b),hM2):=aP pM rfl;have l2:ld1 (ptr p 2) hM2=some (.int .i64 (bt b),hM2):=aP pM rfl;have lN:bZ 4 (ptr p 0) hM2=some (.agg #[.int .u64 (cm b),.int .i64 (b0 b),.int .i64 (bt b),.slice a n c],hM2):=AW pM rfl rfl;have n0q:hM2.n0<=h.next:=by
  have e1:hM2.n0=h.n0:=by rw [kM.n0,kL.n0,RK.kept.n0,kJ.n0,kI.n0,kH.n0,kE.n0,kD.n0,RC.kept.n0,oB.n0,kA.n0]
  rw [e1];exact h.n0_le_next
 have eN:bX 4 (ptr h.next 0) (.agg #[.int .u64 (cm b),.int .i64 (b0 b),.int .i64 (bt b),.slice a n c]) hM2=some (undef,hM2.set h.next [.int .u64 (cm b),.int .i64 (b0 b),.int .i64 (bt b),.slice a n c]):=
  mY (k' := [.int .u64 (cm b),.int .i64 (b0 b),.int .i64 (bt b),.slice a n c]) qM n0q rfl rfl rfl
 obtain ⟨kN,qN⟩:=gR (k' := [.int .u64 (cm b),.int .i64 (b0 b),.int .i64 (bt b),.slice a n c]) qM n0q;have sN:=kN.uW (fun c hc=>by subst hc;exact rD qM) sM;generalize hHN:hM2.set h.next [.int .u64 (cm b),.int .i64 (b0 b),.int .i64 (bt b),.slice a n c]=hN at *;have lq:bZ 4 (ptr h.next 0) hN=some (.agg #[.int .u64 (cm b),.int .i64 (b0 b),.int .i64 (bt b),.slice a n c],hN):=AW qN rfl rfl;have hKn:h.next<=hK.next:=by have a1:=RK.kept.next;have a2:=kJ.next;have a3:=kI.next;have a4:=kH.next;have a5:=kE.next;have a6:=kD.next;omega
 refine ⟨a,n,c,hN,?_,sN,gL,?_,fun y hy=>ED hKn (fL y hy)⟩
 ·refine aJ is108 rfl ((t108_eq _ _ _ _ _).trans ?_);have hx0 : ∀ a b:Vl,extractA (.tuple #[a,b]) 0=some a:=fun _ _=>rfl;have hx1 : ∀ a b:Vl,extractA (.tuple #[a,b]) 1=some b:=fun _ _=>rfl;have hbld:dG [(.int .u64 0),(.int .i64 0),(.int .i64 0),(.slice none 0 0)] [(0,1,.int .u64 (cm b))]=some (.agg #[.int .u64 (cm b),.int .i64 0,.int .i64 0,.slice none 0 0]):=rfl;have i1:ak area = .int .i64 (area:Int):=rfl;have i2:ak D.ar = .int .i64 (D.ar:Int):=rfl;have i3:ak at_ = .int .i64 (at_:Int):=rfl;have i4:Value.int .i64 (i:Int)=ak i:=rfl;have i5:Value.int .i64 (eV b:Int)=ak (eV b):=rfl;have hz:h.alloc [(.int .u64 0),(.int .i64 0),(.int .i64 0),(.slice none 0 0)]=h.alloc gD:=rfl;have hz2:hC.alloc [(.int .u64 0),(.int .i64 0),(.int .i64 0),(.slice none 0 0)]=hC.alloc gD:=rfl;have c1:((bt b:Nat):Int)>=1↔1<=bt b:=by omega
  have c2:((b0 b:Nat):Int)<((bt b:Nat):Int)↔b0 b<bt b:=by omega
  have fin : ∀ (y:Nat->Vl) (v:Bool),y 6=ptr h.next 0->y 7 = .bool v->resultsA prog f108.results.toList (aT 70 y) hN=some (.tuple #[.agg (logC (cm b) (b0 b) (bt b) (.slice a n c)).toArray,.bool v],hN):=by intro y v h6 h7;rw [res108 y (by rw [h6];exact lq),h7];rfl
  unfold t108;simp -implicitDefEqProofs only [dj,Abs.newRow,hz,af,e55,i1,i2,i3,j8,w1,aj,dI,w2,w3,i4,eB,hx0,hx1,eC,hbld,hz2,hP,eG,eF,bV,v12,eG2,v16,eH,v18,ax,DK,eI,eJ,eK,v20,i5,eL,eM,aH];unfold mc;cases hc1:right b with
  |false=>
   simp -implicitDefEqProofs only [fs,aG,af,DJ,D3,aH,E4,lN,eN];exact fin _ _ rfl rfl
  |true=>
   simp -implicitDefEqProofs only [D6,az,af,aj,dm,D8,aH,E3,nG];cases hc2:(pa b==at_) with
   |false=>
    simp -implicitDefEqProofs only [fs,aG,af,DJ,D3,aH,E4,lN,eN];exact fin _ _ rfl rfl
   |true=>
    simp -implicitDefEqProofs only [D6,az,af,aj,ax,DK,l2,dA,D8,aH,E3];rw [F9.2 c1];cases hc3:decide (1<=bt b) with
    |false=>
     simp -implicitDefEqProofs only [fs,aG,af,DJ,D3,aH,E4,lN,eN];exact fin _ _ rfl rfl
    |true=>
     simp -implicitDefEqProofs only [D6,az,af,aj,ax,DK,l1,l2,bU,D8,aH,E3];rw [F9.2 c2];cases hc4:decide (b0 b<bt b) with
     |false=>
      simp -implicitDefEqProofs only [fs,aG,af,DJ,D3,aH,E4,lN,eN];exact fin _ _ rfl rfl
     |true=>
      simp -implicitDefEqProofs only [D6,az,af,aj,e90,D8,aH,E3,bin28e,lN,eN];have hv:((if eV b<=106 then (0:Int) else 4)==0)=decide (eV b<=106):=by
       by_cases hc:eV b<=106
       ·rw [DR hc,DS hc];rfl
       ·rw [DU hc,DP hc];rfl
      rw [hv];exact fin _ _ rfl rfl
 ·have k1:aM h hC:=(kA.trans oB).also RC.kept (fun c h1 h2=>by omega);have k2:aM h hE:=(k1.trans kD).also kE (fun c h1 h2=>by omega);have k3:aM h hH:=k2.also kH (fun c h1 h2=>by omega);have k4:aM h hJ:=(k3.also kI (fun c h1 h2=>by omega)).also kJ (fun c h1 h2=>by omega);have k5:aM h hL:=(k4.also RK.kept (fun c h1 h2=>by omega)).also kL (fun c h1 h2=>by omega);exact (k5.also kM (fun c h1 h2=>by omega)).also kN (fun c h1 h2=>by omega)
def getB_kill {h:ae} {L:Nat} (h0:h.n0<=L) (hn:L<h.next) {c:Nat} (hc:c≠L):(h.kill L).getB c=h.getB c:=by unfold ae.kill;rw [ae.fi h h0 hn,DU hc]
def bx:Vl->Option Nat
 | .slice (some a) _ _=>some a.block
 |_=>none
def cF (h:ae) (N size:Nat) (v:Vl) (len:Nat) (cells:List Vl):Prop:=
 cells.length=len*size/\Abs.noHoles cells=true/\aN cells=true /\
 ((v = .slice none 0 0/\len=0) \/ ∃ b s,v = .slice (some ⟨b,0,s⟩) len len/\N<=b/\((s=none/\len=0)\/(s=some size/\h.get b=some cells)))
def cF.nil (h:ae) (N size:Nat):cF h N size (.slice none 0 0) 0 []:=⟨by simp,rfl,rfl,.inl ⟨rfl,rfl⟩⟩
def cF.empty (h:ae) {N size b:Nat} (hb:N<=b):cF h N size (.slice (some ⟨b,0,none⟩) 0 0) 0 []:=⟨by simp,rfl,rfl,.inr ⟨b,none,rfl,hb,.inl ⟨rfl,rfl⟩⟩⟩
def cF.keep {h h':ae} {N size:Nat} {v:Vl} {len:Nat} {cells:List Vl} (o:cF h N size v len cells) {B:Nat->Prop} (k:aw h h' B) (hB : ∀ b,bx v=some b -> ¬B b):cF h' N size v len cells:=by
 obtain ⟨h1,h2,h3,h4⟩:=o;refine ⟨h1,h2,h3,?_⟩;rcases h4 with h4|⟨b,s,rfl,h5,h6|⟨h6,h7⟩⟩
 ·exact .inl h4
 ·exact .inr ⟨b,s,rfl,h5,.inl h6⟩
 ·exact .inr ⟨b,s,rfl,h5,.inr ⟨h6,k.getE h7 (hB b rfl)⟩⟩
def iX (a b:List Vl) (ha:Abs.noHoles a=true) (hb:Abs.noHoles b=true):Abs.noHoles (a++b)=true:=by unfold Abs.noHoles at *;rw [GS,ha,hb];rfl
def jQ (a b:List Vl) (ha:aN a=true) (hb:aN b=true):aN (a++b)=true:=by unfold aN at *;rw [GS,ha,hb];rfl
def cF.base {h:ae} {N size:Nat} {v:Vl} {len:Nat} {cells:List Vl} (o:cF h N size v len cells) {b:Nat} (hb:bx v=some b):N<=b:=by
 obtain ⟨_,_,_,⟨rfl,_⟩|⟨b',s,rfl,h5,_⟩⟩:=o
 ·cases hb
 ·cases hb;exact h5
def ic {h:ae} {N size qX len m:Nat} {v x:Vl} {cells news:List Vl} (o:cF h N size v len cells) (h0:h.n0<=N) (hN:N<=h.next) (hs:0<size) (hx:ot x=some m) (hf:firstA size m x h=some news)
  (h1:aN news=true) (h2:Abs.noHoles news=true) (hl:news.length=m*size) (hb:(len+m)*qX<=140737488355328) (hc:len+m<=4611686018427387904) :
  ∃ v' h',appendA size qX v x h=some (v',h')/\cF h' N size v' (len+m) (cells++news)/\aw h h' (fun c=>bx v=some c/\h.get c=some cells)/\(v'=v\/bx v'=some h.next):=by
 have o':=o;obtain ⟨o1,o2,o3,o4⟩:=o;have hcond : ∀ len':Nat,len'=len->(!(aN news) || !(decide ((len'+m)*qX<=140737488355328)) || !(decide (len'+m<=4611686018427387904))||decide (news.length≠m*size))=false:=by rintro _ rfl;rw [h1,DS hb,DS hc,DP (by omega)];rfl
 by_cases hm:m=0
 ·subst hm;have hn:news = []:=EE.1 (by omega);subst hn;have ho:cF h N size v (len+0) (cells ++ []):=by rw [GM];exact o'
  refine ⟨v,h,?_,ho,aw.refl _ _,.inl rfl⟩;rcases o4 with ⟨rfl,rfl⟩|⟨b,s,rfl,h5,h6⟩
  ·unfold appendA;simp only [hx,hf];rw [DU (by rw [hcond 0 rfl];decide),DR (by omega),DR trivial]
  ·unfold appendA;simp only [hx,hf];rw [DU (by rw [hcond len rfl];decide),DR (by omega),DR trivial]
 ·have fresh : ∀ cs:List Vl,cs = []->len=0->cF (h.alloc news) N size (.slice (some ⟨h.next,0,some size⟩) (len+m) (len+m)) (len+m) (cs++news):=by rintro _ rfl rfl;exact ⟨by simpa using hl,by simpa using h2,by simpa using h1,.inr ⟨h.next,_,rfl,hN,.inr ⟨rfl,by rw [ae.aX,DR rfl];rfl⟩⟩⟩
  rcases o4 with ⟨rfl,rfl⟩|⟨b,s,rfl,h5,⟨rfl,rfl⟩|⟨rfl,h6⟩⟩
  ·have hce:cells = []:=EE.1 (by simpa using o1);refine ⟨_,_,?_,fresh cells hce rfl,aw.alloc _ _ _,.inr rfl⟩;unfold appendA;simp only [hx,hf];rw [DU (by rw [hcond 0 rfl];decide),DU (by omega),DR trivial]
  ·have hce:cells = []:=EE.1 (by simpa using o1);refine ⟨_,_,?_,fresh cells hce rfl,aw.alloc _ _ _,.inr rfl⟩;unfold appendA;simp only [hx,hf];have f0:firstA size 0 (.slice (some ⟨b,0,none⟩) 0 0) h=some []:=by simp [firstA]
   rw [DU (by rw [hcond 0 rfl];decide),DU (by omega)];simp only [f0];rw [DU (by simp)];rfl
  ·have hf2:firstA size len (.slice (some ⟨b,0,some size⟩) len len) h=some cells:=by
    simp only [firstA];by_cases hz:len*size=0
    ·rw [DR hz];have:cells = []:=EE.1 (by omega);rw [this]
    ·rw [DU hz];simp only [h6];have e:(cells.drop 0).take (len*size)=cells:=by rw [FO,EB (by omega)]
     simp only [e];rw [DR ⟨by omega,o2⟩]
   have hlt:=h.aW h6;have hk : ∀ c,c<h.next->c≠b->((h.kill b).alloc (cells++news)).getB c=h.getB c:=by intro c hc hne;rw [ae.dt,DU (by rw [ae.qq];omega)];exact getB_kill (by omega) hlt hne
   refine ⟨.slice (some ⟨h.next,0,some size⟩) (len+m) (len+m),(h.kill b).alloc (cells++news),?_,⟨by rw [DW,o1,hl,HM],iX _ _ o2 h2,jQ _ _ o3 h1,.inr ⟨h.next,_,rfl,hN,.inr ⟨rfl,?_⟩⟩⟩,⟨rfl,by simp,fun c hc hB=>hk c hc (fun e=>hB (by rw [e];exact ⟨rfl,h6⟩))⟩,.inr rfl⟩
   ·unfold appendA;simp only [hx,hf];rw [DU (by rw [hcond len rfl];decide),DU (by omega)];simp only [hf2];rw [DU (by simp [o1]),DR (by simp [h6];omega)]
   ·rw [ae.aX,DR (by rw [ae.qq])]
structure jq (h:ae) (N:Nat) (v:Vl) (l:List Nat):Prop where
 own:cF h N 1 v l.length (l.map u8)
 byte : ∀ x∈l,x<256
def jq.nil (h:ae) (N:Nat):jq h N (.slice none 0 0) []:=⟨.nil h N 1,by simp⟩
def jq.keep {h h':ae} {N:Nat} {v:Vl} {l:List Nat} (o:jq h N v l) {B:Nat->Prop} (k:aw h h' B) (hB : ∀ b,bx v=some b -> ¬B b):jq h' N v l:=⟨o.own.keep k hB,o.byte⟩
def jq.bytes {h:ae} {N:Nat} {v:Vl} {l:List Nat} (o:jq h N v l) : ∃ a c,v = .slice a l.length c/\aq a l.length h=some l/\ct a l.length c=true/\(∀ y,a=some y->N<=y.block)/\(∀ y,a=some y->bx v=some y.block):=by
 obtain ⟨⟨o1,o2,o3,o4⟩,ob⟩:=o;rcases o4 with ⟨rfl,h4⟩|⟨b,s,rfl,h5,⟨rfl,h4⟩|⟨rfl,h6⟩⟩
 ·have:l = []:=EE.1 h4;subst this;exact ⟨none,0,rfl,rfl,rfl,fun y hy=>(by cases hy),fun y hy=>(by cases hy)⟩
 ·have:l = []:=EE.1 h4;subst this;exact ⟨_,_,rfl,rfl,rfl,fun y hy=>(by cases hy;exact h5),fun y hy=>(by cases hy;rfl)⟩
 ·refine ⟨_,_,rfl,?_,?_,fun y hy=>by cases hy;exact h5,fun y hy=>by cases hy;rfl⟩
  ·have:=dP (off:=0) (n:=l.length) (s:=some 1) h6 (by omega) ob;rw [this,FO,EB (DO _)]
  ·unfold ct;rw [FV (DO _)];rfl
def oR {h:ae} {N n c:Nat} {v:Vl} {l m:List Nat} {a:Option Addr} (o:jq h N v l) (h0:h.n0<=N) (hN:N<=h.next) (hm:aq a n h=some m) (hb:l.length+n<=100000000) :
  ∃ v' h',appendA 1 1 v (.slice a n c) h=some (v',h')/\jq h' N v' (l++m)/\aw h h' (fun c=>bx v=some c)/\(v'=v\/bx v'=some h.next):=by
 obtain ⟨hl,hbt,_⟩:=ay hm;have hf:=jv hm (DO n) (c:=c);rw [EB (by omega)] at hf;obtain ⟨v',h',e1,e2,e3,e4⟩:=ic (qX:=1) o.own h0 hN (by decide) (show ot (.slice a n c)=some n from rfl) hf (sz _) (fT _) (by simp [hl]) (by omega) (by omega);refine ⟨v',h',e1,⟨?_,?_⟩,e3.mono (fun c _ hc=>hc.1),e4⟩
 ·rw [DW,EV,hl];exact e2
 ·intro x hx;rcases EF.1 hx with hx|hx
  ·exact o.byte x hx
  ·exact hbt x hx
structure Jn where
 turn:Int
 slot:Int
 area:Nat
 gen:Nat
 known:Nat
 ready:Bool
 fin:Nat
def Jn.cells (J:Jn) (d:Nat):eW := [ptr d 0,.int .i64 J.turn,.int .i64 J.slot,ak J.area,.int .u64 J.gen,.int .u64 J.known,.bool J.ready,ak J.fin]
structure cG (h:ae) (j d:Nat) (J:Jn):Prop where
 get:h.get j=some (J.cells d)
 n0:h.n0<=j
 area:J.area<=1
def cG.keep {h h':ae} {j d:Nat} {J:Jn} (x:cG h j d J) {B:Nat->Prop} (k:aw h h' B) (hB : ¬B j):cG h' j d J:=⟨k.getE x.get hB,k.n0▸x.n0,x.area⟩
def cG.lt {h:ae} {j d:Nat} {J:Jn} (x:cG h j d J):j<h.next:=h.aW x.get
section
variable {h:ae} {j d:Nat} {J:Jn} (x:cG h j d J)
include x
def cG.l0:ld1 (ptr j 0) h=some (ptr d 0,h):=aP x.get rfl
def cG.l1:ld1 (ptr j 1) h=some (.int .i64 J.turn,h):=aP x.get rfl
def cG.l2:ld1 (ptr j 2) h=some (.int .i64 J.slot,h):=aP x.get rfl
def cG.l3:ld1 (ptr j 3) h=some (ak J.area,h):=aP x.get rfl
def cG.l4:ld1 (ptr j 4) h=some (.int .u64 J.gen,h):=aP x.get rfl
def cG.l5:ld1 (ptr j 5) h=some (.int .u64 J.known,h):=aP x.get rfl
end
def Dk.jb (D:Dk) (area at_:Nat):List Nat:=D.blk (2+area*D.ar+at_)
def Dk.part (D:Dk) (area gen at_ parts i:Nat):Bool:=mc (at_+i) (D.jb area (at_+i))&&(cm (D.jb area (at_+i))==gen)&&(b0 (D.jb area (at_+i))==i)&&(bt (D.jb area (at_+i))==parts)
def Dk.parts (D:Dk) (area at_:Nat):Nat:=bt (D.jb area at_)
def Dk.stands (D:Dk) (area gen at_:Nat):Bool:=decide (at_+D.parts area at_<=D.ar)&&decide (1<=D.parts area at_)&&(List.range (D.parts area at_)).all (D.part area gen at_ (D.parts area at_))
def Dk.data (D:Dk) (area at_ n:Nat):List Nat:=(List.range n).flatMap fun i=>jE (D.jb area (at_+i))
def Dk.data_succ (D:Dk) (area at_ n:Nat):D.data area at_ (n+1)=D.data area at_ n++jE (D.jb area (at_+n)):=by unfold Dk.data;rw [IN,GP];simp
def Dk.data_length (D:Dk) (area at_:Nat) : ∀ n,(D.data area at_ n).length<=106*n
 | 0=>by simp [Dk.data]
 |n+1=>by
  rw [D.data_succ,DW];have:=D.data_length area at_ n;have h2:(jE (D.jb area (at_+n))).length<=106:=by
   unfold jE;split
   ·rw [E0];omega
   ·simp
  omega
def Dk.not_stands {D:Dk} {area gen at_ i:Nat} (hi:i<D.parts area at_) (hp:D.part area gen at_ (D.parts area at_) i=false):D.stands area gen at_=false:=by
 unfold Dk.stands;have:(List.range (D.parts area at_)).all (D.part area gen at_ (D.parts area at_))=false:=by rw [List.all_eq_false];exact ⟨i,List.mem_range.2 hi,by rw [hp];simp⟩
 rw [this,HZ]
def is109:bJ prog 109 f109 := .of (by kernel_rfl)
def bin58n (a b:Nat):aE prog .neq 52 (.int .u64 (a:Int)) (.int .u64 (b:Int))=some (.bool (!(a==b))):=by rw [cS];show some (Value.bool (!((a:Int)==(b:Int))))=_;rw [nG]
def bin3n (a b:Nat):aE prog .neq 3 (ak a) (ak b)=some (.bool (!(a==b))):=by unfold ak;rw [cS];show some (Value.bool (!((a:Int)==(b:Int))))=_;rw [nG]
def int_lt (a b:Nat):decide ((a:Int)<(b:Int))=decide (a<b):=F9.2 (by omega)
def recFin (D:Dk) (J:Jn) (h0:ae) (at_:Nat) (ex:Ex) (y:Nat->Vl) (g:ae):Prop:=
 aM h0 g/\((ex = .ret/\y 4 = .slice none 0 0/\y 5 = .int .i64 0/\D.stands J.area J.gen at_=false) \/
  (ex = .exit 0/\D.stands J.area J.gen at_=true/\y 8=ak (D.parts J.area at_)/\jq g h0.next (y 7) (D.data J.area at_ (D.parts J.area at_))))
def recInv (D:Dk) (J:Jn) (h0:ae) (j at_:Nat) (k:Nat) (y:Nat->Vl) (g:ae):Prop:=
 ∃ i P,y 0=ptr j 0/\y 1=ak at_/\y 6=ak D.ar/\y 9=ak i/\y 8=ak P/\i<=P/\i+k=70000/\jq g h0.next (y 7) (D.data J.area at_ i)/\aM h0 g/\P<=65535 /\
   ((i=0/\P=1)\/(0<i/\P=D.parts J.area at_/\at_+i<=D.ar /\ ∀ q,q<i->D.part J.area J.gen at_ P q=true))
def fF (a b:Nat):aE prog .lss 3 (ak a) (ak b)=some (.bool (decide (a<b))):=by unfold ak;rw [bU,int_lt]
def geq3 (a b:Nat):aE prog .geq 3 (ak a) (ak b)=some (.bool (decide (b<=a))):=by unfold ak;rw [dA];exact E2 (fun q=>some (Value.bool q)) (F9.2 (by omega))
def gtr3 (a b:Nat):aE prog .gtr 3 (ak a) (ak b)=some (.bool (decide (b<a))):=by unfold ak;rw [dN];exact E2 (fun q=>some (Value.bool q)) (F9.2 (by omega))
def eql3 (a b:Nat):aE prog .eql 3 (ak a) (ak b)=some (.bool (a==b)):=by unfold ak;rw [dm,nG]
def uK {a b:Nat} (h:a+b<=9223372036854775807):aE prog .add 3 (ak a) (ak b)=some (ak (a+b)):=by unfold ak;rw [dI,wrap_i64 (by omega) (by omega),Int.natCast_add]
def sub3 {a b:Nat} (h:b<=a) (h2:a<=9223372036854775807):aE prog .sub 3 (ak a) (ak b)=some (ak (a-b)):=by unfold ak;rw [gu,wrap_i64 (by omega) (by omega)];exact E2 (fun q=>some (Value.int .i64 q)) (by omega)
def mul3 {a b:Nat} (h:a*b<=9223372036854775807):aE prog .mul 3 (ak a) (ak b)=some (ak (a*b)):=by unfold ak;rw [j8,<-Int.natCast_mul,wrap_i64 (by omega) (by omega)]
def eql3z (a:Nat):aE prog .eql 3 (ak a) (.int .i64 0)=some (.bool (a==0)):=eql3 a 0
def ei {a:Nat} (h:a+1<=9223372036854775807):aE prog .add 3 (ak a) (.int .i64 1)=some (ak (a+1)):=uK h
def Dk.vx {D:Dk} {area gen at_ i:Nat} (hi:i<D.parts area at_\/D.parts area at_=0) (hp:D.part area gen at_ (D.parts area at_) i=false):D.stands area gen at_=false:=by
 rcases hi with hi|hi
 ·exact Dk.not_stands hi hp
 ·unfold Dk.stands;rw [hi];simp
def logParts_lt {h:ae} {d:Nat} {D:Dk} (x:br h d D) (area at_:Nat):bt (D.jb area at_)<65536:=by have hb : ∀ y∈((D.jb area at_).drop 18).take 2,y<256:=fun y hy=>Dk.yy x _ y (ET (EH hy));have hl:(((D.jb area at_).drop 18).take 2).length<=2:=II ..;have:=pN _ _ rfl hb;have h2:=IB (n:=256) (by decide) hl;unfold bt;omega
def rec_round {h0:ae} {d j at_:Nat} {D:Dk} {J:Jn} (x:br h0 d D) (xj:cG h0 j d J) (h2:2<=D.n) (hat:at_<D.ar) :
  ∀ k y g,recInv D J h0 j at_ k y g->dE 89 (recInv D J h0 j at_) (recFin D J h0 at_) k (fH CD y g):=by
 rintro k y g ⟨i,P,i0,i1,i6,i9,i8,hiP,hk,ho,hold,hP,hcase⟩;have hsm:=x.small;have har:D.ar=(D.n-2)/2:=rfl;have xg:=aM.dk hold x;have jg:=xj.keep hold (fun h=>h);unfold fH;simp -implicitDefEqProofs only [i8,i9,fF,aj,af];by_cases hlt:i<P
 ·simp -implicitDefEqProofs only [DS hlt,i1,i6,i0,uK (show at_+i<=9223372036854775807 by omega),aj,af,geq3];by_cases hge:D.ar<=at_+i
  ·simp -implicitDefEqProofs only [DS hge,af];refine dE.ret ⟨hold,.inl ⟨rfl,rfl,rfl,?_⟩⟩;rcases hcase with ⟨rfl,_⟩|⟨_,rfl,_,_⟩
   ·omega
   ·unfold Dk.stands;rw [DP (show ¬at_+D.parts J.area at_<=D.ar by omega)];rfl
  ·obtain ⟨a,n,c,g1,e1,e2,e3,e4,e5⟩:=r108 xg h2 jg.area (show at_+i<D.ar by omega);have hjb:D.blk (2+J.area*D.ar+(at_+i))=D.jb J.area (at_+i):=rfl;rw [hjb] at e1 e2;have hpl:=logParts_lt x J.area (at_+i);have g2p:(g1.alloc gD).get g1.next=some gD:=by rw [ae.aX,DR rfl]
   have n02:(g1.alloc gD).n0<=g1.next:=g1.n0_le_next;generalize hcs:logC (cm (D.jb J.area (at_+i))) (b0 (D.jb J.area (at_+i))) (bt (D.jb J.area (at_+i))) (.slice a n c)=cs at e1;have hst:bX 4 (ptr g1.next 0) (.agg cs.toArray) (g1.alloc gD)=some (undef,(g1.alloc gD).set g1.next cs):=by subst hcs;exact mY g2p n02 rfl rfl rfl
   obtain ⟨k3,g3p⟩:=gR (k':=cs) g2p n02;have k2:aM g1 (g1.alloc gD):=aw.alloc g1 gD _;have k13:aM g ((g1.alloc gD).set g1.next cs):=(e4.trans k2).also k3 (fun c h1 h2=>by have:=e4.next;omega);have sB:=k3.uW (fun c hc=>by subst hc;exact rD g2p) (aM.bytes k2 e2);have hlogz:g1.alloc [(.int .u64 0),(.int .i64 0),(.int .i64 0),(.slice none 0 0)]=g1.alloc gD:=rfl;generalize hg3:(g1.alloc gD).set g1.next cs=g3 at *;have l0:ld1 (ptr g1.next 0) g3=some (.int .u64 (cm (D.jb J.area (at_+i))),g3):=by subst hcs;exact aP g3p rfl
   have l1:ld1 (ptr g1.next 1) g3=some (ak (b0 (D.jb J.area (at_+i))),g3):=by subst hcs;exact aP g3p rfl
   have l2:ld1 (ptr g1.next 2) g3=some (ak (bt (D.jb J.area (at_+i))),g3):=by subst hcs;exact aP g3p rfl
   have l3:ld1 (ptr g1.next 3) g3=some (.slice a n c,g3):=by subst hcs;exact aP g3p rfl
   have hold3:aM h0 g3:=hold.trans k13;have jg3:=xj.keep hold3 (fun h=>h);have ho3:=ho.keep k13 (fun _ _ h=>h);have hlen:=D.data_length J.area at_ i;have hn:n<=106:=by
    obtain ⟨h1,_,_⟩:=ay sB;have h2:(jE (D.jb J.area (at_+i))).length<=106:=by
     unfold jE;split
     ·rw [E0];omega
     ·simp
    omega
   obtain ⟨v',g4,f1,f2,f3,f4⟩:=oR (c:=c) ho3 (by rw [hold3.n0];exact h0.n0_le_next) hold3.next sB (by omega);rw [<-D.data_succ] at f2;have hold4:aM h0 g4:=hold3.also f3 (fun c hc hb=>by
    obtain ⟨a1,c1,e6,_,_,e7,e8⟩:=ho3.bytes;rw [e6] at hb;cases a1 with
    |none=>cases hb
    |some y1=>
     have:=e7 y1 rfl;have hb:some y1.block=some c:=hb;cases hb;omega)
   have hx0 : ∀ a b:Vl,extractA (.tuple #[a,b]) 0=some a:=fun _ _=>rfl;have hx1 : ∀ a b:Vl,extractA (.tuple #[a,b]) 1=some b:=fun _ _=>rfl;simp -implicitDefEqProofs only [DP hge,av,aj,af,ax,DK,jg.l0,jg.l3,e1,hx0,hx1,dj,Abs.newRow,hlogz,hst,eql3z];by_cases hi0:i=0
   ·have hP':D.parts J.area at_=bt (D.jb J.area (at_+i)):=by rw [hi0];rfl
    have hfl:i<D.parts J.area at_\/D.parts J.area at_=0:=by omega
    have hfail:D.part J.area J.gen at_ (bt (D.jb J.area (at_+i))) i=false->D.stands J.area J.gen at_=false:=fun hf=>Dk.vx hfl (by rw [hP'];exact hf);have hbeq:(i==0)=true:=by simp [hi0]
    have hpp:(bt (D.jb J.area (at_+i))==bt (D.jb J.area (at_+i)))=true:=D6 _;unfold Dk.part at hfail;rw [hpp,EY] at hfail;simp -implicitDefEqProofs only [hbeq,l2,aj,af,dp,aH];cases hc1:mc (at_+i) (D.jb J.area (at_+i)) with
    |false=>
     simp -implicitDefEqProofs only [EJ,sf,aG,af,D8,aH];exact dE.ret ⟨hold3,.inl ⟨rfl,rfl,rfl,hfail (by rw [hc1];rfl)⟩⟩
    |true=>
     simp -implicitDefEqProofs only [EP,D6,az,af,aj,ax,DK,l0,jg3.l4,bin58n,av,DJ,D3,aH];cases hc2:(cm (D.jb J.area (at_+i))==J.gen) with
     |false=>
      simp -implicitDefEqProofs only [EJ,sf,aG,af,D8,aH];exact dE.ret ⟨hold3,.inl ⟨rfl,rfl,rfl,hfail (by rw [hc1,hc2];rfl)⟩⟩
     |true=>
      simp -implicitDefEqProofs only [EP,D6,az,af,aj,ax,DK,l1,bin3n,DJ,D3,aH];cases hc3:(b0 (D.jb J.area (at_+i))==i) with
      |false=>
       simp -implicitDefEqProofs only [EJ,sf,aG,af,D8,aH];exact dE.ret ⟨hold3,.inl ⟨rfl,rfl,rfl,hfail (by rw [hc1,hc2,hc3];rfl)⟩⟩
      |true=>
       simp -implicitDefEqProofs only [EP,D6,az,af,aj,l2,bin3n,DJ,D3,l3,f1,ei (show i+1<=9223372036854775807 by omega)];have h1p:1<=bt (D.jb J.area (at_+i)):=by unfold mc at hc1;simp only [DN,D7] at hc1;exact hc1.1.1.2
       refine dE.next (k-1) (by omega) ⟨i+1,bt (D.jb J.area (at_+i)),i0,i1,i6,rfl,rfl,by omega,by omega,f2,hold4,by omega,.inr ⟨by omega,hP'.symm,by omega,?_⟩⟩;intro q hq;have:q=i:=by omega
       subst this;unfold Dk.part;rw [hc1,hc2,hc3,hpp];rfl
   ·rcases hcase with ⟨h,_⟩|⟨hi1,hPe,hati,hall⟩
    ·exact absurd h hi0
    have hfail:D.part J.area J.gen at_ P i=false->D.stands J.area J.gen at_=false:=fun hf=>Dk.vx (i:=i) (.inl (by omega)) (by rw [<-hPe];exact hf);have hbeq:(i==0)=false:=by simp [hi0]
    unfold Dk.part at hfail;simp -implicitDefEqProofs only [hbeq,aj,af,dp,aH];cases hc1:mc (at_+i) (D.jb J.area (at_+i)) with
    |false=>
     simp -implicitDefEqProofs only [EJ,sf,aG,af,D8,aH];exact dE.ret ⟨hold3,.inl ⟨rfl,rfl,rfl,hfail (by rw [hc1];rfl)⟩⟩
    |true=>
     simp -implicitDefEqProofs only [EP,D6,az,af,aj,ax,DK,l0,jg3.l4,bin58n,av,DJ,D3,aH];cases hc2:(cm (D.jb J.area (at_+i))==J.gen) with
     |false=>
      simp -implicitDefEqProofs only [EJ,sf,aG,af,D8,aH];exact dE.ret ⟨hold3,.inl ⟨rfl,rfl,rfl,hfail (by rw [hc1,hc2];rfl)⟩⟩
     |true=>
      simp -implicitDefEqProofs only [EP,D6,az,af,aj,ax,DK,l1,bin3n,DJ,D3,aH];cases hc3:(b0 (D.jb J.area (at_+i))==i) with
      |false=>
       simp -implicitDefEqProofs only [EJ,sf,aG,af,D8,aH];exact dE.ret ⟨hold3,.inl ⟨rfl,rfl,rfl,hfail (by rw [hc1,hc2,hc3];rfl)⟩⟩
      |true=>
       simp -implicitDefEqProofs only [EP,D6,az,af,aj,l2,bin3n,DJ,D3];cases hc4:(bt (D.jb J.area (at_+i))==P) with
       |false=>
        simp -implicitDefEqProofs only [EJ];exact dE.ret ⟨hold3,.inl ⟨rfl,rfl,rfl,hfail (by rw [hc1,hc2,hc3,hc4];rfl)⟩⟩
       |true=>
        simp -implicitDefEqProofs only [EP,ax,DK,aj,af,l3,f1,ei (show i+1<=9223372036854775807 by omega)];refine dE.next (k-1) (by omega) ⟨i+1,P,i0,i1,i6,rfl,i8,by omega,by omega,f2,hold4,hP,.inr ⟨by omega,hPe,by omega,?_⟩⟩;intro q hq;by_cases hqi:q=i
        ·subst hqi;unfold Dk.part;rw [hc1,hc2,hc3,hc4];rfl
        ·exact hall q (by omega)
 ·simp -implicitDefEqProofs only [DP hlt];have hii:i=P:=by omega
  rcases hcase with ⟨h,h'⟩|⟨hi1,hPe,hati,hall⟩
  ·omega
  ·refine dE.out 0 ⟨hold,.inr ⟨rfl,?_,?_,?_⟩⟩
   ·unfold Dk.stands;rw [<-hPe,DS (show at_+P<=D.ar by omega),DS (show 1<=P by omega)];simp only [E3,DX,List.mem_range];exact fun q hq=>hall q (by omega)
   ·show y 8=_;rw [i8,hPe]
   ·show jq g h0.next (y 7) _;rw [<-hPe,<-hii];exact ho
def rec_loop {h0:ae} {d j at_:Nat} {D:Dk} {J:Jn} (x:br h0 d D) (xj:cG h0 j d J) (h2:2<=D.n) (hat:at_<D.ar) {y:Nat->Vl} (i0:y 0=ptr j 0) (i1:y 1=ak at_) (i6:y 6=ak D.ar) (i9:y 9=ak 0) (i8:y 8=ak 1) (i7:y 7 = .slice none 0 0) :
  Fin 89 (recFin D J h0 at_) (iter (codeA prog CD (al f109 [1,1,1,1,1,0,1,0,0])) aK (aT 89 y) h0):=
 cj (pU CD) (rec_round x xj h2 hat) 70000 (by have:aK=18446744073709551616:=rfl;omega)
  ⟨0,1,i0,i1,i6,i9,i8,by omega,rfl,by rw [i7];exact .nil _ _,aw.refl _ _,by omega,.inl ⟨rfl,rfl⟩⟩
def wP {h:ae} {d j:Nat} {D:Dk} {J:Jn} (x:br h d D) (xj:cG h j d J) (h2:2<=D.n) (at_:Int) (hout:J.slot<0\/at_<0\/(D.ar:Int)<=at_) :
  CD 109 [ptr j 0,.int .i64 at_] h=some (.tuple #[.slice none 0 0,.int .i64 0],h):=by
 refine aJ is109 rfl ((t109_eq _ _ _ _).trans ?_);unfold t109;simp -implicitDefEqProofs only [af,av,aj,ax,DK,xj.l0,yA x h2,xj.l2,bU,aH];by_cases c1:J.slot<0
 ·simp -implicitDefEqProofs only [c1,GO,sf,aG,af,D8,aH]
 ·simp -implicitDefEqProofs only [c1,FN,D6,az,af,aj,bU,DJ,D3,aH];by_cases c2:at_<0
  ·simp -implicitDefEqProofs only [c2,GO,sf,aG,af,D8]
  ·have c3:at_>=(D.ar:Int):=by omega
   simp -implicitDefEqProofs only [c2,FN,D6,az,af,aj,ak,dA,c3,GO,DJ,D3]
def xC {h:ae} {d j:Nat} {D:Dk} {J:Jn} (x:br h d D) (xj:cG h j d J) (h2:2<=D.n) {at_:Nat} (hs:0<=J.slot) (hat:at_<D.ar) :
  (D.stands J.area J.gen at_=false /\ ∃ h',CD 109 [ptr j 0,ak at_] h=some (.tuple #[.slice none 0 0,.int .i64 0],h')/\aM h h') \/
  (D.stands J.area J.gen at_=true /\ ∃ v h',CD 109 [ptr j 0,ak at_] h=some (.tuple #[v,ak (D.parts J.area at_)],h')/\aM h h'/\jq h' h.next v (D.data J.area at_ (D.parts J.area at_))):=by
 have c1 : ¬J.slot<0:=by omega
 have c2 : ¬((at_:Int)<0):=by omega
 have c3 : ¬((at_:Int)>=(D.ar:Int)):=by omega
 have key : ∀ (o:ba),aY prog CD f109 [ptr j 0,ak at_] h=o->(D.stands J.area J.gen at_=false /\ ∃ h',o=some (.tuple #[.slice none 0 0,.int .i64 0],h')/\aM h h') \/
  (D.stands J.area J.gen at_=true /\ ∃ v h',o=some (.tuple #[v,ak (D.parts J.area at_)],h')/\aM h h'/\jq h' h.next v (D.data J.area at_ (D.parts J.area at_))):=by
  intro o ho;subst ho;rw [t109_eq];unfold t109;simp -implicitDefEqProofs only [af,av,aj,ax,DK,xj.l0,yA x h2,xj.l2,bU,aH,c1,c2,c3,FN,D6,az,ak,dA,DJ,D3];refine cp (Q:=fun (o:ba)=>(D.stands J.area J.gen at_=false /\ ∃ h',o=some (.tuple #[.slice none 0 0,.int .i64 0],h')/\aM h h') \/
   (D.stands J.area J.gen at_=true /\ ∃ v h',o=some (.tuple #[v,ak (D.parts J.area at_)],h')/\aM h h'/\jq h' h.next v (D.data J.area at_ (D.parts J.area at_)))) (rec_loop x xj h2 hat rfl rfl rfl rfl rfl rfl) ?_
  rintro ex y g ⟨hold,⟨rfl,y4,y5,hst⟩|⟨rfl,hst,y8,hown⟩⟩
  ·refine .inl ⟨hst,g,?_,hold⟩;have hr:f109.results.toList = [.tmp 4,.tmp 5]:=by kernel_rfl
   have h4:(aT 89 y).getD 4 undef=y 4:=rfl;have h5:(aT 89 y).getD 5 undef=y 5:=rfl;show resultsA prog f109.results.toList (aT 89 y) g=_;rw [hr];simp only [resultsA,FW,List.mapM_nil,dy,h4,h5,y4,y5];rfl
  ·refine .inr ⟨hst,y 7,g,?_,hold,hown⟩;simp -implicitDefEqProofs only [bK,b109_9,D8,AH];unfold rJ;simp -implicitDefEqProofs only [y8,af]
 rcases key _ rfl with ⟨h3,h',h4,h5⟩|⟨h3,v,h',h4,h5,h6⟩
 ·exact .inl ⟨h3,h',aJ is109 rfl h4,h5⟩
 ·exact .inr ⟨h3,v,h',aJ is109 rfl h4,h5,h6⟩
def Jn.live (J:Jn) (D:Dk):Bool := !D.down&&(D.turn==J.turn)
def eql119 (b o:Nat):aE prog .eql 119 (ptr b o) (.pointer none)=some (.bool false):=by kernel_rfl
def r132 {h:ae} {d j:Nat} {D:Dk} {J:Jn} (x:br h d D) (xj:cG h j d J):CD 132 [ptr j 0] h=some (.int .i64 (if J.live D then 0 else 9),h):=by
 refine aJ is132 rfl ((t132_eq _ _ _).trans ?_);unfold t132 Jn.live;simp -implicitDefEqProofs only [af,eql119,aj,av,ax,DK,xj.l0,x.l1,aH];cases D.down with
 |true=>rfl
 |false=>
  have hne:aE prog .neq 3 (.int .i64 D.turn) (.int .i64 J.turn)=some (.bool (D.turn != J.turn)):=cS ..;simp -implicitDefEqProofs only [D6,az,af,aj,av,ax,DK,xj.l0,x.l5,xj.l1,hne,DJ,D3,EJ,E3,bne];cases (D.turn==J.turn)<;>rfl
def is128:bJ prog 128 f128 := .of (by kernel_rfl)
def r115 {h:ae} {d j:Nat} {D:Dk} {J:Jn} (x:br h d D) (xj:cG h j d J) (h2:2<=D.n):CD 115 [ptr j 0] h=some (ak (if J.live D then D.ar else 0),h):=by
 refine aJ is115 rfl ((t115_eq _ _ _).trans ?_);unfold t115;simp -implicitDefEqProofs only [af,r132 x xj,aj,cZ];cases J.live D with
 |true=>simp -implicitDefEqProofs only [D8,EW,af,av,aj,ax,DK,xj.l0,yA x h2]
 |false=>rfl
def eQ {o:ba} {v:Vl} {q:ae} (h:o=some (v,q)) (hv:veq v v=true):fP true o v=true:=by unfold fP Abs.same;rw [h];simpa using hv
def Jn.stands (J:Jn) (D:Dk) (at_:Int):Bool:=decide (0<=J.slot)&&decide (0<=at_)&&decide (at_<(D.ar:Int))&&D.stands J.area J.gen at_.toNat
def Dk.nv {D:Dk} {area gen at_:Nat} (h:D.stands area gen at_=true):1<=D.parts area at_/\at_+D.parts area at_<=D.ar:=by unfold Dk.stands at h;simp only [DN,D7] at h;exact ⟨h.1.2,h.1.1⟩
def r128_dead {h:ae} {d j:Nat} {D:Dk} {J:Jn} (x:br h d D) (xj:cG h j d J) (at_:Vl) (hl:J.live D=false):CD 128 [ptr j 0,at_] h=some (.tuple #[.slice none 0 0,.int .i64 9],h):=by refine aJ is128 rfl ((Co _ _ _ _).trans ?_);unfold t128;simp -implicitDefEqProofs only [af,r132 x xj,hl,DJ,D3,aj,cZ,show ((9:Int) != 0)=true from rfl]
def r128_no {h:ae} {d j:Nat} {D:Dk} {J:Jn} (x:br h d D) (xj:cG h j d J) (h2:2<=D.n) (at_:Int) (hl:J.live D=true) (hs:J.stands D at_=false) :
  ∃ h',CD 128 [ptr j 0,.int .i64 at_] h=some (.tuple #[.slice none 0 0,.int .i64 6],h')/\aM h h':=by
 have key : ∃ h',CD 109 [ptr j 0,.int .i64 at_] h=some (.tuple #[.slice none 0 0,.int .i64 0],h')/\aM h h':=by
  by_cases hout:J.slot<0\/at_<0\/(D.ar:Int)<=at_
  ·exact ⟨h,wP x xj h2 at_ hout,aw.refl _ _⟩
  ·obtain ⟨m,rfl⟩ : ∃ m:Nat,at_=m:=⟨at_.toNat,by omega⟩
   rcases xC x xj h2 (at_:=m) (by omega) (by omega) with ⟨_,h',h3,h4⟩|⟨h3,_⟩
   ·exact ⟨h',h3,h4⟩
   ·unfold Jn.stands at hs;rw [Int.toNat_natCast,h3,DS (show 0<=J.slot by omega),DS (show (0:Int)<=(m:Int) by omega),DS (show (m:Int)<(D.ar:Int) by omega)] at hs;cases hs
 obtain ⟨h',h3,h4⟩:=key;refine ⟨h',aJ is128 rfl ((Co _ _ _ _).trans ?_),h4⟩;have hx0 : ∀ a b:Vl,extractA (.tuple #[a,b]) 0=some a:=fun _ _=>rfl;have hx1 : ∀ a b:Vl,extractA (.tuple #[a,b]) 1=some b:=fun _ _=>rfl;have hz:aE prog .eql 3 (.int .i64 0) (.int .i64 0)=some (.bool true):=eql3z 0;unfold t128;simp -implicitDefEqProofs only [af,r132 x xj,hl,D8,aj,cZ,EW,h3,hx0,hx1,hz]
def r128_yes {h:ae} {d j:Nat} {D:Dk} {J:Jn} (x:br h d D) (xj:cG h j d J) (h2:2<=D.n) {at_:Nat} (hl:J.live D=true) (hs:J.stands D at_=true) :
  ∃ v h',CD 128 [ptr j 0,ak at_] h=some (.tuple #[v,.int .i64 0],h')/\aM h h'/\jq h' h.next v (D.data J.area at_ (D.parts J.area at_)):=by
 unfold Jn.stands at hs;simp only [DN,D7,Int.toNat_natCast] at hs;rcases xC x xj h2 (at_:=at_) (by omega) (by omega) with ⟨h3,_⟩|⟨_,v,h',h3,h4,h5⟩
 ·rw [h3] at hs;cases hs.2
 ·refine ⟨v,h',aJ is128 rfl ((Co _ _ _ _).trans ?_),h4,h5⟩;have hx0 : ∀ a b:Vl,extractA (.tuple #[a,b]) 0=some a:=fun _ _=>rfl;have hx1 : ∀ a b:Vl,extractA (.tuple #[a,b]) 1=some b:=fun _ _=>rfl;have hp:=(Dk.nv hs.2).1;have hz:(D.parts J.area at_==0)=false:=by rw [GJ];omega
  unfold t128;simp -implicitDefEqProofs only [af,r132 x xj,hl,D8,aj,cZ,EW,h3,hx0,hx1,eql3z,hz]
structure sK (h:ae) (N w lim:Nat) (l:List Nat):Prop where
 ex : ∃ v,h.get w=some [ak lim,.bool false,v]/\jq h N v l/\bx v≠some w
 n0:h.n0<=N
 Nw:N<=w
 small:lim<=100000
abbrev vP (N:Nat) (h h':ae):Prop:=aw h h' (fun c=>N<=c)
def sK.lt {h:ae} {N w lim:Nat} {l:List Nat} (W:sK h N w lim l):w<h.next:=by obtain ⟨v,h1,_⟩:=W.ex;exact h.aW h1
def jq.nat8 {h:ae} {N:Nat} {v:Vl} {l:List Nat} (o:jq h N v l):nat8 v=none:=by obtain ⟨a,c,rfl,_⟩:=o.bytes;rfl
def jq.cell {h:ae} {N:Nat} {v:Vl} {l:List Nat} (o:jq h N v l):v.cells = #[v]/\v.oneCell'=true/\cw v=false:=by obtain ⟨a,c,rfl,_⟩:=o.bytes;exact ⟨rfl,rfl,rfl⟩
def tA {h:ae} {N w lim:Nat} {l m:List Nat} {a:Option Addr} {n c:Nat} (W:sK h N w lim l) (hm:aq a n h=some m) (hb:l.length+n<=100000) :
  ∃ v v' g g',ld1 (ptr w 2) h=some (v,h)/\appendA 1 1 v (.slice a n c) h=some (v',g)/\bX 1 (ptr w 2) v' g=some (undef,g')/\sK g' N w lim (l++m)/\vP N h g':=by
 obtain ⟨v,h1,h2,h3⟩:=W.ex;have hlt:=W.lt;have hNw:=W.Nw;obtain ⟨v',g,e1,e2,e3,e4⟩:=oR (c:=c) h2 W.n0 (by omega) hm (by omega);have hg:=e3.getE h1 h3;obtain ⟨c1,c2,c3⟩:=e2.cell;have n0g:g.n0<=w:=by rw [e3.n0];have:=W.n0;omega
 have hst:bX 1 (ptr w 2) v' g=some (undef,g.set w [ak lim,.bool false,v']):=dK hg (by simp) n0g c1 c2;obtain ⟨k2,k3⟩:=gR (k' := [ak lim,.bool false,v']) hg n0g;have hv':bx v'≠some w:=by
  rcases e4 with rfl|e4
  ·exact h3
  ·rw [e4];intro he;cases he;omega
 refine ⟨v,v',g,_,aP h1 rfl (h2.cell.2.2),e1,hst,⟨⟨v',k3,e2.keep k2 (fun b hb hc=>by subst hc;exact hv' hb),hv'⟩,?_,hNw,W.small⟩,?_⟩
 ·rw [k2.n0,e3.n0];exact W.n0
 ·refine (e3.mono (B':=fun c=>N<=c) ?_).trans (k2.mono (fun c _ hc=>by rw [hc];exact hNw));intro b _ hb;obtain ⟨a1,c4,rfl,_,_,h7,h8⟩:=h2.bytes;cases a1 with
  |none=>cases hb
  |some y=>
   have hb:some y.block=some b:=hb;cases hb;exact h7 y rfl
def r116 (h:ae) {lim:Nat} (hl:lim<=100000) : ∃ h',CD 116 [ak lim] h=some (ptr h.next 0,h')/\sK h' h.next h.next lim []/\vP h.next h h':=by
 have hmx:minmax true (.int .i64 0) [ak lim]=some (ak lim):=by
  simp only [minmax,ak,D8];by_cases h0:(lim:Int)>0
  ·rw [DR (by simpa using h0)]
  ·have:lim=0:=by omega
   subst this;rfl
 have hb:dG [(.int .i64 0),(.bool false),(.slice none 0 0)] [(0,1,ak lim)]=some (.agg [ak lim,.bool false,.slice none 0 0].toArray):=rfl;refine ⟨h.alloc [ak lim,.bool false,.slice none 0 0],aJ is116 rfl ((t116_eq _ _ _).trans ?_),⟨⟨.slice none 0 0,by rw [ae.aX,DR rfl],.nil _ _,by intro h;cases h⟩,h.n0_le_next,DO _,hl⟩,aw.alloc _ _ _⟩;unfold t116;simp -implicitDefEqProofs only [af,hmx,aj,hb,iL h [ak lim,.bool false,.slice none 0 0] rfl]
def eql218 (b o:Nat):aE prog .eql 218 (ptr b o) (.pointer none)=some (.bool false):=by kernel_rfl
def r181 {h:ae} {N w lim:Nat} {l:List Nat} (W:sK h N w lim l) {n:Nat} (hn:l.length+n<=lim) : ∃ h',CD 181 [ptr w 0,ak n] h=some (.bool true,h')/\sK h' N w lim l/\aw h h' (fun c=>c=w):=by
 obtain ⟨v,h1,h2,h3⟩:=W.ex;obtain ⟨a,c,hv,h4,h5,h6,h7⟩:=h2.bytes;have hNw:=W.Nw;have n0w:h.n0<=w:=by have:=W.n0;omega
 have l0:ld1 (ptr w 0) h=some (ak lim,h):=aP h1 rfl;have l1:ld1 (ptr w 1) h=some (.bool false,h):=aP h1 rfl;have l2:ld1 (ptr w 2) h=some (.slice a l.length c,h):=by rw [<-hv];exact aP h1 rfl (h2.cell.2.2)
 have hst:bX 1 (ptr w 1) (.bool false) h=some (undef,h.set w [ak lim,.bool false,v]):=dK h1 (by simp) n0w rfl rfl;obtain ⟨k2,k3⟩:=gR (k' := [ak lim,.bool false,v]) h1 n0w;have hsm:=W.small;have hd:(decide (lim-l.length<n))=false:=DP (by omega);refine ⟨_,aJ is181 rfl ((t181_eq _ _ _ _).trans ?_),⟨⟨v,k3,h2.keep k2 (fun b hb hc=>by subst hc;exact h3 hb),h3⟩,k2.n0▸W.n0,hNw,hsm⟩,k2⟩;have l1':ld1 (ptr w 1) (h.set w [ak lim,.bool false,v])=some (.bool false,h.set w [ak lim,.bool false,v]):=aP k3 rfl;unfold t181;simp -implicitDefEqProofs only [af,eql218,aj,aH,D6,az,av,ax,DK,l1,DJ,D3,l0,l2,cV];rw [show (Value.int .i64 (l.length:Int))=ak l.length from rfl];simp -implicitDefEqProofs only [sub3 (show l.length<=lim by omega) (show lim<=9223372036854775807 by omega),aj,af,gtr3,hd,hst,av,ax,DK,l1',dp,EJ]
def iZ:Nat->Nat->List Nat
 | 0,_ => []
 |n+1,v=>(v/256^n%256)::iZ n v
def bY : ∀ n v,(iZ n v).length=n
 | 0,_=>rfl
 |n+1,v=>by rw [iZ,List.length_cons,bY]
def beB_byte : ∀ n v,∀ x∈iZ n v,x<256
 |n+1,v,x,h=>by
  rw [iZ] at h;rcases EN.1 h with rfl|h
  ·exact HE _ (by decide)
  ·exact beB_byte n v x h
def is180:bJ prog 180 f180 := .of (by kernel_rfl)
def bsl1 (h:ae) (x:Nat):fE 1 (.int .u8 0) 1 [(0,u8 x)] h=some (.slice (some ⟨h.next,0,none⟩) 1 1,h.alloc [u8 x]):=rfl
def bytes1 (h:ae) {x:Nat} (hx:x<256):aq (some ⟨h.next,0,none⟩) 1 (h.alloc [u8 x])=some [x]:=by have:=dP (h:=h.alloc [u8 x]) (b:=h.next) (off:=0) (n:=1) (s:=none) (l := [x]) (by rw [ae.aX,DR rfl];rfl) (by simp) (by simpa using hx);rw [this];rfl
def sK.alloc {h:ae} {N w lim:Nat} {l:List Nat} (W:sK h N w lim l) (k:eW):sK (h.alloc k) N w lim l:=by obtain ⟨v,h1,h2,h3⟩:=W.ex;have ka:aw h (h.alloc k) (fun _=>False):=aw.alloc _ _ _;exact ⟨⟨v,ka.getE h1 (fun h=>h),h2.keep ka (fun _ _ h=>h),h3⟩,W.n0,W.Nw,W.small⟩
def r180 {h:ae} {N w lim:Nat} {l:List Nat} (W:sK h N w lim l) {v n:Nat} (h1n:1<=n) (hn:n<=8) (hfit:l.length+n<=lim) (hv:v<18446744073709551616) :
  ∃ h',CD 180 [ptr w 0,.int .u64 v,ak n] h=some (.tuple #[],h')/\sK h' N w lim (l++iZ n v)/\vP N h h':=by
 obtain ⟨h1,e1,W1,k1⟩:=r181 W hfit;have k1:vP N h h1:=k1.mono (fun c _ hc=>by rw [hc];exact W.Nw);have hsm:=W.small;have key:Fin 30 (fun ex y g=>ex = .exit 0/\sK g N w lim (l++iZ n v)/\vP N h g)
   (iter (codeA prog CD (al f180 [1,0,1,0,0])) aK (aT 30 (up (bs [ptr w 0,.int .u64 v,ak n]) [(6,ak (n-1)),(7,ptr w 0),(8,ak n),(9,.bool true),(10,ak n),(11,ak (n-1))])) h1):=by
  refine cj (ui CD) (Inv:=fun k y g=>k<=n/\y 0=ptr w 0/\y 1 = .int .u64 v/\y 6 = .int .i64 ((k:Int)-1)/\vP N h g /\ ∃ cur,sK g N w lim cur/\cur++iZ k v=l++iZ n v) ?_ n (by have:aK=18446744073709551616:=rfl;omega)
   ⟨DO _,rfl,rfl,by show ak (n-1)=_;unfold ak;exact E2 _ (by omega),k1,l,W1,rfl⟩
  rintro k y g ⟨hk,i0,i1,i6,hkept,cur,Wc,hcur⟩;have hclen:cur.length+k=l.length+n:=by have:=E2 List.length hcur;simpa [bY] using this
  unfold mw;simp -implicitDefEqProofs only [i6,af,dA,aj];by_cases hz:k=0
  ·subst hz;have hd:decide ((((0:Nat):Int)-1)>=0)=false:=by decide
   simp -implicitDefEqProofs only [hd];refine dE.out 0 ⟨rfl,?_,hkept⟩;have:cur=l++iZ n v:=by simpa [iZ] using hcur
   rw [<-this];exact Wc
  ·obtain ⟨q,rfl⟩ : ∃ q,k=q+1:=⟨k-1,by omega⟩
   have hd:decide ((((q+1:Nat):Int)-1)>=0)=true:=DS (by omega);have hm8:aE prog .mul 3 (.int .i64 8) (.int .i64 (((q+1:Nat):Int)-1))=some (.int .i64 ((8*q:Nat):Int)):=by rw [j8,wrap_i64 (by omega) (by omega)];exact E2 (fun z=>some (Value.int .i64 z)) (by omega)
   have hsh:aE prog .shr 52 (.int .u64 (v:Int)) (.int .i64 ((8*q:Nat):Int))=some (.int .u64 ((v/256^q:Nat):Int)):=by rw [dx prog 52 (k := .u64) (k' := .i64) (b:=8*q) (by show 8*q<=64;omega)];rw [show (2:Nat)^(8*q)=256^q by rw [Nat.pow_mul]]
   have hcv:IntKind.wrap .u8 ((v/256^q:Nat):Int)=((v/256^q%256:Nat):Int):=by rw [fU];omega
   have hlt8:v/256^q%256<256:=HE _ (by decide);generalize hx:v/256^q%256=x at *;obtain ⟨v1,v2,g1,g2,f1,f2,f3,f4,f5⟩:=tA (c:=1) (Wc.alloc [u8 x]) (bytes1 g hlt8) (by omega);have hl2:ld1 (ptr w 2) g=some (v1,g):=by obtain ⟨vv,q1,q2,q3⟩:=Wc.ex;have e1:ld1 (ptr w 2) g=some (vv,g):=aP q1 rfl (q2.cell.2.2);have e2:ld1 (ptr w 2) (g.alloc [u8 x])=some (vv,g.alloc [u8 x]):=aP (ae.iF q1 _) rfl (q2.cell.2.2);rw [e2] at f1;simp only [DH,DQ,and_true] at f1;rw [<-f1];exact e1
   have hsub:aE prog .sub 3 (.int .i64 (((q+1:Nat):Int)-1)) (.int .i64 1)=some (.int .i64 ((q:Int)-1)):=by rw [gu,wrap_i64 (by omega) (by omega)];exact E2 (fun z=>some (Value.int .i64 z)) (by omega)
   simp -implicitDefEqProofs only [hd,i0,i1,af,aj,av,ax,DK,hl2,hm8,hsh,bV,hcv];rw [show (Value.int .u8 (x:Int))=u8 x from rfl,bsl1];simp -implicitDefEqProofs only [af,f2,aj,av,ax,DK,f3,hsub];refine dE.next q (by omega) ⟨by omega,i0,i1,rfl,?_,cur ++ [x],f4,?_⟩
   ·exact (hkept.trans (aw.alloc g _ _)).trans f5
   ·rw [<-hcur,iZ,hx,FD];rfl
 obtain ⟨ex,y,g,q1,rfl,q2,q3⟩:=key;refine ⟨g,aJ is180 rfl ((t180_eq _ _ _ _ _).trans ?_),q2,q3⟩;unfold t180;have hs1:aE prog .sub 3 (ak n) (.int .i64 1)=some (ak (n-1)):=sub3 (b:=1) h1n (by omega);simp -implicitDefEqProofs only [af,e1,hs1,aj];rw [q1];simp -implicitDefEqProofs only [bK,b180_2,D8];have hr:f180.results.toList = []:=by kernel_rfl
 rw [hr];rfl
def is177:bJ prog 177 f177 := .of (by kernel_rfl)
def is133:bJ prog 133 f133 := .of (by kernel_rfl)
def is117:bJ prog 117 f117 := .of (by kernel_rfl)
def is118:bJ prog 118 f118 := .of (by kernel_rfl)
section
variable {h:ae} {N w lim:Nat} {l:List Nat} (W:sK h N w lim l)
include W
def r177 {v:Nat} (hfit:l.length+4<=lim) (hv:v<4294967296) : ∃ h',CD 177 [ptr w 0,.int .u32 v] h=some (.tuple #[],h')/\sK h' N w lim (l++iZ 4 v)/\vP N h h':=by obtain ⟨h1,e1,e2,e3⟩:=r180 W (v:=v) (n:=4) (by decide) (by decide) hfit (by omega);have e1:CD 180 [ptr w 0,.int .u64 v,.int .i64 4] h=_:=e1;have hw:IntKind.wrap .u64 (v:Int)=(v:Int):=wrap_u64 (by omega) (by omega);refine ⟨h1,aJ is177 rfl ((t177_eq _ _ _ _).trans ?_),e2,e3⟩;unfold t177;simp -implicitDefEqProofs only [af,bV,hw,e1]
def r133 {v:Nat} (hfit:l.length+8<=lim) (hv:v<18446744073709551616) : ∃ h',CD 133 [ptr w 0,.int .u64 v] h=some (.tuple #[],h')/\sK h' N w lim (l++iZ 8 v)/\vP N h h':=by obtain ⟨h1,e1,e2,e3⟩:=r180 W (v:=v) (n:=8) (by decide) (by decide) hfit (by omega);have e1:CD 180 [ptr w 0,.int .u64 v,.int .i64 8] h=_:=e1;refine ⟨h1,aJ is133 rfl ((t133_eq _ _ _ _).trans ?_),e2,e3⟩;unfold t133;simp -implicitDefEqProofs only [af,e1]
def r117 {v:Nat} (hfit:l.length+1<=lim) (hv:v<256) : ∃ h',CD 117 [ptr w 0,.int .u8 v] h=some (.tuple #[],h')/\sK h' N w lim (l++iZ 1 v)/\vP N h h':=by obtain ⟨h1,e1,e2,e3⟩:=r180 W (v:=v) (n:=1) (by decide) (by decide) hfit (by omega);have e1:CD 180 [ptr w 0,.int .u64 v,.int .i64 1] h=_:=e1;have hw:IntKind.wrap .u64 (v:Int)=(v:Int):=wrap_u64 (by omega) (by omega);refine ⟨h1,aJ is117 rfl ((t117_eq _ _ _ _).trans ?_),e2,e3⟩;unfold t117;simp -implicitDefEqProofs only [af,bV,hw,e1]
def r118 {v:Nat} (hfit:l.length+2<=lim) (hv:v<65536) : ∃ h',CD 118 [ptr w 0,.int .u16 v] h=some (.tuple #[],h')/\sK h' N w lim (l++iZ 2 v)/\vP N h h':=by obtain ⟨h1,e1,e2,e3⟩:=r180 W (v:=v) (n:=2) (by decide) (by decide) hfit (by omega);have e1:CD 180 [ptr w 0,.int .u64 v,.int .i64 2] h=_:=e1;have hw:IntKind.wrap .u64 (v:Int)=(v:Int):=wrap_u64 (by omega) (by omega);refine ⟨h1,aJ is118 rfl ((t118_eq _ _ _ _).trans ?_),e2,e3⟩;unfold t118;simp -implicitDefEqProofs only [af,bV,hw,e1]
def sK.l2' {k:eW} {v:Vl} (e:ld1 (ptr w 2) (h.alloc k)=some (v,h.alloc k)):ld1 (ptr w 2) h=some (v,h):=by obtain ⟨vv,q1,q2,q3⟩:=W.ex;have e1:ld1 (ptr w 2) h=some (vv,h):=aP q1 rfl (q2.cell.2.2);have e2:ld1 (ptr w 2) (h.alloc k)=some (vv,h.alloc k):=aP (ae.iF q1 _) rfl (q2.cell.2.2);rw [e2] at e;simp only [DH,DQ,and_true] at e;rw [<-e];exact e1
def r119 {a:Option Addr} {n c:Nat} {m:List Nat} (hm:aq a n h=some m) (ha : ∀ y,a=some y->0<n->y.block<N) (hfit:l.length+(n+2)<=lim) (hn:n<65536) :
  ∃ h',CD 119 [ptr w 0,.slice a n c] h=some (.tuple #[],h')/\sK h' N w lim (l++iZ 2 n++m)/\vP N h h':=by
 obtain ⟨h1,e1,W1,k1⟩:=r181 W (n:=n+2) hfit;have k1:vP N h h1:=k1.mono (fun c _ hc=>by rw [hc];exact W.Nw);have hsm:=W.small;have c1:(65535:Int)=((65535:Nat):Int):=rfl;have hgt:aE prog .gtr 3 (ak n) (.int .i64 65535)=some (.bool false):=by have:=gtr3 n 65535;rw [DP (by omega)] at this;exact this
 have hadd:aE prog .add 3 (ak n) (.int .i64 2)=some (ak (n+2)):=uK (b:=2) (by omega);have hsh:aE prog .shr 3 (ak n) (.int .u64 8)=some (ak (n/256)):=dx prog 3 (k := .i64) (k' := .u64) (a:=n) (b:=8) (by decide);have hw1:IntKind.wrap .u8 ((n/256:Nat):Int)=((n/256:Nat):Int):=wrap_u8 (by omega) (by omega);have hw2:IntKind.wrap .u8 ((n:Nat):Int)=((n%256:Nat):Int):=by rw [fU];omega
 have hbs:fE 1 (.int .u8 0) 2 [(0,u8 (n/256)),(1,u8 (n%256))] h1=some (.slice (some ⟨h1.next,0,none⟩) 2 2,h1.alloc ([n/256,n%256].map u8)):=rfl;have hb2:aq (some ⟨h1.next,0,none⟩) 2 (h1.alloc ([n/256,n%256].map u8))=some [n/256,n%256]:=by
  have:=dP (h:=h1.alloc ([n/256,n%256].map u8)) (b:=h1.next) (off:=0) (n:=2) (s:=none) (l := [n/256,n%256]) (by rw [ae.aX,DR rfl]) (by simp) (by intro x hx;simp only [EN,EU,GF] at hx;rcases hx with rfl|rfl<;>omega)
  rw [this];rfl
 obtain ⟨v1,v2,g1,g2,f1,f2,f3,f4,f5⟩:=tA (c:=2) (W1.alloc ([n/256,n%256].map u8)) hb2 (by omega);have hl2:=W1.l2' f1;have k2:vP N h g2:=(k1.trans (aw.alloc h1 _ _)).trans f5;have hm2:aq a n g2=some m:=k2.bytes hm (fun y hy hn2=>by have:=ha y hy hn2;omega);obtain ⟨v3,v4,g3,g4,p1,p2,p3,p4,p5⟩:=tA (c:=c) f4 hm2 (by simp only [DW,List.length_cons,List.length_nil];omega);have hbe:iZ 2 n = [n/256,n%256]:=by simp only [iZ,Nat.pow_one,Nat.pow_zero,Nat.div_one];rw [FT (show n/256<256 by omega)]
 refine ⟨g4,aJ is119 rfl ((t119_eq _ _ _ _).trans ?_),by rw [hbe];exact p4,k2.trans p5⟩;unfold t119;simp -implicitDefEqProofs only [af,eql218,aj,cV];rw [show (Value.int .i64 (n:Int))=ak n from rfl];simp -implicitDefEqProofs only [hgt,hadd,aj,af,e1,av,ax,DK,hl2,hsh];simp -implicitDefEqProofs only [ak,bV,hw1,hw2,af];rw [show (Value.int .u8 ((n/256:Nat):Int))=u8 (n/256) from rfl,show (Value.int .u8 ((n%256:Nat):Int))=u8 (n%256) from rfl,hbs];simp -implicitDefEqProofs only [af,f2,aj,av,ax,DK,f3,p1,p2,p3]
def r121 (hl:l.length<=21000) : ∃ a c h',CD 121 [ptr w 0] h=some (.tuple #[.slice a l.length c,.int .i64 0],h')/\aq a l.length h'=some l/\ct a l.length c=true/\aM h h'/\(∀ y,a=some y->h.next<=y.block):=by
 obtain ⟨v,h1,h2,h3⟩:=W.ex;obtain ⟨a,c,hv,h4,h5,h6,h7⟩:=h2.bytes;obtain ⟨a',c',h',e1,e2,e3,e4,e5,_⟩:=r171 (c:=c) h4 hl;have l1:ld1 (ptr w 1) h=some (.bool false,h):=aP h1 rfl;have l2:ld1 (ptr w 2) h=some (.slice a l.length c,h):=by rw [<-hv];exact aP h1 rfl (h2.cell.2.2)
 refine ⟨a',c',h',aJ is121 rfl ((t121_eq _ _ _).trans ?_),e2,e3,e4,e5⟩;unfold t121;simp -implicitDefEqProofs only [af,eql218,aj,av,ax,DK,l1,l2,e1]
end
def mL (l:List Nat):List Nat:=iZ 4 (vS (l++List.replicate (124-l.length) 0))++(l++List.replicate (124-l.length) 0)
def Cd {l:List Nat} (hl:l.length<=124):(mL l).length=128:=by simp only [mL,DW,bY,HL];omega
def sealB_byte {l:List Nat} (hb : ∀ x∈l,x<256) : ∀ x∈mL l,x<256:=by
 intro x hx;simp only [mL,EF] at hx;rcases hx with hx|hx|hx
 ·exact beB_byte _ _ x hx
 ·exact hb x hx
 ·rw [EZ hx];decide
def crcN_lt {l:List Nat} (hb : ∀ x∈l,x<256):vS l<4294967296:=by unfold vS;exact GN (n:=32) (by decide) (nJ l 4294967295 (by decide) hb)
def r179 {h:ae} {N w lim:Nat} {l:List Nat} (W:sK h N w lim l) (hl:l.length<=124) :
  ∃ B h',CD 179 [ptr w 0] h=some (.slice (some ⟨B,0,none⟩) 128 128,h')/\aq (some ⟨B,0,none⟩) 128 h'=some (mL l)/\aM h h'/\h.next<=B:=by
 obtain ⟨a,c,h1,e1,e2,e3,e4,e5⟩:=r121 W (by omega);have hb:=(ay e2).2.1;have hmk:=mk1 (h:=h1) (n:=128) (c:=128) (DO _) (by decide);have hg2:(h1.alloc ((List.replicate 128 0).map u8)).get h1.next=some ((List.replicate 128 0).map u8):=by rw [ae.aX,DR rfl]
 have n02:(h1.alloc ((List.replicate 128 0).map u8)).n0<=h1.next:=h1.n0_le_next;have kA:aM h1 (h1.alloc ((List.replicate 128 0).map u8)):=aw.alloc _ _ _;have s2:=aM.bytes kA e2;have oA:aM h (h1.alloc ((List.replicate 128 0).map u8)):=e4.trans kA;generalize hB:h1.next=B at *;generalize hh2:h1.alloc ((List.replicate 128 0).map u8)=h2 at *;have hB2:h.next<=B:=by rw [<-hB];exact e4.next
 have hmin:min l.length 124=l.length:=by omega
 obtain ⟨h3,q1,q2,q3,q4,q5⟩:=js (b:=B) (off:=4) (dl:=124) (dc:=124) (s:=none) (c:=c) hg2 n02 s2 (by simp;omega);generalize hR:l++List.replicate (124-l.length) 0=R at *;have hRl:R.length=124:=by rw [<-hR];simp;omega
 have hRb : ∀ x∈R,x<256:=by
  intro x hx;rw [<-hR] at hx;rcases EF.1 hx with hx|hx
  ·exact hb x hx
  ·rw [EZ hx];decide
 have hsp:ey (List.replicate 128 0) 4 (l.take (min l.length 124))=0::0::0::0::R:=by
  rw [hmin,GG];unfold ey;rw [<-hR,List.take_replicate,List.drop_replicate];show List.replicate 4 0++l++List.replicate (128-(4+l.length)) 0 = [0,0,0,0]++(l++List.replicate (124-l.length) 0)
  rw [FD,show 128-(4+l.length)=124-l.length by omega];rfl
 rw [hsp] at q4;have hs3:aq (some ⟨B,4,none⟩) 124 h3=some R:=by
  have:=dP (off:=4) (n:=124) (s:=none) q4 (by simp [hRl]) (by
   intro x hx;simp only [EN] at hx;rcases hx with rfl|rfl|rfl|rfl|hx
   ·decide
   ·decide
   ·decide
   ·decide
   ·exact hRb x hx)
  rw [this];exact E2 some (EB (by show R.length<=124;omega))
 have hcrc:CD 208 [.slice (some ⟨B,4,none⟩) 124 124] h3=some (u32 (vS R),h3):=by refine tb ?_;rw [X208];unfold s208;simp only [hs3];rfl
 have hcl:=crcN_lt hRb;have hseal:mL l=iZ 4 (vS R)++R:=by unfold mL;rw [hR]
 generalize hC:vS R=cr at *;have n03:h3.n0<=B:=by rw [q2];exact n02
 have p0:=wk (v:=cr/16777216%256) (o:=0) q4 (by simp) n03;have g0:=ae.bL n03 q4 (((0::0::0::0::R).set 0 (cr/16777216%256)).map u8);generalize hh4:h3.set B (((0::0::0::0::R).set 0 (cr/16777216%256)).map u8)=h4 at *;have n04:h4.n0<=B:=by rw [<-hh4];exact n03
 have p1:=wk (v:=cr/65536%256) (o:=1) g0 (by simp) n04;have g1:=ae.bL n04 g0 ((((0::0::0::0::R).set 0 (cr/16777216%256)).set 1 (cr/65536%256)).map u8);generalize hh5:h4.set B ((((0::0::0::0::R).set 0 (cr/16777216%256)).set 1 (cr/65536%256)).map u8)=h5 at *;have n05:h5.n0<=B:=by rw [<-hh5];exact n04
 have p2:=wk (v:=cr/256%256) (o:=2) g1 (by simp) n05;have g2:=ae.bL n05 g1 (((((0::0::0::0::R).set 0 (cr/16777216%256)).set 1 (cr/65536%256)).set 2 (cr/256%256)).map u8);generalize hh6:h5.set B (((((0::0::0::0::R).set 0 (cr/16777216%256)).set 1 (cr/65536%256)).set 2 (cr/256%256)).map u8)=h6 at *;have n06:h6.n0<=B:=by rw [<-hh6];exact n05
 have p3:=wk (v:=cr%256) (o:=3) g2 (by simp) n06;have g3:=ae.bL n06 g2 ((((((0::0::0::0::R).set 0 (cr/16777216%256)).set 1 (cr/65536%256)).set 2 (cr/256%256)).set 3 (cr%256)).map u8);have hfin:((((0::0::0::0::R).set 0 (cr/16777216%256)).set 1 (cr/65536%256)).set 2 (cr/256%256)).set 3 (cr%256)=mL l:=by rw [hseal];simp only [iZ,Nat.pow_zero,Nat.div_one];rfl
 rw [hfin] at p3 g3;have hslb:=sealB_byte hb;have hsll:=Cd hl;generalize hh7:h6.set B ((mL l).map u8)=h7 at *;refine ⟨B,h7,aJ is179 rfl ((t179_eq _ _ _).trans ?_),?_,?_,hB2⟩
 ·have hx0 : ∀ a b:Vl,extractA (.tuple #[a,b]) 0=some a:=fun _ _=>rfl;have hx1 : ∀ a b:Vl,extractA (.tuple #[a,b]) 1=some b:=fun _ _=>rfl;have hmk':mkR 1 1 (.int .u8 0) (.int .i64 128) (.int .i64 128) h1=_:=hmk;have hsl:slR 1 (.slice (some ⟨B,0,none⟩) 128 128) (some (.int .i64 4)) none none=some (.slice (some ⟨B,4,none⟩) 124 124):=rfl;have s24:aE prog .shr 186 (u32 cr) (.int .u64 24)=some (u32 (cr/16777216)):=dx prog 186 (k := .u32) (k' := .u64) (a:=cr) (b:=24) (by decide);have s156:aE prog .shr 186 (u32 cr) (.int .u64 16)=some (u32 (cr/65536)):=dx prog 186 (k := .u32) (k' := .u64) (a:=cr) (b:=16) (by decide);have s8:aE prog .shr 186 (u32 cr) (.int .u64 8)=some (u32 (cr/256)):=dx prog 186 (k := .u32) (k' := .u64) (a:=cr) (b:=8) (by decide);have cv : ∀ (z:Nat) (g:ae),iD .u8 (u32 z) g=some (u8 (z%256),g):=by intro z g;rw [show u32 z=Value.int .u32 (z:Int) from rfl,bV,fU,show u8 (z%256)=Value.int .u8 ((z%256:Nat):Int) from rfl];exact E2 (fun q=>some (Value.int .u8 q,g)) (by omega)
  have i0:idxS 1 (.slice (some ⟨B,0,none⟩) 128 128) (.int .i64 0)=some (ptr B 0):=rfl;have i1:idxS 1 (.slice (some ⟨B,0,none⟩) 128 128) (.int .i64 1)=some (ptr B 1):=rfl;have i2:idxS 1 (.slice (some ⟨B,0,none⟩) 128 128) (.int .i64 2)=some (ptr B 2):=rfl;have i3:idxS 1 (.slice (some ⟨B,0,none⟩) 128 128) (.int .i64 3)=some (ptr B 3):=rfl;unfold t179;simp -implicitDefEqProofs only [af,e1,hx0,hx1,aj,hmk',hsl,q1,hcrc,s24,s156,s8,cv,i0,i1,i2,i3,p0,p1,p2,p3]
 ·rw [dP (off:=0) (n:=128) (s:=none) g3 (by omega) hslb,FO,EB (by omega)]
 ·refine ⟨?_,?_,?_⟩
  ·rw [<-hh7,<-hh6,<-hh5,<-hh4];exact q2.trans oA.n0
  ·rw [<-hh7,<-hh6,<-hh5,<-hh4];show h.next<=h3.next;rw [q3];exact oA.next
  ·intro e he _;have hne:e≠B:=by omega
   have l3:B<h3.next:=h3.aW q4;have l4:B<h4.next:=h4.aW g0;have l5:B<h5.next:=h5.aW g1;have l6:B<h6.next:=h6.aW g2;rw [<-hh7,ae.cq n06 l6 _ hne,<-hh6,ae.cq n05 l5 _ hne,<-hh5,ae.cq n04 l4 _ hne,<-hh4,ae.cq n03 l3 _ hne,q5 e hne];exact oA.getB e he (fun h=>h)
def da (n:Nat):Nat:=if n<=106 then 1 else (n-1)/106+1
def cost_nat (n:Nat):cost (n:Int)=(da n:Nat):=by
 unfold cost da;by_cases h:n<=106
 ·rw [DR (by omega),DR h];rfl
 ·rw [DU (by omega),DU h];omega
def tC {n:Nat} (h:n<=21000):da n<=199:=by unfold da;split<;>omega
def costN_tight {n i:Nat} (h:i<da n):106*i<=n:=by unfold da at h;split at h<;>omega
def pZ (gen at_ part parts:Nat) (data:List Nat):List Nat:=iZ 8 gen++iZ 4 at_++iZ 2 part++iZ 2 parts++iZ 2 data.length++data
def py (gen at_ part parts:Nat) (data:List Nat):List Nat:=mL (pZ gen at_ part parts data)
def yK (gen at_ part parts:Nat) (data:List Nat):(pZ gen at_ part parts data).length=18+data.length:=by simp only [pZ,DW,bY]
def jO (dq:List Nat) (i:Nat):List Nat:=(dq.drop (106*i)).take 106
def DC (dq:List Nat) (i:Nat):(jO dq i).length<=106:=II ..
def Dk.wr (area gen at_ parts:Nat) (dq:List Nat):Nat->Nat->Dk->Int×Dk
 | 0,_,D=>(0,D)
 |k+1,i,D=>
  if (D.write ((2+area*D.ar+at_+i:Nat):Int) (py gen (at_+i) i parts (jO dq i))).1=0 then Dk.wr area gen at_ parts dq k (i+1) (D.write ((2+area*D.ar+at_+i:Nat):Int) (py gen (at_+i) i parts (jO dq i))).2
  else D.write ((2+area*D.ar+at_+i:Nat):Int) (py gen (at_+i) i parts (jO dq i))
def Dk.wrRec (D:Dk) (area gen at_:Nat) (dq:List Nat):Int×Dk:=Dk.wr area gen at_ (da dq.length) dq (da dq.length) 0 D
def dk_plain {h:ae} {d:Nat} {D:Dk} (x:br h d D):BJ h d:=⟨_,x.hdr,by intro v hv;simp only [Dk.hdr,EN,EU,GF] at hv;rcases hv with rfl|rfl|rfl|rfl|rfl|rfl<;>rfl⟩
def cG.uF {h:ae} {j d d':Nat} {J:Jn} {D:Dk} (xj:cG h j d J) (x:br h d' D):j≠d':=by rintro rfl;have:=xj.get.symm.trans x.hdr;have:=E2 List.length (HS this);simp [Jn.cells,Dk.hdr] at this
def cG.nf {h:ae} {j d d':Nat} {J:Jn} {D:Dk} (xj:cG h j d J) (x:br h d' D):j≠D.bb:=by
 intro he;have h1:=xj.get;rw [he,x.img] at h1;have h2:=HS h1;cases hi:D.img with
 |nil=>rw [hi] at h2;simp [Jn.cells] at h2
 |cons a l=>rw [hi] at h2;simp [Jn.cells,ptr] at h2
def r178 {h:ae} {d:Nat} {D:Dk} (x:br h d D) (i:Int) {a:Option Addr} {n c:Nat} {l:List Nat} (hl:aq a n h=some l) (hg:ct a n c=true) :
  ∃ g,CD 178 [ptr d 0,.int .i64 i,.slice a n c] h=some (.int .i64 (D.write i l).1,g)/\br g d (D.write i l).2/\(D.write i l).2.bb=D.bb/\(D.write i l).2.n=D.n/\ek d D.bb h g:=by
 have o:=Dk.write_okd x i (ay hl).2.1;obtain ⟨g,e,w⟩:=r178' x i hl hg;exact ⟨g,e,w.is,o.bb,o.n,w.n0,by rw [w.next];exact DO _,fun c _ hc=>w.getB c (fun q=>hc (.inl q)) (fun q=>hc (.inr q))⟩
def r73' (n:Int) (h:ae) (hn : -9223372036854775808<=n/\n<=9223372036854775807):CD 73 [.int .i64 n] h=some (.int .i64 (cost n),h):=by
 refine aJ is73 rfl ((t73_eq _ _ _).trans ?_);unfold t73 cost;simp -implicitDefEqProofs only [nW,aj,af];by_cases h1:n<=106
 ·simp -implicitDefEqProofs only [h1,GO,D8,af]
 ·simp -implicitDefEqProofs only [h1,FN,D3,gu,aj,af,sP,dI,ne_eq,Int.reduceEq,not_false_eq_true,not_true];rw [wrap_i64 (x:=n-1) (by omega) (by omega),H8 (by omega),wrap_i64 (x:=(n-1)/106) (by omega) (by omega),wrap_i64 (by omega) (by omega)]
def r73 (n:Nat) (h:ae) (hn:n<=100000000):CD 73 [ak n] h=some (ak (da n),h):=by rw [show ak n=Value.int .i64 (n:Int) from rfl,r73' _ _ (by omega),cost_nat]
section
variable {h0:ae} {d j:Nat} {D:Dk} {J:Jn} {area gen at_ n c:Nat} {a:Option Addr} {dq:List Nat} (x:br h0 d D) (xj:cG h0 j d J) (h2:2<=D.n) (ha:area<=1) (hg:gen<18446744073709551616) (hat:at_<=10000)
 (hs:aq a n h0=some dq) (hgd:ct a n c=true) (hn:n<=21000) (hab : ∀ y,a=some y->0<n->y.block≠D.bb)
include x xj h2 ha hg hat hs hgd hn hab
def wrInv (h0:ae) (d j:Nat) (D:Dk) (area gen at_ n c:Nat) (a:Option Addr) (dq:List Nat) (k:Nat) (y:Nat->Vl) (g:ae):Prop:=
 ∃ i E,y 0=ptr j 0/\y 1=ak area/\y 2 = .int .u64 gen/\y 3=ak at_/\y 4 = .slice a n c/\y 11=ak (da n)/\y 19=ak (da n)/\y 20=ak i/\i+k=da n/\br g d E/\E.bb=D.bb/\E.n=D.n/\ek d D.bb h0 g /\
   Dk.wr area gen at_ (da n) dq k i E=D.wrRec area gen at_ dq
def wrFin (h0:ae) (d:Nat) (D:Dk) (area gen at_:Nat) (dq:List Nat) (ex:Ex) (y:Nat->Vl) (g:ae):Prop:=
 br g d (D.wrRec area gen at_ dq).2/\(D.wrRec area gen at_ dq).2.bb=D.bb/\(D.wrRec area gen at_ dq).2.n=D.n/\ek d D.bb h0 g /\
  ((ex = .exit 0/\(D.wrRec area gen at_ dq).1=0)\/(ex = .ret/\y 10 = .int .i64 (D.wrRec area gen at_ dq).1))
def wr_round : ∀ k y g,wrInv h0 d j D area gen at_ n c a dq k y g->dE 77 (wrInv h0 d j D area gen at_ n c a dq) (wrFin h0 d D area gen at_ dq) k (iV CD y g):=by
 rintro k y g ⟨i,E,i0,i1,i2,i3,i4,i11,i19,i20,hik,xg,hEb,hEn,hk,hw⟩;have hrl:=(ay hs).1;have hcl:=tC hn;have hsm:=x.small;have hEar:E.ar=D.ar:=by unfold Dk.ar;rw [hEn]
 have har:D.ar=(D.n-2)/2:=rfl;have hma:area*D.ar<=D.ar:=by have:=GZ D.ar ha;omega
 have jg:cG g j d J:=xj.keep hk (fun h=>h.elim (xj.uF x) (xj.nf x));unfold iV;simp -implicitDefEqProofs only [i19,i20,fF,aj,af];by_cases hz:k=0
 ·subst hz;have hii:i=da n:=by omega
  simp -implicitDefEqProofs only [DP (show ¬i<da n by omega)];have he:D.wrRec area gen at_ dq=(0,E):=hw.symm;refine dE.out 0 ⟨?_,?_,?_,hk,.inl ⟨rfl,?_⟩⟩
  ·rw [he];exact xg
  ·rw [he];exact hEb
  ·rw [he];exact hEn
  ·rw [he]
 ·obtain ⟨q,rfl⟩ : ∃ q,k=q+1:=⟨k-1,by omega⟩
  have hlt:i<da n:=by omega
  have htight:=costN_tight hlt;have hsg:aq a n g=some dq:=by
   refine hk.bytes hs (fun y hy hn2 hb => ?_);rcases hb with hb|hb
   ·obtain ⟨kk,e1,e2⟩:=dk_plain x;exact de hs e1 e2 y hy hn2 hb
   ·exact hab y hy hn2 hb
  have hm1:aE prog .mul 3 (ak i) (.int .i64 106)=some (ak (i*106)):=mul3 (b:=106) (by omega);have hm2:aE prog .mul 3 (ak (i+1)) (.int .i64 106)=some (ak ((i+1)*106)):=mul3 (b:=106) (by omega);have hmn:minmax false (.int .i64 (n:Int)) [ak ((i+1)*106)]=some (ak (min n ((i+1)*106))):=by
   simp only [minmax,ak,D8,DJ,D3];by_cases hc:(((i+1)*106:Nat):Int)<(n:Int)
   ·rw [DR (by simpa using hc),Nat.min_eq_right (by omega)]
   ·rw [DU (by simpa using hc),GD (by omega)]
  obtain ⟨a1,c1,s1,s2,s3⟩:=mZ (vl:=some (ak (i*106))) (vh:=some (ak (min n ((i+1)*106)))) (lo:=i*106) (hi:=min n ((i+1)*106)) hgd hsg (by omega) (by omega)
   (by simp only [boundA,ak];rw [DR (by have:=jF hgd;omega),Int.toNat_natCast]) (by simp only [boundA,ak];rw [DR (by omega),Int.toNat_natCast])
  have hch:(dq.drop (i*106)).take (min n ((i+1)*106)-i*106)=jO dq i:=by
   unfold jO;rw [IL 106 i];by_cases hc:n<=(i+1)*106
   ·rw [GD hc,EB (by simp;omega),EB (by simp;omega)]
   ·rw [Nat.min_eq_right (by omega),show (i+1)*106-i*106=106 by omega]
  rw [hch] at s2;have hcn:=(ay s2).1;have hc106:=DC dq i;generalize hcm:min n ((i+1)*106)-i*106=m at *;have ha1 : ∀ y,a1=some y->0<m->y.block<g.next:=by intro y hy hm;subst hy;obtain ⟨b',o',s',e,hb⟩:=du s2 hm;cases e;exact hb
  obtain ⟨g1,e1,W1,k1⟩:=r116 g (lim:=124) (by decide);have e1:CD 116 [.int .i64 124] g=_:=e1;obtain ⟨g2,e2,W2,k2⟩:=r133 W1 (v:=gen) (by simp) hg;obtain ⟨g3,e3,W3,k3⟩:=r177 W2 (v:=at_+i) (by simp [bY]) (by omega);obtain ⟨g4,e4,W4,k4⟩:=r118 W3 (v:=i) (by simp [bY]) (by omega);obtain ⟨g5,e5,W5,k5⟩:=r118 W4 (v:=da n) (by simp [bY]) (by omega);have k15:vP g.next g g5:=(((k1.trans k2).trans k3).trans k4).trans k5;have sm5:aq a1 m g5=some (jO dq i):=k15.bytes s2 (fun y hy hm=>by have:=ha1 y hy hm;omega);obtain ⟨g6,e6,W6,k6⟩:=r119 W5 (c:=c1) sm5 ha1 (by simp [bY];omega) (by omega);have k16:vP g.next g g6:=k15.trans k6;have hbody : []++iZ 8 gen++iZ 4 (at_+i)++iZ 2 i++iZ 2 (da n)++iZ 2 m++jO dq i=pZ gen (at_+i) i (da n) (jO dq i):=by unfold pZ;rw [hcn,List.nil_append]
  rw [hbody] at W6;have hd6:br g6 d E:=k16.dk xg (by have:=xg.lt;omega) (by have:=xg.blt;omega);have hj6:cG g6 j d J:=jg.keep k16 (by have:=jg.lt;omega);obtain ⟨B,g7,e7,s7,k7,hB⟩:=r179 W6 (by rw [yK];omega);have hd7:br g7 d E:=aM.dk k7 hd6;have hj7:cG g7 j d J:=hj6.keep k7 (fun h=>h);have hidx:=hEar;obtain ⟨g8,e8,x8,b8,n8,k8⟩:=r178 hd7 ((2+area*E.ar+at_+i:Nat):Int) (c:=128) s7 rfl;have e8:CD 178 [ptr d 0,ak (2+area*E.ar+at_+i),.slice (some ⟨B,0,none⟩) 128 128] g7=_:=e8;have hlb:mL (pZ gen (at_+i) i (da n) (jO dq i))=py gen (at_+i) i (da n) (jO dq i):=rfl;rw [hlb] at e8 x8 b8 n8;have hw2:Dk.wr area gen at_ (da n) dq (q+1) i E=if (E.write ((2+area*E.ar+at_+i:Nat):Int) (py gen (at_+i) i (da n) (jO dq i))).1=0 then Dk.wr area gen at_ (da n) dq q (i+1) (E.write ((2+area*E.ar+at_+i:Nat):Int) (py gen (at_+i) i (da n) (jO dq i))).2 else E.write ((2+area*E.ar+at_+i:Nat):Int) (py gen (at_+i) i (da n) (jO dq i)):=rfl
  rw [hw2] at hw;rw [hEb] at b8 k8;have kall:ek d D.bb h0 g8:=
   ((hk.also k16 (fun c hc h=>by have:=hk.next;omega)).also k7 (fun _ _ h=>h.elim)).trans k8
  generalize hRR:E.write ((2+area*E.ar+at_+i:Nat):Int) (py gen (at_+i) i (da n) (jO dq i))=RR at *;have h55:=yA hd6 (by omega);have hmul:aE prog .mul 3 (ak area) (ak E.ar)=some (ak (area*E.ar)):=mul3 (by rw [hEar];omega);have hadd1:aE prog .add 3 (.int .i64 2) (ak (area*E.ar))=some (ak (2+area*E.ar)):=uK (a:=2) (by rw [hEar];omega);have hadd2:aE prog .add 3 (ak (2+area*E.ar)) (ak at_)=some (ak (2+area*E.ar+at_)):=uK (by rw [hEar];omega);have hadd3:aE prog .add 3 (ak (2+area*E.ar+at_)) (ak i)=some (ak (2+area*E.ar+at_+i)):=uK (by rw [hEar];omega);have cv32 : ∀ g,iD .u32 (ak (at_+i)) g=some (.int .u32 ((at_+i:Nat):Int),g):=by intro g;unfold ak;rw [bV,pz (by omega) (by omega)]
  have cv16 : ∀ (z:Nat),z<65536 -> ∀ g,iD .u16 (ak z) g=some (.int .u16 (z:Int),g):=by intro z hz g;unfold ak;rw [bV,yh (by omega) (by omega)]
  have hv:veq (ptr d 0) (ptr d 0)=true:=by simp [ptr,veq]
  have ck6:=eQ (rfl:some (ptr d 0,g6)=some (ptr d 0,g6)) hv;have ck7:=eQ (rfl:some (ptr d 0,g7)=some (ptr d 0,g7)) hv;simp -implicitDefEqProofs only [DS hlt,i0,i1,i2,i3,i4,i11,af,hm1,cV,ei (show i+1<=9223372036854775807 by omega),hm2,aj,hmn,s1,e1,e2,uK (show at_+i<=9223372036854775807 by omega),cv32,e3,cv16 i (by omega),e4,cv16 (da n) (by omega),e5,e6,
   av,ax,DK,hj6.l0,h55,hmul,hadd1,hadd2,hadd3,e7,hj7.l0,e8,ck6,ck7,EY,cZ]
  by_cases hc:RR.1=0
  ·rw [DR hc] at hw;have hne:(RR.1 != 0)=false:=by rw [hc];rfl
   simp -implicitDefEqProofs only [hne,af];exact dE.next q (by omega) ⟨i+1,RR.2,i0,i1,i2,i3,i4,i11,i19,rfl,by omega,x8,b8,n8.trans hEn,kall,hw⟩
  ·rw [DU hc] at hw;have hne:(RR.1 != 0)=true:=by rw [HQ];exact hc
   simp -implicitDefEqProofs only [hne,af];refine dE.ret ⟨?_,?_,?_,kall,.inr ⟨rfl,?_⟩⟩
   ·rw [<-hw];exact x8
   ·rw [<-hw];exact b8
   ·rw [<-hw];exact n8.trans hEn
   ·rw [<-hw];rfl
def r176 : ∃ h',CD 176 [ptr j 0,ak area,.int .u64 gen,ak at_,.slice a n c] h0=some (.int .i64 (D.wrRec area gen at_ dq).1,h')/\br h' d (D.wrRec area gen at_ dq).2/\(D.wrRec area gen at_ dq).2.bb=D.bb/\(D.wrRec area gen at_ dq).2.n=D.n/\ek d D.bb h0 h':=by
 have hrl:=(ay hs).1;have hcl:=tC hn;have is176:bJ prog 176 f176 := .of (by kernel_rfl);have key : ∃ h',t176 CD (ptr j 0) (ak area) (.int .u64 gen) (ak at_) (.slice a n c) h0=some (.int .i64 (D.wrRec area gen at_ dq).1,h')/\br h' d (D.wrRec area gen at_ dq).2/\(D.wrRec area gen at_ dq).2.bb=D.bb/\(D.wrRec area gen at_ dq).2.n=D.n/\ek d D.bb h0 h':=by
  unfold t176;simp -implicitDefEqProofs only [af,cV,aj];rw [show (Value.int .i64 (n:Int))=ak n from rfl];simp -implicitDefEqProofs only [r73 n h0 (by omega),af];refine cp (Q:=fun (o:ba) => ∃ h',o=some (.int .i64 (D.wrRec area gen at_ dq).1,h')/\br h' d (D.wrRec area gen at_ dq).2/\(D.wrRec area gen at_ dq).2.bb=D.bb/\(D.wrRec area gen at_ dq).2.n=D.n/\ek d D.bb h0 h')
   (cj (tJ CD) (wr_round x xj h2 ha hg hat hs hgd hn hab) (da n) (by have:aK=18446744073709551616:=rfl;omega)
    ⟨0,D,rfl,rfl,rfl,rfl,rfl,rfl,rfl,rfl,DK _,x,rfl,rfl,aw.refl _ _,by unfold Dk.wrRec;rw [hrl]⟩) ?_
  rintro ex y g ⟨f1,f2,f3,f4,⟨rfl,f5⟩|⟨rfl,f5⟩⟩
  ·refine ⟨g,?_,f1,f2,f3,f4⟩;simp -implicitDefEqProofs only [bK,b176_4,D8,zY];unfold rB;simp -implicitDefEqProofs only [af,f5]
  ·refine ⟨g,?_,f1,f2,f3,f4⟩;show resultsA prog f176.results.toList (aT 77 y) g=_;rw [pW (show f176.results.toList = [.tmp 10] by kernel_rfl) (by decide),f5]
 obtain ⟨h',e,f⟩:=key;exact ⟨h',aJ is176 rfl ((t176_eq _ _ _ _ _ _ _).trans e),f⟩
end
structure vT (J:Jn) (D:Dk):Prop where
 slot:J.slot = -1\/J.slot=0\/J.slot=1
 area:J.area<=1
 gen:J.gen<18446744073709551616
 known:J.known<18446744073709551616
 ready:J.ready=true->J.fin<=D.ar/\0<=J.slot
def gtr3k (n k:Nat):aE prog .gtr 3 (ak n) (.int .i64 (k:Int))=some (.bool (decide (k<n))):=gtr3 n k
abbrev JdOnly (j d bb:Nat) (h h':ae):Prop:=aw h h' (fun c=>c=j\/c=d\/c=bb)
def ek.jd {j d bb:Nat} {h h':ae} (k:ek d bb h h'):JdOnly j d bb h h':=aw.mono k (fun c _ hc => .inr hc)
def cG.st {h:ae} {j d:Nat} {J:Jn} (xj:cG h j d J) (i:Nat) (v:Vl) (J':Jn) (hi:i<8) (hc:(J.cells d).set i v=J'.cells d) (hv:v.cells = #[v]) (h1:v.oneCell'=true) (ha:J'.area<=1) :
  ∃ h',bX 1 (ptr j i) v h=some (undef,h')/\cG h' j d J'/\aw h h' (fun c=>c=j)/\h'.next=h.next:=by
 have hst:=dK (o:=i) (v:=v) xj.get (by simp [Jn.cells];omega) xj.n0 hv h1;obtain ⟨k,g⟩:=gR (k':=(J.cells d).set i v) xj.get xj.n0;rw [hc] at hst k g;exact ⟨_,hst,⟨g,k.n0▸xj.n0,ha⟩,k,rfl⟩
def mx64 (a b:Nat):minmax true (.int .u64 (a:Int)) [.int .u64 (b:Int)]=some (.int .u64 ((max a b:Nat):Int)):=by
 simp only [minmax,D8];by_cases hc:(b:Int)>(a:Int)
 ·rw [DR (by simpa using hc),Nat.max_eq_right (by omega)]
 ·rw [DU (by simpa using hc),Nat.max_eq_left (by omega)]
def gtr58 (a b:Nat):aE prog .gtr 52 (.int .u64 (a:Int)) (.int .u64 (b:Int))=some (.bool (decide (b<a))):=by rw [dN];exact E2 (fun q=>some (Value.bool q)) (F9.2 (by omega))
def Jn.seeLog (D:Dk) (s at_:Nat) (J:Jn):Jn:=if mc at_ (D.jb s at_) then { J with known:=max J.known (cm (D.jb s at_)) } else J
def Jn.eT (D:Dk) (s:Nat):Nat->Nat->Jn->Jn
 | 0,_,J=>J
 |k+1,at_,J=>Jn.eT D s k (at_+1) (J.seeLog D s at_)
section
variable {h0:ae} {d j s:Nat} {D:Dk} {J0:Jn} (x:br h0 d D) (hj:cG h0 j d J0) (h2:2<=D.n) (hs:s<=1)
def seeInv (h0:ae) (d j s:Nat) (D:Dk) (J0:Jn) (x:Nat->Vl) (k:Nat) (y:Nat->Vl) (g:ae):Prop:=
 ∃ at_ J,y 0=ptr d 0/\y 6=ptr j 0/\y 7=ak s/\y 83=ak D.ar/\y 84=ak at_/\y 37=x 37/\y 2=x 2/\y 3=x 3/\y 4=x 4/\at_+k=D.ar/\cG g j d J/\aw h0 g (fun c=>c=j)/\Jn.eT D s k at_ J=Jn.eT D s D.ar 0 J0
def seeFin (h0:ae) (d j s:Nat) (D:Dk) (J0:Jn) (x:Nat->Vl) (ex:Ex) (y:Nat->Vl) (g:ae):Prop:=
 ex = .exit 2/\y 0=ptr d 0/\y 6=ptr j 0/\y 37=x 37/\y 2=x 2/\y 3=x 3/\y 4=x 4/\cG g j d (Jn.eT D s D.ar 0 J0)/\aw h0 g (fun c=>c=j)
include x hj h2 hs
def see_round (x0:Nat->Vl) : ∀ k y g,seeInv h0 d j s D J0 x0 k y g->dE 131 (seeInv h0 d j s D J0 x0) (seeFin h0 d j s D J0 x0) k (dB CD y g):=by
 rintro k y g ⟨at_,J,i0,i6,i7,i83,i84,i37,i2,i3,i4,hk,hJ,hold,htar⟩;have hsm:=x.small;have har:D.ar=(D.n-2)/2:=rfl;have hjd:=hj.uF x;have hjb:=hj.nf x;have xg:br g d D:=hold.dk x (fun h=>hjd h.symm) (fun h=>hjb h.symm);unfold dB;simp -implicitDefEqProofs only [i84,i83,fF,aj,af];by_cases hz:k=0
 ·subst hz;simp -implicitDefEqProofs only [DP (show ¬at_<D.ar by omega)];exact dE.out 2 ⟨rfl,i0,i6,i37,i2,i3,i4,htar▸hJ,hold⟩
 ·obtain ⟨q,rfl⟩ : ∃ q,k=q+1:=⟨k-1,by omega⟩
  obtain ⟨a,n,c,g1,e1,e2,e3,e4,e5⟩:=r108 xg h2 hs (show at_<D.ar by omega);have hjbk:D.blk (2+s*D.ar+at_)=D.jb s at_:=rfl;rw [hjbk] at e1 e2;have g2p:(g1.alloc gD).get g1.next=some gD:=by rw [ae.aX,DR rfl]
  have n02:(g1.alloc gD).n0<=g1.next:=g1.n0_le_next;generalize hcs:logC (cm (D.jb s at_)) (b0 (D.jb s at_)) (bt (D.jb s at_)) (.slice a n c)=cs at e1;have hst:bX 4 (ptr g1.next 0) (.agg cs.toArray) (g1.alloc gD)=some (undef,(g1.alloc gD).set g1.next cs):=by subst hcs;exact mY g2p n02 rfl rfl rfl
  obtain ⟨k3,g3p⟩:=gR (k':=cs) g2p n02;have k2:aM g1 (g1.alloc gD):=aw.alloc g1 gD _;have k13:aM g ((g1.alloc gD).set g1.next cs):=(e4.trans k2).also k3 (fun c h1 h2=>by have:=e4.next;omega);have hlogz:g1.alloc [(.int .u64 0),(.int .i64 0),(.int .i64 0),(.slice none 0 0)]=g1.alloc gD:=rfl;generalize hg3:(g1.alloc gD).set g1.next cs=g3 at *;have l0:ld1 (ptr g1.next 0) g3=some (.int .u64 (cm (D.jb s at_)),g3):=by subst hcs;exact aP g3p rfl
  have hJ3:cG g3 j d J:=hJ.keep k13 (fun h=>h);have hold3:aw h0 g3 (fun c=>c=j):=hold.also k13 (fun _ _ h=>h.elim);have hx0 : ∀ a b:Vl,extractA (.tuple #[a,b]) 0=some a:=fun _ _=>rfl;have hx1 : ∀ a b:Vl,extractA (.tuple #[a,b]) 1=some b:=fun _ _=>rfl;simp -implicitDefEqProofs only [DS (show at_<D.ar by omega),i0,i7,af,e1,hx0,hx1,aj,dj,Abs.newRow,hlogz,hst];have htar2:Jn.eT D s q (at_+1) (J.seeLog D s at_)=Jn.eT D s D.ar 0 J0:=htar;cases hc:mc at_ (D.jb s at_) with
  |false=>
   simp -implicitDefEqProofs only [af,ei (show at_+1<=9223372036854775807 by omega),aj];have hsee:J.seeLog D s at_=J:=by unfold Jn.seeLog;rw [hc];rfl
   rw [hsee] at htar2;exact dE.next q (by omega) ⟨at_+1,J,i0,i6,i7,i83,rfl,i37,i2,i3,i4,by omega,hJ3,hold3,htar2⟩
  |true=>
   have hsee:J.seeLog D s at_={ J with known:=max J.known (cm (D.jb s at_)) }:=by unfold Jn.seeLog;rw [hc];rfl
   obtain ⟨g4,f1,f2,f3,f4⟩:=hJ3.st 5 (.int .u64 ((max J.known (cm (D.jb s at_)):Nat):Int)) { J with known:=max J.known (cm (D.jb s at_)) } (by decide) rfl rfl rfl hJ.area;simp -implicitDefEqProofs only [i6,af,av,aj,ax,DK,hJ3.l5,l0,mx64,f1,ei (show at_+1<=9223372036854775807 by omega)];rw [hsee] at htar2;exact dE.next q (by omega) ⟨at_+1,_,i0,i6,i7,i83,rfl,i37,i2,i3,i4,by omega,f2,hold3.trans f3,htar2⟩
def see_loop {y:Nat->Vl} (i0:y 0=ptr d 0) (i6:y 6=ptr j 0) (i7:y 7=ak s) (i83:y 83=ak D.ar) (i84:y 84=ak 0) :
  Fin 131 (seeFin h0 d j s D J0 y) (iter (codeA prog CD (al f57 [1,1,1,1,0,1,0,0,1,1,0,0,1,1,1,0,0])) aK (aT 131 y) h0):=
 cj (kB CD) (see_round x hj h2 hs y) D.ar (by have:aK=18446744073709551616:=rfl;have:=x.small;unfold Dk.ar;omega)
  ⟨0,J0,i0,i6,i7,i83,i84,rfl,rfl,rfl,rfl,DK _,hj,aw.refl _ _,rfl⟩
end
def Jn.takeSuper (D:Dk) (s:Nat) (J:Jn):Jn:=if J.slot<0\/J.gen<bS (D.blk s) then { J with slot:=s,gen:=bS (D.blk s),area:=eo (D.blk s) } else J
def Jn.seeSuper (D:Dk) (s:Nat) (J:Jn):Jn:=if dz (D.blk s) then { J.takeSuper D s with known:=max J.known (bS (D.blk s)) } else J
def Jn.seeSlot (D:Dk) (s:Nat) (J:Jn):Jn:=Jn.eT D s D.ar 0 (J.seeSuper D s)
def Dk.jn0 (D:Dk) (turn:Int):Jn:={ turn:=turn,slot := -1,area:=0,gen:=0,known:=0,ready:=false,fin:=0 }
def Dk.openJ (D:Dk) (turn:Int):Jn:=((D.jn0 turn).seeSlot D 0).seeSlot D 1
def ke {b:List Nat} (h:dz b=true):eo b<=1:=by unfold dz at h;simp only [DN,D7] at h;exact h.2
section
variable {h0:ae} {d j:Nat} {D:Dk} {J0:Jn} (x:br h0 d D) (hj:cG h0 j d J0) (h2:2<=D.n)
def lH (h0:ae) (d j:Nat) (D:Dk) (J0:Jn) (k:Nat) (y:Nat->Vl) (g:ae):Prop:=
 ∃ J,y 0=ptr d 0/\y 6=ptr j 0/\cG g j d J/\aw h0 g (fun c=>c=j)/\((k=2/\y 37=ak 0/\J=J0)\/(k=1/\y 37=ak 1/\J=J0.seeSlot D 0)\/(k=0/\y 37=ak 2/\J=(J0.seeSlot D 0).seeSlot D 1))
def nu (h0:ae) (d j:Nat) (D:Dk) (J0:Jn) (ex:Ex) (y:Nat->Vl) (g:ae):Prop:=
 ex = .exit 0/\y 0=ptr d 0/\y 6=ptr j 0/\cG g j d ((J0.seeSlot D 0).seeSlot D 1)/\aw h0 g (fun c=>c=j)
include x hj h2
def qw {s k:Nat} (hs:s<=1) {y:Nat->Vl} {g:ae} {J:Jn} (i0:y 0=ptr d 0) (i6:y 6=ptr j 0) (i7:y 7=ak s) (i83:y 83=ak D.ar) (i84:y 84=ak 0) (i37:y 37=ak s) (hJ:cG g j d J) (hold:aw h0 g (fun c=>c=j))
  (hnext : ∀ y' g',y' 0=ptr d 0->y' 6=ptr j 0->y' 37=ak (s+1)->cG g' j d (Jn.eT D s D.ar 0 J)->aw h0 g' (fun c=>c=j)->dE 131 (lH h0 d j D J0) (nu h0 d j D J0) k (some (.normal,aT 131 y',g'))) :
  dE 131 (lH h0 d j D J0) (nu h0 d j D J0) k (fb (iter (codeA prog CD (al f57 [1,1,1,1,0,1,0,0,1,1,0,0,1,1,1,0,0])) aK (aT 131 y) g) (fun e h=>some (Ex.ret,e,h)) (uH CD)):=by
 have xg:br g d D:=hold.dk x (fun h=>(hj.uF x) h.symm) (fun h=>(hj.nf x) h.symm);refine cp (Q:=fun o=>dE 131 (lH h0 d j D J0) (nu h0 d j D J0) k o) (see_loop xg hJ h2 hs i0 i6 i7 i83 i84) ?_;rintro ex y' g' ⟨rfl,f0,f6,f37,_,_,_,fJ,fk⟩;simp -implicitDefEqProofs only [bK,uH,D8,Da];unfold uD;rw [f37,i37];simp -implicitDefEqProofs only [ei (show s+1<=9223372036854775807 by omega),aj,af];exact hnext _ g' f0 f6 rfl fJ (hold.trans fk)
def slot_round : ∀ k y g,lH h0 d j D J0 k y g->dE 131 (lH h0 d j D J0) (nu h0 d j D J0) k (fa CD y g):=by
 rintro k y g ⟨J,i0,i6,hJ,hold,hcase⟩;have hsm:=x.small;have xg:br g d D:=hold.dk x (fun h=>(hj.uF x) h.symm) (fun h=>(hj.nf x) h.symm);have main : ∀ s,s<=1->y 37=ak s->(∀ y' g',y' 0=ptr d 0->y' 6=ptr j 0->y' 37=ak (s+1)->cG g' j d (J.seeSlot D s)->aw h0 g' (fun c=>c=j)->dE 131 (lH h0 d j D J0) (nu h0 d j D J0) k (some (.normal,aT 131 y',g'))) ->
   dE 131 (lH h0 d j D J0) (nu h0 d j D J0) k (fa CD y g):=by
  intro s hs i37 hnext;obtain ⟨g1,e1,o1⟩:=r106 xg (show s<D.n by omega);have hJ1:cG g1 j d J:=hJ.keep o1 (fun h=>h);have hold1:aw h0 g1 (fun c=>c=j):=hold.also o1 (fun _ _ h=>h.elim);have xg1:=aM.dk o1 xg;have hx0 : ∀ a b c:Vl,extractA (.tuple #[a,b,c]) 0=some a:=fun _ _ _=>rfl;have hx1 : ∀ a b c:Vl,extractA (.tuple #[a,b,c]) 1=some b:=fun _ _ _=>rfl;have hx2 : ∀ a b c:Vl,extractA (.tuple #[a,b,c]) 2=some c:=fun _ _ _=>rfl;have hlt:aE prog .lss 3 (ak s) (.int .i64 2)=some (.bool true):=by have:=fF s 2;rw [DS (by omega)] at this;exact this
  have hsee:J.seeSlot D s=Jn.eT D s D.ar 0 (J.seeSuper D s):=rfl;unfold fa;simp -implicitDefEqProofs only [i37,hlt,aj,af,i0,e1,hx0,hx1,hx2];cases hok:dz (D.blk s) with
  |false=>
   have hss:J.seeSuper D s=J:=by unfold Jn.seeSuper;rw [hok];rfl
   rw [hss] at hsee;simp -implicitDefEqProofs only [af,yA xg1 h2];exact qw x hj h2 (s:=s) hs i0 i6 rfl rfl rfl i37 hJ1 hold1 (fun y' g' a1 a2 a3 a4 a5=>hnext y' g' a1 a2 a3 (hsee▸a4) a5)
  |true=>
   have hss:J.seeSuper D s={ J.takeSuper D s with known:=max J.known (bS (D.blk s)) }:=by unfold Jn.seeSuper;rw [hok];rfl
   simp -implicitDefEqProofs only [af,i6,av,aj,ax,DK,hJ1.l2,bU,aH];by_cases hc:J.slot<0\/J.gen<bS (D.blk s)
   ·have htk:J.takeSuper D s={ J with slot:=s,gen:=bS (D.blk s),area:=eo (D.blk s) }:=by unfold Jn.takeSuper;rw [DR hc]
    rw [htk] at hss;obtain ⟨g2,a1,a2,a3,a4⟩:=hJ1.st 2 (ak s) { J with slot:=s } (by decide) rfl rfl rfl hJ.area;obtain ⟨g3,b1,b2,b3,b4⟩:=a2.st 4 (.int .u64 (bS (D.blk s))) { J with slot:=s,gen:=bS (D.blk s) } (by decide) rfl rfl rfl hJ.area;obtain ⟨g4,c1,c2,c3,c4⟩:=b2.st 3 (ak (eo (D.blk s))) { J with slot:=s,gen:=bS (D.blk s),area:=eo (D.blk s) } (by decide) rfl rfl rfl (ke hok);obtain ⟨g5,d1,d2,d3,d4⟩:=c2.st 5 (.int .u64 ((max J.known (bS (D.blk s)):Nat):Int)) { J with slot:=s,gen:=bS (D.blk s),area:=eo (D.blk s),known:=max J.known (bS (D.blk s)) } (by decide) rfl rfl rfl (ke hok);have hold5:aw h0 g5 (fun c=>c=j):=(((hold1.trans a3).trans b3).trans c3).trans d3;have xg5:br g5 d D:=hold5.dk x (fun h=>(hj.uF x) h.symm) (fun h=>(hj.nf x) h.symm);have hl5:ld1 (ptr j 5) g4=some (.int .u64 J.known,g4):=c2.l5;have hfin:dE 131 (lH h0 d j D J0) (nu h0 d j D J0) k (fb (iter (codeA prog CD (al f57 [1,1,1,1,0,1,0,0,1,1,0,0,1,1,1,0,0])) aK (aT 131 y) g5) (fun e h=>some (Ex.ret,e,h)) (uH CD))->True:=fun _=>trivial;by_cases hc1:J.slot<0
    ·simp -implicitDefEqProofs only [hc1,GO,sf,aG,af,D8,av,aj,ax,DK,a1,b1,c1,hl5,mx64,d1,yA xg5 h2];exact qw x hj h2 (s:=s) hs i0 i6 rfl rfl rfl i37 d2 hold5 (fun y' g' a1 a2 a3 a4 a5=>hnext y' g' a1 a2 a3 (hsee▸hss▸a4) a5)
    ·have hc2:J.gen<bS (D.blk s):=hc.resolve_left hc1;simp -implicitDefEqProofs only [hc1,FN,D6,az,af,av,aj,ax,DK,hJ1.l4,gtr58,DJ,D3,hc2,GO,a1,b1,c1,hl5,mx64,d1,yA xg5 h2];exact qw x hj h2 (s:=s) hs i0 i6 rfl rfl rfl i37 d2 hold5 (fun y' g' a1 a2 a3 a4 a5=>hnext y' g' a1 a2 a3 (hsee▸hss▸a4) a5)
   ·have htk:J.takeSuper D s=J:=by unfold Jn.takeSuper;rw [DU hc]
    rw [htk] at hss;have hc1 : ¬J.slot<0:=fun h=>hc (.inl h);have hc2 : ¬J.gen<bS (D.blk s):=fun h=>hc (.inr h);obtain ⟨g5,d1,d2,d3,d4⟩:=hJ1.st 5 (.int .u64 ((max J.known (bS (D.blk s)):Nat):Int)) { J with known:=max J.known (bS (D.blk s)) } (by decide) rfl rfl rfl hJ.area;have hold5:aw h0 g5 (fun c=>c=j):=hold1.trans d3;have xg5:br g5 d D:=hold5.dk x (fun h=>(hj.uF x) h.symm) (fun h=>(hj.nf x) h.symm);simp -implicitDefEqProofs only [hc1,FN,D6,az,af,av,aj,ax,DK,hJ1.l4,gtr58,DJ,D3,hc2,hJ1.l5,mx64,d1,yA xg5 h2];exact qw x hj h2 (s:=s) hs i0 i6 rfl rfl rfl i37 d2 hold5 (fun y' g' a1 a2 a3 a4 a5=>hnext y' g' a1 a2 a3 (hsee▸hss▸a4) a5)
 rcases hcase with ⟨rfl,i37,rfl⟩|⟨rfl,i37,rfl⟩|⟨rfl,i37,rfl⟩
 ·exact main 0 (by decide) i37 (fun y' g' a1 a2 a3 a4 a5=>dE.next 1 (by decide) ⟨_,a1,a2,a4,a5,.inr (.inl ⟨rfl,a3,rfl⟩)⟩)
 ·exact main 1 (by decide) i37 (fun y' g' a1 a2 a3 a4 a5=>dE.next 0 (by decide) ⟨_,a1,a2,a4,a5,.inr (.inr ⟨rfl,a3,rfl⟩)⟩)
 ·have hlt:aE prog .lss 3 (ak 2) (.int .i64 2)=some (.bool false):=by have:=fF 2 2;rw [DP (by omega)] at this;exact this
  unfold fa;simp -implicitDefEqProofs only [i37,hlt,aj,af];exact dE.out 0 ⟨rfl,i0,i6,hJ,hold⟩
end
def EntAt (h:ae) (N:Nat) (cells:List Vl) (i:Nat) (e:Nat×List Nat):Prop:=
 cells[2*i]? = some (ak e.1) /\ ∃ a n c,cells[2*i+1]? = some (.slice a n c)/\aq a n h=some e.2/\ct a n c=true /\ ∀ y,a=some y->0<n->N<=y.block
def fu (h:ae) (N:Nat) (cells:List Vl) (ents:List (Nat×List Nat)):Prop:=cells.length=2*ents.length /\ ∀ i e,ents[i]? = some e->EntAt h N cells i e
def fu.keep {h h':ae} {N:Nat} {cells:List Vl} {ents:List (Nat×List Nat)} (E:fu h N cells ents) {B:Nat->Prop} (k:aw h h' B) (hB : ∀ b,B b->BJ h b):fu h' N cells ents:=by refine ⟨E.1,fun i e he => ?_⟩;obtain ⟨h1,a,n,c,h2,h3,h4,h5⟩:=E.2 i e he;exact ⟨h1,a,n,c,h2,k.uW hB h3,h4,h5⟩
def fu.nil (h:ae) (N:Nat):fu h N [] []:=⟨rfl,fun i e he=>by simp at he⟩
def fu.plain {h:ae} {N:Nat} {cells:List Vl} {ents:List (Nat×List Nat)} (E:fu h N cells ents) : ∀ v∈cells,nat8 v=none:=by
 intro v hv;obtain ⟨q,hq⟩:=IA hv;have hl:=(D9.1 hq).1;rw [E.1] at hl;have hi:q/2<ents.length:=by omega
 obtain ⟨h1,a,n,c,h2,_⟩:=E.2 (q/2) ents[q/2] (DL hi);rcases Nat.mod_two_eq_zero_or_one q with h0|h0
 ·rw [show 2*(q/2)=q by omega,hq] at h1;cases h1;rfl
 ·rw [show 2*(q/2)+1=q by omega,hq] at h2;cases h2;rfl
def fu.snoc {h:ae} {N:Nat} {cells:List Vl} {ents:List (Nat×List Nat)} (E:fu h N cells ents) {at_:Nat} {l:List Nat} {a:Option Addr} {n c:Nat} (hs:aq a n h=some l) (hg:ct a n c=true) (ha : ∀ y,a=some y->0<n->N<=y.block) :
  fu h N (cells ++ [ak at_,.slice a n c]) (ents ++ [(at_,l)]):=by
 refine ⟨by simp [E.1];omega,fun i e he => ?_⟩;have hl:=E.1;by_cases hi:i<ents.length
 ·rw [EX hi] at he;obtain ⟨h1,a',n',c',h2,h3⟩:=E.2 i e he;exact ⟨by rw [EX (by omega)];exact h1,a',n',c',by rw [EX (by omega)];exact h2,h3⟩
 ·rw [EI (by omega)] at he;have:i=ents.length:=by have:=(D9.1 he).1;simp at this;omega
  subst this;rw [HT] at he;cases he;refine ⟨by rw [EI (by omega),hl,HT];rfl,a,n,c,?_,hs,hg,ha⟩;rw [EI (by omega),hl,GA];rfl
def Dk.ents (D:Dk) (J:Jn):Nat->Nat->List (Nat×List Nat)
 | 0,_ => []
 |k+1,at_=>if at_<D.ar then if J.stands D at_ then (at_,D.data J.area at_ (D.parts J.area at_))::D.ents J k (at_+D.parts J.area at_) else D.ents J k (at_+1) else []
def Dk.ents_end {D:Dk} {J:Jn} {at_:Nat} (h:D.ar<=at_) : ∀ k,D.ents J k at_ = []
 | 0=>rfl
 |k+1=>by unfold Dk.ents;rw [DU (by omega)]
def Jn.yu {J:Jn} {D:Dk} {at_:Nat} (hat:at_<D.ar):J.stands D at_=(decide (0<=J.slot)&&D.stands J.area J.gen at_):=by unfold Jn.stands;rw [Int.toNat_natCast,DS (show (0:Int)<=(at_:Int) by omega),DS (show (at_:Int)<(D.ar:Int) by omega),EY,EY]
def r109 {h:ae} {d j:Nat} {D:Dk} {J:Jn} (x:br h d D) (xj:cG h j d J) (h2:2<=D.n) {at_:Nat} (hat:at_<D.ar) :
  (J.stands D at_=false /\ ∃ h',CD 109 [ptr j 0,ak at_] h=some (.tuple #[.slice none 0 0,ak 0],h')/\aM h h') \/
  (J.stands D at_=true /\ ∃ v h',CD 109 [ptr j 0,ak at_] h=some (.tuple #[v,ak (D.parts J.area at_)],h')/\aM h h'/\jq h' h.next v (D.data J.area at_ (D.parts J.area at_))):=by
 rw [Jn.yu hat];by_cases hs:0<=J.slot
 ·rw [DS hs,E3];exact xC x xj h2 hs hat
 ·rw [DP hs,E4];exact .inl ⟨rfl,h,wP x xj h2 at_ (.inl (by omega)),aw.refl _ _⟩
section
variable {h0:ae} {d j:Nat} {D:Dk} {J:Jn} (x:br h0 d D) (xj:cG h0 j d J) (h2:2<=D.n)
def entInv (h0:ae) (d j:Nat) (D:Dk) (J:Jn) (k:Nat) (y:Nat->Vl) (g:ae):Prop:=
 ∃ at_ cells done,y 0=ptr d 0/\y 6=ptr j 0/\y 15=ak at_/\cF g h0.next 2 (y 14) done.length cells/\fu g h0.next cells done/\aM h0 g/\at_<=D.ar/\D.ar<=at_+k/\done++D.ents J k at_=D.ents J D.ar 0/\done.length<=at_
def entFin (h0:ae) (j:Nat) (D:Dk) (J:Jn) (ex:Ex) (y:Nat->Vl) (g:ae):Prop:=
 ex = .exit 4/\y 6=ptr j 0 /\ ∃ cells,cF g h0.next 2 (y 14) (D.ents J D.ar 0).length cells/\fu g h0.next cells (D.ents J D.ar 0)/\aM h0 g
include x xj h2
def ent_round : ∀ k y g,entInv h0 d j D J k y g->dE 131 (entInv h0 d j D J) (entFin h0 j D J) k (gG CD y g):=by
 rintro k y g ⟨at_,cells,done,i0,i6,i15,own,E,hold,hle,hk,hents,hdl⟩;have hsm:=x.small;have har:D.ar=(D.n-2)/2:=rfl;have xg:=aM.dk hold x;have jg:=xj.keep hold (fun h=>h);unfold gG;simp -implicitDefEqProofs only [i15,i0,af,yA xg h2,fF,aj];by_cases hlt:at_<D.ar
 ·obtain ⟨q,rfl⟩ : ∃ q,k=q+1:=⟨k-1,by omega⟩
  have hx0 : ∀ a b:Vl,extractA (.tuple #[a,b]) 0=some a:=fun _ _=>rfl;have hx1 : ∀ a b:Vl,extractA (.tuple #[a,b]) 1=some b:=fun _ _=>rfl;have hg0 : ∀ p:Nat,aE prog .gtr 3 (ak p) (.int .i64 0)=some (.bool (decide (0<p))):=fun p=>gtr3 p 0;have hents2:D.ents J (q+1) at_=if J.stands D at_ then (at_,D.data J.area at_ (D.parts J.area at_))::D.ents J q (at_+D.parts J.area at_) else D.ents J q (at_+1):=by show (if at_<D.ar then _ else _)=_;rw [DR hlt]
  rw [hents2] at hents;rcases r109 xg jg h2 hlt with ⟨hst,g1,e1,o1⟩|⟨hst,v,g1,e1,o1,ob⟩
  ·rw [hst] at hents;have hmx:minmax true (ak 0) [.int .i64 1]=some (ak 1):=rfl;simp -implicitDefEqProofs only [DS hlt,i6,af,e1,hx0,hx1,aj,hg0,GH,FN,hmx,uK (show at_+1<=9223372036854775807 by omega)];exact dE.next q (by omega) ⟨at_+1,cells,done,i0,i6,rfl,own.keep o1 (fun _ _ h=>h),E.keep o1 (fun _ h=>h.elim),hold.trans o1,by omega,by omega,hents,by omega⟩
  ·rw [hst,DR rfl] at hents;have hpos:1<=D.parts J.area at_/\at_+D.parts J.area at_<=D.ar:=by rw [Jn.yu hlt,DN] at hst;exact Dk.nv hst.2
   generalize hp:D.parts J.area at_=p at *;generalize hdat:D.data J.area at_ p=l at *;obtain ⟨a,c,rfl,s1,s2,s3,s4⟩:=ob.bytes;have hmx:minmax true (ak p) [.int .i64 1]=some (ak p):=by simp only [minmax,ak,D8];rw [DU (by have:=hpos.1;simp;omega)]
   have hbl:dG [(.int .i64 0),(.slice none 0 0)] [(0,1,ak at_),(1,1,.slice a l.length c)]=some (.agg [ak at_,.slice a l.length c].toArray):=rfl;have hbs:fE 2 (.agg #[(.int .i64 0),(.slice none 0 0)]) 1 [(0,.agg [ak at_,.slice a l.length c].toArray)] g1=some (.slice (some ⟨g1.next,0,none⟩) 1 1,g1.alloc [ak at_,.slice a l.length c]):=rfl;have oA:aM g1 (g1.alloc [ak at_,.slice a l.length c]):=aw.alloc _ _ _;have gA:(g1.alloc [ak at_,.slice a l.length c]).get g1.next=some [ak at_,.slice a l.length c]:=by rw [ae.aX,DR rfl]
   have ownA:=(own.keep o1 (fun _ _ h=>h)).keep oA (fun _ _ h=>h);have EA:=(E.keep o1 (fun _ h=>h.elim)).keep oA (fun _ h=>h.elim);have holdA:aM h0 (g1.alloc [ak at_,.slice a l.length c]):=(hold.trans o1).trans oA;have sA:=aM.bytes oA s1;generalize hgA:g1.alloc [ak at_,.slice a l.length c]=gA1 at *;have hfA:firstA 2 1 (.slice (some ⟨g1.next,0,none⟩) 1 1) gA1=some [ak at_,.slice a l.length c]:=by simp only [firstA,gA];rfl
   obtain ⟨v',g4,f1,f2,f3,f4⟩:=ic (qX:=32) (x := .slice (some ⟨g1.next,0,none⟩) 1 1) (m:=1) ownA (by rw [holdA.n0];exact h0.n0_le_next) holdA.next (by decide) rfl hfA rfl rfl rfl (by omega) (by omega);have pl : ∀ b,bx (y 14)=some b/\gA1.get b=some cells->BJ gA1 b:=fun b hb=>⟨cells,hb.2,EA.plain⟩
   have s5:=f3.uW pl sA;have E5:=EA.keep f3 pl;have hN:h0.next<=g.next:=hold.next;simp -implicitDefEqProofs only [DS hlt,i6,af,e1,hx0,hx1,aj,hg0,DS (show 0<p by omega),hbl,hbs,f1,hmx,uK (show at_+p<=9223372036854775807 by omega)];refine dE.next q (by omega) ⟨at_+p,cells ++ [ak at_,.slice a l.length c],done ++ [(at_,l)],i0,i6,rfl,?_,E5.snoc s5 s2 (fun y hy _=>ED hN (s3 y hy)),?_,by omega,by omega,?_,?_⟩
   ·rw [DW];exact f2
   ·exact holdA.also f3 (fun c hc hb=>by have:=ownA.base hb.1;omega)
   ·rw [FD];exact hents
   ·rw [DW];show done.length+1<=_;omega
 ·simp -implicitDefEqProofs only [DP hlt];rw [D.ents_end (by omega) k,GM] at hents;refine dE.out 4 ⟨rfl,i6,cells,?_,?_,hold⟩
  ·rw [<-hents];exact own
  ·rw [<-hents];exact E
end
def Dk.opened (D:Dk):Dk:={ D with turn:=IntKind.wrap .i64 (D.turn+1) }
def is57:bJ prog 57 f57 := .of (by kernel_rfl)
def Dk.jn (D:Dk):Jn:=D.opened.openJ D.opened.turn
def Dk.entries (D:Dk):List (Nat×List Nat):=D.opened.ents D.jn D.ar 0
def r57 {h:ae} {d:Nat} {D:Dk} (x:br h d D) (h2:2<=D.n) (hd:D.down=false) :
  ∃ j v cells N h',CD 57 [ptr d 0] h=some (.tuple #[ptr j 0,v,.int .i64 0],h')/\br h' d D.opened/\cG h' j d D.jn/\cF h' N 2 v D.entries.length cells/\fu h' N cells D.entries/\aw h h' (fun c=>c=d)/\h.next<=j/\j<N/\N<=h'.next:=by
 have hf:D.fault 0=0:=by unfold Dk.fault;rw [hd,DU (by simp),DU (by omega)]
 have e53:CD 105 [ptr d 0,.int .i64 0] h=some (.int .i64 0,h):=by rw [r105 0 x,hf]
 have hst:=x.s5 (IntKind.wrap .i64 (D.turn+1));have x1:br (h.set d D.opened.hdr) d D.opened:=x.setHdr ⟨rfl,rfl,rfl⟩ x.after x.keep;have hst:bX 1 (ptr d 5) (.int .i64 (IntKind.wrap .i64 (D.turn+1))) h=some (undef,h.set d D.opened.hdr):=hst;have k1:aw h (h.set d D.opened.hdr) (fun c=>c=d):=aw.set x.dn x.hdr (.inr rfl);have hn1:(h.set d D.opened.hdr).next=h.next:=rfl;have hdlt:=x.lt;generalize hh1:h.set d D.opened.hdr=h1 at *;have hl5:ld1 (ptr d 5) h1=some (.int .i64 D.opened.turn,h1):=x1.l5;have hbl:dG zlit2 [(0,1,ptr d 0),(1,1,.int .i64 D.opened.turn),(2,1,(.int .i64 (-1)))]=some (.agg ((D.opened.jn0 D.opened.turn).cells d).toArray):=rfl;have hbox:=iL h1 ((D.opened.jn0 D.opened.turn).cells d) rfl;have oA:aM h1 (h1.alloc ((D.opened.jn0 D.opened.turn).cells d)):=aw.alloc _ _ _;have xA:=aM.dk oA x1;have jA:cG (h1.alloc ((D.opened.jn0 D.opened.turn).cells d)) h1.next d (D.opened.jn0 D.opened.turn):=⟨by rw [ae.aX,DR rfl],h1.n0_le_next,by show (0:Nat)<=1;omega⟩
 have nA:(h1.alloc ((D.opened.jn0 D.opened.turn).cells d)).next=h1.next+1:=ae.eR ..;have kA:aw h (h1.alloc ((D.opened.jn0 D.opened.turn).cells d)) (fun c=>c=d):=k1.also oA (fun _ _ h=>h.elim);have h2':2<=D.opened.n:=h2;have hr:(131:Nat)<aK:=by have:aK=18446744073709551616:=rfl;omega
 generalize hhA:h1.alloc ((D.opened.jn0 D.opened.turn).cells d)=hA at *;have key : ∀ o:ba,t57 CD (ptr d 0) h=o -> ∃ v cells N h',o=some (.tuple #[ptr h1.next 0,v,.int .i64 0],h')/\br h' d D.opened/\cG h' h1.next d D.jn/\cF h' N 2 v D.entries.length cells/\fu h' N cells D.entries/\aw h h' (fun c=>c=d)/\h1.next<N/\N<=h'.next:=by
  intro o ho;subst ho;unfold t57;simp -implicitDefEqProofs only [af,e53,aj,cZ,EW,av,ax,DK,x.l5,dI,hst,hl5,hbl,hbox];refine cp (Q:=fun (o:ba) => ∃ v cells N h',o=some (.tuple #[ptr h1.next 0,v,.int .i64 0],h')/\br h' d D.opened/\cG h' h1.next d D.jn/\cF h' N 2 v D.entries.length cells/\fu h' N cells D.entries/\aw h h' (fun c=>c=d)/\h1.next<N/\N<=h'.next)
   (cj (tq CD) (slot_round xA jA h2') 2 (by omega) ⟨D.opened.jn0 D.opened.turn,rfl,rfl,jA,aw.refl _ _,.inl ⟨rfl,rfl,rfl⟩⟩) ?_
  rintro ex y g ⟨rfl,f0,f6,fJ,fk⟩;have xg:br g d D.opened:=fk.dk xA (fun h=>(jA.uF xA) h.symm) (fun h=>(jA.nf xA) h.symm);have kg:aw h g (fun c=>c=d):=kA.also fk (fun c hc he=>by omega);have hgn:h1.next<g.next:=by have:=fk.next;omega
  simp -implicitDefEqProofs only [bK,b57_9,D8,t57k57_7_eq];unfold xH;simp -implicitDefEqProofs only [af];refine cp (Q:=fun (o:ba) => ∃ v cells N h',o=some (.tuple #[ptr h1.next 0,v,.int .i64 0],h')/\br h' d D.opened/\cG h' h1.next d D.jn/\cF h' N 2 v D.entries.length cells/\fu h' N cells D.entries/\aw h h' (fun c=>c=d)/\h1.next<N/\N<=h'.next)
   (cj (qT CD) (ent_round xg fJ h2') D.opened.ar (by have:aK=18446744073709551616:=rfl;have:=xg.small;unfold Dk.ar;omega) ⟨0,[],[],f0,f6,rfl,cF.nil _ _ _,fu.nil _ _,aw.refl _ _,FB _,by omega,rfl,DO _⟩) ?_
  rintro ex z g2 ⟨rfl,q6,cells,q1,q2,q3⟩;refine ⟨z 14,cells,g.next,g2,?_,aM.dk q3 xg,fJ.keep q3 (fun h=>h),q1,q2,kg.also q3 (fun _ _ h=>h.elim),hgn,q3.next⟩;simp -implicitDefEqProofs only [bK,b57_13,D8,Cx];unfold uk;simp -implicitDefEqProofs only [af,q6]
 obtain ⟨v,cells,N,h',e,a1,a2,a3,a4,a5,a6,a7⟩:=key _ rfl;exact ⟨h1.next,v,cells,N,h',aJ is57 rfl ((t57_eq _ _ _).trans e),a1,a2,a3,a4,a5,by omega,a6,a7⟩
def ma (h:ae) (F:Nat->Prop) (v:Vl) (vals:List (List Nat)):Prop:=
 ∃ a c,v = .slice a vals.length c /\ ∀ i r,vals[i]? = some r -> ∃ b off s k ai ni ci,a=some ⟨b,off,s⟩/\h.get b=some k /\ ¬F b/\k[off+i]? = some (.slice ai ni ci)/\aq ai ni h=some r/\ct ai ni ci=true /\ ∀ y,ai=some y->0<ni -> ¬F y.block
def ma.keep {h h':ae} {F B:Nat->Prop} {v:Vl} {vals:List (List Nat)} (R:ma h F v vals) (k:aw h h' B) (hB : ∀ c,B c->F c\/h.next<=c):ma h' F v vals:=by
 obtain ⟨a,c,rfl,hR⟩:=R;refine ⟨a,c,rfl,fun i r hi => ?_⟩;obtain ⟨b,off,s,kk,ai,ni,ci,h1,h2,h3,h4,h5,h6,h7⟩:=hR i r hi;refine ⟨b,off,s,kk,ai,ni,ci,h1,k.getE h2 (fun hb=>(hB b hb).elim h3 (fun h8=>by have:=h.aW h2;omega)),h3,h4,k.bytes h5 (fun y hy hn hb => ?_),h6,h7⟩;rcases hB _ hb with h8|h8
 ·exact h7 y hy hn h8
 ·subst hy;obtain ⟨b',o',s',e,hlt⟩:=du h5 hn;cases e;have:h.next<=b':=h8;omega
def ma.at {h:ae} {F:Nat->Prop} {v:Vl} {vals:List (List Nat)} (R:ma h F v vals) {i:Nat} {r:List Nat} (hi:vals[i]? = some r) :
  ∃ p a n c,idxS 1 v (ak i)=some p/\ld1 p h=some (.slice a n c,h)/\aq a n h=some r/\ct a n c=true/\(∀ y,a=some y->0<n -> ¬F y.block)/\cI v=some (ak vals.length):=by
 obtain ⟨a,c,rfl,hR⟩:=R;obtain ⟨b,off,s,kk,ai,ni,ci,rfl,h2,h3,h4,h5,h6,h7⟩:=hR i r hi;have hl:=(D9.1 hi).1;refine ⟨ptr b (off+i*1),ai,ni,ci,?_,?_,h5,h6,h7,rfl⟩
 ·unfold idxS;simp only [ak];rw [DR (by omega),Int.toNat_natCast]
 ·rw [FQ];exact aP h2 h4
def ma.len {h:ae} {F:Nat->Prop} {v:Vl} {vals:List (List Nat)} (R:ma h F v vals):cI v=some (ak vals.length):=by obtain ⟨a,c,rfl,hR⟩:=R;rfl
def bH (vals:List (List Nat)):Nat:=(vals.map fun r=>da r.length).sum
def tG {vals:List (List Nat)} {i:Nat} {r:List Nat} (hi:vals[i]? = some r):bH (vals.take (i+1))=bH (vals.take i)+da r.length:=by unfold bH;rw [HA,hi];simp
def recsTot_le (vals:List (List Nat)) (i:Nat):bH (vals.take i)<=bH vals:=by have h:=E2 bH (F7 i vals);unfold bH at *;rw [EV,List.sum_append] at h;omega
section
variable {h0:ae} {d j:Nat} {D:Dk} {J:Jn} {F:Nat->Prop} {v:Vl} {vals:List (List Nat)} (x:br h0 d D) (xj:cG h0 j d J) (h2:2<=D.n) (R:ma h0 F v vals) (hlen:vals.length<=100000)
def needInv (h0:ae) (j:Nat) (D:Dk) (v:Vl) (vals:List (List Nat)) (k:Nat) (y:Nat->Vl) (g:ae):Prop:=
 g=h0 /\ ∃ i,i+k=vals.length/\y 0=ptr j 0/\y 1=v/\y 26=v/\y 27=ak vals.length/\y 28=ak i/\y 7=ak (min (bH (vals.take i)) 4096)/\y 8 = .bool (decide (D.ar<bH (vals.take i))) /\ ∀ r∈vals.take i,r.length<=20000
def needFin (h0:ae) (j:Nat) (D:Dk) (v:Vl) (vals:List (List Nat)) (ex:Ex) (y:Nat->Vl) (g:ae):Prop:=
 g=h0/\((ex = .ret/\y 4 = .slice none 0 0/\y 5 = .int .i64 3 /\ ∃ r∈vals,20000<r.length)\/(ex = .exit 0/\y 0=ptr j 0/\y 1=v/\y 8 = .bool (decide (D.ar<bH vals)) /\ ∀ r∈vals,r.length<=20000))
include x xj h2 R hlen
def need_round : ∀ k y g,needInv h0 j D v vals k y g->dE 151 (needInv h0 j D v vals) (needFin h0 j D v vals) k (hU CD y g):=by
 rintro k y g ⟨rfl,i,hik,i0,i1,i26,i27,i28,i7,i8,hall⟩;have hsm:=x.small;have har:D.ar=(D.n-2)/2:=rfl;unfold hU;simp -implicitDefEqProofs only [i28,i27,fF,aj,af];by_cases hz:k=0
 ·subst hz;have hi:i=vals.length:=by omega
  subst hi;rw [GG] at i8 hall;simp -implicitDefEqProofs only [GH,FN];exact dE.out 0 ⟨rfl,.inr ⟨rfl,i0,i1,i8,hall⟩⟩
 ·obtain ⟨q,rfl⟩ : ∃ q,k=q+1:=⟨k-1,by omega⟩
  have hlt:i<vals.length:=by omega
  have hi:vals[i]? = some vals[i]:=DL hlt;generalize vals[i]=r at hi;obtain ⟨p,a,n,c,e1,e2,e3,e4,e5,e6⟩:=R.at hi;have hrl:=(ay e3).1;have hg : ∀ z:Nat,aE prog .gtr 3 (ak z) (.int .i64 20000)=some (.bool (decide (20000<z))):=fun z=>gtr3k z 20000;simp -implicitDefEqProofs only [DS hlt,i26,e1,e2,aj,af,cV];rw [show (Value.int .i64 (n:Int))=ak n from rfl];simp -implicitDefEqProofs only [hg,aj,af];by_cases hlong:20000<n
  ·simp -implicitDefEqProofs only [DS hlong];exact dE.ret ⟨rfl,.inl ⟨rfl,rfl,rfl,r,EC hi,by omega⟩⟩
  ·have hcl:=tC (n:=n) (by omega);have htk:=tG hi;rw [hrl] at htk;have hmn:minmax false (ak (min (bH (vals.take i)) 4096+da n)) [.int .i64 4096]=some (ak (min (bH (vals.take (i+1))) 4096)):=by
    simp only [minmax,ak,D8,DJ,D3];by_cases hc:(4096:Int)<((min (bH (vals.take i)) 4096+da n:Nat):Int)
    ·rw [DR (by simpa using hc),Nat.min_eq_right (by omega)];rfl
    ·rw [DU (by simpa using hc)];exact E2 (fun z:Nat=>some (Value.int .i64 (z:Int))) (by omega)
   simp -implicitDefEqProofs only [DP hlong,i7,r73 n g (by omega),af,uK (show min (bH (vals.take i)) 4096+da n<=9223372036854775807 by omega),aj,hmn,i8,aH];have hall2 : ∀ r'∈vals.take (i+1),r'.length<=20000:=by
    intro r' hr';rw [HA,hi] at hr';rcases EF.1 hr' with h|h
    ·exact hall r' h
    ·have:r'=r:=by simpa using h
     rw [this];omega
   by_cases hf:D.ar<bH (vals.take i)
   ·simp -implicitDefEqProofs only [DS hf,sf,aG,af,D8,ei (show i+1<=9223372036854775807 by omega),aj];refine dE.next q (by omega) ⟨rfl,i+1,by omega,i0,i1,i26,i27,rfl,rfl,?_,hall2⟩;have:D.ar<bH (vals.take (i+1)):=by omega
    rw [DS this];rfl
   ·have hgf:decide (D.ar<min (bH (vals.take (i+1))) 4096)=decide (D.ar<bH (vals.take (i+1))):=F9.2 (by omega);simp -implicitDefEqProofs only [DP hf,D6,az,af,i0,av,aj,ax,DK,xj.l0,yA x h2,gtr3,hgf,DJ,D3,ei (show i+1<=9223372036854775807 by omega)];exact dE.next q (by omega) ⟨rfl,i+1,by omega,i0,i1,i26,i27,rfl,rfl,rfl,hall2⟩
end
def Dk.rwAll (area gen:Nat):List (List Nat)->Nat->Dk->List Nat->Int×Dk×Nat×List Nat
 | [],at_,D,ps=>(0,D,at_,ps)
 |r::rs,at_,D,ps=>if (D.wrRec area gen at_ r).1=0 then Dk.rwAll area gen rs (at_+da r.length) (D.wrRec area gen at_ r).2 (ps ++ [at_]) else ((D.wrRec area gen at_ r).1,(D.wrRec area gen at_ r).2,at_,ps)
def rwF (j d:Nat) (D:Dk) (c:Nat):Prop:=c=j\/c=d\/c=D.bb
section
variable {h0:ae} {d j:Nat} {D:Dk} {J:Jn} {v:Vl} {vals:List (List Nat)} {area gen:Nat} {slot:Int} (x:br h0 d D) (xj:cG h0 j d J) (h2:2<=D.n) (R:ma h0 (rwF j d D) v vals) (hlen:vals.length<=100000)
 (ha:area<=1) (hg:gen<18446744073709551616) (htot:bH vals<=D.ar) (hall : ∀ r∈vals,r.length<=20000)
def rwInv (h0:ae) (N d j:Nat) (D:Dk) (v:Vl) (vals:List (List Nat)) (area gen:Nat) (slot:Int) (k:Nat) (y:Nat->Vl) (g:ae):Prop:=
 ∃ i E ps,i+k=vals.length/\y 0=ptr j 0/\y 81=v/\y 82=ak vals.length/\y 83=ak i/\y 11=ak area/\y 12 = .int .i64 slot/\y 13 = .int .u64 gen/\y 14=ak (bH (vals.take i))/\ps.length=i/\cF g N 1 (y 15) i (ps.map ak)/\br g d E/\E.bb=D.bb/\E.n=D.n /\
   ek d D.bb h0 g/\Dk.rwAll area gen (vals.drop i) (bH (vals.take i)) E ps=Dk.rwAll area gen vals 0 D []
def rwFin (h0:ae) (N d j:Nat) (D:Dk) (vals:List (List Nat)) (area gen:Nat) (slot:Int) (ex:Ex) (y:Nat->Vl) (g:ae):Prop:=
 br g d (Dk.rwAll area gen vals 0 D []).2.1/\(Dk.rwAll area gen vals 0 D []).2.1.bb=D.bb/\(Dk.rwAll area gen vals 0 D []).2.1.n=D.n/\ek d D.bb h0 g /\
  ((ex = .ret/\y 4 = .slice none 0 0/\y 5 = .int .i64 (Dk.rwAll area gen vals 0 D []).1/\(Dk.rwAll area gen vals 0 D []).1≠0) \/
   (ex = .exit 2/\y 0=ptr j 0/\y 11=ak area/\y 12 = .int .i64 slot/\y 13 = .int .u64 gen/\(Dk.rwAll area gen vals 0 D []).1=0/\(Dk.rwAll area gen vals 0 D []).2.2.1=bH vals/\y 14=ak (bH vals)/\(Dk.rwAll area gen vals 0 D []).2.2.2.length=vals.length /\
    cF g N 1 (y 15) vals.length ((Dk.rwAll area gen vals 0 D []).2.2.2.map ak)))
include x xj h2 R hlen ha hg htot hall
def rw_round : ∀ k y g,rwInv h0 h0.next d j D v vals area gen slot k y g->dE 151 (rwInv h0 h0.next d j D v vals area gen slot) (rwFin h0 h0.next d j D vals area gen slot) k (eA CD y g):=by
 rintro k y g ⟨i,E,ps,hik,i0,i81,i82,i83,i11,i12,i13,i14,hps,own,xg,hEb,hEn,hk,hrw⟩;have hsm:=x.small;have hdl:=x.lt;have hbl:=x.blt;have har:D.ar=(D.n-2)/2:=rfl;have jg:cG g j d J:=xj.keep hk (fun h=>h.elim (xj.uF x) (xj.nf x));have Rg:ma g (rwF j d D) v vals:=R.keep hk (fun c hc => .inl (.inr hc));unfold eA;simp -implicitDefEqProofs only [i83,i82,fF,aj,af];by_cases hz:k=0
 ·subst hz;have hi:i=vals.length:=by omega
  subst hi;rw [List.drop_length,GG] at hrw;rw [GG] at i14;have hrw:(0,E,bH vals,ps)=Dk.rwAll area gen vals 0 D []:=hrw;simp -implicitDefEqProofs only [GH,FN];refine dE.out 2 ?_;unfold rwFin;rw [<-hrw];exact ⟨xg,hEb,hEn,hk,.inr ⟨rfl,i0,i11,i12,i13,rfl,rfl,i14,hps,own⟩⟩
 ·obtain ⟨q,rfl⟩ : ∃ q,k=q+1:=⟨k-1,by omega⟩
  have hlt:i<vals.length:=by omega
  have hi:vals[i]? = some vals[i]:=DL hlt;have hdrop:vals.drop i=vals[i]::vals.drop (i+1):=(List.getElem_cons_drop hlt).symm;have hr20:=hall vals[i] (GV hlt);rw [hdrop] at hrw;generalize hrr:vals[i]=r at hi hrw hr20;obtain ⟨p,a,n,c,e1,e2,e3,e4,e5,e6⟩:=Rg.at hi;have hrl:=(ay e3).1;have htk:=tG hi;have htl:=recsTot_le vals (i+1);have hcl:=tC (n:=r.length) (by omega);obtain ⟨g1,f1,x1,b1,n1,k1⟩:=r176 xg jg (by omega) ha hg (at_:=bH (vals.take i)) (by omega) e3 e4 (by omega) (fun y hy hn hb=>e5 y hy hn (.inr (.inr (hb.trans hEb))));have hrw2:(if (E.wrRec area gen (bH (vals.take i)) r).1=0 then Dk.rwAll area gen (vals.drop (i+1)) (bH (vals.take i)+da r.length) (E.wrRec area gen (bH (vals.take i)) r).2 (ps ++ [bH (vals.take i)]) else ((E.wrRec area gen (bH (vals.take i)) r).1,(E.wrRec area gen (bH (vals.take i)) r).2,bH (vals.take i),ps))=Dk.rwAll area gen vals 0 D []:=hrw;rw [hEb] at b1 k1;have kk1:ek d D.bb h0 g1:=hk.trans k1;generalize hA:bH (vals.take i)=A at *;simp -implicitDefEqProofs only [DS hlt,i81,e1,e2,aj,af,i0,i11,i13,i14,f1,cZ];by_cases hz2:(E.wrRec area gen A r).1=0
  ·rw [DR hz2] at hrw2;have hne:((E.wrRec area gen A r).1 != 0)=false:=by rw [hz2];rfl
   have own1:cF g1 h0.next 1 (y 15) i (ps.map ak):=own.keep k1 (fun b hb hc=>by have:=own.base hb;rcases hc with hc|hc<;>omega)
   have oA:aM g1 (g1.alloc [ak A]):=aw.alloc _ _ _;have gA:(g1.alloc [ak A]).get g1.next=some [ak A]:=by rw [ae.aX,DR rfl]
   have hbs:fE 1 (.int .i64 0) 1 [(0,ak A)] g1=some (.slice (some ⟨g1.next,0,none⟩) 1 1,g1.alloc [ak A]):=rfl;have own2:=own1.keep oA (fun _ _ h=>h);have x2:=aM.dk oA x1;have kk2:ek d D.bb h0 (g1.alloc [ak A]):=kk1.also oA (fun _ _ h=>h.elim);generalize hgA:g1.alloc [ak A]=g2 at *;have hfA:firstA 1 1 (.slice (some ⟨g1.next,0,none⟩) 1 1) g2=some [ak A]:=by simp only [firstA,gA];rfl
   obtain ⟨v',g3,q1,q2,q3,q4⟩:=ic (qX:=8) (x := .slice (some ⟨g1.next,0,none⟩) 1 1) (m:=1) own2 (by rw [kk2.n0];exact h0.n0_le_next) kk2.next (by decide) rfl hfA rfl rfl rfl (by omega) (by omega);have x3:br g3 d (E.wrRec area gen A r).2:=q3.dk x2 (fun h=>by have:=own2.base h.1;omega) (fun h=>by have:=own2.base h.1;rw [b1] at this;omega);have kk3:ek d D.bb h0 g3:=⟨q3.n0.trans kk2.n0,ED kk2.next q3.next,fun e he hc=>
    (q3.getB e (FC he kk2.next) (fun h=>by have:=own2.base h.1;omega)).trans (kk2.getB e he hc)⟩
   rw [hrl] at htk hcl hrw2;have hpl:(ps ++ [A]).length=i+1:=by simp [hps]
   have hmap:(ps ++ [A]).map ak=ps.map ak ++ [ak A]:=by simp
   simp -implicitDefEqProofs only [hne,af,hbs,q1,cV,aj];rw [show (Value.int .i64 (n:Int))=ak n from rfl];simp -implicitDefEqProofs only [r73 n g3 (by omega),af,uK (show A+da n<=9223372036854775807 by omega),ei (show i+1<=9223372036854775807 by omega),aj];refine dE.next q (by omega) ⟨i+1,_,ps ++ [A],by omega,i0,i81,i82,rfl,i11,i12,i13,?_,hpl,by rw [hmap];exact q2,x3,b1,n1.trans hEn,kk3,?_⟩
   ·show ak (A+da n)=_;rw [htk]
   ·rw [htk];exact hrw2
  ·rw [DU hz2] at hrw2;have hne:((E.wrRec area gen A r).1 != 0)=true:=by rw [HQ];exact hz2
   simp -implicitDefEqProofs only [hne,af];refine dE.ret ?_;unfold rwFin;rw [<-hrw2];exact ⟨x1,b1,n1.trans hEn,kk1,.inl ⟨rfl,rfl,rfl,hz2⟩⟩
end
end
end Go.Proofs.YtdhpgacmgebjdaaGreatDoor.W
