/-
  A part of the proof, shortened by a program.
  Conditions: as each theorem states.
-/
import Derived.Test.YtdhpgacmgebjdaaGreatDoorG18
set_option linter.all false
namespace Go.Proofs.YtdhpgacmgebjdaaGreatDoor.W
open Go Go.Abs Tryz
noncomputable section
def mc (h:ae) (F:Nat->Prop) (v:Vl) (vals:List (List Nat)):Prop:=
 ∃ a c,v = .slice a vals.length c /\ ∀ i r,vals[i]? = some r -> ∃ b off s k ai ni ci,a=some ⟨b,off,s⟩/\h.get b=some k /\ ¬F b/\k[off+i]? = some (.slice ai ni ci)/\ao ai ni h=some r/\cw ai ni ci=true /\ ∀ y,ai=some y->0<ni -> ¬F y.block
def mc.keep {h h':ae} {F B:Nat->Prop} {v:Vl} {vals:List (List Nat)} (R:mc h F v vals) (k:au h h' B) (hB : ∀ c,B c->F c\/h.next<=c):mc h' F v vals:=by
 obtain ⟨a,c,rfl,hR⟩:=R;refine ⟨a,c,rfl,fun i r hi => ?_⟩;obtain ⟨b,off,s,kk,ai,ni,ci,h1,h2,h3,h4,h5,h6,h7⟩:=hR i r hi;refine ⟨b,off,s,kk,ai,ni,ci,h1,k.getE h2 (fun hb=>(hB b hb).elim h3 (fun h8=>by have:=h.aL h2;omega)),h3,h4,k.bytes h5 (fun y hy hn hb => ?_),h6,h7⟩;rcases hB _ hb with h8|h8
 ·exact h7 y hy hn h8
 ·subst hy;obtain ⟨b',o',s',e,hlt⟩:=jF h5 hn;cases e;have:h.next<=b':=h8;omega
def mc.at {h:ae} {F:Nat->Prop} {v:Vl} {vals:List (List Nat)} (R:mc h F v vals) {i:Nat} {r:List Nat} (hi:vals[i]? = some r) :
  ∃ p a n c,idxS 1 v (aj i)=some p/\ld1 p h=some (.slice a n c,h)/\ao a n h=some r/\cw a n c=true/\(∀ y,a=some y->0<n -> ¬F y.block)/\cg v=some (aj vals.length):=by
 obtain ⟨a,c,rfl,hR⟩:=R;obtain ⟨b,off,s,kk,ai,ni,ci,rfl,h2,h3,h4,h5,h6,h7⟩:=hR i r hi;have hl:=(DZ.1 hi).1;refine ⟨ptr b (off+i*1),ai,ni,ci,?_,?_,h5,h6,h7,rfl⟩
 ·unfold idxS;simp only [aj];rw [DH (by omega),Int.toNat_natCast]
 ·rw [FG];exact aH h2 h4
def mc.len {h:ae} {F:Nat->Prop} {v:Vl} {vals:List (List Nat)} (R:mc h F v vals):cg v=some (aj vals.length):=by obtain ⟨a,c,rfl,hR⟩:=R;rfl
def aU (vals:List (List Nat)):Nat:=(vals.map fun r=>br r.length).sum
def ue {vals:List (List Nat)} {i:Nat} {r:List Nat} (hi:vals[i]? = some r):aU (vals.take (i+1))=aU (vals.take i)+br r.length:=by unfold aU;rw [H5,hi];simp
def recsTot_le (vals:List (List Nat)) (i:Nat):aU (vals.take i)<=aU vals:=by have h:=FP aU (HN i vals);unfold aU at *;rw [GA,List.sum_append] at h;omega
section
variable {h0:ae} {d j:Nat} {D:Dk} {J:Jn} {F:Nat->Prop} {v:Vl} {vals:List (List Nat)} (x:bC h0 d D) (xj:cA h0 j d J) (h2:2<=D.n) (R:mc h0 F v vals) (hlen:vals.length<=100000)
def needInv (h0:ae) (j:Nat) (D:Dk) (v:Vl) (vals:List (List Nat)) (k:Nat) (y:Nat->Vl) (g:ae):Prop:=
 g=h0 /\ ∃ i,i+k=vals.length/\y 0=ptr j 0/\y 1=v/\y 26=v/\y 27=aj vals.length/\y 28=aj i/\y 7=aj (min (aU (vals.take i)) 4096)/\y 8 = .bool (decide (D.ar<aU (vals.take i))) /\ ∀ r∈vals.take i,r.length<=20000
def needFin (h0:ae) (j:Nat) (D:Dk) (v:Vl) (vals:List (List Nat)) (ex:Ex) (y:Nat->Vl) (g:ae):Prop:=
 g=h0/\((ex = .ret/\y 4 = .slice none 0 0/\y 5 = .int .i64 3 /\ ∃ r∈vals,20000<r.length)\/(ex = .exit 0/\y 0=ptr j 0/\y 1=v/\y 8 = .bool (decide (D.ar<aU vals)) /\ ∀ r∈vals,r.length<=20000))
include x xj h2 R hlen
def need_round : ∀ k y g,needInv h0 j D v vals k y g->dE 151 (needInv h0 j D v vals) (needFin h0 j D v vals) k (iB CD y g):=by
 rintro k y g ⟨rfl,i,hik,i0,i1,i26,i27,i28,i7,i8,hall⟩;have hsm:=x.small;have har:D.ar=(D.n-2)/2:=rfl;unfold iB;simp -implicitDefEqProofs only [i28,i27,gS,ak,af];by_cases hz:k=0
 ·subst hz;have hi:i=vals.length:=by omega
  subst hi;rw [HK] at i8 hall;simp -implicitDefEqProofs only [GZ,FA];exact dE.out 0 ⟨rfl,.inr ⟨rfl,i0,i1,i8,hall⟩⟩
 ·obtain ⟨q,rfl⟩ : ∃ q,k=q+1:=⟨k-1,by omega⟩
  have hlt:i<vals.length:=by omega
  have hi:vals[i]? = some vals[i]:=DE hlt;generalize vals[i]=r at hi;obtain ⟨p,a,n,c,e1,e2,e3,e4,e5,e6⟩:=R.at hi;have hrl:=(ay e3).1;have hg : ∀ z:Nat,aA prog .gtr 3 (aj z) (.int .i64 20000)=some (.bool (decide (20000<z))):=fun z=>gtr3k z 20000;simp -implicitDefEqProofs only [DN hlt,i26,e1,e2,ak,af,cM];rw [show (Value.int .i64 (n:Int))=aj n from rfl];simp -implicitDefEqProofs only [hg,ak,af];by_cases hlong:20000<n
  ·simp -implicitDefEqProofs only [DN hlong];exact dE.ret ⟨rfl,.inl ⟨rfl,rfl,rfl,r,D7 hi,by omega⟩⟩
  ·have hcl:=mZ (n:=n) (by omega);have htk:=ue hi;rw [hrl] at htk;have hmn:minmax false (aj (min (aU (vals.take i)) 4096+br n)) [.int .i64 4096]=some (aj (min (aU (vals.take (i+1))) 4096)):=by
    simp only [minmax,aj,DV,DB,DS];by_cases hc:(4096:Int)<((min (aU (vals.take i)) 4096+br n:Nat):Int)
    ·rw [DH (by simpa using hc),Nat.min_eq_right (by omega)];rfl
    ·rw [DL (by simpa using hc)];exact FP (fun z:Nat=>some (Value.int .i64 (z:Int))) (by omega)
   simp -implicitDefEqProofs only [DW hlong,i7,r73 n g (by omega),af,sn (show min (aU (vals.take i)) 4096+br n<=9223372036854775807 by omega),ak,hmn,i8,aR];have hall2 : ∀ r'∈vals.take (i+1),r'.length<=20000:=by
    intro r' hr';rw [H5,hi] at hr';rcases D8.1 hr' with h|h
    ·exact hall r' h
    ·have:r'=r:=by simpa using h
     rw [this];omega
   by_cases hf:D.ar<aU (vals.take i)
   ·simp -implicitDefEqProofs only [DN hf,sf,aX,af,DV,eW (show i+1<=9223372036854775807 by omega),ak];refine dE.next q (by omega) ⟨rfl,i+1,by omega,i0,i1,i26,i27,rfl,rfl,?_,hall2⟩;have:D.ar<aU (vals.take (i+1)):=by omega
    rw [DN this];rfl
   ·have hgf:decide (D.ar<min (aU (vals.take (i+1))) 4096)=decide (D.ar<aU (vals.take (i+1))):=GH.2 (by omega);simp -implicitDefEqProofs only [DW hf,DP,aD,af,i0,av,ak,aw,DC,xj.l0,vO x h2,gtr3,hgf,DB,DS,eW (show i+1<=9223372036854775807 by omega)];exact dE.next q (by omega) ⟨rfl,i+1,by omega,i0,i1,i26,i27,rfl,rfl,rfl,hall2⟩
end
def Dk.cY (area gen:Nat):List (List Nat)->Nat->Dk->List Nat->Int×Dk×Nat×List Nat
 | [],at_,D,ps=>(0,D,at_,ps)
 |r::rs,at_,D,ps=>if (D.wrRec area gen at_ r).1=0 then Dk.cY area gen rs (at_+br r.length) (D.wrRec area gen at_ r).2 (ps ++ [at_]) else ((D.wrRec area gen at_ r).1,(D.wrRec area gen at_ r).2,at_,ps)
def rwF (j d:Nat) (D:Dk) (c:Nat):Prop:=c=j\/c=d\/c=D.bb
section
variable {h0:ae} {d j:Nat} {D:Dk} {J:Jn} {v:Vl} {vals:List (List Nat)} {area gen:Nat} {slot:Int} (x:bC h0 d D) (xj:cA h0 j d J) (h2:2<=D.n) (R:mc h0 (rwF j d D) v vals) (hlen:vals.length<=100000)
 (ha:area<=1) (hg:gen<18446744073709551616) (htot:aU vals<=D.ar) (hall : ∀ r∈vals,r.length<=20000)
def rwInv (h0:ae) (N d j:Nat) (D:Dk) (v:Vl) (vals:List (List Nat)) (area gen:Nat) (slot:Int) (k:Nat) (y:Nat->Vl) (g:ae):Prop:=
 ∃ i E ps,i+k=vals.length/\y 0=ptr j 0/\y 81=v/\y 82=aj vals.length/\y 83=aj i/\y 11=aj area/\y 12 = .int .i64 slot/\y 13 = .int .u64 gen/\y 14=aj (aU (vals.take i))/\ps.length=i/\cG g N 1 (y 15) i (ps.map aj)/\bC g d E/\E.bb=D.bb/\E.n=D.n /\
   eV d D.bb h0 g/\Dk.cY area gen (vals.drop i) (aU (vals.take i)) E ps=Dk.cY area gen vals 0 D []
def rwFin (h0:ae) (N d j:Nat) (D:Dk) (vals:List (List Nat)) (area gen:Nat) (slot:Int) (ex:Ex) (y:Nat->Vl) (g:ae):Prop:=
 bC g d (Dk.cY area gen vals 0 D []).2.1/\(Dk.cY area gen vals 0 D []).2.1.bb=D.bb/\(Dk.cY area gen vals 0 D []).2.1.n=D.n/\eV d D.bb h0 g /\
  ((ex = .ret/\y 4 = .slice none 0 0/\y 5 = .int .i64 (Dk.cY area gen vals 0 D []).1/\(Dk.cY area gen vals 0 D []).1≠0) \/
   (ex = .exit 2/\y 0=ptr j 0/\y 11=aj area/\y 12 = .int .i64 slot/\y 13 = .int .u64 gen/\(Dk.cY area gen vals 0 D []).1=0/\(Dk.cY area gen vals 0 D []).2.2.1=aU vals/\y 14=aj (aU vals)/\(Dk.cY area gen vals 0 D []).2.2.2.length=vals.length /\
    cG g N 1 (y 15) vals.length ((Dk.cY area gen vals 0 D []).2.2.2.map aj)))
include x xj h2 R hlen ha hg htot hall
def rw_round : ∀ k y g,rwInv h0 h0.next d j D v vals area gen slot k y g->dE 151 (rwInv h0 h0.next d j D v vals area gen slot) (rwFin h0 h0.next d j D vals area gen slot) k (eu CD y g):=by
 rintro k y g ⟨i,E,ps,hik,i0,i81,i82,i83,i11,i12,i13,i14,hps,own,xg,hEb,hEn,hk,hrw⟩;have hsm:=x.small;have hdl:=x.lt;have hbl:=x.blt;have har:D.ar=(D.n-2)/2:=rfl;have jg:cA g j d J:=xj.keep hk (fun h=>h.elim (xj.tt x) (xj.me x));have Rg:mc g (rwF j d D) v vals:=R.keep hk (fun c hc => .inl (.inr hc));unfold eu;simp -implicitDefEqProofs only [i83,i82,gS,ak,af];by_cases hz:k=0
 ·subst hz;have hi:i=vals.length:=by omega
  subst hi;rw [List.drop_length,HK] at hrw;rw [HK] at i14;have hrw:(0,E,aU vals,ps)=Dk.cY area gen vals 0 D []:=hrw;simp -implicitDefEqProofs only [GZ,FA];refine dE.out 2 ?_;unfold rwFin;rw [<-hrw];exact ⟨xg,hEb,hEn,hk,.inr ⟨rfl,i0,i11,i12,i13,rfl,rfl,i14,hps,own⟩⟩
 ·obtain ⟨q,rfl⟩ : ∃ q,k=q+1:=⟨k-1,by omega⟩
  have hlt:i<vals.length:=by omega
  have hi:vals[i]? = some vals[i]:=DE hlt;have hdrop:vals.drop i=vals[i]::vals.drop (i+1):=(List.getElem_cons_drop hlt).symm;have hr20:=hall vals[i] (GP hlt);rw [hdrop] at hrw;generalize hrr:vals[i]=r at hi hrw hr20;obtain ⟨p,a,n,c,e1,e2,e3,e4,e5,e6⟩:=Rg.at hi;have hrl:=(ay e3).1;have htk:=ue hi;have htl:=recsTot_le vals (i+1);have hcl:=mZ (n:=r.length) (by omega);obtain ⟨g1,f1,x1,b1,n1,k1⟩:=r176 xg jg (by omega) ha hg (at_:=aU (vals.take i)) (by omega) e3 e4 (by omega) (fun y hy hn hb=>e5 y hy hn (.inr (.inr (hb.trans hEb))));have hrw2:(if (E.wrRec area gen (aU (vals.take i)) r).1=0 then Dk.cY area gen (vals.drop (i+1)) (aU (vals.take i)+br r.length) (E.wrRec area gen (aU (vals.take i)) r).2 (ps ++ [aU (vals.take i)]) else ((E.wrRec area gen (aU (vals.take i)) r).1,(E.wrRec area gen (aU (vals.take i)) r).2,aU (vals.take i),ps))=Dk.cY area gen vals 0 D []:=hrw;rw [hEb] at b1 k1;have kk1:eV d D.bb h0 g1:=hk.trans k1;generalize hA:aU (vals.take i)=A at *;simp -implicitDefEqProofs only [DN hlt,i81,e1,e2,ak,af,i0,i11,i13,i14,f1,c7];by_cases hz2:(E.wrRec area gen A r).1=0
  ·rw [DH hz2] at hrw2;have hne:((E.wrRec area gen A r).1 != 0)=false:=by rw [hz2];rfl
   have own1:cG g1 h0.next 1 (y 15) i (ps.map aj):=own.keep k1 (fun b hb hc=>by have:=own.cK hb;rcases hc with hc|hc<;>omega)
   have oA:aK g1 (g1.alloc [aj A]):=au.alloc _ _ _;have gA:(g1.alloc [aj A]).get g1.next=some [aj A]:=by rw [ae.aZ,DH rfl]
   have hbs:gK 1 (.int .i64 0) 1 [(0,aj A)] g1=some (.slice (some ⟨g1.next,0,none⟩) 1 1,g1.alloc [aj A]):=rfl;have own2:=own1.keep oA (fun _ _ h=>h);have x2:=aK.dk oA x1;have kk2:eV d D.bb h0 (g1.alloc [aj A]):=kk1.also oA (fun _ _ h=>h.elim);generalize hgA:g1.alloc [aj A]=g2 at *;have hfA:firstA 1 1 (.slice (some ⟨g1.next,0,none⟩) 1 1) g2=some [aj A]:=by simp only [firstA,gA];rfl
   obtain ⟨v',g3,q1,q2,q3,q4⟩:=iK (by_:=8) (x := .slice (some ⟨g1.next,0,none⟩) 1 1) (m:=1) own2 (by rw [kk2.n0];exact h0.n0_le_next) kk2.next (by decide) rfl hfA rfl rfl rfl (by omega) (by omega);have x3:bC g3 d (E.wrRec area gen A r).2:=q3.dk x2 (fun h=>by have:=own2.cK h.1;omega) (fun h=>by have:=own2.cK h.1;rw [b1] at this;omega);have kk3:eV d D.bb h0 g3:=⟨q3.n0.trans kk2.n0,D9 kk2.next q3.next,fun e he hc=>
    (q3.getB e (EX he kk2.next) (fun h=>by have:=own2.cK h.1;omega)).trans (kk2.getB e he hc)⟩
   rw [hrl] at htk hcl hrw2;have hpl:(ps ++ [A]).length=i+1:=by simp [hps]
   have hmap:(ps ++ [A]).map aj=ps.map aj ++ [aj A]:=by simp
   simp -implicitDefEqProofs only [hne,af,hbs,q1,cM,ak];rw [show (Value.int .i64 (n:Int))=aj n from rfl];simp -implicitDefEqProofs only [r73 n g3 (by omega),af,sn (show A+br n<=9223372036854775807 by omega),eW (show i+1<=9223372036854775807 by omega),ak];refine dE.next q (by omega) ⟨i+1,_,ps ++ [A],by omega,i0,i81,i82,rfl,i11,i12,i13,?_,hpl,by rw [hmap];exact q2,x3,b1,n1.trans hEn,kk3,?_⟩
   ·show aj (A+br n)=_;rw [htk]
   ·rw [htk];exact hrw2
  ·rw [DL hz2] at hrw2;have hne:((E.wrRec area gen A r).1 != 0)=true:=by rw [H4];exact hz2
   simp -implicitDefEqProofs only [hne,af];refine dE.ret ?_;unfold rwFin;rw [<-hrw2];exact ⟨x1,b1,n1.trans hEn,kk1,.inl ⟨rfl,rfl,rfl,hz2⟩⟩
end
def eo (gen area:Nat):List Nat:=ej 4 1398034252++ej 8 gen++ej 1 area
def cJ (gen area:Nat):List Nat:=jY (eo gen area)
def Jn.newArea (J:Jn):Nat:=if 0<=J.slot then 1-J.area else 0
def Jn.newSlot (J:Jn):Int:=if 0<=J.slot then 1-J.slot else 0
def Jn.rewrite (J:Jn) (D:Dk) (vals:List (List Nat)):Int×Dk×Jn×List Nat:=
 if J.live D=false then (9,D,J,[]) else
 if (vals.any fun r=>decide (20000<r.length))=true then (3,D,J,[]) else
 if D.ar<aU vals\/J.known=18446744073709551615 then (8,D,J,[]) else
 if (Dk.cY J.newArea (J.known+1) vals 0 D []).1=0 then
  if ((Dk.cY J.newArea (J.known+1) vals 0 D []).2.1.write J.newSlot (cJ (J.known+1) J.newArea)).1=0 then
   (0,((Dk.cY J.newArea (J.known+1) vals 0 D []).2.1.write J.newSlot (cJ (J.known+1) J.newArea)).2,
     { turn:=J.turn,slot:=J.newSlot,area:=J.newArea,gen:=J.known+1,known:=J.known+1,ready:=true,fin:=aU vals },(Dk.cY J.newArea (J.known+1) vals 0 D []).2.2.2)
  else (((Dk.cY J.newArea (J.known+1) vals 0 D []).2.1.write J.newSlot (cJ (J.known+1) J.newArea)).1,((Dk.cY J.newArea (J.known+1) vals 0 D []).2.1.write J.newSlot (cJ (J.known+1) J.newArea)).2,J,[])
 else ((Dk.cY J.newArea (J.known+1) vals 0 D []).1,(Dk.cY J.newArea (J.known+1) vals 0 D []).2.1,J,[])
def Jn.newArea_le (J:Jn):J.newArea<=1:=by unfold Jn.newArea;split<;>omega
def jD (h:ae) (d j:Nat) (D:Dk) (J:Jn) (vals:List (List Nat)) (o:aY):Prop:=
 ∃ v h',o=some (.tuple #[v,.int .i64 (J.rewrite D vals).1],h')/\bC h' d (J.rewrite D vals).2.1/\(J.rewrite D vals).2.1.bb=D.bb/\(J.rewrite D vals).2.1.n=D.n/\cA h' j d (J.rewrite D vals).2.2.1/\yb j d D.bb h h' /\
   cG h' h.next 1 v (J.rewrite D vals).2.2.2.length ((J.rewrite D vals).2.2.2.map aj)
def is114:bE prog 114 f114 := .of (by kernel_rfl)
def results114:f114.results.toList = [.tmp 4,.tmp 5]:=by kernel_rfl
def res114 (y:Nat->Vl) (g:ae):resultsA prog f114.results.toList (aS 151 y) g=some (.tuple #[y 4,y 5],g):=by have h4:(aS 151 y).getD 4 undef=y 4:=rfl;have h5:(aS 151 y).getD 5 undef=y 5:=rfl;rw [results114];simp only [resultsA,FJ,List.mapM_nil,dy,h4,h5];rfl
def cG.keepL {h h':ae} {N size:Nat} {v:Vl} {len:Nat} {cells:List Vl} (o:cG h N size v len cells) {B:Nat->Prop} (k:au h h' B) (hB : ∀ b,cF v=some b->b<h.next -> ¬B b):cG h' N size v len cells:=by
 obtain ⟨h1,h2,h3,h4⟩:=o;refine ⟨h1,h2,h3,?_⟩;rcases h4 with h4|⟨b,s,rfl,h5,h6|⟨h6,h7⟩⟩
 ·exact .inl h4
 ·exact .inr ⟨b,s,rfl,h5,.inl h6⟩
 ·exact .inr ⟨b,s,rfl,h5,.inr ⟨h6,k.getE h7 (hB b rfl (h.aL h7))⟩⟩
section
variable {h:ae} {d j:Nat} {D:Dk} {J:Jn} {v:Vl} {vals:List (List Nat)} (x:bC h d D) (xj:cA h j d J) (h2:2<=D.n) (ok:oS J D) (R:mc h (rwF j d D) v vals) (hlen:vals.length<=100000)
include x xj h2 ok R hlen
omit h2 ok R hlen in
def rw_end (hl:J.live D=true) (h20 : ∀ r∈vals,r.length<=20000) (htot:aU vals<=D.ar) (hkn:J.known<18446744073709551615) {y:Nat->Vl} {g:ae} (i0:y 0=ptr j 0) (i11:y 11=aj J.newArea) (i12:y 12 = .int .i64 J.newSlot) (i13:y 13 = .int .u64 ((J.known+1:Nat):Int)) (i14:y 14=aj (aU vals))
  (hz:(Dk.cY J.newArea (J.known+1) vals 0 D []).1=0) (xg:bC g d (Dk.cY J.newArea (J.known+1) vals 0 D []).2.1) (hbb:(Dk.cY J.newArea (J.known+1) vals 0 D []).2.1.bb=D.bb) (hn:(Dk.cY J.newArea (J.known+1) vals 0 D []).2.1.n=D.n)
  (hk:eV d D.bb h g) (own:cG g h.next 1 (y 15) vals.length ((Dk.cY J.newArea (J.known+1) vals 0 D []).2.2.2.map aj)) (hpl:(Dk.cY J.newArea (J.known+1) vals 0 D []).2.2.2.length=vals.length):jD h d j D J vals (mh CD y g):=by
 have hany:(vals.any fun r=>decide (20000<r.length))=false:=by rw [List.any_eq_false];intro r hr;have:=h20 r hr;simp;omega
 have hful : ¬(D.ar<aU vals\/J.known=18446744073709551615):=by omega
 have hrw:J.rewrite D vals=if ((Dk.cY J.newArea (J.known+1) vals 0 D []).2.1.write J.newSlot (cJ (J.known+1) J.newArea)).1=0 then
   (0,((Dk.cY J.newArea (J.known+1) vals 0 D []).2.1.write J.newSlot (cJ (J.known+1) J.newArea)).2,
     { turn:=J.turn,slot:=J.newSlot,area:=J.newArea,gen:=J.known+1,known:=J.known+1,ready:=true,fin:=aU vals },(Dk.cY J.newArea (J.known+1) vals 0 D []).2.2.2)
  else (((Dk.cY J.newArea (J.known+1) vals 0 D []).2.1.write J.newSlot (cJ (J.known+1) J.newArea)).1,((Dk.cY J.newArea (J.known+1) vals 0 D []).2.1.write J.newSlot (cJ (J.known+1) J.newArea)).2,J,[]):=by
  unfold Jn.rewrite;rw [hl,hany,DL (by decide),DL (by decide),DL hful,DH hz]
 have hsm:=x.small;have hdl:=x.lt;have hbl:=x.blt;have hjl:=xj.lt;have hNg:=hk.next;have jg:cA g j d J:=xj.keep hk (fun h=>h.elim (xj.tt x) (xj.me x));have harea:=J.newArea_le;generalize hE:(Dk.cY J.newArea (J.known+1) vals 0 D []).2.1=E at *;generalize hps:(Dk.cY J.newArea (J.known+1) vals 0 D []).2.2.2=ps at *;obtain ⟨g1,e1,W1,k1⟩:=r116 g (lim:=124) (by decide);have e1:CD 116 [.int .i64 124] g=_:=e1;obtain ⟨g2,e2,W2,k2⟩:=r177 W1 (v:=1398034252) (by simp) (by decide);have e2:CD 177 [ptr g.next 0,.int .u32 1398034252] g1=_:=e2;obtain ⟨g3,e3,W3,k3⟩:=r133 W2 (v:=J.known+1) (by simp [aQ]) (by omega);obtain ⟨g4,e4,W4,k4⟩:=r117 W3 (v:=J.newArea) (by simp [aQ]) (by omega);have hbody : []++ej 4 1398034252++ej 8 (J.known+1)++ej 1 J.newArea=eo (J.known+1) J.newArea:=by unfold eo;rw [List.nil_append]
 rw [hbody] at W4;have k14:uG g.next g g4:=((k1.trans k2).trans k3).trans k4;have j4:cA g4 j d J:=jg.keep k14 (by omega);have x4:bC g4 d E:=k14.dk xg (by omega) (by omega);obtain ⟨B,g5,e5,s5,k5,hB⟩:=r179 W4 (by simp [eo,aQ]);have j5:cA g5 j d J:=j4.keep k5 (fun h=>h);have x5:=aK.dk k5 x4;obtain ⟨g6,e6,x6,b6,n6,k6⟩:=r178 x5 J.newSlot (c:=128) s5 rfl;have hsb:jY (eo (J.known+1) J.newArea)=cJ (J.known+1) J.newArea:=rfl;rw [hsb] at e6 x6 b6 n6;rw [hbb] at b6 k6;have hbase : ∀ b,cF (y 15)=some b->h.next<=b:=fun b hb=>own.cK hb;have own4:cG g4 h.next 1 (y 15) vals.length (ps.map aj):=own.keepL k14 (fun b hb hlt hc=>by omega);have own6:=(own4.keep k5 (fun _ _ h=>h)).keep k6 (fun b hb hc=>by have:=hbase b hb;rcases hc with hc|hc<;>omega)
 have kk6:eV d D.bb h g6:=((hk.also k14 (fun c hc h=>by omega)).also k5 (fun _ _ h=>h.elim)).trans k6;have j6:cA g6 j d J:=j5.keep k6 (fun h=>h.elim (xj.tt x) (xj.me x));generalize hWW:E.write J.newSlot (cJ (J.known+1) J.newArea)=WW at *;have cv8:iQ .u8 (aj J.newArea) g3=some (.int .u8 (J.newArea:Int),g3):=by unfold aj;rw [bY,tv (by omega) (by omega)]
 have ck:=dq (rfl:some (ptr d 0,g5)=some (ptr d 0,g5)) (show veq (ptr d 0) (ptr d 0)=true by simp [ptr,veq]);unfold mh;simp -implicitDefEqProofs only [af,e1,e2,i13,e3,i11,cv8,e4,i0,av,ak,aw,DC,j4.l0,i12,e5,e6,j5.l0,ck,EJ,c7];unfold jD;by_cases hz2:WW.1=0
 ·rw [DH hz2] at hrw;rw [hrw];have hne:(WW.1 != 0)=false:=by rw [hz2];rfl
  obtain ⟨q1,a1,b1,c1,d1⟩:=j6.st 2 (.int .i64 J.newSlot) { J with slot:=J.newSlot } (by decide) rfl rfl rfl xj.area;obtain ⟨q2,a2,b2,c2,d2⟩:=b1.st 3 (aj J.newArea) { J with slot:=J.newSlot,area:=J.newArea } (by decide) rfl rfl rfl harea;obtain ⟨q3,a3,b3,c3,d3⟩:=b2.st 4 (.int .u64 ((J.known+1:Nat):Int)) { J with slot:=J.newSlot,area:=J.newArea,gen:=J.known+1 } (by decide) rfl rfl rfl harea;obtain ⟨q4,a4,b4,c4,d4⟩:=b3.st 5 (.int .u64 ((J.known+1:Nat):Int)) { J with slot:=J.newSlot,area:=J.newArea,gen:=J.known+1,known:=J.known+1 } (by decide) rfl rfl rfl harea;obtain ⟨q5,a5,b5,c5,d5⟩:=b4.st 6 (.bool true) { J with slot:=J.newSlot,area:=J.newArea,gen:=J.known+1,known:=J.known+1,ready:=true } (by decide) rfl rfl rfl harea;obtain ⟨q6,a6,b6',c6,d6⟩:=b5.st 7 (aj (aU vals)) { J with slot:=J.newSlot,area:=J.newArea,gen:=J.known+1,known:=J.known+1,ready:=true,fin:=aU vals } (by decide) rfl rfl rfl harea;have kj:au g6 q6 (fun c=>c=j):=((((c1.trans c2).trans c3).trans c4).trans c5).trans c6;simp -implicitDefEqProofs only [hne,af,i0,i12,i11,i13,i14,av,ak,aw,DC,a1,a2,a3,a4,a5,a6];refine ⟨_,_,rfl,kj.dk x6 (fun h=>(j6.tt x6) h.symm) (fun h=>(j6.me x6) h.symm),b6,n6.trans hn,b6',(eV.jd kk6).trans (kj.mono (fun c _ hc => .inl hc)),?_⟩;show cG q6 h.next 1 (y 15) ps.length (ps.map aj);rw [hpl];exact own6.keep kj (fun b hb hc=>by have:=hbase b hb;omega)
 ·rw [DL hz2] at hrw;rw [hrw];have hne:(WW.1 != 0)=true:=by rw [H4];exact hz2
  simp -implicitDefEqProofs only [hne,af];exact ⟨_,_,rfl,x6,b6,n6.trans hn,j6,eV.jd kk6,cG.nil _ _ _⟩
def r114:jD h d j D J vals (CD 114 [ptr j 0,v] h):=by
 have key:jD h d j D J vals (t114 CD (ptr j 0) v h):=by
  have hdl:=x.lt;have hbl:=x.blt;have hjl:=xj.lt;unfold t114;simp -implicitDefEqProofs only [af,r132 x xj,ak,c7];cases hl:J.live D with
  |false=>
   have hrw:J.rewrite D vals=(9,D,J,[]):=by unfold Jn.rewrite;rw [DH hl]
   unfold jD;rw [hrw];simp -implicitDefEqProofs only [DB,DS,show ((9:Int) != 0)=true from rfl,af];exact ⟨_,h,rfl,x,trivial,trivial,xj,au.refl _ _,cG.nil _ _ _⟩
  |true=>
   simp -implicitDefEqProofs only [DV,ED,af,R.len,ak];refine cH (Q:=fun (o:aY)=>jD h d j D J vals o)
    (bL (sP CD) (need_round x xj h2 R hlen) vals.length (by have:az=18446744073709551616:=rfl;omega)
     ⟨rfl,0,DC _,rfl,rfl,rfl,rfl,rfl,rfl,by show Value.bool false=_;rw [List.take_zero,DW (by show ¬D.ar<0;omega)],by simp⟩) ?_
   rintro ex y g ⟨rfl,⟨rfl,y4,y5,r,hr,hlong⟩|⟨rfl,i0,i1,i8,h20⟩⟩
   ·have hany:(vals.any fun r=>decide (20000<r.length))=true:=by rw [List.any_eq_true];exact ⟨r,hr,by simpa using hlong⟩
    have hrw:J.rewrite D vals=(3,D,J,[]):=by unfold Jn.rewrite;rw [hl,DL (by decide),DH hany]
    unfold jD;rw [hrw];refine ⟨_,g,?_,x,rfl,rfl,xj,au.refl _ _,cG.nil _ _ _⟩;show resultsA prog f114.results.toList (aS 151 y) g=_;rw [res114,y4,y5]
   ·have hany:(vals.any fun r=>decide (20000<r.length))=false:=by rw [List.any_eq_false];intro r hr;have:=h20 r hr;simp;omega
    simp -implicitDefEqProofs only [bh,b114_8,DV,zN];unfold sV;simp -implicitDefEqProofs only [i8,af,aR];have full:D.ar<aU vals\/J.known=18446744073709551615->jD g d j D J vals (some (.tuple #[.slice none 0 0,.int .i64 8],g)):=by
     intro hf;have hrw:J.rewrite D vals=(8,D,J,[]):=by unfold Jn.rewrite;rw [hl,hany,DL (by decide),DL (by decide),DH hf]
     unfold jD;rw [hrw];exact ⟨_,g,rfl,x,rfl,rfl,xj,au.refl _ _,cG.nil _ _ _⟩
    by_cases hf:D.ar<aU vals
    ·simp -implicitDefEqProofs only [DN hf,sf,aX,af,DV];exact full (.inl hf)
    ·have hkeq:aA prog .eql 52 (.int .u64 (J.known:Int)) (.int .u64 18446744073709551615)=some (.bool (J.known==18446744073709551615)):=by rw [eQ];exact FP (fun q=>some (Value.bool q)) (oj J.known 18446744073709551615)
     simp -implicitDefEqProofs only [DW hf,DP,aD,af,i0,av,ak,aw,DC,xj.l5,hkeq,DB,DS];by_cases hkm:J.known=18446744073709551615
     ·have:(J.known==18446744073709551615)=true:=by rw [hkm];rfl
      simp -implicitDefEqProofs only [this];exact full (.inr hkm)
     ·have hkf:(J.known==18446744073709551615)=false:=GS.2 hkm;have hkb:=ok.known;have hkn:J.known<18446744073709551615:=by omega
      have hinc:aA prog .add 52 (.int .u64 (J.known:Int)) (.int .u64 1)=some (.int .u64 ((J.known+1:Nat):Int)):=by rw [eR,jk (by omega) (by omega),Int.natCast_add];rfl
      have oA:aK g (g.alloc []):=au.alloc _ _ _;have xA:=aK.dk oA x;have jA:=xj.keep oA (fun h=>h);have RA:mc (g.alloc []) (rwF j d D) v vals:=R.keep oA (fun _ h=>h.elim);have nA:(g.alloc []).next=g.next+1:=ae.jB ..;have hbsl:gK 1 (.int .i64 0) 0 [] g=some (.slice (some ⟨g.next,0,none⟩) 0 0,g.alloc []):=rfl;have run : ∀ z:Nat->Vl,z 0=ptr j 0->z 81=v->z 82=aj vals.length->z 83=aj 0->z 11=aj J.newArea->z 12 = .int .i64 J.newSlot->z 13 = .int .u64 ((J.known+1:Nat):Int)->z 14=aj 0->z 15 = .slice (some ⟨g.next,0,none⟩) 0 0 ->
        jD g d j D J vals (dH (iter (codeA prog CD (aq f114 [1,1,1,1,1,1,1,1,0,1,0,0])) az (aS 151 z) (g.alloc [])) (resultsA prog f114.results.toList) (wZ CD)):=by
       intro z z0 z81 z82 z83 z11 z12 z13 z14 z15;refine cH (Q:=fun (o:aY)=>jD g d j D J vals o)
        (bL (mU CD) (rw_round x xj h2 R hlen J.newArea_le (by omega) (by omega) h20) vals.length (by have:az=18446744073709551616:=rfl;omega)
         ⟨0,D,[],DC _,z0,z81,z82,z83,z11,z12,z13,by rw [z14];rfl,rfl,by rw [z15];exact cG.empty _ (DG _),xA,rfl,rfl,au.alloc _ _ _,by rw [FO];rfl⟩) ?_
       rintro ex w q ⟨p1,p2,p3,p4,⟨rfl,p5,p6,p7⟩|⟨rfl,p5,p6,p7,p8,p9,p10,p11,p12,p13⟩⟩
       ·have hrw:J.rewrite D vals=((Dk.cY J.newArea (J.known+1) vals 0 D []).1,(Dk.cY J.newArea (J.known+1) vals 0 D []).2.1,J,[]):=by unfold Jn.rewrite;rw [hl,hany,DL (by decide),DL (by decide),DL (by omega),DL p7]
        unfold jD;rw [hrw];refine ⟨_,q,?_,p1,p2,p3,xj.keep p4 (fun h=>h.elim (xj.tt x) (xj.me x)),eV.jd p4,cG.nil _ _ _⟩;show resultsA prog f114.results.toList (aS 151 w) q=_;rw [res114,p5,p6]
       ·simp -implicitDefEqProofs only [bh,wZ,DV,yZ];exact rw_end x xj hl h20 (by omega) hkn p5 p6 p7 p8 p11 p9 p1 p2 p3 p4 p13 p12
      simp -implicitDefEqProofs only [hkf,af,i0,av,ak,aw,DC,xj.l5,hinc,xj.l2,eO];by_cases hsl:0<=J.slot
      ·have hna:J.newArea=1-J.area:=by unfold Jn.newArea;rw [DH hsl]
       have hns:J.newSlot=1-J.slot:=by unfold Jn.newSlot;rw [DH hsl]
       have s1:aA prog .sub 3 (.int .i64 1) (aj J.area)=some (aj J.newArea):=by rw [hna];exact sub3 (a:=1) xj.area (by omega)
       have s2:aA prog .sub 3 (.int .i64 1) (.int .i64 J.slot)=some (.int .i64 J.newSlot):=by have:=ok.slot;rw [gR,bf (by omega) (by omega),hns]
       have hd:decide (J.slot>=0)=true:=DN hsl;simp -implicitDefEqProofs only [hd,af,i0,av,ak,aw,DC,xj.l3,xj.l2,s1,s2,hbsl,i1,R.len];exact run _ i0 rfl rfl rfl rfl rfl rfl rfl rfl
      ·have hna:J.newArea=0:=by unfold Jn.newArea;rw [DL hsl]
       have hns:J.newSlot=0:=by unfold Jn.newSlot;rw [DL hsl]
       have hd:decide (J.slot>=0)=false:=DW hsl;simp -implicitDefEqProofs only [hd,af,hbsl,i1,R.len,ak];exact run _ i0 rfl rfl rfl (by rw [hna];rfl) (by rw [hns];rfl) rfl rfl rfl
 unfold jD at key |-;obtain ⟨pv,h',e,f⟩:=key;exact ⟨pv,h',aI is114 rfl ((t114_eq _ _ _ _).trans e),f⟩
end
end
end Go.Proofs.YtdhpgacmgebjdaaGreatDoor.W
namespace Go.Proofs.YtdhpgacmgebjdaaGreatDoor.W
open Go Go.Abs
noncomputable section
def uW {l xs:List Nat} {o:Nat} (h:o+xs.length<=l.length) (i:Nat):(dx l o xs)[i]? = if o<=i/\i<o+xs.length then xs[i-o]? else l[i]? := by
 have h1:(l.take o).length=o:=by simp;omega
 unfold dx;by_cases c1:i<o
 ·rw [DY,EI (by omega),E7,DH c1,DL (by omega)]
 ·by_cases c2:i<o+xs.length
  ·rw [EI (by simp;omega),DX (by omega),h1,DH ⟨by omega,c2⟩]
  ·rw [DX (by simp;omega),EY,DL (by omega)]
   congr 1
   simp;omega
def be_cons (x:Nat) : ∀ l:List Nat,be (x::l)=x*256^l.length+be l:=by
 have key : ∀ (l:List Nat) (a:Nat),l.foldl (fun v x=>v*256+x) a=a*256^l.length+be l:=by
  intro l;induction l with
  |nil=>intro a;simp [be]
  |cons y l ih=>
   intro a;have e1:be (y::l)=l.foldl (fun v x=>v*256+x) (0*256+y):=rfl;rw [List.foldl_cons,ih,e1,ih,List.length_cons,Nat.pow_succ,HG,HM,DC,Nat.mul_assoc,II 256,F0]
 intro l;have e1:be (x::l)=l.foldl (fun v x=>v*256+x) (0*256+x):=rfl;rw [e1,key,HM,DC]
def be_beB : ∀ n v,be (ej n v)=v%256^n
 | 0,v=>by simp [ej,be,Nat.mod_one]
 |n+1,v=>by rw [ej,be_cons,aQ,be_beB n v,Nat.mod_pow_succ,II,Nat.add_comm]
def fQ {n v:Nat} (h:v<256^n):be (ej n v)=v:=by rw [be_beB,FK h]
def field {A F X:List Nat} {n m:Nat} (hA:A.length=n) (hF:F.length=m):((A++(F++X)).drop n).take m=F:=by rw [List.drop_left' hA,List.take_left' hF]
def yK {l:List Nat} (hb : ∀ x∈l,x<256):right (jY l)=true:=by
 have hb2 : ∀ x∈l++List.replicate (124-l.length) 0,x<256:=by
  intro x hx;rcases D8.1 hx with hx|hx
  ·exact hb x hx
  ·rw [ES hx];decide
 have hc:=crcN_lt hb2;unfold right jY;rw [List.take_left' (aQ 4 _),List.drop_left' (aQ 4 _),fQ (by omega)];exact DP _
section
variable {gen at_ part parts:Nat} {data:List Nat} (hg:gen<18446744073709551616) (hat:at_<4294967296) (hp:part<65536) (hps:parts<65536) (hd:data.length<=106) (hb : ∀ x∈data,x<256)
def CA (hb : ∀ x∈data,x<256) : ∀ x∈iC gen at_ part parts data,x<256:=by
 intro x hx;simp only [iC,D8] at hx;rcases hx with ((((hx|hx)|hx)|hx)|hx)|hx
 ·exact dz _ _ x hx
 ·exact dz _ _ x hx
 ·exact dz _ _ x hx
 ·exact dz _ _ x hx
 ·exact dz _ _ x hx
 ·exact hb x hx
def gZ (gen at_ part parts:Nat) (data:List Nat) : ∃ C Z:List Nat,C.length=4/\ek gen at_ part parts data=C++(ej 8 gen++(ej 4 at_++(ej 2 part++(ej 2 parts++(ej 2 data.length++(data++Z)))))):=by refine ⟨ej 4 (tA (iC gen at_ part parts data++List.replicate (124-(iC gen at_ part parts data).length) 0)),List.replicate (124-(iC gen at_ part parts data).length) 0,aQ 4 _,?_⟩;simp only [ek,jY,iC,DY]
theorem zT (hd:data.length<=106):(ek gen at_ part parts data).length=128:=nZ (by rw [oV];omega)
def right_log (hb : ∀ x∈data,x<256):right (ek gen at_ part parts data)=true:=yK (CA hb)
include hg in
def xf:cb (ek gen at_ part parts data)=gen:=by obtain ⟨C,Z,hC,e⟩:=gZ gen at_ part parts data;unfold cb;rw [e,field hC (aQ 8 _),fQ (by omega)]
include hat in
def Cx:lR (ek gen at_ part parts data)=at_:=by obtain ⟨C,Z,hC,e⟩:=gZ gen at_ part parts data;unfold lR;rw [e,<-List.append_assoc,field (by rw [DO,hC,aQ]) (aQ 4 _),fQ (by omega)]
include hp in
def vG:bZ (ek gen at_ part parts data)=part:=by obtain ⟨C,Z,hC,e⟩:=gZ gen at_ part parts data;unfold bZ;rw [e,<-List.append_assoc,<-List.append_assoc,field (by simp only [DO,hC,aQ]) (aQ 2 _),fQ (by omega)]
include hps in
def nK:bj (ek gen at_ part parts data)=parts:=by obtain ⟨C,Z,hC,e⟩:=gZ gen at_ part parts data;unfold bj;rw [e,<-List.append_assoc,<-List.append_assoc,<-List.append_assoc,field (by simp only [DO,hC,aQ]) (aQ 2 _),fQ (by omega)]
include hd in
def vA:ei (ek gen at_ part parts data)=data.length:=by obtain ⟨C,Z,hC,e⟩:=gZ gen at_ part parts data;unfold ei;rw [e,<-List.append_assoc,<-List.append_assoc,<-List.append_assoc,<-List.append_assoc,field (by simp only [DO,hC,aQ]) (aQ 2 _),fQ (by omega)]
include hd in
def logData_log:gU (ek gen at_ part parts data)=data:=by have hs:=vA (gen:=gen) (at_:=at_) (part:=part) (parts:=parts) hd;obtain ⟨C,Z,hC,e⟩:=gZ gen at_ part parts data;unfold gU;rw [hs,DH hd,e,<-List.append_assoc,<-List.append_assoc,<-List.append_assoc,<-List.append_assoc,<-List.append_assoc,field (by simp only [DO,hC,aQ]) rfl]
include hat hp hps hd hb in
def logOk_log (at2:Nat) (h1:1<=parts) (h2:part<parts):iN at2 (ek gen at_ part parts data)=(at_==at2):=by unfold iN;rw [right_log hb,Cx hat,nK hps,vG hp,vA hd,DN h1,DN h2,DN hd];simp
end
def xx (gen area:Nat) : ∀ x∈eo gen area,x<256:=by
 intro x hx;simp only [eo,D8] at hx;rcases hx with (hx|hx)|hx
 ·exact dz _ _ x hx
 ·exact dz _ _ x hx
 ·exact dz _ _ x hx
def wF (gen area:Nat):(cJ gen area).length=128:=nZ (by simp [eo,aQ])
def lh (gen area:Nat) : ∃ C Z:List Nat,C.length=4/\cJ gen area=C++(ej 4 1398034252++(ej 8 gen++(ej 1 area++Z))):=by refine ⟨ej 4 (tA (eo gen area++List.replicate (124-(eo gen area).length) 0)),List.replicate (124-(eo gen area).length) 0,aQ 4 _,?_⟩;simp only [cJ,jY,eo,DY]
def pz {gen area:Nat} (hg:gen<18446744073709551616):bR (cJ gen area)=gen:=by obtain ⟨C,Z,hC,e⟩:=lh gen area;unfold bR;rw [e,<-List.append_assoc,field (by simp only [DO,hC,aQ]) (aQ 8 _),fQ (by omega)]
def oM {gen area:Nat} (ha:area<=1):dC (cJ gen area)=area:=by obtain ⟨C,Z,hC,e⟩:=lh gen area;unfold dC;rw [e,<-List.append_assoc,<-List.append_assoc,field (by simp only [DO,hC,aQ]) (aQ 1 _),fQ (by omega)]
def zL {gen area:Nat} (ha:area<=1):cC (cJ gen area)=true:=by have h1:=oM (gen:=gen) ha;obtain ⟨C,Z,hC,e⟩:=lh gen area;unfold cC;rw [show right (cJ gen area)=true from yK (xx gen area),h1,DN ha,e,field hC (aQ 4 _),fQ (by decide)];rfl
def zo:right (List.replicate 128 0)=false:=by kernel_rfl
def nR:cC (List.replicate 128 0)=false:=by unfold cC;rw [zo];rfl
def yd (at_:Nat):iN at_ (List.replicate 128 0)=false:=by unfold iN;rw [zo];rfl
def chunks (r:List Nat):(List.range (br r.length)).flatMap (fI r)=r:=by
 have key : ∀ k,(List.range k).flatMap (fI r)=r.take (106*k):=by
  intro k;induction k with
  |zero=>simp
  |succ k ih=>
   rw [H2,GR,ih];simp only [FT,IF,GC,fI];rw [Nat.mul_succ,List.take_add]
 rw [key,D3 (costN_room _)]
def Dk.placed (D:Dk) (area gen at_:Nat) (r:List Nat):Prop := ∀ i,i<br r.length->D.jb area (at_+i)=ek gen (at_+i) i (br r.length) (fI r i)
def chunk_byte {r:List Nat} (hb : ∀ x∈r,x<256) (i:Nat) : ∀ x∈fI r i,x<256:=fun x hx=>hb x (EO (D6 hx))
def Dk.zE {D:Dk} {area gen at_:Nat} {r:List Nat} (p:D.placed area gen at_ r) (hg:gen<18446744073709551616) (hr:r.length<=20000) (hb : ∀ x∈r,x<256) (hfit:at_+br r.length<=D.ar) (har:D.ar<=4096) :
  D.stands area gen at_=true/\D.parts area at_=br r.length/\D.data area at_ (br r.length)=r:=by
 have hc:=mZ (n:=r.length) (by omega);have hp:=nv r.length;have h0:=p 0 (by omega);have hparts:D.parts area at_=br r.length:=by unfold Dk.parts;rw [Nat.add_zero] at h0;rw [h0,nK (by omega)]
 refine ⟨?_,hparts,?_⟩
 ·unfold Dk.stands;rw [hparts,DN hfit,DN hp,EU,EU,DQ];intro i hi;have hi:=IM.1 hi;unfold Dk.part;have hcl:=kQ r i;rw [p i hi,logOk_log (by omega) (by omega) (by omega) hcl (chunk_byte hb i) _ hp hi,xf hg,vG (by omega),nK (by omega)];simp
 ·unfold Dk.data;have:(List.range (br r.length)).flatMap (fun i=>gU (D.jb area (at_+i)))=(List.range (br r.length)).flatMap (fI r):=by
   have hcong : ∀ (l:List Nat) (f g:Nat->List Nat),(∀ i∈l,f i=g i)->l.flatMap f=l.flatMap g:=by
    intro l f g;induction l with
    |nil=>intro _;rfl
    |cons a l ih=>
     intro h;rw [FT,FT,h a EW,ih (fun i hi=>h i (EL _ hi))]
   refine hcong _ _ _ (fun i hi => ?_);rw [p i (IM.1 hi),logData_log (kQ r i)]
  rw [this,chunks]
structure kT (D E:Dk):Prop where
 bb:E.bb=D.bb
 n:E.n=D.n
 down:E.down=D.down
 armed:E.armed=D.armed
 turn:E.turn=D.turn
 len:E.img.length=D.img.length
def kT.refl (D:Dk):kT D D:=⟨rfl,rfl,rfl,rfl,rfl,rfl⟩
def kT.trans {A B C:Dk} (a:kT A B) (b:kT B C):kT A C:=⟨b.bb.trans a.bb,b.n.trans a.n,b.down.trans a.down,b.armed.trans a.armed,b.turn.trans a.turn,b.len.trans a.len⟩
def kT.ar {D E:Dk} (a:kT D E):E.ar=D.ar:=by unfold Dk.ar;rw [a.n]
def write_up {D:Dk} (hlen:D.img.length=128*D.n) (hd:D.down=false) (ha:D.armed=false) {i:Nat} (hi:i<D.n) {l:List Nat} (hl:l.length=128) :
  D.write (i:Int) l=(0,D.lay (i:Int) l)/\kT D (D.lay (i:Int) l) /\ ∀ k,k<D.n->(D.lay (i:Int) l).blk k=if k=i then l else D.blk k:=by
 refine ⟨?_,⟨rfl,rfl,rfl,rfl,rfl,?_⟩,?_⟩
 ·have hf:D.fault (i:Int)=0:=by unfold Dk.fault;rw [hd,DL (by simp),DL (by omega)]
  unfold Dk.write;rw [DH hf,DH hl,ha,DL (by simp)]
 ·unfold Dk.lay;exact py (by rw [Int.toNat_natCast];omega)
 ·intro k hk;unfold Dk.lay Dk.blk;simp only [Int.toNat_natCast];apply FC;intro q;by_cases hq:q<128
  ·rw [E7,DH hq,EY,uW (by omega)];by_cases hki:k=i
   ·subst hki;rw [DH rfl,DH (by omega),FY]
   ·rw [DL hki,DL (by omega),E7,DH hq,EY]
  ·rw [E7,DL hq];split
   ·rw [EN (by omega)]
   ·rw [E7,DL hq]
structure Up (D:Dk):Prop where
 len:D.img.length=128*D.n
 down:D.down=false
 armed:D.armed=false
def Up.alike {D E:Dk} (u:Up D) (a:kT D E):Up E:=⟨by rw [a.len,a.n,u.len],a.down.trans u.down,a.armed.trans u.armed⟩
def Dk.area_in (D:Dk) {area:Nat} (ha:area<=1) (h1:1<=D.ar):2+area*D.ar+D.ar<=D.n:=by
 have har:D.ar=(D.n-2)/2:=rfl;have hm:area*D.ar<=D.ar:=by have:=GJ D.ar ha;omega
 omega
def wr_up (area gen at_ parts:Nat) (r:List Nat) : ∀ (k i:Nat) (D:Dk),Up D->2+area*D.ar+at_+i+k<=D.n ->
  ∃ E,Dk.wr area gen at_ parts r k i D=(0,E)/\kT D E /\ ∀ b,b<D.n->E.blk b=if 2+area*D.ar+at_+i<=b/\b<2+area*D.ar+at_+i+k then ek gen (b-(2+area*D.ar)) (b-(2+area*D.ar+at_)) parts (fI r (b-(2+area*D.ar+at_))) else D.blk b
 | 0,i,D,_,_=>⟨D,rfl,.refl D,fun b _=>by rw [DL (by omega)]⟩
 |k+1,i,D,u,h=>by
  obtain ⟨w1,w2,w3⟩:=write_up u.len u.down u.armed (i:=2+area*D.ar+at_+i) (by omega) (l:=ek gen (at_+i) i parts (fI r i)) (zT (kQ r i));obtain ⟨E,e1,e2,e3⟩:=wr_up area gen at_ parts r k (i+1) _ (u.alike w2) (by rw [w2.ar,w2.n];omega);refine ⟨E,?_,w2.trans e2,?_⟩
  ·rw [Dk.wr,w1,DH rfl];exact e1
  ·intro b hb;rw [e3 b (by rw [w2.n];exact hb),w2.ar,w3 b hb];generalize area*D.ar=q;by_cases hbi:b=2+q+at_+i
   ·subst hbi;rw [DL (by omega),DH rfl,DH (by omega),show 2+q+at_+i-(2+q)=at_+i by omega,show 2+q+at_+i-(2+q+at_)=i by omega]
   ·rw [DL hbi];by_cases hin:2+q+at_+i<=b/\b<2+q+at_+i+(k+1)
    ·rw [DH hin,DH (by omega)]
    ·rw [DL hin,DL (by omega)]
def wrRec_up {D:Dk} (u:Up D) {area gen at_:Nat} {r:List Nat} (ha:area<=1) (hfit:at_+br r.length<=D.ar) :
  ∃ E,D.wrRec area gen at_ r=(0,E)/\kT D E/\E.placed area gen at_ r /\ ∀ b,b<D.n->(b<2+area*D.ar+at_\/2+area*D.ar+at_+br r.length<=b)->E.blk b=D.blk b:=by
 have hp:=nv r.length;have hin:=D.area_in ha (by omega);obtain ⟨E,e1,e2,e3⟩:=wr_up area gen at_ (br r.length) r (br r.length) 0 D u (by omega);refine ⟨E,e1,e2,?_,?_⟩
 ·intro i hi;unfold Dk.jb;rw [e2.ar,e3 _ (by omega)];generalize area*D.ar=q at *;rw [DH (by omega),show 2+q+(at_+i)-(2+q)=at_+i by omega,show 2+q+(at_+i)-(2+q+at_)=i by omega]
 ·intro b hb ho;rw [e3 b hb,DL (by omega)]
def ju:List (List Nat)->Nat->List (Nat×List Nat)
 | [],_ => []
 |r::rs,at_=>(at_,r)::ju rs (at_+br r.length)
def ew (r:List Nat) (rs:List (List Nat)):aU (r::rs)=br r.length+aU rs:=by simp [aU]
def mj:aU []=0:=rfl
def zy (a b:List (List Nat)):aU (a++b)=aU a+aU b:=by simp [aU]
def vy : ∀ (a b:List (List Nat)) (at_:Nat),ju (a++b) at_=ju a at_++ju b (at_+aU a)
 | [],b,at_=>rfl
 |r::rs,b,at_=>by rw [List.cons_append,ju,vy rs b,ju,ew,F0];rfl
def qZ : ∀ (a:List (List Nat)) (at_:Nat) (e:Nat×List Nat),e∈ju a at_->at_<=e.1/\e.1+br e.2.length<=at_+aU a/\e.2∈a
 | [],_,e,h=>by simp [ju] at h
 |r::rs,at_,e,h=>by
  rw [ju,ER] at h;rw [ew];rcases h with rfl|h
  ·exact ⟨DG _,by show at_+br r.length<=_;omega,EW⟩
  ·have:=qZ rs _ e h;exact ⟨by omega,by omega,EL _ this.2.2⟩
def Dk.placed.keep {D E:Dk} {area gen at_:Nat} {r:List Nat} (p:D.placed area gen at_ r) (har:E.ar=D.ar) (h : ∀ i,i<br r.length->E.blk (2+area*D.ar+(at_+i))=D.blk (2+area*D.ar+(at_+i))):E.placed area gen at_ r:=by intro i hi;have:=p i hi;unfold Dk.jb at this |-;rw [har,h i hi,this]
def rwAll_up {area gen:Nat} (ha:area<=1) : ∀ (vals:List (List Nat)) (at_:Nat) (D:Dk) (ps:List Nat),Up D->at_+aU vals<=D.ar ->
  ∃ E,Dk.cY area gen vals at_ D ps=(0,E,at_+aU vals,ps++(ju vals at_).map (·.1))/\kT D E/\(∀ e∈ju vals at_,E.placed area gen e.1 e.2) /\
    ∀ b,b<D.n->(b<2+area*D.ar+at_\/2+area*D.ar+at_+aU vals<=b)->E.blk b=D.blk b
 | [],at_,D,ps,_,_=>⟨D,by simp [Dk.cY,ju,mj],.refl D,by simp [ju],fun _ _ _=>rfl⟩
 |r::rs,at_,D,ps,u,hfit=>by
  rw [ew] at hfit;obtain ⟨E,e1,e2,e3,e4⟩:=wrRec_up u (gen:=gen) (at_:=at_) (r:=r) ha (by omega);obtain ⟨F,f1,f2,f3,f4⟩:=rwAll_up (gen:=gen) ha rs (at_+br r.length) E (ps ++ [at_]) (u.alike e2) (by rw [e2.ar];omega);have hp:=nv r.length;have hin:=D.area_in ha (by omega);rw [e2.ar,e2.n] at f4;refine ⟨F,?_,e2.trans f2,?_,?_⟩
  ·rw [Dk.cY,e1,DH rfl,f1,ew,ju,FD,DY,F0];rfl
  ·intro e he;rw [ju,ER] at he;rcases he with rfl|he
   ·refine e3.keep f2.ar (fun i hi => ?_);have hi:i<br r.length:=hi;rw [e2.ar];exact f4 _ (by omega) (.inl (by omega))
   ·exact f3 e he
  ·intro b hb ho;rw [ew] at ho;rw [f4 b hb (by omega),e4 b hb (by omega)]
def Dk.noB (D:Dk) (area gen at_:Nat):Prop:=iN at_ (D.jb area at_)=false\/cb (D.jb area at_)≠gen\/bZ (D.jb area at_)≠0
def Dk.noB.stands {D:Dk} {area gen at_:Nat} (h:D.noB area gen at_):D.stands area gen at_=false:=by
 refine Dk.pF (i:=0) (by omega) ?_;unfold Dk.part;rw [Nat.add_zero];rcases h with h|h|h
 ·rw [h];rfl
 ·rw [GS.2 h];simp
 ·rw [GS.2 h];simp
def AP {D:Dk} {J:Jn} : ∀ (m at_ k:Nat),(∀ i,i<m->at_+i<D.ar->D.stands J.area J.gen (at_+i)=false)->D.ar<=at_+k -> ∃ k',D.ar<=at_+m+k'/\D.ents J k at_=D.ents J k' (at_+m)
 | 0,at_,k,_,hk=>⟨k,hk,rfl⟩
 |m+1,at_,k,h,hk=>by
  by_cases hat:at_<D.ar
  ·obtain ⟨k0,rfl⟩ : ∃ k0,k=k0+1:=⟨k-1,by omega⟩
   have hs:J.stands D at_=false:=by rw [Jn.nJ hat];have:=h 0 (by omega) hat;rw [Nat.add_zero] at this;rw [this,HR]
   obtain ⟨k',h1,h2⟩:=AP (D:=D) (J:=J) m (at_+1) k0 (fun i hi hai=>by have:=h (i+1) (by omega) (by omega);rw [show at_+1+i=at_+(i+1) by omega];exact this) (by omega);refine ⟨k',by omega,?_⟩;rw [Dk.ents,DH hat,hs,DL (by decide),h2,show at_+1+m=at_+(m+1) by omega]
  ·exact ⟨0,by omega,by rw [Dk.ents_end (by omega),Dk.ents_end (by omega)]⟩
def Jn.un (J:Jn):Jn:={ J with known:=0 }
def Jn.seeLog_un (D:Dk) (s at_:Nat) (J:Jn):(J.seeLog D s at_).un=J.un:=by unfold Jn.seeLog;split<;>rfl
def Jn.zq (D:Dk) (s:Nat) : ∀ k at_ J,(Jn.eY D s k at_ J).un=J.un
 | 0,_,_=>rfl
 |k+1,at_,J=>by rw [Jn.eY,Jn.zq D s k,Jn.seeLog_un]
def Jn.BO (D:Dk) (s:Nat) (J:Jn):(J.takeSuper D s).un=J.un.takeSuper D s:=by have h1:J.un.slot=J.slot:=rfl;have h2:J.un.gen=J.gen:=rfl;unfold Jn.takeSuper;rw [h1,h2];split<;>rfl
def Jn.xh (D:Dk) (s:Nat) (J:Jn):(J.seeSlot D s).un=if cC (D.blk s)=true then J.un.takeSuper D s else J.un:=by
 unfold Jn.seeSlot;rw [Jn.zq];unfold Jn.seeSuper;split
 ·exact Jn.BO D s J
 ·rfl
def Dk.openJ_un (D:Dk) (t:Int):(D.openJ t).un=if cC (D.blk 1)=true then (if cC (D.blk 0)=true then (D.jn0 t).takeSuper D 0 else D.jn0 t).takeSuper D 1 else if cC (D.blk 0)=true then (D.jn0 t).takeSuper D 0 else D.jn0 t:=by unfold Dk.openJ;rw [Jn.xh,Jn.xh];rfl
def Dk.xI (D:Dk) (t:Int) (s:Nat):(D.jn0 t).takeSuper D s={ turn:=t,slot:=s,area:=dC (D.blk s),gen:=bR (D.blk s),known:=0,ready:=false,fin:=0 }:=by unfold Jn.takeSuper;rw [DH (.inl (show (-1:Int)<0 by decide))];rfl
structure Sup (D:Dk) (slot area gen:Nat):Prop where
 s:slot<=1
 ok:cC (D.blk slot)=true
 g:bR (D.blk slot)=gen
 a:dC (D.blk slot)=area
 vD:cC (D.blk (1-slot))=true->bR (D.blk (1-slot))<gen
def Dk.openJ_none {D:Dk} (h0:cC (D.blk 0)=false) (h1:cC (D.blk 1)=false) (t:Int):(D.openJ t).un=D.jn0 t:=by rw [Dk.openJ_un,h0,h1];rfl
structure AD (D:Dk) (B:Nat):Prop where
 logs : ∀ s,s<=1 -> ∀ p,p<D.ar->iN p (D.jb s p)=true->cb (D.jb s p)<=B
 sups : ∀ s,s<=1->cC (D.blk s)=true->bR (D.blk s)<=B
def Jn.rI (D:Dk) (s:Nat) : ∀ k at_ J,J.known<=(Jn.eY D s k at_ J).known/\(∀ p,at_<=p->p<at_+k->iN p (D.jb s p)=true->cb (D.jb s p)<=(Jn.eY D s k at_ J).known) /\
  ∀ B,J.known<=B->(∀ p,at_<=p->p<at_+k->iN p (D.jb s p)=true->cb (D.jb s p)<=B)->(Jn.eY D s k at_ J).known<=B
 | 0,at_,J=>⟨DG _,fun p h1 h2=>by omega,fun _ h _=>h⟩
 |k+1,at_,J=>by
  obtain ⟨i1,i2,i3⟩:=Jn.rI D s k (at_+1) (J.seeLog D s at_);have hj:(J.seeLog D s at_).known=if iN at_ (D.jb s at_)=true then max J.known (cb (D.jb s at_)) else J.known:=by unfold Jn.seeLog;split<;>rfl
  refine ⟨?_,?_,?_⟩
  ·show J.known<=(Jn.eY D s k (at_+1) (J.seeLog D s at_)).known;refine D9 ?_ i1;rw [hj];split<;>omega
  ·intro p h1 h2 h3;show _<=(Jn.eY D s k (at_+1) (J.seeLog D s at_)).known;by_cases hp:p=at_
   ·subst hp;refine D9 ?_ i1;rw [hj,DH h3];omega
   ·exact i2 p (by omega) (by omega) h3
  ·intro B h1 h2;refine i3 B ?_ (fun p h3 h4=>h2 p (by omega) (by omega));rw [hj];split
   ·rename_i h;have:=h2 at_ (by omega) (by omega) h;omega
   ·exact h1
def Jn.rJ (D:Dk) (s:Nat) (J:Jn):J.known<=(J.seeSlot D s).known/\(∀ p,p<D.ar->iN p (D.jb s p)=true->cb (D.jb s p)<=(J.seeSlot D s).known)/\(cC (D.blk s)=true->bR (D.blk s)<=(J.seeSlot D s).known) /\
  ∀ B,J.known<=B->(∀ p,p<D.ar->iN p (D.jb s p)=true->cb (D.jb s p)<=B)->(cC (D.blk s)=true->bR (D.blk s)<=B)->(J.seeSlot D s).known<=B:=by
 obtain ⟨i1,i2,i3⟩:=Jn.rI D s D.ar 0 (J.seeSuper D s);have hj:(J.seeSuper D s).known=if cC (D.blk s)=true then max J.known (bR (D.blk s)) else J.known:=by unfold Jn.seeSuper;split<;>rfl
 refine ⟨?_,fun p h1 h2=>i2 p (by omega) (by omega) h2,?_,?_⟩
 ·refine D9 ?_ i1;rw [hj];split<;>omega
 ·intro h;refine D9 ?_ i1;rw [hj,DH h];omega
 ·intro B h1 h2 h3;refine i3 B ?_ (fun p _ h5=>h2 p (by omega));rw [hj];split
  ·rename_i h;have:=h3 h;omega
  ·exact h1
def AD.openJ {D:Dk} {B:Nat} (k:AD D B) (t:Int):(D.openJ t).known<=B:=by obtain ⟨a1,a2,a3,a4⟩:=Jn.rJ D 0 (D.jn0 t);obtain ⟨b1,b2,b3,b4⟩:=Jn.rJ D 1 ((D.jn0 t).seeSlot D 0);exact b4 B (a4 B (FL B) (k.logs 0 (by omega)) (k.sups 0 (by omega))) (k.logs 1 (by omega)) (k.sups 1 (by omega))
def lD (D:Dk):Prop := ∀ b,b<D.n->D.blk b=List.replicate 128 0
def lD.AM {D:Dk} (f:lD D) (h4:4<=D.n):AD D 0:=by
 refine ⟨fun s hs p hp h => ?_,fun s hs h => ?_⟩
 ·have hin:=D.area_in hs (by omega);unfold Dk.jb at h;rw [f _ (by omega),yd] at h;cases h
 ·rw [f _ (by omega),nR] at h;cases h
def lD.openJ {D:Dk} (f:lD D) (h4:4<=D.n) (t:Int):D.openJ t=D.jn0 t:=by
 have h1:(D.openJ t).un=D.jn0 t:=Dk.openJ_none (by rw [f _ (by omega),nR]) (by rw [f _ (by omega),nR]) t;have h2:(D.openJ t).known=0:=by have:=(f.AM h4).openJ t;omega
 have h3:D.openJ t={ (D.openJ t).un with known:=(D.openJ t).known }:=rfl;rw [h3,h1,h2];rfl
def lD.ents {D:Dk} (J:Jn) (f:lD D) (h4:4<=D.n) (ha:J.area<=1):D.ents J D.ar 0 = []:=by
 obtain ⟨k',_,e2⟩:=AP (D:=D) (J:=J) D.ar 0 D.ar (fun i hi _=>Dk.noB.stands (.inl (by have hin:=D.area_in ha (by omega);unfold Dk.jb;rw [f _ (by omega),yd]))) (by omega)
 rw [e2,Dk.ents_end (by omega)]
structure Has (D:Dk) (area gen:Nat) (recs:List (List Nat)):Prop where
 a:area<=1
 g:gen<18446744073709551616
 ok : ∀ r∈recs,r.length<=20000 /\ ∀ x∈r,x<256
 fit:aU recs<=D.ar
 placed : ∀ e∈ju recs 0,D.placed area gen e.1 e.2
 rest : ∀ p,aU recs<=p->p<D.ar->D.noB area gen p
def Has.at {D:Dk} {J:Jn} {recs:List (List Nat)} (H:Has D J.area J.gen recs) (hs:0<=J.slot) (har:D.ar<=4096) {e:Nat×List Nat} (he:e∈ju recs 0) :
  e.1<D.ar/\J.stands D e.1=true/\D.parts J.area e.1=br e.2.length/\D.data J.area e.1 (br e.2.length)=e.2:=by
 obtain ⟨b1,b2,b3⟩:=qZ _ _ _ he;have hfit:=H.fit;have hp:=nv e.2.length;obtain ⟨k1,k2⟩:=H.ok _ b3;obtain ⟨s1,s2,s3⟩:=Dk.zE (H.placed e he) H.g k1 k2 (by omega) har;exact ⟨by omega,by rw [Jn.nJ (by omega),s1,DN hs];rfl,s2,s3⟩
def Has.append {D:Dk} {J:Jn} {recs:List (List Nat)} (H:Has D J.area J.gen recs) (u:Up D) (hl:J.live D=true) (hr:J.ready=true) (hfin:J.fin=aU recs) {r:List Nat} (h20:r.length<=20000) (hb : ∀ x∈r,x<256) (hfit:aU recs+br r.length<=D.ar) :
  ∃ E,J.append D r=(0,E,{ J with fin:=J.fin+br r.length })/\kT D E/\Has E J.area J.gen (recs ++ [r]) /\ ∀ b,b<2->E.blk b=D.blk b:=by
 obtain ⟨E,e1,e2,e3,e4⟩:=wrRec_up u (gen:=J.gen) (at_:=J.fin) (r:=r) H.a (by omega);have hp:=nv r.length;have hin:=D.area_in H.a (by omega);have htot:aU (recs ++ [r])=aU recs+br r.length:=by rw [zy,ew,mj];omega
 have hfree:J.free D=D.ar-J.fin:=by unfold Jn.free;rw [hl,hr];rfl
 refine ⟨E,?_,e2,⟨H.a,H.g,?_,by rw [htot,e2.ar];exact hfit,?_,?_⟩,fun b hb=>e4 b (by omega) (by omega)⟩
 ·unfold Jn.append;rw [DL (by rw [hl];decide),DL (by rw [hr];decide),DL (by omega),DL (by omega),e1,DH rfl]
 ·intro q hq;rcases D8.1 hq with hq|hq
  ·exact H.ok q hq
  ·rw [FB] at hq;subst hq;exact ⟨h20,hb⟩
 ·intro e he;rw [vy,DC] at he;rcases D8.1 he with he|he
  ·have hbd:=qZ _ _ _ he;exact (H.placed e he).keep e2.ar (fun i hi=>e4 _ (by omega) (by omega))
  ·rw [ju,ju,FB] at he;subst he;rw [<-hfin];exact e3
 ·intro p h1 h2;rw [htot] at h1;rw [e2.ar] at h2;have hrs:=H.rest p (by omega) h2;unfold Dk.noB Dk.jb at hrs |-;rw [e2.ar,e4 _ (by omega) (by omega)];exact hrs
def rewrite_up {J:Jn} {D:Dk} {vals:List (List Nat)} (u:Up D) (h4:4<=D.n) (hl:J.live D=true) (hv : ∀ r∈vals,r.length<=20000 /\ ∀ x∈r,x<256) (hfit:aU vals<=D.ar) (hk:J.known<18446744073709551615) (ok:oS J D) (kn:AD D J.known) :
  ∃ E s,J.newSlot=((s:Nat):Int)/\J.rewrite D vals=(0,E,{ turn:=J.turn,slot:=J.newSlot,area:=J.newArea,gen:=J.known+1,known:=J.known+1,ready:=true,fin:=aU vals },(ju vals 0).map (·.1))/\kT D E /\
    Has E J.newArea (J.known+1) vals/\Sup E s J.newArea (J.known+1)/\AD E (J.known+1)/\(∀ b,b<D.n->b≠s->(b<2+J.newArea*D.ar\/2+J.newArea*D.ar+aU vals<=b)->E.blk b=D.blk b):=by
 have hna:=J.newArea_le;have har:D.ar=(D.n-2)/2:=rfl;have hin:=D.area_in hna (by omega);obtain ⟨E,e1,e2,e3,e4⟩:=rwAll_up (gen:=J.known+1) hna vals 0 D [] u (by omega);obtain ⟨s,hs,hs1⟩ : ∃ s:Nat,J.newSlot=(s:Int)/\s<=1:=by
  unfold Jn.newSlot;rcases ok.slot with h|h|h<;>rw [h]
  ·exact ⟨0,rfl,by omega⟩
  ·exact ⟨1,rfl,by omega⟩
  ·exact ⟨0,rfl,by omega⟩
 have u2:=u.alike e2;obtain ⟨w1,w2,w3⟩:=write_up u2.len u2.down u2.armed (i:=s) (by rw [e2.n];omega) (wF (J.known+1) J.newArea);have a2:=e2.trans w2;rw [e2.n] at w3;have fr : ∀ b,b<D.n->b≠s->(b<2+J.newArea*D.ar\/2+J.newArea*D.ar+aU vals<=b)->(E.lay (s:Int) (cJ (J.known+1) J.newArea)).blk b=D.blk b:=by intro b h1 h2 h3;rw [w3 b h1,DL h2,e4 b h1 (by omega)]
 have hss:(E.lay (s:Int) (cJ (J.known+1) J.newArea)).blk s=cJ (J.known+1) J.newArea:=by rw [w3 s (by omega),DH rfl]
 have hpl : ∀ e∈ju vals 0,(E.lay (s:Int) (cJ (J.known+1) J.newArea)).placed J.newArea (J.known+1) e.1 e.2:=by intro e he;have hb:=qZ _ _ _ he;exact (e3 e he).keep w2.ar (fun i hi=>by rw [e2.ar,w3 _ (by omega),DL (by omega)])
 generalize E.lay (s:Int) (cJ (J.known+1) J.newArea)=F at *;refine ⟨F,s,hs,?_,a2,?_,?_,?_,fr⟩
 ·unfold Jn.rewrite;have hany:(vals.any fun r=>decide (20000<r.length))=false:=by rw [List.any_eq_false];intro r hr;have:=(hv r hr).1;simp;omega
  rw [hl,hany,DL (by decide),DL (by decide),DL (by omega),e1,DH rfl,hs,w1,DH rfl];rfl
 ·refine ⟨hna,by omega,hv,by rw [a2.ar];exact hfit,hpl,?_⟩;intro p h1 h2;rw [a2.ar] at h2;unfold Dk.noB Dk.jb;rw [a2.ar,fr _ (by omega) (by omega) (by omega)];cases hlo:iN p (D.blk (2+J.newArea*D.ar+p)) with
  |false=>exact .inl rfl
  |true=>
   have:=kn.logs J.newArea hna p h2 hlo;unfold Dk.jb at this;exact .inr (.inl (by omega))
 ·refine ⟨hs1,by rw [hss,zL hna],by rw [hss,pz (by omega)],by rw [hss,oM hna],?_⟩;rw [fr (1-s) (by omega) (by omega) (by omega)];intro h;have:=kn.sups (1-s) (by omega) h;omega
 ·refine ⟨?_,?_⟩
  ·intro t ht p hp h;rw [a2.ar] at hp;by_cases hin2:t=J.newArea/\p<aU vals
   ·obtain ⟨rfl,hp2⟩:=hin2;have key : ∀ (rs:List (List Nat)) (at_:Nat),at_<=p->p<at_+aU rs -> ∃ e∈ju rs at_,e.1<=p/\p<e.1+br e.2.length:=by
     intro rs;induction rs with
     |nil=>intro at_ h1 h2;rw [mj] at h2;omega
     |cons r rs ih=>
      intro at_ h1 h2;rw [ew] at h2;by_cases hlt:p<at_+br r.length
      ·exact ⟨(at_,r),by rw [ju];exact EW,h1,hlt⟩
      ·obtain ⟨e,he,h3⟩:=ih (at_+br r.length) (by omega) (by omega);exact ⟨e,by rw [ju];exact EL _ he,h3⟩
    obtain ⟨e,he,h1,h2⟩:=key vals 0 (by omega) (by omega);have:=hpl e he (p-e.1) (by omega);rw [show e.1+(p-e.1)=p by omega] at this;rw [this,xf (by omega)];omega
   ·have hta:t*D.ar+D.ar<=2*D.ar:=by have:=GJ D.ar ht;omega
    have hout:F.blk (2+t*D.ar+p)=D.blk (2+t*D.ar+p):=by
     refine fr _ (by omega) (by omega) ?_;by_cases hta:t=J.newArea
     ·subst hta;exact .inr (by omega)
     ·obtain ⟨h1,h2⟩|⟨h1,h2⟩:(t=0/\J.newArea=1)\/(t=1/\J.newArea=0):=by omega
      ·rw [h1,h2];omega
      ·rw [h1,h2];omega
    unfold Dk.jb at h |-;rw [a2.ar,hout] at h |-;have:=kn.logs t ht p hp h;unfold Dk.jb at this;omega
  ·intro t ht h;by_cases hts:t=s
   ·subst hts;rw [hss,pz (by omega)];exact DG _
   ·rw [fr t (by omega) hts (by omega)] at h |-;have:=kn.sups t ht h;omega
def lD.jn {D:Dk} (f:lD D) (h4:4<=D.n):D.jn=D.opened.jn0 D.opened.turn:=by have f':lD D.opened:=f;exact f'.openJ h4 _
def lD.entries {D:Dk} (f:lD D) (h4:4<=D.n):D.entries = []:=by have f':lD D.opened:=f;unfold Dk.entries;rw [f.jn h4];exact f'.ents _ h4 (FL 1)
def sR {a:Option Addr} {n c lo hi:Nat} {vl vh:Option Vl} {h:ae} {l:List Nat} (g:cw a n c=true) (e:ao a n h=some l) (h1:lo<=hi) (h2:hi<=n) (hh:boundA n c vh=some hi) (hl:boundA 0 hi vl=some lo) :
  ∃ a' c',zR 1 (.slice a n c) vl vh none=some (.slice a' (hi-lo) c')/\ao a' (hi-lo) h=some ((l.drop lo).take (hi-lo))/\cw a' (hi-lo) c'=true/\(∀ y,a'=some y -> ∃ y0,a=some y0/\y0.block=y.block):=by
 have hn:=mX g;have hb:boundsA n c vl vh none=some (lo,hi,c):=by unfold boundsA;have:boundA c c none=some c:=rfl;rw [this];simp only [hh,hl]
 have hble:Nat.ble (hi-lo) (c-lo)=true:=FM (by omega);cases a with
 |none=>
  have hl0:l = []:=by
   unfold ao firstA at e;by_cases hz:n=0
   ·subst hz;obtain ⟨h3,_⟩:=ay (a:=none) (n:=0) (h:=h) (l:=l) (by unfold ao firstA;exact e);exact EC.1 h3
   ·simp only [hz,DS,Option.bind_none] at e;cases e
  have hn0:n=0:=by have:=(ay e).1;rw [hl0] at this;exact this.symm
  subst hn0;have:hi=0:=by omega
  subst this;have:lo=0:=by omega
  subst this;refine ⟨none,c-0,?_,?_,?_,fun y hy=>(by cases hy)⟩
  ·unfold zR sliceSl;simp only [hb]
  ·subst hl0;rfl
  ·unfold cw;simp
 |some x=>
  obtain ⟨b,off,s⟩:=x;cases s with
  |none=>
   refine ⟨some ⟨b,if c=lo then off else off+lo*1,none⟩,c-lo,?_,?_,?_,fun y hy=>⟨_,rfl,(by cases hy;rfl)⟩⟩
   ·unfold zR sliceSl;simp only [hb]
   ·by_cases hc:c=lo
    ·have h3:hi-lo=0:=by omega
     rw [DH hc,h3];have:(l.drop lo).take 0 = []:=rfl;rw [this];unfold ao firstA;simp;rfl
    ·rw [DL hc,FG];exact fX e h1 h2
   ·unfold cw;rw [hble];rfl
  |some s=>
   have hs:s=1:=by unfold cw at g;rw [DD] at g;exact eq_of_beq g.2
   subst hs;refine ⟨some ⟨b,off+lo*1,some 1⟩,c-lo,?_,?_,?_,fun y hy=>⟨_,rfl,(by cases hy;rfl)⟩⟩
   ·unfold zR sliceSl;simp [hb]
   ·rw [FG];exact fX e h1 h2
   ·unfold cw;rw [hble];rfl
def nat32_wv (a:BitVec 32):nat32 (wv a)=some a.toNat:=by
 have:a.toNat<4294967296:=a.isLt;have hb:Nat.blt a.toNat 4294967296=true:=by simpa using this
 show (match Nat.blt a.toNat 4294967296 with|true=>some a.toNat|false=>none)=_;rw [hb]
def isRow_rk:isRow rkN cP=true:=by kernel_rfl
def X187:XX 187=s187:=rfl
def r187 {h:ae} (hG:3<=h.n0) (hz:h.get 1=some cP) {p:Nat} {S:List (BitVec 32)} {B:List Nat} {n:Nat} (hS:S.length=8) (hBl:B.length=64) (hB:uH B) (hp:h.get p=some (cE S B n)) (hp0:h.n0<=p) :
  ∃ h',CD 187 [ptr p 0] h=some (.tuple #[],h')/\au h h' (· = p)/\h'.get p=some (cE (my S B) B n):=by
 have e:s187 [ptr p 0] h=some (.tuple #[],h.set p (cE (my S B) B n)):=by
  have e1:wordsOf 8 (cE S B n)=some (S.map BitVec.toNat):=by obtain ⟨a,b,c,d,e,f,g,i,rfl⟩:=Az hS;simp [cE,wordsOf,nat32_wv]
  have l8:(AV S).length=8:=by rw [EB,hS]
  have d8:(cE S B n).drop 8=bJ B ++ [aj n]:=by unfold cE;rw [HA (by omega),List.drop_of_length_le (by omega),List.nil_append]
  have e2:bytesOf (((cE S B n).drop 8).take 64)=some B:=by rw [d8,List.take_append_of_le_length (by simp [hBl]),D3 (by simp [hBl])];exact gC hB
  have e3:(cE S B n).drop 72 = [aj n]:=by rw [show 72=8+64 from rfl,<-List.drop_drop,d8,HA (by simp [hBl]),List.drop_of_length_le (by simp [hBl]),List.nil_append]
  have e4:isInt (aj n)=some n:=rfl;unfold s187 ptr;simp only [FM hG,FM hp0,GW,hz,isRow_rk,hp,e1,e2,hBl,Nat.beq_refl,e3,e4];rw [compN_eq hS,BR];rfl
 exact ⟨_,ui (by rw [X187];exact e),au.set hp0 hp (.inr rfl),ae.bO hp0 hp _⟩
end
end Go.Proofs.YtdhpgacmgebjdaaGreatDoor.W
namespace Go.Proofs.YtdhpgacmgebjdaaGreatDoor.W
open Go Go.Abs Tryz
noncomputable section
inductive Kd where
 |u8
 |i (k:IntKind)
 |b
def Kd.has:Kd->Vl->Prop
 | .u8,v => ∃ n:Nat,v = .int .u8 n/\n<256
 | .i k,v => ∃ n:Int,v = .int k n/\(Lit.int k n).wf=true
 | .b,v => ∃ t:Bool,v = .bool t
def Kd.has.cell {k:Kd} {v:Vl} (h:k.has v):bW v=false/\v.oneCell'=true/\flat v=true/\v.cells = #[v]:=by
 cases k with
 |u8=>obtain ⟨n,rfl,_⟩:=h;exact ⟨rfl,rfl,rfl,rfl⟩
 |i k=>obtain ⟨n,rfl,_⟩:=h;exact ⟨rfl,rfl,rfl,rfl⟩
 |b=>obtain ⟨t,rfl⟩:=h;exact ⟨rfl,rfl,rfl,rfl⟩
def ko (ks:List Kd) (cs:List Vl):Prop:=cs.length=ks.length /\ ∀ (j:Nat) (k:Kd),ks[j]? = some k -> ∃ v,cs[j]? = some v/\k.has v
def ko.cell {ks:List Kd} {cs:List Vl} (h:ko ks cs) {j:Nat} {v:Vl} (hv:cs[j]? = some v):bW v=false/\v.oneCell'=true/\flat v=true/\v.cells = #[v]:=by
 have hj:=(DZ.1 hv).1;have hj':j<ks.length:=by rw [<-h.1];exact hj
 obtain ⟨w,hw,hk⟩:=h.2 j _ (DE hj');rw [hv] at hw;cases hw;exact hk.cell
def ko.all {ks:List Kd} {cs:List Vl} (h:ko ks cs):Abs.noHoles cs=true/\aM cs=true/\bD cs=true:=by
 have key : ∀ v∈cs,bW v=false/\v.oneCell'=true/\flat v=true:=fun v hv=>by obtain ⟨j,hj⟩:=H3.1 hv;obtain ⟨a,b,c,_⟩:=h.cell hj;exact ⟨a,b,c⟩
 refine ⟨?_,?_,?_⟩
 ·unfold Abs.noHoles;rw [DQ];exact fun v hv=>by rw [(key v hv).1];rfl
 ·unfold aM;rw [DQ];exact fun v hv=>(key v hv).2.1
 ·unfold bD;rw [DQ];exact fun v hv=>(key v hv).2.2
def iT:List Kd:=List.replicate 32 .u8
def size32:cQ prog 32=some 32:=by kernel_rfl
end
end Go.Proofs.YtdhpgacmgebjdaaGreatDoor.W
namespace Go.Proofs.YtdhpgacmgebjdaaGreatDoor.W
open Go Go.Abs
noncomputable section
def mid {k A B C:List Vl} {p n:Nat} (h:k=A++(B++C)) (hA:A.length=p) (hB:B.length=n):(k.drop p).take n=B:=by subst h hA hB;rw [List.drop_left,IC]
def uv {h:ae} {b p n:Nat} {k A B C:List Vl} (g:h.get b=some k) (e:k=A++(B++C)) (hA:A.length=p) (hB:B.length=n) (nh:Abs.noHoles B=true):bQ n (ptr b p) h=some (.agg B.toArray,h):=by
 have hm:=mid e hA hB;have hl:p+n<=k.length:=by rw [e,DO,DO];omega
 have:=BC g (o:=p) (n:=n) hl (by rw [hm];exact nh);rw [hm] at this;exact this
section
def wb (h:ae) (w:Nat):Option Nat:=match h.get w with
 |some [_,_,v]=>cF v
 |_=>none
def Fr (h:ae) (w b:Nat):Prop:=b<h.next/\b≠w/\wb h w≠some b
end
def I64 (n:Int):Prop := -9223372036854775808<=n/\n<=9223372036854775807
def fO (l:List Nat):Prop:=l.length=32/\uH l
def bT {l:List Nat} (h:fO l):ko iT (bJ l):=by
 refine ⟨by rw [EB];exact h.1,fun j k hk => ?_⟩;have hj:j<32:=by have:=(DZ.1 hk).1;simpa [iT] using this
 unfold iT at hk;rw [HE,DH hj] at hk;cases hk;have hj':j<l.length:=by rw [h.1];exact hj
 exact ⟨_,by rw [D4,DE hj'];rfl,_,rfl,h.2 _ (GP hj')⟩
section
attribute [local congr] ax
def z32:List Nat:=List.replicate 32 0
def ot {A B C B':List Vl} {o n:Nat} (hA:A.length=o) (hB:B.length=n) (hB':B'.length=n):splice (A++(B++C)) o B'=A++(B'++C):=by subst hA;unfold splice;rw [IC,hB',DY,<-hB,<-List.length_append,<-List.append_assoc A B C,List.drop_left]
def i64_0:I64 0:=⟨by decide,by decide⟩
end
end
end Go.Proofs.YtdhpgacmgebjdaaGreatDoor.W
namespace Go.Proofs.YtdhpgacmgebjdaaGreatDoor.W
open Go Go.Abs Tryz
noncomputable section
section
attribute [local congr] ax
def j9 {t n:Nat} (h1:sK prog t=some true) (h2:cQ prog t=some n) (v:Vl) (h:ae):ld prog t v h=bQ n v h:=by unfold ld;rw [h1,h2]
def di {n k:Nat} (hk:k<n) (x:Nat->Vl):(aS n x).getD k undef=x k:=by unfold aS;simp [hk]
def z32_ok:fO z32:=⟨rfl,fun x hx=>by have:=ES hx;omega⟩
end
end
end Go.Proofs.YtdhpgacmgebjdaaGreatDoor.W
namespace Go.Proofs.YtdhpgacmgebjdaaGreatDoor.W
open Go Go.Abs
noncomputable section
section
attribute [local congr] ax
def aN {h:ae} {b n:Nat} {k k':eh} (g:h.get b=some k) (hn:h.n0<=b) (hl:k.length=n) (hl':k'.length=n) (ho:aM k'=true) : ∃ h2,bI n (ptr b 0) (.agg k'.toArray) h=some (undef,h2)/\au h h2 (· = b)/\h2.get b=some k'/\h2.n0<=b/\h2.next=h.next:=
 ⟨_,mT g hn hl hl' ho,au.set hn g (.inr rfl),ae.bO hn g _,hn,rfl⟩
end
section
attribute [local congr] ax
def bA (l:List Nat):Abs.noHoles (bJ l)=true/\aM (bJ l)=true:=by
 refine ⟨?_,?_⟩
 ·unfold Abs.noHoles;rw [DQ];intro v hv;obtain ⟨x,_,rfl⟩:=EZ.1 hv;rfl
 ·unfold aM;rw [DQ];intro v hv;obtain ⟨x,_,rfl⟩:=EZ.1 hv;rfl
def aP {h:ae} {b n:Nat} {k:List Vl} (g:h.get b=some k) (hl:k.length=n) (nh:Abs.noHoles k=true):bQ n (ptr b 0) h=some (.agg k.toArray,h):=uv g (A := []) (B:=k) (C := []) (by simp) rfl hl nh
end
section
attribute [local congr] ax
def gN {h:ae} {b off:Nat} {s:Option Nat} {k A C:List Vl} {l:List Nat} (g:h.get b=some k) (e:k=A++(bJ l++C)) (hA:A.length=off) (hb:uH l):ao (some ⟨b,off,s⟩) l.length h=some l:=by
 unfold ao;rw [DU];refine ⟨bJ l,?_,gC hb⟩;have hm:=mid e hA (show (bJ l).length=l.length from EB ..);have hl:off+l.length<=k.length:=by rw [e,DO,DO,EB,hA];omega
 simp only [firstA,g,FG];by_cases h0:l.length=0
 ·rw [DH h0,EC.1 h0];rfl
 ·rw [DL h0,hm,DH ⟨hl,(bA l).1⟩]
end
section
attribute [local congr] ax
end
def pV (ks:List Kd) (n:Nat) (cs:List Vl):Prop:=cs.length=n*ks.length /\ ∀ i,i<n->ko ks ((cs.drop (i*ks.length)).take ks.length)
def nC (h:ae) (ks:List Kd) (v:Vl) (n:Nat) (cs:List Vl):Prop:=
 ∃ a c,v = .slice a n c/\(a=none->n=0)/\pV ks n cs/\(0<n -> ∃ b off s k,a=some ⟨b,off,s⟩/\h.get b=some k/\off+n*ks.length<=k.length/\(k.drop off).take (n*ks.length)=cs)
def zK:Vl->Option Nat
 | .slice (some a) (_+1) _=>some a.block
 |_=>none
section
attribute [local congr] ax
end
section
attribute [local congr] ax
end
section
attribute [local congr] ax
section
variable {h h1:ae} {a:Option Addr} {n c:Nat} {l:List Nat} {y:Nat->Vl}
end
end
section
attribute [local congr] ax
def compS_len {S:List (BitVec 32)} {B:List Nat} (h:S.length=8):(my S B).length=8:=by unfold my addS;rw [List.length_zipWith,h];rfl
end
end
end Go.Proofs.YtdhpgacmgebjdaaGreatDoor.W
namespace Go.Proofs.YtdhpgacmgebjdaaGreatDoor.W
open Go Go.Abs Tryz
noncomputable section
section
attribute [local congr] ax
structure HD where
 S:List (BitVec 32)
 B:List Nat
 n:Nat
structure HD.Ok (s:HD):Prop where
 S:s.S.length=8
 B:s.B.length=64
 by_:uH s.B
abbrev HD.cells (s:HD):List Vl:=cE s.S s.B s.n
def HD.put (s:HD) (l:List Nat):HD:=
 let at_:=s.n%64
 let k:=min l.length (64-at_)
 let B:=s.B.take at_++(l.take k++s.B.drop (at_+k))
 ⟨if at_+k=64 then my s.S B else s.S,B,s.n+k⟩
def HD.wrN:Nat->HD->List Nat->HD
 | 0,s,_=>s
 |f+1,s,l=>if l = [] then s else HD.wrN f (s.put l) (l.drop (min l.length (64-s.n%64)))
def HD.wr (s:HD) (l:List Nat):HD:=HD.wrN l.length s l
def HD.wrN_le : ∀ (f g:Nat) (s:HD) (l:List Nat),l.length<=f->l.length<=g->HD.wrN f s l=HD.wrN g s l
 | 0,0,_,_,_,_=>rfl
 | 0,g+1,s,l,h,_=>by have:l = []:=EC.1 (by omega);rw [HD.wrN,HD.wrN,DH this]
 |f+1,0,s,l,_,h=>by have:l = []:=EC.1 (by omega);rw [HD.wrN,HD.wrN,DH this]
 |f+1,g+1,s,l,h1,h2=>by
  rw [HD.wrN,HD.wrN];by_cases e:l = []
  ·rw [DH e,DH e]
  ·rw [DL e,DL e];have hp:0<l.length:=List.length_pos_iff.2 e;have hm:s.n%64<64:=HW _ (by decide);exact HD.wrN_le f g _ _ (by rw [F9];omega) (by rw [F9];omega)
def HD.wr_nil (s:HD):s.wr []=s:=rfl
def HD.wr_put (s:HD) {l:List Nat} (h:l ≠ []):s.wr l=(s.put l).wr (l.drop (min l.length (64-s.n%64))):=by
 unfold HD.wr;have hp:0<l.length:=List.length_pos_iff.2 h;obtain ⟨f,hf⟩ : ∃ f,l.length=f+1:=⟨l.length-1,by omega⟩
 rw [hf,HD.wrN,DL h,hf];have hm:s.n%64<64:=HW _ (by decide);exact HD.wrN_le _ _ _ _ (by rw [F9];omega) (DG _)
def HD.put_ok {s:HD} (o:s.Ok) {l:List Nat} (hl:uH l):(s.put l).Ok:=by
 have hm:s.n%64<64:=HW _ (by decide);unfold HD.put;refine ⟨?_,?_,?_⟩
 ·simp only;split
  ·exact compS_len o.S
  ·exact o.S
 ·simp only [DO,E8,F9,o.B];omega
 ·intro x hx;simp only [D8] at hx;rcases hx with hx|hx|hx
  ·exact o.by_ x (D6 hx)
  ·exact hl x (D6 hx)
  ·exact o.by_ x (EO hx)
def arr64 {p i:Nat} (h:i<64):sliceArr 64 1 (ptr p 8) (some (aj i)) none none=some (.slice (some ⟨p,8+i,none⟩) (64-i) (64-i)):=by
 have b1:boundA 64 64 (none:Option Vl)=some 64:=rfl;have b2:boundA 0 64 (some (aj i))=some i:=by unfold boundA aj;simp only;rw [DH (by omega),Int.toNat_natCast]
 unfold sliceArr;simp only [boundsA,b1,b2];show some (Value.slice (some ⟨p,if 64=i then 8 else 8+i*1,none⟩) (64-i) (64-i))=_;rw [DL (by omega),FG]
def copy_min {h:ae} {b off dn dc c n k:Nat} {s:Option Nat} {a:Option Addr} {A B C:List Vl} {l:List Nat} (g:h.get b=some (A++(B++C))) (h0:h.n0<=b) (hA:A.length=off) (hB:B.length=k) (hs:ao a n h=some l) (hk:k=min n dn) (hk0:0<k) :
  ∃ g',js 1 (.slice (some ⟨b,off,s⟩) dn dc) (.slice a n c) h=some (aj k,g')/\au h g' (· = b)/\g'.get b=some (A++(bJ (l.take k)++C))/\g'.next=h.next:=by
 obtain ⟨hl,hb,_⟩:=ay hs;have hf:=mR hs (show k<=n by omega) (c:=c);have hlk:(l.take k).length=k:=by rw [E8];omega
 have hsp:splice (A++(B++C)) off (bJ (l.take k))=A++(bJ (l.take k)++C):=ot hA hB (by rw [EB];exact hlk);refine ⟨h.set b (A++(bJ (l.take k)++C)),?_,au.set h0 g (.inr rfl),ae.bO h0 g _,rfl⟩;unfold js;simp only [uq];rw [<-hk,hf];simp only;rw [DL (by omega)];unfold stL;simp only [g];rw [DH (by
  have h1:off+(bJ (l.take k)).length<=(A++(B++C)).length:=by rw [DO,DO,EB,hA,hB];omega
  simp only [DN h0,DN h1,(bA (l.take k)).2,GW]),hsp]
 rfl
def is130:bE prog 130 f130 := .of (by kernel_rfl)
def results130:f130.results.toList = []:=by kernel_rfl
def eql234 (b o:Nat):aA prog .eql 234 (ptr b o) (.pointer none)=some (.bool false):=by kernel_rfl
end
section
attribute [local congr] ax
def u8s_split {B:List Nat} {i k:Nat}:bJ B=bJ (B.take i)++(bJ ((B.drop i).take k)++bJ (B.drop (i+k))):=by
 show B.map u8=(B.take i).map u8++(((B.drop i).take k).map u8++(B.drop (i+k)).map u8)
 rw [<-List.map_append,<-List.map_append,<-List.drop_drop,HN,HN]
set_option maxRecDepth 100000 in
def r130 {h:ae} (hG:3<=h.n0) (hz:h.get 1=some cP) {p:Nat} {s:HD} (o:s.Ok) (hp:h.get p=some s.cells) (hp0:h.n0<=p) {a:Option Addr} {n c:Nat} {l:List Nat} (hl:ao a n h=some l) (hg:0<n->cw a n c=true) (ha : ∀ y,a=some y->0<n -> ¬y.block=p) (hfit:s.n+n<=1000000) :
  ∃ h',CD 130 [ptr p 0,.slice a n c] h=some (.tuple #[],h')/\au h h' (· = p)/\h'.get p=some (s.wr l).cells/\(s.wr l).Ok/\(s.wr l).n=s.n+n:=by
 have hlen0:l.length=n:=(ay hl).1;have h3p : ¬1=p:=by have:=h.aL hp;intro e;omega
 have key : ∃ o:aY,t130 CD (ptr p 0) (.slice a n c) h=o /\ ∃ h',o=some (.tuple #[],h')/\au h h' (· = p)/\h'.get p=some (s.wr l).cells/\(s.wr l).Ok/\(s.wr l).n=s.n+n:=by
  refine ⟨_,rfl,?_⟩;unfold t130;simp -implicitDefEqProofs only [eql234,af,ak];refine cH (n:=40) (fin:=fun ex _ g=>ex = .exit 0/\au h g (· = p)/\g.get p=some (s.wr l).cells/\(s.wr l).Ok/\(s.wr l).n=s.n+n) (Q:=fun o:aY => ∃ h',o=some (.tuple #[],h')/\au h h' (· = p)/\h'.get p=some (s.wr l).cells/\(s.wr l).Ok/\(s.wr l).n=s.n+n)
   (bL (zj CD) (Inv:=fun k y g => ∃ (s':HD) (a':Option Addr) (n' c':Nat) (l':List Nat),n'=k/\y 0=ptr p 0/\y 1 = .slice a' n' c'/\ao a' n' g=some l'/\(0<n'->cw a' n' c'=true)/\(∀ y,a'=some y->0<n' -> ¬y.block=p)/\s'.Ok/\g.get p=some s'.cells/\au h g (· = p)/\s'.wr l'=s.wr l/\s'.n+n'=s.n+n) ?_ n (by have:az=18446744073709551616:=rfl;omega) ⟨s,a,n,c,l,rfl,rfl,rfl,hl,hg,ha,o,hp,au.refl _ _,rfl,rfl⟩) ?_
  ·rintro k y g ⟨s',a',n',c',l',rfl,y0,y1,sl',hg',ha',o',gp,K,hw,hn⟩;unfold pf;have hll:cg (.slice a' n' c')=some (aj n'):=rfl;have hgt:aA prog .gtr 3 (aj n') (.int .i64 0)=some (.bool (decide (0<n'))):=by
    unfold aj;rw [dD]
    congr 2
    rw [GH];omega
   have hlen:l'.length=n':=(ay sl').1;have hby:uH l':=(ay sl').2.1;simp -implicitDefEqProofs only [y1,hll,hgt,af,ak];by_cases hpos:0<n'
   ·have hm:s'.n%64<64:=HW _ (by decide);generalize hat:s'.n%64=at_ at *;generalize hk:min n' (64-at_)=k;have hkp:0<k:=by omega
    have hp0g:g.n0<=p:=by rw [K.n0];exact hp0
    have l72:ld1 (ptr p 72) g=some (aj s'.n,g):=aH gp (by unfold HD.cells cE;rw [DX (by simp [o'.S]),DX (by simp [o'.S,o'.B])];simp [o'.S,o'.B]) rfl
    have hrem:aA prog .rem 3 (aj s'.n) (.int .i64 64)=some (aj at_):=by unfold aj;rw [Co prog 3 .i64 _ 64 (by decide),<-hat];rfl
    have gp1:g.get p=some ((AV s'.S++bJ (s'.B.take at_))++(bJ ((s'.B.drop at_).take k)++(bJ (s'.B.drop (at_+k)) ++ [aj s'.n]))):=by rw [gp];unfold HD.cells cE;rw [u8s_split (B:=s'.B) (i:=at_) (k:=k)];simp only [DY]
    obtain ⟨g2,e2,k2,G2,n2⟩:=copy_min (s:=none) (dn:=64-at_) (dc:=64-at_) (c:=c') (k:=k) (off:=8+at_) gp1 hp0g (by simp [o'.S,o'.B];omega) (by simp [o'.B];omega) sl' hk.symm hkp;have ll72:ld1 (ptr p 72) g2=some (aj s'.n,g2):=aH G2 (by
     rw [DX (by simp [o'.S,o'.B];omega),DX (by simp [o'.S,o'.B];omega),DX (by simp [o'.S,o'.B];omega)];have:72-(AV s'.S++bJ (List.take at_ s'.B)).length-(bJ (List.take k l')).length-(bJ (List.drop (at_+k) s'.B)).length=0:=by simp [o'.S,o'.B];omega
     rw [this];rfl) rfl
    have hadd:aA prog .add 3 (aj s'.n) (aj k)=some (aj (s'.n+k)):=by unfold aj;rw [eR,show (s'.n:Int)+(k:Int)=((s'.n+k:Nat):Int) by omega,bf (by omega) (by omega)]
    have hadd2:aA prog .add 3 (aj at_) (aj k)=some (aj (at_+k)):=by unfold aj;rw [eR,show (at_:Int)+(k:Int)=((at_+k:Nat):Int) by omega,bf (by omega) (by omega)]
    have hp2:g2.n0<=p:=by rw [k2.n0];exact hp0g
    obtain ⟨g3,e3,k3,G3,_,n3⟩:=dr (o:=72) (v:=aj (s'.n+k)) G2 hp2 (by simp [o'.S,o'.B];omega) rfl rfl;have hBn:((s'.put l').B)=s'.B.take at_++(l'.take k++s'.B.drop (at_+k)):=by unfold HD.put;simp only [hat,hlen,hk]
    have hnn:(s'.put l').n=s'.n+k:=by unfold HD.put;simp only [hat,hlen,hk]
    have G3':g3.get p=some (cE s'.S (s'.put l').B (s'.put l').n):=by
     rw [G3,hBn,hnn];unfold cE;have e1:((AV s'.S++bJ (s'.B.take at_))++(bJ (l'.take k)++(bJ (s'.B.drop (at_+k)) ++ [aj s'.n])))=((AV s'.S++bJ (s'.B.take at_))++(bJ (l'.take k)++bJ (s'.B.drop (at_+k)))) ++ [aj s'.n]:=by simp only [DY]
     rw [e1,wY (A:=(AV s'.S++bJ (s'.B.take at_))++(bJ (l'.take k)++bJ (s'.B.drop (at_+k)))) (B' := [aj (s'.n+k)]) 0 (by simp [o'.S,o'.B];omega) rfl];simp only [GA,DY]
    have sl3:ao a' n' g3=some l':=(k2.trans k3).bytes sl' ha';obtain ⟨a2,c2,es,ss,gs,bs⟩:=sR (vl:=some (aj k)) (vh:=none) (lo:=k) (hi:=n') (hg' hpos) sl3 (by omega) (DG _) rfl (by unfold boundA aj;simp only;rw [DH (by omega),Int.toNat_natCast])
    have hss:((l'.drop k).take (n'-k))=l'.drop k:=D3 (by rw [F9];omega);rw [hss] at ss;have hwr:(s'.put l').wr (l'.drop k)=s.wr l:=by rw [<-hw,HD.wr_put s' (l:=l') (fun e=>by rw [e] at hlen;simp at hlen;omega),hat,hlen,hk]
    have ok2:=HD.put_ok o' hby;have ha2 : ∀ y,a2=some y->0<n'-k -> ¬y.block=p:=fun y hy _ e=>by obtain ⟨y0,h1,h2⟩:=bs y hy;exact ha' y0 h1 hpos (h2.trans e)
    have K3:au h g3 (· = p):=(K.trans k2).trans k3;by_cases hc:at_+k=64
    ·have hceq:aA prog .eql 3 (aj (at_+k)) (.int .i64 64)=some (.bool true):=by unfold aj;rw [eQ,hc];rfl
     have hg3:3<=g3.n0:=by rw [K3.n0];exact hG
     obtain ⟨g4,e4,k4,G4⟩:=r187 hg3 (au.getE K3 hz h3p) (p:=p) o'.S ok2.B ok2.by_ G3' (by rw [K3.n0];exact hp0);have hS:(s'.put l').S=my s'.S (s'.put l').B:=by unfold HD.put;simp only [hat,hlen,hk];rw [DH hc]
     rw [<-hS] at G4;simp -implicitDefEqProofs only [DN hpos,y0,av,aw,DC,l72,hrem,arr64 hm,e2,ll72,hadd,e3,es,hadd2,hceq,e4,af,ak];exact dE.next (n'-k) (by omega) ⟨s'.put l',a2,n'-k,c2,l'.drop k,rfl,y0,rfl,k4.bytes ss ha2,fun _=>gs,ha2,ok2,G4,K3.trans k4,hwr,by rw [hnn];omega⟩
    ·have hceq:aA prog .eql 3 (aj (at_+k)) (.int .i64 64)=some (.bool false):=by
      unfold aj;rw [eQ]
      congr 2
      simp only [GS,ne_eq];omega
     have hS:(s'.put l').S=s'.S:=by unfold HD.put;simp only [hat,hlen,hk];rw [DL hc]
     rw [<-hS] at G3';simp -implicitDefEqProofs only [DN hpos,y0,av,aw,DC,l72,hrem,arr64 hm,e2,ll72,hadd,e3,es,hadd2,hceq,af,ak];exact dE.next (n'-k) (by omega) ⟨s'.put l',a2,n'-k,c2,l'.drop k,rfl,y0,rfl,ss,fun _=>gs,ha2,ok2,G3',K3,hwr,by rw [hnn];omega⟩
   ·have h0:n'=0:=by omega
    subst h0;have:l' = []:=EC.1 hlen;subst this;simp -implicitDefEqProofs only [DW hpos,af,ak];rw [HD.wr_nil] at hw;refine dE.out 0 ⟨rfl,K,by rw [<-hw];exact gp,by rw [<-hw];exact o',by rw [<-hw];omega⟩
  ·rintro _ y g ⟨rfl,K,G,O,N⟩;simp -implicitDefEqProofs only [bh,b130_2,DV];rw [results130];exact ⟨g,rfl,K,G,O,N⟩
 obtain ⟨o1,e,h',e',r⟩:=key;exact ⟨h',aI is130 rfl ((t130_eq _ _ _ _).trans (e.trans e')),r⟩
end
section
attribute [local congr] ax
def wk (N v:Nat):Nat->List Nat
 | 0=>128::List.replicate 71 0
 |j+1=>(wk N v j).set (N+j) (v/2^(56-8*j)%256)
def padOf (n:Nat):List Nat:=(wk (64-(n+8)%64) (n*8) 8).take (64-(n+8)%64+8)
def vQ (S:List (BitVec 32)):Nat->List Nat
 | 0=>List.replicate 32 0
 |j+1=>(vQ S j).set j ((S.getD (j/4) 0).toNat/2^(24-8*(j%4))%256)
def HD.sum (s:HD):List Nat:=vQ (s.wr (padOf s.n)).S 32
def tB (N v:Nat) : ∀ j,(wk N v j).length=72
 | 0=>rfl
 |j+1=>by rw [wk,GF,tB N v j]
def ye (S:List (BitVec 32)) : ∀ j,(vQ S j).length=32
 | 0=>rfl
 |j+1=>by rw [vQ,GF,ye S j]
def bys_set {l:List Nat} (h:uH l) (i:Nat) {x:Nat} (hx:x<256):uH (l.set i x):=fun y hy=>by
 rcases GO hy with h1|h1
 ·exact h y h1
 ·omega
def padT_bys (N v:Nat) : ∀ j,uH (wk N v j)
 | 0=>fun x hx=>by
   have hx:x∈128::List.replicate 71 0:=hx;rcases ER.1 hx with h|h
   ·omega
   ·have:=ES h;omega
 |j+1=>bys_set (padT_bys N v j) _ (HW _ (by decide))
def digT_bys (S:List (BitVec 32)) : ∀ j,uH (vQ S j)
 | 0=>fun x hx=>by have:=ES (show x∈List.replicate 32 0 from hx);omega
 |j+1=>bys_set (digT_bys S j) _ (HW _ (by decide))
def tT (s:HD):fO s.sum:=⟨ye _ 32,digT_bys _ 32⟩
def words_ok (l:List (BitVec 32)):Abs.noHoles (AV l)=true/\aM (AV l)=true:=by
 induction l with
 |nil=>exact ⟨rfl,rfl⟩
 |cons x l ih=>exact ⟨ih.1,ih.2⟩
def hash_ok (s:HD):Abs.noHoles s.cells=true/\aM s.cells=true:=by have a:=words_ok s.S;unfold HD.cells cE;exact ⟨lB _ _ a.1 (lB _ _ (iL _) rfl),ke _ _ a.2 (ke _ _ (xp _) rfl)⟩
def sum1 {h:ae} {b N v:Nat} (hN:N<=64) (hv:v<18446744073709551616) (hb:h.n0<=b) (hw:h.get b=some (bJ (wk N v 0))) {p2 p3:Vl}
  {x:Nat->Vl} (x2:x 2=p2) (x3:x 3=p3) (x4:x 4=ptr b 0) (x5:x 5=aj N) (x6:x 6 = .int .u64 (v:Int)) (x30:x 30=aj 0) :
  Fin 66 (fun ex y g=>ex = .exit 0/\y 2=p2/\y 3=p3/\y 4=ptr b 0/\y 5=aj N/\au h g (· = b)/\g.get b=some (bJ (wk N v 8))/\g.next=h.next) (iter (codeA prog CD (aq f131 [1,1,1,1,1,1,1,0,1,0,0])) az (aS 66 x) h):=by
 refine bL (nP CD) (Inv:=fun k y g => ∃ j,j+k=8/\y 2=p2/\y 3=p3/\y 4=ptr b 0/\y 5=aj N/\y 6 = .int .u64 (v:Int)/\y 30=aj j/\au h g (· = b)/\g.get b=some (bJ (wk N v j))/\g.next=h.next) ?_ 8 (by have:az=18446744073709551616:=rfl;omega) ⟨0,DC _,x2,x3,x4,x5,x6,x30,au.refl _ _,hw,rfl⟩;rintro k y g ⟨j,hjk,y2,y3,y4,y5,y6,y30,K,gw,gn⟩;unfold iu;have l8:aA prog .lss 3 (aj j) (.int .i64 8)=some (.bool (decide (j<8))):=gS j 8;simp -implicitDefEqProofs only [y30,l8,af,ak];by_cases hj:j<8
 ·have a1:aA prog .add 3 (aj N) (aj j)=some (aj (N+j)):=addc (c:=j) (by omega);have m1:aA prog .mul 3 (.int .i64 8) (aj j)=some (aj (8*j)):=by unfold aj;rw [jM,show (8:Int)*(j:Int)=((8*j:Nat):Int) by omega,bf (by omega) (by omega)]
  have s1:aA prog .sub 3 (.int .i64 56) (aj (8*j))=some (aj (56-8*j)):=by unfold aj;rw [gR,show (56:Int)-((8*j:Nat):Int)=((56-8*j:Nat):Int) by omega,bf (by omega) (by omega)]
  have r1:aA prog .shr 52 (.int .u64 (v:Int)) (aj (56-8*j))=some (.int .u64 ((v/2^(56-8*j):Nat):Int)):=dG prog 52 (by show 56-8*j<=64;omega);have c1:iQ .u8 (.int .u64 ((v/2^(56-8*j):Nat):Int)) g=some (u8 (v/2^(56-8*j)%256),g):=by rw [bY,fZ];rfl
  have ix:idxA 72 1 (ptr b 0) (aj (N+j))=some (ptr b (N+j)):=by rw [oT (by omega),DC]
  obtain ⟨g2,e2,k2,t2,_,n2⟩:=dr (o:=N+j) (v:=u8 (v/2^(56-8*j)%256)) gw (by rw [K.n0];exact hb) (by rw [EB,tB];omega) rfl rfl;simp -implicitDefEqProofs only [DN hj,y4,y5,y6,y30,a1,m1,s1,r1,c1,ix,e2,eW (show j+1<=9223372036854775807 by omega),af,ak];refine dE.next (k-1) (by omega) ⟨j+1,by omega,y2,y3,y4,y5,y6,rfl,K.trans k2,?_,n2.trans gn⟩;rw [t2,wk];show some ((List.map u8 (wk N v j)).set (N+j) (u8 (v/2^(56-8*j)%256)))=some (List.map u8 ((wk N v j).set (N+j) (v/2^(56-8*j)%256)));rw [HF]
 ·have:j=8:=by omega
  subst this;simp -implicitDefEqProofs only [DW hj,af,ak];exact dE.out 0 ⟨rfl,y2,y3,y4,y5,K,gw,gn⟩
def sum2 {h:ae} {b p:Nat} {S:List (BitVec 32)} {B:List Nat} {n:Nat} (hS:S.length=8) (hp:h.get p=some (cE S B n)) (hpb:p≠b) (hb:h.n0<=b) (hw:h.get b=some (bJ (vQ S 0))) {p2:Vl}
  {x:Nat->Vl} (x2:x 2=p2) (x3:x 3=ptr p 0) (x8:x 8=ptr b 0) (x48:x 48=aj 0) :
  Fin 66 (fun ex y g=>ex = .exit 2/\y 2=p2/\y 8=ptr b 0/\au h g (· = b)/\g.get b=some (bJ (vQ S 32))/\g.next=h.next) (iter (codeA prog CD (aq f131 [1,1,1,1,1,1,1,1,1,1,0,1,0,0])) az (aS 66 x) h):=by
 refine bL (ma CD) (Inv:=fun k y g => ∃ j,j+k=32/\y 2=p2/\y 3=ptr p 0/\y 8=ptr b 0/\y 48=aj j/\au h g (· = b)/\g.get b=some (bJ (vQ S j))/\g.next=h.next) ?_ 32 (by have:az=18446744073709551616:=rfl;omega) ⟨0,DC _,x2,x3,x8,x48,au.refl _ _,hw,rfl⟩;rintro k y g ⟨j,hjk,y2,y3,y8,y48,K,gw,gn⟩;unfold fB;have l32:aA prog .lss 3 (aj j) (.int .i64 32)=some (.bool (decide (j<32))):=gS j 32;simp -implicitDefEqProofs only [y48,l32,af,ak];by_cases hj:j<32
 ·have q1:aA prog .quo 3 (aj j) (.int .i64 4)=some (aj (j/4)):=by unfold aj;rw [w8 prog 3 .i64 _ 4 (by decide),show Int.tdiv (j:Int) 4=((j/4:Nat):Int) from rfl,bf (by omega) (by omega)]
  have r1:aA prog .rem 3 (aj j) (.int .i64 4)=some (aj (j%4)):=by unfold aj;rw [Co prog 3 .i64 _ 4 (by decide)];rfl
  have m1:aA prog .mul 3 (.int .i64 8) (aj (j%4))=some (aj (8*(j%4))):=by unfold aj;rw [jM,show (8:Int)*((j%4:Nat):Int)=((8*(j%4):Nat):Int) by omega,bf (by omega) (by omega)]
  have s1:aA prog .sub 3 (.int .i64 24) (aj (8*(j%4)))=some (aj (24-8*(j%4))):=by unfold aj;rw [gR,show (24:Int)-((8*(j%4):Nat):Int)=((24-8*(j%4):Nat):Int) by omega,bf (by omega) (by omega)]
  have gp:g.get p=some (cE S B n):=au.getE K hp hpb;have lp:ld1 (ptr p (j/4)) g=some (wv (S.getD (j/4) 0),g):=aH gp (uD (by omega)) rfl;have ixp:idxA 8 1 (ptr p 0) (aj (j/4))=some (ptr p (j/4)):=by rw [oT (by omega),DC]
  have ixb:idxA 32 1 (ptr b 0) (aj j)=some (ptr b j):=by rw [oT hj,DC]
  have sh:aA prog .shr 186 (wv (S.getD (j/4) 0)) (aj (24-8*(j%4)))=some (.int .u32 (((S.getD (j/4) 0).toNat/2^(24-8*(j%4)):Nat):Int)):=dG prog 186 (by show 24-8*(j%4)<=32;omega);have c1:iQ .u8 (.int .u32 (((S.getD (j/4) 0).toNat/2^(24-8*(j%4)):Nat):Int)) g=some (u8 ((S.getD (j/4) 0).toNat/2^(24-8*(j%4))%256),g):=by rw [bY,fZ];rfl
  obtain ⟨g2,e2,k2,t2,_,n2⟩:=dr (o:=j) (v:=u8 ((S.getD (j/4) 0).toNat/2^(24-8*(j%4))%256)) gw (by rw [K.n0];exact hb) (by rw [EB,ye];omega) rfl rfl;simp -implicitDefEqProofs only [DN hj,y3,y8,y48,q1,r1,m1,s1,aw,DC,ixp,lp,sh,c1,ixb,e2,eW (show j+1<=9223372036854775807 by omega),af,ak];refine dE.next (k-1) (by omega) ⟨j+1,by omega,y2,y3,y8,rfl,K.trans k2,?_,n2.trans gn⟩;rw [t2,vQ];show some ((List.map u8 (vQ S j)).set j (u8 ((S.getD (j/4) 0).toNat/2^(24-8*(j%4))%256)))=some (List.map u8 ((vQ S j).set j ((S.getD (j/4) 0).toNat/2^(24-8*(j%4))%256)));rw [HF]
 ·have:j=32:=by omega
  subst this;simp -implicitDefEqProofs only [DW hj,af,ak];exact dE.out 2 ⟨rfl,y2,y8,K,gw,gn⟩
abbrev zHash:List Vl:=zlit2
end
section
attribute [local congr] ax
def nr {rs:List ResultVar} {n k t z:Nat} (hr:rs = [.cell k t]) (h1:sK prog t=some true) (h2:cQ prog t=some z) (hk:k<n) (x:Nat->Vl) {h:ae} {v:Vl} (e:bQ z (x k) h=some (v,h)):resultsA prog rs (aS n x) h=some (v,h):=by subst hr;simp only [resultsA,dy,di hk,j9 h1 h2,e];rfl
end
section
attribute [local congr] ax
def yX:sK prog 32=some true:=by kernel_rfl
def AF {l:List Nat} (h:fO l):(bJ l).length=32/\Abs.noHoles (bJ l)=true/\aM (bJ l)=true:=by have t:=bT h;exact ⟨t.1,t.all.1,t.all.2.1⟩
end
section
attribute [local congr] ax
def is131:bE prog 131 f131 := .of (by kernel_rfl)
def results131:f131.results.toList = [.cell 2 32]:=by kernel_rfl
set_option maxRecDepth 100000 in
def r131 {h:ae} (hG:3<=h.n0) (hz:h.get 1=some cP) {p:Nat} {s:HD} (o:s.Ok) (hp:h.get p=some s.cells) (hn:s.n<=100000) :
  ∃ h',CD 131 [ptr p 0] h=some (.agg (bJ s.sum).toArray,h')/\aK h h':=by
 have hplt:=h.aL hp;have clen:s.cells.length=73:=by show (cE s.S s.B s.n).length=73;rw [hash_len,o.S,o.B]
 have hok:=hash_ok s;obtain ⟨h1,z1,o1,g1,n1⟩:=fresh (List.replicate 32 (.int .u8 0)) h;have L1:=aP (n:=73) (aK.get o1 hp) clen hok.1;obtain ⟨h2,z2,o2,g2,n2⟩:=fresh zHash h1;obtain ⟨h3,e3,k3,g3,_,n3⟩:=aN (n:=73) (k':=s.cells) g2 (by rw [o2.n0];exact h1.n0_le_next) rfl clen hok.2;have o3:aK h1 h3:=aK.bB o2 k3 (DG _);obtain ⟨h4,z4,o4,g4,n4⟩:=fresh (List.replicate 72 (.int .u8 0)) h3;have hp4:h4.n0<=h3.next:=by rw [o4.n0];exact h3.n0_le_next
 have ix0:idxA 72 1 (ptr h3.next 0) (.int .i64 0)=some (ptr h3.next 0):=by have:=oT (N:=72) (b:=h3.next) (o:=0) (i:=0) (by decide);exact this
 obtain ⟨h5,e5,k5,g5,_,n5⟩:=dr (o:=0) (v := .int .u8 128) g4 hp4 (by decide) rfl rfl;have o5:aK h3 h5:=aK.bB o4 k5 (DG _);have O5:aK h h5:=(o1.trans o3).trans o5;have l72:ld1 (ptr p 72) h5=some (aj s.n,h5):=aH (aK.get O5 hp) (by show (cE s.S s.B s.n)[72]? = _;unfold cE;rw [DX (by simp [o.S]),DX (by simp [o.S,o.B])];simp [o.S,o.B]) rfl
 have a8:aA prog .add 3 (aj s.n) (.int .i64 8)=some (aj (s.n+8)):=by unfold aj;rw [eR,show (s.n:Int)+8=((s.n+8:Nat):Int) by omega,bf (by omega) (by omega)]
 have rm:aA prog .rem 3 (aj (s.n+8)) (.int .i64 64)=some (aj ((s.n+8)%64)):=by unfold aj;rw [Co prog 3 .i64 _ 64 (by decide)];rfl
 have hm:(s.n+8)%64<64:=HW _ (by decide);have sb:aA prog .sub 3 (.int .i64 64) (aj ((s.n+8)%64))=some (aj (64-(s.n+8)%64)):=by unfold aj;rw [gR,show (64:Int)-(((s.n+8)%64:Nat):Int)=((64-(s.n+8)%64:Nat):Int) by omega,bf (by omega) (by omega)]
 have cu:iQ .u64 (aj s.n) h5=some (.int .u64 (s.n:Int),h5):=by unfold aj;rw [bY,jk (by omega) (by omega)]
 have ml:aA prog .mul 52 (.int .u64 (s.n:Int)) (.int .u64 8)=some (.int .u64 ((s.n*8:Nat):Int)):=by rw [jM,show (s.n:Int)*8=((s.n*8:Nat):Int) by omega,jk (by omega) (by omega)]
 have hpad:padOf s.n=(wk (64-(s.n+8)%64) (s.n*8) 8).take (64-(s.n+8)%64+8):=rfl;have hplen:(padOf s.n).length=64-(s.n+8)%64+8:=by rw [hpad,E8,tB];omega
 have hsum:s.sum=vQ (s.wr (padOf s.n)).S 32:=rfl;generalize hNN:64-(s.n+8)%64=N at *;have hN:N<=64:=by omega
 have hp5:h5.n0<=h3.next:=by rw [k5.n0];exact hp4
 have key : ∃ o:aY,t131 CD (ptr p 0) h=o /\ ∃ h',o=some (.agg (bJ s.sum).toArray,h')/\aK h h':=by
  refine ⟨_,rfl,?_⟩;unfold t131;simp -implicitDefEqProofs only [z1,eql234,av,L1,z2,e3,z4,ix0,e5,aw,DC,l72,a8,rm,sb,cu,ml,af,ak];refine cH (Q:=fun o:aY => ∃ h',o=some (.agg (bJ s.sum).toArray,h')/\aK h h') (sum1 (N:=N) (v:=s.n*8) hN (by omega) hp5 g5 (p2:=ptr h.next 0) (p3:=ptr h1.next 0) rfl rfl rfl rfl rfl rfl) ?_;rintro _ y g6 ⟨rfl,y2,y3,y4,y5,K6,G6,N6⟩;simp -implicitDefEqProofs only [bh,b131_11,DV,Ak];unfold rY;have O6:aK h3 g6:=o5.also K6 (fun d hd e=>by omega);have OO6:aK h g6:=(o1.trans o3).trans O6;have b8:aA prog .add 3 (aj N) (.int .i64 8)=some (aj (N+8)):=addc (c:=8) (by omega);have sa:sliceArr 72 1 (ptr h3.next 0) none (some (aj (N+8))) none=some (.slice (some ⟨h3.next,0,none⟩) (N+8) 72):=by
   have b1:boundA 72 72 (some (aj (N+8)))=some (N+8):=by unfold boundA aj;simp only;rw [DH (by omega),Int.toNat_natCast]
   unfold sliceArr;have b2:boundA 72 72 (none:Option Vl)=some 72:=rfl;have b3:boundA 0 (N+8) (none:Option Vl)=some 0:=rfl;simp only [boundsA,b1,b2,b3];show some (Value.slice (some ⟨h3.next,if 72=0 then 0 else 0+0*1,none⟩) (N+8-0) (72-0))=_;rw [DL (by decide)];rfl
  have sl:=eT (off:=0) (n:=N+8) (s:=none) G6 (by rw [tB];omega) (padT_bys _ _ _);rw [FO,<-hpad] at sl;have hg6:3<=g6.n0:=by rw [OO6.n0];exact hG
  have G3:g6.get h1.next=some s.cells:=aK.get O6 g3;obtain ⟨h7,e7,k7,g7,w7,m7⟩:=r130 (h:=g6) hg6 (aK.get OO6 hz) (p:=h1.next) (s:=s) o G3 (by rw [OO6.n0];have:=h.n0_le_next;omega) (c:=72) sl (fun _=>by unfold cw;rw [FM (show N+8<=72 by omega)];rfl) (fun y hy _ e=>by cases hy;have:h3.next=h1.next:=e;omega) (by omega)
  obtain ⟨h8,z8,o8,g8,n8⟩:=fresh (List.replicate 32 (.int .u8 0)) h7;have m6:=O6.next;have q7:=k7.next;simp -implicitDefEqProofs only [y5,b8,y4,sa,y3,e7,z8,af,ak];refine cH (Q:=fun o:aY => ∃ h',o=some (.agg (bJ s.sum).toArray,h')/\aK h h') (sum2 (p:=h1.next) (b:=h7.next) w7.S (aK.get o8 g7) (by have:=h7.aL g7;omega) (by rw [o8.n0];exact h7.n0_le_next) g8 (p2:=ptr h.next 0) y2 y3 rfl rfl) ?_;rintro _ y' g9 ⟨rfl,y2',y8',K9,G9,N9⟩;simp -implicitDefEqProofs only [bh,b131_16,DV,yS];unfold qy;have dc:=AF (tT s);rw [<-hsum] at G9;have L9:=aP G9 dc.1 dc.2.1;have O7:aK h h7:=aK.bB OO6 k7 (by omega);have O9:aK h g9:=(O7.trans o8).also K9 (fun d hd e=>by have:=O7.next;omega);have g1':g9.get h.next=some (List.replicate 32 (.int .u8 0)):=by have e1:h3.get h.next=some (List.replicate 32 (.int .u8 0)):=aK.get o3 g1;have e6:g6.get h.next=some (List.replicate 32 (.int .u8 0)):=aK.get O6 e1;have e7':h7.get h.next=some (List.replicate 32 (.int .u8 0)):=au.getE k7 e6 (by omega);exact au.getE K9 (aK.get o8 e7') (by omega)
  obtain ⟨h10,e10,k10,g10,_,_⟩:=aN (n:=32) (k':=bJ s.sum) g1' (by rw [O9.n0];exact h.n0_le_next) rfl dc.1 dc.2.2;have L10:=aP g10 dc.1 dc.2.1;simp -implicitDefEqProofs only [y8',L9,y2',e10,af];refine ⟨h10,?_,aK.bB O9 k10 (DG _)⟩;exact nr results131 yX size32 (show 2<66 by decide) _ (by show bQ 32 (y' 2) h10=_;rw [y2'];exact L10)
 obtain ⟨o1,e,h',e',r⟩:=key;exact ⟨h',aI is131 rfl ((t131_eq _ _ _).trans (e.trans e')),r⟩
end
end
end Go.Proofs.YtdhpgacmgebjdaaGreatDoor.W
namespace Go.Proofs.YtdhpgacmgebjdaaGreatDoor.W
open Go Go.Abs
noncomputable section
section
def H0:List (BitVec 32) := [1779033703,3144134277,1013904242,2773480762,1359893119,2600822924,528734635,1541459225].map (BitVec.ofNat 32)
attribute [local congr] ax
def HD0:HD:=⟨H0,List.replicate 64 0,0⟩
def bldH:cN (List.replicate 8 (.int .u32 0)) [(0,1,(.int .u32 1779033703)),(1,1,(.int .u32 3144134277)),(2,1,(.int .u32 1013904242)),(3,1,(.int .u32 2773480762)),(4,1,(.int .u32 1359893119)),(5,1,(.int .u32 2600822924)),(6,1,(.int .u32 528734635)),(7,1,(.int .u32 1541459225))]=some (.agg (AV H0).toArray):=by kernel_rfl
def bldH2:cN zHash [(0,8,.agg (AV H0).toArray)]=some (.agg HD0.cells.toArray):=by kernel_rfl
def r129 {h:ae} (hG:3<=h.n0) : ∃ h',CD 129 [] h=some (ptr h.next 0,h')/\aK h h'/\h'.get h.next=some HD0.cells/\h'.next=h.next+1:=by have b:=lC h HD0.cells (hash_ok HD0).2;refine ⟨h.alloc HD0.cells,aI is129 rfl ((t129_eq _ _).trans ?_),au.alloc _ _ _,by rw [ae.aZ,DH rfl],ae.jB ..⟩;unfold t129;simp -implicitDefEqProofs only [bldH,bldH2,b,af,ak]
end
def pV.all {ks:List Kd} {n:Nat} {cs:List Vl} (h:pV ks n cs):Abs.noHoles cs=true/\aM cs=true:=by
 have key : ∀ v∈cs,bW v=false/\v.oneCell'=true:=fun v hv=>by
  obtain ⟨j,hj⟩:=H3.1 hv;have hj2:=(DZ.1 hj).1;rw [h.1] at hj2;have hpos:0<ks.length:=Nat.pos_of_ne_zero (fun e=>by rw [e] at hj2;omega);have hi:j/ks.length<n:=(Nat.div_lt_iff_lt_mul hpos).2 hj2;have h3:=(h.2 _ hi).cell (j:=j%ks.length) (v:=v) (by have hm:=HW j hpos;rw [E7,DH hm,EY];have:=Nat.div_add_mod j ks.length;rw [II] at this;rw [this];exact hj)
  exact ⟨h3.1,h3.2.1⟩
 refine ⟨?_,?_⟩
 ·unfold Abs.noHoles;rw [DQ];exact fun v hv=>by rw [(key v hv).1];rfl
 ·unfold aM;rw [DQ];exact fun v hv=>(key v hv).2
def nC.keep {h h':ae} {ks:List Kd} {v:Vl} {n:Nat} {cs:List Vl} (x:nC h ks v n cs) {B:Nat->Prop} (k:au h h' B) (hB : ∀ b,zK v=some b -> ¬B b):nC h' ks v n cs:=by
 obtain ⟨a,c,rfl,h1,h2,h3⟩:=x;refine ⟨a,c,rfl,h1,h2,fun hn => ?_⟩;obtain ⟨b,off,s,q,rfl,h4,h5⟩:=h3 hn;obtain ⟨m,rfl⟩ : ∃ m,n=m+1:=⟨n-1,by omega⟩
 exact ⟨b,off,s,q,rfl,k.getE h4 (hB b rfl),h5⟩
def nC.old {h h':ae} {ks:List Kd} {v:Vl} {n:Nat} {cs:List Vl} (x:nC h ks v n cs) (k:aK h h'):nC h' ks v n cs:=x.keep k (fun _ _ h=>h)
def nC.len {h:ae} {ks:List Kd} {v:Vl} {n:Nat} {cs:List Vl} (x:nC h ks v n cs):cg v=some (aj n):=by obtain ⟨a,c,rfl,_⟩:=x;rfl
def nC.cells {h:ae} {ks:List Kd} {v:Vl} {n:Nat} {cs:List Vl} (x:nC h ks v n cs):cs.length=n*ks.length:=by obtain ⟨a,c,rfl,_,h2,_⟩:=x;exact h2.1
def nC.typed {h:ae} {ks:List Kd} {v:Vl} {n:Nat} {cs:List Vl} (x:nC h ks v n cs):pV ks n cs:=by obtain ⟨a,c,rfl,_,h2,_⟩:=x;exact h2
def nC.lt {h:ae} {ks:List Kd} {v:Vl} {n:Nat} {cs:List Vl} (x:nC h ks v n cs) {b:Nat} (hb:zK v=some b):b<h.next:=by
 obtain ⟨a,c,rfl,_,_,h3⟩:=x;cases n with
 |zero=>cases a<;>cases hb
 |succ m=>
  obtain ⟨b',off,s,k,rfl,h4,_⟩:=h3 (by omega);cases hb;exact h.aL h4
def el (z:Nat) (cs:List Vl) (i:Nat):List Vl:=(cs.drop (i*z)).take z
def mul_le {i n z:Nat} (hi:i<n):i*z+z<=n*z:=by have:=GJ z (show i+1<=n by omega);rw [HG,Nat.one_mul] at this;exact this
def nC.at {h:ae} {ks:List Kd} {v:Vl} {n:Nat} {cs:List Vl} (x:nC h ks v n cs) {i:Nat} (hi:i<n) : ∃ b off k,zK v=some b/\idxS ks.length v (aj i)=some (ptr b (off+i*ks.length))/\h.get b=some k/\off+n*ks.length<=k.length/\(k.drop (off+i*ks.length)).take ks.length=el ks.length cs i /\
  bQ ks.length (ptr b (off+i*ks.length)) h=some (.agg (el ks.length cs i).toArray,h)/\ko ks (el ks.length cs i):=by
 obtain ⟨a,c,rfl,h1,h2,h3⟩:=x;obtain ⟨b,off,s,k,rfl,h4,h5,h6⟩:=h3 (by omega);have hm:=mul_le (z:=ks.length) hi;have hel:(k.drop (off+i*ks.length)).take ks.length=el ks.length cs i:=by unfold el;rw [<-h6,IA,IB,GG,GN (by omega)]
 have ht:=h2.2 i hi;obtain ⟨m,rfl⟩ : ∃ m,n=m+1:=⟨n-1,by omega⟩
 refine ⟨b,off,k,rfl,?_,h4,h5,hel,?_,ht⟩
 ·unfold idxS;simp only [aj];rw [DH (by omega),Int.toNat_natCast]
 ·have:=BC (n:=ks.length) h4 (o:=off+i*ks.length) (by omega) (by rw [hel];exact ht.all.1);rw [hel] at this;exact this
end
end Go.Proofs.YtdhpgacmgebjdaaGreatDoor.W
namespace Go.Proofs.YtdhpgacmgebjdaaGreatDoor.W
open Go Go.Abs Tryz
noncomputable section
def od {a b:List Vl} (h1:Abs.noHoles a=true) (h2:Abs.noHoles b=true):Abs.noHoles (a++b)=true:=by unfold Abs.noHoles at *;rw [HI,h1,h2];rfl
def oJ {a b:List Vl} (h1:aM a=true) (h2:aM b=true):aM (a++b)=true:=by unfold aM at *;rw [HI,h1,h2];rfl
def noH_one {v:Vl} (h:bW v=false):Abs.noHoles [v]=true:=by simp [Abs.noHoles,h]
def dZ {h:ae} {ks:List Kd} {v:Vl} {n:Nat} {cs:List Vl} (x:nC h ks v n cs):bW v=false/\v.oneCell'=true/\v.cells = #[v]:=by obtain ⟨a,c,rfl,_⟩:=x;exact ⟨rfl,rfl,rfl⟩
def nC.first {h:ae} {ks:List Kd} {v:Vl} {n:Nat} {cs:List Vl} (x:nC h ks v n cs) (hz:0<ks.length):firstA ks.length n v h=some cs:=by
 have hl:=x.cells;have hall:=x.typed.all;obtain ⟨a,c,rfl,h1,h2,h3⟩:=x;by_cases hn:n=0
 ·subst hn;have:cs = []:=EC.1 (by omega);subst this;cases a with
  |none=>rfl
  |some y=>
   unfold firstA;simp
 ·obtain ⟨b,off,s,k,rfl,h4,h5,h6⟩:=h3 (by omega);have:n*ks.length≠0:=Nat.mul_ne_zero hn (by omega);unfold firstA;simp only [h4,h6,DL this,DH (And.intro h5 hall.1)]
def get_app {A B:List Vl} {i:Nat} {v:Vl} (j:Nat) (h:A.length+j=i) (e:B[j]? = some v):(A++B)[i]? = some v:=by subst h;rw [DX (by omega),FY,e]
def dM {ks:List Kd} {α:Type} {f:α->List Vl} {P:α->Prop} (hf : ∀ a,P a->ko ks (f a)) : ∀ (l:List α),(∀ a∈l,P a)->pV ks l.length (l.flatMap f)
 | [],_=>⟨by simp,fun i hi=>absurd hi (Nat.not_lt_zero i)⟩
 |a::l,h=>by
  have ih:=dM hf l (fun b hb=>h b (EL _ hb));have ha:=hf a (h a (EW ..));have hl:(f a).length=ks.length:=ha.1;refine ⟨by rw [FT,DO,ih.1,hl,List.length_cons,HG];omega,fun i hi => ?_⟩;rw [FT];cases i with
  |zero=>rw [HM,FO,<-hl,IC];exact ha
  |succ i=>
   have hi':i<l.length:=by simpa using hi
   rw [show (i+1)*ks.length=(f a).length+i*ks.length by rw [HG,hl];omega,List.drop_length_add_append];exact ih.2 i hi'
def tX {z A B C B':List Vl} {o n:Nat} {rest:List (Nat×Nat×Vl)} (e:z=A++(B++C)) (hA:A.length=o) (hB:B.length=n) (hB':B'.length=n):jq z ((o,n,.agg B'.toArray)::rest)=jq (A++(B'++C)) rest:=by
 subst e;have hc:(Value.agg B'.toArray).cells=B'.toArray:=rfl;simp only [jq,hc,FR,hB'];rw [DH (by
  have:o+n<=(A++(B++C)).length:=by rw [DO,DO,hA,hB];omega
  simp only [DN this,DP,GW,EU];simp),ot hA hB hB']
def bu {l:List Nat} (h:fO l):(bJ l).length=32:=by rw [EB];exact h.1
def nC.nil (h:ae) (ks:List Kd):nC h ks (.slice none 0 0) 0 []:=⟨none,0,rfl,fun _=>rfl,⟨by simp,fun i hi=>absurd hi (Nat.not_lt_zero i)⟩,fun h=>absurd h (GZ 0)⟩
def nC.veq {h:ae} {ks:List Kd} {v:Vl} {n:Nat} {cs:List Vl} (x:nC h ks v n cs):veq v v=true:=by obtain ⟨a,c,rfl,-⟩:=x;simp [Abs.veq]
def eA {rs:List ResultVar} {n k t z j:Nat} (hr:rs = [.cell k t,.tmp j]) (h1:sK prog t=some true) (h2:cQ prog t=some z) (hk:k<n) (hj:j<n) (x:Nat->Vl) {h:ae} {v:Vl} (e:bQ z (x k) h=some (v,h)):resultsA prog rs (aS n x) h=some (.tuple #[v,x j],h):=by subst hr;simp only [resultsA,FJ,List.mapM_nil,dy,di hk,di hj,j9 h1 h2,e];rfl
def veqL_of : ∀ l:List Vl,(∀ v∈l,Abs.veq v v=true)->Abs.veqL l l=true
 | [],_=>by simp [Abs.veqL]
 |x::a,h=>by have ih:=veqL_of a (fun v hv=>h v (EL _ hv));simp only [Abs.veqL,ih,h x (EW ..),GW]
def Kd.has.veq {k:Kd} {v:Vl} (h:k.has v):Abs.veq v v=true:=by
 cases k with
 |u8=>obtain ⟨n,rfl,_⟩:=h;simp [Abs.veq]
 |i k=>obtain ⟨n,rfl,_⟩:=h;simp [Abs.veq]
 |b=>obtain ⟨t,rfl⟩:=h;simp [Abs.veq]
def ko.veq {ks:List Kd} {cs:List Vl} (h:ko ks cs):Abs.veqL cs cs=true:=veqL_of _ fun v hv=>by obtain ⟨j,hj⟩:=H3.1 hv;have hj2:=(DZ.1 hj).1;rw [h.1] at hj2;obtain ⟨w,hw,hk⟩:=h.2 j _ (DE hj2);rw [hj] at hw;cases hw;exact hk.veq
end
end Go.Proofs.YtdhpgacmgebjdaaGreatDoor.W
namespace Go.Proofs.YtdhpgacmgebjdaaGreatDoor.W.R
open Go Go.Abs Tryz
noncomputable section
section
def nil22 (a:Option Addr) (n c:Nat):aA prog .eql 22 (.slice a n c) (.slice none 0 0)=some (.bool a.isNone):=by cases a<;>kernel_rfl
def aK.bytes {h h':ae} (o:aK h h') {a:Option Addr} {n:Nat} {l:List Nat} (e:ao a n h=some l):ao a n h'=some l:=fM e fun _ _=>o.get
def r69b {a:Option Addr} {n c:Nat} {l:List Nat} {h:ae} (hl:ao a n h=some l) (hn:n<=21000) :
  ∃ a' c' h',CD 171 [.slice a n c] h=some (.slice a' n c',h')/\ao a' n h'=some l/\cw a' n c'=true/\aK h h'/\(∀ y,a'=some y->h.next<=y.block/\y.block<h'.next)/\(a'.isNone=a.isNone):=by
 cases a with
 |none=>
  have h0:n=0:=by
   obtain ⟨h1,_,h3⟩:=ay hl;by_cases hz:n=0
   ·exact hz
   ·obtain ⟨_,_,_,_,h4,_⟩:=h3 (by omega);cases h4
  subst h0;refine ⟨none,0,h,aI Bc rfl ((qQ _ _ _).trans ?_),hl,rfl,au.refl _ _,fun y hy=>by (cases hy),rfl⟩;unfold t171;simp -implicitDefEqProofs only [af,nil22,ak,Option.isNone_none]
 |some x=>
  have hl1:ao (some x) n (h.alloc [])=some l:=fM hl fun _ _ hc=>ae.iU hc _;obtain ⟨b,s,c',g',e1,e2,e3,e4,e5,e6,e7⟩:=tf (g:=h.alloc []) (E:=h.next) (c:=c) h.n0_le_next hl1 hn;refine ⟨some ⟨b,0,s⟩,c',g',aI Bc rfl ((qQ _ _ _).trans ?_),e2,e3,(au.alloc h [] _).trans ⟨e5,e6,fun d hd _=>e7 d hd⟩,?_,rfl⟩
  ·unfold t171;simp -implicitDefEqProofs only [af,nil22,ak,Option.isNone_some,AN,e1]
  ·intro y hy;cases hy;have hn1:(h.alloc []).next=h.next+1:=by simp
   show h.next<=b/\b<g'.next;rcases e4 with e4|⟨e4,e8⟩
   ·omega
   ·omega
def dQ {h:ae} {a:Option Addr} {n:Nat} {l:List Nat} (e:ao a n h=some l) {r:Nat} {k:eh} (hk:h.get r=some k) (hv : ∀ v∈k,nat8 v=none) : ∀ y,a=some y->0<n->y.block≠r:=by
 intro y hy hn he;obtain ⟨_,hb,h3⟩:=ay e;obtain ⟨b,off,s,c,rfl,hc,hlen,hat⟩:=h3 hn;cases hy;have:b=r:=he;subst this;rw [hk] at hc;cases hc;have h4:=hat 0 hn;have h5:=hv _ (D7 h4);have h6:l.getD 0 0<256:=by
  rw [DK];cases hz:l[0]? with
  |none=>decide
  |some z=>exact hb z (D7 hz)
 have h7:nat8 (u8 (l.getD 0 0))=some (l.getD 0 0):=by show (if l.getD 0 0<256 then some (l.getD 0 0) else none)=some (l.getD 0 0);rw [DH h6]
 rw [h7] at h5;cases h5
structure IsR (h:ae) (p r:Nat) (l:List Nat) (e:Int):Prop where
 ex : ∃ a n c,h.get r=some [.slice a n c,.int .i64 e]/\ao a n h=some l/\cw a n c=true /\ ∀ y,a=some y->p<=y.block/\y.block<r
 n0:h.n0<=r
 len:l.length<=21000
 pr:p<=r
def IsR.keep {h h':ae} {B:Nat->Prop} {p r:Nat} {l:List Nat} {e:Int} (R:IsR h p r l e) (k:aK h h'):IsR h' p r l e:=by obtain ⟨a,n,c,h1,h2,h3⟩:=R.ex;exact ⟨⟨a,n,c,k.getE h1 (fun h=>h),k.bytes h2,h3⟩,k.n0▸R.n0,R.len,R.pr⟩
def IsR.lt {h:ae} {p r:Nat} {l:List Nat} {e:Int} (R:IsR h p r l e):r<h.next:=by obtain ⟨a,n,c,h1,_⟩:=R.ex;exact h.aL h1
def r110 {a:Option Addr} {n c:Nat} {l:List Nat} {h:ae} (hl:ao a n h=some l) (hn:n<=21000) :
  ∃ r h',CD 110 [.slice a n c] h=some (ptr r 0,h')/\IsR h' h.next r l 0/\aK h h'/\h.next<=r:=by
 obtain ⟨a',c',h1,e1,e2,e3,e4,e5,_⟩:=r69b (c:=c) hl hn;have hb:cN [(.slice none 0 0),(.int .i64 0)] [(0,1,.slice a' n c')]=some (.agg [.slice a' n c',.int .i64 0].toArray):=rfl;refine ⟨h1.next,h1.alloc [.slice a' n c',.int .i64 0],aI is110 rfl ((BY _ _ _).trans ?_),⟨⟨a',n,c',by rw [ae.aZ,DH rfl],(au.alloc h1 _ (fun _=>False)).bytes e2 (fun _ _ _ h=>h),e3,fun y hy=>e5 y hy⟩,?_,?_,e4.next⟩,e4.trans (au.alloc h1 _ _),e4.next⟩
 ·unfold t110;simp -implicitDefEqProofs only [af,e1,hb,ak,lC h1 [.slice a' n c',.int .i64 0] rfl]
 ·exact h1.n0_le_next
 ·rw [(ay hl).1];exact hn
def eql134 (b o:Nat):aA prog .eql 210 (ptr b o) (.pointer none)=some (.bool false):=by kernel_rfl
def c7 (a:Int):aA prog .neq 25 (.int .i64 a) (.int .i64 0)=some (.bool (a != 0)):=dj ..
def ng (a:Option Addr) (n c:Nat) (e:Int) : ∀ v ∈ [Value.slice a n c,.int .i64 e],nat8 v=none:=by intro v hv;simp only [ER,ET,GX] at hv;rcases hv with rfl|rfl<;>rfl
def r209 {p r:Nat} {l:List Nat} {h:ae} (R:IsR h p r l 0) {n:Nat} (hn:n<=l.length) :
  ∃ a' c' h',CD 209 [ptr r 0,aj n] h=some (.slice a' n c',h')/\ao a' n h'=some (l.take n)/\cw a' n c'=true/\IsR h' p r (l.drop n) 0/\au h h' (fun c=>c=r)/\h'.next=h.next:=by
 obtain ⟨a,m,c,h1,h2,h3,hB⟩:=R.ex;have hm:=(ay h2).1;subst hm;have l0:ld1 (ptr r 0) h=some (.slice a l.length c,h):=aH h1 rfl;have l1:ld1 (ptr r 1) h=some (.int .i64 0,h):=aH h1 rfl;obtain ⟨a1,c1,e1,e2,e3,_⟩:=sR (vl:=none) (vh:=some (aj n)) (lo:=0) (hi:=n) h3 h2 (by omega) hn (by simp only [boundA,aj];rw [DH (by have:=mX h3;omega)];rfl) rfl;obtain ⟨a2,c2,f1,f2,f3,f4⟩:=sR (vl:=some (aj n)) (vh:=none) (lo:=n) (hi:=l.length) h3 h2 hn (DG _) rfl (by simp only [boundA,aj];rw [DH (by omega)];rfl);have hst:bI 1 (ptr r 0) (.slice a2 (l.length-n) c2) h=some (undef,h.set r [.slice a2 (l.length-n) c2,.int .i64 0]):=dO h1 (by simp) R.n0 rfl rfl;have kp:au h (h.set r [.slice a2 (l.length-n) c2,.int .i64 0]) (fun c=>c=r):=au.set R.n0 h1 (.inr rfl);have hap:=fun {a:Option Addr} {n:Nat} {l:List Nat} (e:ao a n h=some l)=>dQ e h1 (ng _ _ _ _);rw [FO,Nat.sub_zero] at e2;rw [Nat.sub_zero] at e1 e3;rw [D3 (by simp)] at f2;refine ⟨a1,c1,h.set r [.slice a2 (l.length-n) c2,.int .i64 0],aI yE rfl ((oH _ _ _ _).trans ?_),kp.bytes e2 (hap e2),e3,⟨⟨a2,l.length-n,c2,ae.bO R.n0 h1 _,kp.bytes f2 (hap f2),f3,fun y hy=>by obtain ⟨y0,q1,q2⟩:=f4 y hy;rw [<-q2];exact hB y0 q1⟩,R.n0,by have:=R.len;simp;omega,R.pr⟩,kp,rfl⟩
 have g1 : ¬((n:Int)<0):=by omega
 have g2 : ¬((n:Int)>(l.length:Int)):=by omega
 unfold t209;simp -implicitDefEqProofs only [af,eql134,ak,aR,DP,aD,av,aw,DC,l1,c7,ED,DB,DS,aj,cx,g1,FA,l0,cM,dD,g2];rw [show (Value.int .i64 (n:Int))=aj n from rfl,e1];simp -implicitDefEqProofs only [af,ak,l0,f1,hst]
def sE {p r:Nat} {l:List Nat} {h:ae} (R:IsR h p r l 0) {n:Nat} (hn:l.length<n) :
  ∃ h',CD 209 [ptr r 0,aj n] h=some (.slice none 0 0,h')/\IsR h' p r l 4/\au h h' (fun c=>c=r)/\h'.next=h.next:=by
 obtain ⟨a,m,c,h1,h2,h3,hB⟩:=R.ex;have hm:=(ay h2).1;subst hm;have l0:ld1 (ptr r 0) h=some (.slice a l.length c,h):=aH h1 rfl;have l1:ld1 (ptr r 1) h=some (.int .i64 0,h):=aH h1 rfl;have hst:bI 1 (ptr r 1) (.int .i64 4) h=some (undef,h.set r [.slice a l.length c,.int .i64 4]):=dO h1 (by simp) R.n0 rfl rfl;have kp:au h (h.set r [.slice a l.length c,.int .i64 4]) (fun c=>c=r):=au.set R.n0 h1 (.inr rfl);refine ⟨h.set r [.slice a l.length c,.int .i64 4],aI yE rfl ((oH _ _ _ _).trans ?_),⟨⟨a,l.length,c,ae.bO R.n0 h1 _,kp.bytes h2 (dQ h2 h1 (ng _ _ _ _)),h3,hB⟩,R.n0,R.len,R.pr⟩,kp,rfl⟩;have g1 : ¬((n:Int)<0):=by omega
 have g2:((n:Int)>(l.length:Int)):=by omega
 unfold t209;simp -implicitDefEqProofs only [af,eql134,ak,aR,DP,aD,av,aw,DC,l1,c7,ED,DB,DS,aj,cx,g1,FA,l0,cM,dD,g2,GQ,hst]
def r172 {p r:Nat} {l:List Nat} {h:ae} (R:IsR h p r l 0) {n:Nat} (hn:n<=l.length) (h8:n<=8) :
  ∃ h',CD 172 [ptr r 0,aj n] h=some (.int .u64 (be (l.take n)),h')/\IsR h' p r (l.drop n) 0/\au h h' (fun c=>c=r)/\h'.next=h.next:=by
 obtain ⟨a,c,h1,e1,e2,e3,e4,e5,e6⟩:=r209 R hn;refine ⟨h1,aI is172 rfl ((wX _ _ _ _).trans ?_),e4,e5,e6⟩;exact CL e1 e2 h8
end
section
def IsR.byte {h:ae} {p r:Nat} {l:List Nat} {e:Int} (R:IsR h p r l e) : ∀ x∈l,x<256:=by obtain ⟨a,n,c,_,h2,_⟩:=R.ex;exact (ay h2).2.1
def r170 {p r:Nat} {l:List Nat} {h:ae} {e:Int} (R:IsR h p r l e):CD 170 [ptr r 0] h=some (.int .i64 e,h):=by obtain ⟨a,n,c,h1,_,_⟩:=R.ex;have l1:ld1 (ptr r 1) h=some (.int .i64 e,h):=aH h1 rfl;refine aI is170 rfl ((Cf _ _ _).trans ?_);unfold t170;simp -implicitDefEqProofs only [af,eql134,ak,av,aw,DC,l1]
end
end
end Go.Proofs.YtdhpgacmgebjdaaGreatDoor.W.R
namespace Go.Proofs.YtdhpgacmgebjdaaGreatDoor.W.R
open Go Go.Abs
noncomputable section
section
attribute [local congr] ax
@[ext] structure Rd where
  l:List Nat
  e:Int
def Rd.take (s:Rd) (n:Nat):List Nat×Rd:=if s.e=0 then (if n<=s.l.length then (s.l.take n,⟨s.l.drop n,0⟩) else ([],⟨s.l,4⟩)) else ([],s)
def Rd.fA (s:Rd) (n:Nat):Nat×Rd:=(be (s.take n).1,(s.take n).2)
def Rd.text (s:Rd):List Nat×Rd:=if s.e=0 then (if ((s.fA 2).2.take (s.fA 2).1).2.e=0 then (s.fA 2).2.take (s.fA 2).1 else ([],⟨s.l,((s.fA 2).2.take (s.fA 2).1).2.e⟩)) else ([],s)
abbrev nb (h:ae) (p r:Nat) (s:Rd):Prop:=IsR h p r s.l s.e
def Rd.CR {s:Rd} {n:Nat} (h:s.e=0) (hn:n<=s.l.length):s.take n=(s.l.take n,⟨s.l.drop n,0⟩):=by unfold Rd.take;rw [DH h,DH hn]
def Rd.yQ {s:Rd} {n:Nat} (h:s.e=0) (hn:s.l.length<n):s.take n=([],⟨s.l,4⟩):=by unfold Rd.take;rw [DH h,DL (by omega)]
def Rd.take_err {s:Rd} {n:Nat} (h:s.e≠0):s.take n=([],s):=by unfold Rd.take;rw [DL h]
def Rd.xR (s:Rd) (n:Nat):(s.take n).1.length<=n:=by
 unfold Rd.take;split
 ·split
  ·rw [E8];omega
  ·exact FL _
 ·exact FL _
def Rd.AX {s:Rd} (hb : ∀ x∈s.l,x<256) (n:Nat):(∀ x∈(s.take n).1,x<256) /\ ∀ x∈(s.take n).2.l,x<256:=by
 unfold Rd.take;split
 ·split
  ·exact ⟨fun x hx=>hb x (D6 hx),fun x hx=>hb x (EO hx)⟩
  ·exact ⟨fun x hx=>(by cases hx),hb⟩
 ·exact ⟨fun x hx=>(by cases hx),hb⟩
def be_lt' {l:List Nat} {n:Nat} (hl:l.length<=n) (hb : ∀ x∈l,x<256):be l<256^n:=EX (qe l.length l rfl hb) (H8 (by decide) hl)
def Rd.nI {s:Rd} (hb : ∀ x∈s.l,x<256) (n:Nat):(s.fA n).1<256^n:=be_lt' (s.xR n) (s.AX hb n).1
def IsR.ne {h:ae} {p r:Nat} {l:List Nat} {e:Int} (R:IsR h p r l e) (he:e≠0) {n:Int}:CD 209 [ptr r 0,.int .i64 n] h=some (.slice none 0 0,h):=by
 obtain ⟨a,m,c,h1,_,_⟩:=R.ex;have l1:ld1 (ptr r 1) h=some (.int .i64 e,h):=aH h1 rfl;have hq:(e != 0)=true:=by simpa using he
 refine aI yE rfl ((oH _ _ _ _).trans ?_);unfold t209;simp -implicitDefEqProofs only [af,eql134,ak,aR,DP,aD,av,aw,DC,l1,c7,hq,DB,DS]
section
variable {p r:Nat} {s:Rd} {h:ae} (R:nb h p r s)
include R
def q209 (n:Nat) : ∃ a c h',CD 209 [ptr r 0,aj n] h=some (.slice a (s.take n).1.length c,h')/\ao a (s.take n).1.length h'=some (s.take n).1/\cw a (s.take n).1.length c=true/\nb h' p r (s.take n).2/\au h h' (fun c=>c=r)/\h'.next=h.next:=by
 obtain ⟨l,e⟩:=s;by_cases he:e=0
 ·subst he;by_cases hn:n<=l.length
  ·rw [Rd.CR rfl hn];obtain ⟨a,c,h',e1,e2,e3,e4,e5,e6⟩:=r209 R hn;have hl:(l.take n).length=n:=by rw [E8];exact GN hn
   refine ⟨a,c,h',?_,?_,?_,e4,e5,e6⟩
   ·simp only [hl];exact e1
   ·simp only [hl];exact e2
   ·simp only [hl];exact e3
  ·rw [Rd.yQ rfl (by omega:l.length<n)];obtain ⟨h',e1,e2,e3,e4⟩:=sE R (by omega:l.length<n);exact ⟨none,0,h',e1,rfl,rfl,e2,e3,e4⟩
 ·rw [Rd.take_err he];exact ⟨none,0,h,R.ne he,rfl,rfl,R,au.refl _ _,rfl⟩
def q172 {n:Nat} (h8:n<=8) : ∃ h',CD 172 [ptr r 0,aj n] h=some (.int .u64 ((s.fA n).1:Nat),h')/\nb h' p r (s.fA n).2/\au h h' (fun c=>c=r)/\h'.next=h.next:=by
 obtain ⟨l,e⟩:=s;by_cases hz:e=0/\n<=l.length
 ·obtain ⟨rfl,hn⟩:=hz;obtain ⟨h',e1,e2,e3,e4⟩:=r172 R hn h8;unfold Rd.fA;rw [Rd.CR rfl hn];exact ⟨h',e1,e2,e3,e4⟩
 ·have hm:(Rd.take ⟨l,e⟩ n).1 = []:=by
   by_cases he:e=0
   ·rw [Rd.yQ he (by show l.length<n;have : ¬n<=l.length:=fun h=>hz ⟨he,h⟩;omega)]
   ·rw [Rd.take_err he]
  obtain ⟨a,c,h',e1,e2,e3,e4,e5,e6⟩:=q209 R n;unfold Rd.fA;rw [hm] at e1 e2 |-;refine ⟨h',aI is172 rfl ((wX _ _ _ _).trans ?_),e4,e5,e6⟩;have e1:CD 209 [ptr r 0,aj n] h=some (.slice a 0 c,h'):=e1;exact CL e1 e2 (FL _)
def q111 : ∃ h',CD 111 [ptr r 0] h=some (.int .u8 ((s.fA 1).1:Nat),h')/\nb h' p r (s.fA 1).2/\au h h' (fun c=>c=r)/\h'.next=h.next:=by obtain ⟨h1,e1,e2⟩:=q172 R (n:=1) (by decide);refine ⟨h1,aI is111 rfl ((BF _ _ _).trans ?_),e2⟩;have e1:CD 172 [ptr r 0,.int .i64 1] h=_:=e1;have hb:(s.fA 1).1<256:=Rd.nI R.byte 1;have hw:IntKind.wrap .u8 (((s.fA 1).1:Nat):Int)=((s.fA 1).1:Nat):=tv (by omega) (by omega);unfold t111;simp -implicitDefEqProofs only [af,e1,bY,hw]
def q168 : ∃ h',CD 168 [ptr r 0] h=some (.int .u16 ((s.fA 2).1:Nat),h')/\nb h' p r (s.fA 2).2/\au h h' (fun c=>c=r)/\h'.next=h.next:=by obtain ⟨h1,e1,e2⟩:=q172 R (n:=2) (by decide);refine ⟨h1,aI is168 rfl ((BX _ _ _).trans ?_),e2⟩;have e1:CD 172 [ptr r 0,.int .i64 2] h=_:=e1;have hb:(s.fA 2).1<65536:=Rd.nI R.byte 2;have hw:IntKind.wrap .u16 (((s.fA 2).1:Nat):Int)=((s.fA 2).1:Nat):=tw (by omega) (by omega);unfold t168;simp -implicitDefEqProofs only [af,e1,bY,hw]
def q169 {n:Nat} : ∃ a c h',CD 169 [ptr r 0,aj n] h=some (.slice a (s.take n).1.length c,h')/\ao a (s.take n).1.length h'=some (s.take n).1/\cw a (s.take n).1.length c=true/\nb h' p r (s.take n).2/\au h h' (fun c=>c=r) /\
  (∀ y,a=some y->h.next<=y.block):=by
 obtain ⟨a,c,h1,e1,e2,e3,e4,e5,e6⟩:=q209 R n;have hlen:(s.take n).1.length<=21000:=by
  obtain ⟨l,e⟩:=s;have:l.length<=21000:=R.len;unfold Rd.take;split
  ·split
   ·rw [E8];show min n l.length<=_;omega
   ·exact FL _
  ·exact FL _
 obtain ⟨a',c',h2,f1,f2,f3,f4,f5,_⟩:=r69b (c:=c) e2 hlen;refine ⟨a',c',h2,aI is169 rfl ((wW _ _ _ _).trans ?_),f2,f3,e4.keep (B:=fun _=>False) f4,e5.also f4 (fun _ _ h=>h.elim),fun y hy=>e6▸(f5 y hy).1⟩;unfold t169;simp -implicitDefEqProofs only [af,e1,f1]
def q170:CD 170 [ptr r 0] h=some (.int .i64 s.e,h):=r170 R
end
end
end
end Go.Proofs.YtdhpgacmgebjdaaGreatDoor.W.R
namespace Go.Proofs.YtdhpgacmgebjdaaGreatDoor.W.R
open Go Go.Abs Tryz
noncomputable section
section
attribute [local congr] ax
def Rd.take_small {s:Rd} (hl:s.l.length<=21000) (n:Nat):(s.take n).1.length<=21000:=by
 unfold Rd.take;split
 ·split
  ·rw [E8];omega
  ·exact FL _
 ·exact FL _
def gtr30 (n:Nat):aA prog .gtr 3 (aj n) (.int .i64 0)=some (.bool (decide (0<n))):=gtr3 n 0
def Rd.fin (s:Rd):Int:=if s.e=0 then (if s.l = [] then 0 else 5) else s.e
def kq (m:List Nat):List Nat:=m++List.replicate (32-m.length) 0
section
variable {p r:Nat} {s:Rd} {h:ae} (R:nb h p r s)
include R
def q211:CD 211 [ptr r 0] h=some (.int .i64 s.fin,h):=by
 obtain ⟨l,e⟩:=s;obtain ⟨a,n,c,h1,h2,_⟩:=R.ex;have hn:l.length=n:=(ay h2).1;subst hn;have l0:ld1 (ptr r 0) h=some (.slice a l.length c,h):=aH h1 rfl;have hl:cg (.slice a l.length c)=some (aj l.length):=rfl;have e75:=q170 R;refine aI is211 rfl ((t211_eq _ _ _).trans ?_);unfold t211 Rd.fin;by_cases he:e=0
 ·subst he;cases l with
  |nil=>
   simp -implicitDefEqProofs only [af,e75,c7,ED,ak,av,aw,l0,hl,gtr30];rfl
  |cons x l=>
   have hd:decide (0<(x::l).length)=true:=by simp
   simp -implicitDefEqProofs only [af,e75,c7,ED,ak,av,aw,l0,hl,gtr30,hd];simp
 ·have hq:(e != 0)=true:=by simpa using he
  simp -implicitDefEqProofs only [af,e75,c7,hq,ak];rw [DL he]
def q174 : ∃ a c h',CD 174 [ptr r 0] h=some (.slice a s.text.1.length c,h')/\ao a s.text.1.length h'=some s.text.1/\cw a s.text.1.length c=true/\nb h' p r s.text.2/\au h h' (fun c=>c=r) /\
  (∀ y,a=some y->h.next<=y.block):=by
 have l1:ld1 (ptr r 1) h=some (.int .i64 s.e,h):=by obtain ⟨a,n,c,h1,_,_⟩:=R.ex;exact aH h1 rfl
 by_cases he:s.e=0
 ·obtain ⟨a,n,c,h1,h2,h3,hB⟩:=R.ex;have hn:s.l.length=n:=(ay h2).1;subst hn;have l0:ld1 (ptr r 0) h=some (.slice a s.l.length c,h):=aH h1 rfl;have hap:=dQ h2 h1 (ng _ _ _ _);obtain ⟨g1,e1,R1,k1,n1⟩:=q172 R (n:=2) (by decide);have e1:CD 172 [ptr r 0,.int .i64 2] h=some (.int .u64 ((s.fA 2).1:Nat),g1):=e1;have hb:(s.fA 2).1<65536:=Rd.nI R.byte 2;have hw:IntKind.wrap .i64 (((s.fA 2).1:Nat):Int)=((s.fA 2).1:Nat):=bf (by omega) (by omega);obtain ⟨a2,c2,g2,e2,f2,f3,R2,k2,n2⟩:=q209 R1 (s.fA 2).1;have l1':ld1 (ptr r 1) g2=some (.int .i64 ((s.fA 2).2.take (s.fA 2).1).2.e,g2):=by obtain ⟨a,n,c,h1,_,_⟩:=R2.ex;exact aH h1 rfl
  have e2:CD 209 [ptr r 0,.int .i64 (((s.fA 2).1:Nat):Int)] g1=_:=e2;have ht:s.text=if ((s.fA 2).2.take (s.fA 2).1).2.e=0 then (s.fA 2).2.take (s.fA 2).1 else ([],⟨s.l,((s.fA 2).2.take (s.fA 2).1).2.e⟩):=by unfold Rd.text;rw [DH he]
  have hz:=Rd.take_small R1.len (s.fA 2).1;generalize (s.fA 2).2.take (s.fA 2).1=S2 at *;obtain ⟨m,s2⟩:=S2;by_cases he2:s2.e=0
  ·rw [DH he2] at ht;rw [ht];obtain ⟨a',c',g3,i1,i2,i3,i4,i5,_⟩:=r69b (c:=c2) f2 hz;refine ⟨a',c',g3,aI is174 rfl ((wM _ _ _).trans ?_),i2,i3,R2.keep (B:=fun _=>False) i4,(k1.trans k2).also i4 (fun _ _ h=>h.elim),fun y hy=>by have:=(i5 y hy).1;omega⟩;unfold t174;have l1'':ld1 (ptr r 1) g2=some (.int .i64 0,g2):=by rw [l1',he2]
   have l1:ld1 (ptr r 1) h=some (.int .i64 0,h):=by rw [l1,he]
   simp -implicitDefEqProofs only [af,eql134,ak,aR,DP,aD,av,aw,DC,l1,c7,ED,DB,DS,l0,e1,bY,hw,e2,l1'',i1]
  ·rw [DL he2] at ht;rw [ht];obtain ⟨a4,n4,c4,h4,h5,_⟩:=R2.ex;have hst:bI 1 (ptr r 0) (.slice a s.l.length c) g2=some (undef,g2.set r [.slice a s.l.length c,.int .i64 s2.e]):=dO h4 (by simp) R2.n0 rfl rfl;have k3:au g2 (g2.set r [.slice a s.l.length c,.int .i64 s2.e]) (fun c=>c=r):=au.set R2.n0 h4 (.inr rfl);have kk:=(k1.trans k2).trans k3;refine ⟨none,0,_,aI is174 rfl ((wM _ _ _).trans ?_),rfl,rfl,⟨⟨a,s.l.length,c,ae.bO R2.n0 h4 _,kk.bytes h2 hap,h3,hB⟩,R2.n0,R.len,R.pr⟩,kk,fun y hy=>by cases hy⟩;unfold t174;have hq:(s2.e != 0)=true:=by simpa using he2
   have l1:ld1 (ptr r 1) h=some (.int .i64 0,h):=by rw [l1,he]
   simp -implicitDefEqProofs only [af,eql134,ak,aR,DP,aD,av,aw,DC,l1,c7,ED,DB,DS,l0,e1,bY,hw,e2,l1',hq,hst];rfl
 ·have ht:s.text=([],s):=by unfold Rd.text;rw [DL he]
  rw [ht];have hq:(s.e != 0)=true:=by simpa using he
  refine ⟨none,0,h,aI is174 rfl ((wM _ _ _).trans ?_),rfl,rfl,R,au.refl _ _,fun y hy=>by cases hy⟩;unfold t174;simp -implicitDefEqProofs only [af,eql134,ak,aR,DP,aD,av,aw,DC,l1,c7,hq,DB,DS];rfl
end
end
end
end Go.Proofs.YtdhpgacmgebjdaaGreatDoor.W.R
namespace Go.Proofs.YtdhpgacmgebjdaaGreatDoor.W.R
open Go Go.Abs
noncomputable section
section
attribute [local congr] ax
def iX (k n t:Int):Bool:=decide (1<=k)&&decide (k<=n)&&decide (n<=t)&&decide (t<=255)
def r103 {h:ae} (k n t:Int):CD 103 [.int .i64 k,.int .i64 n,.int .i64 t] h=some (.bool (iX k n t),h):=by
 refine aI is103 rfl ((Cw _ _ _ _ _).trans ?_);unfold t103 iX;cases q0:decide (1<=k) with
 |false=>simp -implicitDefEqProofs only [af,af,ak,aR,fs,sf,DP,aD,aX,DB,DS,DV,aw,DC,Nat.reduceAdd,EK,EG,dt,eO,nQ,cx,dD,eQ,dj,q0,EJ,EU,HR,E0,IP,IQ,IK,HO,EK,EG]
 |true=>
 cases q1:decide (k<=n) with
 |false=>simp -implicitDefEqProofs only [af,af,ak,aR,fs,sf,DP,aD,aX,DB,DS,DV,aw,DC,Nat.reduceAdd,EK,EG,dt,eO,nQ,cx,dD,eQ,dj,q0,q1,EJ,EU,HR,E0,IP,IQ,IK,HO,EK,EG]
 |true=>
 cases q2:decide (n<=t) with
 |false=>simp -implicitDefEqProofs only [af,af,ak,aR,fs,sf,DP,aD,aX,DB,DS,DV,aw,DC,Nat.reduceAdd,EK,EG,dt,eO,nQ,cx,dD,eQ,dj,q0,q1,q2,EJ,EU,HR,E0,IP,IQ,IK,HO,EK,EG]
 |true=>
 cases q3:decide (t<=255) with
 |false=>simp -implicitDefEqProofs only [af,af,ak,aR,fs,sf,DP,aD,aX,DB,DS,DV,aw,DC,Nat.reduceAdd,EK,EG,dt,eO,nQ,cx,dD,eQ,dj,q0,q1,q2,q3,EJ,EU,HR,E0,IP,IQ,IK,HO,EK,EG]
 |true=>
 simp -implicitDefEqProofs only [af,af,ak,aR,fs,sf,DP,aD,aX,DB,DS,DV,aw,DC,Nat.reduceAdd,EK,EG,dt,eO,nQ,cx,dD,eQ,dj,q0,q1,q2,q3,EJ,EU,HR,E0,IP,IQ,IK,HO,EK,EG]
end
end
end Go.Proofs.YtdhpgacmgebjdaaGreatDoor.W.R
namespace Go.Proofs.YtdhpgacmgebjdaaGreatDoor.W.R
open Go Go.Abs Tryz
noncomputable section
section
attribute [local congr] ax
def yp:cQ prog 32=some 32:=by kernel_rfl
def arr32 (b o:Nat):sliceArr 32 1 (ptr b o) none none none=some (.slice (some ⟨b,o,none⟩) 32 32):=by unfold sliceArr;rfl
def IsR.keepB {h h':ae} {B:Nat->Prop} {p r:Nat} {l:List Nat} {e:Int} (R:IsR h p r l e) (k:au h h' B) (hB : ∀ b,b=r\/(p<=b/\b<r) -> ¬B b):IsR h' p r l e:=by obtain ⟨a,n,c,h1,h2,h3,h4⟩:=R.ex;exact ⟨⟨a,n,c,k.getE h1 (hB r (.inl rfl)),k.bytes h2 (fun y hy _=>hB _ (.inr (h4 y hy))),h3,h4⟩,k.n0▸R.n0,R.len,R.pr⟩
def pad_len {m:List Nat} (h:m.length<=32):(kq m).length=32:=by unfold kq;rw [DO,GU];omega
def splice_pad {m:List Nat} {n:Nat} (hn:m.length=n) (h:n<=32):dx z32 0 (m.take (min n 32))=kq m:=by unfold dx kq z32;rw [GN h,D3 (l:=m) (by omega),List.take_zero,List.nil_append,DC,List.drop_replicate]
section
variable {p r:Nat} {s:Rd} {h:ae} (R:nb h p r s)
include R
def q210 : ∃ h',CD 210 [ptr r 0] h=some (.agg (bJ (kq (s.take 32).1)).toArray,h')/\nb h' p r (s.take 32).2/\au h h' (fun c=>c=r):=by
 have hr:f210.results.toList = [.cell 2 32]:=by kernel_rfl
 have rl:r<h.next:=R.lt;obtain ⟨h0,z0,o0,g0,n0⟩:=fresh (List.replicate 32 (.int .u8 0)) h;have R0:nb h0 p r s:=R.keepB o0 (fun _ _ h=>h);obtain ⟨h1,z1,o1,g1,n1⟩:=fresh (List.replicate 32 (.int .u8 0)) h0;have R1:nb h1 p r s:=R0.keepB o1 (fun _ _ h=>h);obtain ⟨a,c,h2,e2,f2,f3,R2,k2,_⟩:=q209 R1 32;have e2:CD 209 [ptr r 0,.int .i64 32] h1=_:=e2;have g2:h2.get h0.next=some (bJ z32):=k2.getE g1 (by omega);have g02:=k2.getE (aK.get o1 g0) (by omega);have p2:h2.n0<=h0.next:=by rw [k2.n0,o1.n0];exact h0.n0_le_next
 have hl:=s.xR 32;obtain ⟨h3,e3,q1,q2,q3,q4⟩:=jz (dl:=32) (dc:=32) (c:=c) (s:=none) (off:=0) (b:=h0.next) g2 p2 f2 (by show 0+min _ 32<=32;omega)
 rw [splice_pad rfl hl] at q3;have k3:au h2 h3 (fun c=>c=h0.next):=⟨q1,by omega,fun d _ hd=>q4 d hd⟩
 have hpl:(bJ (kq (s.take 32).1)).length=32:=by rw [EB];exact pad_len hl
 have l3:=aP (n:=32) q3 hpl (bA _).1;have g03:=k3.getE g02 (by omega);have p3:h3.n0<=h.next:=by rw [q1,k2.n0,o1.n0,o0.n0];exact h.n0_le_next
 obtain ⟨h4,t4,k4,g4,_,_⟩:=aN (n:=32) (k':=bJ (kq (s.take 32).1)) g03 p3 rfl hpl (bA _).2;have l4:=aP (n:=32) g4 hpl (bA _).1;refine ⟨h4,aI is210 rfl ((t210_eq _ _ _).trans ?_),(R2.keepB k3 (fun b hb e=>by omega)).keepB k4 (fun b hb e=>by omega),((((o0.trans o1).mono (B':=fun c=>c=r) (fun _ _ h=>h.elim)).trans k2).also k3 (fun d hd e=>by omega)).also k4 (fun d hd e=>by omega)⟩;unfold t210;simp -implicitDefEqProofs only [z0,z1,af,arr32,ak,e2,e3,l3,t4];exact nr hr yX yp (show 2<9 by decide) _ l4
end
end
end
end Go.Proofs.YtdhpgacmgebjdaaGreatDoor.W.R
namespace Go.Proofs.YtdhpgacmgebjdaaGreatDoor.W
open Go Go.Abs
noncomputable section
section
attribute [local congr] ax
def lF {h:ae} {N len:Nat} {ks:List Kd} {v:Vl} {cells:List Vl} (o:cG h N ks.length v len cells) (t:pV ks len cells):nC h ks v len cells:=by
 obtain ⟨o1,o2,o3,o4⟩:=o;rcases o4 with ⟨rfl,rfl⟩|⟨b,s,rfl,h5,⟨rfl,rfl⟩|⟨rfl,h6⟩⟩
 ·exact ⟨none,0,rfl,fun _=>rfl,t,fun h=>absurd h (GZ 0)⟩
 ·exact ⟨_,_,rfl,fun h=>(by cases h),t,fun h=>absurd h (GZ 0)⟩
 ·refine ⟨_,_,rfl,fun h=>(by cases h),t,fun _=>⟨b,0,_,cells,rfl,h6,by omega,?_⟩⟩;rw [FO,<-o1,HK]
def qW {h:ae} {N size len:Nat} {v:Vl} {cells:List Vl} (o:cG h N size v len cells) {b:Nat} (hb:zK v=some b):N<=b:=by
 obtain ⟨o1,o2,o3,o4⟩:=o;rcases o4 with ⟨rfl,rfl⟩|⟨b',s,rfl,h5,_⟩
 ·cases hb
 ·cases len with
  |zero=>cases hb
  |succ n=>cases hb;exact h5
def iz {h:ae} {N size len:Nat} {v:Vl} {cells:List Vl} (o:cG h N size v len cells) {b:Nat} (hb:cF v=some b):N<=b:=by
 obtain ⟨o1,o2,o3,o4⟩:=o;rcases o4 with ⟨rfl,rfl⟩|⟨b',s,rfl,h5,_⟩
 ·cases hb
 ·cases hb;exact h5
def slice1 {h:ae} {ks:List Kd} {b:Nat} {s:Option Nat} {cells:List Vl} (g:h.get b=some cells) (t:ko ks cells):nC h ks (.slice (some ⟨b,0,s⟩) 1 1) 1 cells:=by
 have hl:cells.length=ks.length:=t.1;refine ⟨_,_,rfl,fun h=>(by cases h),⟨by rw [hl,Nat.one_mul],fun i hi => ?_⟩,fun _=>⟨b,0,s,cells,rfl,g,by omega,?_⟩⟩
 ·obtain rfl:i=0:=by omega
  rw [HM,FO,<-hl,HK];exact t
 ·rw [FO,Nat.one_mul,<-hl,HK]
def nC.slice {h:ae} {ks:List Kd} {v:Vl} {n:Nat} {cs:List Vl} (x:nC h ks v n cs):uq v=some n:=by obtain ⟨a,c,rfl,_⟩:=x;rfl
end
end
end Go.Proofs.YtdhpgacmgebjdaaGreatDoor.W
