/-
  A part of the proof, shortened by a program.
  Conditions: as each theorem states.
-/
import Derived.Test.YtdhpgacmgebjdaaGreatDoorG18
set_option linter.all false
namespace Go.Proofs.YtdhpgacmgebjdaaGreatDoor.W
open Go Go.Abs Tryz
noncomputable section
def mF (gen area:Nat):List Nat:=iZ 4 1398034252++iZ 8 gen++iZ 1 area
def gW (gen area:Nat):List Nat:=mL (mF gen area)
def Jn.newArea (J:Jn):Nat:=if 0<=J.slot then 1-J.area else 0
def Jn.newSlot (J:Jn):Int:=if 0<=J.slot then 1-J.slot else 0
def Jn.rewrite (J:Jn) (D:Dk) (vals:List (List Nat)):Int×Dk×Jn×List Nat:=
 if J.live D=false then (9,D,J,[]) else
 if (vals.any fun r=>decide (20000<r.length))=true then (3,D,J,[]) else
 if D.ar<bH vals\/J.known=18446744073709551615 then (8,D,J,[]) else
 if (Dk.rwAll J.newArea (J.known+1) vals 0 D []).1=0 then
  if ((Dk.rwAll J.newArea (J.known+1) vals 0 D []).2.1.write J.newSlot (gW (J.known+1) J.newArea)).1=0 then
   (0,((Dk.rwAll J.newArea (J.known+1) vals 0 D []).2.1.write J.newSlot (gW (J.known+1) J.newArea)).2,
     { turn:=J.turn,slot:=J.newSlot,area:=J.newArea,gen:=J.known+1,known:=J.known+1,ready:=true,fin:=bH vals },(Dk.rwAll J.newArea (J.known+1) vals 0 D []).2.2.2)
  else (((Dk.rwAll J.newArea (J.known+1) vals 0 D []).2.1.write J.newSlot (gW (J.known+1) J.newArea)).1,((Dk.rwAll J.newArea (J.known+1) vals 0 D []).2.1.write J.newSlot (gW (J.known+1) J.newArea)).2,J,[])
 else ((Dk.rwAll J.newArea (J.known+1) vals 0 D []).1,(Dk.rwAll J.newArea (J.known+1) vals 0 D []).2.1,J,[])
def Jn.newArea_le (J:Jn):J.newArea<=1:=by unfold Jn.newArea;split<;>omega
def jo (h:ae) (d j:Nat) (D:Dk) (J:Jn) (vals:List (List Nat)) (o:ba):Prop:=
 ∃ v h',o=some (.tuple #[v,.int .i64 (J.rewrite D vals).1],h')/\br h' d (J.rewrite D vals).2.1/\(J.rewrite D vals).2.1.bb=D.bb/\(J.rewrite D vals).2.1.n=D.n/\cG h' j d (J.rewrite D vals).2.2.1/\JdOnly j d D.bb h h' /\
   cF h' h.next 1 v (J.rewrite D vals).2.2.2.length ((J.rewrite D vals).2.2.2.map ak)
def is114:bJ prog 114 f114 := .of (by kernel_rfl)
def results114:f114.results.toList = [.tmp 4,.tmp 5]:=by kernel_rfl
def res114 (y:Nat->Vl) (g:ae):resultsA prog f114.results.toList (aT 151 y) g=some (.tuple #[y 4,y 5],g):=by have h4:(aT 151 y).getD 4 undef=y 4:=rfl;have h5:(aT 151 y).getD 5 undef=y 5:=rfl;rw [results114];simp only [resultsA,FW,List.mapM_nil,dy,h4,h5];rfl
def cF.keepL {h h':ae} {N size:Nat} {v:Vl} {len:Nat} {cells:List Vl} (o:cF h N size v len cells) {B:Nat->Prop} (k:aw h h' B) (hB : ∀ b,bx v=some b->b<h.next -> ¬B b):cF h' N size v len cells:=by
 obtain ⟨h1,h2,h3,h4⟩:=o;refine ⟨h1,h2,h3,?_⟩;rcases h4 with h4|⟨b,s,rfl,h5,h6|⟨h6,h7⟩⟩
 ·exact .inl h4
 ·exact .inr ⟨b,s,rfl,h5,.inl h6⟩
 ·exact .inr ⟨b,s,rfl,h5,.inr ⟨h6,k.getE h7 (hB b rfl (h.aW h7))⟩⟩
section
variable {h:ae} {d j:Nat} {D:Dk} {J:Jn} {v:Vl} {vals:List (List Nat)} (x:br h d D) (xj:cG h j d J) (h2:2<=D.n) (ok:vT J D) (R:ma h (rwF j d D) v vals) (hlen:vals.length<=100000)
include x xj h2 ok R hlen
omit h2 ok R hlen in
def rw_end (hl:J.live D=true) (h20 : ∀ r∈vals,r.length<=20000) (htot:bH vals<=D.ar) (hkn:J.known<18446744073709551615) {y:Nat->Vl} {g:ae} (i0:y 0=ptr j 0) (i11:y 11=ak J.newArea) (i12:y 12 = .int .i64 J.newSlot) (i13:y 13 = .int .u64 ((J.known+1:Nat):Int)) (i14:y 14=ak (bH vals))
  (hz:(Dk.rwAll J.newArea (J.known+1) vals 0 D []).1=0) (xg:br g d (Dk.rwAll J.newArea (J.known+1) vals 0 D []).2.1) (hbb:(Dk.rwAll J.newArea (J.known+1) vals 0 D []).2.1.bb=D.bb) (hn:(Dk.rwAll J.newArea (J.known+1) vals 0 D []).2.1.n=D.n)
  (hk:ek d D.bb h g) (own:cF g h.next 1 (y 15) vals.length ((Dk.rwAll J.newArea (J.known+1) vals 0 D []).2.2.2.map ak)) (hpl:(Dk.rwAll J.newArea (J.known+1) vals 0 D []).2.2.2.length=vals.length):jo h d j D J vals (lF CD y g):=by
 have hany:(vals.any fun r=>decide (20000<r.length))=false:=by rw [List.any_eq_false];intro r hr;have:=h20 r hr;simp;omega
 have hful : ¬(D.ar<bH vals\/J.known=18446744073709551615):=by omega
 have hrw:J.rewrite D vals=if ((Dk.rwAll J.newArea (J.known+1) vals 0 D []).2.1.write J.newSlot (gW (J.known+1) J.newArea)).1=0 then
   (0,((Dk.rwAll J.newArea (J.known+1) vals 0 D []).2.1.write J.newSlot (gW (J.known+1) J.newArea)).2,
     { turn:=J.turn,slot:=J.newSlot,area:=J.newArea,gen:=J.known+1,known:=J.known+1,ready:=true,fin:=bH vals },(Dk.rwAll J.newArea (J.known+1) vals 0 D []).2.2.2)
  else (((Dk.rwAll J.newArea (J.known+1) vals 0 D []).2.1.write J.newSlot (gW (J.known+1) J.newArea)).1,((Dk.rwAll J.newArea (J.known+1) vals 0 D []).2.1.write J.newSlot (gW (J.known+1) J.newArea)).2,J,[]):=by
  unfold Jn.rewrite;rw [hl,hany,DU (by decide),DU (by decide),DU hful,DR hz]
 have hsm:=x.small;have hdl:=x.lt;have hbl:=x.blt;have hjl:=xj.lt;have hNg:=hk.next;have jg:cG g j d J:=xj.keep hk (fun h=>h.elim (xj.uF x) (xj.nf x));have harea:=J.newArea_le;generalize hE:(Dk.rwAll J.newArea (J.known+1) vals 0 D []).2.1=E at *;generalize hps:(Dk.rwAll J.newArea (J.known+1) vals 0 D []).2.2.2=ps at *;obtain ⟨g1,e1,W1,k1⟩:=r116 g (lim:=124) (by decide);have e1:CD 116 [.int .i64 124] g=_:=e1;obtain ⟨g2,e2,W2,k2⟩:=r177 W1 (v:=1398034252) (by simp) (by decide);have e2:CD 177 [ptr g.next 0,.int .u32 1398034252] g1=_:=e2;obtain ⟨g3,e3,W3,k3⟩:=r133 W2 (v:=J.known+1) (by simp [bY]) (by omega);obtain ⟨g4,e4,W4,k4⟩:=r117 W3 (v:=J.newArea) (by simp [bY]) (by omega);have hbody : []++iZ 4 1398034252++iZ 8 (J.known+1)++iZ 1 J.newArea=mF (J.known+1) J.newArea:=by unfold mF;rw [List.nil_append]
 rw [hbody] at W4;have k14:vP g.next g g4:=((k1.trans k2).trans k3).trans k4;have j4:cG g4 j d J:=jg.keep k14 (by omega);have x4:br g4 d E:=k14.dk xg (by omega) (by omega);obtain ⟨B,g5,e5,s5,k5,hB⟩:=r179 W4 (by simp [mF,bY]);have j5:cG g5 j d J:=j4.keep k5 (fun h=>h);have x5:=aM.dk k5 x4;obtain ⟨g6,e6,x6,b6,n6,k6⟩:=r178 x5 J.newSlot (c:=128) s5 rfl;have hsb:mL (mF (J.known+1) J.newArea)=gW (J.known+1) J.newArea:=rfl;rw [hsb] at e6 x6 b6 n6;rw [hbb] at b6 k6;have hbase : ∀ b,bx (y 15)=some b->h.next<=b:=fun b hb=>own.base hb;have own4:cF g4 h.next 1 (y 15) vals.length (ps.map ak):=own.keepL k14 (fun b hb hlt hc=>by omega);have own6:=(own4.keep k5 (fun _ _ h=>h)).keep k6 (fun b hb hc=>by have:=hbase b hb;rcases hc with hc|hc<;>omega)
 have kk6:ek d D.bb h g6:=((hk.also k14 (fun c hc h=>by omega)).also k5 (fun _ _ h=>h.elim)).trans k6;have j6:cG g6 j d J:=j5.keep k6 (fun h=>h.elim (xj.uF x) (xj.nf x));generalize hWW:E.write J.newSlot (gW (J.known+1) J.newArea)=WW at *;have cv8:iD .u8 (ak J.newArea) g3=some (.int .u8 (J.newArea:Int),g3):=by unfold ak;rw [bV,wrap_u8 (by omega) (by omega)]
 have ck:=eQ (rfl:some (ptr d 0,g5)=some (ptr d 0,g5)) (show veq (ptr d 0) (ptr d 0)=true by simp [ptr,veq]);unfold lF;simp -implicitDefEqProofs only [af,e1,e2,i13,e3,i11,cv8,e4,i0,av,aj,ax,DK,j4.l0,i12,e5,e6,j5.l0,ck,EY,cZ];unfold jo;by_cases hz2:WW.1=0
 ·rw [DR hz2] at hrw;rw [hrw];have hne:(WW.1 != 0)=false:=by rw [hz2];rfl
  obtain ⟨q1,a1,b1,c1,d1⟩:=j6.st 2 (.int .i64 J.newSlot) { J with slot:=J.newSlot } (by decide) rfl rfl rfl xj.area;obtain ⟨q2,a2,b2,c2,d2⟩:=b1.st 3 (ak J.newArea) { J with slot:=J.newSlot,area:=J.newArea } (by decide) rfl rfl rfl harea;obtain ⟨q3,a3,b3,c3,d3⟩:=b2.st 4 (.int .u64 ((J.known+1:Nat):Int)) { J with slot:=J.newSlot,area:=J.newArea,gen:=J.known+1 } (by decide) rfl rfl rfl harea;obtain ⟨q4,a4,b4,c4,d4⟩:=b3.st 5 (.int .u64 ((J.known+1:Nat):Int)) { J with slot:=J.newSlot,area:=J.newArea,gen:=J.known+1,known:=J.known+1 } (by decide) rfl rfl rfl harea;obtain ⟨q5,a5,b5,c5,d5⟩:=b4.st 6 (.bool true) { J with slot:=J.newSlot,area:=J.newArea,gen:=J.known+1,known:=J.known+1,ready:=true } (by decide) rfl rfl rfl harea;obtain ⟨q6,a6,b6',c6,d6⟩:=b5.st 7 (ak (bH vals)) { J with slot:=J.newSlot,area:=J.newArea,gen:=J.known+1,known:=J.known+1,ready:=true,fin:=bH vals } (by decide) rfl rfl rfl harea;have kj:aw g6 q6 (fun c=>c=j):=((((c1.trans c2).trans c3).trans c4).trans c5).trans c6;simp -implicitDefEqProofs only [hne,af,i0,i12,i11,i13,i14,av,aj,ax,DK,a1,a2,a3,a4,a5,a6];refine ⟨_,_,rfl,kj.dk x6 (fun h=>(j6.uF x6) h.symm) (fun h=>(j6.nf x6) h.symm),b6,n6.trans hn,b6',(ek.jd kk6).trans (kj.mono (fun c _ hc => .inl hc)),?_⟩;show cF q6 h.next 1 (y 15) ps.length (ps.map ak);rw [hpl];exact own6.keep kj (fun b hb hc=>by have:=hbase b hb;omega)
 ·rw [DU hz2] at hrw;rw [hrw];have hne:(WW.1 != 0)=true:=by rw [HQ];exact hz2
  simp -implicitDefEqProofs only [hne,af];exact ⟨_,_,rfl,x6,b6,n6.trans hn,j6,ek.jd kk6,cF.nil _ _ _⟩
def r114:jo h d j D J vals (CD 114 [ptr j 0,v] h):=by
 have key:jo h d j D J vals (t114 CD (ptr j 0) v h):=by
  have hdl:=x.lt;have hbl:=x.blt;have hjl:=xj.lt;unfold t114;simp -implicitDefEqProofs only [af,r132 x xj,aj,cZ];cases hl:J.live D with
  |false=>
   have hrw:J.rewrite D vals=(9,D,J,[]):=by unfold Jn.rewrite;rw [DR hl]
   unfold jo;rw [hrw];simp -implicitDefEqProofs only [DJ,D3,show ((9:Int) != 0)=true from rfl,af];exact ⟨_,h,rfl,x,trivial,trivial,xj,aw.refl _ _,cF.nil _ _ _⟩
  |true=>
   simp -implicitDefEqProofs only [D8,EW,af,R.len,aj];refine cp (Q:=fun (o:ba)=>jo h d j D J vals o)
    (cj (su CD) (need_round x xj h2 R hlen) vals.length (by have:aK=18446744073709551616:=rfl;omega)
     ⟨rfl,0,DK _,rfl,rfl,rfl,rfl,rfl,rfl,by show Value.bool false=_;rw [List.take_zero,DP (by show ¬D.ar<0;omega)],by simp⟩) ?_
   rintro ex y g ⟨rfl,⟨rfl,y4,y5,r,hr,hlong⟩|⟨rfl,i0,i1,i8,h20⟩⟩
   ·have hany:(vals.any fun r=>decide (20000<r.length))=true:=by rw [List.any_eq_true];exact ⟨r,hr,by simpa using hlong⟩
    have hrw:J.rewrite D vals=(3,D,J,[]):=by unfold Jn.rewrite;rw [hl,DU (by decide),DR hany]
    unfold jo;rw [hrw];refine ⟨_,g,?_,x,rfl,rfl,xj,aw.refl _ _,cF.nil _ _ _⟩;show resultsA prog f114.results.toList (aT 151 y) g=_;rw [res114,y4,y5]
   ·have hany:(vals.any fun r=>decide (20000<r.length))=false:=by rw [List.any_eq_false];intro r hr;have:=h20 r hr;simp;omega
    simp -implicitDefEqProofs only [bK,b114_8,D8,Ah];unfold rW;simp -implicitDefEqProofs only [i8,af,aH];have full:D.ar<bH vals\/J.known=18446744073709551615->jo g d j D J vals (some (.tuple #[.slice none 0 0,.int .i64 8],g)):=by
     intro hf;have hrw:J.rewrite D vals=(8,D,J,[]):=by unfold Jn.rewrite;rw [hl,hany,DU (by decide),DU (by decide),DR hf]
     unfold jo;rw [hrw];exact ⟨_,g,rfl,x,rfl,rfl,xj,aw.refl _ _,cF.nil _ _ _⟩
    by_cases hf:D.ar<bH vals
    ·simp -implicitDefEqProofs only [DS hf,sf,aG,af,D8];exact full (.inl hf)
    ·have hkeq:aE prog .eql 52 (.int .u64 (J.known:Int)) (.int .u64 18446744073709551615)=some (.bool (J.known==18446744073709551615)):=by rw [dm];exact E2 (fun q=>some (Value.bool q)) (nG J.known 18446744073709551615)
     simp -implicitDefEqProofs only [DP hf,D6,az,af,i0,av,aj,ax,DK,xj.l5,hkeq,DJ,D3];by_cases hkm:J.known=18446744073709551615
     ·have:(J.known==18446744073709551615)=true:=by rw [hkm];rfl
      simp -implicitDefEqProofs only [this];exact full (.inr hkm)
     ·have hkf:(J.known==18446744073709551615)=false:=GJ.2 hkm;have hkb:=ok.known;have hkn:J.known<18446744073709551615:=by omega
      have hinc:aE prog .add 52 (.int .u64 (J.known:Int)) (.int .u64 1)=some (.int .u64 ((J.known+1:Nat):Int)):=by rw [dI,wrap_u64 (by omega) (by omega),Int.natCast_add];rfl
      have oA:aM g (g.alloc []):=aw.alloc _ _ _;have xA:=aM.dk oA x;have jA:=xj.keep oA (fun h=>h);have RA:ma (g.alloc []) (rwF j d D) v vals:=R.keep oA (fun _ h=>h.elim);have nA:(g.alloc []).next=g.next+1:=ae.eR ..;have hbsl:fE 1 (.int .i64 0) 0 [] g=some (.slice (some ⟨g.next,0,none⟩) 0 0,g.alloc []):=rfl;have run : ∀ z:Nat->Vl,z 0=ptr j 0->z 81=v->z 82=ak vals.length->z 83=ak 0->z 11=ak J.newArea->z 12 = .int .i64 J.newSlot->z 13 = .int .u64 ((J.known+1:Nat):Int)->z 14=ak 0->z 15 = .slice (some ⟨g.next,0,none⟩) 0 0 ->
        jo g d j D J vals (fb (iter (codeA prog CD (al f114 [1,1,1,1,1,1,1,1,0,1,0,0])) aK (aT 151 z) (g.alloc [])) (resultsA prog f114.results.toList) (wu CD)):=by
       intro z z0 z81 z82 z83 z11 z12 z13 z14 z15;refine cp (Q:=fun (o:ba)=>jo g d j D J vals o)
        (cj (mM CD) (rw_round x xj h2 R hlen J.newArea_le (by omega) (by omega) h20) vals.length (by have:aK=18446744073709551616:=rfl;omega)
         ⟨0,D,[],DK _,z0,z81,z82,z83,z11,z12,z13,by rw [z14];rfl,rfl,by rw [z15];exact cF.empty _ (DO _),xA,rfl,rfl,aw.alloc _ _ _,by rw [FO];rfl⟩) ?_
       rintro ex w q ⟨p1,p2,p3,p4,⟨rfl,p5,p6,p7⟩|⟨rfl,p5,p6,p7,p8,p9,p10,p11,p12,p13⟩⟩
       ·have hrw:J.rewrite D vals=((Dk.rwAll J.newArea (J.known+1) vals 0 D []).1,(Dk.rwAll J.newArea (J.known+1) vals 0 D []).2.1,J,[]):=by unfold Jn.rewrite;rw [hl,hany,DU (by decide),DU (by decide),DU (by omega),DU p7]
        unfold jo;rw [hrw];refine ⟨_,q,?_,p1,p2,p3,xj.keep p4 (fun h=>h.elim (xj.uF x) (xj.nf x)),ek.jd p4,cF.nil _ _ _⟩;show resultsA prog f114.results.toList (aT 151 w) q=_;rw [res114,p5,p6]
       ·simp -implicitDefEqProofs only [bK,wu,D8,xu];exact rw_end x xj hl h20 (by omega) hkn p5 p6 p7 p8 p11 p9 p1 p2 p3 p4 p13 p12
      simp -implicitDefEqProofs only [hkf,af,i0,av,aj,ax,DK,xj.l5,hinc,xj.l2,dA];by_cases hsl:0<=J.slot
      ·have hna:J.newArea=1-J.area:=by unfold Jn.newArea;rw [DR hsl]
       have hns:J.newSlot=1-J.slot:=by unfold Jn.newSlot;rw [DR hsl]
       have s1:aE prog .sub 3 (.int .i64 1) (ak J.area)=some (ak J.newArea):=by rw [hna];exact sub3 (a:=1) xj.area (by omega)
       have s2:aE prog .sub 3 (.int .i64 1) (.int .i64 J.slot)=some (.int .i64 J.newSlot):=by have:=ok.slot;rw [gu,wrap_i64 (by omega) (by omega),hns]
       have hd:decide (J.slot>=0)=true:=DS hsl;simp -implicitDefEqProofs only [hd,af,i0,av,aj,ax,DK,xj.l3,xj.l2,s1,s2,hbsl,i1,R.len];exact run _ i0 rfl rfl rfl rfl rfl rfl rfl rfl
      ·have hna:J.newArea=0:=by unfold Jn.newArea;rw [DU hsl]
       have hns:J.newSlot=0:=by unfold Jn.newSlot;rw [DU hsl]
       have hd:decide (J.slot>=0)=false:=DP hsl;simp -implicitDefEqProofs only [hd,af,hbsl,i1,R.len,aj];exact run _ i0 rfl rfl rfl (by rw [hna];rfl) (by rw [hns];rfl) rfl rfl rfl
 unfold jo at key |-;obtain ⟨pv,h',e,f⟩:=key;exact ⟨pv,h',aJ is114 rfl ((t114_eq _ _ _ _).trans e),f⟩
end
end
end Go.Proofs.YtdhpgacmgebjdaaGreatDoor.W
namespace Go.Proofs.YtdhpgacmgebjdaaGreatDoor.W
open Go Go.Abs
noncomputable section
section
variable {gen at_ part parts:Nat} {data:List Nat} (hg:gen<18446744073709551616) (hat:at_<4294967296) (hp:part<65536) (hps:parts<65536) (hd:data.length<=106) (hb : ∀ x∈data,x<256)
include hg in
include hat in
include hp in
include hps in
include hd in
include hd in
include hat hp hps hd hb in
end
structure Up (D:Dk):Prop where
 len:D.img.length=128*D.n
 down:D.down=false
 armed:D.armed=false
def qV:List (List Nat)->Nat->List (Nat×List Nat)
 | [],_ => []
 |r::rs,at_=>(at_,r)::qV rs (at_+da r.length)
def Jn.un (J:Jn):Jn:={ J with known:=0 }
def Jn.seeLog_un (D:Dk) (s at_:Nat) (J:Jn):(J.seeLog D s at_).un=J.un:=by unfold Jn.seeLog;split<;>rfl
def Jn.ze (D:Dk) (s:Nat) : ∀ k at_ J,(Jn.eT D s k at_ J).un=J.un
 | 0,_,_=>rfl
 |k+1,at_,J=>by rw [Jn.eT,Jn.ze D s k,Jn.seeLog_un]
def Jn.Cp (D:Dk) (s:Nat) (J:Jn):(J.takeSuper D s).un=J.un.takeSuper D s:=by have h1:J.un.slot=J.slot:=rfl;have h2:J.un.gen=J.gen:=rfl;unfold Jn.takeSuper;rw [h1,h2];split<;>rfl
def Jn.xv (D:Dk) (s:Nat) (J:Jn):(J.seeSlot D s).un=if dz (D.blk s)=true then J.un.takeSuper D s else J.un:=by
 unfold Jn.seeSlot;rw [Jn.ze];unfold Jn.seeSuper;split
 ·exact Jn.Cp D s J
 ·rfl
def Dk.openJ_un (D:Dk) (t:Int):(D.openJ t).un=if dz (D.blk 1)=true then (if dz (D.blk 0)=true then (D.jn0 t).takeSuper D 0 else D.jn0 t).takeSuper D 1 else if dz (D.blk 0)=true then (D.jn0 t).takeSuper D 0 else D.jn0 t:=by unfold Dk.openJ;rw [Jn.xv,Jn.xv];rfl
def Dk.xO (D:Dk) (t:Int) (s:Nat):(D.jn0 t).takeSuper D s={ turn:=t,slot:=s,area:=eo (D.blk s),gen:=bS (D.blk s),known:=0,ready:=false,fin:=0 }:=by unfold Jn.takeSuper;rw [DR (.inl (show (-1:Int)<0 by decide))];rfl
structure Knows (D:Dk) (B:Nat):Prop where
 logs : ∀ s,s<=1 -> ∀ p,p<D.ar->mc p (D.jb s p)=true->cm (D.jb s p)<=B
 sups : ∀ s,s<=1->dz (D.blk s)=true->bS (D.blk s)<=B
def Jn.ru (D:Dk) (s:Nat) : ∀ k at_ J,J.known<=(Jn.eT D s k at_ J).known/\(∀ p,at_<=p->p<at_+k->mc p (D.jb s p)=true->cm (D.jb s p)<=(Jn.eT D s k at_ J).known) /\
  ∀ B,J.known<=B->(∀ p,at_<=p->p<at_+k->mc p (D.jb s p)=true->cm (D.jb s p)<=B)->(Jn.eT D s k at_ J).known<=B
 | 0,at_,J=>⟨DO _,fun p h1 h2=>by omega,fun _ h _=>h⟩
 |k+1,at_,J=>by
  obtain ⟨i1,i2,i3⟩:=Jn.ru D s k (at_+1) (J.seeLog D s at_);have hj:(J.seeLog D s at_).known=if mc at_ (D.jb s at_)=true then max J.known (cm (D.jb s at_)) else J.known:=by unfold Jn.seeLog;split<;>rfl
  refine ⟨?_,?_,?_⟩
  ·show J.known<=(Jn.eT D s k (at_+1) (J.seeLog D s at_)).known;refine ED ?_ i1;rw [hj];split<;>omega
  ·intro p h1 h2 h3;show _<=(Jn.eT D s k (at_+1) (J.seeLog D s at_)).known;by_cases hp:p=at_
   ·subst hp;refine ED ?_ i1;rw [hj,DR h3];omega
   ·exact i2 p (by omega) (by omega) h3
  ·intro B h1 h2;refine i3 B ?_ (fun p h3 h4=>h2 p (by omega) (by omega));rw [hj];split
   ·rename_i h;have:=h2 at_ (by omega) (by omega) h;omega
   ·exact h1
def Jn.rq (D:Dk) (s:Nat) (J:Jn):J.known<=(J.seeSlot D s).known/\(∀ p,p<D.ar->mc p (D.jb s p)=true->cm (D.jb s p)<=(J.seeSlot D s).known)/\(dz (D.blk s)=true->bS (D.blk s)<=(J.seeSlot D s).known) /\
  ∀ B,J.known<=B->(∀ p,p<D.ar->mc p (D.jb s p)=true->cm (D.jb s p)<=B)->(dz (D.blk s)=true->bS (D.blk s)<=B)->(J.seeSlot D s).known<=B:=by
 obtain ⟨i1,i2,i3⟩:=Jn.ru D s D.ar 0 (J.seeSuper D s);have hj:(J.seeSuper D s).known=if dz (D.blk s)=true then max J.known (bS (D.blk s)) else J.known:=by unfold Jn.seeSuper;split<;>rfl
 refine ⟨?_,fun p h1 h2=>i2 p (by omega) (by omega) h2,?_,?_⟩
 ·refine ED ?_ i1;rw [hj];split<;>omega
 ·intro h;refine ED ?_ i1;rw [hj,DR h];omega
 ·intro B h1 h2 h3;refine i3 B ?_ (fun p _ h5=>h2 p (by omega));rw [hj];split
  ·rename_i h;have:=h3 h;omega
  ·exact h1
def Knows.openJ {D:Dk} {B:Nat} (k:Knows D B) (t:Int):(D.openJ t).known<=B:=by obtain ⟨a1,a2,a3,a4⟩:=Jn.rq D 0 (D.jn0 t);obtain ⟨b1,b2,b3,b4⟩:=Jn.rq D 1 ((D.jn0 t).seeSlot D 0);exact b4 B (a4 B (FB B) (k.logs 0 (by omega)) (k.sups 0 (by omega))) (k.logs 1 (by omega)) (k.sups 1 (by omega))
end
end Go.Proofs.YtdhpgacmgebjdaaGreatDoor.W
namespace Go.Proofs.YtdhpgacmgebjdaaGreatDoor.W
open Go Go.Abs Tryz
noncomputable section
def Dk.rot (D:Dk) (i at_:Int) (m:Nat):Int×Dk:=
 if i<0\/(D.n:Int)<=i\/at_<0\/128<=at_ then (2,D) else (0,{ D with img:=D.img.set (i.toNat*128+at_.toNat) (D.img.getD (i.toNat*128+at_.toNat) 0 ^^^ m) })
def is22:bJ prog 22 f22 := .of (by kernel_rfl)
def r22 {h:ae} {d:Nat} {D:Dk} (x:br h d D) (i at_:Int) {m:Nat} (hm:m<256) :
  ∃ h',CD 22 [ptr d 0,.int .i64 i,.int .i64 at_,u8 m] h=some (.int .i64 (D.rot i at_ m).1,h')/\br h' d (D.rot i at_ m).2/\ek d D.bb h h':=by
 have hl:cI (.slice (some ⟨D.bb,0,none⟩) D.n D.n)=some (ak D.n):=rfl;have key : ∃ h',t22 CD (ptr d 0) (.int .i64 i) (.int .i64 at_) (u8 m) h=some (.int .i64 (D.rot i at_ m).1,h')/\br h' d (D.rot i at_ m).2/\ek d D.bb h h':=by
  unfold t22;simp -implicitDefEqProofs only [af,nil27e,aj,bU,aH];by_cases hbad:i<0\/(D.n:Int)<=i\/at_<0\/128<=at_
  ·have hrot:D.rot i at_ m=(2,D):=by unfold Dk.rot;rw [DR hbad]
   rw [hrot];refine ⟨h,?_,x,aw.refl _ _⟩;by_cases h1:i<0
   ·simp -implicitDefEqProofs only [DS h1,sf,aG,af,D8,aH]
   have h1':decide (i<0)=false:=DP h1;simp -implicitDefEqProofs only [h1',D6,az,af,av,aj,ax,DK,x.l0,hl,dA,DJ,D3,aH];by_cases h2:(i:Int)>=(D.n:Int)
   ·simp -implicitDefEqProofs only [DS h2,sf,aG,af,D8,aH]
   have h2':decide ((i:Int)>=(D.n:Int))=false:=DP h2;simp -implicitDefEqProofs only [h2',D6,az,af,aj,bU,DJ,D3,aH];by_cases h3:at_<0
   ·simp -implicitDefEqProofs only [DS h3,sf,aG,af,D8,aH]
   have h4:at_>=128:=by omega
   simp -implicitDefEqProofs only [DP h3,D6,az,af,aj,dA,DJ,D3,aH,DS h4]
  ·obtain ⟨q,rfl⟩ : ∃ q:Nat,i=q:=⟨i.toNat,by omega⟩
   obtain ⟨p,rfl⟩ : ∃ p:Nat,at_=p:=⟨at_.toNat,by omega⟩
   have hrot:D.rot (q:Int) (p:Int) m=(0,{ D with img:=D.img.set (q*128+p) (D.img.getD (q*128+p) 0 ^^^ m) }):=by unfold Dk.rot;rw [DU hbad];rfl
   rw [hrot];have g1:decide ((q:Int)<0)=false:=DP (by omega);have g2:decide ((q:Int)>=(D.n:Int))=false:=DP (by omega);have g3:decide ((p:Int)<0)=false:=DP (by omega);have g4:decide ((p:Int)>=128)=false:=DP (by omega);have hlen:=x.len;have hq:q<D.n:=by omega
   have hp:p<128:=by omega
   have hin:q*128+p<D.img.length:=by omega
   have hix:idxS 128 (.slice (some ⟨D.bb,0,none⟩) D.n D.n) (.int .i64 (q:Int))=some (ptr D.bb (q*128)):=by unfold idxS;simp only;rw [DR (by omega),Int.toNat_natCast,DK]
   have hia:idxA 128 1 (ptr D.bb (q*128)) (.int .i64 (p:Int))=some (ptr D.bb (q*128+p)):=by unfold idxA;simp only [ptr,ax];rw [DR (by omega),Int.toNat_natCast,FQ];rfl
   have hv:D.img.getD (q*128+p) 0<256:=by rw [DV,DL hin];exact x.byte _ (GV hin)
   have hld:ld1 (ptr D.bb (q*128+p)) h=some (u8 (D.img.getD (q*128+p) 0),h):=aP x.img (by rw [EG,DL hin,DV,DL hin];rfl);have hx:=jH prog 5 (k := .u8) rfl (a:=D.img.getD (q*128+p) 0) (b:=m) hv hm;have hx2:D.img.getD (q*128+p) 0 ^^^ m<256:=GN (n:=8) hv hm;have hst:=dK (v:=u8 (D.img.getD (q*128+p) 0 ^^^ m)) x.img (show q*128+p<(D.img.map u8).length by rw [DY];exact hin) x.bn rfl rfl;simp -implicitDefEqProofs only [g1,g2,g3,g4,D6,az,af,av,aj,ax,DK,x.l0,hl,dA,bU,DJ,D3,aH,hix,hia,hld,hx,hst];have hne:=x.ne;refine ⟨_,rfl,?_,?_⟩
   ·refine ⟨?_,?_,by show (D.img.set _ _).length=_;rw [F1];exact hlen,?_,x.dn,x.bn,x.ne,x.small,x.after,x.keep⟩
    ·exact (ae.jC x.bn x.blt _ hne).trans x.hdr
    ·rw [ae.bL x.bn x.img];show some ((D.img.map u8).set _ _)=some ((D.img.set _ _).map u8);rw [G8]
    ·intro y hy;rcases F5 hy with hy|rfl
     ·exact x.byte y hy
     ·exact hx2
   ·exact (aw.set (B:=fun c=>c=D.bb) x.bn x.img (.inr rfl)).mono (fun c _ hc => .inr hc)
 obtain ⟨h',e,f⟩:=key;exact ⟨h',aJ is22 rfl ((t22_eq _ _ _ _ _ _).trans e),f⟩
end
end Go.Proofs.YtdhpgacmgebjdaaGreatDoor.W
namespace Go.Proofs.YtdhpgacmgebjdaaGreatDoor.W
open Go Go.Abs
noncomputable section
def nm {a:Option Addr} {n c lo hi:Nat} {vl vh:Option Vl} {h:ae} {l:List Nat} (g:ct a n c=true) (e:aq a n h=some l) (h1:lo<=hi) (h2:hi<=n) (hh:boundA n c vh=some hi) (hl:boundA 0 hi vl=some lo) :
  ∃ a' c',slR 1 (.slice a n c) vl vh none=some (.slice a' (hi-lo) c')/\aq a' (hi-lo) h=some ((l.drop lo).take (hi-lo))/\ct a' (hi-lo) c'=true/\(∀ y,a'=some y -> ∃ y0,a=some y0/\y0.block=y.block):=by
 have hn:=jF g;have hb:boundsA n c vl vh none=some (lo,hi,c):=by unfold boundsA;have:boundA c c none=some c:=rfl;rw [this];simp only [hh,hl]
 have hble:Nat.ble (hi-lo) (c-lo)=true:=FV (by omega);cases a with
 |none=>
  have hl0:l = []:=by
   unfold aq firstA at e;by_cases hz:n=0
   ·subst hz;obtain ⟨h3,_⟩:=ay (a:=none) (n:=0) (h:=h) (l:=l) (by unfold aq firstA;exact e);exact EE.1 h3
   ·simp only [hz,D3,Option.bind_none] at e;cases e
  have hn0:n=0:=by have:=(ay e).1;rw [hl0] at this;exact this.symm
  subst hn0;have:hi=0:=by omega
  subst this;have:lo=0:=by omega
  subst this;refine ⟨none,c-0,?_,?_,?_,fun y hy=>(by cases hy)⟩
  ·unfold slR sliceSl;simp only [hb]
  ·subst hl0;rfl
  ·unfold ct;simp
 |some x=>
  obtain ⟨b,off,s⟩:=x;cases s with
  |none=>
   refine ⟨some ⟨b,if c=lo then off else off+lo*1,none⟩,c-lo,?_,?_,?_,fun y hy=>⟨_,rfl,(by cases hy;rfl)⟩⟩
   ·unfold slR sliceSl;simp only [hb]
   ·by_cases hc:c=lo
    ·have h3:hi-lo=0:=by omega
     rw [DR hc,h3];have:(l.drop lo).take 0 = []:=rfl;rw [this];unfold aq firstA;simp;rfl
    ·rw [DU hc,FQ];exact fX e h1 h2
   ·unfold ct;rw [hble];rfl
  |some s=>
   have hs:s=1:=by unfold ct at g;rw [DN] at g;exact eq_of_beq g.2
   subst hs;refine ⟨some ⟨b,off+lo*1,some 1⟩,c-lo,?_,?_,?_,fun y hy=>⟨_,rfl,(by cases hy;rfl)⟩⟩
   ·unfold slR sliceSl;simp [hb]
   ·rw [FQ];exact fX e h1 h2
   ·unfold ct;rw [hble];rfl
def nat32_wv (a:BitVec 32):nat32 (wv a)=some a.toNat:=by
 have:a.toNat<4294967296:=a.isLt;have hb:Nat.blt a.toNat 4294967296=true:=by simpa using this
 show (match Nat.blt a.toNat 4294967296 with|true=>some a.toNat|false=>none)=_;rw [hb]
def isRow_rk:isRow rkN cH=true:=by kernel_rfl
def X187:XX 187=s187:=rfl
def r187 {h:ae} (hG:3<=h.n0) (hz:h.get 1=some cH) {p:Nat} {S:List (BitVec 32)} {B:List Nat} {n:Nat} (hS:S.length=8) (hBl:B.length=64) (hB:Bys B) (hp:h.get p=some (cD S B n)) (hp0:h.n0<=p) :
  ∃ h',CD 187 [ptr p 0] h=some (.tuple #[],h')/\aw h h' (· = p)/\h'.get p=some (cD (lI S B) B n):=by
 have e:s187 [ptr p 0] h=some (.tuple #[],h.set p (cD (lI S B) B n)):=by
  have e1:wordsOf 8 (cD S B n)=some (S.map BitVec.toNat):=by obtain ⟨a,b,c,d,e,f,g,i,rfl⟩:=Be hS;simp [cD,wordsOf,nat32_wv]
  have l8:(BH S).length=8:=by rw [DY,hS]
  have d8:(cD S B n).drop 8=bA B ++ [ak n]:=by unfold cD;rw [GX (by omega),List.drop_of_length_le (by omega),List.nil_append]
  have e2:bytesOf (((cD S B n).drop 8).take 64)=some B:=by rw [d8,List.take_append_of_le_length (by simp [hBl]),EB (by simp [hBl])];exact gf hB
  have e3:(cD S B n).drop 72 = [ak n]:=by rw [show 72=8+64 from rfl,<-List.drop_drop,d8,GX (by simp [hBl]),List.drop_of_length_le (by simp [hBl]),List.nil_append]
  have e4:isInt (ak n)=some n:=rfl;unfold s187 ptr;simp only [FV hG,FV hp0,G7,hz,isRow_rk,hp,e1,e2,hBl,Nat.beq_refl,e3,e4];rw [compN_eq hS,CP];rfl
 exact ⟨_,tb (by rw [X187];exact e),aw.set hp0 hp (.inr rfl),ae.bL hp0 hp _⟩
end
end Go.Proofs.YtdhpgacmgebjdaaGreatDoor.W
namespace Go.Proofs.YtdhpgacmgebjdaaGreatDoor.W
open Go Go.Abs Tryz
noncomputable section
inductive Kd where
 |u8
 |i (k:IntKind)
 |b
def Kd.has:Kd->Vl->Prop
 | .u8,v => ∃ n:Nat,v = .int .u8 n/\n<256
 | .i k,v => ∃ n:Int,v = .int k n/\(Lit.int k n).wf=true
 | .b,v => ∃ t:Bool,v = .bool t
def Kd.has.cell {k:Kd} {v:Vl} (h:k.has v):cw v=false/\v.oneCell'=true/\flat v=true/\v.cells = #[v]:=by
 cases k with
 |u8=>obtain ⟨n,rfl,_⟩:=h;exact ⟨rfl,rfl,rfl,rfl⟩
 |i k=>obtain ⟨n,rfl,_⟩:=h;exact ⟨rfl,rfl,rfl,rfl⟩
 |b=>obtain ⟨t,rfl⟩:=h;exact ⟨rfl,rfl,rfl,rfl⟩
def jS (ks:List Kd) (cs:List Vl):Prop:=cs.length=ks.length /\ ∀ (j:Nat) (k:Kd),ks[j]? = some k -> ∃ v,cs[j]? = some v/\k.has v
def jS.cell {ks:List Kd} {cs:List Vl} (h:jS ks cs) {j:Nat} {v:Vl} (hv:cs[j]? = some v):cw v=false/\v.oneCell'=true/\flat v=true/\v.cells = #[v]:=by
 have hj:=(D9.1 hv).1;have hj':j<ks.length:=by rw [<-h.1];exact hj
 obtain ⟨w,hw,hk⟩:=h.2 j _ (DL hj');rw [hv] at hw;cases hw;exact hk.cell
def jS.all {ks:List Kd} {cs:List Vl} (h:jS ks cs):Abs.noHoles cs=true/\aN cs=true/\bD cs=true:=by
 have key : ∀ v∈cs,cw v=false/\v.oneCell'=true/\flat v=true:=fun v hv=>by obtain ⟨j,hj⟩:=HJ.1 hv;obtain ⟨a,b,c,_⟩:=h.cell hj;exact ⟨a,b,c⟩
 refine ⟨?_,?_,?_⟩
 ·unfold Abs.noHoles;rw [DX];exact fun v hv=>by rw [(key v hv).1];rfl
 ·unfold aN;rw [DX];exact fun v hv=>(key v hv).2.1
 ·unfold bD;rw [DX];exact fun v hv=>(key v hv).2.2
def fK:List Kd:=List.replicate 32 .u8
def size32:cL prog 32=some 32:=by kernel_rfl
end
end Go.Proofs.YtdhpgacmgebjdaaGreatDoor.W
namespace Go.Proofs.YtdhpgacmgebjdaaGreatDoor.W
open Go Go.Abs
noncomputable section
def mid {k A B C:List Vl} {p n:Nat} (h:k=A++(B++C)) (hA:A.length=p) (hB:B.length=n):(k.drop p).take n=B:=by subst h hA hB;rw [List.drop_left,IT]
def ldN_mid {h:ae} {b p n:Nat} {k A B C:List Vl} (g:h.get b=some k) (e:k=A++(B++C)) (hA:A.length=p) (hB:B.length=n) (nh:Abs.noHoles B=true):bZ n (ptr b p) h=some (.agg B.toArray,h):=by
 have hm:=mid e hA hB;have hl:p+n<=k.length:=by rw [e,DW,DW];omega
 have:=DE g (o:=p) (n:=n) hl (by rw [hm];exact nh);rw [hm] at this;exact this
section
def wb (h:ae) (w:Nat):Option Nat:=match h.get w with
 |some [_,_,v]=>bx v
 |_=>none
def Fr (h:ae) (w b:Nat):Prop:=b<h.next/\b≠w/\wb h w≠some b
end
def I64 (n:Int):Prop := -9223372036854775808<=n/\n<=9223372036854775807
def eE (l:List Nat):Prop:=l.length=32/\Bys l
def bO {l:List Nat} (h:eE l):jS fK (bA l):=by
 refine ⟨by rw [DY];exact h.1,fun j k hk => ?_⟩;have hj:j<32:=by have:=(D9.1 hk).1;simpa [fK] using this
 unfold fK at hk;rw [HU,DR hj] at hk;cases hk;have hj':j<l.length:=by rw [h.1];exact hj
 exact ⟨_,by rw [EG,DL hj'];rfl,_,rfl,h.2 _ (GV hj')⟩
section
attribute [local congr] aC
def z32:List Nat:=List.replicate 32 0
def rX {A B C B':List Vl} {o n:Nat} (hA:A.length=o) (hB:B.length=n) (hB':B'.length=n):splice (A++(B++C)) o B'=A++(B'++C):=by subst hA;unfold splice;rw [IT,hB',FD,<-hB,<-List.length_append,<-List.append_assoc A B C,List.drop_left]
def i64_0:I64 0:=⟨by decide,by decide⟩
end
end
end Go.Proofs.YtdhpgacmgebjdaaGreatDoor.W
namespace Go.Proofs.YtdhpgacmgebjdaaGreatDoor.W
open Go Go.Abs Tryz
noncomputable section
section
attribute [local congr] aC
def nM {t n:Nat} (h1:sO prog t=some true) (h2:cL prog t=some n) (v:Vl) (h:ae):ld prog t v h=bZ n v h:=by unfold ld;rw [h1,h2]
def ep {n k:Nat} (hk:k<n) (x:Nat->Vl):(aT n x).getD k undef=x k:=by unfold aT;simp [hk]
def z32_ok:eE z32:=⟨rfl,fun x hx=>by have:=EZ hx;omega⟩
end
end
end Go.Proofs.YtdhpgacmgebjdaaGreatDoor.W
namespace Go.Proofs.YtdhpgacmgebjdaaGreatDoor.W
open Go Go.Abs
noncomputable section
section
attribute [local congr] aC
def aR {h:ae} {b n:Nat} {k k':eW} (g:h.get b=some k) (hn:h.n0<=b) (hl:k.length=n) (hl':k'.length=n) (ho:aN k'=true) : ∃ h2,bX n (ptr b 0) (.agg k'.toArray) h=some (undef,h2)/\aw h h2 (· = b)/\h2.get b=some k'/\h2.n0<=b/\h2.next=h.next:=
 ⟨_,mY g hn hl hl' ho,aw.set hn g (.inr rfl),ae.bL hn g _,hn,rfl⟩
end
section
attribute [local congr] aC
def bh (l:List Nat):Abs.noHoles (bA l)=true/\aN (bA l)=true:=by
 refine ⟨?_,?_⟩
 ·unfold Abs.noHoles;rw [DX];intro v hv;obtain ⟨x,_,rfl⟩:=EL.1 hv;rfl
 ·unfold aN;rw [DX];intro v hv;obtain ⟨x,_,rfl⟩:=EL.1 hv;rfl
def aV {h:ae} {b n:Nat} {k:List Vl} (g:h.get b=some k) (hl:k.length=n) (nh:Abs.noHoles k=true):bZ n (ptr b 0) h=some (.agg k.toArray,h):=ldN_mid g (A := []) (B:=k) (C := []) (by simp) rfl hl nh
end
section
attribute [local congr] aC
def fN {h:ae} {b off:Nat} {s:Option Nat} {k A C:List Vl} {l:List Nat} (g:h.get b=some k) (e:k=A++(bA l++C)) (hA:A.length=off) (hb:Bys l):aq (some ⟨b,off,s⟩) l.length h=some l:=by
 unfold aq;rw [D4];refine ⟨bA l,?_,gf hb⟩;have hm:=mid e hA (show (bA l).length=l.length from DY ..);have hl:off+l.length<=k.length:=by rw [e,DW,DW,DY,hA];omega
 simp only [firstA,g,FQ];by_cases h0:l.length=0
 ·rw [DR h0,EE.1 h0];rfl
 ·rw [DU h0,hm,DR ⟨hl,(bh l).1⟩]
end
section
attribute [local congr] aC
end
def oW (ks:List Kd) (n:Nat) (cs:List Vl):Prop:=cs.length=n*ks.length /\ ∀ i,i<n->jS ks ((cs.drop (i*ks.length)).take ks.length)
def j0 (h:ae) (ks:List Kd) (v:Vl) (n:Nat) (cs:List Vl):Prop:=
 ∃ a c,v = .slice a n c/\(a=none->n=0)/\oW ks n cs/\(0<n -> ∃ b off s k,a=some ⟨b,off,s⟩/\h.get b=some k/\off+n*ks.length<=k.length/\(k.drop off).take (n*ks.length)=cs)
def AV:Vl->Option Nat
 | .slice (some a) (_+1) _=>some a.block
 |_=>none
section
attribute [local congr] aC
end
section
attribute [local congr] aC
end
section
attribute [local congr] aC
section
variable {h h1:ae} {a:Option Addr} {n c:Nat} {l:List Nat} {y:Nat->Vl}
end
end
section
attribute [local congr] aC
def compS_len {S:List (BitVec 32)} {B:List Nat} (h:S.length=8):(lI S B).length=8:=by unfold lI addS;rw [List.length_zipWith,h];rfl
end
end
end Go.Proofs.YtdhpgacmgebjdaaGreatDoor.W
namespace Go.Proofs.YtdhpgacmgebjdaaGreatDoor.W
open Go Go.Abs Tryz
noncomputable section
section
attribute [local congr] aC
structure HD where
 S:List (BitVec 32)
 B:List Nat
 n:Nat
structure HD.Ok (s:HD):Prop where
 S:s.S.length=8
 B:s.B.length=64
 qX:Bys s.B
abbrev HD.cells (s:HD):List Vl:=cD s.S s.B s.n
def HD.put (s:HD) (l:List Nat):HD:=
 let at_:=s.n%64
 let k:=min l.length (64-at_)
 let B:=s.B.take at_++(l.take k++s.B.drop (at_+k))
 ⟨if at_+k=64 then lI s.S B else s.S,B,s.n+k⟩
def HD.wrN:Nat->HD->List Nat->HD
 | 0,s,_=>s
 |f+1,s,l=>if l = [] then s else HD.wrN f (s.put l) (l.drop (min l.length (64-s.n%64)))
def HD.wr (s:HD) (l:List Nat):HD:=HD.wrN l.length s l
def HD.wrN_le : ∀ (f g:Nat) (s:HD) (l:List Nat),l.length<=f->l.length<=g->HD.wrN f s l=HD.wrN g s l
 | 0,0,_,_,_,_=>rfl
 | 0,g+1,s,l,h,_=>by have:l = []:=EE.1 (by omega);rw [HD.wrN,HD.wrN,DR this]
 |f+1,0,s,l,_,h=>by have:l = []:=EE.1 (by omega);rw [HD.wrN,HD.wrN,DR this]
 |f+1,g+1,s,l,h1,h2=>by
  rw [HD.wrN,HD.wrN];by_cases e:l = []
  ·rw [DR e,DR e]
  ·rw [DU e,DU e];have hp:0<l.length:=IG.2 e;have hm:s.n%64<64:=HE _ (by decide);exact HD.wrN_le f g _ _ (by rw [FK];omega) (by rw [FK];omega)
def HD.wr_nil (s:HD):s.wr []=s:=rfl
def HD.wr_put (s:HD) {l:List Nat} (h:l ≠ []):s.wr l=(s.put l).wr (l.drop (min l.length (64-s.n%64))):=by
 unfold HD.wr;have hp:0<l.length:=IG.2 h;obtain ⟨f,hf⟩ : ∃ f,l.length=f+1:=⟨l.length-1,by omega⟩
 rw [hf,HD.wrN,DU h,hf];have hm:s.n%64<64:=HE _ (by decide);exact HD.wrN_le _ _ _ _ (by rw [FK];omega) (DO _)
def HD.put_ok {s:HD} (o:s.Ok) {l:List Nat} (hl:Bys l):(s.put l).Ok:=by
 have hm:s.n%64<64:=HE _ (by decide);unfold HD.put;refine ⟨?_,?_,?_⟩
 ·simp only;split
  ·exact compS_len o.S
  ·exact o.S
 ·simp only [DW,E0,FK,o.B];omega
 ·intro x hx;simp only [EF] at hx;rcases hx with hx|hx|hx
  ·exact o.qX x (EH hx)
  ·exact hl x (EH hx)
  ·exact o.qX x (ET hx)
def arr64 {p i:Nat} (h:i<64):sliceArr 64 1 (ptr p 8) (some (ak i)) none none=some (.slice (some ⟨p,8+i,none⟩) (64-i) (64-i)):=by
 have b1:boundA 64 64 (none:Option Vl)=some 64:=rfl;have b2:boundA 0 64 (some (ak i))=some i:=by unfold boundA ak;simp only;rw [DR (by omega),Int.toNat_natCast]
 unfold sliceArr;simp only [boundsA,b1,b2];show some (Value.slice (some ⟨p,if 64=i then 8 else 8+i*1,none⟩) (64-i) (64-i))=_;rw [DU (by omega),FQ]
def copy_min {h:ae} {b off dn dc c n k:Nat} {s:Option Nat} {a:Option Addr} {A B C:List Vl} {l:List Nat} (g:h.get b=some (A++(B++C))) (h0:h.n0<=b) (hA:A.length=off) (hB:B.length=k) (hs:aq a n h=some l) (hk:k=min n dn) (hk0:0<k) :
  ∃ g',iv 1 (.slice (some ⟨b,off,s⟩) dn dc) (.slice a n c) h=some (ak k,g')/\aw h g' (· = b)/\g'.get b=some (A++(bA (l.take k)++C))/\g'.next=h.next:=by
 obtain ⟨hl,hb,_⟩:=ay hs;have hf:=jv hs (show k<=n by omega) (c:=c);have hlk:(l.take k).length=k:=by rw [E0];omega
 have hsp:splice (A++(B++C)) off (bA (l.take k))=A++(bA (l.take k)++C):=rX hA hB (by rw [DY];exact hlk);refine ⟨h.set b (A++(bA (l.take k)++C)),?_,aw.set h0 g (.inr rfl),ae.bL h0 g _,rfl⟩;unfold iv;simp only [ot];rw [<-hk,hf];simp only;rw [DU (by omega)];unfold stL;simp only [g];rw [DR (by
  have h1:off+(bA (l.take k)).length<=(A++(B++C)).length:=by rw [DW,DW,DY,hA,hB];omega
  simp only [DS h0,DS h1,(bh (l.take k)).2,G7]),hsp]
 rfl
def is130:bJ prog 130 f130 := .of (by kernel_rfl)
def results130:f130.results.toList = []:=by kernel_rfl
def eql234 (b o:Nat):aE prog .eql 234 (ptr b o) (.pointer none)=some (.bool false):=by kernel_rfl
end
section
attribute [local congr] aC
def u8s_split {B:List Nat} {i k:Nat}:bA B=bA (B.take i)++(bA ((B.drop i).take k)++bA (B.drop (i+k))):=by
 show B.map u8=(B.take i).map u8++(((B.drop i).take k).map u8++(B.drop (i+k)).map u8)
 rw [<-List.map_append,<-List.map_append,<-List.drop_drop,F7,F7]
set_option maxRecDepth 100000 in
def r130 {h:ae} (hG:3<=h.n0) (hz:h.get 1=some cH) {p:Nat} {s:HD} (o:s.Ok) (hp:h.get p=some s.cells) (hp0:h.n0<=p) {a:Option Addr} {n c:Nat} {l:List Nat} (hl:aq a n h=some l) (hg:0<n->ct a n c=true) (ha : ∀ y,a=some y->0<n -> ¬y.block=p) (hfit:s.n+n<=1000000) :
  ∃ h',CD 130 [ptr p 0,.slice a n c] h=some (.tuple #[],h')/\aw h h' (· = p)/\h'.get p=some (s.wr l).cells/\(s.wr l).Ok/\(s.wr l).n=s.n+n:=by
 have hlen0:l.length=n:=(ay hl).1;have h3p : ¬1=p:=by have:=h.aW hp;intro e;omega
 have key : ∃ o:ba,t130 CD (ptr p 0) (.slice a n c) h=o /\ ∃ h',o=some (.tuple #[],h')/\aw h h' (· = p)/\h'.get p=some (s.wr l).cells/\(s.wr l).Ok/\(s.wr l).n=s.n+n:=by
  refine ⟨_,rfl,?_⟩;unfold t130;simp -implicitDefEqProofs only [eql234,af,aj];refine cp (n:=40) (fin:=fun ex _ g=>ex = .exit 0/\aw h g (· = p)/\g.get p=some (s.wr l).cells/\(s.wr l).Ok/\(s.wr l).n=s.n+n) (Q:=fun o:ba => ∃ h',o=some (.tuple #[],h')/\aw h h' (· = p)/\h'.get p=some (s.wr l).cells/\(s.wr l).Ok/\(s.wr l).n=s.n+n)
   (cj (zD CD) (Inv:=fun k y g => ∃ (s':HD) (a':Option Addr) (n' c':Nat) (l':List Nat),n'=k/\y 0=ptr p 0/\y 1 = .slice a' n' c'/\aq a' n' g=some l'/\(0<n'->ct a' n' c'=true)/\(∀ y,a'=some y->0<n' -> ¬y.block=p)/\s'.Ok/\g.get p=some s'.cells/\aw h g (· = p)/\s'.wr l'=s.wr l/\s'.n+n'=s.n+n) ?_ n (by have:aK=18446744073709551616:=rfl;omega) ⟨s,a,n,c,l,rfl,rfl,rfl,hl,hg,ha,o,hp,aw.refl _ _,rfl,rfl⟩) ?_
  ·rintro k y g ⟨s',a',n',c',l',rfl,y0,y1,sl',hg',ha',o',gp,K,hw,hn⟩;unfold oN;have hll:cI (.slice a' n' c')=some (ak n'):=rfl;have hgt:aE prog .gtr 3 (ak n') (.int .i64 0)=some (.bool (decide (0<n'))):=by
    unfold ak;rw [dN]
    congr 2
    rw [F9];omega
   have hlen:l'.length=n':=(ay sl').1;have hby:Bys l':=(ay sl').2.1;simp -implicitDefEqProofs only [y1,hll,hgt,af,aj];by_cases hpos:0<n'
   ·have hm:s'.n%64<64:=HE _ (by decide);generalize hat:s'.n%64=at_ at *;generalize hk:min n' (64-at_)=k;have hkp:0<k:=by omega
    have hp0g:g.n0<=p:=by rw [K.n0];exact hp0
    have l72:ld1 (ptr p 72) g=some (ak s'.n,g):=aP gp (by unfold HD.cells cD;rw [EI (by simp [o'.S]),EI (by simp [o'.S,o'.B])];simp [o'.S,o'.B]) rfl
    have hrem:aE prog .rem 3 (ak s'.n) (.int .i64 64)=some (ak at_):=by unfold ak;rw [vY prog 3 .i64 _ 64 (by decide),<-hat];rfl
    have gp1:g.get p=some ((BH s'.S++bA (s'.B.take at_))++(bA ((s'.B.drop at_).take k)++(bA (s'.B.drop (at_+k)) ++ [ak s'.n]))):=by rw [gp];unfold HD.cells cD;rw [u8s_split (B:=s'.B) (i:=at_) (k:=k)];simp only [FD]
    obtain ⟨g2,e2,k2,G2,n2⟩:=copy_min (s:=none) (dn:=64-at_) (dc:=64-at_) (c:=c') (k:=k) (off:=8+at_) gp1 hp0g (by simp [o'.S,o'.B];omega) (by simp [o'.B];omega) sl' hk.symm hkp;have ll72:ld1 (ptr p 72) g2=some (ak s'.n,g2):=aP G2 (by
     rw [EI (by simp [o'.S,o'.B];omega),EI (by simp [o'.S,o'.B];omega),EI (by simp [o'.S,o'.B];omega)];have:72-(BH s'.S++bA (List.take at_ s'.B)).length-(bA (List.take k l')).length-(bA (List.drop (at_+k) s'.B)).length=0:=by simp [o'.S,o'.B];omega
     rw [this];rfl) rfl
    have hadd:aE prog .add 3 (ak s'.n) (ak k)=some (ak (s'.n+k)):=by unfold ak;rw [dI,show (s'.n:Int)+(k:Int)=((s'.n+k:Nat):Int) by omega,wrap_i64 (by omega) (by omega)]
    have hadd2:aE prog .add 3 (ak at_) (ak k)=some (ak (at_+k)):=by unfold ak;rw [dI,show (at_:Int)+(k:Int)=((at_+k:Nat):Int) by omega,wrap_i64 (by omega) (by omega)]
    have hp2:g2.n0<=p:=by rw [k2.n0];exact hp0g
    obtain ⟨g3,e3,k3,G3,_,n3⟩:=stored (o:=72) (v:=ak (s'.n+k)) G2 hp2 (by simp [o'.S,o'.B];omega) rfl rfl;have hBn:((s'.put l').B)=s'.B.take at_++(l'.take k++s'.B.drop (at_+k)):=by unfold HD.put;simp only [hat,hlen,hk]
    have hnn:(s'.put l').n=s'.n+k:=by unfold HD.put;simp only [hat,hlen,hk]
    have G3':g3.get p=some (cD s'.S (s'.put l').B (s'.put l').n):=by
     rw [G3,hBn,hnn];unfold cD;have e1:((BH s'.S++bA (s'.B.take at_))++(bA (l'.take k)++(bA (s'.B.drop (at_+k)) ++ [ak s'.n])))=((BH s'.S++bA (s'.B.take at_))++(bA (l'.take k)++bA (s'.B.drop (at_+k)))) ++ [ak s'.n]:=by simp only [FD]
     rw [e1,wj (A:=(BH s'.S++bA (s'.B.take at_))++(bA (l'.take k)++bA (s'.B.drop (at_+k)))) (B' := [ak (s'.n+k)]) 0 (by simp [o'.S,o'.B];omega) rfl];simp only [EV,FD]
    have sl3:aq a' n' g3=some l':=(k2.trans k3).bytes sl' ha';obtain ⟨a2,c2,es,ss,gs,bs⟩:=nm (vl:=some (ak k)) (vh:=none) (lo:=k) (hi:=n') (hg' hpos) sl3 (by omega) (DO _) rfl (by unfold boundA ak;simp only;rw [DR (by omega),Int.toNat_natCast])
    have hss:((l'.drop k).take (n'-k))=l'.drop k:=EB (by rw [FK];omega);rw [hss] at ss;have hwr:(s'.put l').wr (l'.drop k)=s.wr l:=by rw [<-hw,HD.wr_put s' (l:=l') (fun e=>by rw [e] at hlen;simp at hlen;omega),hat,hlen,hk]
    have ok2:=HD.put_ok o' hby;have ha2 : ∀ y,a2=some y->0<n'-k -> ¬y.block=p:=fun y hy _ e=>by obtain ⟨y0,h1,h2⟩:=bs y hy;exact ha' y0 h1 hpos (h2.trans e)
    have K3:aw h g3 (· = p):=(K.trans k2).trans k3;by_cases hc:at_+k=64
    ·have hceq:aE prog .eql 3 (ak (at_+k)) (.int .i64 64)=some (.bool true):=by unfold ak;rw [dm,hc];rfl
     have hg3:3<=g3.n0:=by rw [K3.n0];exact hG
     obtain ⟨g4,e4,k4,G4⟩:=r187 hg3 (aw.getE K3 hz h3p) (p:=p) o'.S ok2.B ok2.qX G3' (by rw [K3.n0];exact hp0);have hS:(s'.put l').S=lI s'.S (s'.put l').B:=by unfold HD.put;simp only [hat,hlen,hk];rw [DR hc]
     rw [<-hS] at G4;simp -implicitDefEqProofs only [DS hpos,y0,av,ax,DK,l72,hrem,arr64 hm,e2,ll72,hadd,e3,es,hadd2,hceq,e4,af,aj];exact dE.next (n'-k) (by omega) ⟨s'.put l',a2,n'-k,c2,l'.drop k,rfl,y0,rfl,k4.bytes ss ha2,fun _=>gs,ha2,ok2,G4,K3.trans k4,hwr,by rw [hnn];omega⟩
    ·have hceq:aE prog .eql 3 (ak (at_+k)) (.int .i64 64)=some (.bool false):=by
      unfold ak;rw [dm]
      congr 2
      simp only [GJ,ne_eq];omega
     have hS:(s'.put l').S=s'.S:=by unfold HD.put;simp only [hat,hlen,hk];rw [DU hc]
     rw [<-hS] at G3';simp -implicitDefEqProofs only [DS hpos,y0,av,ax,DK,l72,hrem,arr64 hm,e2,ll72,hadd,e3,es,hadd2,hceq,af,aj];exact dE.next (n'-k) (by omega) ⟨s'.put l',a2,n'-k,c2,l'.drop k,rfl,y0,rfl,ss,fun _=>gs,ha2,ok2,G3',K3,hwr,by rw [hnn];omega⟩
   ·have h0:n'=0:=by omega
    subst h0;have:l' = []:=EE.1 hlen;subst this;simp -implicitDefEqProofs only [DP hpos,af,aj];rw [HD.wr_nil] at hw;refine dE.out 0 ⟨rfl,K,by rw [<-hw];exact gp,by rw [<-hw];exact o',by rw [<-hw];omega⟩
  ·rintro _ y g ⟨rfl,K,G,O,N⟩;simp -implicitDefEqProofs only [bK,b130_2,D8];rw [results130];exact ⟨g,rfl,K,G,O,N⟩
 obtain ⟨o1,e,h',e',r⟩:=key;exact ⟨h',aJ is130 rfl ((t130_eq _ _ _ _).trans (e.trans e')),r⟩
end
section
attribute [local congr] aC
def vK (N v:Nat):Nat->List Nat
 | 0=>128::List.replicate 71 0
 |j+1=>(vK N v j).set (N+j) (v/2^(56-8*j)%256)
def padOf (n:Nat):List Nat:=(vK (64-(n+8)%64) (n*8) 8).take (64-(n+8)%64+8)
def vO (S:List (BitVec 32)):Nat->List Nat
 | 0=>List.replicate 32 0
 |j+1=>(vO S j).set j ((S.getD (j/4) 0).toNat/2^(24-8*(j%4))%256)
def HD.sum (s:HD):List Nat:=vO (s.wr (padOf s.n)).S 32
def sY (N v:Nat) : ∀ j,(vK N v j).length=72
 | 0=>rfl
 |j+1=>by rw [vK,F1,sY N v j]
def wF (S:List (BitVec 32)) : ∀ j,(vO S j).length=32
 | 0=>rfl
 |j+1=>by rw [vO,F1,wF S j]
def bys_set {l:List Nat} (h:Bys l) (i:Nat) {x:Nat} (hx:x<256):Bys (l.set i x):=fun y hy=>by
 rcases F5 hy with h1|h1
 ·exact h y h1
 ·omega
def padT_bys (N v:Nat) : ∀ j,Bys (vK N v j)
 | 0=>fun x hx=>by
   have hx:x∈128::List.replicate 71 0:=hx;rcases EN.1 hx with h|h
   ·omega
   ·have:=EZ h;omega
 |j+1=>bys_set (padT_bys N v j) _ (HE _ (by decide))
def digT_bys (S:List (BitVec 32)) : ∀ j,Bys (vO S j)
 | 0=>fun x hx=>by have:=EZ (show x∈List.replicate 32 0 from hx);omega
 |j+1=>bys_set (digT_bys S j) _ (HE _ (by decide))
def vU (s:HD):eE s.sum:=⟨wF _ 32,digT_bys _ 32⟩
def words_ok (l:List (BitVec 32)):Abs.noHoles (BH l)=true/\aN (BH l)=true:=by
 induction l with
 |nil=>exact ⟨rfl,rfl⟩
 |cons x l ih=>exact ⟨ih.1,ih.2⟩
def hash_ok (s:HD):Abs.noHoles s.cells=true/\aN s.cells=true:=by have a:=words_ok s.S;unfold HD.cells cD;exact ⟨iX _ _ a.1 (iX _ _ (fT _) rfl),jQ _ _ a.2 (jQ _ _ (sz _) rfl)⟩
def sum1 {h:ae} {b N v:Nat} (hN:N<=64) (hv:v<18446744073709551616) (hb:h.n0<=b) (hw:h.get b=some (bA (vK N v 0))) {p2 p3:Vl}
  {x:Nat->Vl} (x2:x 2=p2) (x3:x 3=p3) (x4:x 4=ptr b 0) (x5:x 5=ak N) (x6:x 6 = .int .u64 (v:Int)) (x30:x 30=ak 0) :
  Fin 66 (fun ex y g=>ex = .exit 0/\y 2=p2/\y 3=p3/\y 4=ptr b 0/\y 5=ak N/\aw h g (· = b)/\g.get b=some (bA (vK N v 8))/\g.next=h.next) (iter (codeA prog CD (al f131 [1,1,1,1,1,1,1,0,1,0,0])) aK (aT 66 x) h):=by
 refine cj (nU CD) (Inv:=fun k y g => ∃ j,j+k=8/\y 2=p2/\y 3=p3/\y 4=ptr b 0/\y 5=ak N/\y 6 = .int .u64 (v:Int)/\y 30=ak j/\aw h g (· = b)/\g.get b=some (bA (vK N v j))/\g.next=h.next) ?_ 8 (by have:aK=18446744073709551616:=rfl;omega) ⟨0,DK _,x2,x3,x4,x5,x6,x30,aw.refl _ _,hw,rfl⟩;rintro k y g ⟨j,hjk,y2,y3,y4,y5,y6,y30,K,gw,gn⟩;unfold gO;have l8:aE prog .lss 3 (ak j) (.int .i64 8)=some (.bool (decide (j<8))):=fF j 8;simp -implicitDefEqProofs only [y30,l8,af,aj];by_cases hj:j<8
 ·have a1:aE prog .add 3 (ak N) (ak j)=some (ak (N+j)):=addc (c:=j) (by omega);have m1:aE prog .mul 3 (.int .i64 8) (ak j)=some (ak (8*j)):=by unfold ak;rw [j8,show (8:Int)*(j:Int)=((8*j:Nat):Int) by omega,wrap_i64 (by omega) (by omega)]
  have s1:aE prog .sub 3 (.int .i64 56) (ak (8*j))=some (ak (56-8*j)):=by unfold ak;rw [gu,show (56:Int)-((8*j:Nat):Int)=((56-8*j:Nat):Int) by omega,wrap_i64 (by omega) (by omega)]
  have r1:aE prog .shr 52 (.int .u64 (v:Int)) (ak (56-8*j))=some (.int .u64 ((v/2^(56-8*j):Nat):Int)):=dx prog 52 (by show 56-8*j<=64;omega);have c1:iD .u8 (.int .u64 ((v/2^(56-8*j):Nat):Int)) g=some (u8 (v/2^(56-8*j)%256),g):=by rw [bV,fU];rfl
  have ix:idxA 72 1 (ptr b 0) (ak (N+j))=some (ptr b (N+j)):=by rw [ph (by omega),DK]
  obtain ⟨g2,e2,k2,t2,_,n2⟩:=stored (o:=N+j) (v:=u8 (v/2^(56-8*j)%256)) gw (by rw [K.n0];exact hb) (by rw [DY,sY];omega) rfl rfl;simp -implicitDefEqProofs only [DS hj,y4,y5,y6,y30,a1,m1,s1,r1,c1,ix,e2,ei (show j+1<=9223372036854775807 by omega),af,aj];refine dE.next (k-1) (by omega) ⟨j+1,by omega,y2,y3,y4,y5,y6,rfl,K.trans k2,?_,n2.trans gn⟩;rw [t2,vK];show some ((List.map u8 (vK N v j)).set (N+j) (u8 (v/2^(56-8*j)%256)))=some (List.map u8 ((vK N v j).set (N+j) (v/2^(56-8*j)%256)));rw [G8]
 ·have:j=8:=by omega
  subst this;simp -implicitDefEqProofs only [DP hj,af,aj];exact dE.out 0 ⟨rfl,y2,y3,y4,y5,K,gw,gn⟩
def sum2 {h:ae} {b p:Nat} {S:List (BitVec 32)} {B:List Nat} {n:Nat} (hS:S.length=8) (hp:h.get p=some (cD S B n)) (hpb:p≠b) (hb:h.n0<=b) (hw:h.get b=some (bA (vO S 0))) {p2:Vl}
  {x:Nat->Vl} (x2:x 2=p2) (x3:x 3=ptr p 0) (x8:x 8=ptr b 0) (x48:x 48=ak 0) :
  Fin 66 (fun ex y g=>ex = .exit 2/\y 2=p2/\y 8=ptr b 0/\aw h g (· = b)/\g.get b=some (bA (vO S 32))/\g.next=h.next) (iter (codeA prog CD (al f131 [1,1,1,1,1,1,1,1,1,1,0,1,0,0])) aK (aT 66 x) h):=by
 refine cj (lE CD) (Inv:=fun k y g => ∃ j,j+k=32/\y 2=p2/\y 3=ptr p 0/\y 8=ptr b 0/\y 48=ak j/\aw h g (· = b)/\g.get b=some (bA (vO S j))/\g.next=h.next) ?_ 32 (by have:aK=18446744073709551616:=rfl;omega) ⟨0,DK _,x2,x3,x8,x48,aw.refl _ _,hw,rfl⟩;rintro k y g ⟨j,hjk,y2,y3,y8,y48,K,gw,gn⟩;unfold ft;have l32:aE prog .lss 3 (ak j) (.int .i64 32)=some (.bool (decide (j<32))):=fF j 32;simp -implicitDefEqProofs only [y48,l32,af,aj];by_cases hj:j<32
 ·have q1:aE prog .quo 3 (ak j) (.int .i64 4)=some (ak (j/4)):=by unfold ak;rw [sP prog 3 .i64 _ 4 (by decide),show Int.tdiv (j:Int) 4=((j/4:Nat):Int) from rfl,wrap_i64 (by omega) (by omega)]
  have r1:aE prog .rem 3 (ak j) (.int .i64 4)=some (ak (j%4)):=by unfold ak;rw [vY prog 3 .i64 _ 4 (by decide)];rfl
  have m1:aE prog .mul 3 (.int .i64 8) (ak (j%4))=some (ak (8*(j%4))):=by unfold ak;rw [j8,show (8:Int)*((j%4:Nat):Int)=((8*(j%4):Nat):Int) by omega,wrap_i64 (by omega) (by omega)]
  have s1:aE prog .sub 3 (.int .i64 24) (ak (8*(j%4)))=some (ak (24-8*(j%4))):=by unfold ak;rw [gu,show (24:Int)-((8*(j%4):Nat):Int)=((24-8*(j%4):Nat):Int) by omega,wrap_i64 (by omega) (by omega)]
  have gp:g.get p=some (cD S B n):=aw.getE K hp hpb;have lp:ld1 (ptr p (j/4)) g=some (wv (S.getD (j/4) 0),g):=aP gp (uC (by omega)) rfl;have ixp:idxA 8 1 (ptr p 0) (ak (j/4))=some (ptr p (j/4)):=by rw [ph (by omega),DK]
  have ixb:idxA 32 1 (ptr b 0) (ak j)=some (ptr b j):=by rw [ph hj,DK]
  have sh:aE prog .shr 186 (wv (S.getD (j/4) 0)) (ak (24-8*(j%4)))=some (.int .u32 (((S.getD (j/4) 0).toNat/2^(24-8*(j%4)):Nat):Int)):=dx prog 186 (by show 24-8*(j%4)<=32;omega);have c1:iD .u8 (.int .u32 (((S.getD (j/4) 0).toNat/2^(24-8*(j%4)):Nat):Int)) g=some (u8 ((S.getD (j/4) 0).toNat/2^(24-8*(j%4))%256),g):=by rw [bV,fU];rfl
  obtain ⟨g2,e2,k2,t2,_,n2⟩:=stored (o:=j) (v:=u8 ((S.getD (j/4) 0).toNat/2^(24-8*(j%4))%256)) gw (by rw [K.n0];exact hb) (by rw [DY,wF];omega) rfl rfl;simp -implicitDefEqProofs only [DS hj,y3,y8,y48,q1,r1,m1,s1,ax,DK,ixp,lp,sh,c1,ixb,e2,ei (show j+1<=9223372036854775807 by omega),af,aj];refine dE.next (k-1) (by omega) ⟨j+1,by omega,y2,y3,y8,rfl,K.trans k2,?_,n2.trans gn⟩;rw [t2,vO];show some ((List.map u8 (vO S j)).set j (u8 ((S.getD (j/4) 0).toNat/2^(24-8*(j%4))%256)))=some (List.map u8 ((vO S j).set j ((S.getD (j/4) 0).toNat/2^(24-8*(j%4))%256)));rw [G8]
 ·have:j=32:=by omega
  subst this;simp -implicitDefEqProofs only [DP hj,af,aj];exact dE.out 2 ⟨rfl,y2,y8,K,gw,gn⟩
abbrev zHash:List Vl:=zlit1
end
section
attribute [local congr] aC
def tB {rs:List ResultVar} {n k t z:Nat} (hr:rs = [.cell k t]) (h1:sO prog t=some true) (h2:cL prog t=some z) (hk:k<n) (x:Nat->Vl) {h:ae} {v:Vl} (e:bZ z (x k) h=some (v,h)):resultsA prog rs (aT n x) h=some (v,h):=by subst hr;simp only [resultsA,dy,ep hk,nM h1 h2,e];rfl
end
section
attribute [local congr] aC
def yQ:sO prog 32=some true:=by kernel_rfl
def qx {l:List Nat} (h:eE l):(bA l).length=32/\Abs.noHoles (bA l)=true/\aN (bA l)=true:=by have t:=bO h;exact ⟨t.1,t.all.1,t.all.2.1⟩
end
section
attribute [local congr] aC
def is131:bJ prog 131 f131 := .of (by kernel_rfl)
def results131:f131.results.toList = [.cell 2 32]:=by kernel_rfl
set_option maxRecDepth 100000 in
def r131 {h:ae} (hG:3<=h.n0) (hz:h.get 1=some cH) {p:Nat} {s:HD} (o:s.Ok) (hp:h.get p=some s.cells) (hn:s.n<=100000) :
  ∃ h',CD 131 [ptr p 0] h=some (.agg (bA s.sum).toArray,h')/\aM h h':=by
 have hplt:=h.aW hp;have clen:s.cells.length=73:=by show (cD s.S s.B s.n).length=73;rw [hash_len,o.S,o.B]
 have hok:=hash_ok s;obtain ⟨h1,z1,o1,g1,n1⟩:=fresh (List.replicate 32 (.int .u8 0)) h;have L1:=aV (n:=73) (aM.get o1 hp) clen hok.1;obtain ⟨h2,z2,o2,g2,n2⟩:=fresh zHash h1;obtain ⟨h3,e3,k3,g3,_,n3⟩:=aR (n:=73) (k':=s.cells) g2 (by rw [o2.n0];exact h1.n0_le_next) rfl clen hok.2;have o3:aM h1 h3:=aM.bu o2 k3 (DO _);obtain ⟨h4,z4,o4,g4,n4⟩:=fresh (List.replicate 72 (.int .u8 0)) h3;have hp4:h4.n0<=h3.next:=by rw [o4.n0];exact h3.n0_le_next
 have ix0:idxA 72 1 (ptr h3.next 0) (.int .i64 0)=some (ptr h3.next 0):=by have:=ph (N:=72) (b:=h3.next) (o:=0) (i:=0) (by decide);exact this
 obtain ⟨h5,e5,k5,g5,_,n5⟩:=stored (o:=0) (v := .int .u8 128) g4 hp4 (by decide) rfl rfl;have o5:aM h3 h5:=aM.bu o4 k5 (DO _);have O5:aM h h5:=(o1.trans o3).trans o5;have l72:ld1 (ptr p 72) h5=some (ak s.n,h5):=aP (aM.get O5 hp) (by show (cD s.S s.B s.n)[72]? = _;unfold cD;rw [EI (by simp [o.S]),EI (by simp [o.S,o.B])];simp [o.S,o.B]) rfl
 have a8:aE prog .add 3 (ak s.n) (.int .i64 8)=some (ak (s.n+8)):=by unfold ak;rw [dI,show (s.n:Int)+8=((s.n+8:Nat):Int) by omega,wrap_i64 (by omega) (by omega)]
 have rm:aE prog .rem 3 (ak (s.n+8)) (.int .i64 64)=some (ak ((s.n+8)%64)):=by unfold ak;rw [vY prog 3 .i64 _ 64 (by decide)];rfl
 have hm:(s.n+8)%64<64:=HE _ (by decide);have sb:aE prog .sub 3 (.int .i64 64) (ak ((s.n+8)%64))=some (ak (64-(s.n+8)%64)):=by unfold ak;rw [gu,show (64:Int)-(((s.n+8)%64:Nat):Int)=((64-(s.n+8)%64:Nat):Int) by omega,wrap_i64 (by omega) (by omega)]
 have cu:iD .u64 (ak s.n) h5=some (.int .u64 (s.n:Int),h5):=by unfold ak;rw [bV,wrap_u64 (by omega) (by omega)]
 have ml:aE prog .mul 52 (.int .u64 (s.n:Int)) (.int .u64 8)=some (.int .u64 ((s.n*8:Nat):Int)):=by rw [j8,show (s.n:Int)*8=((s.n*8:Nat):Int) by omega,wrap_u64 (by omega) (by omega)]
 have hpad:padOf s.n=(vK (64-(s.n+8)%64) (s.n*8) 8).take (64-(s.n+8)%64+8):=rfl;have hplen:(padOf s.n).length=64-(s.n+8)%64+8:=by rw [hpad,E0,sY];omega
 have hsum:s.sum=vO (s.wr (padOf s.n)).S 32:=rfl;generalize hNN:64-(s.n+8)%64=N at *;have hN:N<=64:=by omega
 have hp5:h5.n0<=h3.next:=by rw [k5.n0];exact hp4
 have key : ∃ o:ba,t131 CD (ptr p 0) h=o /\ ∃ h',o=some (.agg (bA s.sum).toArray,h')/\aM h h':=by
  refine ⟨_,rfl,?_⟩;unfold t131;simp -implicitDefEqProofs only [z1,eql234,av,L1,z2,e3,z4,ix0,e5,ax,DK,l72,a8,rm,sb,cu,ml,af,aj];refine cp (Q:=fun o:ba => ∃ h',o=some (.agg (bA s.sum).toArray,h')/\aM h h') (sum1 (N:=N) (v:=s.n*8) hN (by omega) hp5 g5 (p2:=ptr h.next 0) (p3:=ptr h1.next 0) rfl rfl rfl rfl rfl rfl) ?_;rintro _ y g6 ⟨rfl,y2,y3,y4,y5,K6,G6,N6⟩;simp -implicitDefEqProofs only [bK,b131_11,D8,Az];unfold rH;have O6:aM h3 g6:=o5.also K6 (fun d hd e=>by omega);have OO6:aM h g6:=(o1.trans o3).trans O6;have b8:aE prog .add 3 (ak N) (.int .i64 8)=some (ak (N+8)):=addc (c:=8) (by omega);have sa:sliceArr 72 1 (ptr h3.next 0) none (some (ak (N+8))) none=some (.slice (some ⟨h3.next,0,none⟩) (N+8) 72):=by
   have b1:boundA 72 72 (some (ak (N+8)))=some (N+8):=by unfold boundA ak;simp only;rw [DR (by omega),Int.toNat_natCast]
   unfold sliceArr;have b2:boundA 72 72 (none:Option Vl)=some 72:=rfl;have b3:boundA 0 (N+8) (none:Option Vl)=some 0:=rfl;simp only [boundsA,b1,b2,b3];show some (Value.slice (some ⟨h3.next,if 72=0 then 0 else 0+0*1,none⟩) (N+8-0) (72-0))=_;rw [DU (by decide)];rfl
  have sl:=dP (off:=0) (n:=N+8) (s:=none) G6 (by rw [sY];omega) (padT_bys _ _ _);rw [FO,<-hpad] at sl;have hg6:3<=g6.n0:=by rw [OO6.n0];exact hG
  have G3:g6.get h1.next=some s.cells:=aM.get O6 g3;obtain ⟨h7,e7,k7,g7,w7,m7⟩:=r130 (h:=g6) hg6 (aM.get OO6 hz) (p:=h1.next) (s:=s) o G3 (by rw [OO6.n0];have:=h.n0_le_next;omega) (c:=72) sl (fun _=>by unfold ct;rw [FV (show N+8<=72 by omega)];rfl) (fun y hy _ e=>by cases hy;have:h3.next=h1.next:=e;omega) (by omega)
  obtain ⟨h8,z8,o8,g8,n8⟩:=fresh (List.replicate 32 (.int .u8 0)) h7;have m6:=O6.next;have q7:=k7.next;simp -implicitDefEqProofs only [y5,b8,y4,sa,y3,e7,z8,af,aj];refine cp (Q:=fun o:ba => ∃ h',o=some (.agg (bA s.sum).toArray,h')/\aM h h') (sum2 (p:=h1.next) (b:=h7.next) w7.S (aM.get o8 g7) (by have:=h7.aW g7;omega) (by rw [o8.n0];exact h7.n0_le_next) g8 (p2:=ptr h.next 0) y2 y3 rfl rfl) ?_;rintro _ y' g9 ⟨rfl,y2',y8',K9,G9,N9⟩;simp -implicitDefEqProofs only [bK,b131_16,D8,wR];unfold oH;have dc:=qx (vU s);rw [<-hsum] at G9;have L9:=aV G9 dc.1 dc.2.1;have O7:aM h h7:=aM.bu OO6 k7 (by omega);have O9:aM h g9:=(O7.trans o8).also K9 (fun d hd e=>by have:=O7.next;omega);have g1':g9.get h.next=some (List.replicate 32 (.int .u8 0)):=by have e1:h3.get h.next=some (List.replicate 32 (.int .u8 0)):=aM.get o3 g1;have e6:g6.get h.next=some (List.replicate 32 (.int .u8 0)):=aM.get O6 e1;have e7':h7.get h.next=some (List.replicate 32 (.int .u8 0)):=aw.getE k7 e6 (by omega);exact aw.getE K9 (aM.get o8 e7') (by omega)
  obtain ⟨h10,e10,k10,g10,_,_⟩:=aR (n:=32) (k':=bA s.sum) g1' (by rw [O9.n0];exact h.n0_le_next) rfl dc.1 dc.2.2;have L10:=aV g10 dc.1 dc.2.1;simp -implicitDefEqProofs only [y8',L9,y2',e10,af];refine ⟨h10,?_,aM.bu O9 k10 (DO _)⟩;exact tB results131 yQ size32 (show 2<66 by decide) _ (by show bZ 32 (y' 2) h10=_;rw [y2'];exact L10)
 obtain ⟨o1,e,h',e',r⟩:=key;exact ⟨h',aJ is131 rfl ((t131_eq _ _ _).trans (e.trans e')),r⟩
end
end
end Go.Proofs.YtdhpgacmgebjdaaGreatDoor.W
namespace Go.Proofs.YtdhpgacmgebjdaaGreatDoor.W
open Go Go.Abs
noncomputable section
section
def H0:List (BitVec 32) := [1779033703,3144134277,1013904242,2773480762,1359893119,2600822924,528734635,1541459225].map (BitVec.ofNat 32)
attribute [local congr] aC
def HD0:HD:=⟨H0,List.replicate 64 0,0⟩
def bldH:dG (List.replicate 8 (.int .u32 0)) [(0,1,(.int .u32 1779033703)),(1,1,(.int .u32 3144134277)),(2,1,(.int .u32 1013904242)),(3,1,(.int .u32 2773480762)),(4,1,(.int .u32 1359893119)),(5,1,(.int .u32 2600822924)),(6,1,(.int .u32 528734635)),(7,1,(.int .u32 1541459225))]=some (.agg (BH H0).toArray):=by kernel_rfl
def bldH2:dG zHash [(0,8,.agg (BH H0).toArray)]=some (.agg HD0.cells.toArray):=by kernel_rfl
def r129 {h:ae} (hG:3<=h.n0) : ∃ h',CD 129 [] h=some (ptr h.next 0,h')/\aM h h'/\h'.get h.next=some HD0.cells/\h'.next=h.next+1:=by have b:=iL h HD0.cells (hash_ok HD0).2;refine ⟨h.alloc HD0.cells,aJ is129 rfl ((t129_eq _ _).trans ?_),aw.alloc _ _ _,by rw [ae.aX,DR rfl],ae.eR ..⟩;unfold t129;simp -implicitDefEqProofs only [bldH,bldH2,b,af,aj]
end
def oW.all {ks:List Kd} {n:Nat} {cs:List Vl} (h:oW ks n cs):Abs.noHoles cs=true/\aN cs=true:=by
 have key : ∀ v∈cs,cw v=false/\v.oneCell'=true:=fun v hv=>by
  obtain ⟨j,hj⟩:=HJ.1 hv;have hj2:=(D9.1 hj).1;rw [h.1] at hj2;have hpos:0<ks.length:=Nat.pos_of_ne_zero (fun e=>by rw [e] at hj2;omega);have hi:j/ks.length<n:=(Nat.div_lt_iff_lt_mul hpos).2 hj2;have h3:=(h.2 _ hi).cell (j:=j%ks.length) (v:=v) (by have hm:=HE j hpos;rw [FJ,DR hm,FH];have:=Nat.div_add_mod j ks.length;rw [IL] at this;rw [this];exact hj)
  exact ⟨h3.1,h3.2.1⟩
 refine ⟨?_,?_⟩
 ·unfold Abs.noHoles;rw [DX];exact fun v hv=>by rw [(key v hv).1];rfl
 ·unfold aN;rw [DX];exact fun v hv=>(key v hv).2
def j0.keep {h h':ae} {ks:List Kd} {v:Vl} {n:Nat} {cs:List Vl} (x:j0 h ks v n cs) {B:Nat->Prop} (k:aw h h' B) (hB : ∀ b,AV v=some b -> ¬B b):j0 h' ks v n cs:=by
 obtain ⟨a,c,rfl,h1,h2,h3⟩:=x;refine ⟨a,c,rfl,h1,h2,fun hn => ?_⟩;obtain ⟨b,off,s,q,rfl,h4,h5⟩:=h3 hn;obtain ⟨m,rfl⟩ : ∃ m,n=m+1:=⟨n-1,by omega⟩
 exact ⟨b,off,s,q,rfl,k.getE h4 (hB b rfl),h5⟩
def j0.old {h h':ae} {ks:List Kd} {v:Vl} {n:Nat} {cs:List Vl} (x:j0 h ks v n cs) (k:aM h h'):j0 h' ks v n cs:=x.keep k (fun _ _ h=>h)
def j0.len {h:ae} {ks:List Kd} {v:Vl} {n:Nat} {cs:List Vl} (x:j0 h ks v n cs):cI v=some (ak n):=by obtain ⟨a,c,rfl,_⟩:=x;rfl
def j0.cells {h:ae} {ks:List Kd} {v:Vl} {n:Nat} {cs:List Vl} (x:j0 h ks v n cs):cs.length=n*ks.length:=by obtain ⟨a,c,rfl,_,h2,_⟩:=x;exact h2.1
def j0.Bq {h:ae} {ks:List Kd} {v:Vl} {n:Nat} {cs:List Vl} (x:j0 h ks v n cs):oW ks n cs:=by obtain ⟨a,c,rfl,_,h2,_⟩:=x;exact h2
def j0.lt {h:ae} {ks:List Kd} {v:Vl} {n:Nat} {cs:List Vl} (x:j0 h ks v n cs) {b:Nat} (hb:AV v=some b):b<h.next:=by
 obtain ⟨a,c,rfl,_,_,h3⟩:=x;cases n with
 |zero=>cases a<;>cases hb
 |succ m=>
  obtain ⟨b',off,s,k,rfl,h4,_⟩:=h3 (by omega);cases hb;exact h.aW h4
def el (z:Nat) (cs:List Vl) (i:Nat):List Vl:=(cs.drop (i*z)).take z
def mul_le {i n z:Nat} (hi:i<n):i*z+z<=n*z:=by have:=GZ z (show i+1<=n by omega);rw [HM,Nat.one_mul] at this;exact this
def j0.at {h:ae} {ks:List Kd} {v:Vl} {n:Nat} {cs:List Vl} (x:j0 h ks v n cs) {i:Nat} (hi:i<n) : ∃ b off k,AV v=some b/\idxS ks.length v (ak i)=some (ptr b (off+i*ks.length))/\h.get b=some k/\off+n*ks.length<=k.length/\(k.drop (off+i*ks.length)).take ks.length=el ks.length cs i /\
  bZ ks.length (ptr b (off+i*ks.length)) h=some (.agg (el ks.length cs i).toArray,h)/\jS ks (el ks.length cs i):=by
 obtain ⟨a,c,rfl,h1,h2,h3⟩:=x;obtain ⟨b,off,s,k,rfl,h4,h5,h6⟩:=h3 (by omega);have hm:=mul_le (z:=ks.length) hi;have hel:(k.drop (off+i*ks.length)).take ks.length=el ks.length cs i:=by unfold el;rw [<-h6,IC,HX,F4,GD (by omega)]
 have ht:=h2.2 i hi;obtain ⟨m,rfl⟩ : ∃ m,n=m+1:=⟨n-1,by omega⟩
 refine ⟨b,off,k,rfl,?_,h4,h5,hel,?_,ht⟩
 ·unfold idxS;simp only [ak];rw [DR (by omega),Int.toNat_natCast]
 ·have:=DE (n:=ks.length) h4 (o:=off+i*ks.length) (by omega) (by rw [hel];exact ht.all.1);rw [hel] at this;exact this
end
end Go.Proofs.YtdhpgacmgebjdaaGreatDoor.W
namespace Go.Proofs.YtdhpgacmgebjdaaGreatDoor.W
open Go Go.Abs Tryz
noncomputable section
def wC {a b:List Vl} (h1:Abs.noHoles a=true) (h2:Abs.noHoles b=true):Abs.noHoles (a++b)=true:=by unfold Abs.noHoles at *;rw [GS,h1,h2];rfl
def zp {a b:List Vl} (h1:aN a=true) (h2:aN b=true):aN (a++b)=true:=by unfold aN at *;rw [GS,h1,h2];rfl
def noH_one {v:Vl} (h:cw v=false):Abs.noHoles [v]=true:=by simp [Abs.noHoles,h]
def iu {h:ae} {ks:List Kd} {v:Vl} {n:Nat} {cs:List Vl} (x:j0 h ks v n cs):cw v=false/\v.oneCell'=true/\v.cells = #[v]:=by obtain ⟨a,c,rfl,_⟩:=x;exact ⟨rfl,rfl,rfl⟩
def j0.first {h:ae} {ks:List Kd} {v:Vl} {n:Nat} {cs:List Vl} (x:j0 h ks v n cs) (hz:0<ks.length):firstA ks.length n v h=some cs:=by
 have hl:=x.cells;have hall:=x.Bq.all;obtain ⟨a,c,rfl,h1,h2,h3⟩:=x;by_cases hn:n=0
 ·subst hn;have:cs = []:=EE.1 (by omega);subst this;cases a with
  |none=>rfl
  |some y=>
   unfold firstA;simp
 ·obtain ⟨b,off,s,k,rfl,h4,h5,h6⟩:=h3 (by omega);have:n*ks.length≠0:=Nat.mul_ne_zero hn (by omega);unfold firstA;simp only [h4,h6,DU this,DR (And.intro h5 hall.1)]
def get_app {A B:List Vl} {i:Nat} {v:Vl} (j:Nat) (h:A.length+j=i) (e:B[j]? = some v):(A++B)[i]? = some v:=by subst h;rw [EI (by omega),GA,e]
def fq {ks:List Kd} {α:Type} {f:α->List Vl} {P:α->Prop} (hf : ∀ a,P a->jS ks (f a)) : ∀ (l:List α),(∀ a∈l,P a)->oW ks l.length (l.flatMap f)
 | [],_=>⟨by simp,fun i hi=>absurd hi (H4 i)⟩
 |a::l,h=>by
  have ih:=fq hf l (fun b hb=>h b (EK _ hb));have ha:=hf a (h a (EM ..));have hl:(f a).length=ks.length:=ha.1;refine ⟨by rw [E9,DW,ih.1,hl,List.length_cons,HM];omega,fun i hi => ?_⟩;rw [E9];cases i with
  |zero=>rw [HF,FO,<-hl,IT];exact ha
  |succ i=>
   have hi':i<l.length:=by simpa using hi
   rw [show (i+1)*ks.length=(f a).length+i*ks.length by rw [HM,hl];omega,List.drop_length_add_append];exact ih.2 i hi'
def fill_mid {z A B C B':List Vl} {o n:Nat} {rest:List (Nat×Nat×Vl)} (e:z=A++(B++C)) (hA:A.length=o) (hB:B.length=n) (hB':B'.length=n):jT z ((o,n,.agg B'.toArray)::rest)=jT (A++(B'++C)) rest:=by
 subst e;have hc:(Value.agg B'.toArray).cells=B'.toArray:=rfl;simp only [jT,hc,E7,hB'];rw [DR (by
  have:o+n<=(A++(B++C)).length:=by rw [DW,DW,hA,hB];omega
  simp only [DS this,D6,G7,E3];simp),rX hA hB hB']
def bf {l:List Nat} (h:eE l):(bA l).length=32:=by rw [DY];exact h.1
def j0.nil (h:ae) (ks:List Kd):j0 h ks (.slice none 0 0) 0 []:=⟨none,0,rfl,fun _=>rfl,⟨by simp,fun i hi=>absurd hi (H4 i)⟩,fun h=>absurd h (GH 0)⟩
def j0.veq {h:ae} {ks:List Kd} {v:Vl} {n:Nat} {cs:List Vl} (x:j0 h ks v n cs):veq v v=true:=by obtain ⟨a,c,rfl,-⟩:=x;simp [Abs.veq]
def ew {rs:List ResultVar} {n k t z j:Nat} (hr:rs = [.cell k t,.tmp j]) (h1:sO prog t=some true) (h2:cL prog t=some z) (hk:k<n) (hj:j<n) (x:Nat->Vl) {h:ae} {v:Vl} (e:bZ z (x k) h=some (v,h)):resultsA prog rs (aT n x) h=some (.tuple #[v,x j],h):=by subst hr;simp only [resultsA,FW,List.mapM_nil,dy,ep hk,ep hj,nM h1 h2,e];rfl
def veqL_of : ∀ l:List Vl,(∀ v∈l,Abs.veq v v=true)->Abs.veqL l l=true
 | [],_=>by simp [Abs.veqL]
 |x::a,h=>by have ih:=veqL_of a (fun v hv=>h v (EK _ hv));simp only [Abs.veqL,ih,h x (EM ..),G7]
def Kd.has.veq {k:Kd} {v:Vl} (h:k.has v):Abs.veq v v=true:=by
 cases k with
 |u8=>obtain ⟨n,rfl,_⟩:=h;simp [Abs.veq]
 |i k=>obtain ⟨n,rfl,_⟩:=h;simp [Abs.veq]
 |b=>obtain ⟨t,rfl⟩:=h;simp [Abs.veq]
def jS.veq {ks:List Kd} {cs:List Vl} (h:jS ks cs):Abs.veqL cs cs=true:=veqL_of _ fun v hv=>by obtain ⟨j,hj⟩:=HJ.1 hv;have hj2:=(D9.1 hj).1;rw [h.1] at hj2;obtain ⟨w,hw,hk⟩:=h.2 j _ (DL hj2);rw [hj] at hw;cases hw;exact hk.veq
end
end Go.Proofs.YtdhpgacmgebjdaaGreatDoor.W
namespace Go.Proofs.YtdhpgacmgebjdaaGreatDoor.W.R
open Go Go.Abs Tryz
noncomputable section
section
def nil22 (a:Option Addr) (n c:Nat):aE prog .eql 22 (.slice a n c) (.slice none 0 0)=some (.bool a.isNone):=by cases a<;>kernel_rfl
def aM.bytes {h h':ae} (o:aM h h') {a:Option Addr} {n:Nat} {l:List Nat} (e:aq a n h=some l):aq a n h'=some l:=fx e fun _ _=>o.get
def r69b {a:Option Addr} {n c:Nat} {l:List Nat} {h:ae} (hl:aq a n h=some l) (hn:n<=21000) :
  ∃ a' c' h',CD 171 [.slice a n c] h=some (.slice a' n c',h')/\aq a' n h'=some l/\ct a' n c'=true/\aM h h'/\(∀ y,a'=some y->h.next<=y.block/\y.block<h'.next)/\(a'.isNone=a.isNone):=by
 cases a with
 |none=>
  have h0:n=0:=by
   obtain ⟨h1,_,h3⟩:=ay hl;by_cases hz:n=0
   ·exact hz
   ·obtain ⟨_,_,_,_,h4,_⟩:=h3 (by omega);cases h4
  subst h0;refine ⟨none,0,h,aJ AS rfl ((qG _ _ _).trans ?_),hl,rfl,aw.refl _ _,fun y hy=>by (cases hy),rfl⟩;unfold t171;simp -implicitDefEqProofs only [af,nil22,aj,Option.isNone_none]
 |some x=>
  have hl1:aq (some x) n (h.alloc [])=some l:=fx hl fun _ _ hc=>ae.iF hc _;obtain ⟨b,s,c',g',e1,e2,e3,e4,e5,e6,e7⟩:=tY (g:=h.alloc []) (E:=h.next) (c:=c) h.n0_le_next hl1 hn;refine ⟨some ⟨b,0,s⟩,c',g',aJ AS rfl ((qG _ _ _).trans ?_),e2,e3,(aw.alloc h [] _).trans ⟨e5,e6,fun d hd _=>e7 d hd⟩,?_,rfl⟩
  ·unfold t171;simp -implicitDefEqProofs only [af,nil22,aj,Option.isNone_some,BN,e1]
  ·intro y hy;cases hy;have hn1:(h.alloc []).next=h.next+1:=by simp
   show h.next<=b/\b<g'.next;rcases e4 with e4|⟨e4,e8⟩
   ·omega
   ·omega
def de {h:ae} {a:Option Addr} {n:Nat} {l:List Nat} (e:aq a n h=some l) {r:Nat} {k:eW} (hk:h.get r=some k) (hv : ∀ v∈k,nat8 v=none) : ∀ y,a=some y->0<n->y.block≠r:=by
 intro y hy hn he;obtain ⟨_,hb,h3⟩:=ay e;obtain ⟨b,off,s,c,rfl,hc,hlen,hat⟩:=h3 hn;cases hy;have:b=r:=he;subst this;rw [hk] at hc;cases hc;have h4:=hat 0 hn;have h5:=hv _ (EC h4);have h6:l.getD 0 0<256:=by
  rw [DV];cases hz:l[0]? with
  |none=>decide
  |some z=>exact hb z (EC hz)
 have h7:nat8 (u8 (l.getD 0 0))=some (l.getD 0 0):=by show (if l.getD 0 0<256 then some (l.getD 0 0) else none)=some (l.getD 0 0);rw [DR h6]
 rw [h7] at h5;cases h5
structure IsR (h:ae) (p r:Nat) (l:List Nat) (e:Int):Prop where
 ex : ∃ a n c,h.get r=some [.slice a n c,.int .i64 e]/\aq a n h=some l/\ct a n c=true /\ ∀ y,a=some y->p<=y.block/\y.block<r
 n0:h.n0<=r
 len:l.length<=21000
 pr:p<=r
def IsR.keep {h h':ae} {B:Nat->Prop} {p r:Nat} {l:List Nat} {e:Int} (R:IsR h p r l e) (k:aM h h'):IsR h' p r l e:=by obtain ⟨a,n,c,h1,h2,h3⟩:=R.ex;exact ⟨⟨a,n,c,k.getE h1 (fun h=>h),k.bytes h2,h3⟩,k.n0▸R.n0,R.len,R.pr⟩
def IsR.lt {h:ae} {p r:Nat} {l:List Nat} {e:Int} (R:IsR h p r l e):r<h.next:=by obtain ⟨a,n,c,h1,_⟩:=R.ex;exact h.aW h1
def r110 {a:Option Addr} {n c:Nat} {l:List Nat} {h:ae} (hl:aq a n h=some l) (hn:n<=21000) :
  ∃ r h',CD 110 [.slice a n c] h=some (ptr r 0,h')/\IsR h' h.next r l 0/\aM h h'/\h.next<=r:=by
 obtain ⟨a',c',h1,e1,e2,e3,e4,e5,_⟩:=r69b (c:=c) hl hn;have hb:dG [(.slice none 0 0),(.int .i64 0)] [(0,1,.slice a' n c')]=some (.agg [.slice a' n c',.int .i64 0].toArray):=rfl;refine ⟨h1.next,h1.alloc [.slice a' n c',.int .i64 0],aJ is110 rfl ((BQ _ _ _).trans ?_),⟨⟨a',n,c',by rw [ae.aX,DR rfl],(aw.alloc h1 _ (fun _=>False)).bytes e2 (fun _ _ _ h=>h),e3,fun y hy=>e5 y hy⟩,?_,?_,e4.next⟩,e4.trans (aw.alloc h1 _ _),e4.next⟩
 ·unfold t110;simp -implicitDefEqProofs only [af,e1,hb,aj,iL h1 [.slice a' n c',.int .i64 0] rfl]
 ·exact h1.n0_le_next
 ·rw [(ay hl).1];exact hn
def eql134 (b o:Nat):aE prog .eql 210 (ptr b o) (.pointer none)=some (.bool false):=by kernel_rfl
def cZ (a:Int):aE prog .neq 25 (.int .i64 a) (.int .i64 0)=some (.bool (a != 0)):=cS ..
def mN (a:Option Addr) (n c:Nat) (e:Int) : ∀ v ∈ [Value.slice a n c,.int .i64 e],nat8 v=none:=by intro v hv;simp only [EN,EU,GF] at hv;rcases hv with rfl|rfl<;>rfl
def r209 {p r:Nat} {l:List Nat} {h:ae} (R:IsR h p r l 0) {n:Nat} (hn:n<=l.length) :
  ∃ a' c' h',CD 209 [ptr r 0,ak n] h=some (.slice a' n c',h')/\aq a' n h'=some (l.take n)/\ct a' n c'=true/\IsR h' p r (l.drop n) 0/\aw h h' (fun c=>c=r)/\h'.next=h.next:=by
 obtain ⟨a,m,c,h1,h2,h3,hB⟩:=R.ex;have hm:=(ay h2).1;subst hm;have l0:ld1 (ptr r 0) h=some (.slice a l.length c,h):=aP h1 rfl;have l1:ld1 (ptr r 1) h=some (.int .i64 0,h):=aP h1 rfl;obtain ⟨a1,c1,e1,e2,e3,_⟩:=nm (vl:=none) (vh:=some (ak n)) (lo:=0) (hi:=n) h3 h2 (by omega) hn (by simp only [boundA,ak];rw [DR (by have:=jF h3;omega)];rfl) rfl;obtain ⟨a2,c2,f1,f2,f3,f4⟩:=nm (vl:=some (ak n)) (vh:=none) (lo:=n) (hi:=l.length) h3 h2 hn (DO _) rfl (by simp only [boundA,ak];rw [DR (by omega)];rfl);have hst:bX 1 (ptr r 0) (.slice a2 (l.length-n) c2) h=some (undef,h.set r [.slice a2 (l.length-n) c2,.int .i64 0]):=dK h1 (by simp) R.n0 rfl rfl;have kp:aw h (h.set r [.slice a2 (l.length-n) c2,.int .i64 0]) (fun c=>c=r):=aw.set R.n0 h1 (.inr rfl);have hap:=fun {a:Option Addr} {n:Nat} {l:List Nat} (e:aq a n h=some l)=>de e h1 (mN _ _ _ _);rw [FO,Nat.sub_zero] at e2;rw [Nat.sub_zero] at e1 e3;rw [EB (by simp)] at f2;refine ⟨a1,c1,h.set r [.slice a2 (l.length-n) c2,.int .i64 0],aJ yY rfl ((oe _ _ _ _).trans ?_),kp.bytes e2 (hap e2),e3,⟨⟨a2,l.length-n,c2,ae.bL R.n0 h1 _,kp.bytes f2 (hap f2),f3,fun y hy=>by obtain ⟨y0,q1,q2⟩:=f4 y hy;rw [<-q2];exact hB y0 q1⟩,R.n0,by have:=R.len;simp;omega,R.pr⟩,kp,rfl⟩
 have g1 : ¬((n:Int)<0):=by omega
 have g2 : ¬((n:Int)>(l.length:Int)):=by omega
 unfold t209;simp -implicitDefEqProofs only [af,eql134,aj,aH,D6,az,av,ax,DK,l1,cZ,EW,DJ,D3,ak,bU,g1,FN,l0,cV,dN,g2];rw [show (Value.int .i64 (n:Int))=ak n from rfl,e1];simp -implicitDefEqProofs only [af,aj,l0,f1,hst]
def r7 {p r:Nat} {l:List Nat} {h:ae} (R:IsR h p r l 0) {n:Nat} (hn:l.length<n) :
  ∃ h',CD 209 [ptr r 0,ak n] h=some (.slice none 0 0,h')/\IsR h' p r l 4/\aw h h' (fun c=>c=r)/\h'.next=h.next:=by
 obtain ⟨a,m,c,h1,h2,h3,hB⟩:=R.ex;have hm:=(ay h2).1;subst hm;have l0:ld1 (ptr r 0) h=some (.slice a l.length c,h):=aP h1 rfl;have l1:ld1 (ptr r 1) h=some (.int .i64 0,h):=aP h1 rfl;have hst:bX 1 (ptr r 1) (.int .i64 4) h=some (undef,h.set r [.slice a l.length c,.int .i64 4]):=dK h1 (by simp) R.n0 rfl rfl;have kp:aw h (h.set r [.slice a l.length c,.int .i64 4]) (fun c=>c=r):=aw.set R.n0 h1 (.inr rfl);refine ⟨h.set r [.slice a l.length c,.int .i64 4],aJ yY rfl ((oe _ _ _ _).trans ?_),⟨⟨a,l.length,c,ae.bL R.n0 h1 _,kp.bytes h2 (de h2 h1 (mN _ _ _ _)),h3,hB⟩,R.n0,R.len,R.pr⟩,kp,rfl⟩;have g1 : ¬((n:Int)<0):=by omega
 have g2:((n:Int)>(l.length:Int)):=by omega
 unfold t209;simp -implicitDefEqProofs only [af,eql134,aj,aH,D6,az,av,ax,DK,l1,cZ,EW,DJ,D3,ak,bU,g1,FN,l0,cV,dN,g2,GO,hst]
def r172 {p r:Nat} {l:List Nat} {h:ae} (R:IsR h p r l 0) {n:Nat} (hn:n<=l.length) (h8:n<=8) :
  ∃ h',CD 172 [ptr r 0,ak n] h=some (.int .u64 (be (l.take n)),h')/\IsR h' p r (l.drop n) 0/\aw h h' (fun c=>c=r)/\h'.next=h.next:=by
 obtain ⟨a,c,h1,e1,e2,e3,e4,e5,e6⟩:=r209 R hn;refine ⟨h1,aJ is172 rfl ((wx _ _ _ _).trans ?_),e4,e5,e6⟩;exact Dz e1 e2 h8
end
section
def IsR.byte {h:ae} {p r:Nat} {l:List Nat} {e:Int} (R:IsR h p r l e) : ∀ x∈l,x<256:=by obtain ⟨a,n,c,_,h2,_⟩:=R.ex;exact (ay h2).2.1
def r170 {p r:Nat} {l:List Nat} {h:ae} {e:Int} (R:IsR h p r l e):CD 170 [ptr r 0] h=some (.int .i64 e,h):=by obtain ⟨a,n,c,h1,_,_⟩:=R.ex;have l1:ld1 (ptr r 1) h=some (.int .i64 e,h):=aP h1 rfl;refine aJ is170 rfl ((DG _ _ _).trans ?_);unfold t170;simp -implicitDefEqProofs only [af,eql134,aj,av,ax,DK,l1]
end
end
end Go.Proofs.YtdhpgacmgebjdaaGreatDoor.W.R
namespace Go.Proofs.YtdhpgacmgebjdaaGreatDoor.W.R
open Go Go.Abs
noncomputable section
section
attribute [local congr] aC
@[ext] structure Rd where
  l:List Nat
  e:Int
def Rd.take (s:Rd) (n:Nat):List Nat×Rd:=if s.e=0 then (if n<=s.l.length then (s.l.take n,⟨s.l.drop n,0⟩) else ([],⟨s.l,4⟩)) else ([],s)
def Rd.eS (s:Rd) (n:Nat):Nat×Rd:=(be (s.take n).1,(s.take n).2)
def Rd.text (s:Rd):List Nat×Rd:=if s.e=0 then (if ((s.eS 2).2.take (s.eS 2).1).2.e=0 then (s.eS 2).2.take (s.eS 2).1 else ([],⟨s.l,((s.eS 2).2.take (s.eS 2).1).2.e⟩)) else ([],s)
abbrev mC (h:ae) (p r:Nat) (s:Rd):Prop:=IsR h p r s.l s.e
def Rd.take_ok {s:Rd} {n:Nat} (h:s.e=0) (hn:n<=s.l.length):s.take n=(s.l.take n,⟨s.l.drop n,0⟩):=by unfold Rd.take;rw [DR h,DR hn]
def Rd.yZ {s:Rd} {n:Nat} (h:s.e=0) (hn:s.l.length<n):s.take n=([],⟨s.l,4⟩):=by unfold Rd.take;rw [DR h,DU (by omega)]
def Rd.take_err {s:Rd} {n:Nat} (h:s.e≠0):s.take n=([],s):=by unfold Rd.take;rw [DU h]
def Rd.yD (s:Rd) (n:Nat):(s.take n).1.length<=n:=by
 unfold Rd.take;split
 ·split
  ·rw [E0];omega
  ·exact FB _
 ·exact FB _
def Rd.AT {s:Rd} (hb : ∀ x∈s.l,x<256) (n:Nat):(∀ x∈(s.take n).1,x<256) /\ ∀ x∈(s.take n).2.l,x<256:=by
 unfold Rd.take;split
 ·split
  ·exact ⟨fun x hx=>hb x (EH hx),fun x hx=>hb x (ET hx)⟩
  ·exact ⟨fun x hx=>(by cases hx),hb⟩
 ·exact ⟨fun x hx=>(by cases hx),hb⟩
def be_lt' {l:List Nat} {n:Nat} (hl:l.length<=n) (hb : ∀ x∈l,x<256):be l<256^n:=FC (pN l.length l rfl hb) (IB (by decide) hl)
def Rd.mn {s:Rd} (hb : ∀ x∈s.l,x<256) (n:Nat):(s.eS n).1<256^n:=be_lt' (s.yD n) (s.AT hb n).1
def IsR.ne {h:ae} {p r:Nat} {l:List Nat} {e:Int} (R:IsR h p r l e) (he:e≠0) {n:Int}:CD 209 [ptr r 0,.int .i64 n] h=some (.slice none 0 0,h):=by
 obtain ⟨a,m,c,h1,_,_⟩:=R.ex;have l1:ld1 (ptr r 1) h=some (.int .i64 e,h):=aP h1 rfl;have hq:(e != 0)=true:=by simpa using he
 refine aJ yY rfl ((oe _ _ _ _).trans ?_);unfold t209;simp -implicitDefEqProofs only [af,eql134,aj,aH,D6,az,av,ax,DK,l1,cZ,hq,DJ,D3]
section
variable {p r:Nat} {s:Rd} {h:ae} (R:mC h p r s)
include R
def q209 (n:Nat) : ∃ a c h',CD 209 [ptr r 0,ak n] h=some (.slice a (s.take n).1.length c,h')/\aq a (s.take n).1.length h'=some (s.take n).1/\ct a (s.take n).1.length c=true/\mC h' p r (s.take n).2/\aw h h' (fun c=>c=r)/\h'.next=h.next:=by
 obtain ⟨l,e⟩:=s;by_cases he:e=0
 ·subst he;by_cases hn:n<=l.length
  ·rw [Rd.take_ok rfl hn];obtain ⟨a,c,h',e1,e2,e3,e4,e5,e6⟩:=r209 R hn;have hl:(l.take n).length=n:=by rw [E0];exact GD hn
   refine ⟨a,c,h',?_,?_,?_,e4,e5,e6⟩
   ·simp only [hl];exact e1
   ·simp only [hl];exact e2
   ·simp only [hl];exact e3
  ·rw [Rd.yZ rfl (by omega:l.length<n)];obtain ⟨h',e1,e2,e3,e4⟩:=r7 R (by omega:l.length<n);exact ⟨none,0,h',e1,rfl,rfl,e2,e3,e4⟩
 ·rw [Rd.take_err he];exact ⟨none,0,h,R.ne he,rfl,rfl,R,aw.refl _ _,rfl⟩
def q172 {n:Nat} (h8:n<=8) : ∃ h',CD 172 [ptr r 0,ak n] h=some (.int .u64 ((s.eS n).1:Nat),h')/\mC h' p r (s.eS n).2/\aw h h' (fun c=>c=r)/\h'.next=h.next:=by
 obtain ⟨l,e⟩:=s;by_cases hz:e=0/\n<=l.length
 ·obtain ⟨rfl,hn⟩:=hz;obtain ⟨h',e1,e2,e3,e4⟩:=r172 R hn h8;unfold Rd.eS;rw [Rd.take_ok rfl hn];exact ⟨h',e1,e2,e3,e4⟩
 ·have hm:(Rd.take ⟨l,e⟩ n).1 = []:=by
   by_cases he:e=0
   ·rw [Rd.yZ he (by show l.length<n;have : ¬n<=l.length:=fun h=>hz ⟨he,h⟩;omega)]
   ·rw [Rd.take_err he]
  obtain ⟨a,c,h',e1,e2,e3,e4,e5,e6⟩:=q209 R n;unfold Rd.eS;rw [hm] at e1 e2 |-;refine ⟨h',aJ is172 rfl ((wx _ _ _ _).trans ?_),e4,e5,e6⟩;have e1:CD 209 [ptr r 0,ak n] h=some (.slice a 0 c,h'):=e1;exact Dz e1 e2 (FB _)
def q111 : ∃ h',CD 111 [ptr r 0] h=some (.int .u8 ((s.eS 1).1:Nat),h')/\mC h' p r (s.eS 1).2/\aw h h' (fun c=>c=r)/\h'.next=h.next:=by obtain ⟨h1,e1,e2⟩:=q172 R (n:=1) (by decide);refine ⟨h1,aJ is111 rfl ((C9 _ _ _).trans ?_),e2⟩;have e1:CD 172 [ptr r 0,.int .i64 1] h=_:=e1;have hb:(s.eS 1).1<256:=Rd.mn R.byte 1;have hw:IntKind.wrap .u8 (((s.eS 1).1:Nat):Int)=((s.eS 1).1:Nat):=wrap_u8 (by omega) (by omega);unfold t111;simp -implicitDefEqProofs only [af,e1,bV,hw]
def q168 : ∃ h',CD 168 [ptr r 0] h=some (.int .u16 ((s.eS 2).1:Nat),h')/\mC h' p r (s.eS 2).2/\aw h h' (fun c=>c=r)/\h'.next=h.next:=by obtain ⟨h1,e1,e2⟩:=q172 R (n:=2) (by decide);refine ⟨h1,aJ is168 rfl ((Ck _ _ _).trans ?_),e2⟩;have e1:CD 172 [ptr r 0,.int .i64 2] h=_:=e1;have hb:(s.eS 2).1<65536:=Rd.mn R.byte 2;have hw:IntKind.wrap .u16 (((s.eS 2).1:Nat):Int)=((s.eS 2).1:Nat):=yh (by omega) (by omega);unfold t168;simp -implicitDefEqProofs only [af,e1,bV,hw]
def q112 : ∃ h',CD 112 [ptr r 0] h=some (.int .u64 ((s.eS 8).1:Nat),h')/\mC h' p r (s.eS 8).2/\aw h h' (fun c=>c=r)/\h'.next=h.next:=by obtain ⟨h1,e1,e2⟩:=q172 R (n:=8) (by decide);refine ⟨h1,aJ is112 rfl ((Du _ _ _).trans ?_),e2⟩;have e1:CD 172 [ptr r 0,.int .i64 8] h=_:=e1;unfold t112;simp -implicitDefEqProofs only [af,e1]
def q169 {n:Nat} : ∃ a c h',CD 169 [ptr r 0,ak n] h=some (.slice a (s.take n).1.length c,h')/\aq a (s.take n).1.length h'=some (s.take n).1/\ct a (s.take n).1.length c=true/\mC h' p r (s.take n).2/\aw h h' (fun c=>c=r) /\
  (∀ y,a=some y->h.next<=y.block):=by
 obtain ⟨a,c,h1,e1,e2,e3,e4,e5,e6⟩:=q209 R n;have hlen:(s.take n).1.length<=21000:=by
  obtain ⟨l,e⟩:=s;have:l.length<=21000:=R.len;unfold Rd.take;split
  ·split
   ·rw [E0];show min n l.length<=_;omega
   ·exact FB _
  ·exact FB _
 obtain ⟨a',c',h2,f1,f2,f3,f4,f5,_⟩:=r69b (c:=c) e2 hlen;refine ⟨a',c',h2,aJ is169 rfl ((vX _ _ _ _).trans ?_),f2,f3,e4.keep (B:=fun _=>False) f4,e5.also f4 (fun _ _ h=>h.elim),fun y hy=>e6▸(f5 y hy).1⟩;unfold t169;simp -implicitDefEqProofs only [af,e1,f1]
def q170:CD 170 [ptr r 0] h=some (.int .i64 s.e,h):=r170 R
end
end
end
end Go.Proofs.YtdhpgacmgebjdaaGreatDoor.W.R
namespace Go.Proofs.YtdhpgacmgebjdaaGreatDoor.W.R
open Go Go.Abs Tryz
noncomputable section
section
attribute [local congr] aC
def Rd.take_small {s:Rd} (hl:s.l.length<=21000) (n:Nat):(s.take n).1.length<=21000:=by
 unfold Rd.take;split
 ·split
  ·rw [E0];omega
  ·exact FB _
 ·exact FB _
def gtr30 (n:Nat):aE prog .gtr 3 (ak n) (.int .i64 0)=some (.bool (decide (0<n))):=gtr3 n 0
def Rd.fin (s:Rd):Int:=if s.e=0 then (if s.l = [] then 0 else 5) else s.e
def lP (m:List Nat):List Nat:=m++List.replicate (32-m.length) 0
section
variable {p r:Nat} {s:Rd} {h:ae} (R:mC h p r s)
include R
def q211:CD 211 [ptr r 0] h=some (.int .i64 s.fin,h):=by
 obtain ⟨l,e⟩:=s;obtain ⟨a,n,c,h1,h2,_⟩:=R.ex;have hn:l.length=n:=(ay h2).1;subst hn;have l0:ld1 (ptr r 0) h=some (.slice a l.length c,h):=aP h1 rfl;have hl:cI (.slice a l.length c)=some (ak l.length):=rfl;have e75:=q170 R;refine aJ is211 rfl ((t211_eq _ _ _).trans ?_);unfold t211 Rd.fin;by_cases he:e=0
 ·subst he;cases l with
  |nil=>
   simp -implicitDefEqProofs only [af,e75,cZ,EW,aj,av,ax,l0,hl,gtr30];rfl
  |cons x l=>
   have hd:decide (0<(x::l).length)=true:=by simp
   simp -implicitDefEqProofs only [af,e75,cZ,EW,aj,av,ax,l0,hl,gtr30,hd];simp
 ·have hq:(e != 0)=true:=by simpa using he
  simp -implicitDefEqProofs only [af,e75,cZ,hq,aj];rw [DU he]
def q174 : ∃ a c h',CD 174 [ptr r 0] h=some (.slice a s.text.1.length c,h')/\aq a s.text.1.length h'=some s.text.1/\ct a s.text.1.length c=true/\mC h' p r s.text.2/\aw h h' (fun c=>c=r) /\
  (∀ y,a=some y->h.next<=y.block):=by
 have l1:ld1 (ptr r 1) h=some (.int .i64 s.e,h):=by obtain ⟨a,n,c,h1,_,_⟩:=R.ex;exact aP h1 rfl
 by_cases he:s.e=0
 ·obtain ⟨a,n,c,h1,h2,h3,hB⟩:=R.ex;have hn:s.l.length=n:=(ay h2).1;subst hn;have l0:ld1 (ptr r 0) h=some (.slice a s.l.length c,h):=aP h1 rfl;have hap:=de h2 h1 (mN _ _ _ _);obtain ⟨g1,e1,R1,k1,n1⟩:=q172 R (n:=2) (by decide);have e1:CD 172 [ptr r 0,.int .i64 2] h=some (.int .u64 ((s.eS 2).1:Nat),g1):=e1;have hb:(s.eS 2).1<65536:=Rd.mn R.byte 2;have hw:IntKind.wrap .i64 (((s.eS 2).1:Nat):Int)=((s.eS 2).1:Nat):=wrap_i64 (by omega) (by omega);obtain ⟨a2,c2,g2,e2,f2,f3,R2,k2,n2⟩:=q209 R1 (s.eS 2).1;have l1':ld1 (ptr r 1) g2=some (.int .i64 ((s.eS 2).2.take (s.eS 2).1).2.e,g2):=by obtain ⟨a,n,c,h1,_,_⟩:=R2.ex;exact aP h1 rfl
  have e2:CD 209 [ptr r 0,.int .i64 (((s.eS 2).1:Nat):Int)] g1=_:=e2;have ht:s.text=if ((s.eS 2).2.take (s.eS 2).1).2.e=0 then (s.eS 2).2.take (s.eS 2).1 else ([],⟨s.l,((s.eS 2).2.take (s.eS 2).1).2.e⟩):=by unfold Rd.text;rw [DR he]
  have hz:=Rd.take_small R1.len (s.eS 2).1;generalize (s.eS 2).2.take (s.eS 2).1=S2 at *;obtain ⟨m,s2⟩:=S2;by_cases he2:s2.e=0
  ·rw [DR he2] at ht;rw [ht];obtain ⟨a',c',g3,i1,i2,i3,i4,i5,_⟩:=r69b (c:=c2) f2 hz;refine ⟨a',c',g3,aJ is174 rfl ((wi _ _ _).trans ?_),i2,i3,R2.keep (B:=fun _=>False) i4,(k1.trans k2).also i4 (fun _ _ h=>h.elim),fun y hy=>by have:=(i5 y hy).1;omega⟩;unfold t174;have l1'':ld1 (ptr r 1) g2=some (.int .i64 0,g2):=by rw [l1',he2]
   have l1:ld1 (ptr r 1) h=some (.int .i64 0,h):=by rw [l1,he]
   simp -implicitDefEqProofs only [af,eql134,aj,aH,D6,az,av,ax,DK,l1,cZ,EW,DJ,D3,l0,e1,bV,hw,e2,l1'',i1]
  ·rw [DU he2] at ht;rw [ht];obtain ⟨a4,n4,c4,h4,h5,_⟩:=R2.ex;have hst:bX 1 (ptr r 0) (.slice a s.l.length c) g2=some (undef,g2.set r [.slice a s.l.length c,.int .i64 s2.e]):=dK h4 (by simp) R2.n0 rfl rfl;have k3:aw g2 (g2.set r [.slice a s.l.length c,.int .i64 s2.e]) (fun c=>c=r):=aw.set R2.n0 h4 (.inr rfl);have kk:=(k1.trans k2).trans k3;refine ⟨none,0,_,aJ is174 rfl ((wi _ _ _).trans ?_),rfl,rfl,⟨⟨a,s.l.length,c,ae.bL R2.n0 h4 _,kk.bytes h2 hap,h3,hB⟩,R2.n0,R.len,R.pr⟩,kk,fun y hy=>by cases hy⟩;unfold t174;have hq:(s2.e != 0)=true:=by simpa using he2
   have l1:ld1 (ptr r 1) h=some (.int .i64 0,h):=by rw [l1,he]
   simp -implicitDefEqProofs only [af,eql134,aj,aH,D6,az,av,ax,DK,l1,cZ,EW,DJ,D3,l0,e1,bV,hw,e2,l1',hq,hst];rfl
 ·have ht:s.text=([],s):=by unfold Rd.text;rw [DU he]
  rw [ht];have hq:(s.e != 0)=true:=by simpa using he
  refine ⟨none,0,h,aJ is174 rfl ((wi _ _ _).trans ?_),rfl,rfl,R,aw.refl _ _,fun y hy=>by cases hy⟩;unfold t174;simp -implicitDefEqProofs only [af,eql134,aj,aH,D6,az,av,ax,DK,l1,cZ,hq,DJ,D3];rfl
end
end
end
end Go.Proofs.YtdhpgacmgebjdaaGreatDoor.W.R
namespace Go.Proofs.YtdhpgacmgebjdaaGreatDoor.W.R
open Go Go.Abs
noncomputable section
section
attribute [local congr] aC
def kX (k n t:Int):Bool:=decide (1<=k)&&decide (k<=n)&&decide (n<=t)&&decide (t<=255)
def r103 {h:ae} (k n t:Int):CD 103 [.int .i64 k,.int .i64 n,.int .i64 t] h=some (.bool (kX k n t),h):=by
 refine aJ is103 rfl ((t103_eq _ _ _ _ _).trans ?_);unfold t103 kX;cases q0:decide (1<=k) with
 |false=>simp -implicitDefEqProofs only [af,af,aj,aH,fs,sf,D6,az,aG,DJ,D3,D8,ax,DK,Nat.reduceAdd,EP,EJ,dp,dA,nW,bU,dN,dm,cS,q0,EY,E3,HZ,E4,IV,IW,IP,HI,EP,EJ]
 |true=>
 cases q1:decide (k<=n) with
 |false=>simp -implicitDefEqProofs only [af,af,aj,aH,fs,sf,D6,az,aG,DJ,D3,D8,ax,DK,Nat.reduceAdd,EP,EJ,dp,dA,nW,bU,dN,dm,cS,q0,q1,EY,E3,HZ,E4,IV,IW,IP,HI,EP,EJ]
 |true=>
 cases q2:decide (n<=t) with
 |false=>simp -implicitDefEqProofs only [af,af,aj,aH,fs,sf,D6,az,aG,DJ,D3,D8,ax,DK,Nat.reduceAdd,EP,EJ,dp,dA,nW,bU,dN,dm,cS,q0,q1,q2,EY,E3,HZ,E4,IV,IW,IP,HI,EP,EJ]
 |true=>
 cases q3:decide (t<=255) with
 |false=>simp -implicitDefEqProofs only [af,af,aj,aH,fs,sf,D6,az,aG,DJ,D3,D8,ax,DK,Nat.reduceAdd,EP,EJ,dp,dA,nW,bU,dN,dm,cS,q0,q1,q2,q3,EY,E3,HZ,E4,IV,IW,IP,HI,EP,EJ]
 |true=>
 simp -implicitDefEqProofs only [af,af,aj,aH,fs,sf,D6,az,aG,DJ,D3,D8,ax,DK,Nat.reduceAdd,EP,EJ,dp,dA,nW,bU,dN,dm,cS,q0,q1,q2,q3,EY,E3,HZ,E4,IV,IW,IP,HI,EP,EJ]
end
end
end Go.Proofs.YtdhpgacmgebjdaaGreatDoor.W.R
namespace Go.Proofs.YtdhpgacmgebjdaaGreatDoor.W.R
open Go Go.Abs Tryz
noncomputable section
section
attribute [local congr] aC
def ye:cL prog 32=some 32:=by kernel_rfl
def tK (b o:Nat):sliceArr 32 1 (ptr b o) none none none=some (.slice (some ⟨b,o,none⟩) 32 32):=by unfold sliceArr;rfl
def IsR.keepB {h h':ae} {B:Nat->Prop} {p r:Nat} {l:List Nat} {e:Int} (R:IsR h p r l e) (k:aw h h' B) (hB : ∀ b,b=r\/(p<=b/\b<r) -> ¬B b):IsR h' p r l e:=by obtain ⟨a,n,c,h1,h2,h3,h4⟩:=R.ex;exact ⟨⟨a,n,c,k.getE h1 (hB r (.inl rfl)),k.bytes h2 (fun y hy _=>hB _ (.inr (h4 y hy))),h3,h4⟩,k.n0▸R.n0,R.len,R.pr⟩
def pad_len {m:List Nat} (h:m.length<=32):(lP m).length=32:=by unfold lP;rw [DW,HL];omega
def splice_pad {m:List Nat} {n:Nat} (hn:m.length=n) (h:n<=32):ey z32 0 (m.take (min n 32))=lP m:=by unfold ey lP z32;rw [GD h,EB (l:=m) (by omega),List.take_zero,List.nil_append,DK,List.drop_replicate]
section
variable {p r:Nat} {s:Rd} {h:ae} (R:mC h p r s)
include R
def q210 : ∃ h',CD 210 [ptr r 0] h=some (.agg (bA (lP (s.take 32).1)).toArray,h')/\mC h' p r (s.take 32).2/\aw h h' (fun c=>c=r):=by
 have hr:f210.results.toList = [.cell 2 32]:=by kernel_rfl
 have rl:r<h.next:=R.lt;obtain ⟨h0,z0,o0,g0,n0⟩:=fresh (List.replicate 32 (.int .u8 0)) h;have R0:mC h0 p r s:=R.keepB o0 (fun _ _ h=>h);obtain ⟨h1,z1,o1,g1,n1⟩:=fresh (List.replicate 32 (.int .u8 0)) h0;have R1:mC h1 p r s:=R0.keepB o1 (fun _ _ h=>h);obtain ⟨a,c,h2,e2,f2,f3,R2,k2,_⟩:=q209 R1 32;have e2:CD 209 [ptr r 0,.int .i64 32] h1=_:=e2;have g2:h2.get h0.next=some (bA z32):=k2.getE g1 (by omega);have g02:=k2.getE (aM.get o1 g0) (by omega);have p2:h2.n0<=h0.next:=by rw [k2.n0,o1.n0];exact h0.n0_le_next
 have hl:=s.yD 32;obtain ⟨h3,e3,q1,q2,q3,q4⟩:=js (dl:=32) (dc:=32) (c:=c) (s:=none) (off:=0) (b:=h0.next) g2 p2 f2 (by show 0+min _ 32<=32;omega)
 rw [splice_pad rfl hl] at q3;have k3:aw h2 h3 (fun c=>c=h0.next):=⟨q1,by omega,fun d _ hd=>q4 d hd⟩
 have hpl:(bA (lP (s.take 32).1)).length=32:=by rw [DY];exact pad_len hl
 have l3:=aV (n:=32) q3 hpl (bh _).1;have g03:=k3.getE g02 (by omega);have p3:h3.n0<=h.next:=by rw [q1,k2.n0,o1.n0,o0.n0];exact h.n0_le_next
 obtain ⟨h4,t4,k4,g4,_,_⟩:=aR (n:=32) (k':=bA (lP (s.take 32).1)) g03 p3 rfl hpl (bh _).2;have l4:=aV (n:=32) g4 hpl (bh _).1;refine ⟨h4,aJ is210 rfl ((t210_eq _ _ _).trans ?_),(R2.keepB k3 (fun b hb e=>by omega)).keepB k4 (fun b hb e=>by omega),((((o0.trans o1).mono (B':=fun c=>c=r) (fun _ _ h=>h.elim)).trans k2).also k3 (fun d hd e=>by omega)).also k4 (fun d hd e=>by omega)⟩;unfold t210;simp -implicitDefEqProofs only [z0,z1,af,tK,aj,e2,e3,l3,t4];exact tB hr yQ ye (show 2<9 by decide) _ l4
end
end
end
end Go.Proofs.YtdhpgacmgebjdaaGreatDoor.W.R
namespace Go.Proofs.YtdhpgacmgebjdaaGreatDoor.W
open Go Go.Abs
noncomputable section
section
attribute [local congr] aC
def oY {h:ae} {N len:Nat} {ks:List Kd} {v:Vl} {cells:List Vl} (o:cF h N ks.length v len cells) (t:oW ks len cells):j0 h ks v len cells:=by
 obtain ⟨o1,o2,o3,o4⟩:=o;rcases o4 with ⟨rfl,rfl⟩|⟨b,s,rfl,h5,⟨rfl,rfl⟩|⟨rfl,h6⟩⟩
 ·exact ⟨none,0,rfl,fun _=>rfl,t,fun h=>absurd h (GH 0)⟩
 ·exact ⟨_,_,rfl,fun h=>(by cases h),t,fun h=>absurd h (GH 0)⟩
 ·refine ⟨_,_,rfl,fun h=>(by cases h),t,fun _=>⟨b,0,_,cells,rfl,h6,by omega,?_⟩⟩;rw [FO,<-o1,GG]
def own_blk {h:ae} {N size len:Nat} {v:Vl} {cells:List Vl} (o:cF h N size v len cells) {b:Nat} (hb:AV v=some b):N<=b:=by
 obtain ⟨o1,o2,o3,o4⟩:=o;rcases o4 with ⟨rfl,rfl⟩|⟨b',s,rfl,h5,_⟩
 ·cases hb
 ·cases len with
  |zero=>cases hb
  |succ n=>cases hb;exact h5
def oF {h:ae} {N size len:Nat} {v:Vl} {cells:List Vl} (o:cF h N size v len cells) {b:Nat} (hb:bx v=some b):N<=b:=by
 obtain ⟨o1,o2,o3,o4⟩:=o;rcases o4 with ⟨rfl,rfl⟩|⟨b',s,rfl,h5,_⟩
 ·cases hb
 ·cases hb;exact h5
def slice1 {h:ae} {ks:List Kd} {b:Nat} {s:Option Nat} {cells:List Vl} (g:h.get b=some cells) (t:jS ks cells):j0 h ks (.slice (some ⟨b,0,s⟩) 1 1) 1 cells:=by
 have hl:cells.length=ks.length:=t.1;refine ⟨_,_,rfl,fun h=>(by cases h),⟨by rw [hl,Nat.one_mul],fun i hi => ?_⟩,fun _=>⟨b,0,s,cells,rfl,g,by omega,?_⟩⟩
 ·obtain rfl:i=0:=by omega
  rw [HF,FO,<-hl,GG];exact t
 ·rw [FO,Nat.one_mul,<-hl,GG]
def j0.slice {h:ae} {ks:List Kd} {v:Vl} {n:Nat} {cs:List Vl} (x:j0 h ks v n cs):ot v=some n:=by obtain ⟨a,c,rfl,_⟩:=x;rfl
end
end
end Go.Proofs.YtdhpgacmgebjdaaGreatDoor.W
namespace Go.Proofs.YtdhpgacmgebjdaaGreatDoor.W.R
open Go Go.Abs Tryz
noncomputable section
section
attribute [local congr] aC
structure ej where
 gk:Int
 gn:Int
 gt:Int
 gs:Int
 obj:List Nat
 cx:List (List Nat)
def ej.z:ej:=⟨0,0,0,0,z32,[]⟩
def dL (m:ej) (v:Vl):eW := [.int .i64 m.gk,.int .i64 m.gn,.int .i64 m.gt,.int .i64 m.gs]++(bA m.obj ++ [v])
structure ej.Wf (m:ej):Prop where
 gk:I64 m.gk
 gn:I64 m.gn
 gt:I64 m.gt
 gs:I64 m.gs
 obj:eE m.obj
 cx : ∀ x∈m.cx,eE x
def ej.z_wf:ej.z.Wf:=⟨i64_0,i64_0,i64_0,i64_0,z32_ok,fun x hx=>by cases hx⟩
def bF:Nat->Rd->List (List Nat)×Rd
 | 0,s=>([],s)
 |n+1,s=>(lP (s.take 32).1::(bF n (s.take 32).2).1,(bF n (s.take 32).2).2)
def pHead (l:List Nat):Nat×Nat×Nat×Nat×Nat×Rd:=
 let a0:=(⟨l,0⟩:Rd).eS 2
 let a1:=a0.2.eS 1
 let a2:=a1.2.eS 1
 let a3:=a2.2.eS 1
 let a4:=a3.2.eS 2
 (a0.1,a1.1,a2.1,a3.1,a4.1,a4.2)
def fW (l:List Nat):ej×Int:=
 let q:=pHead l
 let s:=q.2.2.2.2.2
 if s.e≠0 then (ej.z,s.e) else
 if q.1≠19713 then (ej.z,5) else
 if kX q.2.1 q.2.2.1 q.2.2.2.1=false\/(8192:Int)<q.2.2.2.2.1 then (ej.z,2) else
 if (bF q.2.2.2.1 (s.take 32).2).2.fin≠0 then (ej.z,(bF q.2.2.2.1 (s.take 32).2).2.fin) else
 (⟨q.2.1,q.2.2.1,q.2.2.2.1,q.2.2.2.2.1,lP (s.take 32).1,(bF q.2.2.2.1 (s.take 32).2).1⟩,0)
def pad_ok {s:Rd} (hb : ∀ x∈s.l,x<256):eE (lP (s.take 32).1):=by
 refine ⟨pad_len (s.yD 32),fun x hx => ?_⟩;unfold lP at hx;rcases EF.1 hx with hx|hx
 ·exact (s.AT hb 32).1 x hx
 ·have:=EZ hx;omega
def Dd {m:ej} {v:Vl} (h:m.obj.length=32) (hv:cw v=false/\v.oneCell'=true):(dL m v).length=37/\Abs.noHoles (dL m v)=true/\aN (dL m v)=true:=by unfold dL;refine ⟨?_,wC rfl (wC (bh _).1 (noH_one hv.1)),zp rfl (zp (bh _).2 (by simp [aN,hv.2]))⟩;simp [h]
def Dx {n:Nat} {z cells:List Vl} (h:ae) (hz:z.length=n) (hf:bD z=true) (h0:0<n) (hn:n<=16777216) (hl:cells.length=n) (ho:aN cells=true):fE n (.agg z.toArray) 1 [(0,.agg cells.toArray)] h=some (.slice (some ⟨h.next,0,none⟩) 1 1,h.alloc cells):=by
 have c1:(Value.agg z.toArray).cells=z.toArray:=rfl;have c2:(Value.agg cells.toArray).cells=cells.toArray:=rfl;have hzz:dC z 1=z:=by simp [dC]
 unfold fE;simp only [c1,E9,List.flatMap_nil,GM,c2,ES,HH,HF,Nat.one_mul,E7];rw [DR (by simp [hf,hz,h0,hn,ho]),hzz];have:=fill_mid (z:=z) (A := []) (B:=z) (C := []) (B':=cells) (o:=0) (n:=n) (rest := []) (by simp) rfl hz hl;rw [this];simp [jT]
def mset4 {m:ej} {v:Vl} {o:List Nat} (h:m.obj.length=32) (ho:o.length=32):splice (dL m v) 4 (bA o)=dL { m with obj:=o } v:=rX (A := [.int .i64 m.gk,.int .i64 m.gn,.int .i64 m.gt,.int .i64 m.gs]) (B:=bA m.obj) (n:=32) rfl (by simp [h]) (by simp [ho])
def mset36 {m:ej} {v w:Vl} (h:m.obj.length=32):(dL m v).set 36 w=dL m w:=wj (A := [.int .i64 m.gk,.int .i64 m.gn,.int .i64 m.gt,.int .i64 m.gs]) 32 rfl (wj 0 (by simp [h]) rfl)
def mat36 {m:ej} {v:Vl} (h:m.obj.length=32):(dL m v)[36]? = some v:=get_app (A := [.int .i64 m.gk,.int .i64 m.gn,.int .i64 m.gt,.int .i64 m.gs]) 32 rfl (get_app 0 (by simp [h]) rfl)
def stored_mid {h:ae} {b o n:Nat} {k B':eW} (g:h.get b=some k) (hn:h.n0<=b) (ho:o+n<=k.length) (hB:B'.length=n) (h1:aN B'=true) : ∃ h2,bX n (ptr b o) (.agg B'.toArray) h=some (undef,h2)/\aw h h2 (· = b)/\h2.get b=some (splice k o B')/\h2.n0<=b/\h2.next=h.next:=by
 refine ⟨h.set b (splice k o B'),?_,aw.set hn g (.inr rfl),ae.bL hn g _,hn,rfl⟩;unfold bX ptr;have hc:(Value.agg B'.toArray).cells=B'.toArray:=rfl;simp only [hc,E7,hB,D8];unfold stL;simp only [g];rw [DR (by
  have:o+B'.length<=k.length:=by omega
  simp only [DS hn,DS this,h1,G7])]
 rfl
def rj:sO prog 35=some true:=by kernel_rfl
def uB:cL prog 35=some 37:=by kernel_rfl
def results173:f173.results.toList = [.cell 2 35,.tmp 3]:=by kernel_rfl
def b173_exit (C:ah) (e:aQ) (h:ae):Cv C 0 e h=Ci C e h:=rfl
def is173:bJ prog 173 f173 := .of (by kernel_rfl)
def man_end {h0 h:ae} {b:Nat} {k k':eW} (o:aM h0 h) (hb:h0.next<=b) (g:h.get b=some k) (hk:k.length=37) (c:k'.length=37/\Abs.noHoles k'=true/\aN k'=true) : ∃ h',bX 37 (ptr b 0) (.agg k'.toArray) h=some (undef,h')/\bZ 37 (ptr b 0) h'=some (.agg k'.toArray,h')/\aM h0 h'/\aw h h' (· = b):=by
 have hn:h.n0<=b:=by rw [o.n0];exact ED h0.n0_le_next hb
 obtain ⟨h',e1,k1,g1,_,_⟩:=aR (n:=37) g hn hk c.1 c.2.2;exact ⟨h',e1,aV g1 c.1 c.2.1,aM.bu o k1 hb,k1⟩
structure DmI (hl:ae) (p r D n:Nat) (m:ej) (c2:Vl) (s0:Rd) (k:Nat) (y:Nat->Vl) (g:ae) (i:Nat) (ps:List (List Nat)) (s1:Rd) (v:Vl):Prop where
 ik:i+k=n
 y2:y 2=c2
 y4:y 4=ptr r 0
 y6:y 6=ptr D 0
 y53:y 53=ak n
 y54:y 54=ak i
 gd:g.get D=some (dL m v)
 o:cF g hl.next 32 v ps.length (ps.flatMap bA)
 w : ∀ x∈ps,eE x
 l:ps.length=i
 R:mC g p r s1
 K:aw hl g (fun c=>c=r\/c=D)
 e:bF n s0=(ps++(bF k s1).1,(bF k s1).2)
def dmInv (hl:ae) (p r D n:Nat) (m:ej) (c2:Vl) (s0:Rd) (k:Nat) (y:Nat->Vl) (g:ae):Prop := ∃ i ps s1 v,DmI hl p r D n m c2 s0 k y g i ps s1 v
def dmFin (hl:ae) (p r D n:Nat) (m:ej) (c2:Vl) (s0:Rd) (ex:Ex) (y:Nat->Vl) (g:ae):Prop:=
 ex = .exit 0/\y 2=c2/\y 4=ptr r 0/\y 6=ptr D 0 /\ ∃ v,g.get D=some (dL m v)/\cF g hl.next 32 v (bF n s0).1.length ((bF n s0).1.flatMap bA)/\(∀ x∈(bF n s0).1,eE x)/\mC g p r (bF n s0).2/\aw hl g (fun c=>c=r\/c=D)
def dmRound {hl:ae} {p r D n:Nat} {m:ej} {c2:Vl} {s0:Rd} (hn:n<256) (hm:m.obj.length=32) (hrD:r<D) (hD:D<hl.next) (hD0:hl.n0<=D) : ∀ k y g,dmInv hl p r D n m c2 s0 k y g->dE 71 (dmInv hl p r D n m c2 s0) (dmFin hl p r D n m c2 s0) k (ez CD y g):=by
 rintro k y g ⟨i,ps,s1,v,I⟩;unfold ez;cases k with
 |zero=>
  have hd:decide (i<n)=false:=DP (by have:=I.ik;omega);simp -implicitDefEqProofs only [I.y54,I.y53,fF,hd,af,aj];have he:bF n s0=(ps,s1):=by rw [I.e];simp [bF]
  exact dE.out 0 ⟨rfl,I.y2,I.y4,I.y6,v,I.gd,by rw [he];exact I.o,by rw [he];exact I.w,by rw [he];exact I.R,I.K⟩
 |succ k=>
  have hik:=I.ik;have hd:decide (i<n)=true:=DS (by omega);have hcell:cw v=false/\v.oneCell'=true/\v.cells = #[v]:=iu (oY (ks:=fK) I.o (fq (P:=eE) (fun a ha=>bO ha) _ I.w));have l0:ld1 (ptr D 36) g=some (v,g):=aP I.gd (mat36 hm) hcell.1;obtain ⟨g1,e1,R1,k1⟩:=q210 I.R;have hd32:=pad_ok I.R.byte;generalize hdg:lP (s1.take 32).1=d at *;have G1:g1.get D=some (dL m v):=k1.getE I.gd (by omega);have l1:ld1 (ptr D 36) g1=some (v,g1):=aP G1 (mat36 hm) hcell.1;have hv:Abs.veq v v=true:=(oY (ks:=fK) I.o (fq (P:=eE) (fun a ha=>bO ha) _ I.w)).veq;have w1:=eQ l1 hv;have hbs:=Dx (n:=32) (z:=List.replicate 32 (.int .u8 0)) g1 rfl rfl (by decide) (by decide) (bf hd32) (bh d).2;have oa:aM g1 (g1.alloc (bA d)):=aw.alloc _ _ _;have ga:(g1.alloc (bA d)).get g1.next=some (bA d):=by rw [ae.aX,DR rfl]
  generalize g1.alloc (bA d)=g2 at *;have S:=slice1 (s:=none) ga (bO hd32);have kk:aw g g2 (fun c=>c=r):=k1.trans (oa.mono (fun _ _ h=>h.elim));have O2:=I.o.keep kk (fun b hb e=>by have:=oF I.o hb;omega);have p2:g2.n0<=hl.next:=by rw [kk.n0,I.K.n0];exact hl.n0_le_next
  obtain ⟨v',g3,e3,O3,k3,_⟩:=ic (qX:=32) O2 p2 (ED I.K.next kk.next) (by decide) S.slice (S.first (by decide)) (bh d).2 (bh d).1 (by rw [bf hd32]) (by have:=I.l;omega) (by have:=I.l;omega);have R2:=R1.keepB oa (fun _ _ h=>h);have R3:mC g3 p r _:=R2.keepB k3 (fun b hb e=>by have:=oF O2 e.1;omega);have G3:g3.get D=some (dL m v):=k3.getE (aM.get oa G1) (fun e=>by have:=oF O2 e.1;omega);have p3:g3.n0<=D:=by rw [k3.n0,kk.n0,I.K.n0];exact hD0
  have O3':cF g3 hl.next 32 v' (ps ++ [d]).length ((ps ++ [d]).flatMap bA):=by rw [GP,DW];simpa using O3
  have hcell':cw v'=false/\v'.oneCell'=true/\v'.cells = #[v']:=iu (oY (ks:=fK) O3' (fq (P:=eE) (fun a ha=>bO ha) _ (by
   intro x hx;rcases EF.1 hx with hx|hx
   ·exact I.w x hx
   ·simp only [EN,EU,GF] at hx;subst hx;exact hd32)))
  obtain ⟨g4,e4,k4,G4,_,n4⟩:=stored (v:=v') (o:=36) G3 p3 (by rw [(Dd hm ⟨hcell.1,hcell.2.1⟩).1];decide) hcell'.2.2 hcell'.2.1;rw [mset36 hm] at G4;have R4:=R3.keepB k4 (fun b hb e=>by omega);have O4:=O3'.keep k4 (fun b hb e=>by have:=oF O3' hb;omega);simp -implicitDefEqProofs only [I.y54,I.y53,fF,hd,I.y6,ax,DK,l0,I.y4,e1,hbs,e3,e4,w1,EY,ei (show i+1<=9223372036854775807 by omega),af,aj];refine dE.next k (by omega) ⟨i+1,ps ++ [d],_,v',by omega,I.y2,I.y4,I.y6,I.y53,rfl,G4,O4,?_,by rw [DW,I.l];rfl,R4,?_,?_⟩
  ·intro x hx;rcases EF.1 hx with hx|hx
   ·exact I.w x hx
   ·simp only [EN,EU,GF] at hx;subst hx;exact hd32
  ·refine ((I.K.trans (kk.mono (fun _ _ h => .inl h))).also k3 (fun d hd e => ?_)).trans (k4.mono (fun _ _ h => .inr h));have:=oF O2 e.1;omega
  ·rw [I.e,<-hdg];simp [bF]
set_option maxRecDepth 100000 in
def q173 {h:ae} {a:Option Addr} {n c:Nat} {l:List Nat} (hl:aq a n h=some l) (hn:n<=21000) : ∃ v h',CD 173 [.slice a n c] h=some (.tuple #[.agg (dL (fW l).1 v).toArray,.int .i64 (fW l).2],h')/\aM h h'/\(fW l).1.Wf/\j0 h' fK v (fW l).1.cx.length ((fW l).1.cx.flatMap bA)/\(∀ b,AV v=some b->h.next<=b):=by
 obtain ⟨hlen,hby,_⟩:=ay hl;obtain ⟨h1,z1,o1,g1,n1⟩:=fresh fy h;have bz:dG fy []=some (.agg (dL ej.z (.slice none 0 0)).toArray):=rfl;have cz:(dL ej.z (.slice none 0 0)).length=37/\Abs.noHoles (dL ej.z (.slice none 0 0))=true/\aN (dL ej.z (.slice none 0 0))=true:=⟨rfl,rfl,rfl⟩
 obtain ⟨r,h2,e2,R2,o2,lr⟩:=r110 (h:=h1) (c:=c) (aM.bytes o1 hl) hn;have R2:mC h2 h1.next r ⟨l,0⟩:=R2;have rl2:=R2.lt;obtain ⟨h3,e3,R3,k3,n3⟩:=q168 R2;obtain ⟨h4,e4,R4,k4,n4⟩:=q111 R3;obtain ⟨h5,e5,R5,k5,n5⟩:=q111 R4;obtain ⟨h6,e6,R6,k6,n6⟩:=q111 R5;obtain ⟨h7,e7,R7,k7,n7⟩:=q168 R6;have b3:((⟨l,0⟩:Rd).eS 2).1<65536:=Rd.mn R2.byte 2;have b4:=Rd.mn R3.byte 1;have b5:=Rd.mn R4.byte 1;have b6:=Rd.mn R5.byte 1;have b7:=Rd.mn R6.byte 2;have hdec:fW l=(let q:=pHead l;let s:=q.2.2.2.2.2;if s.e≠0 then (ej.z,s.e) else if q.1≠19713 then (ej.z,5) else if kX q.2.1 q.2.2.1 q.2.2.2.1=false\/(8192:Int)<q.2.2.2.2.1 then (ej.z,2) else if (bF q.2.2.2.1 (s.take 32).2).2.fin≠0 then (ej.z,(bF q.2.2.2.1 (s.take 32).2).2.fin) else (⟨q.2.1,q.2.2.1,q.2.2.2.1,q.2.2.2.2.1,lP (s.take 32).1,(bF q.2.2.2.1 (s.take 32).2).1⟩,0)):=rfl;have hq:pHead l=(((⟨l,0⟩:Rd).eS 2).1,((((⟨l,0⟩:Rd).eS 2).2).eS 1).1,((((((⟨l,0⟩:Rd).eS 2).2).eS 1).2).eS 1).1,((((((((⟨l,0⟩:Rd).eS 2).2).eS 1).2).eS 1).2).eS 1).1,((((((((((⟨l,0⟩:Rd).eS 2).2).eS 1).2).eS 1).2).eS 1).2).eS 2).1,((((((((((⟨l,0⟩:Rd).eS 2).2).eS 1).2).eS 1).2).eS 1).2).eS 2).2):=rfl;rw [hdec,hq];simp only;generalize ((⟨l,0⟩:Rd).eS 2).1=v0 at *;generalize ((⟨l,0⟩:Rd).eS 2).2=s3 at *;generalize (s3.eS 1).1=v1 at *;generalize (s3.eS 1).2=s4 at *;generalize (s4.eS 1).1=v2 at *;generalize (s4.eS 1).2=s5 at *;generalize (s5.eS 1).1=v3 at *;generalize (s5.eS 1).2=s6 at *;generalize (s6.eS 2).1=v4 at *;generalize (s6.eS 2).2=s7 at *;clear hdec hq;have w1:IntKind.wrap .i64 (v1:Int)=(v1:Int):=wrap_i64 (by omega) (by omega);have w2:IntKind.wrap .i64 (v2:Int)=(v2:Int):=wrap_i64 (by omega) (by omega);have w3:IntKind.wrap .i64 (v3:Int)=(v3:Int):=wrap_i64 (by omega) (by omega);have w4:IntKind.wrap .i64 (v4:Int)=(v4:Int):=wrap_i64 (by omega) (by omega);have i1:I64 (v1:Int):=⟨by omega,by omega⟩
 have i2:I64 (v2:Int):=⟨by omega,by omega⟩
 have i3:I64 (v3:Int):=⟨by omega,by omega⟩
 have i4:I64 (v4:Int):=⟨by omega,by omega⟩
 have K27:aw h2 h7 (fun c=>c=r):=(((k3.trans k4).trans k5).trans k6).trans k7;have O7:aM h1 h7:=o2.also K27 (fun d hd e=>by omega);have bm:dG fy [(0,1,.int .i64 (v1:Int)),(1,1,.int .i64 (v2:Int)),(2,1,.int .i64 (v3:Int)),(3,1,.int .i64 (v4:Int))]=some (.agg (dL ⟨v1,v2,v3,v4,z32,[]⟩ (.slice none 0 0)).toArray):=rfl;obtain ⟨h8,z8,o8,g8,n8⟩:=fresh fy h7;have p8:h8.n0<=h7.next:=by rw [o8.n0];exact h7.n0_le_next
 obtain ⟨h9,e9,k9,g9,p9,n9⟩:=aR (n:=37) (k':=dL ⟨v1,v2,v3,v4,z32,[]⟩ (.slice none 0 0)) g8 p8 rfl rfl rfl;have o79:aM h7 h9:=aM.bu o8 k9 (DO _);have O9:=O7.trans o79;have R9:=R7.keepB o79 (fun _ _ h=>h);have e10:=q170 R9;have g1':=aM.get O9 g1;have rl9:=R9.lt;have m7:=O7.next;have fin0 : ∀ (er:Int) {g:ae},aM h g->g.get h.next=some fy -> ∃ h',bX 37 (ptr h.next 0) (.agg (dL ej.z (.slice none 0 0)).toArray) g=some (undef,h')/\bZ 37 (ptr h.next 0) h'=some (.agg (dL ej.z (.slice none 0 0)).toArray,h')/\aM h h':=fun er g o gg=>by obtain ⟨h',a1,a2,a3,_⟩:=man_end o (DO _) gg rfl cz;exact ⟨h',a1,a2,a3⟩
 by_cases c1:s7.e≠0
 ·rw [DR c1];have q1:aE prog .neq 25 (.int .i64 s7.e) (.int .i64 0)=some (.bool true):=by rw [cS];simpa using c1
  obtain ⟨h',f1,f2,f3⟩:=fin0 s7.e (o1.trans O9) g1';refine ⟨.slice none 0 0,h',aJ is173 rfl ((vW _ _ _).trans ?_),f3,ej.z_wf,.nil _ _,fun b hb=>by cases hb⟩;unfold t173;simp -implicitDefEqProofs only [z1,e2,e3,e4,bV,w1,e5,w2,e6,w3,e7,w4,bm,z8,e9,e10,af,aj,ax,DK,q1,bz,f1];exact ew results173 rj uB (show 2<71 by decide) (show 3<71 by decide) _ f2
 rw [DU c1];have q1:aE prog .neq 25 (.int .i64 s7.e) (.int .i64 0)=some (.bool false):=by rw [cS];simpa using c1
 by_cases c2:v0≠19713
 ·rw [DR c2];have q2:aE prog .neq 222 (.int .u16 (v0:Int)) (.int .u16 19713)=some (.bool true):=by
   rw [cS];have:(v0:Int)≠19713:=by omega
   simpa using this
  obtain ⟨h',f1,f2,f3⟩:=fin0 5 (o1.trans O9) g1';refine ⟨.slice none 0 0,h',aJ is173 rfl ((vW _ _ _).trans ?_),f3,ej.z_wf,.nil _ _,fun b hb=>by cases hb⟩;unfold t173;simp -implicitDefEqProofs only [z1,e2,e3,e4,bV,w1,e5,w2,e6,w3,e7,w4,bm,z8,e9,e10,af,aj,ax,DK,q1,q2,bz,f1];exact ew results173 rj uB (show 2<71 by decide) (show 3<71 by decide) _ f2
 rw [DU c2];have q2:aE prog .neq 222 (.int .u16 (v0:Int)) (.int .u16 19713)=some (.bool false):=by
  rw [cS];have:(v0:Int)=19713:=by omega
  simpa using this
 have l0:ld1 (ptr h7.next 0) h9=some (.int .i64 (v1:Int),h9):=aP g9 rfl;have l1:ld1 (ptr h7.next 1) h9=some (.int .i64 (v2:Int),h9):=aP g9 rfl;have l2:ld1 (ptr h7.next 2) h9=some (.int .i64 (v3:Int),h9):=aP g9 rfl;have l3:ld1 (ptr h7.next 3) h9=some (.int .i64 (v4:Int),h9):=aP g9 rfl;have e148:=r103 (h:=h9) (v1:Int) (v2:Int) (v3:Int);by_cases c3:kX v1 v2 v3=false\/(8192:Int)<v4
 ·rw [DR c3];obtain ⟨h',f1,f2,f3⟩:=fin0 2 (o1.trans O9) g1';refine ⟨.slice none 0 0,h',aJ is173 rfl ((vW _ _ _).trans ?_),f3,ej.z_wf,.nil _ _,fun b hb=>by cases hb⟩;unfold t173;cases c4:kX (v1:Int) v2 v3 with
  |false=>
   rw [c4] at e148;simp -implicitDefEqProofs only [z1,e2,e3,e4,bV,w1,e5,w2,e6,w3,e7,w4,bm,z8,e9,e10,af,aj,ax,DK,q1,q2,l0,l1,l2,e148,dp,EJ,aH,fs,sf,D6,az,aG,DJ,D3,D8,bz,f1];exact ew results173 rj uB (show 2<71 by decide) (show 3<71 by decide) _ f2
  |true=>
   rw [c4] at e148;have q4:aE prog .gtr 3 (.int .i64 (v4:Int)) (.int .i64 8192)=some (.bool true):=by
    rw [dN];rcases c3 with c3|c3
    ·rw [c4] at c3;cases c3
    ·rw [DS (by omega)]
   simp -implicitDefEqProofs only [z1,e2,e3,e4,bV,w1,e5,w2,e6,w3,e7,w4,bm,z8,e9,e10,af,aj,ax,DK,q1,q2,l0,l1,l2,l3,e148,q4,dp,EP,aH,fs,sf,D6,az,aG,DJ,D3,D8,bz,f1];exact ew results173 rj uB (show 2<71 by decide) (show 3<71 by decide) _ f2
 rw [DU c3];have c4:kX (v1:Int) v2 v3=true:=by
  cases hh:kX (v1:Int) v2 v3 with
  |true=>rfl
  |false=>exact absurd (.inl hh) c3
 have c5:v4<=8192:=by have : ¬(8192:Int)<v4:=fun hh=>c3 (.inr hh);omega
 have q4:aE prog .gtr 3 (.int .i64 (v4:Int)) (.int .i64 8192)=some (.bool false):=by rw [dN,DP (by omega)]
 rw [c4] at e148;obtain ⟨h10,e11,R10,k10⟩:=q210 R9;have hd:=pad_ok R9.byte;generalize hdd:lP (s7.take 32).1=d at *;have g10:=k10.getE g9 (by omega);have p10:h10.n0<=h7.next:=by rw [k10.n0];exact p9
 obtain ⟨h11,e12,k11,g11,p11,n11⟩:=stored_mid (o:=4) (n:=32) (B':=bA d) g10 p10 (show 4+32<=37 by omega) (bf hd) (bh d).2;rw [mset4 rfl hd.1] at g11;have g11:h11.get h7.next=some (dL ⟨v1,v2,v3,v4,d,[]⟩ (.slice none 0 0)):=g11;have R11:=R10.keepB k11 (fun b hb e=>by omega);have O11:aM h1 h11:=(O9.also k10 (fun d hd e=>by omega)).also k11 (fun d hd e=>by omega);have l2':ld1 (ptr h7.next 2) h11=some (.int .i64 (v3:Int),h11):=aP g11 rfl;have hv3:v3<256:=b6;have fin1 : ∀ y,y 2=ptr h.next 0->y 4=ptr r 0->y 6=ptr h7.next 0->y 53=ak v3->y 54=ak 0 -> ∃ v h',fb (iter (codeA prog CD (al f173 [1,1,1,1,1,1,1,1,0,1,0,0])) aK (aT 71 y) h11) (resultsA prog f173.results.toList) (Cv CD)=some (.tuple #[.agg (dL (if (bF v3 (s7.take 32).2).2.fin≠0 then (ej.z,(bF v3 (s7.take 32).2).2.fin) else ((⟨v1,v2,v3,v4,d,(bF v3 (s7.take 32).2).1⟩:ej),0)).1 v).toArray,.int .i64 (if (bF v3 (s7.take 32).2).2.fin≠0 then (ej.z,(bF v3 (s7.take 32).2).2.fin) else ((⟨v1,v2,v3,v4,d,(bF v3 (s7.take 32).2).1⟩:ej),0)).2],h')/\aM h h'/\(if (bF v3 (s7.take 32).2).2.fin≠0 then (ej.z,(bF v3 (s7.take 32).2).2.fin) else ((⟨v1,v2,v3,v4,d,(bF v3 (s7.take 32).2).1⟩:ej),0)).1.Wf/\j0 h' fK v (if (bF v3 (s7.take 32).2).2.fin≠0 then (ej.z,(bF v3 (s7.take 32).2).2.fin) else ((⟨v1,v2,v3,v4,d,(bF v3 (s7.take 32).2).1⟩:ej),0)).1.cx.length ((if (bF v3 (s7.take 32).2).2.fin≠0 then (ej.z,(bF v3 (s7.take 32).2).2.fin) else ((⟨v1,v2,v3,v4,d,(bF v3 (s7.take 32).2).1⟩:ej),0)).1.cx.flatMap bA)/\(∀ b,AV v=some b->h.next<=b):=fun y y2 y4 y6 y53 y54=>by
  refine cp (Q:=fun o:ba => ∃ v h',o=some (Value.tuple #[.agg (dL (if (bF v3 (s7.take 32).2).2.fin≠0 then (ej.z,(bF v3 (s7.take 32).2).2.fin) else ((⟨v1,v2,v3,v4,d,(bF v3 (s7.take 32).2).1⟩:ej),0)).1 v).toArray,.int .i64 (if (bF v3 (s7.take 32).2).2.fin≠0 then (ej.z,(bF v3 (s7.take 32).2).2.fin) else ((⟨v1,v2,v3,v4,d,(bF v3 (s7.take 32).2).1⟩:ej),0)).2],h')/\aM h h'/\(if (bF v3 (s7.take 32).2).2.fin≠0 then (ej.z,(bF v3 (s7.take 32).2).2.fin) else ((⟨v1,v2,v3,v4,d,(bF v3 (s7.take 32).2).1⟩:ej),0)).1.Wf/\j0 h' fK v (if (bF v3 (s7.take 32).2).2.fin≠0 then (ej.z,(bF v3 (s7.take 32).2).2.fin) else ((⟨v1,v2,v3,v4,d,(bF v3 (s7.take 32).2).1⟩:ej),0)).1.cx.length ((if (bF v3 (s7.take 32).2).2.fin≠0 then (ej.z,(bF v3 (s7.take 32).2).2.fin) else ((⟨v1,v2,v3,v4,d,(bF v3 (s7.take 32).2).1⟩:ej),0)).1.cx.flatMap bA)/\(∀ b,AV v=some b->h.next<=b))
   (cj (mI CD) (dmRound (hl:=h11) (p:=h1.next) (r:=r) (D:=h7.next) (n:=v3) (m:=⟨v1,v2,v3,v4,d,[]⟩) (c2:=ptr h.next 0) (s0:=(s7.take 32).2) hv3 hd.1 (by omega) (h11.aW g11) p11) v3 (by have:aK=18446744073709551616:=rfl;omega)
   ⟨0,[],(s7.take 32).2,.slice none 0 0,DK _,y2,y4,y6,y53,y54,g11,.nil _ _ _,(fun x hx=>by cases hx),rfl,R11,aw.refl _ _,rfl⟩) ?_
  rintro ex z g ⟨rfl,z2,z4,z6,v,G,O,hw,R',K⟩;rw [bK,b173_exit,xF];unfold oZ;have e36:=q211 R';have O12:aM h1 g:=O11.also K (fun d hd e=>by omega);have gg:=aM.get O12 g1;by_cases c6:(bF v3 (s7.take 32).2).2.fin≠0
  ·rw [DR c6];have q6:aE prog .neq 25 (.int .i64 (bF v3 (s7.take 32).2).2.fin) (.int .i64 0)=some (.bool true):=by rw [cS];simpa using c6
   obtain ⟨h',f1,f2,f3⟩:=fin0 2 (o1.trans O12) gg;refine ⟨.slice none 0 0,h',?_,f3,ej.z_wf,.nil _ _,fun b hb=>by cases hb⟩;simp -implicitDefEqProofs only [z4,e36,q6,z2,bz,f1,af,aj];exact ew results173 rj uB (show 2<71 by decide) (show 3<71 by decide) _ (by have:up z [(3,.int .i64 (bF v3 (s7.take 32).2).2.fin),(8,.int .i64 (bF v3 (s7.take 32).2).2.fin),(64,ptr r 0),(65,.int .i64 (bF v3 (s7.take 32).2).2.fin),(66,.int .i64 (bF v3 (s7.take 32).2).2.fin),(67,.bool true),(68,.agg (dL ej.z (.slice none 0 0)).toArray),(69,.int .i64 (bF v3 (s7.take 32).2).2.fin)] 2=ptr h.next 0:=z2;rw [this];exact f2)
  ·rw [DU c6];have q6:aE prog .neq 25 (.int .i64 (bF v3 (s7.take 32).2).2.fin) (.int .i64 0)=some (.bool false):=by rw [cS];simpa using c6
   have S:=oY (ks:=fK) O (fq (P:=eE) (fun a ha=>bO ha) _ hw);have hc:=iu S;have hmc:=Dd (m:=⟨v1,v2,v3,v4,d,[]⟩) (v:=v) hd.1 ⟨hc.1,hc.2.1⟩;have lz:=aV G hmc.1 hmc.2.1;obtain ⟨h',f1,f2,f3,k'⟩:=man_end (o1.trans O12) (DO _) gg rfl hmc;refine ⟨v,h',?_,f3,⟨i1,i2,i3,i4,hd,hw⟩,S.keep k' (fun b hb e => ?_),fun b hb => ?_⟩
   ·simp -implicitDefEqProofs only [z4,e36,q6,z6,z2,lz,f1,af,aj];exact ew results173 rj uB (show 2<71 by decide) (show 3<71 by decide) _ (by have:up z [(3,.int .i64 0),(8,.int .i64 (bF v3 (s7.take 32).2).2.fin),(64,ptr r 0),(65,.int .i64 (bF v3 (s7.take 32).2).2.fin),(66,.int .i64 (bF v3 (s7.take 32).2).2.fin),(67,.bool false),(70,.agg (dL ⟨v1,v2,v3,v4,d,[]⟩ v).toArray)] 2=ptr h.next 0:=z2;rw [this];exact f2)
   ·have:=own_blk O hb;have:=O11.next;omega
   ·have:=own_blk O hb;have:=O11.next;omega
 have key : ∃ v h',t173 CD (.slice a n c) h=some (.tuple #[.agg (dL (if (bF v3 (s7.take 32).2).2.fin≠0 then (ej.z,(bF v3 (s7.take 32).2).2.fin) else ((⟨v1,v2,v3,v4,d,(bF v3 (s7.take 32).2).1⟩:ej),0)).1 v).toArray,.int .i64 (if (bF v3 (s7.take 32).2).2.fin≠0 then (ej.z,(bF v3 (s7.take 32).2).2.fin) else ((⟨v1,v2,v3,v4,d,(bF v3 (s7.take 32).2).1⟩:ej),0)).2],h')/\aM h h'/\(if (bF v3 (s7.take 32).2).2.fin≠0 then (ej.z,(bF v3 (s7.take 32).2).2.fin) else ((⟨v1,v2,v3,v4,d,(bF v3 (s7.take 32).2).1⟩:ej),0)).1.Wf/\j0 h' fK v (if (bF v3 (s7.take 32).2).2.fin≠0 then (ej.z,(bF v3 (s7.take 32).2).2.fin) else ((⟨v1,v2,v3,v4,d,(bF v3 (s7.take 32).2).1⟩:ej),0)).1.cx.length ((if (bF v3 (s7.take 32).2).2.fin≠0 then (ej.z,(bF v3 (s7.take 32).2).2.fin) else ((⟨v1,v2,v3,v4,d,(bF v3 (s7.take 32).2).1⟩:ej),0)).1.cx.flatMap bA)/\(∀ b,AV v=some b->h.next<=b):=by unfold t173;simp -implicitDefEqProofs only [z1,e2,e3,e4,bV,w1,e5,w2,e6,w3,e7,w4,bm,z8,e9,e10,af,aj,ax,DK,q1,q2,l0,l1,l2,l3,e148,q4,dp,EP,aH,fs,sf,D6,az,aG,DJ,D3,D8,e11,e12,l2'];exact fin1 _ rfl rfl rfl rfl rfl
 obtain ⟨v,h',e,rest⟩:=key;exact ⟨v,h',aJ is173 rfl ((vW _ _ _).trans e),rest⟩
end
end
end Go.Proofs.YtdhpgacmgebjdaaGreatDoor.W.R
namespace Go.Proofs.YtdhpgacmgebjdaaGreatDoor.W
open Go Go.Abs
noncomputable section
end
end Go.Proofs.YtdhpgacmgebjdaaGreatDoor.W
namespace Go.Proofs.YtdhpgacmgebjdaaGreatDoor.W
open Go Go.Abs R
noncomputable section
section
attribute [local congr] aC
structure ki (h:ae) (m:ej) (v:Vl):Prop where
 sl:j0 h fK v m.cx.length (m.cx.flatMap bA)
 wf:m.Wf
abbrev mv (m:ej) (v:Vl):Vl := .agg (dL m v).toArray
def ki.old {h g:ae} {m:ej} {v:Vl} (x:ki h m v) (o:aM h g):ki g m v:=⟨x.sl.keep o (fun _ _ h=>h),x.wf⟩
def ki.cell {h:ae} {m:ej} {v:Vl} (x:ki h m v):cw v=false/\v.oneCell'=true/\v.cells = #[v]:=iu x.sl
def ki.ok {h:ae} {m:ej} {v:Vl} (x:ki h m v):(dL m v).length=37/\Abs.noHoles (dL m v)=true/\aN (dL m v)=true:=Dd x.wf.obj.1 ⟨x.cell.1,x.cell.2.1⟩
structure MLd (h:ae) (b:Nat) (m:ej) (v:Vl):Prop where
 l0:ld1 (ptr b 0) h=some (.int .i64 m.gk,h)
 l1:ld1 (ptr b 1) h=some (.int .i64 m.gn,h)
 l2:ld1 (ptr b 2) h=some (.int .i64 m.gt,h)
 l3:ld1 (ptr b 3) h=some (.int .i64 m.gs,h)
 l36:ld1 (ptr b 36) h=some (v,h)
 all:bZ 37 (ptr b 0) h=some (mv m v,h)
def ki.ld {h:ae} {m:ej} {v:Vl} (x:ki h m v) {b:Nat} (g:h.get b=some (dL m v)):MLd h b m v:=
 ⟨aP g rfl,aP g rfl,aP g rfl,aP g rfl,aP g (mat36 x.wf.obj.1) x.cell.1,aV g x.ok.1 x.ok.2.1⟩
def ki.box {h:ae} {m:ej} {v:Vl} (x:ki h m v) : ∃ g,Abs.box (mv m v) h=some (ptr h.next 0,g)/\aM h g/\g.get h.next=some (dL m v)/\MLd g h.next m v/\ki g m v/\g.next=h.next+1:=by
 have o:aM h (h.alloc (dL m v)):=aw.alloc _ _ _;have e:(h.alloc (dL m v)).get h.next=some (dL m v):=by rw [ae.aX,DR rfl]
 exact ⟨_,iL h _ x.ok.2.2,o,e,(x.old o).ld e,x.old o,rfl⟩
def ki.len {h:ae} {m:ej} {v:Vl} (x:ki h m v):cI v=some (.int .i64 (m.cx.length:Int)):=x.sl.len
def ij (m:ej):Bool := !kX m.gk m.gn m.gt||decide (m.gs<0)||decide (m.gs>8192)||((m.cx.length:Int) != m.gt)
def btt:(bC (.bool true)==some true)=true:=rfl
def btf:(bC (.bool true)==some false)=false:=rfl
def bft:(bC (.bool false)==some true)=false:=rfl
def bff:(bC (.bool false)==some false)=true:=rfl
def r68 {h:ae} {m:ej} {v:Vl} (x:ki h m v) : ∃ h',CD 68 [mv m v] h=some (.int .i64 (if ij m then 2 else 0),h')/\aM h h':=by obtain ⟨h1,b1,o1,g1,A,x1,n1⟩:=x.box;refine ⟨h1,aJ is68 rfl ((t68_eq _ _ _).trans ?_),o1⟩;unfold t68 ij;have e1:=r103 (h:=h1) m.gk m.gn m.gt;cases q0:kX m.gk m.gn m.gt<;>cases q1:decide (m.gs<0)<;>cases q2:decide (m.gs>8192)<;>cases q3:((m.cx.length:Int) != m.gt)<;>simp -implicitDefEqProofs only [b1,A.l0,A.l1,A.l2,A.l3,A.l36,e1,x1.len,af,aj,btt,btf,bft,bff,az,aG,DJ,D3,D8,ax,DK,EP,EJ,dp,bU,dN,cS,q0,q1,q2,q3,IV,IW,IP,HI]
def tX {m:ej} (v:ij m=false):1<=m.gk/\m.gk<=m.gn/\m.gn<=m.gt/\m.gt<=255/\0<=m.gs/\m.gs<=8192/\(m.cx.length:Int)=m.gt:=by unfold ij kX at v;simp only [I1,Bool.not_eq_false',DN,D7,FM,bne_eq_false_iff_eq] at v;omega
def r120 {h:ae} {N w lim:Nat} {l m:List Nat} (W:sK h N w lim l) {a:Option Addr} {n c:Nat} (hm:aq a n h=some m) (hfit:l.length+n<=lim) :
  ∃ h',CD 120 [ptr w 0,.slice a n c] h=some (.tuple #[],h')/\sK h' N w lim (l++m)/\vP N h h':=by
 obtain ⟨h1,e1,W1,k1⟩:=r181 W hfit;obtain ⟨v0,w1,w2,_⟩:=W.ex;have hm1:aq a n h1=some m:=k1.bytes hm (de hm w1 (by
  intro v hv;simp only [EN,EU,GF] at hv;rcases hv with rfl|rfl|rfl
  ·rfl
  ·rfl
  ·exact w2.nat8))
 have k1:vP N h h1:=k1.mono (fun c _ hc=>by rw [hc];exact W.Nw);obtain ⟨v,v',g,g',a1,a2,a3,a4,a5⟩:=tA (c:=c) W1 hm1 (by have:=W.small;omega);refine ⟨g',aJ is120 rfl ((t120_eq _ _ _ _).trans ?_),a4,k1.trans a5⟩;unfold t120;have hl:cI (.slice a n c)=some (ak n):=rfl;simp -implicitDefEqProofs only [af,aj,hl,e1,av,ax,DK,a1,a2,a3]
end
section
attribute [local congr] aC
def i8 (x:Int):Nat:=(x%256).toNat
def i16 (x:Int):Nat:=(x%65536).toNat
def yC {α:Type} {f:α->List Nat} {z:Nat} : ∀ (l:List α),(∀ a∈l,(f a).length=z)->(l.flatMap f).length=l.length*z
 | [],_=>by simp
 |a::l,h=>by have ih:=yC l (fun b hb=>h b (EK _ hb));rw [E9,DW,ih,h a (EM ..),List.length_cons,HM];omega
def flat_snoc {α:Type} {f:α->List Nat} {l:List α} {i:Nat} {a:α} (h:l[i]? = some a):(l.take (i+1)).flatMap f=(l.take i).flatMap f++f a:=by rw [HA,h];simp
def DD {l:List (List Nat)} {i:Nat} {p:List Nat} (hw : ∀ x∈l,eE x) (hm:l[i]? = some p):el 32 (l.flatMap bA) i=bA p:=by
 have key : ∀ (l:List (List Nat)) (i:Nat),(∀ x∈l,eE x)->l[i]? = some p->el 32 (l.flatMap bA) i=bA p:=by
  intro l;induction l with
  |nil=>intro i _ h;cases h
  |cons a l ih=>
   intro i hw h;have ha:(bA a).length=32:=bf (hw a (EM ..));cases i with
   |zero=>
    cases h;unfold el;rw [HF,FO,E9,<-ha,IT]
   |succ i=>
    have h:l[i]? = some p:=h;have:=ih i (fun x hx=>hw x (EK _ hx)) h;unfold el at this |-;rw [E9,show (i+1)*32=(bA a).length+i*32 by rw [HM,ha];omega,List.drop_length_add_append];exact this
 exact key l i hw hm
def i8_lt (x:Int):i8 x<256:=by unfold i8;omega
def i16_lt (x:Int):i16 x<65536:=by unfold i16;omega
def wrap_i8 (x:Int):IntKind.wrap .u8 x=(i8 x:Nat):=by rw [fU];unfold i8;omega
def wrap_i16 (x:Int):IntKind.wrap .u16 x=(i16 x:Nat):=by rw [B8];unfold i16;omega
def nH (m:ej):List Nat:=iZ 2 19713++(iZ 1 (i8 m.gk)++(iZ 1 (i8 m.gn)++(iZ 1 (i8 m.gt)++(iZ 2 (i16 m.gs)++(m.obj++m.cx.flatMap id)))))
def xo {m:ej} (w:m.Wf):(nH m).length=38+1+m.cx.length*32:=by unfold nH;simp only [DW,bY,w.obj.1,yC (f:=id) (z:=32) _ (fun a ha=>(w.cx a ha).1)];omega
def mnInv (h0:ae) (N w lim:Nat) (L:List Nat) (v:Vl) (t:List (List Nat)) (k:Nat) (y:Nat->Vl) (g:ae):Prop:=
 ∃ i,i+k=t.length/\y 5=ptr w 0/\y 45=v/\y 46=ak t.length/\y 47=ak i/\vP N h0 g/\sK g N w lim (L++(t.take i).flatMap id)
def mnFin (h0:ae) (N w lim:Nat) (L:List Nat) (t:List (List Nat)) (ex:Ex) (y:Nat->Vl) (g:ae):Prop:=
 ex = .exit 0/\y 5=ptr w 0/\vP N h0 g/\sK g N w lim (L++t.flatMap id)
def tK (b o:Nat):sliceArr 32 1 (ptr b o) none none none=some (.slice (some ⟨b,o,none⟩) 32 32):=by unfold sliceArr ptr;have:boundsA 32 32 none none none=some (0,32,32):=rfl;simp only [this,HF,Nat.add_zero,ite_self,Nat.sub_zero]
def sK.old {h g:ae} {N w lim:Nat} {l:List Nat} (W:sK h N w lim l) (o:aM h g):sK g N w lim l:=by obtain ⟨⟨v,h1,h2,h3⟩,a,b,c⟩:=W;exact ⟨⟨v,aM.get o h1,h2.keep o (fun _ _ h=>h),h3⟩,by rw [o.n0];exact a,b,c⟩
def mnRound {h0:ae} {N w lim:Nat} {L:List Nat} {v:Vl} {t:List (List Nat)} (x:j0 h0 fK v t.length (t.flatMap bA)) (hN : ∀ b,AV v=some b->b<N) (hw : ∀ x∈t,eE x) (hl:t.length<=255) (hfit:L.length+t.length*32<=lim) :
  ∀ k y g,mnInv h0 N w lim L v t k y g->dE 59 (mnInv h0 N w lim L v t) (mnFin h0 N w lim L t) k (eU CD y g):=by
 rintro k y g ⟨i,hik,y5,y45,y46,y47,K,W⟩;unfold eU;by_cases hi:i<t.length
 ·obtain ⟨b,q,kb,hb,a1,_,_,_,a2,_⟩:=(x.keep K (fun b hb=>by have:=hN b hb;omega)).at hi;obtain ⟨m,hm⟩ : ∃ m,t[i]? = some m:=⟨t[i],DL hi⟩
  have wm:=hw m (EC hm);have a1:idxS 32 v (ak i)=some (ptr b (q+i*32)):=a1;have a2:bZ 32 (ptr b (q+i*32)) g=some (.agg (el 32 (t.flatMap bA) i).toArray,g):=a2;rw [DD hw hm] at a2;have hlen:((t.take i).flatMap id).length=i*32:=by rw [yC (f:=id) (z:=32) _ (fun a ha=>(hw a (EH ha)).1),E0,GD (by omega)]
  have hi9:i*32+32<=t.length*32:=mul_le hi;have hNg:N<=g.next:=by have:=W.lt;have:=W.Nw;omega
  obtain ⟨g1,z1,o1,q1,n1⟩:=fresh (List.replicate 32 (.int .u8 0)) g;have p1:g1.n0<=g.next:=by rw [o1.n0];exact g.n0_le_next
  obtain ⟨g2,t2,k2,q2,_,n2⟩:=aR (n:=32) (k':=bA m) q1 p1 rfl (bf wm) (bh m).2;have o2:aM g g2:=aM.bu o1 k2 (DO _);have sb:aq (some ⟨g.next,0,none⟩) m.length g2=some m:=fN (A := []) (C := []) q2 (by simp) rfl wm.2;have sb0:w<g.next:=W.lt;obtain ⟨g3,e3,W3,k3⟩:=r120 (sK.old W o2) (c:=32) sb (by rw [DW,hlen,wm.1];omega);rw [wm.1] at e3;simp -implicitDefEqProofs only [y47,y46,fF,DS hi,y45,a1,a2,z1,t2,y5,tK,e3,ei (show i+1<=9223372036854775807 by omega),af,aj];refine dE.next (k-1) (by omega) ⟨i+1,by omega,y5,y45,y46,rfl,(K.trans (o2.mono fun _ _ h=>h.elim)).trans k3,?_⟩;rw [flat_snoc hm,<-List.append_assoc];exact W3
 ·simp -implicitDefEqProofs only [y47,y46,fF,DP hi,af,aj];refine dE.out 0 ⟨rfl,y5,K,?_⟩;rw [EB (by omega)] at W;exact W
end
end
end Go.Proofs.YtdhpgacmgebjdaaGreatDoor.W
