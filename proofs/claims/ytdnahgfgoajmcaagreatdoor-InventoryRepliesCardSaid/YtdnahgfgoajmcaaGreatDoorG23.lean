/-
  A part of the proof, spaces and names shortened by a program (a claim may hold 1,500,000 bytes).
  Conditions: as each theorem states.
-/
import Derived.Test.YtdnahgfgoajmcaaGreatDoorG22
namespace Go.Proofs.YtdnahgfgoajmcaaGreatDoor
open Go Go.Abs Tryz
open Go.Lib (compareBytes)
open Go.ChangeShapes Go.WideShapes Go.ChangeAt Go.RowKit
section
theorem cut (l:List Value) (n:Nat) (h:n<=l.length) : ∃ a b,l=a++b/\a.length=n/\b.length=l.length-n:=
 ⟨l.take n,l.drop n,(EL n l).symm,by rw [DW];omega,by rw [D8]⟩
theorem msg_cut {l:List Value} (h:l.length=116) : ∃ a0 a1 a2 a3 a4 a5 a6 a7 a8 a9 r d w o g0 g1 g2 g3 mo e i f c,l = [a0,a1,a2,a3,a4,a5,a6,a7,a8,a9]++(r++([d,w]++(o++(([g0,g1,g2,g3]++(mo ++ [e])) ++ [i,f,c]))))/\r.length=32/\o.length=32/\mo.length=32:=by
 obtain ⟨A,l1,rfl,hA,h1⟩:=cut l 10 (by omega);obtain ⟨r,l2,rfl,hr,h2⟩:=cut l1 32 (by omega);obtain ⟨D,l3,rfl,hD,h3⟩:=cut l2 2 (by omega);obtain ⟨o,l4,rfl,ho,h4⟩:=cut l3 32 (by omega);obtain ⟨G,l5,rfl,hG,h5⟩:=cut l4 4 (by omega);obtain ⟨mo,l6,rfl,hm,h6⟩:=cut l5 32 (by omega);have h7:l6.length=4:=by omega
 match A,hA,D,hD,G,hG,l6,h7 with
 | [a0,a1,a2,a3,a4,a5,a6,a7,a8,a9],_,[d,w],_,[g0,g1,g2,g3],_,[e,i,f,c],_=>
   exact ⟨a0,a1,a2,a3,a4,a5,a6,a7,a8,a9,r,d,w,o,g0,g1,g2,g3,mo,e,i,f,c,by simp,hr,ho,hm⟩
theorem take_one {l:List Value} {o:Nat} {v:Value} (e:l[o]? = some v):(l.drop o).take 1 = [v]:=by obtain ⟨ho,rfl⟩:=EP.1 e;rw [EX ho];rfl
section
variable {H:Type} {enc:TypeId×Value->H} {W:World} {bN:Nat} {held:Bool}
theorem rdMem:pC enc W bN held 195 [.i .u64,.u8]:=fun fuel cs x h=>by have p0:Pc [.i .u64] 0 cs:=fU Tryz.underlying195 h (i:=0) rfl (by kernel_rfl) (qx Tryz.underlying32);have p1:Pc [.u8] 1 cs:=fU Tryz.underlying195 h (i:=1) rfl (by kernel_rfl) (tW (by kernel_rfl));obtain ⟨_,_,_,_,hl,_⟩:=DataW.trod_struct Tryz.underlying195 h;exact (p0.CZ p1).whole (hl.trans (by kernel_rfl))
theorem slMem {fuel:Nat} {v:Value} {x:DataW H×List MemPlace} (h:DataW.trod enc prog W bN (fun _=>true) held fuel 33 [v]=some x):dX (clean W.heap.size v)=false /\ ∃ n cs,SlN (cB W (view W)) [.i .u64,.u8] (clean W.heap.size v) n cs:=sl_of Tryz.underlying33 (ks := [.i .u64,.u8]) (by kernel_rfl) (by decide) rdMem h
theorem slDig {fuel:Nat} {v:Value} {x:DataW H×List MemPlace} (h:DataW.trod enc prog W bN (fun _=>true) held fuel 37 [v]=some x):dX (clean W.heap.size v)=false /\ ∃ n cs,SlN (cB W (view W)) qS (clean W.heap.size v) n cs:=sl_of Tryz.underlying37 (ks:=qS) (by kernel_rfl) (by decide) rd35 h
theorem mB {fuel:Nat} {t:TypeId} {cs:List Value} {x:DataW H×List MemPlace} {fs:Array Field} (ht:prog.underlying t=some (.struct fs)) (h:DataW.trod enc prog W bN (fun _=>true) held fuel t cs=some x) {i:Nat} {f:Field} (hf:fs[i]? = some f) (hz:prog.cellsOf f.type=1) {v:Value} (e:cs[f.offset]? = some v) :
  ∃ m y,DataW.trod enc prog W bN (fun _=>true) held m f.type [v]=some y:=by
 obtain ⟨m,y,q⟩:=fld ht h hf hz;rw [take_one e] at q;exact ⟨m,y,q⟩
theorem fldN {fuel:Nat} {t:TypeId} {cs A B C:List Value} {x:DataW H×List MemPlace} {fs:Array Field} (ht:prog.underlying t=some (.struct fs)) (h:DataW.trod enc prog W bN (fun _=>true) held fuel t cs=some x) {i z:Nat} {f:Field} (hf:fs[i]? = some f) (hz:prog.cellsOf f.type=z) (e:cs=A++(B++C)) (hA:A.length=f.offset) (hB:B.length=z) :
  ∃ m y,DataW.trod enc prog W bN (fun _=>true) held m f.type B=some y:=by
 obtain ⟨m,y,q⟩:=fld ht h hf hz;rw [mid e hA hB] at q;exact ⟨m,y,q⟩
theorem trod_msg {fuel:Nat} {cs:List Value} {x:DataW H×List MemPlace} (h:DataW.trod enc prog W bN (fun _=>true) held fuel 43 cs=some x) :
  ∃ (m:bM) (x:AM),cs.map (clean W.heap.size)=mC m/\kH (cB W (view W)) m x:=by
 obtain ⟨_,_,_,_,hl,_⟩:=DataW.trod_struct Tryz.underlying43 h;obtain ⟨a0,a1,a2,a3,a4,a5,a6,a7,a8,a9,r,d,w,o,g0,g1,g2,g3,mo,e,i,f,c,rfl,hr,ho,hm⟩:=msg_cut (hl.trans (show prog.cellsOf 43=116 by kernel_rfl));have c1:prog.cellsOf 3=1:=by kernel_rfl
 have c24:prog.cellsOf 31=1:=by kernel_rfl
 have c25:prog.cellsOf 32=1:=by kernel_rfl
 have c4:prog.cellsOf 4=1:=by kernel_rfl
 have c22:prog.cellsOf 34=1:=by kernel_rfl
 have c26:prog.cellsOf 33=1:=by kernel_rfl
 have c29:prog.cellsOf 22=1:=by kernel_rfl
 have c30:prog.cellsOf 37=1:=by kernel_rfl
 have c35:prog.cellsOf 26=1:=by kernel_rfl
 have c28:prog.cellsOf 36=32:=by kernel_rfl
 have c32:prog.cellsOf 39=37:=by kernel_rfl
 have c34:prog.cellsOf 41=2:=by kernel_rfl
 obtain ⟨_,_,q0⟩:=mB Tryz.underlying43 h (i:=0) rfl c24 (v:=a0) rfl;obtain ⟨n0,e0,_,we0⟩:=DataW.trod_int Tryz.underlying31 q0;obtain ⟨_,_,q1⟩:=mB Tryz.underlying43 h (i:=1) rfl c1 (v:=a1) rfl;obtain ⟨n1,e1,_,we1⟩:=DataW.trod_int Tryz.underlying3 q1;obtain ⟨_,_,q2⟩:=mB Tryz.underlying43 h (i:=2) rfl c1 (v:=a2) rfl;obtain ⟨n2,e2,_,we2⟩:=DataW.trod_int Tryz.underlying3 q2;obtain ⟨_,_,q3⟩:=mB Tryz.underlying43 h (i:=3) rfl c25 (v:=a3) rfl;obtain ⟨n3,e3,_,we3⟩:=DataW.trod_int Tryz.underlying32 q3;obtain ⟨_,_,q4⟩:=mB Tryz.underlying43 h (i:=4) rfl c1 (v:=a4) rfl;obtain ⟨n4,e4,_,we4⟩:=DataW.trod_int Tryz.underlying3 q4;obtain ⟨_,_,q5⟩:=mB Tryz.underlying43 h (i:=5) rfl c1 (v:=a5) rfl;obtain ⟨n5,e5,_,we5⟩:=DataW.trod_int Tryz.underlying3 q5;obtain ⟨_,_,q6⟩:=mB Tryz.underlying43 h (i:=6) rfl c26 (v:=a6) rfl;obtain ⟨hh6,n6,t6,s6⟩:=slMem q6;obtain ⟨_,_,q7⟩:=mB Tryz.underlying43 h (i:=7) rfl c22 (v:=a7) rfl;obtain ⟨_,n7,t7,s7⟩:=sl23 q7;obtain ⟨_,_,q8⟩:=mB Tryz.underlying43 h (i:=8) rfl c22 (v:=a8) rfl;obtain ⟨_,n8,t8,s8⟩:=sl23 q8;obtain ⟨_,_,q9⟩:=mB Tryz.underlying43 h (i:=9) rfl c1 (v:=a9) rfl;obtain ⟨n9,e9,_,we9⟩:=DataW.trod_int Tryz.underlying3 q9;obtain ⟨_,_,q10⟩:=fldN Tryz.underlying43 h (i:=10) rfl c28 rfl (A := [a0,a1,a2,a3,a4,a5,a6,a7,a8,a9]) (B:=r) rfl hr;have t10:=rd35 _ _ _ q10;obtain ⟨_,_,q11⟩:=mB Tryz.underlying43 h (i:=11) rfl c29 (v:=d) (by simp [hr]);obtain ⟨hh11,oc11,gr11,L11,s11⟩:=sl22 q11;obtain ⟨_,_,q12⟩:=mB Tryz.underlying43 h (i:=12) rfl c4 (v:=w) (by simp [IF,hr]);obtain ⟨n12,e12,_⟩:=DataW.trod_bool Tryz.underlying4 q12;obtain ⟨_,_,q13⟩:=fldN Tryz.underlying43 h (i:=13) rfl c28 (A := [a0,a1,a2,a3,a4,a5,a6,a7,a8,a9]++(r ++ [d,w])) (B:=o) (C:=([g0,g1,g2,g3]++(mo ++ [e])) ++ [i,f,c]) (by simp only [EC]) (by simp [hr]) ho;have t13:=rd35 _ _ _ q13;obtain ⟨_,_,q14⟩:=fldN Tryz.underlying43 h (i:=14) rfl c32 (A := [a0,a1,a2,a3,a4,a5,a6,a7,a8,a9]++(r++([d,w]++o))) (B := [g0,g1,g2,g3]++(mo ++ [e])) (C := [i,f,c]) (by simp only [EC]) (by simp [hr,ho]) (by simp [hm]);obtain ⟨_,_,q15⟩:=fldN Tryz.underlying43 h (i:=15) rfl c34 (A := [a0,a1,a2,a3,a4,a5,a6,a7,a8,a9]++(r++([d,w]++(o++([g0,g1,g2,g3]++(mo ++ [e])))))) (B := [i,f]) (C := [c]) (by simp only [EC];rfl) (by simp [hr,ho,hm]) rfl;obtain ⟨_,_,q16⟩:=mB Tryz.underlying43 h (i:=16) rfl c35 (v:=c) (by simp [hr, ho, hm]);obtain ⟨n16,e16,_,we16⟩:=DataW.trod_int Tryz.underlying26 q16;obtain ⟨_,_,u0⟩:=mB Tryz.underlying39 q14 (i:=0) rfl c1 (v:=g0) rfl;obtain ⟨k0,f0,_,wf0⟩:=DataW.trod_int Tryz.underlying3 u0;obtain ⟨_,_,u1⟩:=mB Tryz.underlying39 q14 (i:=1) rfl c1 (v:=g1) rfl;obtain ⟨k1,f1,_,wf1⟩:=DataW.trod_int Tryz.underlying3 u1;obtain ⟨_,_,u2⟩:=mB Tryz.underlying39 q14 (i:=2) rfl c1 (v:=g2) rfl;obtain ⟨k2,f2,_,wf2⟩:=DataW.trod_int Tryz.underlying3 u2;obtain ⟨_,_,u3⟩:=mB Tryz.underlying39 q14 (i:=3) rfl c1 (v:=g3) rfl;obtain ⟨k3,f3,_,wf3⟩:=DataW.trod_int Tryz.underlying3 u3;obtain ⟨_,_,u4⟩:=fldN Tryz.underlying39 q14 (i:=4) rfl c28 (A := [g0,g1,g2,g3]) (B:=mo) rfl rfl hm;have t4:=rd35 _ _ _ u4;obtain ⟨_,_,u5⟩:=mB Tryz.underlying39 q14 (i:=5) rfl c30 (v:=e) (by simp [hm]);obtain ⟨hh17,n17,t17,s17⟩:=slDig u5;obtain ⟨_,_,v0⟩:=mB Tryz.underlying41 q15 (i:=0) rfl c1 (v:=i) rfl;obtain ⟨n18,f18,_,wf18⟩:=DataW.trod_int Tryz.underlying3 v0;obtain ⟨_,_,v1⟩:=mB Tryz.underlying41 q15 (i:=1) rfl c22 (v:=f) rfl;obtain ⟨hh19,n19,t19,s19⟩:=sl23 v1;cases e0;cases e1;cases e2;cases e3;cases e4;cases e5;cases e9;cases e12;cases e16;cases f0;cases f1;cases f2;cases f3;cases f18;obtain ⟨root,rfl,dr⟩:=dig_of t10;have d13:=t13.all;have d4:=t4.all;have c10:=t10.clean W.heap.size;have c13:=t13.clean W.heap.size;have c4':=t4.clean W.heap.size;obtain ⟨lo,hlo,rfl,blo⟩:=pW s7.typed;obtain ⟨al,cl,el,Xl,-⟩:=(hlo▸s7).bytes blo;obtain ⟨hi,hhi,rfl,bhi⟩:=pW s8.typed;obtain ⟨ah,ch,eh,Xh,-⟩:=(hhi▸s8).bytes bhi;obtain ⟨ar,cr,er⟩:=s11.form;obtain ⟨a6',c6',e6',_⟩:=s6;obtain ⟨a17,c17,e17,_⟩:=s17;obtain ⟨a19,c19,e19,_⟩:=s19;have t0:=tW (enc:=enc) (W:=W) (bN:=bN) (held:=held) Tryz.underlying31 _ _ _ q0;obtain ⟨u0',hu0,kn,hkn,_⟩:=t0.2 0 .u8 rfl;have hu0:some (Value.int .u8 n0)=some u0':=hu0;injection hu0 with hu0
 rw [hkn] at hu0;injection hu0 with _ hu0
 subst hu0;have oc6:Value.oneCell' (clean W.heap.size a6)=true:=by rw [e6'];rfl
 have oc17:Value.oneCell' (clean W.heap.size e)=true:=by rw [e17];rfl
 have oc19:Value.oneCell' (clean W.heap.size f)=true:=by rw [e19];rfl
 refine ⟨{ kind:=kn,frm:=n1,to:=n2,al:=al,nl:=lo.length,cl:=cl,ah:=ah,nh:=hi.length,ch:=ch,cnt:=n9,root:=root,ar:=ar,nr:=L11.length,cr:=cr,want:=n12,v3 := .int .u64 n3,v4 := .int .i64 n4,v5 := .int .i64 n5,v6:=clean W.heap.size a6,tl:=o++(([.int .i64 k0,.int .i64 k1,.int .i64 k2,.int .i64 k3]++(mo ++ [clean W.heap.size e])) ++ [.int .i64 n18,clean W.heap.size f,.int .i64 n16]) },⟨kn,n1,n2,lo,hi,n9,root,L11,n12⟩,?_,⟨rfl,rfl,rfl,rfl,rfl,rfl,dr,Xl,Xh,?_,⟨dr,?_,?_,?_,?_,?_⟩⟩⟩
 ·simp only [FG,FL,HH,c10,c13,c4',el,eh,er];rfl
 ·show eD _ (.slice ar L11.length cr) L11;rw [<-er];exact s11
 ·unfold Abs.noHoles;simp only [List.all_cons,List.all_nil,hh6,DN,DV];rfl
 ·unfold aJ;simp only [List.all_cons,List.all_nil,oc6,DV];rfl
 ·simp [ho,hm]
 ·have h1:=d13.1;have h2:=d4.1;unfold Abs.noHoles at *;simp only [E6,List.all_cons,List.all_nil,h1,h2,hh17,hh19,DN,DV,EE];rfl
 ·have h1:=d13.2.1;have h2:=d4.2.1;unfold aJ at *;simp only [E6,List.all_cons,List.all_nil,h1,h2,oc17,oc19,DV,EE];rfl
end
end
end Go.Proofs.YtdnahgfgoajmcaaGreatDoor
namespace Go.Proofs.YtdnahgfgoajmcaaGreatDoor
open Go Go.Abs Tryz
open Go.Lib (compareBytes)
section
section
variable {H:Type} {enc:TypeId×Value->H} {W:World}
theorem msgs_of {held:Bool} {bN:Nat} {fuel:Nat} {v:Value} {x:DataW H×List MemPlace} (h:DataW.trod enc prog W bN (fun _=>true) held fuel 23 [v]=some x) :
  dX (clean W.heap.size v)=false /\ ∃ (ms:List bM) (xs:List AM),MsL (cB W (view W)) (clean W.heap.size v) ms xs:=by
 have he:prog.cellsOf 43=116:=by kernel_rfl
 rcases DataW.trod_slice Tryz.underlying23 h with ⟨h1,_⟩|⟨a,len,cap,elems,cI,n,_,h1,_,_,hlc,hcm,hl,hel,hsp,_⟩
 ·cases h1;exact ⟨rfl,[],[],rfl,rfl,fun i hi=>absurd hi (E0 i),fun i hi=>absurd hi (E0 i)⟩
 ·cases h1;rw [he] at hel hsp;have hpos:0<cap->a.spot=none/\a.block<W.heap.size:=by
   intro h0;have key : ∃ cs,W.cells? bN (a.add (0*116)) 116=some cs:=by
    by_cases hlen:0<len
    ·have:=hel 0 hlen;rw [DC (by omega),DZ] at this;obtain ⟨cs,hc,_⟩:=this;exact ⟨cs,hc⟩
    ·have:=(hsp rfl).2 0 (by omega);rw [DC (by rw [(hsp rfl).1];omega),DZ] at this;obtain ⟨cs,hc,_⟩:=this;obtain rfl:len=0:=by omega
     exact ⟨cs,hc⟩
   obtain ⟨cs,hc⟩:=key;obtain ⟨_,hlen,hcell⟩:=World.cells?_some hc;have g:=hcell 0 (by decide);obtain ⟨c0,hc0⟩ : ∃ c0,cs[0]? = some c0:=⟨cs[0],DC (by omega)⟩
   rw [hc0,GK] at g;have g:W.cell? a=some c0:=g;obtain ⟨e1,e2,_⟩:=mU g;exact ⟨e1,e2⟩
  obtain ⟨g1,a',g2,g3⟩:=oO (W:=W) hlc hpos;refine ⟨g1,?_⟩;by_cases h0:len=0
  ·subst h0;exact ⟨[],[],rfl,by rw [g2];rfl,fun i hi=>absurd hi (E0 i),fun i hi=>absurd hi (E0 i)⟩
  have ha:=g3 (by omega);subst ha;have each : ∀ i,i<len -> ∃ p:bM×AM,∃ k,view W a'.block=some k/\a'.off+i*116+116<=k.length/\(k.drop (a'.off+i*116)).take 116=mC p.1/\kH (cB W (view W)) p.1 p.2:=by
   intro i hi;have h2:=hel i hi;rw [DC (by omega),DZ] at h2;obtain ⟨es,hc,ht⟩:=h2;obtain ⟨m,x,hcl,X⟩:=trod_msg ht;obtain ⟨_,hlen,hcell⟩:=World.cells?_some hc;have vc : ∀ j,j<116 -> ∃ k,view W a'.block=some k/\k[a'.off+i*116+j]? = (mC m)[j]? := by intro j hj;have g:=hcell j hj;have h3:es[j]? = some es[j]:=DC (by omega);rw [h3] at g;obtain ⟨_,_,k,hk,hc2⟩:=mU g;rw [qg,qg] at hk;rw [xy,xy] at hc2;refine ⟨k,hk,?_⟩;rw [hc2,<-hcl,EF,h3];rfl
   obtain ⟨k,hk,_⟩:=vc 0 (by decide);have vc : ∀ j,j<116->k[a'.off+i*116+j]? = (mC m)[j]? := fun j hj=>by obtain ⟨k',hk',e⟩:=vc j hj;rw [hk] at hk';cases hk';exact e
   have cl:=(df X.mg).1;have hkl:a'.off+i*116+116<=k.length:=by have e:=vc 115 (by decide);rw [DC (show 115<(mC m).length by omega)] at e;have:=(EP.1 e).1;omega
   refine ⟨(m,x),k,hk,hkl,?_,X⟩;refine FE fun j => ?_;rw [FA];by_cases hj:j<116
   ·rw [DL hj,FB,vc j hj]
   ·rw [DM hj,EK (show (mC m).length<=j by omega)]
  obtain ⟨ps,h5,h6⟩:=list_pick each;refine ⟨ps.map (·.1),ps.map (·.2),by rw [DS,DS],by rw [g2,DS,h5];rfl,fun i hi hi' => ?_,fun i hi => ?_⟩
  ·rw [DS] at hi hi';obtain ⟨k,_,_,_,X⟩:=h6 i hi;rw [GS,GS];exact X
  ·rw [DS] at hi;obtain ⟨k,hk,hkl,hc,X⟩:=h6 i hi;rw [GS];refine ⟨a'.block,a'.off+i*116,?_,fun g og => ?_⟩
   ·rw [g2];obtain ⟨b,off,sp⟩:=a';unfold idxS;simp only [];rw [DL (by omega),Int.toNat_natCast]
   ·have gk:(cB W (view W)).get a'.block=some k:=by rw [np];exact hk
    have:=nT (o:=a'.off+i*116) (n:=116) (aA.get og gk) hkl (by rw [hc];exact (df X.mg).2.1);rw [hc] at this;exact this
end
end
end Go.Proofs.YtdnahgfgoajmcaaGreatDoor
