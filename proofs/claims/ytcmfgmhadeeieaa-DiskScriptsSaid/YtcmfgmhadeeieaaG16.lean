/-
  A part of the proof, spaces and names shortened by a program (a claim may hold 1,500,000 bytes).
  Conditions: as each theorem states.
-/
import Derived.Test.YtcmfgmhadeeieaaG15
namespace Go.Proofs.Ytcmfgmhadeeieaa
open Go Go.Abs
attribute [local congr] fV
section
variable {h0:af} {v1:Value} {ops:List OpD} (O:gO h0 v1 ops) (h100:ops.length≤100) {d f p q k:Nat} {y:Nat→Value} {g:af} {i:Nat} {D:Dk} {S:Rf} {v:Value} {j1 j2:Option (Nat×Jn)} (A:ScAt h0 v1 ops d f p q k y g i D S v j1 j2) {ob oo:Nat} {da ra:Option Addr} {dn dc rn rc:Nat} {op:OpD} (hi:i<ops.length)
 (e2:bV 6 v1 (ao i)=some (ptr ob oo)) (e3 : ∀ h',Old h0 h'→bD 6 (ptr ob oo) h'=some (.agg (opC op da dn dc ra rn rc).toArray,h'))
include O h100 A hi e2 e3
set_option maxRecDepth 100000 in
set_option maxHeartbeats 4000000 in
theorem sc8_up (hk:op.kind=8) (hd:D.down=false):c8 243 (scInv h0 v1 ops d f p q) scFin k (bu CD y g):=by
 have hll:=O.len
 obtain ⟨ga,a1,a2,a3,a4,sa,oa,_⟩:=A.st.op op da dn dc ra rn rc
 have c0:aV (ptr g.next 0) ga=some (.int .i64 8,ga):=aJ a4 (by rw [←hk];rfl) rfl
 have e8:bin Try.prog .eql 3 (.int .i64 8) (.int .i64 8)=some (.bool true):=by rw [bZ];rfl
 have lo:=sa.lo
 have hn:=sa.n
 have flt:f<ga.next:=sa.p6.lt
 have plt:=af.aS ga sa.g1
 have qlt:=af.aS ga sa.g2
 have dlt:=sa.dk.lt
 have blt:=sa.dk.blt
 have hga:=sa.bS.next
 obtain ⟨j,w,cells,N,g1,e21,x1,xj,ow,E,k1,hj,hjN,hN⟩:=r21 sa.dk (by omega) hd
 have n1:=k1.next
 have oB:Old g1 (g1.alloc dt):=Kept.alloc _ _ _
 have gB:(g1.alloc dt).get g1.next=some dt:=by rw [af.aD,if_pos rfl]
 have hn8:=new8 g1
 have nB:(g1.alloc dt).next=g1.next+1:=af.aW ..
 have kB:Kept ga (g1.alloc dt) (fun c=>c=d):=k1.bM oB (fun _ _ h=>h.elim)
 have xB:=Old.dk oB x1
 generalize g1.alloc dt=gb at *
 have xrB:=bT.aG sa.xr kB (fun b _ e => .inl e)
 have lB:=(sa.box.aG kB (by omega)).ld
 obtain ⟨v',w2,cells2,g2,e38,xr2,ow2,E2,o2⟩:=r38 (D:=D) sa.dk.len hn.1 sa.dk.small xrB sa.eq.aU (by rw [sa.eq.down];exact hd) sa.eq.bw
 have hq2:Eqd D.opened { S with bw:=D.opened.bw }:=⟨sa.eq.aU,sa.eq.down,sa.eq.bX,sa.eq.arm,sa.eq.da,rfl,sa.eq.kp⟩
 generalize ({ S with bw:=D.opened.bw }:Rf)=S2 at *
 have k2:Kept ga g2 (fun c=>c=d):=kB.bM o2 (fun _ _ h=>h.elim)
 obtain ⟨g3,s3,sC,kC⟩:=sa.updD (k2.mono (fun _ _ e => .inl e)) (Old.dk o2 xB) rfl rfl hq2 xr2
 have n2:=o2.next
 have gB3:=kC.cB (Old.get o2 gB) (by omega)
 have n03:g3.n0≤g1.next:=by rw [kC.n0,k2.n0];have:=sa.bS.n0;have:=h0.aF;omega
 obtain ⟨r1,r2,r3,r4⟩:=fW (n:=8) gB3 n03 rfl (k':=D.jn.rc) rfl rfl rfl
 have plB:ei g3 g1.next:=⟨_,gB3,zero8_plain⟩
 have sD:St h0 (g3.set g1.next D.jn.rc) d f p q D.opened S2 v' j1 j2:=by
  refine ⟨r4.dk sC.dk (by omega) (by show D.bb≠_;omega),sC.n,sC.box.aG r4 (by omega),sC.p6.aG r4 (by omega),?_,sC.eq,r4.cB sC.g1 (by omega),r4.cB sC.g2 (by omega),fun j J e=>⟨(sC.k1 j J e).1.aG r4 ?_,(sC.k1 j J e).2⟩,fun j J e=>⟨(sC.k2 j J e).1.aG r4 ?_,(sC.k2 j J e).2⟩,sC.ne,sC.bS.bM r4 (fun c hc e=>by omega),sC.lo⟩
  ·obtain ⟨ai,ci,rfl,y1,y2,y3⟩:=sC.xr
   exact ⟨ai,ci,rfl,r4.ef (fun b e=>by subst e;exact plB) y1,y2,y3⟩
  ·have:=(sa.k1 j J e).1.lt;omega
  ·have:=(sa.k2 j J e).1.lt;omega
 have kf1:Kept g1 g2 (fun c=>c=f):=(oB.trans o2).mono (fun _ _ h=>h.elim)
 have k14:Kept g1 (g3.set g1.next D.jn.rc) (fun c=>c=f):=(kf1.bM kC (fun _ _ e=>e)).bM r4 (fun c hc e=>by omega)
 have k24:Kept g2 (g3.set g1.next D.jn.rc) (fun c=>c=f∨c=g1.next):=(kC.mono (fun _ _ e => .inl e)).bM r4 (fun _ _ e => .inr e)
 obtain ⟨kf,hf1,hf2,hf3⟩:=sa.p6
 have pf1 : ∀ b,b=f→ei g1 b:=fun b e=>by subst e;exact ⟨kf,k1.cB hf1 (by omega),hf3⟩
 have pf2 : ∀ b,b=f∨b=g1.next→ei g2 b:=fun b e=>by
  rcases e with e|e
  ·subst e;exact ⟨kf,k2.cB hf1 (by omega),hf3⟩
  ·subst e;exact ⟨_,Old.get o2 gB,zero8_plain⟩
 have owA:=ow.aG k14 (fun b hb e=>by have:=ow.base hb;omega)
 have EA:=E.aG k14 pf1
 have owB:=ow2.aG k24 (fun b hb e=>by have:=ow2.base hb;omega)
 have EB:=E2.aG k24 pf2
 have xj4:=xj.aG k14 (by omega)
 have m8:bD 8 (ptr g1.next 0) (g3.set g1.next D.jn.rc)=some (.agg D.jn.rc.toArray,g3.set g1.next D.jn.rc):=r2
 have m7:aV (ptr g1.next 7) (g3.set g1.next D.jn.rc)=some (.bool false,g3.set g1.next D.jn.rc):=aJ r3 rfl rfl
 generalize g3.set g1.next D.jn.rc=g4 at *
 have e44:=r44 owA EA owB EB (entries_len D sa.dk.small)
 have l9:bD 9 (ptr p 0) g4=some (.agg (prC j1).toArray,g4):=cz sD.g1 (fe _) (prC_hole _)
 have okj:JnOk D.jn D.opened:=openJ_jok (D:=D.opened) sa.dk.byte _
 obtain ⟨g5,g6,p1,p2,sE⟩:=sD.pairs (some (j,D.jn)) j1 (fun j' J' e=>by cases e;exact ⟨xj4,okj,by omega⟩) sD.k1 (fun a b a' b' e e'=>by
  cases e
  have:=(sa.k1 a' b' e').1.lt
  omega)
 have p1:bK 9 (ptr p 0) (.agg (ptr j 0::D.jn.rc).toArray) g4=some (undef,g5):=p1
 have hbl:ff [(.pointer none),(.int .i64 0),(.int .i64 0),(.int .u64 0),(.int .i64 0),(.int .u64 0),(.bool false),(.int .i64 0),(.bool false)] [(0,1,ptr j 0),(1,8,.agg D.jn.rc.toArray)]=some (.agg (ptr j 0::D.jn.rc).toArray):=rfl
 have hee:bin Try.prog .eql 28 (.int .i64 0) (.int .i64 0)=some (.bool true):=by rw [bZ];rfl
 have ett:bin Try.prog .eql 4 (.bool false) (.bool false)=some (.bool true):=by kernel_rfl
 have hy0 : ∀ a b c:Value,aA (.tuple #[a,b,c]) 0=some a:=fun _ _ _=>rfl
 have hy1 : ∀ a b c:Value,aA (.tuple #[a,b,c]) 1=some b:=fun _ _ _=>rfl
 have hy2 : ∀ a b c:Value,aA (.tuple #[a,b,c]) 2=some c:=fun _ _ _=>rfl
 have hz0 : ∀ a b c d:Value,aA (.tuple #[a,b,c,d]) 0=some a:=fun _ _ _ _=>rfl
 have hz1 : ∀ a b c d:Value,aA (.tuple #[a,b,c,d]) 1=some b:=fun _ _ _ _=>rfl
 have hz2 : ∀ a b c d:Value,aA (.tuple #[a,b,c,d]) 2=some c:=fun _ _ _ _=>rfl
 have hz3 : ∀ a b c d:Value,aA (.tuple #[a,b,c,d]) 3=some d:=fun _ _ _ _=>rfl
 obtain ⟨hA,hB,hC,ai,ci,sl,t1,t2,t3,t4,t5,t6,t7,t8,t9,t10,t11,t12,t13,t14,ck1,ck2,ck3,sc⟩:=sE.tail
 unfold bu
 simp (maxSteps:=3000000) -implicitDefEqProofs only [A.bQ,A.y1,hll,gH,decide_eq_true hi,e2,e3 g A.st.bS,a1,a2,ax,Nat.zero_add,Nat.add_zero,c0,e8,A.y5,A.y7,A.y9,A.bH,e21,hy0,hy1,hy2,hn8,lB,e38,hz0,hz1,hz2,hz3,s3,r1,hee,e44,eql38,m7,ett,m8,hbl,l9,p1,p2,if_true,ae,aj,
  t1,t2,t3,t4,t5,t6,t7,t8,t9,t10,t11,t12,t13,t14,ck1,ck2,ck3,bR,Bool.not_true,az,beq_self_eq_true,ay,bin4n,bne_self_eq_false,Bool.false_eq_true,if_false,dL,gR,Bool.and_true,dJ (show i+1≤9223372036854775807 by omega)]
 exact c8.next (k-1) (by have:=A.hik;omega) ⟨i+1,D.opened,S2,v',some (j,D.jn),j1,by have:=A.hik;omega,rfl,A.y1,A.y5,A.y7,A.y9,A.bH,sc⟩
end
end Go.Proofs.Ytcmfgmhadeeieaa

namespace Go.Proofs.Ytcmfgmhadeeieaa
open Go Go.Abs
theorem is13:ch Try.prog 13 Try.f13:=⟨by kernel_rfl,by kernel_rfl,by kernel_rfl,by kernel_rfl⟩
theorem b13_exit (C:ak) (e:Env) (h:af):b13_12 C 0 e h=k13_10 C e h:=rfl
section
attribute [local congr] fV
variable {h0:af} {v1:Value} {ops:List OpD} (O:gO h0 v1 ops) (h100:ops.length≤100) (hl : ∀ op∈ops,op.dh.length≤40∧op.data.length≤21000 ∧ ∀ r∈op.dh,r.length≤21000)
include O h100 hl
set_option maxRecDepth 100000 in
theorem sc_round {d f p q:Nat} : ∀ k y g,scInv h0 v1 ops d f p q k y g→c8 243 (scInv h0 v1 ops d f p q) scFin k (bu CD y g):=by
 rintro k y g ⟨i,D,S,v,j1,j2,A⟩
 by_cases hi:i<ops.length
 ·obtain ⟨ob,oo,da,dn,dc,ra,rn,rc,op,e1,e2,e3,e4,e5,e6,e7,e8,_⟩:=O.atZ hi
  obtain ⟨l1,l2,l3⟩:=hl op (List.mem_of_getElem? e1)
  by_cases k8:op.kind=8
  ·cases hd:D.down with
   |true=>exact sc8_down O h100 A hi e2 e3 k8 hd
   |false=>exact sc8_up O h100 A hi e2 e3 k8 hd
  by_cases k9:op.kind=9
  ·exact sc9 O h100 A hi e2 e3 k9 e6 l1 l3
  by_cases k10:op.kind=10
  ·exact sc10 O h100 A hi e2 e3 k10 e4 e5 l2
  by_cases k11:op.kind=11
  ·exact sc11 O h100 A hi e2 e3 k11
  by_cases k12:op.kind=12
  ·exact sc12 O h100 A hi e2 e3 k12
  exact scDev O h100 A hi e2 e3 ⟨k8,k9,k10,k11,k12⟩ e4 l2 e7 e8
 ·have hll:=O.len
  unfold bu
  simp -implicitDefEqProofs only [A.bQ,A.y1,hll,gH,decide_eq_false hi,ae,aj]
  exact c8.out 0 rfl
end
end Go.Proofs.Ytcmfgmhadeeieaa

namespace Go.Proofs.Ytcmfgmhadeeieaa
open Go Go.Abs
set_option maxRecDepth 100000 in
theorem dev13 (a:Int) {h:af} {v:Value} {ops:List OpD} (O:gO h v ops) : ∃ h',CD 13 [.int .i64 a,v] h=some (.bool true,h'):=by
 have e17:CD 17 [.int .i64 a,v] h=some (.bool (heavyB a ops),h):=dP (by rw [X17];exact s17_at a O)
 have hn0:=h.aF
 have key : ∃ h',t13 CD (.int .i64 a) v h=some (.bool true,h'):=by
  unfold t13
  cases hh:heavyB a ops with
  |true=>
   rw [hh] at e17
   simp -implicitDefEqProofs only [ae,e17,r14]
   exact ⟨_,rfl⟩
  |false=>
   rw [hh] at e17
   obtain ⟨hl1,hl2,hl3⟩:=light hh
   have hee : ∀ e:Int,bin Try.prog .neq 28 (.int .i64 e) (.int .i64 e)=some (.bool false):=fun e=>by rw [bin_neq];simp
   have heq : ∀ e:Int,bin Try.prog .eql 28 (.int .i64 e) (.int .i64 e)=some (.bool true):=fun e=>by rw [bZ];simp
   by_cases ha:4≤a∧a≤4096
   ·obtain ⟨n,rfl⟩ : ∃ n:Nat,a=n:=⟨a.toNat,by omega⟩
    obtain ⟨e18,x1,o1⟩:=r18 h (n:=n) (by omega) (by omega)
    have hn1:(gI h n).next=h.next+2:=rfl
    have hbb:(Dk.new h n).bb=h.next:=rfl
    obtain ⟨rv,g2,e35,r2,o2⟩:=r35 (gI h n) (n:=n) (by omega) (by omega)
    have q:=eqd_new h n
    have hDn:(Dk.new h n).n=n:=rfl
    have x2:=Old.dk o2 x1
    have o02:Old h g2:=o1.trans o2
    have hng2:=o2.next
    generalize gI h n=g1 at *
    generalize Dk.new h n=D at *
    have r2:=r2.mono (G:=fun c=>c=h.next+1∨c=D.bb) (fun b hb=>by show b<g1.next;omega)
    have e7:=new6 g2
    have z7:(g2.alloc bC).get g2.next=some bC:=by rw [af.aD,if_pos rfl]
    have o23:Old g2 (g2.alloc bC):=Kept.alloc _ _ _
    have n3:(g2.alloc bC).next=g2.next+1:=af.aW ..
    have n03:(g2.alloc bC).n0≤g2.next:=g2.aF
    generalize g2.alloc bC=g3 at *
    obtain ⟨g4,s1,s2,s3,s4,s5,_⟩:=(z6_pl z7).store (r2.bS o23) n03
    have o24:Old g2 g4:=o23.bM s5 (fun c hc e=>by omega)
    have n4:=s5.next
    have z9:dV := [(.pointer none),(.int .i64 0),(.int .i64 0),(.int .u64 0),(.int .i64 0),(.int .u64 0),(.bool false),(.int .i64 0),(.bool false)]
    have hw : ∀ w:af,dp [(.pointer none),(.int .i64 0),(.int .i64 0),(.int .u64 0),(.int .i64 0),(.int .u64 0),(.bool false),(.int .i64 0),(.bool false)] w=some (ptr w.next 0,w.alloc (.pointer none::dt)):=fun _=>rfl
    have e9:=hw g4
    have o5:Old g4 (g4.alloc (.pointer none::dt)):=Kept.alloc _ _ _
    have p5:(g4.alloc (.pointer none::dt)).get g4.next=some (.pointer none::dt):=by rw [af.aD,if_pos rfl]
    have n5:(g4.alloc (.pointer none::dt)).next=g4.next+1:=af.aW ..
    generalize g4.alloc (.pointer none::dt)=g5 at *
    have e10:=hw g5
    have o6:Old g5 (g5.alloc (.pointer none::dt)):=Kept.alloc _ _ _
    have p6:(g5.alloc (.pointer none::dt)).get g5.next=some (.pointer none::dt):=by rw [af.aD,if_pos rfl]
    have n6:(g5.alloc (.pointer none::dt)).next=g5.next+1:=af.aW ..
    have n06:(g5.alloc (.pointer none::dt)).n0≤h.next:=by rw [o6.n0,o5.n0,o24.n0,o02.n0];exact hn0
    have p56:=Old.get o6 p5
    generalize g5.alloc (.pointer none::dt)=g6 at *
    have hlen9:(prC none).length=9:=rfl
    obtain ⟨a1,_,a3,a4⟩:=fW (n:=9) p56 (by omega) rfl (k':=prC none) rfl rfl rfl
    have p67:=a4.cB p6 (by omega)
    have n7:=a4.next
    have n07:=a4.n0
    generalize g6.set g4.next (prC none)=g7 at *
    obtain ⟨b1,_,b3,b4⟩:=fW (n:=9) p67 (by omega) rfl (k':=prC none) rfl rfl rfl
    have a38:=b4.cB a3 (by omega)
    generalize g7.set g5.next (prC none)=g8 at *
    have o48:Old g4 g8:=((o5.trans o6).bM a4 (fun c hc e=>by omega)).bM b4 (fun c hc e=>by omega)
    have o8:Old h g8:=(o02.trans o24).trans o48
    have st:St h g8 (h.next+1) g2.next g4.next g5.next D (Rf.new n) rv none none:=
     ⟨Old.dk (o24.trans o48) x2,by rw [hDn];omega,s2.aG o48 (fun h=>h),s3.aG o48 (fun h=>h),s4.bS o48,q,a38,b3,fun j J e=>(by cases e),fun j J e=>(by cases e),fun j J j' J' e=>(by cases e),o8,by omega⟩
    have hbl8:ff [(.int .i64 0),(.int .i64 0),(.int .u64 0),(.int .i64 0),(.int .u64 0),(.bool false),(.int .i64 0),(.bool false)] [(7,1,(.bool true))]=some (.agg cT.toArray):=rfl
    have hbl9:ff [(.pointer none),(.int .i64 0),(.int .i64 0),(.int .u64 0),(.int .i64 0),(.int .u64 0),(.bool false),(.int .i64 0),(.bool false)] [(0,1,(.pointer none)),(1,8,.agg cT.toArray)]=some (.agg (prC none).toArray):=rfl
    have run : ∀ Z:Nat→Value,Z 1=v→Z 5=ptr (h.next+1) 0→Z 7=ptr g2.next 0→Z 9=ptr g4.next 0→Z 10=ptr g5.next 0→Z 11=ao 0 → ∃ h',dI (iter (aL Try.prog CD (partOf Try.f13 [1,1,1,1,1,1,0,1,0,0])) rounds (aZ 243 Z) g8) (al Try.prog Try.f13.results.toList) (b13_12 CD)=some (.bool true,h'):=by
     intro Z z1 z5 z7' z9' z10 z11
     refine cy (Q:=fun o:Out => ∃ h',o=some (Value.bool true,h'))
      (ct (t13l13_111111010_eq CD) (sc_round O hl2 hl3 (d:=h.next+1) (f:=g2.next) (p:=g4.next) (q:=g5.next)) ops.length (by have:rounds=18446744073709551616:=rfl;omega)
       ⟨0,D,Rf.new n,rv,none,none,Nat.zero_add _,z11,z1,z5,z7',z9',z10,st⟩) ?_
     rintro ex z g rfl
     simp -implicitDefEqProofs only [bG,b13_exit,t13k13_10_eq]
     unfold t13k13_10
     simp -implicitDefEqProofs only [r14,ae]
     exact ⟨_,rfl⟩
    simp -implicitDefEqProofs only [ae,e17,e18,xt20,xt21,aj,e35,e7,s1,hee,az,beq_self_eq_true,ay,Bool.false_eq_true,if_false,hbl8,hbl9,e9,e10,a1,b1]
    exact run _ rfl rfl rfl rfl rfl rfl
   ·obtain ⟨g2,e35,o2⟩:=r35_bad h ha
    have e18:CD 18 [.int .i64 a] h=some (.tuple #[.pointer none,.int .i64 2],h):=dP (by
     rw [X18]
     unfold s18
     simp only
     rw [if_neg ha])
    have e7:=new6 g2
    have z7:(g2.alloc bC).get g2.next=some bC:=by rw [af.aD,if_pos rfl]
    have hn3:(g2.alloc bC).n0≤g2.next:=g2.aF
    have st7:=rf_st (k':=bC) z7 hn3 rfl rfl rfl
    have t2:bin Try.prog .neq 28 (.int .i64 2) (.int .i64 0)=some (.bool true):=by rw [bin_neq];rfl
    simp -implicitDefEqProofs only [ae,e17,e18,xt20,xt21,aj,e35,e7,st7,hee,heq,az,beq_self_eq_true,ay,t2,Bool.false_eq_true,if_false,if_true,r14]
    exact ⟨_,rfl⟩
 obtain ⟨h',e⟩:=key
 exact ⟨h',aK is13 rfl ((t13_eq _ _ _ _).trans e)⟩
end Go.Proofs.Ytcmfgmhadeeieaa

