/-
  A part of the proof, spaces and names shortened by a program (a claim may hold 1,500,000 bytes).
  Conditions: as each theorem states.
-/
import Derived.Test.YtjghlcdidopcpaaGreatDoorG13
namespace Go.Proofs.YtjghlcdidopcpaaGreatDoor
open Go Go.Abs
attribute [local congr] bp
theorem is7:bD Tryz.prog 7 Tryz.f7:=⟨by kernel_rfl,by kernel_rfl,by kernel_rfl,by kernel_rfl⟩
theorem b7_exit (C:au) (e:Env) (h:ai):b7_10 C 0 e h=k7_8 C e h:=rfl
def blkOf (a:Option Addr) (b:Nat):Prop := ∃ z,a=some z∧b=z.block
theorem byte_rw {g:ai} {a:Option Addr} {n c i:Nat} {l:List Nat} (e:ax a n g=some l) (h0 : ∀ z,a=some z→g.n0≤z.block) (hi:i<n) :
  ∃ pt,bZ 1 (.slice a n c) (aK i)=some pt∧aP pt g=some (.int .u8 ((l.getD i 0:Nat):Int),g)∧l.getD i 0<256 ∧ ∀ v:Nat,v<256 → ∃ g',ck 1 pt (.int .u8 (v:Int)) g=some (undef,g')∧ax a n g'=some (l.set i v)∧Kept g g' (blkOf a):=by
 obtain ⟨hl,hb,_⟩:=aB e
 obtain ⟨b,off,s,k,rfl,hk,ix⟩:=idx_bytes (c:=c) e hi
 obtain ⟨b',p',_,ix',ld⟩:=byte_at (c:=c) e hi
 rw [ix] at ix'
 have ix':=Option.some.inj ix'
 rw [←ix'] at ld
 refine ⟨_,ix,ld,?_,fun v hv => ?_⟩
 ·rw [List.getD_eq_getElem?_getD,List.getElem?_eq_getElem (by omega)]
  exact hb _ (List.getElem_mem _)
 ·obtain ⟨g',e1,e2,e3,_⟩:=sliceBytes_put (h0 _ rfl) hk e hi hv
  exact ⟨g',e1,e2,e3.mono (fun d _ e=>⟨_,rfl,e⟩)⟩
def mInv (h0:ai) (a:Option Addr) (n c:Nat) (Y:Nat→Value) (k:Nat) (y:Nat→Value) (g:ai):Prop:=
 ∃ i,i+k=n∧y 10=aK i∧y 4 = .slice a n c∧y 1=Y 1∧y 3=Y 3∧y 5=Y 5∧y 6=Y 6∧y 7=Y 7∧y 8=Y 8∧y 9=Y 9∧Kept h0 g (blkOf a) ∧ ∃ l,ax a n g=some l
def mFin (h0:ai) (a:Option Addr) (n c:Nat) (Y:Nat→Value) (ex:Ex) (y:Nat→Value) (g:ai):Prop:=
 ex = .exit 0∧y 4 = .slice a n c∧y 1=Y 1∧y 3=Y 3∧y 5=Y 5∧y 6=Y 6∧y 7=Y 7∧y 8=Y 8∧y 9=Y 9∧Kept h0 g (blkOf a)
theorem mRound {h0:ai} {a:Option Addr} {n c:Nat} {Y:Nat→Value} (hn:n≤1000000) (ha : ∀ z,a=some z→h0.n0≤z.block) : ∀ k y g,mInv h0 a n c Y k y g→ef 85 (mInv h0 a n c Y) (mFin h0 a n c Y) k (fD CW y g):=by
 rintro k y g ⟨i,hik,y10,y4,y1,y3,y5,y6,y7,y8,y9,K,l,e⟩
 have hln:bJ (.slice a n c)=some (aK n):=rfl
 unfold fD
 by_cases hin:i<n
 ·obtain ⟨pt,ix,ld,hb,st⟩:=byte_rw (c:=c) e (fun z hz=>by rw [K.n0];exact ha z hz) hin
  obtain ⟨m',e',hm'⟩:=xor255 (l.getD i 0) hb
  obtain ⟨g',s1,s2,s3⟩:=st m' hm'
  simp -implicitDefEqProofs only [y10,y4,hln,eQ,decide_eq_true hin,ix,ld,e',s1,add31 (show i+1≤9223372036854775807 by omega),ah,ao]
  exact ef.next (k-1) (by omega) ⟨i+1,by omega,rfl,y4,y1,y3,y5,y6,y7,y8,y9,K.trans s3,_,s2⟩
 ·simp -implicitDefEqProofs only [y10,y4,hln,eQ,decide_eq_false hin,ah,ao]
  exact ef.out 0 ⟨rfl,y4,y1,y3,y5,y6,y7,y8,y9,K⟩
section
variable {h:ai} {s:dA} {m:aZ} (hG:4≤h.n0) (x:Has h s m)
include hG x
set_option maxRecDepth 100000 in
set_option maxHeartbeats 4000000 in
theorem dev7 : ∃ h',CW 7 [mv m s] h=some (.bool true,h'):=by
 have key : ∃ h',t7 CW (mv m s) h=some (.bool true,h'):=by
  have z35:bin Tryz.prog .neq 35 (.int .i64 0) (.int .i64 0)=some (.bool false):=by rw [aC];rfl
  have y35:bin Tryz.prog .eql 35 (.int .i64 0) (.int .i64 0)=some (.bool true):=by rw [aG];rfl
  have x35:bin Tryz.prog .neq 35 (.int .i64 2) (.int .i64 0)=some (.bool true):=by rw [aC];rfl
  obtain ⟨h1,b1,o1,x1,A1,n1,-⟩:=eL x
  obtain ⟨r,h2,e2,k2,o2⟩:=r18m (h:=h1) (by rw [o1.n0];exact hG) x1
  have O2:=o1.trans o2
  cases r with
  |true=>exact ⟨h2,by unfold t7;simp -implicitDefEqProofs only [b1,A1.all,e2,r12,ah,ao,ar,fs,sf,beq_self_eq_true,ak,aj,Bool.false_eq_true,if_false,if_true,Bool.not_true,Bool.not_false,av,Bool.and_true,Bool.and_self,fq,fp]⟩
  |false=>
  have sm:=k2 rfl
  have A2:=(cJ (x.bE O2) (Old.get o2 A1.g)).all
  obtain ⟨s3,h3,e3,x3,o3⟩:=r20m (h:=h2) (by rw [O2.n0];exact hG) (x.bE O2) sm
  have O3:=O2.trans o3
  obtain ⟨h4,e4,o4⟩:=r19 (h:=h3) (by rw [O3.n0];exact hG) x3 sm
  have O4:=O3.trans o4
  cases v:dN m with
  |false=>
   rw [v] at e4
   rw [if_neg (by decide)] at e4
   exact ⟨h4,by unfold t7;simp -implicitDefEqProofs only [b1,A1.all,e2,A2,e3,e4,x35,r12,ah,ao,ar,fs,sf,beq_self_eq_true,ak,aj,Bool.false_eq_true,if_false,if_true,Bool.not_true,Bool.not_false,av,Bool.and_true,Bool.and_self,fq,fp]⟩
  |true=>
  rw [v,if_pos rfl] at e4
  have O14:=o2.trans (o3.trans o4)
  have A4:=(cJ (x.bE O4) (Old.get O14 A1.g)).all
  obtain ⟨s5,h5,e5,x5,o5⟩:=r20m (h:=h4) (by rw [O4.n0];exact hG) (x.bE O4) sm
  have O5:=O4.trans o5
  have z5:=newZ h5
  obtain ⟨h6,e6,o6,g6,n6⟩:=var_m x5
  have O6:=O5.trans o6
  have x6:=x5.bE o6
  have A6:=(cJ x6 g6).all
  obtain ⟨a7,c7,h7,e7,b7,g7,o7,f7⟩:=r21 (h:=h6) (by rw [O6.n0];exact hG) x6 sm v
  have O7:=O6.trans o7
  have hle:(enc m).length≤1000000:=enc_le x.wf v
  obtain ⟨s8,h8,e8,x8,o8,f8⟩:=dM (h:=h7) (by rw [O7.n0];exact hG) (c:=c7) b7 g7 hle
  have O8:=O7.trans o8
  rw [decF_enc x.wf v] at e8 x8
  have z8:=newZ h8
  obtain ⟨h9,e9,o9,g9,n9⟩:=var_m x8
  have O9:=O8.trans o9
  have x9:=x8.bE o9
  have o69:=o7.trans (o8.trans o9)
  have A9:=(cJ (x6.bE o69) (Old.get o69 g6)).all
  obtain ⟨a10,c10,h10,e10,b10,g10,o10,f10⟩:=r21 (h:=h9) (by rw [O9.n0];exact hG) (x6.bE o69) sm v
  have O10:=O9.trans o10
  have O1_10:=(O14.trans (o5.trans (o6.trans (o69.trans o10))))
  have hlp : ∀ z,a7=some z→z.block<h7.next∧h6.next≤z.block:=fun z hz=>by
   refine ⟨?_,f7 z hz⟩
   obtain ⟨b,off,s,k,e,hk,_⟩:=(aB b7).2.2 (by have:=enc_14 x.wf v;omega)
   rw [hz] at e
   cases e
   exact h7.bg hk
  have m4:=O4.next
  have m5:=o5.next
  have m6:=o6.next
  have m7:=o7.next
  have m8:=o8.next
  have m9:=o9.next
  have l9 : ∀ y,y 1=ptr h.next 0→y 3=ptr h5.next 0→y 4 = .slice a7 (enc m).length c7→y 5 = .int .i64 0→y 6=ptr h8.next 0→y 7 = .int .i64 0→y 8 = .slice a10 (enc m).length c10→y 9 = .int .i64 0→y 10=aK 0 →
    ∃ h',eX (iter (aI Tryz.prog CW (partOf Tryz.f7 [1,1,1,1,1,1,0,1,0,0])) rounds (bB 85 y) h10) (aw Tryz.prog Tryz.f7.results.toList) (b7_10 CW)=some (.bool true,h'):=by
   intro y y1 y3 y4 y5 y6 y7 y8 y9 y10
   refine cG (Q:=fun o:Out => ∃ h',o=some (Value.bool true,h')) (cy (t7l7_111111010_eq CW) (mRound (h0:=h10) (a:=a7) (n:=(enc m).length) (c:=c7) (Y:=y) hle (fun z hz=>by
    have:=hlp z hz
    have:=h6.aQ
    rw [o10.n0,o69.n0]
    omega)) (enc m).length (by have:rounds=18446744073709551616:=rfl;omega) ⟨0,Nat.zero_add _,y10,y4,rfl,rfl,rfl,rfl,rfl,rfl,rfl,Kept.refl _ _,_,Old.bytes (o8.trans (o9.trans o10)) b7⟩) ?_
   rintro ex w g ⟨rfl,w4,w1,w3,w5,w6,w7,w8,w9,K⟩
   rw [y1] at w1
   rw [y3] at w3
   rw [y5] at w5
   rw [y6] at w6
   rw [y7] at w7
   rw [y8] at w8
   rw [y9] at w9
   rw [bP,b7_exit,t7k7_8_eq]
   have far : ∀ b,b<h6.next∨h7.next≤b → ¬blkOf a7 b:=fun b hb ⟨z,hz,e⟩=>by
    have:=hlp z hz
    omega
   have G1:=K.eK (Old.get O1_10 A1.g) (far _ (.inl (by have:=h.aQ;have:=O14.next;omega)))
   have G3:=K.eK (Old.get (o69.trans o10) g6) (far _ (.inl (by omega)))
   have G6:=K.eK (Old.get o10 g9) (far _ (.inr (by omega)))
   have X1:Has g s m:=(x.bE O10).cu K (fun v hv b hb=>far b (.inl (by have:=x.sl.lt (p:=h6.next) (by omega) v hv b hb;omega)))
   have X3:Has g s5 m:=(x6.bE (o69.trans o10)).cu K (fun v hv b hb=>far b (.inl (by have:=x6.sl.lt (p:=h6.next) (Nat.le_refl _) v hv b hb;omega)))
   have X6:Has g s8 m:=(x9.bE o10).cu K (fun v hv b hb=>far b (.inr (by have:=f8 v hv b hb;omega)))
   have B1:=(cJ X1 G1).all
   have B6:=(cJ X6 G6).all
   have hg:4≤g.n0:=by rw [K.n0,O10.n0];exact hG
   obtain ⟨g1,i1,p1⟩:=r15m hg X6 X1 sm
   rw [decide_eq_true rfl] at i1
   have B3:=(cJ (X3.bE p1) (Old.get p1 G3)).all
   have B1':=(cJ (X1.bE p1) (Old.get p1 G1)).all
   obtain ⟨g2,i2,p2⟩:=r15m (h:=g1) (by rw [p1.n0];exact hg) (X3.bE p1) (X1.bE p1) sm
   rw [decide_eq_true rfl] at i2
   have hln : ∀ a c,bJ (.slice a (enc m).length c)=some (aK (enc m).length):=fun _ _=>rfl
   have eqn:bin Tryz.prog .eql 3 (aK (enc m).length) (aK (enc m).length)=some (.bool true):=by unfold aK;rw [aG,beq_self_eq_true]
   have b10':ax a10 (enc m).length g2=some (enc m):=by
    refine Old.bytes (p1.trans p2) (K.bytes b10 (fun y hy _=>far _ (.inr ?_)))
    have:=f10 y hy
    omega
   obtain ⟨bb,pp,_,q1,q2⟩:=byte_at (c:=c10) (i:=0) b10' (by have:=enc_14 x.wf v;omega)
   have q1:bZ 1 (.slice a10 (enc m).length c10) (.int .i64 0)=some (ptr bb pp):=q1
   have q3:(enc m).getD 0 0=83:=rfl
   rw [q3] at q2
   have q4:bin Tryz.prog .eql 5 (.int .u8 83) (.int .u8 83)=some (.bool true):=by rw [aG];rfl
   have q2:aP (ptr bb pp) g2=some (.int .u8 83,g2):=q2
   exact ⟨g2,by unfold t7k7_8;simp -implicitDefEqProofs only [w1,w3,w4,w5,w6,w7,w8,w9,y35,B6,B1,i1,B3,B1',i2,hln,eqn,q1,q2,q4,r12,ah,ao,ar,fs,sf,beq_self_eq_true,ak,aj,Bool.false_eq_true,if_false,if_true,Bool.not_true,Bool.not_false,av,Bool.and_true,Bool.and_self,fq,fp]⟩
  unfold t7
  simp -implicitDefEqProofs only [b1,A1.all,e2,A2,e3,e4,z35,A4,e5,z5,e6,A6,e7,e8,z8,e9,A9,e10,ah,ao,ar,fs,sf,beq_self_eq_true,ak,aj,Bool.false_eq_true,if_false,if_true,Bool.not_true,Bool.not_false,av,Bool.and_true,Bool.and_self,fq,fp]
  exact l9 _ rfl rfl rfl rfl rfl rfl rfl rfl rfl
 obtain ⟨h',e⟩:=key
 exact ⟨h',az is7 hG rfl ((t7_eq _ _ _).trans e)⟩
end
end Go.Proofs.YtjghlcdidopcpaaGreatDoor

