/-
  A part of the proof, spaces and names shortened by a program (a claim may hold 1,500,000 bytes).
  Conditions: as each theorem states.
-/
import Derived.Test.YtdnahgfgoajmcaaGreatDoorG20
namespace Go.Proofs.YtdnahgfgoajmcaaGreatDoor
open Go Go.Abs Tryz
open Go.Lib (compareBytes)
attribute [local congr] aw
theorem bz4_22n (C:au) (e:aX) (h:ai):bz4_22 C 2 e h=some (Ex.normal,e,h):=rfl
set_option maxRecDepth 100000 in
theorem p_j {y:Nat->Value} {g:ai} {mb:Nat} {e:ME} {z:Ml} (M:MeB g mb e) (X:wW g e z) (y17:y 17=ptr mb 0) {N:Nat} {ms:List cR} {xs:List AM} (A:xM g N (y 19) ms xs) (hl:xs.length<=1000000) (en : ∀ a∈xs,a.frm=z.m.to/\a.to=z.m.frm) :
  ∃ y',bP CV y g=some (.normal,aK 218 y',g)/\zS y y'/\y' 14=y 14/\y' 17=y 17/\y' 18=y 18/\y' 19=y 19:=by
 have mg : ∀ m∈ms,MG m:=fun q hq=>by obtain ⟨i,hi,rfl⟩:=FE.1 hq;exact (A.is i hi (by rw [<-A.len];exact hi)).mg
 have ln:lenL (y 19)=some (aq ms.length):=by rcases A.sl with ⟨h,rfl⟩|⟨b,s,h,_⟩<;>rw [h]<;>rfl
 have m1:=M.l (j:=1) (ki e.m (i:=1) rfl) rfl;have m2:=M.l (j:=2) (ki e.m (i:=2) rfl) rfl;have hml:=A.len;have fin : ∀ o:Option (Ex×aX×ai),o=bP CV y g -> ∃ y',o=some (.normal,aK 218 y',g)/\zS y y'/\y' 14=y 14/\y' 17=y 17/\y' 18=y 18/\y' 19=y 19:=by
  rintro o rfl;unfold bP;simp -implicitDefEqProofs only [aj];refine bH (n:=218) (fin:=fun ex y' g'=>ex = .exit 2/\g'=g/\zS y y'/\y' 14=y 14/\y' 17=y 17/\y' 18=y 18/\y' 19=y 19) (Q:=fun o:Option (Ex×aX×ai) => ∃ y',o=some (.normal,aK 218 y',g)/\zS y y'/\y' 14=y 14/\y' 17=y 17/\y' 18=y 18/\y' 19=y 19)
   (bC (gA CV) (Inv:=fun k y' g' => ∃ i,i+k=ms.length/\g'=g/\zS y y'/\y' 14=y 14/\y' 17=y 17/\y' 18=y 18/\y' 19=y 19/\y' 21=aq i) ?_ ms.length (by have:aD=18446744073709551616:=rfl;omega) ⟨0,by omega,rfl,⟨rfl,rfl,rfl,rfl,rfl,rfl,rfl⟩,rfl,rfl,rfl,rfl,rfl⟩) ?_
  ·rintro k y' g' ⟨i,hik,rfl,F,z14,z17,z18,z19,z21⟩;unfold cV;have z17':y' 17=ptr mb 0:=z17.trans y17;simp -implicitDefEqProofs only [z19,z21,ln,ie,aj,ak];by_cases hi:i<ms.length
   ·have hi':i<xs.length:=by omega
    have Xi:=A.is i hi hi';obtain ⟨f1,f2⟩:=en _ (EL hi');rcases A.sl with ⟨_,hn⟩|⟨b,s,hw,gb,_⟩
    ·rw [hn] at hi;exact absurd hi (FP i)
    ·obtain ⟨ix,rd⟩:=ms_at mg (b:=b) (s:=s) hi;rw [<-hw] at ix;obtain ⟨_,rdf⟩:=rd g' gb;have a1:=rdf 1 (.int .i64 ms[i].frm) (ki ms[i] (i:=1) rfl) rfl;have a2:=rdf 2 (.int .i64 ms[i].to) (ki ms[i] (i:=2) rfl) rfl;have n1:=neq3i ms[i].frm e.m.to;rw [DC (by rw [Xi.frm,f1,X.m.to]),DP] at n1;have n2:=neq3i ms[i].to e.m.frm;rw [DC (by rw [Xi.to,f2,X.m.frm]),DP] at n2;have a7:aF prog .add 3 (aq i) (.int .i64 1)=some (aq (i+1)):=dR (by omega);simp -implicitDefEqProofs only [DC hi, z17', ix, aB, DH, Nat.add_zero, a1, a2, m1, m2, n1, n2, bf, aC, DG, EF, a7, aj, ak];exact dJ.next (k-1) (by omega) ⟨i+1,by omega,rfl,⟨F.f0,F.f1,F.f2,F.f7,F.f9,F.f11,F.f15⟩,z14,z17,z18,z19,rfl⟩
   ·simp -implicitDefEqProofs only [DF hi];exact dJ.out 2 ⟨rfl,rfl,⟨F.f0,F.f1,F.f2,F.f7,F.f9,F.f11,F.f15⟩,z14,z17,z18,z19⟩
  ·rintro ex y' g' ⟨rfl,rfl,F,z14,z17,z18,z19⟩;simp -implicitDefEqProofs only [bk,bz4_22n];exact ⟨y',rfl,F,z14,z17,z18,z19⟩
 exact fin _ rfl
theorem p_send {y:Nat->Value} {g:ai} (hG:4<=g.n0) {N:Nat} {w:Value} {P:List (ME×Ml)} (D:jS g N w P) (h0:g.n0<=N) (hN:N<=g.next) (hP:P.length<=500000) {vb:Nat} {S:List av} (I:kj g vb S) (hS:S.length<=1000000) (y14:y 14=w) (y18:y 18=ptr vb 0) {M:Nat} {ms:List cR} {xs:List AM} (A:xM g M (y 19) ms xs) (hm:xs.length<=100000)
  (sep : ∀ b,iR w=some b->b≠vb/\b<M /\ ∀ va,g.get vb=some [va]->slB va≠some b) :
  ∃ y' g' w' Q,bV CV y g=some (.normal,aK 218 y',g')/\zS y y'/\y' 14=w'/\az g g' (fun b=>iR w=some b)/\jS g' N w' (P++Q)/\Q.map (·.2)=iY S xs /\ ∀ b,iR w'=some b->iR w=some b\/g.next<=b:=by
 have B:(y 19 = .slice none 0 0/\ms = []) \/ ∃ b s,y 19 = .slice (some ⟨b,0,s⟩) ms.length ms.length/\g.get b=some (uf ms):=by
  rcases A.sl with h|⟨b,s,h1,h2,_⟩
  ·exact .inl h
  ·exact .inr ⟨b,s,h1,h2⟩
 obtain ⟨w',g',Q,e,k,D',hQ,hb⟩:=rz16 hG D h0 hN hP I hS B A.len A.is (fun m hm=>by obtain ⟨i,hi,rfl⟩:=FE.1 hm;exact (A.own i hi (by rw [<-A.len];exact hi)).zr) (by rw [A.len];exact hm)
  (fun b hb=>by
   obtain ⟨s1,s2,s3⟩:=sep b hb;refine ⟨s1,fun q => ?_,s3,fun m hm => ?_⟩
   ·rcases A.sl with ⟨h,_⟩|⟨c,s,h1,_,h3,_⟩
    ·rw [h] at q;cases q
    ·rw [h1] at q;cases q;omega
   ·obtain ⟨i,hi,rfl⟩:=FE.1 hm;have O:=A.own i hi (by rw [<-A.len];exact hi);exact ⟨fun _ y hy=>by have:=(O.lo y hy).1;omega,fun _ y hy=>by have:=(O.hi y hy).1;omega,fun q=>by have:=(O.rs.blk (slB_gsB q)).1;omega⟩)
 have e:=jx (f:=16) rfl (by decide) e;unfold bV;simp -implicitDefEqProofs only [y14, y18, e, aj];exact ⟨_,g',w',Q,rfl,⟨rfl,rfl,rfl,rfl,rfl,rfl,rfl⟩,rfl,k,D',hQ,hb⟩
theorem p_end {y:Nat->Value} {g:ai} {s:Nat} (y15:y 15=aq s) (hs:s<=100000000) : ∃ y',dA CV y g=some (.normal,aK 218 y',g)/\(y' 0=y 0/\y' 1=y 1/\y' 2=y 2/\y' 7=y 7/\y' 9=y 9/\y' 11=y 11)/\y' 14=y 14/\y' 15=aq (s+1):=by have a7:aF prog .add 3 (aq s) (.int .i64 1)=some (aq (s+1)):=dR (by omega);unfold dA;simp -implicitDefEqProofs only [y15,a7,aj,ak];exact ⟨_,rfl,⟨rfl,rfl,rfl,rfl,rfl,rfl⟩,rfl,rfl⟩
end Go.Proofs.YtdnahgfgoajmcaaGreatDoor
namespace Go.Proofs.YtdnahgfgoajmcaaGreatDoor
open Go Go.Abs Tryz
open Go.Lib (compareBytes)
section
section
variable {P:Program} {C:au} {a b:Code} {e e':aX} {h h':ai}
theorem gV (x:codeA P C a e h=some (.normal,e',h')):codeA P C (.seq a b) e h=codeA P C b e' h':=by show (match codeA P C a e h with|some (.normal,e',h')=>codeA P C b e' h'|r=>r)=_;rw [x]
theorem cSeqX {ex:Ex} (x:codeA P C a e h=some (ex,e',h')) (hx:ex ≠ .normal):codeA P C (.seq a b) e h=some (ex,e',h'):=by
 show (match codeA P C a e h with|some (.normal,e',h')=>codeA P C b e' h'|r=>r)=_;rw [x];cases ex with
 |normal=>exact absurd rfl hx
 |ret=>rfl
 |exit i=>rfl
theorem cBlk {i:Nat} {ex:Ex} (x:codeA P C a e h=some (ex,e',h')) (hx : ∀ j,ex ≠ .exit j):codeA P C (.block i a) e h=some (ex,e',h'):=by
 show (match codeA P C a e h with|some (.exit j,e',h')=>some ((if j=i then Ex.normal else Ex.exit j),e',h')|r=>r)=_;rw [x];cases ex with
 |normal=>rfl
 |ret=>rfl
 |exit i=>exact absurd rfl (hx i)
end
theorem q4B:ao f4 [1,1,1,1,1,1,1,1,1,0,1,0,0] = .seq (ao f4 [1,1,1,1,1,1,1,1,1,0,1,0,0,0]) (ao f4 [1,1,1,1,1,1,1,1,1,0,1,0,0,1]):=by kernel_rfl
theorem q4B1:ao f4 [1,1,1,1,1,1,1,1,1,0,1,0,0,1] = .seq (.block 1 (ao f4 [1,1,1,1,1,1,1,1,1,0,1,0,0,1,0,0])) (ao f4 [1,1,1,1,1,1,1,1,1,0,1,0,0,1,1]):=by kernel_rfl
theorem q4X0:ao f4 [1,1,1,1,1,1,1,1,1,0,1,0,0,1,0,0] = .seq (ao f4 [1,1,1,1,1,1,1,1,1,0,1,0,0,1,0,0,0]) (ao f4 [1,1,1,1,1,1,1,1,1,0,1,0,0,1,0,0,1]):=by kernel_rfl
theorem q4X1:ao f4 [1,1,1,1,1,1,1,1,1,0,1,0,0,1,0,0,1] = .seq (ao f4 [1,1,1,1,1,1,1,1,1,0,1,0,0,1,0,0,1,0]) (ao f4 [1,1,1,1,1,1,1,1,1,0,1,0,0,1,0,0,1,1]):=by kernel_rfl
theorem q4X2:ao f4 [1,1,1,1,1,1,1,1,1,0,1,0,0,1,0,0,1,1] = .seq (ao f4 [1,1,1,1,1,1,1,1,1,0,1,0,0,1,0,0,1,1,0]) (ao f4 [1,1,1,1,1,1,1,1,1,0,1,0,0,1,0,0,1,1,1]):=by kernel_rfl
theorem q4X3:ao f4 [1,1,1,1,1,1,1,1,1,0,1,0,0,1,0,0,1,1,1] = .seq (ao f4 [1,1,1,1,1,1,1,1,1,0,1,0,0,1,0,0,1,1,1,0]) (ao f4 [1,1,1,1,1,1,1,1,1,0,1,0,0,1,0,0,1,1,1,1]):=by kernel_rfl
theorem q4X4:ao f4 [1,1,1,1,1,1,1,1,1,0,1,0,0,1,0,0,1,1,1,1] = .seq (ao f4 [1,1,1,1,1,1,1,1,1,0,1,0,0,1,0,0,1,1,1,1,0]) (ao f4 [1,1,1,1,1,1,1,1,1,0,1,0,0,1,0,0,1,1,1,1,1]):=by kernel_rfl
theorem q4X5:ao f4 [1,1,1,1,1,1,1,1,1,0,1,0,0,1,0,0,1,1,1,1,1] = .seq (ao f4 [1,1,1,1,1,1,1,1,1,0,1,0,0,1,0,0,1,1,1,1,1,0]) (ao f4 [1,1,1,1,1,1,1,1,1,0,1,0,0,1,0,0,1,1,1,1,1,1]):=by kernel_rfl
theorem q4X6:ao f4 [1,1,1,1,1,1,1,1,1,0,1,0,0,1,0,0,1,1,1,1,1,1] = .seq (ao f4 [1,1,1,1,1,1,1,1,1,0,1,0,0,1,0,0,1,1,1,1,1,1,0]) (ao f4 [1,1,1,1,1,1,1,1,1,0,1,0,0,1,0,0,1,1,1,1,1,1,1]):=by kernel_rfl
theorem q4X7:ao f4 [1,1,1,1,1,1,1,1,1,0,1,0,0,1,0,0,1,1,1,1,1,1,1] = .seq (ao f4 [1,1,1,1,1,1,1,1,1,0,1,0,0,1,0,0,1,1,1,1,1,1,1,0]) (ao f4 [1,1,1,1,1,1,1,1,1,0,1,0,0,1,0,0,1,1,1,1,1,1,1,1]):=by kernel_rfl
theorem q4X8:ao f4 [1,1,1,1,1,1,1,1,1,0,1,0,0,1,0,0,1,1,1,1,1,1,1,1] = .seq (ao f4 [1,1,1,1,1,1,1,1,1,0,1,0,0,1,0,0,1,1,1,1,1,1,1,1,0]) (ao f4 [1,1,1,1,1,1,1,1,1,0,1,0,0,1,0,0,1,1,1,1,1,1,1,1,1]):=by kernel_rfl
theorem q4X9:ao f4 [1,1,1,1,1,1,1,1,1,0,1,0,0,1,0,0,1,1,1,1,1,1,1,1,1] = .seq (ao f4 [1,1,1,1,1,1,1,1,1,0,1,0,0,1,0,0,1,1,1,1,1,1,1,1,1,0]) (ao f4 [1,1,1,1,1,1,1,1,1,0,1,0,0,1,0,0,1,1,1,1,1,1,1,1,1,1]):=by kernel_rfl
theorem q4X10:ao f4 [1,1,1,1,1,1,1,1,1,0,1,0,0,1,0,0,1,1,1,1,1,1,1,1,1,1] = .seq (ao f4 [1,1,1,1,1,1,1,1,1,0,1,0,0,1,0,0,1,1,1,1,1,1,1,1,1,1,0]) (ao f4 [1,1,1,1,1,1,1,1,1,0,1,0,0,1,0,0,1,1,1,1,1,1,1,1,1,1,1]):=by kernel_rfl
theorem q4X11:ao f4 [1,1,1,1,1,1,1,1,1,0,1,0,0,1,0,0,1,1,1,1,1,1,1,1,1,1,1] = .seq (ao f4 [1,1,1,1,1,1,1,1,1,0,1,0,0,1,0,0,1,1,1,1,1,1,1,1,1,1,1,0]) (ao f4 [1,1,1,1,1,1,1,1,1,0,1,0,0,1,0,0,1,1,1,1,1,1,1,1,1,1,1,1]):=by kernel_rfl
theorem round_go {y y0 y1 y2 y3 y4 y5 y6 y7 y8 y9 ya yb yc yd ye:Nat->Value} {g g3 g4 g7 g8 ga gd:ai}
  (h0:cP CV y g=some (.normal,aK 218 y0,g)) (h1:cL CV y0 g=some (.normal,aK 218 y1,g)) (h2:cK CV y1 g=some (.normal,aK 218 y2,g)) (h3:bS CV y2 g=some (.normal,aK 218 y3,g))
  (h4:cF CV y3 g=some (.normal,aK 218 y4,g3)) (h5:cB CV y4 g3=some (.normal,aK 218 y5,g4)) (h6:cm CV y5 g4=some (.normal,aK 218 y6,g4)) (h7:bY CV y6 g4=some (.normal,aK 218 y7,g4))
  (h8:bQ CV y7 g4=some (.normal,aK 218 y8,g7)) (h9:cC CV y8 g7=some (.normal,aK 218 y9,g8)) (ha:cy CV y9 g8=some (.normal,aK 218 ya,g8)) (hb:cd CV ya g8=some (.normal,aK 218 yb,ga))
  (hc:bP CV yb ga=some (.normal,aK 218 yc,ga)) (hd:bV CV yc ga=some (.normal,aK 218 yd,gd)) (he:dA CV yd gd=some (.normal,aK 218 ye,gd)) :
  codeA prog CV (ao f4 [1,1,1,1,1,1,1,1,1,0,1,0,0]) (aK 218 y) g=some (.normal,aK 218 ye,gd):=by
 rw [q4B,gV ((fk _ _ _).trans h0),q4B1];refine (gV (cBlk (ex := .normal) (e':=aK 218 yd) (h':=gd) ?_ (fun _ h=>by cases h))).trans ((ni _ _ _).trans he);rw [q4X0,gV ((gI _ _ _).trans h1),q4X1,gV ((gy _ _ _).trans h2),q4X2,gV ((fO _ _ _).trans h3),q4X3,gV ((ft _ _ _).trans h4),q4X4,gV ((fh _ _ _).trans h5),q4X5,gV ((eW _ _ _).trans h6),q4X6,gV ((eS _ _ _).trans h7),
  q4X7,gV ((eJ _ _ _).trans h8),q4X8,gV ((iK _ _ _).trans h9),q4X9,gV ((iB _ _ _).trans ha),q4X10,gV ((hU _ _ _).trans hb),q4X11,gV ((hJ _ _ _).trans hc)]
 exact (gW _ _ _).trans hd
theorem round_ret {y y0 y1 y2 y3 y4 y5 y6 y7 y8:Nat->Value} {g g3 g4 g7:ai}
  (h0:cP CV y g=some (.normal,aK 218 y0,g)) (h1:cL CV y0 g=some (.normal,aK 218 y1,g)) (h2:cK CV y1 g=some (.normal,aK 218 y2,g)) (h3:bS CV y2 g=some (.normal,aK 218 y3,g))
  (h4:cF CV y3 g=some (.normal,aK 218 y4,g3)) (h5:cB CV y4 g3=some (.normal,aK 218 y5,g4)) (h6:cm CV y5 g4=some (.normal,aK 218 y6,g4)) (h7:bY CV y6 g4=some (.normal,aK 218 y7,g4))
  (h8:bQ CV y7 g4=some (.ret,aK 218 y8,g7)) :
  codeA prog CV (ao f4 [1,1,1,1,1,1,1,1,1,0,1,0,0]) (aK 218 y) g=some (.ret,aK 218 y8,g7):=by
 rw [q4B,gV ((fk _ _ _).trans h0),q4B1];refine cSeqX (cBlk (ex := .ret) (e':=aK 218 y8) (h':=g7) ?_ (fun _ h=>by cases h)) (fun h=>by cases h);rw [q4X0,gV ((gI _ _ _).trans h1),q4X1,gV ((gy _ _ _).trans h2),q4X2,gV ((fO _ _ _).trans h3),q4X3,gV ((ft _ _ _).trans h4),q4X4,gV ((fh _ _ _).trans h5),q4X5,gV ((eW _ _ _).trans h6),q4X6,gV ((eS _ _ _).trans h7),q4X7];exact cSeqX ((eJ _ _ _).trans h8) (fun h=>by cases h)
theorem round_out {y y0:Nat->Value} {g:ai} (h0:cP CV y g=some (.exit 0,aK 218 y0,g)):codeA prog CV (ao f4 [1,1,1,1,1,1,1,1,1,0,1,0,0]) (aK 218 y) g=some (.exit 0,aK 218 y0,g):=by rw [q4B];exact cSeqX ((fk _ _ _).trans h0) (fun h=>by cases h)
end
end Go.Proofs.YtdnahgfgoajmcaaGreatDoor
namespace Go.Proofs.YtdnahgfgoajmcaaGreatDoor
open Go Go.Abs Tryz
open Go.Lib (compareBytes)
attribute [local congr] aw
theorem kj.keepB {h h':ai} {vb:Nat} {L:List av} {B:Nat->Prop} (I:kj h vb L) (k:az h h' B) (h1 : ¬B vb) (h2 : ∀ va,h.get vb=some [va] -> ∀ c,slB va=some c -> ¬B c):kj h' vb L:=by obtain ⟨va,gv,rv,nv⟩:=I.ex;exact ⟨by rw [k.n0];exact I.n0,⟨va,k.getE gv h1,rv.keepB k (h2 va gv),nv⟩,I.vld,I.ks⟩
theorem kj.keepC {h h':ai} {vb c:Nat} {w:Value} {L:List av} (I:kj h vb L) (k:az h h' (· = c)) (hc:h.get c=some [w]) (hne:vb≠c):kj h' vb L:=by obtain ⟨va,gv,rv,nv⟩:=I.ex;exact ⟨by rw [k.n0];exact I.n0,⟨va,k.getE gv hne,rv.keepC k hc,nv⟩,I.vld,I.ks⟩
theorem kj.cellS {h:ai} {vb:Nat} {L:List av} (I:kj h vb L) : ∃ u,h.get vb=some [u] /\ ∃ a n d,u = .slice a n d:=by obtain ⟨va,gv,rv,_⟩:=I.ex;obtain ⟨_,a,d,e,_⟩:=rv;exact ⟨va,gv,_,_,_,e⟩
theorem kj.low {h:ai} {vb:Nat} {L:List av} (I:kj h vb L) {va:Value} (g:h.get vb=some [va]) {c:Nat} (e:slB va=some c):c<h.next:=by obtain ⟨va',gv,rv,_⟩:=I.ex;rw [g] at gv;cases gv;exact rv.slb e
structure Sst (h0 g:ai) (N:Nat) (w:Value) (V:Bool->Nat) (bb:Nat) (S:Bool->List av) (BB:List av) (P:List (ME×Ml)):Prop where
 old:aE h0 g
 vN : ∀ b,h0.next<=V b/\V b<N
 bN:h0.next<=bb/\bb<N
 ne:V false≠V true /\ ∀ b,V b≠bb
 I : ∀ b,kj g (V b) (S b)
 B:kj g bb BB
 net:jS g N w P
 hN:N<=g.next
 sep : ∀ c,iR w=some c->(∀ va,g.get bb=some [va]->slB va≠some c) /\ ∀ b va,g.get (V b)=some [va]->slB va≠some c
theorem map_split {P:List (ME×Ml)} {i:Nat} (hi:i<P.length):P.map (·.2)=(P.take i).map (·.2)++P[i].2::(P.drop (i+1)).map (·.2):=by
 conv=>lhs;rw [<-List.take_append_drop i P,E8 hi]
 rw [FH,FR]
theorem vne {V:Bool->Nat} (h:V false≠V true) {a b:Bool} (e:a≠b):V a≠V b:=by
 cases a<;>cases b
 ·exact absurd rfl e
 ·exact h
 ·exact fun q=>h q.symm
 ·exact absurd rfl e
theorem clash_no {A B:List av} (c:lF A B=false) (ha:jj A=false) (hb:jj B=false) (hl:A.length=B.length) (ht:cM A=cM B):A=B:=by
 unfold lF at c;rw [DC hl,EM] at c;refine Classical.byContradiction fun h => ?_;have e1:gE A=gE B:=by unfold gE;rw [ha,hb];exact ht
 rw [DF h,DC e1] at c;cases c
theorem invB_of {T A:List av} (v:mQ T) (h : ∀ r∈A,r∈T):jj A=false:=by unfold jj;rw [H3];intro r hr;rw [(v r (h r hr)).2];decide
set_option maxRecDepth 100000 in
set_option maxHeartbeats 2000000 in
theorem round {h0 g:ai} (hG:4<=h0.n0) (hr:GR h0) (hg0:GZ h0) (hz:h0.get 3=some bT) (kn : ∀ q,aE h0 q->CV 5 [] q=some (.bool true,q)) {T:List av} (v:mQ T) (hT:T.length<=10000) {N:Nat} {w:Value} {V:Bool->Nat} {bb:Nat} {S:Bool->List av} {BB:List av} {P:List (ME×Ml)}
  (Z:Sst h0 g N w V bb S BB P) (ses:BN T S (P.map (·.2))) {y:Nat->Value} {s la lb:Nat} (y0:lenL (y 0)=some (aq la)) (y1:lenL (y 1)=some (aq lb)) (hab:la+lb=T.length) {O:List Int} (W:InS h0 (y 2) O) (hO:O.length<=1000000) (y7:y 7=ptr (V false) 0) (y9:y 9=ptr (V true) 0) (y14:y 14=w) (y15:y 15=aq s) (hpot:kv T (P.map (·.2))+s<=2*T.length+7) :
  ∃ ex y' g',codeA prog CV (ao Tryz.f4 [1,1,1,1,1,1,1,1,1,0,1,0,0]) (aK 218 y) g=some (ex,aK 218 y',g')/\aE h0 g' /\
    ((P = []/\ex = .exit 0/\g'=g/\zS y y')\/(ex = .ret/\y' 6 = .bool true) \/
     (ex = .normal /\ ∃ w' S' P',Sst h0 g' N w' V bb S' BB P'/\BN T S' (P'.map (·.2))/\kv T (P'.map (·.2))+1<=kv T (P.map (·.2))/\(y' 0=y 0/\y' 1=y 1/\y' 2=y 2/\y' 7=y 7/\y' 9=y 9/\y' 11=y 11)/\y' 14=w'/\y' 15=aq (s+1))):=by
 have ln:lenL (y 14)=some (aq P.length):=by rw [y14];exact Z.net.sl.lenL
 obtain ⟨z0,a0,F0,f0⟩:=p_b0 (g:=g) ln;by_cases hp:P.length=0
 ·rw [DL hp] at a0;exact ⟨_,z0,g,round_out a0,Z.old,.inl ⟨DW.1 hp,rfl,rfl,F0⟩⟩
 ·rw [DM hp] at a0;have hgn0:g.n0=h0.n0:=Z.old.n0;have hgnx:h0.next<=g.next:=Z.old.next;have h0x:=h0.n0_le_next;have vN0:=Z.vN false;have hphi:P.length<=kv T (P.map (·.2)):=by
   have : ∀ l:List Ml,l.length<=kv T l:=fun l=>by
    induction l with
    |nil=>exact FN _
    |cons a l ih=>rw [qO,List.length_cons];have:=phi_pos T a;omega
   have:=this (P.map (·.2));rw [DY] at this;exact this
  obtain ⟨z1,a1,F1,f1⟩:=p_x0 (y:=z0) (g:=g) (a:=la) (b:=lb) (s:=s) (by rw [F0.f0];exact y0) (by rw [F0.f1];exact y1) (by rw [F0.f15];exact y15) (by omega) (by omega) (by omega);have G1:=F0.trans F1;obtain ⟨z2,a2,F2,f2,f2'⟩:=p_i0 z1 g;have G2:=G1.trans F2;have e14:z2 14=w:=by rw [f2,f1,f0];exact y14
  obtain ⟨z3,i,a3,F3,f3,f3',hi⟩:=p_pick (y:=z2) (h:=h0) (g:=g) (n:=P.length) (s:=s) (O:=O) (by omega) (by omega) (by rw [e14];exact Z.net.sl.lenL) (by rw [G2.f2];exact W) Z.old hO (by rw [G2.f15];exact y15) (by omega) f2';have G3:=G2.trans F3;obtain ⟨z4,g1,a4,F4,f4,f4',f4'',o1,M1,n1⟩:=p_m (y:=z3) (g:=g) Z.net g.n0_le_next (by rw [f3];exact e14) hi f3';have G4:=G3.trans F4;obtain ⟨z5,g2,w2,a5,F5,f5,f5',o2,D2,hb2⟩:=p_net (y:=z4) (g:=g1) (Z.net.old o1) (by rw [o1.n0];omega) (by have:=Z.hN;omega) (by omega) f4 hi f4';have G5:=G4.trans F5;have E:=Z.net.is _ (EL hi);have hsp:=map_split hi;rw [hsp] at ses;have ke:=ses.msg P[i].2 (EW _ ED);have hphs:kv T (P.map (·.2))=kv T ((P.take i).map (·.2))+(C7 T P[i].2+kv T ((P.drop (i+1)).map (·.2))):=by rw [hsp,yg,qO]
  generalize P[i].1=e at *;generalize P[i].2=m at *;have O2:=o1.trans o2;obtain ⟨z6,a6,F6,f6,f6',f6''⟩:=p_at0 z5 g2;have G6:=G5.trans F6;obtain ⟨z7,a7,F7,f7,f7',f7''⟩:=p_at1 (y:=z6) (g:=g2) (M1.old o2) (by rw [f6',f5',f4'']);have G7:=G6.trans F7;have e17:z7 17=ptr g.next 0:=by rw [f7',f6',f5',f4'']
  have e18:z7 18=ptr (V (bq m.m)) 0:=by
   rw [f7'',f6'',G6.f7,G5.f9,E.m.to];unfold bq;by_cases h:m.m.to=0
   ·rw [DL h,DC h];exact y7
   ·rw [DM h,DF h];exact y9
  generalize hb:bq m.m=b at *;have I2:=(Z.I b).old O2;have old2:=Z.old.trans O2;have M2:=M1.old o2;have E2:=E.old O2;have hSl : ∀ c,(S c).length<=T.length:=fun c=>kU ((ses.sid c).ks.nodup) (ses.sid c).sub;have hml:m.l.length<=1000000:=by have:=ke.lenl;omega
  obtain ⟨z8,g3,o3,hcl⟩:=p_cl (y:=z7) (g:=g2) (by rw [old2.n0];exact hG) (hr.old old2) (hg0.old old2) (fun q oq=>kn q (old2.trans oq)) M2 E2 e17 e18 I2 (by have:=hSl b;omega) hml;have old3:=old2.trans o3;rcases hcl with ⟨a8,r6⟩|⟨a8,F8,f8,f8',f8'',hnc⟩
  ·exact ⟨_,z8,g3,round_ret a0 a1 a2 a3 a4 a5 a6 a7 a8,old3,.inr (.inl ⟨rfl,r6⟩)⟩
  ·have G8:=G7.trans F8;have O3:=O2.trans o3;have I3:=I2.old o3;have n12:=o2.next;have n23:=o3.next;have hnc':m.m.kind=4->m.l.length=((S (bq m.m)).filter (cX m.m.lo m.m.hi)).length->cM m.l=cM ((S (bq m.m)).filter (cX m.m.lo m.m.hi))->m.l=(S (bq m.m)).filter (cX m.m.lo m.m.hi):=fun h4 h5 h6=>by rw [hb] at h5 h6 |-;exact clash_no (hnc h4) (invB_of v ke.subl) (invB_of v fun r hr=>(ses.sid b).sub r (EE.1 hr).1) h5 h6
   have st:=ses.step v hnc';rw [hb] at st;have sd' : ∀ c,Sid T (sP S b (fX (S b) m.m).1 c):=by have:=st.ses.sid;rw [hb] at this;exact this
   have hS':(fX (S b) m.m).1.length<=T.length:=by have:=sd' b;unfold sP at this;rw [DL rfl] at this;exact kU this.ks.nodup this.sub
   obtain ⟨z9,g4,ms,a9,F9,f9,f9',f9'',e20,k4,I4,A4,l4⟩:=p_rep (y:=z8) (g:=g3) (by rw [old3.n0];exact hG) (aE.get old3 hz) (M2.old o3) (E2.old o3) (by rw [f8',e17]) (by rw [f8'',e18]) I3 (by have:=hSl b;omega) (by have:=ke.len;omega) (by have:=ke.lo;omega) (by have:=ke.hi;omega);have G9:=G8.trans F9;rw [st.err] at e20;have n34:=k4.next;have vNb:=Z.vN b;have hN:=Z.hN;obtain ⟨u3,gu3,su3⟩:=I3.cellS;have D3:=D2.old o3;have D4:jS g4 N w2 (P.take i++P.drop (i+1)):=D3.cell k4 gu3 su3 vNb.2;have M4:=(M2.old o3).keep k4 (fun q=>by have q:g.next=V b:=q;omega);have E4:=(E2.old o3).cell k4 gu3 su3;have old4:aE h0 g4:=old3.also k4 fun c hc q=>by have q:c=V b:=q;omega
   obtain ⟨za,aa,Fa,fa,fa',fa'',fa3⟩:=p_err (y:=z9) (g:=g4) e20;have Ga:=G9.trans Fa;obtain ⟨zb,g5,ms5,ab,Fb,fb,fb',fb'',k5,I5,A5,l5⟩:=p_tw (y:=za) (g:=g4) (by rw [old4.n0];exact hG) (aE.get old4 hz) M4 E4 (by rw [fa',f9',f8',e17]) (by rw [fa'',f9'',f8'',e18]) I4 (by omega) (by have:=ke.len;omega) (by have:=ke.lo;omega) (by have:=ke.hi;omega) n34 (by rw [fa3];exact A4) st.twice;have Gb:=Ga.trans Fb;have n45:=k5.next;obtain ⟨u4,gu4,su4⟩:=I4.cellS;have D5:=D4.cell k5 gu4 su4 vNb.2;have M5:=M4.keep k5 (fun q=>by have q:g.next=V b:=q;omega);have E5:=E4.cell k5 gu4 su4;have old5:aE h0 g5:=old4.also k5 fun c hc q=>by have q:c=V b:=q;omega
   have hxs:(fX (S b) m.m).2.1.length<=100000:=by have:=st.len;omega
   obtain ⟨zc,ac,Fc,fc,fc',fc'',fc3⟩:=p_j (y:=zb) (g:=g5) M5 E5 (by rw [fb',fa',f9',f8',e17]) A5 (by omega) st.ends;have Gc:=Gb.trans Fc;have It : ∀ c,kj g5 (V c) (sP S b (fX (S b) m.m).1 c):=fun c=>by
    unfold sP;by_cases q:c=b
    ·rw [DL q,q];exact I5
    ·rw [DM q];exact ((((Z.I c).old O3).keepC k4 gu3 (vne Z.ne.1 q)).keepC k5 gu4 (vne Z.ne.1 q))
   have Bt:=((Z.B.old O3).keepC k4 gu3 (fun q=>Z.ne.2 b q.symm)).keepC k5 gu4 (fun q=>Z.ne.2 b q.symm);have lowc : ∀ c,c≠b -> ∀ va,g5.get (V c)=some [va] -> ∀ β,slB va=some β->β<g.next:=fun c hc va gv β q=>by obtain ⟨u,gu,_⟩:=(Z.I c).cellS;have h1:g5.get (V c)=some [u]:=k5.getE (k4.getE (aE.get O3 gu) (vne Z.ne.1 hc)) (vne Z.ne.1 hc);rw [gv] at h1;cases h1;exact (Z.I c).low gu q
   have lowB : ∀ va,g5.get bb=some [va] -> ∀ β,slB va=some β->β<g.next:=fun va gv β q=>by obtain ⟨u,gu,_⟩:=Z.B.cellS;have h1:g5.get bb=some [u]:=k5.getE (k4.getE (aE.get O3 gu) (fun q=>Z.ne.2 b q.symm)) (fun q=>Z.ne.2 b q.symm);rw [gv] at h1;cases h1;exact Z.B.low gu q
   have lowb : ∀ va,g5.get (V b)=some [va] -> ∀ β,slB va=some β->β<g.next\/g3.next<=β:=fun va gv β q=>by
    rcases l5 va β gv q with h|h
    ·exact .inr (by omega)
    ·rcases l4 va β h q with h|h
     ·exact .inr h
     ·obtain ⟨u,gu,_⟩:=(Z.I b).cellS;have h1:g3.get (V b)=some [u]:=aE.get O3 gu;rw [h] at h1;cases h1;exact .inl ((Z.I b).low gu q)
   have nw : ∀ β,iR w2=some β->g1.next<=β/\β<g2.next:=fun β hβ=>⟨hb2 β hβ,(D2.sl.blk hβ).2⟩
   have Iu:kj g5 (V b) (fX (S b) m.m).1:=I5;obtain ⟨zd,g6,w3,Q,ad,Fd,fd,k6,D6,hQ,hb3⟩:=p_send (y:=zc) (g:=g5) (by rw [old5.n0];exact hG) D5 (by rw [old5.n0];omega) (by omega) (by rw [DE,DV,EB];omega) Iu (by omega) (by rw [fc,fb,fa,f9,f8,f7,f6,f5]) (by rw [fc'',fb'',fa'',f9'',f8'',e18]) (M:=g3.next) (by rw [fc3];exact A5) hxs
    (fun β hβ=>by obtain ⟨h1,h2⟩:=nw β hβ;refine ⟨by omega,by omega,fun va gv q => ?_⟩;rcases lowb va gv β q with h|h<;>omega)
   have Gd:=Gc.trans Fd;have n56:=k6.next;have old6:aE h0 g6:=old5.also k6 fun c hc q=>by have:=(nw c q).1;omega
   obtain ⟨ze,ae,⟨e0,e1,e2,e7,e9,e11⟩,e14',e15'⟩:=p_end (y:=zd) (g:=g6) (s:=s) (by rw [Gd.f15];exact y15) (by omega);have slow : ∀ c va,g5.get (V c)=some [va] -> ∀ β,slB va=some β->iR w2≠some β:=fun c va gv β q hβ=>by
    obtain ⟨h1,h2⟩:=nw β hβ;by_cases hc:c=b
    ·subst hc;rcases lowb va gv β q with h|h<;>omega
    ·have:=lowc c hc va gv β q;omega
   have slowB : ∀ va,g5.get bb=some [va] -> ∀ β,slB va=some β->iR w2≠some β:=fun va gv β q hβ=>by obtain ⟨h1,h2⟩:=nw β hβ;have:=lowB va gv β q;omega
   have vNc:=Z.vN;have bNc:=Z.bN;have I6 : ∀ c,kj g6 (V c) (sP S b (fX (S b) m.m).1 c):=fun c=>(It c).keepB k6 (fun q=>by have:=(nw _ q).1;have:=(vNc c).2;omega) (slow c);have B6:kj g6 bb BB:=Bt.keepB k6 (fun q=>by have:=(nw _ q).1;omega) slowB;refine ⟨_,ze,g6,round_go a0 a1 a2 a3 a4 a5 a6 a7 a8 a9 aa ab ac ad ae,old6,.inr (.inr ⟨rfl,w3,sP S b (fX (S b) m.m).1,(P.take i++P.drop (i+1))++Q,⟨old6,Z.vN,Z.bN,Z.ne,I6,B6,D6,by omega,fun β hβ=>⟨fun va gv q => ?_,fun c va gv q => ?_⟩⟩,?_,?_,⟨e0.trans Gd.f0,e1.trans Gd.f1,e2.trans Gd.f2,e7.trans Gd.f7,e9.trans Gd.f9,e11.trans Gd.f11⟩,e14'.trans fd,e15'⟩)⟩
   ·obtain ⟨u,gu,_⟩:=Bt.cellS;have h1:g6.get bb=some [u]:=k6.getE gu (fun q=>by have:=(nw _ q).1;omega);rw [gv] at h1;cases h1;rcases hb3 β hβ with h|h
    ·exact slowB va gu β q h
    ·have:=Bt.low gu q;omega
   ·obtain ⟨u,gu,_⟩:=(It c).cellS;have h1:g6.get (V c)=some [u]:=k6.getE gu (fun q=>by have:=(nw _ q).1;have:=(vNc c).2;omega);rw [gv] at h1;cases h1;rcases hb3 β hβ with h|h
    ·exact slow c va gu β q h
    ·have:=(It c).low gu q;omega
   ·have:=st.ses;rw [hb] at this;rw [FH,FH,hQ];exact this
   ·rw [FH,FH,hQ,yg,yg,hphs];have:=st.pot;omega
theorem lls_two {h:ai} {v u:Value} {L M:List av} (x:gC h v L) (z:gC h u M) : ∃ w h',dg 1 (.slice none 0 0) 2 [(0,v),(1,u)] h=some (w,h')/\aE h h'/\LLS h' w [L,M]:=by
 have x':=x;have z':=z;obtain ⟨hd,a,d,rfl,hn,ht,h0⟩:=x;obtain ⟨hd2,a2,d2,rfl,hn2,ht2,h02⟩:=z;have o1:aE h (h.alloc [.slice a L.length d,.slice a2 M.length d2]):=az.alloc _ _ _;have g1:(h.alloc [.slice a L.length d,.slice a2 M.length d2]).get h.next=some [.slice a L.length d,.slice a2 M.length d2]:=by rw [ai.aN,DL rfl]
 refine ⟨.slice (some ⟨h.next,0,none⟩) 2 2,h.alloc [.slice a L.length d,.slice a2 M.length d2],rfl,o1,⟨_,_,rfl⟩,fun i hi => ?_⟩;have hi':i<2:=hi;have hlt:h.next<(h.alloc [.slice a L.length d,.slice a2 M.length d2]).next:=by have:(h.alloc [.slice a L.length d,.slice a2 M.length d2]).next=h.next+1:=rfl;omega
 match i,hi with
 | 0,_=>exact ⟨h.next,0,.slice a L.length d,rfl,hlt,fun g e=>aW (e.trans g1) rfl rfl,x'.mono o1⟩
 | 1,_=>exact ⟨h.next,1,.slice a2 M.length d2,rfl,hlt,fun g e=>aW (e.trans g1) rfl rfl,z'.mono o1⟩
 |n+2,h=>exact absurd hi' (by omega)
theorem right_two {A B:List av} (h:nJ [A,B]=true):(∀ r∈A++B,dX r=true)/\(A++B).length<=120:=by unfold nJ at h;simp only [DK,DS,List.all_cons,List.all_nil,D9,List.flatten_cons,List.flatten_nil,EU] at h;obtain ⟨⟨_,⟨_,ha⟩,_,hb⟩,hl⟩:=h;refine ⟨fun r hr => ?_,hl⟩;rw [DR] at ha hb;exact (DU.1 hr).elim (ha r) (hb r)
structure FrA (y y':Nat->Value):Prop where
 f0:y' 0=y 0
 f1:y' 1=y 1
 f2:y' 2=y 2
theorem FrA.trans {a b c:Nat->Value} (x:FrA a b) (y:FrA b c):FrA a c:=⟨y.f0.trans x.f0,y.f1.trans x.f1,y.f2.trans x.f2⟩
theorem s_0 (y:Nat->Value) (g:ai) : ∃ y',xL CV y g=some (.normal,aK 218 y',g)/\FrA y y':=by unfold xL;simp -implicitDefEqProofs only [aj];exact ⟨_,rfl,rfl,rfl,rfl⟩
theorem s_1 {y:Nat->Value} {g:ai} (hG:4<=g.n0) (kn : ∀ q,aE g q->CV 5 [] q=some (.bool true,q)) {A B:List av} {O:List Int} (hv:gC g (y 0) A) (hu:gC g (y 1) B) (ho:InS g (y 2) O) :
  ∃ y' g',aE g g'/\((pB CV y g=some (.ret,aK 218 y',g')/\y' 6 = .bool true)\/(pB CV y g=some (.normal,aK 218 y',g')/\FrA y y'/\nJ [A,B]=true/\O.length<=100)):=by
 obtain ⟨w,g1,e1,o1,L1⟩:=lls_two hv hu;obtain ⟨g2,e2,o2⟩:=r24 (h:=g1) (by rw [o1.n0];exact hG) L1;have e2:=jx (f:=14) rfl (by decide) e2;have O2:=o1.trans o2;have ln:lenL (y 2)=some (aq O.length):=by obtain ⟨⟨a,c,e⟩,_⟩:=ho;rw [e];rfl
 have gt:aF prog .gtr 3 (aq O.length) (.int .i64 100)=some (.bool (decide (100<O.length))):=zk O.length 100 100 rfl;unfold pB;cases hb:nJ [A,B] with
 |false=>
  rw [hb] at e2;simp -implicitDefEqProofs only [e1,e2,aV,DO,bt',aG,EA,kn g2 O2,aj,ak];exact ⟨_,g2,O2,.inl ⟨rfl,rfl⟩⟩
 |true=>
  rw [hb] at e2;by_cases h1:100<O.length
  ·rw [DC h1] at gt;simp -implicitDefEqProofs only [e1,e2,aV,DP,bf,aC,ln,gt,DG,EF,kn g2 O2,aj,ak];exact ⟨_,g2,O2,.inl ⟨rfl,rfl⟩⟩
  ·rw [DF h1] at gt;simp -implicitDefEqProofs only [e1,e2,aV,DP,bf,aC,ln,gt,DG,EF,aj,ak];exact ⟨_,g2,O2,.inr ⟨rfl,⟨rfl,rfl,rfl⟩,trivial,by omega⟩⟩
theorem s_2 {y:Nat->Value} {g:ai} (hG:4<=g.n0) {A:List av} (hv:gC g (y 0) A) (va : ∀ r∈A,dX r=true) (hl:A.length<=500000) :
  ∃ y' g' vb,ri CV y g=some (.normal,aK 218 y',g')/\FrA y y'/\y' 7=ptr vb 0/\y' 8 = .int .i64 0/\kj g' vb (aT [] A)/\aE g g'/\g.next<=vb:=by
 obtain ⟨vb,g',e,I,o,hn⟩:=r15 hG hv va hl;have x0:extractA (.tuple #[ptr vb 0,.int .i64 0]) 0=some (ptr vb 0):=rfl;have x1:extractA (.tuple #[ptr vb 0,.int .i64 0]) 1=some (.int .i64 0):=rfl;unfold ri;simp -implicitDefEqProofs only [e,x0,x1,aj,ak];exact ⟨_,g',vb,rfl,⟨rfl,rfl,rfl⟩,rfl,rfl,I,o,hn⟩
theorem s_3 {y:Nat->Value} {g:ai} (hG:4<=g.n0) {B:List av} (hv:gC g (y 1) B) (va : ∀ r∈B,dX r=true) (hl:B.length<=500000) :
  ∃ y' g' vb,ou CV y g=some (.normal,aK 218 y',g')/\FrA y y'/\y' 7=y 7/\y' 8=y 8/\y' 9=ptr vb 0/\y' 10 = .int .i64 0/\kj g' vb (aT [] B)/\aE g g'/\g.next<=vb:=by
 obtain ⟨vb,g',e,I,o,hn⟩:=r15 hG hv va hl;have x0:extractA (.tuple #[ptr vb 0,.int .i64 0]) 0=some (ptr vb 0):=rfl;have x1:extractA (.tuple #[ptr vb 0,.int .i64 0]) 1=some (.int .i64 0):=rfl;unfold ou;simp -implicitDefEqProofs only [e,x0,x1,aj,ak];exact ⟨_,g',vb,rfl,⟨rfl,rfl,rfl⟩,rfl,rfl,rfl,rfl,I,o,hn⟩
theorem s_4 {y:Nat->Value} {g:ai} (hG:4<=g.n0) {A B:List av} (hv:gC g (y 0) A) (hu:gC g (y 1) B) (va : ∀ r∈A++B,dX r=true) (hl:(A++B).length<=500000) :
  ∃ y' g' vb,mJ CV y g=some (.normal,aK 218 y',g')/\FrA y y'/\y' 7=y 7/\y' 8=y 8/\y' 9=y 9/\y' 10=y 10/\y' 11=ptr vb 0/\y' 12 = .int .i64 0/\kj g' vb (aT [] (A++B))/\aE g g'/\g.next<=vb:=by
 have hl':=hl;rw [DE] at hl';obtain ⟨v1,g1,e1,o1,r1⟩:=r26L hG hv (by omega);have e1:=jx (f:=8) rfl (by decide) e1;obtain ⟨v2,g2,e2,r2,k2,_⟩:=r1.pushL (hu.mono o1) (by rw [o1.n0];exact g.n0_le_next) o1.next (by omega) (by omega);have o2:aE g g2:=aE.bK o1 k2 r1.blk.1;obtain ⟨vb,g',e,I,o,hn⟩:=r15 (h:=g2) (by rw [o2.n0];exact hG) r2.rcs va hl;have x0:extractA (.tuple #[ptr vb 0,.int .i64 0]) 0=some (ptr vb 0):=rfl;have x1:extractA (.tuple #[ptr vb 0,.int .i64 0]) 1=some (.int .i64 0):=rfl;have:=o2.next;unfold mJ;simp -implicitDefEqProofs only [e1,e2,e,x0,x1,aj,ak];exact ⟨_,g',vb,rfl,⟨rfl,rfl,rfl⟩,rfl,rfl,rfl,rfl,rfl,rfl,I,o2.trans o,by omega⟩
theorem s_5 {y:Nat->Value} {g:ai} (y8:y 8 = .int .i64 0) (y10:y 10 = .int .i64 0) (y12:y 12 = .int .i64 0) :
  ∃ y',kM CV y g=some (.normal,aK 218 y',g)/\FrA y y'/\y' 7=y 7/\y' 9=y 9/\y' 11=y 11:=by
 have n0:aF prog .neq 26 (.int .i64 0) (.int .i64 0)=some (.bool false):=by rw [bz];rfl
 unfold kM;simp -implicitDefEqProofs only [y8,y10,y12,n0,bf,aC,DG,EF,aj,ak];exact ⟨_,rfl,⟨rfl,rfl,rfl⟩,rfl,rfl,rfl⟩
theorem s_6 {y:Nat->Value} {g:ai} (hG:4<=g.n0) (hz:g.get 3=some bT) {vb:Nat} {S:List av} (I:kj g vb S) (hS:S.length<=1000000) (y7:y 7=ptr vb 0) :
  ∃ y' g' m mb,jY CV y g=some (.normal,aK 218 y',g')/\FrA y y'/\y' 7=y 7/\y' 9=y 9/\y' 11=y 11/\y' 13=ptr mb 0/\aE g g'/\g'.get mb=some (mC m)/\g.next<=mb/\ql g' m (kL S [] [])/\MZ m:=by
 obtain ⟨va,gv,rv,nv⟩:=I.ex;obtain ⟨m,g1,e1,o1,X,W⟩:=r17M (h:=g) (al:=none) (nl:=0) (cl:=0) (ah:=none) (nh:=0) (ch:=0) hG hz gv rv nv I.ks I.vld hS (lo := []) (hi := []) rfl rfl (by decide) (by decide);have e1:=jx (f:=15) rfl (by decide) e1;have ok:=gf X.mg;obtain ⟨g2,z2,o2,c2,n2⟩:=fresh zML g1;have z2':eH zML g1=some (ptr g1.next 0,g2):=z2;obtain ⟨g3,e3,k3,c3,_,n3⟩:=aY (n:=116) (k':=mC m) c2 (by rw [o2.n0];exact g1.n0_le_next) rfl ok.1 ok.2.2;have o3:aE g1 g3:=aE.bK o2 k3 (DD _);unfold jY;simp -implicitDefEqProofs only [y7, e1, z2', e3, aj];exact ⟨_,g3,m,g1.next,rfl,⟨rfl,rfl,rfl⟩,y7.symm▸rfl,rfl,rfl,rfl,o1.trans o3,c3,o1.next,X.old o3,W.zr⟩
theorem s_7 {y:Nat->Value} {g:ai} {mb N0:Nat} {m:cR} {x:AM} (hn:g.n0<=mb) (_:N0<=mb) (gm:g.get mb=some (mC m)) (X:ql g m x) (hz:MZ m) (nb:MNb mb m) (y13:y 13=ptr mb 0) :
  ∃ y' g',jk CV y g=some (.normal,aK 218 y',g')/\FrA y y'/\y' 7=y 7/\y' 9=y 9/\y' 11=y 11/\y' 13=y 13/\az g g' (· = mb)/\g'.get mb=some (mC (pe 0 1 m))/\ql g' (pe 0 1 m) (dN 0 1 x)/\MZ (pe 0 1 m):=by
 have ok:=gf X.mg;obtain ⟨g1,e1,k1,c1,i1,s1⟩:=stored (o:=1) (v := .int .i64 0) gm hn (by rw [ok.1];decide) rfl rfl;obtain ⟨g2,e2,k2,c2,i2,s2⟩:=stored (o:=2) (v := .int .i64 1) c1 i1 (by rw [H6,ok.1];decide) rfl rfl;rw [mC_ends] at c2;have k:=k1.trans k2;have X2:=X.keepN k nb;unfold jk;simp -implicitDefEqProofs only [y13,aB,DH,e1,e2,aj,ak];exact ⟨_,g2,rfl,⟨rfl,rfl,rfl⟩,rfl,rfl,rfl,y13.symm▸rfl,k,c2,⟨X2.kind,rfl,rfl,X2.cnt,X2.root,X2.want,X2.d32,X2.lo,X2.hi,X2.rs,MZ.mg hz X2.mg.d32⟩,hz⟩
theorem s_8 {y:Nat->Value} {g:ai} (hG:4<=g.n0) {mb vb:Nat} {m:cR} {x:AM} (gm:g.get mb=some (mC m)) (X:ql g m x) (hz:MZ m) (y13:y 13=ptr mb 0) {S:List av} (I:kj g vb S) (hS:S.length<=1000000) (y7:y 7=ptr vb 0) :
  ∃ y' g' w Q,iF CV y g=some (.normal,aK 218 y',g')/\FrA y y'/\y' 7=y 7/\y' 9=y 9/\y' 11=y 11/\y' 14=w/\aE g g'/\jS g' g.next w Q/\Q.map (·.2)=iY S [x] /\ ∀ b,iR w=some b->g.next<=b:=by
 have hd:=X.mg;have L:=(qz hd gm).all;have b1:=B7 hd g;have o1:aE g (g.alloc (mC m)):=az.alloc _ _ _;have g1:(g.alloc (mC m)).get g.next=some (mC m):=by rw [ai.aN,DL rfl]
 have n1:(g.alloc (mC m)).next=g.next+1:=rfl;generalize g.alloc (mC m)=q at *;obtain ⟨w,g',Q,e,k,D,hQ,hb⟩:=rz16 (h:=q) (by rw [o1.n0];exact hG) (N:=g.next) (w := .slice none 0 0) (P := []) jS.nil (by rw [o1.n0];exact g.n0_le_next) (by omega) (FN _) (I.old o1) hS (wa := .slice (some ⟨g.next,0,none⟩) 1 1) (ms := [m]) (xs := [x])
  (.inr ⟨g.next,none,rfl,by rw [g1];show some (mC m)=some (mC m ++ []);rw [EU]⟩) rfl
  (fun i h1 h2=>by
   have h1:i<1:=h1;obtain rfl:i=0:=by omega
   exact X.old o1) (fun p hp=>by rw [EK] at hp;subst hp;exact hz) (show 1<=100000 by decide) (fun b h=>by cases h)
 have e:=jx (f:=16) rfl (by decide) e;rw [List.nil_append] at D;unfold iF;simp -implicitDefEqProofs only [y7, y13, L, b1, e, aj];refine ⟨_,g',w,Q,rfl,⟨rfl,rfl,rfl⟩,y7.symm▸rfl,rfl,rfl,rfl,o1.trans (k.mono fun _ _ h=>by cases h),D,hQ,fun b h => ?_⟩;rcases hb b h with h|h
 ·cases h
 ·omega
theorem s_9 (y:Nat->Value) (g:ai) : ∃ y',gl CV y g=some (.normal,aK 218 y',g)/\FrA y y'/\y' 7=y 7/\y' 9=y 9/\y' 11=y 11/\y' 14=y 14/\y' 15=aq 0:=by unfold gl;simp -implicitDefEqProofs only [aj];exact ⟨_,rfl,⟨rfl,rfl,rfl⟩,rfl,rfl,rfl,rfl,rfl⟩
theorem s_end {y:Nat->Value} {g:ai} (hG:4<=g.n0) (kn : ∀ q,aE g q->CV 5 [] q=some (.bool true,q)) {a b c:Nat} {S:List av} (Ia:kj g a S) (Ib:kj g b S) (Ic:kj g c S) (hS:S.length<=1000000) (y7:y 7=ptr a 0) (y9:y 9=ptr b 0) (y11:y 11=ptr c 0) :
  ∃ y' g',gX CV y g=some (.ret,aK 218 y',g')/\y' 6 = .bool true:=by
 have od : ∀ {d:Nat},kj g d S -> ∀ q,aE g q -> ∃ v' q',CV 13 [ptr d 0] q=some (v',q')/\aE q q'/\kz q' v' S:=fun {d} I q oq=>by obtain ⟨va,gv,rv,nv⟩:=(I.old oq).ex;obtain ⟨v',q',e,o,r⟩:=r23 (h:=q) (by rw [oq.n0];exact hG) gv rv nv hS;exact ⟨v',q',jx (f:=13) rfl (by decide) e,o,r⟩
 have sm : ∀ {v u:Value} {q:ai},aE g q->kz q v S->kz q u S->CV 12 [v,u] q=some (.bool true,q):=fun {v u q} oq h1 h2=>by have:=r19 (h:=q) (by rw [oq.n0];exact hG) h1 h2 hS;rw [DC rfl] at this;exact jx (f:=12) rfl (by decide) this
 obtain ⟨v1,g1,e1,o1,r1⟩:=od Ia g (az.refl _ _);obtain ⟨v2,g2,e2,o2,r2⟩:=od Ic g1 o1;have O2:=o1.trans o2;have e3:=sm O2 (r1.mono o2) r2;obtain ⟨v3,g3,e4,o3,r3⟩:=od Ib g2 O2;have O3:=O2.trans o3;obtain ⟨v4,g4,e5,o4,r4⟩:=od Ic g3 O3;have O4:=O3.trans o4;have e6:=sm O4 (r3.mono o4) r4;unfold gX;simp -implicitDefEqProofs only [y7, y9, y11, e1, e2, e3, e4, e5, e6, bt, aC, EA, kn g4 O4, aj];exact ⟨_,g4,rfl,rfl⟩
theorem isz4:cx prog 4 f4:=by constructor<;>kernel_rfl
theorem cBlkE {P:Program} {C:au} {a:Code} {e e':aX} {h h':ai} {i:Nat} (x:codeA P C a e h=some (.exit i,e',h')):codeA P C (.block i a) e h=some (.normal,e',h'):=by show (match codeA P C a e h with|some (.exit j,e',h')=>some ((if j=i then Ex.normal else Ex.exit j),e',h')|r=>r)=_;rw [x];simp
theorem bod4:f4.body=some (ao f4 []):=by kernel_rfl
theorem env4 (a b c:Value):([a,b,c]++List.replicate (f4.ntmps - [a,b,c].length) undef:aX)=aK 218 (bs [a,b,c]):=by kernel_rfl
theorem res4:f4.results.toList = [.tmp 6]:=by kernel_rfl
theorem body4 {a b c:Value} {h h':ai} {y:Nat->Value} (e:codeA prog CV (ao f4 []) (aK 218 (bs [a,b,c])) h=some (.ret,aK 218 y,h')) (y6:y 6 = .bool true):bw prog CV f4 [a,b,c] h=some (.bool true,h'):=by rw [xZ];unfold bodyA;rw [bod4];simp only [env4,e];rw [iD res4 (by decide),y6]
theorem q4:ao f4 [] = .seq (ao f4 [0]) (ao f4 [1]):=by kernel_rfl
theorem q4_1:ao f4 [1] = .seq (ao f4 [1,0]) (ao f4 [1,1]):=by kernel_rfl
theorem q4_2:ao f4 [1,1] = .seq (ao f4 [1,1,0]) (ao f4 [1,1,1]):=by kernel_rfl
theorem q4_3:ao f4 [1,1,1] = .seq (ao f4 [1,1,1,0]) (ao f4 [1,1,1,1]):=by kernel_rfl
theorem q4_4:ao f4 [1,1,1,1] = .seq (ao f4 [1,1,1,1,0]) (ao f4 [1,1,1,1,1]):=by kernel_rfl
theorem q4_5:ao f4 [1,1,1,1,1] = .seq (ao f4 [1,1,1,1,1,0]) (ao f4 [1,1,1,1,1,1]):=by kernel_rfl
theorem q4_6:ao f4 [1,1,1,1,1,1] = .seq (ao f4 [1,1,1,1,1,1,0]) (ao f4 [1,1,1,1,1,1,1]):=by kernel_rfl
theorem q4_7:ao f4 [1,1,1,1,1,1,1] = .seq (ao f4 [1,1,1,1,1,1,1,0]) (ao f4 [1,1,1,1,1,1,1,1]):=by kernel_rfl
theorem q4_8:ao f4 [1,1,1,1,1,1,1,1] = .seq (ao f4 [1,1,1,1,1,1,1,1,0]) (ao f4 [1,1,1,1,1,1,1,1,1]):=by kernel_rfl
theorem q4_9:ao f4 [1,1,1,1,1,1,1,1,1] = .seq (.seq (ao f4 [1,1,1,1,1,1,1,1,1,0,0]) (.block 0 (.loop (ao f4 [1,1,1,1,1,1,1,1,1,0,1,0,0])))) (ao f4 [1,1,1,1,1,1,1,1,1,1]):=by kernel_rfl
theorem phi_rounds {n:Nat} (h:n<=1000000):n<aD:=by have:aD=18446744073709551616:=rfl;omega
set_option maxRecDepth 100000 in
set_option maxHeartbeats 2000000 in
theorem rz4 {h:ai} (hG:4<=h.n0) (hz:h.get 3=some bT) (hr:GR h) (hg0:GZ h) {v u o:Value} {A B:List av} {O:List Int} (hv:gC h v A) (hu:gC h u B) (ho:InS h o O) : ∃ h',CV 4 [v,u,o] h=some (.bool true,h'):=by
 have kn : ∀ g,aE h g->CV 5 [] g=some (.bool true,g):=fun g og=>jx (f:=5) rfl (by decide) (r14 (aE.get og hz))
 suffices hs : ∃ y h',codeA prog CV (ao f4 []) (aK 218 (bs [v,u,o])) h=some (.ret,aK 218 y,h')/\y 6 = .bool true by obtain ⟨y,h',e,y6⟩:=hs;exact ⟨h',jX isz4 hG (by decide) (by decide) (body4 e y6)⟩
 obtain ⟨y0,a0,F0⟩:=s_0 (bs [v,u,o]) h;rw [q4,gV ((tz4p4_0_eq _ _ _).trans a0)];have e0:y0 0=v:=F0.f0;have e1:y0 1=u:=F0.f1;have e2:y0 2=o:=F0.f2;obtain ⟨y1,h1,o1,r1⟩:=s_1 (y:=y0) (g:=h) hG kn (A:=A) (B:=B) (O:=O) (by rw [e0];exact hv) (by rw [e1];exact hu) (by rw [e2];exact ho);rcases r1 with ⟨a1,y6⟩|⟨a1,F1,hrt,hOl⟩
 ·rw [q4_1];exact ⟨y1,h1,cSeqX ((wO _ _ _).trans a1) (fun h=>by cases h),y6⟩
 ·obtain ⟨val,hAB⟩:=right_two hrt;have vld:mQ (A++B):=fun r hr=>⟨(DU.1 hr).elim (hv.1 r) (hu.1 r),val r hr⟩
  have hAB':=hAB;rw [DE] at hAB';have G1:=F0.trans F1;rw [q4_1,gV ((wO _ _ _).trans a1)];obtain ⟨y2,h2,bx,a2,F2,y2_7,y2_8,I2,o2,n2⟩:=s_2 (y:=y1) (g:=h1) (by rw [o1.n0];exact hG) (A:=A) (by rw [G1.f0];exact hv.mono o1) (fun r hr=>val r (FD _ hr)) (by omega);have G2:=G1.trans F2;have O2:=o1.trans o2;rw [q4_2,gV ((B4 _ _ _).trans a2)];obtain ⟨y3,h3,jt,a3,F3,y3_7,y3_8,y3_9,y3_10,I3,o3,n3⟩:=s_3 (y:=y2) (g:=h2) (by rw [O2.n0];exact hG) (B:=B) (by rw [G2.f1];exact hu.mono O2) (fun r hr=>val r (EW _ hr)) (by omega);have G3:=G2.trans F3;have O3:=O2.trans o3;rw [q4_3,gV ((Am _ _ _).trans a3)];obtain ⟨y4,h4,bb,a4,F4,y4_7,y4_8,y4_9,y4_10,y4_11,y4_12,I4,o4,n4⟩:=s_4 (y:=y3) (g:=h3) (by rw [O3.n0];exact hG) (A:=A) (B:=B) (by rw [G3.f0];exact hv.mono O3) (by rw [G3.f1];exact hu.mono O3) val (by omega);have G4:=G3.trans F4;have O4:=O3.trans o4;rw [q4_4,gV ((yB _ _ _).trans a4)];obtain ⟨y5,a5,F5,y5_7,y5_9,y5_11⟩:=s_5 (y:=y4) (g:=h4) (by rw [y4_8,y3_8,y2_8]) (by rw [y4_10,y3_10]) y4_12;have G5:=G4.trans F5;rw [q4_5,gV ((xb _ _ _).trans a5)];have e7:y5 7=ptr bx 0:=by rw [y5_7,y4_7,y3_7,y2_7]
  have e9:y5 9=ptr jt 0:=by rw [y5_9,y4_9,y3_9]
  have e11:y5 11=ptr bb 0:=by rw [y5_11,y4_11]
  have Ix:=(I2.old o3).old o4;have Iy:=I3.old o4;have mlA:=kY [] A;have mlB:=kY [] B;have lx:bx<h2.next:=by obtain ⟨_,g⟩:=I2.cell;exact h2.aO g
  have ly:jt<h3.next:=by obtain ⟨_,g⟩:=I3.cell;exact h3.aO g
  have lb:bb<h4.next:=by obtain ⟨_,g⟩:=I4.cell;exact h4.aO g
  have m1:=o1.next;have m2:=o2.next;have m3:=o3.next;have m4:=o4.next;obtain ⟨y6,h6,m,mb,a6,F6,y6_7,y6_9,y6_11,y6_13,o6,c6,n6,X6,Z6⟩:=s_6 (y:=y5) (g:=h4) (by rw [O4.n0];exact hG) (aE.get O4 hz) Ix (by rw [List.length_nil] at mlA;omega) e7;have G6:=G5.trans F6;have O6:=O4.trans o6;rw [q4_6,gV ((vC _ _ _).trans a6)];obtain ⟨u6,gu6,su6⟩:=(Ix.old o6).cellS;have hl0:m.nl=0:=by rw [<-(aH X6.lo).1];rfl
  have hh0:m.nh=0:=by rw [<-(aH X6.hi).1];rfl
  have nb6:MNb mb m:=by refine ⟨fun hn y hy=>by omega,fun hn y hy=>by omega,fun q => ?_⟩;obtain ⟨_,a,d,e,_⟩:=X6.rs;rw [e] at q;cases a<;>cases q
  obtain ⟨y7,h7,a7,F7,y7_7,y7_9,y7_11,y7_13,k7,c7,X7,Z7⟩:=s_7 (y:=y6) (g:=h6) (mb:=mb) (N0:=h4.next) (m:=m) (x:=kL (aT [] A) [] []) (by rw [O6.n0];have:=h.n0_le_next;omega) n6 c6 X6 Z6 nb6 y6_13;have G7:=G6.trans F7;rw [q4_7,gV ((tA _ _ _).trans a7)];have m6:=o6.next;have m7:=k7.next;have o7:aE h4 h7:=aE.bK o6 k7 n6;have O7:=O4.trans o7;have I7:=Ix.old o7;obtain ⟨y8,h8,w,Q,a8,F8,y8_7,y8_9,y8_11,y8_14,o8,D8,hQ,hb8⟩:=s_8 (y:=y7) (g:=h7) (by rw [O7.n0];exact hG) c7 X7 Z7 (by rw [y7_13,y6_13]) I7 (by rw [List.length_nil] at mlA;omega) (by rw [y7_7,y6_7,e7]);have G8:=G7.trans F8;have O8:=O7.trans o8;rw [q4_8,gV ((sX _ _ _).trans a8)];obtain ⟨y9,a9,F9,y9_7,y9_9,y9_11,y9_14,y9_15⟩:=s_9 y8 h8;have G9:=G8.trans F9;have m8:=o8.next;obtain ⟨ses,hph⟩:=BN.first vld (dN 0 1 (kL (aT [] A) [] [])) rfl;rw [<-hQ] at ses hph;have St:Sst h h8 h7.next w (fun c=>if c=false then bx else jt) bb (fun c=>if c=false then aT [] A else aT [] B) (aT [] (A++B)) Q:=by
   refine ⟨O8,fun b => ?_,⟨by omega,by omega⟩,⟨?_,fun b => ?_⟩,fun b => ?_,(I4.old o7).old o8,D8,o8.next,fun c hc=>⟨fun va gv q => ?_,fun b va gv q => ?_⟩⟩
   ·cases b
    ·exact ⟨by show h.next<=bx;omega,by show bx<h7.next;omega⟩
    ·exact ⟨by show h.next<=jt;omega,by show jt<h7.next;omega⟩
   ·show bx≠jt;omega
   ·cases b
    ·show bx≠bb;omega
    ·show jt≠bb;omega
   ·cases b
    ·exact I7.old o8
    ·exact (Iy.old o7).old o8
   ·have h1:=(I4.old o7).cellS;obtain ⟨uu,gu,_⟩:=h1;rw [aE.get o8 gu] at gv;cases gv;have:=(I4.old o7).low gu q;have:=hb8 c hc;omega
   ·cases b
    ·obtain ⟨uu,gu,_⟩:=I7.cellS;have gv:h8.get bx=some [va]:=gv;rw [aE.get o8 gu] at gv;cases gv;have:=I7.low gu q;have:=hb8 c hc;omega
    ·obtain ⟨uu,gu,_⟩:=(Iy.old o7).cellS;have gv:h8.get jt=some [va]:=gv;rw [aE.get o8 gu] at gv;cases gv;have:=(Iy.old o7).low gu q;have:=hb8 c hc;omega
  have ll0:lenL v=some (aq A.length):=hv.rsl.len;have ll1:lenL u=some (aq B.length):=hu.rsl.len;have lp:=bC (P:=prog) (C:=CV) (n:=218) (b:=ao f4 [1,1,1,1,1,1,1,1,1,0,1,0,0]) (T:=fun x g=>codeA prog CV (ao f4 [1,1,1,1,1,1,1,1,1,0,1,0,0]) (aK 218 x) g) (fun _ _=>rfl)
   (Inv:=fun k y g => ∃ w S P s,k=kv (A++B) (P.map (·.2))/\Sst h g h7.next w (fun c=>if c=false then bx else jt) bb S (aT [] (A++B)) P/\BN (A++B) S (P.map (·.2))/\kv (A++B) (P.map (·.2))+s<=2*(A++B).length+7/\(y 0=v/\y 1=u/\y 2=o/\y 7=ptr bx 0/\y 9=ptr jt 0/\y 11=ptr bb 0)/\y 14=w/\y 15=aq s)
   (fin:=fun ex y g=>aE h g/\((ex = .ret/\y 6 = .bool true)\/(ex = .exit 0/\kj g bx (aT A B)/\kj g jt (aT A B)/\kj g bb (aT A B)/\y 7=ptr bx 0/\y 9=ptr jt 0/\y 11=ptr bb 0)))
   (fun k y g ⟨w,S,P,s,hk,Z,ses,hp,⟨f0,f1,f2,f7,f9,f11⟩,f14,f15⟩=>by
    obtain ⟨ex,y',g',e,og,r⟩:=round hG hr hg0 hz kn vld (by omega) Z ses (y:=y) (s:=s) (la:=A.length) (lb:=B.length) (by rw [f0];exact ll0) (by rw [f1];exact ll1) DE.symm (O:=O) (by rw [f2];exact ho) (by omega) f7 f9 f14 f15 hp;show dJ 218 _ _ k (codeA prog CV (ao f4 [1,1,1,1,1,1,1,1,1,0,1,0,0]) (aK 218 y) g);rw [e];rcases r with ⟨rfl,rfl,rfl,F⟩|⟨rfl,y6⟩|⟨rfl,w',S',P',Z',ses',hlt,⟨g0,g1,g2,g7,g9,g11⟩,g14,g15⟩
    ·refine dJ.out 0 ⟨og,.inr ⟨rfl,?_,?_,?_,by rw [F.f7,f7],by rw [F.f9,f9],by rw [F.f11,f11]⟩⟩
     ·have:=Z.I false;rw [ses.done rfl vld false] at this;exact this
     ·have:=Z.I true;rw [ses.done rfl vld true] at this;exact this
     ·exact Z.B
    ·exact dJ.ret ⟨og,.inl ⟨rfl,y6⟩⟩
    ·exact dJ.next (kv (A++B) (P'.map (·.2))) (by omega) ⟨w',S',P',s+1,rfl,Z',ses',by omega,⟨g0.trans f0,g1.trans f1,g2.trans f2,g7.trans f7,g9.trans f9,g11.trans f11⟩,g14,g15⟩)
   (x:=y9) (h:=h8) (kv (A++B) (Q.map (·.2))) (phi_rounds (by omega))
   ⟨w,_,Q,0,rfl,St,ses,by omega,⟨by rw [G9.f0];rfl,by rw [G9.f1];rfl,by rw [G9.f2];rfl,by rw [y9_7,y8_7,y7_7,y6_7,e7],by rw [y9_9,y8_9,y7_9,y6_9,e9],by rw [y9_11,y8_11,y7_11,y6_11,e11]⟩,by rw [y9_14,y8_14],y9_15⟩
  obtain ⟨ex,y',g',e,og,r⟩:=lp;rw [q4_9];have e':codeA prog CV (.loop (ao f4 [1,1,1,1,1,1,1,1,1,0,1,0,0])) (aK 218 y9) h8=some (ex,aK 218 y',g'):=e;rcases r with ⟨rfl,y6⟩|⟨rfl,J1,J2,J3,f7,f9,f11⟩
  ·refine ⟨y',g',cSeqX ?_ (fun h=>by cases h),y6⟩;rw [gV ((j8 _ _ _).trans a9)];exact cBlk e' (fun _ h=>by cases h)
  ·have hsl:(aT A B).length<=1000000:=by have:=kY A B;omega
   obtain ⟨y10,g10,a10,y6⟩:=s_end (y:=y') (g:=g') (by rw [og.n0];exact hG) (fun q oq=>kn q (og.trans oq)) J1 J2 J3 hsl f7 f9 f11;refine ⟨y10,g10,?_,y6⟩;have:codeA prog CV (.seq (ao f4 [1,1,1,1,1,1,1,1,1,0,0]) (.block 0 (.loop (ao f4 [1,1,1,1,1,1,1,1,1,0,1,0,0])))) (aK 218 y8) h8=some (.normal,aK 218 y',g'):=by rw [gV ((j8 _ _ _).trans a9)];exact cBlkE e'
   rw [gV this];exact (rN _ _ _).trans a10
end Go.Proofs.YtdnahgfgoajmcaaGreatDoor
