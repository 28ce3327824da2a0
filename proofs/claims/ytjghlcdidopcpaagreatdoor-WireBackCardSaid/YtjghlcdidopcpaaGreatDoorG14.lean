/-
  A part of the proof, spaces and names shortened by a program (a claim may hold 1,500,000 bytes).
  Conditions: as each theorem states.
-/
import Derived.Test.YtjghlcdidopcpaaGreatDoorG13
namespace Go.Proofs.YtjghlcdidopcpaaGreatDoor
open Go Go.Abs
theorem fO {s:Rd} {n:Nat} (h:(s.take n).2.e=0):s.e=0∧s.l=(s.take n).1++(s.take n).2.l∧(s.take n).1.length=n:=by
 obtain ⟨a,b,c⟩:=Rd.take_e h
 rw [c]
 exact ⟨a,(List.take_append_drop n s.l).symm,by rw [List.length_take];omega⟩
theorem beB_of {n:Nat} {l:List Nat} (hl:l.length=n) (hb:dx l):cj n (be l)=l:=by rw [←hl,beB_be l hb]
theorem eh {s:Rd} {n:Nat} (hb:dx s.l) (h:(s.num n).2.e=0):s.e=0∧s.l=cj n (s.num n).1++(s.num n).2.l∧dx (s.num n).2.l:=by
 have h:(s.take n).2.e=0:=h
 obtain ⟨a,b,c⟩:=fO h
 have hb':=hb
 rw [b] at hb
 refine ⟨a,?_,hb.right⟩
 show s.l=cj n (be (s.take n).1)++(s.take n).2.l
 rw [beB_of c hb.left]
 exact b
theorem un_text {s:Rd} (hb:dx s.l) (h:s.text.2.e=0):s.e=0∧s.l=text s.text.1++s.text.2.l∧dx s.text.2.l:=by
 by_cases h0:s.e=0
 ·by_cases h1:((s.num 2).2.take (s.num 2).1).2.e=0
  ·have ht:s.text=(s.num 2).2.take (s.num 2).1:=by unfold Rd.text;rw [if_pos h0,if_pos h1]
   obtain ⟨a,b,c⟩:=fO h1
   obtain ⟨d,e,f⟩:=eh hb a
   rw [ht]
   refine ⟨h0,?_,?_⟩
   ·unfold text
    rw [c,List.append_assoc,←b]
    exact e
   ·rw [b] at f
    exact f.right
  ·have ht:s.text=([],⟨s.l,((s.num 2).2.take (s.num 2).1).2.e⟩):=by unfold Rd.text;rw [if_pos h0,if_neg h1]
   rw [ht] at h
   exact absurd h h1
 ·have ht:s.text=([],s):=by unfold Rd.text;rw [if_neg h0]
  rw [ht] at h
  exact absurd h h0
theorem un_tab : ∀ (n:Nat) (s:Rd),dx s.l→(fu n s).2.e=0→s.e=0∧s.l=(fu n s).1.flatMap fI++(fu n s).2.l∧dx (fu n s).2.l
 | 0,s,hb,h=>⟨h,rfl,hb⟩
 |n+1,s,hb,h=>by
  have h:(fu n ((s.num 8).2.num 1).2).2.e=0:=h
  have e8:((s.num 8).2.num 1).2.e=0→_:=fun h=>eh (s:=s) (n:=8) hb (by
   have h:((s.num 8).2.take 1).2.e=0:=h
   exact (fO h).1)
  have key : ∀ t:Rd,t=((s.num 8).2.num 1).2→dx t.l→(fu n t).2.e=0→t.e=0∧t.l=(fu n t).1.flatMap fI++(fu n t).2.l∧dx (fu n t).2.l:=fun t _ hb h=>un_tab n t hb h
  have hb9:dx ((s.num 8).2.num 1).2.l:=(Rd.bP (s:=(s.num 8).2) (Rd.bP (s:=s) hb 8).2 1).2
  obtain ⟨a,b,c⟩:=key _ rfl hb9 h
  obtain ⟨d,e,f⟩:=e8 a
  obtain ⟨g,i,j⟩:=eh (s:=(s.num 8).2) (n:=1) f a
  refine ⟨d,?_,c⟩
  show s.l=((⟨(s.num 8).1,((s.num 8).2.num 1).1⟩:dP)::(fu n ((s.num 8).2.num 1).2).1).flatMap fI++(fu n ((s.num 8).2.num 1).2).2.l
  rw [List.flatMap_cons,fI,List.append_assoc,List.append_assoc,←b,←i]
  exact e
theorem un_table {s:Rd} (hb:dx s.l) (h:(cC s).2.e=0):s.e=0∧s.l=c9 (cC s).1++(cC s).2.l∧dx (cC s).2.l:=by
 have hb1:dx (s.num 1).2.l:=(Rd.bP (s:=s) hb 1).2
 obtain ⟨a,b,c⟩:=un_tab _ _ hb1 h
 obtain ⟨d,e,_⟩:=eh hb a
 refine ⟨d,?_,c⟩
 unfold cC c9
 rw [pTab_len,List.append_assoc,←b]
 exact e
theorem un_digs : ∀ (n:Nat) (s:Rd),dx s.l→(bh n s).2.e=0→s.e=0∧s.l=(bh n s).1.flatMap id++(bh n s).2.l
 | 0,s,hb,h=>⟨h,rfl⟩
 |n+1,s,hb,h=>by
  have h:(bh n (s.take 32).2).2.e=0:=h
  have hb1:dx (s.take 32).2.l:=(Rd.bP (s:=s) hb 32).2
  obtain ⟨a,b⟩:=un_digs n _ hb1 h
  obtain ⟨d,e,f⟩:=fO a
  refine ⟨d,?_⟩
  show s.l=(df (s.take 32).1::(bh n (s.take 32).2).1).flatMap id++(bh n (s.take 32).2).2.l
  rw [List.flatMap_cons,List.append_assoc,←b,dV f]
  exact e
theorem glue (l:List Nat) (a b:Nat):(l.drop a).take b++l.drop (a+b)=l.drop a:=by rw [←List.drop_drop,List.take_append_drop]
theorem fL {l:List Nat} (hb:dx l) {a b:Nat} (h:a+b≤l.length):cj b (be ((l.drop a).take b))=(l.drop a).take b:=beB_of (by rw [List.length_take,List.length_drop];omega) ((hb.drop a).take b)
theorem encR_dec {l:List Nat} (hb:dx l) (h:(decR l).2=0):cw (decR l).1=l:=by
 unfold decR at h ⊢
 split at h
 ·cases h
 split at h
 ·cases h
 split at h
 ·cases h
 split at h
 ·rename_i c1 c2 c3 c4
  rw [if_neg c1,if_neg c2,if_neg c3,if_pos c4]
  have hl:l.length=53:=by omega
  unfold cw decRx
  have p0:=fL hb (a:=0) (b:=1) (by omega)
  rw [List.drop_zero] at p0
  have i1:i8 ((be ((l.drop 33).take 1):Nat):Int)=be ((l.drop 33).take 1):=i8_nat (be1_lt hb 33)
  have i2:i8 ((be ((l.drop 51).take 1):Nat):Int)=be ((l.drop 51).take 1):=i8_nat (be1_lt hb 51)
  have i3:i8 ((be ((l.drop 52).take 1):Nat):Int)=be ((l.drop 52).take 1):=i8_nat (be1_lt hb 52)
  have i4:bit (be ((l.drop 50).take 1)==1)=be ((l.drop 50).take 1):=by
   generalize be ((l.drop 50).take 1)=x at c3 ⊢
   have:x=0∨x=1:=by omega
   rcases this with rfl|rfl<;>rfl
  simp only
  rw [i1,i2,i3,i4,p0,fL hb (by omega),fL hb (by omega),fL hb (by omega),fL hb (by omega),fL hb (by omega),fL hb (by omega)]
  rw [show (l.drop 52).take 1=l.drop 52 by rw [List.take_of_length_le (by rw [List.length_drop];omega)],glue l 51 1,glue l 50 1,glue l 42 8,glue l 34 8,glue l 33 1,glue l 1 32,List.take_append_drop]
 ·cases h
theorem un_recs : ∀ (n:Nat) (s:Rd) (q:List bK×Rd),dx s.l→fl n s=some q→q.2.e=0→s.e=0∧s.l=q.1.flatMap cw++q.2.l
 | 0,s,q,hb,h,h0=>by
   cases h
   exact ⟨h0,rfl⟩
 |n+1,s,q,hb,h,h0=>by
  have hb1:dx (s.take 53).2.l:=(Rd.bP (s:=s) hb 53).2
  have hb2:dx (s.take 53).1:=(Rd.bP (s:=s) hb 53).1
  rw [fl] at h
  split at h
  ·rename_i c
   cases hp:fl n (s.take 53).2 with
   |none=>rw [hp] at h;cases h
   |some q'=>
    rw [hp] at h
    cases h
    obtain ⟨a,b⟩:=un_recs n _ q' hb1 hp h0
    obtain ⟨d,e,f⟩:=fO a
    refine ⟨d,?_⟩
    show s.l=((decR (s.take 53).1).1::q'.1).flatMap cw++q'.2.l
    rw [List.flatMap_cons,List.append_assoc,←b,encR_dec hb2 c]
    exact e
  ·cases h
theorem fin_zero {s:Rd} (h:s.fin=0):s.e=0∧s.l = []:=by
 unfold Rd.fin at h
 split at h
 ·split at h
  ·rename_i a b;exact ⟨a,b⟩
  ·cases h
 ·rename_i a;exact absurd h a
theorem encM_dec {l:List Nat} (hb:dx l) (h:(cT l).2=0) (m:aY) (hm:m.man'=(cT l).1):dr m=l:=by
 have hb0:dx (⟨l,0⟩:Rd).l:=hb
 have nb : ∀ {s:Rd} (n:Nat),dx s.l→dx (s.num n).2.l:=fun n hb=>(Rd.bP hb n).2
 have hb1:=nb 2 hb0
 have hb2:=nb 1 hb1
 have hb3:=nb 1 hb2
 have hb4:=nb 1 hb3
 have hb5:=nb 2 hb4
 have hb6:=(Rd.bP hb5 32).2
 have k1:=Rd.dy hb1 1
 have k2:=Rd.dy hb2 1
 have k3:=Rd.dy hb3 1
 have k4:=Rd.dy hb4 2
 unfold cT pHead at h hm
 simp only at h hm
 split at h
 ·rename_i c;exact absurd h c
 rename_i c1
 rw [if_neg c1] at hm
 split at h
 ·cases h
 rename_i c2
 rw [if_neg c2] at hm
 split at h
 ·cases h
 rename_i c3
 rw [if_neg c3] at hm
 split at h
 ·rename_i c;exact absurd h c
 rename_i c4
 rw [if_neg c4] at hm
 have c2:=Decidable.not_not.1 c2
 have c4:=Decidable.not_not.1 c4
 obtain ⟨z1,z2⟩:=fin_zero c4
 obtain ⟨y1,y2⟩:=un_digs _ _ hb6 z1
 rw [z2,List.append_nil] at y2
 obtain ⟨x1,x2,x3⟩:=fO y1
 obtain ⟨w1,w2,_⟩:=eh hb4 x1
 obtain ⟨v1,v2,_⟩:=eh hb3 w1
 obtain ⟨u1,u2,_⟩:=eh hb2 v1
 obtain ⟨t1,t2,_⟩:=eh hb1 u1
 obtain ⟨_,s2,_⟩:=eh hb0 t1
 have e1:=congrArg ep.gk hm
 have e2:=congrArg ep.gn hm
 have e3:=congrArg ep.gt hm
 have e4:=congrArg ep.gs hm
 have e5:=congrArg ep.obj hm
 have e6:=congrArg ep.pieces hm
 simp only [aY.man'] at e1 e2 e3 e4 e5 e6
 unfold dr
 rw [e1,e2,e3,e4,e5,e6,i8_nat (by omega),i8_nat (by omega),i8_nat (by omega),i16_nat (by omega),dV x3,←y2,←x2]
 rw [←c2]
 refine Eq.trans ?_ s2.symm
 congr 1
 refine Eq.trans ?_ t2.symm
 congr 1
 refine Eq.trans ?_ u2.symm
 congr 1
 refine Eq.trans ?_ v2.symm
 congr 1
 exact w2.symm
theorem un_body {k:Nat} {s:Rd} {m0:aY} {q:aY×Rd} (hb:dx s.l) (h:rBody k s m0=some q) (hf:q.2.fin=0):s.l=dX k q.1∧q.1.kind=m0.kind∧q.1.from_=m0.from_∧q.1.to_=m0.to_:=by
 obtain ⟨f1,f2⟩:=fin_zero hf
 have nb : ∀ {s:Rd} (n:Nat),dx s.l→dx (s.num n).2.l:=fun n hb=>(Rd.bP hb n).2
 have tb : ∀ {s:Rd} (n:Nat),dx s.l→dx (s.take n).2.l:=fun n hb=>(Rd.bP hb n).2
 have xb : ∀ {s:Rd},dx s.l→dx s.text.2.l:=fun hb=>Rd.text_byte hb
 have ping:some (pPing s m0)=some q→s.l=bPing q.1∧q.1.kind=m0.kind∧q.1.from_=m0.from_∧q.1.to_=m0.to_:=fun h=>by
  cases h
  obtain ⟨a,b,_⟩:=un_table (nb 1 (nb 8 hb)) f1
  obtain ⟨c,d,_⟩:=eh (nb 8 hb) a
  obtain ⟨_,e,_⟩:=eh hb c
  have f2:(cC ((s.num 8).2.num 1).2).2.l = []:=f2
  rw [f2,List.append_nil] at b
  have hn:=num1_lt (nb 8 hb)
  refine ⟨?_,rfl,rfl,rfl⟩
  show s.l=cj 8 (s.num 8).1++(cj 1 (i8 (((s.num 8).2.num 1).1:Nat))++c9 (cC ((s.num 8).2.num 1).2).1)
  rw [i8_nat hn,←b,←d]
  exact e
 have obj:some (pObj s m0)=some q→s.l=sObjB q.1∧q.1.kind=m0.kind∧q.1.from_=m0.from_∧q.1.to_=m0.to_:=fun h=>by
  cases h
  obtain ⟨_,b,c⟩:=fO f1
  have f2:(s.take 32).2.l = []:=f2
  rw [f2,List.append_nil] at b
  refine ⟨?_,rfl,rfl,rfl⟩
  show s.l=df (s.take 32).1
  rw [dV c]
  exact b
 have piece:pPiece s m0=some q→s.l=fN q.1∧q.1.kind=m0.kind∧q.1.from_=m0.from_∧q.1.to_=m0.to_:=fun h=>by
  unfold pPiece at h
  split at h
  ·rename_i c
   cases h
   obtain ⟨a,b,_⟩:=un_text (nb 2 (xb (tb 32 hb))) f1
   obtain ⟨d,e,_⟩:=eh (xb (tb 32 hb)) a
   obtain ⟨g,i,_⟩:=un_text (tb 32 hb) d
   obtain ⟨_,j,k⟩:=fO g
   have f2:((s.take 32).2.text.2.num 2).2.text.2.l = []:=f2
   rw [f2,List.append_nil] at b
   have hn:=num2_lt (xb (tb 32 hb))
   refine ⟨?_,rfl,rfl,rfl⟩
   have hm:=encM_dec (l:=(s.take 32).2.text.1) (Rd.text_bys (tb 32 hb)) c { m0 with obj:=df (s.take 32).1,gk:=(cT (s.take 32).2.text.1).1.gk,gn:=(cT (s.take 32).2.text.1).1.gn,gt:=(cT (s.take 32).2.text.1).1.gt,gs:=(cT (s.take 32).2.text.1).1.gs,cv:=(cT (s.take 32).2.text.1).1.obj,pieces:=(cT (s.take 32).2.text.1).1.pieces,cR:=((s.take 32).2.text.2.num 2).1,data:=((s.take 32).2.text.2.num 2).2.text.1 } rfl
   unfold fN
   rw [hm]
   show s.l=df (s.take 32).1++(text (s.take 32).2.text.1++(cj 2 (i16 (((s.take 32).2.text.2.num 2).1:Nat))++text ((s.take 32).2.text.2.num 2).2.text.1))
   rw [i16_nat hn,dV k,←b,←e,←i]
   exact j
  ·cases h
 unfold rBody at h
 unfold dX
 split at h
 ·exact ping h
 ·exact ping h
 ·cases h
  obtain ⟨a,b,_⟩:=un_table (nb 1 (nb 8 hb)) f1
  obtain ⟨c,d,_⟩:=eh (nb 8 hb) a
  obtain ⟨_,e,_⟩:=eh hb c
  have f2:(cC ((s.num 8).2.num 1).2).2.l = []:=f2
  rw [f2,List.append_nil] at b
  have hn:=num1_lt (nb 8 hb)
  refine ⟨?_,rfl,rfl,rfl⟩
  show s.l=cj 8 (s.num 8).1++(cj 1 (i8 (((s.num 8).2.num 1).1:Nat))++c9 (cC ((s.num 8).2.num 1).2).1)
  rw [i8_nat hn,←b,←d]
  exact e
 ·cases h
  obtain ⟨_,b,c⟩:=fO f1
  have f2:((s.text.2.text.2.num 4).2.take 32).2.l = []:=f2
  rw [f2,List.append_nil] at b
  obtain ⟨d,e,_⟩:=eh (xb (xb hb)) (fO f1).1
  obtain ⟨g,i,_⟩:=un_text (xb hb) d
  obtain ⟨_,j,_⟩:=un_text hb g
  have hn:=num4_lt (xb (xb hb))
  refine ⟨?_,rfl,rfl,rfl⟩
  show s.l=text s.text.1++(text s.text.2.text.1++(cj 4 (i32 ((s.text.2.text.2.num 4).1:Nat))++df ((s.text.2.text.2.num 4).2.take 32).1))
  rw [i32_nat hn,dV c,←b,←e,←i]
  exact j
 ·unfold pItems at h
  split at h
  ·rename_i q' hq
   split at h
   ·rename_i c
    cases h
    obtain ⟨a,b⟩:=un_recs _ _ q' (nb 2 (nb 1 (xb (xb hb)))) hq f1
    obtain ⟨d,e,_⟩:=eh (nb 1 (xb (xb hb))) a
    obtain ⟨g,i,_⟩:=eh (xb (xb hb)) d
    obtain ⟨j,k,_⟩:=un_text (xb hb) g
    obtain ⟨_,l,_⟩:=un_text hb j
    have f2:q'.2.l = []:=f2
    rw [f2,List.append_nil] at b
    have hl:=pRecs_len _ _ q' hq
    have hbit:bit ((s.text.2.text.2.num 1).1==1)=(s.text.2.text.2.num 1).1:=by
     generalize (s.text.2.text.2.num 1).1=x at c ⊢
     have:x=0∨x=1:=by omega
     rcases this with rfl|rfl<;>rfl
    refine ⟨?_,rfl,rfl,rfl⟩
    show s.l=text s.text.1++(text s.text.2.text.1++(cj 1 (bit ((s.text.2.text.2.num 1).1==1))++(cj 2 q'.1.length++q'.1.flatMap cw)))
    rw [hbit,hl,←b,←e,←i,←k]
    exact l
   ·cases h
  ·cases h
 ·exact piece h
 ·exact piece h
 ·cases h
  obtain ⟨a,b,_⟩:=eh (tb 32 hb) f1
  obtain ⟨_,c,d⟩:=fO a
  have f2:((s.take 32).2.num 2).2.l = []:=f2
  rw [f2,List.append_nil] at b
  have hn:=num2_lt (tb 32 hb)
  refine ⟨?_,rfl,rfl,rfl⟩
  show s.l=df (s.take 32).1++cj 2 (i16 (((s.take 32).2.num 2).1:Nat))
  rw [i16_nat hn,dV d,←b]
  exact c
 ·refine And.imp_left (fun e=>e.trans ?_) (obj h)
  split<;>first|rfl|contradiction|(exfalso;rename_i h;exact h rfl)|simp_all
theorem drop_one {l:List Nat} {i:Nat} (h:i<l.length):(l.drop i).take 1 = [l.getD i 0]:=by
 rw [List.getD_eq_getElem?_getD,List.getElem?_eq_getElem h,List.drop_eq_getElem_cons h]
 rfl
theorem enc_decF {l:List Nat} (hb:dx l) (h:(decF l).2=0):dK (decF l).1=true∧enc (decF l).1=l:=by
 have hL:(lenE l).2=0:=by
  refine Decidable.byContradiction fun c => ?_
  have:decF l=(aY.z,(lenE l).2):=by unfold decF;rw [if_pos c]
  rw [this] at h
  exact c h
 have hle:=hL
 unfold lenE at hle
 split at hle
 ·cases hle
 split at hle
 ·cases hle
 split at hle
 ·cases hle
 split at hle
 ·cases hle
 rename_i a1 a2 a3 a4
 have hL1:(lenE l).1=be ((l.drop 6).take 4)+14:=by unfold lenE;rw [if_neg a1,if_neg a2,if_neg a3,if_neg a4]
 unfold decF at h ⊢
 rw [if_neg (fun c=>c hL)] at h ⊢
 split at h
 ·cases h
 split at h
 ·cases h
 split at h
 ·cases h
 split at h
 ·cases h
 rename_i c1 c2 c3 c4
 rw [if_neg c1,if_neg c2,if_neg c3,if_neg c4]
 have c3:=Decidable.not_not.1 c3
 split at h
 ·cases h
 rename_i q hq
 split at h
 ·cases h
 rename_i c5
 split at h
 ·rename_i c6
  first|rw [if_neg c5,if_pos c6]|(rw [hq];simp only;rw [if_neg c5,if_pos c6])
  refine ⟨c6,?_⟩
  have c5:=Decidable.not_not.1 c5
  have a2:=Decidable.not_not.1 a2
  have a3:=Decidable.not_not.1 a3
  have hbd:dx ((l.drop 10).take (l.length-4-10)):=(hb.drop 10).take _
  obtain ⟨b1,b2,b3,b4⟩:=un_body (s:=⟨(l.drop 10).take (l.length-4-10),0⟩) hbd hq c5
  have b1:(l.drop 10).take (l.length-4-10)=dX (l.getD 3 0) q.1:=b1
  have b2:q.1.kind=l.getD 3 0:=b2
  have b3:q.1.from_=(l.getD 4 0:Nat):=b3
  have b4:q.1.to_=(l.getD 5 0:Nat):=b4
  have hlen:l.length=be ((l.drop 6).take 4)+14:=by omega
  have gd : ∀ i,i<l.length→l.getD i 0<256:=fun i hi=>by
   rw [List.getD_eq_getElem?_getD,List.getElem?_eq_getElem hi]
   exact hb _ (List.getElem_mem _)
  have one : ∀ i,i<l.length→cj 1 (l.getD i 0)=(l.drop i).take 1:=fun i hi=>by
   rw [drop_one hi,cj,cj,Nat.pow_zero,Nat.div_one,Nat.mod_eq_of_lt (gd i hi)]
  have p0:=fL hb (a:=0) (b:=2) (by omega)
  rw [List.drop_zero,a2] at p0
  have p2:=fL hb (a:=2) (b:=1) (by omega)
  rw [a3] at p2
  have p6:=fL hb (a:=6) (b:=4) (by omega)
  have hbl:(dX q.1.kind q.1).length=be ((l.drop 6).take 4):=by
   rw [b2,←b1,List.length_take,List.length_drop]
   omega
  have hfr:dt q.1=l.take (l.length-4):=by
   unfold dt
   rw [hbl,p6,b3,b4,i8_nat (gd 4 (by omega)),i8_nat (gd 5 (by omega)),one 4 (by omega),one 5 (by omega),b2,one 3 (by omega),p0,p2,←b1]
   have t : ∀ a b,a+b≤l.length-4→(l.drop a).take b=((l.take (l.length-4)).drop a).take b:=fun a b h=>by
    rw [List.drop_take,List.take_take,Nat.min_eq_left (by omega)]
   have t0:l.take 2=(l.take (l.length-4)).take 2:=by rw [List.take_take,Nat.min_eq_left (by omega)]
   rw [t 10 _ (by omega),t 6 4 (by omega),t 5 1 (by omega),t 4 1 (by omega),t 3 1 (by omega),t 2 1 (by omega),t0]
   have hLl:(l.take (l.length-4)).length=l.length-4:=by rw [List.length_take];omega
   generalize l.take (l.length-4)=L at hLl ⊢
   have h10:(L.drop 10).take (l.length-4-10)=L.drop 10:=List.take_of_length_le (by rw [List.length_drop];omega)
   rw [h10,glue L 6 4,glue L 5 1,glue L 4 1,glue L 3 1,glue L 2 1,List.take_append_drop]
  unfold enc
  rw [hfr,←c3]
  have pl:=fL hb (a:=l.length-4) (b:=4) (by omega)
  have p2:(l.drop (l.length-4)).take 4=l.drop (l.length-4):=List.take_of_length_le (by rw [List.length_drop];omega)
  rw [pl,p2,List.take_append_drop]
 ·cases h
end Go.Proofs.YtjghlcdidopcpaaGreatDoor

namespace Go.Proofs.YtjghlcdidopcpaaGreatDoor
open Go Go.Abs
end Go.Proofs.YtjghlcdidopcpaaGreatDoor

namespace Go.Proofs.YtjghlcdidopcpaaGreatDoor
open Go Go.Abs
attribute [local congr] bp
section
variable {h:ai} {s:dF} {m:aY} (hG:4≤h.n0) (x:Has h s m)
include hG x
theorem r18m : ∃ (r:Bool) (h':ai),CW 18 [mv m s] h=some (.bool r,h')∧(r=false→m.n.Small)∧Old h h':=r18 hG x.sl (aY.ok x.wf)
theorem r20m (sm:m.n.Small) : ∃ s' h',CW 20 [mv m s] h=some (mv m s',h')∧Has h' s' m∧Old h h':=by
 obtain ⟨s',h',e,X,o⟩:=r20 hG x.sl (aY.ok x.wf) sm
 exact ⟨s',h',e,⟨X,x.wf⟩,o⟩
theorem r15m {s':dF} {m':aY} (x':Has h s' m') (sm:m.n.Small) : ∃ h',CW 15 [mv m s,mv m' s'] h=some (.bool (decide (m=m')),h')∧Old h h':=by
 obtain ⟨r,h',e,hr,o⟩:=r15 hG x.sl x'.sl (aY.ok x.wf) (aY.ok x'.wf) sm
 refine ⟨h',?_,o⟩
 have:r=decide (m=m'):=by
  by_cases q:m=m'
  ·rw [decide_eq_true q,hr.2 (by rw [q])]
  ·rw [decide_eq_false q]
   cases r with
   |false=>rfl
   |true=>exact absurd (aY.d_inj x.wf x'.wf (hr.1 rfl)) q
 rw [←this];exact e
end
def Zm:dh := [(.int .u8 0),(.int .i64 0),(.int .i64 0),(.int .u64 0),(.int .i64 0),(.int .i64 0),(.slice none 0 0),(.slice none 0 0),(.slice none 0 0),(.int .i64 0),(.int .u8 0),(.int .u8 0),(.int .u8 0),(.int .u8 0),(.int .u8 0),(.int .u8 0),(.int .u8 0),(.int .u8 0),(.int .u8 0),(.int .u8 0),(.int .u8 0),(.int .u8 0),(.int .u8 0),(.int .u8 0),(.int .u8 0),(.int .u8 0),(.int .u8 0),(.int .u8 0),(.int .u8 0),(.int .u8 0),(.int .u8 0),(.int .u8 0),(.int .u8 0),(.int .u8 0),(.int .u8 0),(.int .u8 0),(.int .u8 0),(.int .u8 0),(.int .u8 0),(.int .u8 0),(.int .u8 0),(.int .u8 0),(.slice none 0 0),(.bool false),(.int .u8 0),(.int .u8 0),(.int .u8 0),(.int .u8 0),(.int .u8 0),(.int .u8 0),(.int .u8 0),(.int .u8 0),(.int .u8 0),(.int .u8 0),(.int .u8 0),(.int .u8 0),(.int .u8 0),(.int .u8 0),(.int .u8 0),(.int .u8 0),(.int .u8 0),(.int .u8 0),(.int .u8 0),(.int .u8 0),(.int .u8 0),(.int .u8 0),(.int .u8 0),(.int .u8 0),(.int .u8 0),(.int .u8 0),(.int .u8 0),(.int .u8 0),(.int .u8 0),(.int .u8 0),(.int .u8 0),(.int .u8 0),(.int .i64 0),(.int .i64 0),(.int .i64 0),(.int .i64 0),(.int .u8 0),(.int .u8 0),(.int .u8 0),(.int .u8 0),(.int .u8 0),(.int .u8 0),(.int .u8 0),(.int .u8 0),(.int .u8 0),(.int .u8 0),(.int .u8 0),(.int .u8 0),(.int .u8 0),(.int .u8 0),(.int .u8 0),(.int .u8 0),(.int .u8 0),(.int .u8 0),(.int .u8 0),(.int .u8 0),(.int .u8 0),(.int .u8 0),(.int .u8 0),(.int .u8 0),(.int .u8 0),(.int .u8 0),(.int .u8 0),(.int .u8 0),(.int .u8 0),(.int .u8 0),(.int .u8 0),(.int .u8 0),(.slice none 0 0),(.int .i64 0),(.slice none 0 0),(.int .i64 0)]
theorem newZ (h:ai):dW [(.int .u8 0),(.int .i64 0),(.int .i64 0),(.int .u64 0),(.int .i64 0),(.int .i64 0),(.slice none 0 0),(.slice none 0 0),(.slice none 0 0),(.int .i64 0),(.int .u8 0),(.int .u8 0),(.int .u8 0),(.int .u8 0),(.int .u8 0),(.int .u8 0),(.int .u8 0),(.int .u8 0),(.int .u8 0),(.int .u8 0),(.int .u8 0),(.int .u8 0),(.int .u8 0),(.int .u8 0),(.int .u8 0),(.int .u8 0),(.int .u8 0),(.int .u8 0),(.int .u8 0),(.int .u8 0),(.int .u8 0),(.int .u8 0),(.int .u8 0),(.int .u8 0),(.int .u8 0),(.int .u8 0),(.int .u8 0),(.int .u8 0),(.int .u8 0),(.int .u8 0),(.int .u8 0),(.int .u8 0),(.slice none 0 0),(.bool false),(.int .u8 0),(.int .u8 0),(.int .u8 0),(.int .u8 0),(.int .u8 0),(.int .u8 0),(.int .u8 0),(.int .u8 0),(.int .u8 0),(.int .u8 0),(.int .u8 0),(.int .u8 0),(.int .u8 0),(.int .u8 0),(.int .u8 0),(.int .u8 0),(.int .u8 0),(.int .u8 0),(.int .u8 0),(.int .u8 0),(.int .u8 0),(.int .u8 0),(.int .u8 0),(.int .u8 0),(.int .u8 0),(.int .u8 0),(.int .u8 0),(.int .u8 0),(.int .u8 0),(.int .u8 0),(.int .u8 0),(.int .u8 0),(.int .i64 0),(.int .i64 0),(.int .i64 0),(.int .i64 0),(.int .u8 0),(.int .u8 0),(.int .u8 0),(.int .u8 0),(.int .u8 0),(.int .u8 0),(.int .u8 0),(.int .u8 0),(.int .u8 0),(.int .u8 0),(.int .u8 0),(.int .u8 0),(.int .u8 0),(.int .u8 0),(.int .u8 0),(.int .u8 0),(.int .u8 0),(.int .u8 0),(.int .u8 0),(.int .u8 0),(.int .u8 0),(.int .u8 0),(.int .u8 0),(.int .u8 0),(.int .u8 0),(.int .u8 0),(.int .u8 0),(.int .u8 0),(.int .u8 0),(.int .u8 0),(.int .u8 0),(.int .u8 0),(.slice none 0 0),(.int .i64 0),(.slice none 0 0),(.int .i64 0)] h=some (ptr h.next 0,h.alloc Zm):=rfl
theorem var_m {h:ai} {s:dF} {m:aY} (x:Has h s m) : ∃ h2,cn 116 (ptr h.next 0) (mv m s) (h.alloc Zm)=some (undef,h2)∧Old h h2∧h2.get h.next=some (m.d.cells s)∧h2.next=h.next+1:=by
 have c:=dj x.sl (aY.ok x.wf)
 exact one_new h (show Zm.length=116 by rfl) c.2.2 c.2.1
theorem own0 (h:ai):OwnB (h.alloc []) h.next (.slice (some ⟨h.next,0,none⟩) 0 0) []:=⟨OwnC.empty _ (Nat.le_refl _),by simp⟩
theorem app_copy {h:ai} {a:Option Addr} {n c:Nat} {l:List Nat} (hl:ax a n h=some l) (hn:n≤1000000) :
  ∃ a' c' h',bq 1 1 (.slice (some ⟨h.next,0,none⟩) 0 0) (.slice a n c) (h.alloc [])=some (.slice a' n c',h')∧ax a' n h'=some l∧cV a' n c'=true∧Old h h'∧(∀ y,a'=some y→h.next≤y.block):=by
 have hlen:=(aB hl).1
 have o1:Old h (h.alloc []):=Kept.alloc _ _ _
 obtain ⟨v,h2,e1,O,k,_⟩:=append_ownB (own0 h) (by rw [o1.n0];exact h.aQ) (by rw [ai.cr];omega) (c:=c) (Old.bytes o1 hl) (by simp;omega)
 obtain ⟨a',c',rfl,b1,b2,b3,_⟩:=O.bytes
 rw [List.nil_append] at e1 b1 b2
 rw [hlen] at e1 b1 b2
 exact ⟨a',c',h2,e1,b1,b2,o1.dw k (fun d hd e=>by have e:some h.next=some d:=e;cases e;omega),b3⟩
theorem str_dec {a b:List Nat} (ha:dx a) (hb:dx b):bin Tryz.prog .eql 9 (.string (strOf a)) (.string (strOf b))=some (.bool (decide (a=b)))∧bin Tryz.prog .neq 9 (.string (strOf a)) (.string (strOf b))=some (.bool !(decide (a=b))):=by
 rw [←strOf_inj ha hb]
 exact ⟨rfl,rfl⟩
theorem enc_le {m:aY} (w:m.Wf) (v:dK m=true):(enc m).length≤1000000:=by
 obtain ⟨v1,v2⟩:=valid_parts v
 have:=body_len v1 v2 w
 unfold enc dt
 simp only [List.length_append,ay]
 omega
theorem aY.z_small:aY.z.n.Small:=⟨Nat.zero_le _,Nat.zero_le _,Nat.zero_le _,Nat.zero_le _,Nat.zero_le _,Nat.zero_le _⟩
theorem decF_small {l:List Nat} (hb:dx l):(decF l).1.n.Small:=by
 unfold decF
 split
 ·exact aY.z_small
 split
 ·exact aY.z_small
 split
 ·exact aY.z_small
 split
 ·exact aY.z_small
 split
 ·exact aY.z_small
 rename_i c1 c2 c3 _ _
 have hL:=lenE_ge (Decidable.not_not.1 c1)
 split
 ·exact aY.z_small
 rename_i q hq
 split
 ·exact aY.z_small
 split
 ·exact rBody_small (s:=⟨(l.drop 10).take (l.length-4-10),0⟩) (by show (List.take _ _).length≤_;rw [List.length_take];omega) (fun y hy=>hb y (List.mem_of_mem_drop (List.mem_of_mem_take hy))) ⟨Nat.zero_le _,Nat.zero_le _,Nat.zero_le _,Nat.zero_le _,Nat.zero_le _,Nat.zero_le _⟩ hq
 ·exact aY.z_small
end Go.Proofs.YtjghlcdidopcpaaGreatDoor

namespace Go.Proofs.YtjghlcdidopcpaaGreatDoor
open Go Go.Abs
attribute [local congr] bp
theorem is5:bC Tryz.prog 5 Tryz.f5:=⟨by kernel_rfl,by kernel_rfl,by kernel_rfl,by kernel_rfl⟩
section
variable {h:ai} {s:dF} {m:aY} {a:Option Addr} {n c:Nat} {l:List Nat} (hG:4≤h.n0) (x:Has h s m) (hl:ax a n h=some l)
include hG x hl
set_option maxRecDepth 100000 in
set_option maxHeartbeats 4000000 in
theorem dev5 : ∃ h',CW 5 [mv m s,.slice a n c] h=some (.bool true,h'):=by
 have key : ∃ h',t5 CW (mv m s) (.slice a n c) h=some (.bool true,h'):=by
  have hby:dx l:=(aB hl).2.1
  have z35:bin Tryz.prog .neq 35 (.int .i64 0) (.int .i64 0)=some (.bool false):=by rw [aC];rfl
  have y35:bin Tryz.prog .eql 35 (.int .i64 0) (.int .i64 0)=some (.bool true):=by rw [aG];rfl
  have x35:bin Tryz.prog .eql 35 (.int .i64 2) (.int .i64 0)=some (.bool false):=by rw [aG];rfl
  have hln:bO (.slice a n c)=some (aL n):=rfl
  have hgt:=gtr3 n 30000
  have hgt:bin Tryz.prog .gtr 3 (aL n) (.int .i64 30000)=some (.bool (decide (30000<n))):=hgt
  obtain ⟨h1,b1,o1,x1,A1,n1,-⟩:=eR x
  obtain ⟨r,h2,e2,k2,o2⟩:=r18m (h:=h1) (by rw [o1.n0];exact hG) x1
  have O2:=o1.trans o2
  cases r with
  |true=>exact ⟨h2,by unfold t5;simp -implicitDefEqProofs only [b1,A1.all,e2,r12,ah,ao,ar,fs,sf,beq_self_eq_true,ak,aj,Bool.false_eq_true,if_false,if_true,Bool.not_true,Bool.not_false,av,Bool.and_true,Bool.and_self,fe,fg]⟩
  |false=>
  have sm:=k2 rfl
  by_cases hn0:30000<n
  ·rw [decide_eq_true hn0] at hgt
   exact ⟨h2,by unfold t5;simp -implicitDefEqProofs only [b1,A1.all,e2,hln,hgt,r12,ah,ao,ar,fs,sf,beq_self_eq_true,ak,aj,Bool.false_eq_true,if_false,if_true,Bool.not_true,Bool.not_false,av,Bool.and_true,Bool.and_self,fe,fg]⟩
  rw [decide_eq_false hn0] at hgt
  have hn:n≤1000000:=by omega
  have A2:=(cE (x.bF O2) (Old.get o2 A1.g)).all
  obtain ⟨s3,h3,e3,x3,o3⟩:=r20m (h:=h2) (by rw [O2.n0];exact hG) (x.bF O2) sm
  have O3:=O2.trans o3
  obtain ⟨h4,e4,o4⟩:=r19 (h:=h3) (by rw [O3.n0];exact hG) x3 sm
  have O4:=O3.trans o4
  cases v:dK m with
  |false=>
   rw [v] at e4
   rw [if_neg (by decide)] at e4
   obtain ⟨ta,tc,t1,te1,tb1,tg1,to1,-⟩:=app_copy (c:=c) (Old.bytes O4 hl) hn
   have T1:=O4.trans to1
   obtain ⟨sl,t2,te2,tx2,to2,-⟩:=dC (h:=t1) (by rw [T1.n0];exact hG) tb1 tg1 hn
   have T2:=T1.trans to2
   have tz2:=newZ t2
   obtain ⟨t3,te3,to3,tg3,tn3⟩:=var_m tx2
   have T3:=T2.trans to3
   have tx3:=tx2.bF to3
   have ta3:=(cE tx3 tg3).all
   by_cases hd:(decF l).2=0
   ·obtain ⟨tv,tenc⟩:=enc_decF hby hd
    have tsm:=decF_small hby
    obtain ⟨ta4,tc4,t4,te4,tb4,tg4,to4,-⟩:=r21 (h:=t3) (by rw [T3.n0];exact hG) tx3 tsm tv
    have T4:=T3.trans to4
    have tx4:=tx3.bF to4
    have ta4':=(cE tx4 (Old.get to4 tg3)).all
    obtain ⟨t5',te5,to5⟩:=r19 (h:=t4) (by rw [T4.n0];exact hG) tx4 tsm
    have T5:=T4.trans to5
    rw [tv,if_pos rfl] at te5
    have td1:=cvBS_at (c:=tc4) (Old.bytes to5 tb4)
    have td2:=cvBS_at (c:=c) (Old.bytes T5 hl)
    have td1:=td1.trans (show _=some (Value.string (strOf l),t5') by rw [tenc])
    have td3:=(str_dec hby hby).1
    rw [decide_eq_true rfl] at td3
    exact ⟨t5',by unfold t5;simp -implicitDefEqProofs only [b1,A1.all,e2,A2,e3,e4,x35,hln,hgt,bslB,te1,te2,tz2,te3,z35,y35,hd,ta3,te4,ta4',te5,td1,td2,td3,r12,ah,ao,ar,fs,sf,beq_self_eq_true,ak,aj,Bool.false_eq_true,if_false,if_true,Bool.not_true,Bool.not_false,av,Bool.and_true,Bool.and_self,fe,fg]⟩
   ·have td:bin Tryz.prog .neq 35 (.int .i64 (decF l).2) (.int .i64 0)=some (.bool true):=by rw [aC];simpa using hd
    exact ⟨t3,by unfold t5;simp -implicitDefEqProofs only [b1,A1.all,e2,A2,e3,e4,x35,hln,hgt,bslB,te1,te2,tz2,te3,td,r12,ah,ao,ar,fs,sf,beq_self_eq_true,ak,aj,Bool.false_eq_true,if_false,if_true,Bool.not_true,Bool.not_false,av,Bool.and_true,Bool.and_self,fe,fg]⟩
  |true=>
   rw [v,if_pos rfl] at e4
   have A4:=(cE (x.bF O4) (Old.get (o2.trans (o3.trans o4)) A1.g)).all
   obtain ⟨s5,h5,e5,x5,o5⟩:=r20m (h:=h4) (by rw [O4.n0];exact hG) (x.bF O4) sm
   have O5:=O4.trans o5
   obtain ⟨a6,c6,h6,e6,b6,g6,o6,-⟩:=r21 (h:=h5) (by rw [O5.n0];exact hG) x5 sm v
   have O6:=O5.trans o6
   have hle:(enc m).length≤1000000:=enc_le x.wf v
   obtain ⟨s7,h7,e7,x7,o7,-⟩:=dC (h:=h6) (by rw [O6.n0];exact hG) (c:=c6) b6 g6 hle
   have O7:=O6.trans o7
   rw [decF_enc x.wf v] at e7 x7
   have z7:=newZ h7
   obtain ⟨h8,e8,o8,g8,n8⟩:=var_m x7
   have O8:=O7.trans o8
   have x8:=x7.bF o8
   have A8:=(cE x8 g8).all
   have o28:=o2.trans (o3.trans (o4.trans (o5.trans (o6.trans (o7.trans o8)))))
   have B8:=(cE (x.bF O8) (Old.get o28 A1.g)).all
   obtain ⟨h9,e9,o9⟩:=r22m (h:=h8) (by rw [O8.n0];exact hG) x8 (x.bF O8) sm
   have O9:=O8.trans o9
   rw [decide_eq_true rfl] at e9
   have A9:=(cE (x8.bF o9) (Old.get o9 g8)).all
   have B9:=(cE (x.bF O9) (Old.get (o28.trans o9) A1.g)).all
   obtain ⟨h10,e10,o10⟩:=r15m (h:=h9) (by rw [O9.n0];exact hG) (x8.bF o9) (x.bF O9) sm
   have O10:=O9.trans o10
   rw [decide_eq_true rfl] at e10
   obtain ⟨ta,tc,t1,te1,tb1,tg1,to1,-⟩:=app_copy (c:=c) (Old.bytes O10 hl) hn
   have T1:=O10.trans to1
   obtain ⟨sl,t2,te2,tx2,to2,-⟩:=dC (h:=t1) (by rw [T1.n0];exact hG) tb1 tg1 hn
   have T2:=T1.trans to2
   have tz2:=newZ t2
   obtain ⟨t3,te3,to3,tg3,tn3⟩:=var_m tx2
   have T3:=T2.trans to3
   have tx3:=tx2.bF to3
   have ta3:=(cE tx3 tg3).all
   by_cases hd:(decF l).2=0
   ·obtain ⟨tv,tenc⟩:=enc_decF hby hd
    have tsm:=decF_small hby
    obtain ⟨ta4,tc4,t4,te4,tb4,tg4,to4,-⟩:=r21 (h:=t3) (by rw [T3.n0];exact hG) tx3 tsm tv
    have T4:=T3.trans to4
    have tx4:=tx3.bF to4
    have ta4':=(cE tx4 (Old.get to4 tg3)).all
    obtain ⟨t5',te5,to5⟩:=r19 (h:=t4) (by rw [T4.n0];exact hG) tx4 tsm
    have T5:=T4.trans to5
    rw [tv,if_pos rfl] at te5
    have td1:=cvBS_at (c:=tc4) (Old.bytes to5 tb4)
    have td2:=cvBS_at (c:=c) (Old.bytes T5 hl)
    have td1:=td1.trans (show _=some (Value.string (strOf l),t5') by rw [tenc])
    have td3:=(str_dec hby hby).1
    rw [decide_eq_true rfl] at td3
    exact ⟨t5',by unfold t5;simp -implicitDefEqProofs only [b1,A1.all,e2,A2,e3,e4,y35,A4,e5,e6,e7,z7,e8,z35,A8,B8,e9,A9,B9,e10,hln,hgt,bslB,te1,te2,tz2,te3,z35,y35,hd,ta3,te4,ta4',te5,td1,td2,td3,r12,ah,ao,ar,fs,sf,beq_self_eq_true,ak,aj,Bool.false_eq_true,if_false,if_true,Bool.not_true,Bool.not_false,av,Bool.and_true,Bool.and_self,fe,fg]⟩
   ·have td:bin Tryz.prog .neq 35 (.int .i64 (decF l).2) (.int .i64 0)=some (.bool true):=by rw [aC];simpa using hd
    exact ⟨t3,by unfold t5;simp -implicitDefEqProofs only [b1,A1.all,e2,A2,e3,e4,y35,A4,e5,e6,e7,z7,e8,z35,A8,B8,e9,A9,B9,e10,hln,hgt,bslB,te1,te2,tz2,te3,td,r12,ah,ao,ar,fs,sf,beq_self_eq_true,ak,aj,Bool.false_eq_true,if_false,if_true,Bool.not_true,Bool.not_false,av,Bool.and_true,Bool.and_self,fe,fg]⟩
 obtain ⟨h',e⟩:=key
 exact ⟨h',az is5 hG rfl ((t5_eq _ _ _ _).trans e)⟩
end
end Go.Proofs.YtjghlcdidopcpaaGreatDoor

