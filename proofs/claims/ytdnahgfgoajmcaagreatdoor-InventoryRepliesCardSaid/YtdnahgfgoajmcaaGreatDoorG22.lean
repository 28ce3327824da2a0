/-
  A part of the proof, spaces and names shortened by a program (a claim may hold 1,500,000 bytes).
  Conditions: as each theorem states.
-/
import Derived.Test.YtdnahgfgoajmcaaGreatDoorG21
namespace Go.Proofs.YtdnahgfgoajmcaaGreatDoor
open Go Go.Abs Tryz
open Go.Lib (compareBytes)
attribute [local congr] aq
structure oK (R:List ao) (i:Nat) (out:List ao):Prop where
 ks:KS out
 mem : ∀ x,x∈out↔x∈R.take i/\R.any (oD x)=false
 val : ∀ x∈R.take i,de x=true
 len:out.length<=i
theorem fC {R:List ao} {i:Nat} (hi:i<R.length) (x:ao):x∈R.take (i+1)↔x∈R.take i\/x=R[i]:=by rw [ES hi,D9,EH]
theorem oK.void {R out:List ao} {i:Nat} (s:oK R i out) (hi:i<R.length) (v:de R[i]=true) (n:R.any (oD R[i])=true):oK R (i+1) out:=by
 refine ⟨s.ks,fun x => ?_,fun x hx => ?_,IQ s.len⟩
 ·rw [s.mem,fC hi];constructor
  ·rintro ⟨h1,h2⟩;exact ⟨.inl h1,h2⟩
  ·rintro ⟨h1|rfl,h2⟩
   ·exact ⟨h1,h2⟩
   ·rw [n] at h2;cases h2
 ·rcases (fC hi x).1 hx with h|rfl
  ·exact s.val x h
  ·exact v
theorem oK.same {R out:List ao} {i:Nat} (s:oK R i out) (hi:i<R.length) (v:de R[i]=true) (n:R.any (oD R[i])=false) (hm:R[i]∈out):oK R (i+1) out:=by
 refine ⟨s.ks,fun x => ?_,fun x hx => ?_,IQ s.len⟩
 ·rw [fC hi];constructor
  ·intro h;have:=(s.mem x).1 h;exact ⟨.inl this.1,this.2⟩
  ·rintro ⟨h1|rfl,h2⟩
   ·exact (s.mem x).2 ⟨h1,h2⟩
   ·exact hm
 ·rcases (fC hi x).1 hx with h|rfl
  ·exact s.val x h
  ·exact v
theorem oK.ins {R out:List ao} {i a:Nat} (s:oK R i out) (wf : ∀ x∈R,ao.Wf x) (hi:i<R.length) (v:de R[i]=true) (n:R.any (oD R[i])=false) (ha:a<=out.length) (lo : ∀ j,(hj:j<out.length)->j<a->fp out[j] R[i]<0) (hh : ∀ h:a<out.length,¬fp out[a] R[i]<0) (hne : ∀ h:a<out.length,out[a]≠R[i]) :
  oK R (i+1) (out.take a ++ [R[i]]++out.drop a):=by
 refine ⟨ks_ins s.ks ha lo hh (fun x hx e => ?_) hne,fun x => ?_,fun x hx => ?_,?_⟩
 ·have h1:=(s.mem x).1 hx;have h2:=EZ h1.1;exact vd_uniq h2 (EA hi) (wf _ h2) (wf _ (EA hi)) (s.val x h1.1) v h1.2 n e
 ·rw [fC hi,EC,D9,D9,EH];have h1:(x∈out.take a\/x∈out.drop a)↔x∈out:=by rw [<-List.mem_append,EL]
  constructor
  ·rintro (h|rfl|h)
   ·have:=(s.mem x).1 (h1.1 (.inl h));exact ⟨.inl this.1,this.2⟩
   ·exact ⟨.inr rfl,n⟩
   ·have:=(s.mem x).1 (h1.1 (.inr h));exact ⟨.inl this.1,this.2⟩
  ·rintro ⟨h|rfl,h2⟩
   ·rcases h1.2 ((s.mem x).2 ⟨h,h2⟩) with q|q
    ·exact .inl q
    ·exact .inr (.inr q)
   ·exact .inr (.inl rfl)
 ·rcases (fC hi x).1 hx with h|rfl
  ·exact s.val x h
  ·exact v
 ·have:=s.len;rw [DH,DH,DW,D8,List.length_singleton];omega
theorem ins_ok {g:ad} {N:Nat} {w:Value} {out:List ao} {r:ao} {a:Nat} (rl:cy g N w out) (wr:r.Wf) (ha:a<=out.length) (hl:out.length<=100000) :
  ∃ v1 v2 v4 g5 v7 g7 v8 g8,iw 39 w none (some (ak a)) none=some v1/\iw 39 w (some (ak a)) none none=some v2/\appendA 39 88 (.slice (some ⟨g.next,0,none⟩) 0 0) v1 (g.alloc [])=some (v4,g5)/\aA g g5 /\
    appendA 39 88 v4 (.slice (some ⟨g5.next,0,none⟩) 1 1) (g5.alloc (bL r))=some (v7,g7)/\appendA 39 88 v7 v2 g7=some (v8,g8)/\aA g g8/\cy g8 g.next v8 (out.take a ++ [r]++out.drop a):=by
 obtain ⟨v1,s1,rc1⟩:=rl.takeA ha;obtain ⟨v2,s2,rc2⟩:=rl.dropA ha;have n0:=g.n0_le_next;have lt:(out.take a).length=a:=by rw [DW];omega
 have ld:(out.drop a).length=out.length-a:=D8;have o4:aA g (g.alloc []):=az.alloc _ _ _;have r4:cy (g.alloc []) g.next (.slice (some ⟨g.next,0,none⟩) 0 0) []:=⟨(fun _ h=>by cases h),g.next,none,rfl,by rw [ad.aF,DL rfl];rfl,DF _,.inl ⟨rfl,rfl⟩⟩
 obtain ⟨v4,g5,e5,r5,k5,_⟩:=r4.Bx (rc1.mono o4) (by rw [o4.n0];exact n0) o4.next (by decide) (by omega);have o5:aA g g5:=aA.bx o4 k5 (DF _);rw [List.nil_append] at r5;have o6:aA g5 (g5.alloc (bL r)):=az.alloc _ _ _;have g6:(g5.alloc (bL r)).get g5.next=some (bL r):=by rw [ad.aF,DL rfl]
 obtain ⟨v7,g7,e7,r7,k7⟩:=(r5.old o6).push (c:=g5.next) (by rw [(o5.trans o6).n0];exact n0) (o5.trans o6).next wr (by omega) g6;have o7:aA g g7:=aA.bx (o5.trans o6) k7 r5.blk.1;obtain ⟨v8,g8,e8,r8,k8,_⟩:=r7.Bx (rc2.mono o7) (by rw [o7.n0];exact n0) o7.next (by rw [DH,List.length_singleton];omega) (by omega);exact ⟨v1,v2,v4,g5,v7,g7,v8,g8,s1,s2,e5,o5,e7,e8,aA.bx o7 k8 r7.blk.1,r8⟩
set_option maxRecDepth 100000 in
set_option maxHeartbeats 1000000 in
theorem r52 {h:ad} (hG:4<=h.n0) (hz:GZ h) {v:Value} {R:List ao} (hv:jK h v R) (hR:R.length<=100000) :
  ∃ w e h',CW 26 [v] h=some (.tuple #[w,.int .i64 e],h')/\aA h h'/\((gz R=true/\e=2)\/(gz R=false/\e=0 /\ ∃ out,cy h' h.next w out/\oK R R.length out)):=by
 have hll:=hv.len;have wf:=hv.2.1;have b0:=tg h;have o1:aA h (h.alloc []):=az.alloc _ _ _;have r0:cy (h.alloc []) h.next (.slice (some ⟨h.next,0,none⟩) 0 0) []:=⟨(fun _ h=>by cases h),h.next,none,rfl,by rw [ad.aF,DL rfl];rfl,DF _,.inl ⟨rfl,rfl⟩⟩
 generalize h.alloc []=h1 at *;generalize Value.slice (some ⟨h.next,0,none⟩) 0 0=w0 at *;have key : ∃ q:aS,t52 CW v h=q /\ ∃ w e h',q=some (.tuple #[w,.int .i64 e],h')/\aA h h'/\((gz R=true/\e=2)\/(gz R=false/\e=0 /\ ∃ out,cy h' h.next w out/\oK R R.length out)):=by
  refine ⟨_,rfl,?_⟩;unfold t52;simp -implicitDefEqProofs only [b0, ae];refine bq (n:=76) (fin:=fun ex y g=>aA h g/\((ex = .exit 0 /\ ∃ out,cy g h.next (y 4) out/\oK R R.length out)\/(ex = .ret/\gz R=true/\y 3 = .int .i64 2)))
   (Q:=fun q:aS => ∃ w e h',q=some (.tuple #[w,.int .i64 e],h')/\aA h h'/\((gz R=true/\e=2)\/(gz R=false/\e=0 /\ ∃ out,cy h' h.next w out/\oK R R.length out)))
   (bk (xf CW) (Inv:=fun k y g => ∃ i out,i+k=R.length/\y 0=v/\y 5=ak i/\aA h g/\cy g h.next (y 4) out/\oK R i out) ?_ R.length (by have:aB=18446744073709551616:=rfl;omega) ⟨0,[],by omega,rfl,rfl,o1,r0,.nil,fun x=>by simp,fun x hx=>by simp at hx,DF _⟩) ?_
  ·rintro k y g ⟨i,out,hik,y0,y5,Og,rl,S⟩;unfold od;simp -implicitDefEqProofs only [y0,y5,hll,eK,ae,af];by_cases hi:i<R.length
   ·obtain ⟨b,oo,ix,wr,ld⟩:=hv.rd hi;obtain ⟨g1,e1,q1⟩:=r48 (h:=g) (by rw [Og.n0];exact hG) (hz.old Og) wr;have O1:=Og.trans q1;have a5:aC prog .add 3 (ak i) (.int .i64 1)=some (ak (i+1)):=dh (by omega);cases hval:de R[i] with
    |false=>
     rw [hval] at e1;simp -implicitDefEqProofs only [DA hi, ix, ld g Og, e1, aT, DN, ae, af];refine cR.ret ⟨O1,.inr ⟨rfl,?_,rfl⟩⟩;unfold gz;rw [I8];exact ⟨R[i],EA hi,by rw [hval];rfl⟩
    |true=>
     rw [hval] at e1;obtain ⟨g2,e2,q2⟩:=r105 (h:=g1) (by rw [O1.n0];exact hG) (hz.old O1) wr (hv.mono O1) (by omega);have O2:=O1.trans q2;simp -implicitDefEqProofs only [DA hi, ix, ld g Og, e1, aT, DP, ld g1 O1, e2, ae, af];have rl2:=rl.old (q1.trans q2);cases hn:R.any (oD R[i]) with
     |true=>
      simp -implicitDefEqProofs only [a5, ae, af];exact cR.next (k-1) (by omega) ⟨i+1,out,by omega,y0,rfl,O2,rl2,S.void hi hval hn⟩
     |false=>
      simp -implicitDefEqProofs only [];refine bq (nl_in hG O2 hv hi rl2 (by have:=S.len;omega) (by first|rfl|exact y0) rfl (by first|rfl|exact y5) rfl) ?_;rintro ex z g3 ⟨rfl,q3,z0,z4,z5,a,z6,ha,lo,hh⟩;have O3:=O2.trans q3;have z4:z 4=y 4:=z4;have rl3:=rl2.old q3;have hol:=rl3.zY.rsl.len;simp -implicitDefEqProofs only [aV,b52_17e,C9];unfold uR;simp -implicitDefEqProofs only [z6,z4,hol,eK,ae,af];have hS:=S.len;obtain ⟨v1,v2,v4,g5,v7,g7,v8,g8,s1,s2,e5,o5,e7,e8,o8,r8⟩:=ins_ok rl3 wr ha (by omega);have b0':=tg g3;have br:=xN wr g5;have fin8 : ∀ (x':Nat->Value) (q:ad) (out':List ao),x' 0=v->x' 5=ak i->aA h q->cy q h.next (x' 4) out'->oK R (i+1) out' ->
        cR 76 (fun k y g => ∃ i out,i+k=R.length/\y 0=v/\y 5=ak i/\aA h g/\cy g h.next (y 4) out/\oK R i out) (fun ex y g=>aA h g/\((ex = .exit 0 /\ ∃ out,cy g h.next (y 4) out/\oK R R.length out)\/(ex = .ret/\gz R=true/\y 3 = .int .i64 2))) k (tp CW x' q):=by
       intro x' q out' x0 x5 oq rq sq;unfold tp;simp -implicitDefEqProofs only [x5,a5,ae,af];exact cR.next (k-1) (by omega) ⟨i+1,out',by omega,x0,rfl,oq,rq,sq⟩
      by_cases hal:a<out.length
      ·obtain ⟨bo,oo',ixo,wo,ldo⟩:=rl3.zY.rsl.rd hal;by_cases he:out[a]=R[i]
       ·simp -implicitDefEqProofs only [DA hal, bt, aw, ixo, ldo g3 (az.refl _ _), z0, z5, ix, ld g3 O3, pQ wo wr, DA he, DY, b52_9e, pw, ae, af];refine fin8 _ _ out ?_ ?_ O3 ?_ (S.same hi hval hn (he▸EA hal))
        ·exact z0
        ·exact z5
        ·show cy g3 h.next (z 4) out;rw [z4];exact rl3
       ·simp -implicitDefEqProofs only [DA hal, bt, aw, ixo, ldo g3 (az.refl _ _), z0, z5, ix, ld g3 O3, pQ wo wr, DB he, DY, s1, s2, b0', e5, br, e7, e8, ld g5 (O3.trans o5), chkRec wr, DV, pw, ae, af];refine fin8 _ _ _ ?_ ?_ (O3.trans o8) ?_ (S.ins wf hi hval hn ha lo hh fun _=>he)
        ·exact z0
        ·exact z5
        ·exact r8.weak O3.next
      ·simp -implicitDefEqProofs only [DB hal, sP, ax, DD, D3, z0, z5, ix, ld g3 O3, s1, s2, b0', e5, br, e7, e8, ld g5 (O3.trans o5), chkRec wr, DV, pw, ae, af];refine fin8 _ _ _ ?_ ?_ (O3.trans o8) ?_ (S.ins wf hi hval hn ha lo hh fun h=>absurd h hal)
       ·exact z0
       ·exact z5
       ·exact r8.weak O3.next
   ·have hE:i=R.length:=by omega
    subst hE;simp -implicitDefEqProofs only [DB hi];exact cR.out 0 ⟨Og,.inl ⟨rfl,out,rl,S⟩⟩
  ·rintro ex z g ⟨Og,⟨rfl,out,rl,S⟩|⟨rfl,q,z3⟩⟩
   ·simp -implicitDefEqProofs only [aV,b52_4e,t52k52_2_eq];unfold yl;refine ⟨z 4,0,g,rfl,Og,.inr ⟨?_,rfl,out,rl,S⟩⟩;unfold gz;rw [F7];intro x hx;rw [S.val x (by rw [E9];exact hx)];decide
   ·rw [fq];refine ⟨z 2,2,g,?_,Og,.inl ⟨q,rfl⟩⟩;rw [cE,res_two results52 (by decide) (by decide),z3]
 obtain ⟨q,e,w,ee,h',e',oo⟩:=key;exact ⟨w,ee,h',aD is52 hG rfl ((t52_eq _ _ _).trans (e.trans e')),oo⟩
theorem vd_nf {L:List ao} (v:qE L) (x:ao):(x∈L/\L.any (oD x)=false)↔Nf L x:=by
 constructor
 ·rintro ⟨hx,h⟩;rw [F7] at h;refine ⟨⟨hx,fun y hy ha => ?_⟩,?_⟩
  ·have h1:=h y hy;unfold oD at h1;simp only [FH,not_or] at h1;have h1:=h1.1;rw [<-nM (v y hy).1 (v x hx).1] at h1;unfold yj at h1;rw [eO] at ha;simp only [(v y hy).2,(v x hx).2,ha,EE,DR] at h1;omega
  ·rintro ⟨hk,⟨y,hy,h1,h2⟩|⟨y,hy,h1,h2,h3⟩⟩
   ·exact h y hy (by unfold oD;simp [hk,h1,h2])
   ·exact h y hy (by unfold oD;simp [hk,h1,h2,h3])
 ·rintro ⟨⟨hx,ht⟩,hv⟩;refine ⟨hx,?_⟩;rw [F7];intro y hy hq;unfold oD at hq;simp only [FH,DJ,DR] at hq;rcases hq with hq|⟨⟨⟨h1,h2⟩,h3⟩,h4⟩|⟨⟨h1,h2⟩,h3⟩
  ·rw [<-nM (v y hy).1 (v x hx).1] at hq;unfold yj at hq;simp only [DJ,DR] at hq;have:=ht y hy (by rw [eO];exact hq.2.2.1);omega
  ·exact hv ⟨h1,.inr ⟨y,hy,h2,h3,h4⟩⟩
  ·exact hv ⟨h1,.inl ⟨y,hy,h2,h3⟩⟩
theorem nrm_merged {A B out:List ao} (v:qE (A++B)) (s:oK (A++B) (A++B).length out):out=bB A B:=by refine s.ks.ext (qB v).2 fun x => ?_;rw [s.mem,E9,merged_mem v];exact vd_nf v x
theorem neq26 (n:Int):aC prog .neq 26 (.int .i64 n) (.int .i64 0)=some (.bool (!(decide (n=0)))):=by
 rw [aZ]
 congr 2
theorem neq26z:aC prog .neq 26 (.int .i64 0) (.int .i64 0)=some (.bool false):=by rw [neq26];rfl
theorem r16 {h:ad} (hG:4<=h.n0) (hz:GZ h) {v w:Value} {A B:List ao} (hv:eD h v A) (hw:eD h w B) (vA:qE A) (hA:A.length<=50000) (hB:B.length<=50000) :
  ∃ x e h',CW 7 [v,w] h=some (.tuple #[x,.int .i64 e],h')/\aA h h'/\((gz B=true/\e=2/\x=v)\/(gz B=false/\e=0/\cy h' h.next x (bB A B))):=by
 have b0:=tg h;have o1:aA h (h.alloc []):=az.alloc _ _ _;have n0:=h.n0_le_next;have r0:cy (h.alloc []) h.next (.slice (some ⟨h.next,0,none⟩) 0 0) []:=⟨(fun _ h=>by cases h),h.next,none,rfl,by rw [ad.aF,DL rfl];rfl,DF _,.inl ⟨rfl,rfl⟩⟩
 obtain ⟨v2,h2,e2,r2,k2,_⟩:=r0.Bx (hv.mono o1) (by rw [o1.n0];exact n0) o1.next (by decide) (by omega);have O2:aA h h2:=aA.bx o1 k2 (DF _);rw [List.nil_append] at r2;obtain ⟨v3,h3,e3,r3,k3,_⟩:=r2.Bx (hw.mono O2) (by rw [O2.n0];exact n0) O2.next (by omega) (by omega);have O3:aA h h3:=aA.bx O2 k3 r2.blk.1;obtain ⟨x,e,h4,e4,O4,q⟩:=r52 (h:=h3) (by rw [O3.n0];exact hG) (hz.old O3) r3.zY.rsl (by rw [DH];omega);have x0:extractA (.tuple #[x,.int .i64 e]) 0=some x:=rfl;have x1:extractA (.tuple #[x,.int .i64 e]) 1=some (.int .i64 e):=rfl;have inv:gz (A++B)=gz B:=by unfold gz;rw [List.any_append,Bool.or_eq_right_iff_imp];intro h;rw [I8] at h;obtain ⟨r,hr,hq⟩:=h;rw [(vA r hr).2] at hq;cases hq
 rw [inv] at q;rcases q with ⟨q1,rfl⟩|⟨q1,rfl,out,q2,q3⟩
 ·refine ⟨v,2,h4,aD is16 hG rfl ((t16_eq _ _ _ _).trans ?_),O3.trans O4,.inl ⟨q1,rfl,rfl⟩⟩;unfold t16;simp -implicitDefEqProofs only [b0,e2,e3,e4,x0,x1,neq26,DB (show ¬(2:Int)=0 by decide),DN,ae,af]
 ·have vAB:qE (A++B):=fun r hr=>by
   rcases D9.1 hr with h1|h1
   ·exact vA r h1
   ·exact ⟨hw.1 r h1,nE q1 r h1⟩
  refine ⟨x,0,h4,aD is16 hG rfl ((t16_eq _ _ _ _).trans ?_),O3.trans O4,.inr ⟨q1,rfl,?_⟩⟩
  ·unfold t16;simp -implicitDefEqProofs only [b0,e2,e3,e4,x0,x1,neq26z,ae,af]
  ·rw [<-nrm_merged vAB q3];exact q2.weak O3.next
theorem r25E {h:ad} {vb:Nat} {v:Value} {L R:List ao} (I:zW h vb L) (x:jK h v R) (vr:gz R=true) (hL:L.length<=500000) (hR:R.length<=500000):CV 21 [ptr vb 0,v] h=some (.int .i64 2,h):=by
 obtain ⟨va,gv,ra,na⟩:=I.ex;have ok:yN [ptr vb 0,v] h vb va L v R:=⟨rfl,I.n0,gv,ra.rsl,x,I.vld,hL,hR⟩
 have e:=s25_eq ok;rw [DL vr] at e;exact uT e
theorem kH.cellW {h h':ad} {c:Nat} {w:Value} {m:bM} {x:AM} (M:kH h m x) (k:az h h' (· = c)) (hc:h.get c=some [w]) (hw : ∃ a n d,w = .slice a n d):kH h' m x:=by
 have nb : ∀ {a:Option Addr} {n:Nat} {l:List Nat},av a n h=some l->av a n h'=some l:=fun {a n l} e=>by
  refine az.bytes k e fun y hy hn q => ?_;have q:y.block=c:=q;obtain ⟨_,_,s3⟩:=aK e;obtain ⟨b,off,s,kk,rfl,hk,hl,ht⟩:=s3 hn;cases hy;have q:b=c:=q;subst q;rw [hc] at hk;cases hk;have h0:=ht 0 hn;obtain ⟨a',n',d',rfl⟩:=hw;have hl:off+n<=1:=hl;have:off=0:=by omega
  subst this;cases h0
 exact ⟨M.kind,M.frm,M.to,M.cnt,M.root,M.want,M.d32,nb M.lo,nb M.hi,M.rs.keepC k hc,M.mg⟩
theorem call132 (r y:Value) (h:ad):callA prog CW (.func (.func 66) #[] #[y]) [r] h=CW 66 [r,y] h:=by have hf:=EV fs_135;unfold callA;simp only;generalize prog.funcs.size=n at *;rw [DL (show (66:Nat)<n by omega)];rfl
theorem call101 (r y:Value) (h:ad):callA prog CW (.func (.func 29) #[] #[y]) [r] h=CW 29 [r,y] h:=by have hf:=EV fs_135;unfold callA;simp only;generalize prog.funcs.size=n at *;rw [DL (show (29:Nat)<n by omega)];rfl
def dS (T:List ao) (x:AM):List AM:=
 let l:=(T.filter (dA x.lo x.hi)).filter fun r => !(decide (r∈x.L))
 if x.want=true then (kW l ((l.length+63)/64)).map fun p=>dU x.lo x.hi p false else []
theorem wU.ans {g:ad} {N M:Nat} {w:Value} {ms:List bM} {xs:List AM} (A:wU g N w ms xs) (hM:M<=N):yu g M w ms xs:=by
 refine ⟨?_,A.len,A.is,fun i hi hi'=>(A.own i hi hi').weak hM⟩;rcases A.sl.form with ⟨h1,h2⟩|⟨b,s,h1,h2,h3,_⟩
 ·exact .inl ⟨h2,DU.1 h1⟩
 ·exact .inr ⟨b,s,h1,h2,D5 hM h3,A.bel b (by rw [h1];rfl)⟩
set_option maxRecDepth 100000 in
set_option maxHeartbeats 1000000 in
theorem r103 {h:ad} (hG:4<=h.n0) {vb:Nat} {S:List ao} (I:zW h vb S) {m:bM} {x:AM} (X:kH h m x) (vr : ∀ r∈x.L,de r=true) (hS:S.length<=40000) (hL:x.L.length<=40000) (hnl:m.nl<=20000) (hnh:m.nh<=20000) :
  ∃ w ms h',CV 31 [ptr vb 0,mV m] h=some (w,h')/\az h h' (· = vb)/\zW h' vb (bB S x.L)/\yu h' h.next w ms (dS (bB S x.L) x) /\ ∀ c,gK w=some c -> ∀ va,h'.get vb=some [va]->slB va≠some c:=by
 have hd:MG m:=X.mg;have ok:=df hd;have b1:box (mV m) h=some (ptr h.next 0,h.alloc (mC m)):=dG h _ ok.2.2;have o1:aA h (h.alloc (mC m)):=az.alloc _ _ _;have g1:(h.alloc (mC m)).get h.next=some (mC m):=by rw [ad.aF,DL rfl]
 have n1:(h.alloc (mC m)).next=h.next+1:=rfl;generalize h.alloc (mC m)=h1 at *;have I1:=I.old o1;have X1:=X.old o1;have M1:=gU hd g1;obtain ⟨wc,hc⟩:=I1.cell;have hws : ∃ a n d,wc = .slice a n d:=by obtain ⟨va,gv,rv,_⟩:=I1.ex;rw [hc] at gv;cases gv;obtain ⟨_,a,d,e,_⟩:=rv;exact ⟨_,_,_,e⟩
 have vlt:vb<h.next:=by obtain ⟨w,gw⟩:=I.cell;exact h.aO gw
 obtain ⟨h2,e2,I2,k2⟩:=r25 I1 X1.rs.rsl vr (by omega) (by omega);have X2:=X1.cellW k2 hc hws;have g2:h2.get h.next=some (mC m):=k2.getE g1 (by omega);have K2:az h h2 (· = vb):=(o1.mono fun _ _ h=>h.elim).trans k2;have M2:=gU hd g2;have ml:=kj S x.L;have e2':CV 21 [ptr vb 0,m.nt] h1=some (.int .i64 0,h2):=e2;have l43:ld1 (ptr h.next 43) h2=some (.bool x.want,h2):=by rw [<-X.want];exact M2.l43
 generalize bB S x.L=T at *;have rep:dS T x=if x.want=true then (kW ((T.filter (dA x.lo x.hi)).filter fun r => !(decide (r∈x.L))) ((((T.filter (dA x.lo x.hi)).filter fun r => !(decide (r∈x.L))).length+63)/64)).map fun p=>dU x.lo x.hi p false else []:=rfl
 cases hwant:x.want with
 |false=>
  rw [hwant] at l43;rw [DM (by rw [hwant];decide)] at rep;rw [rep];refine ⟨.slice none 0 0,[],h2,iv is103 hG (by decide) (by decide) ((t103_eq _ _ _ _).trans ?_),K2,I2,⟨.inl ⟨rfl,rfl⟩,rfl,fun i h=>absurd h (E0 i),fun i h=>absurd h (E0 i)⟩,fun c h=>by cases h⟩;unfold t103;simp -implicitDefEqProofs only [b1,ay,DG,M1.l42,e2',l43,aT,DN,ae,af]
 |true=>
  rw [hwant] at l43;rw [DL hwant] at rep;rw [rep];obtain ⟨va,gv,rv,nv⟩:=I2.ex;have G2:4<=h2.n0:=by rw [K2.n0];exact hG
  obtain ⟨w3,h3,e3,o3,r3,f3⟩:=r20L (h:=h2) (cl:=m.cl) (ch:=m.ch) G2 gv rv nv I2.ks (by omega) X2.lo X2.hi;have e3:=iy (f:=18) rfl (by decide) e3;have old2 : ∀ {g:ad},az h3 g (fun c=>h2.next<=c)->aA h2 g:=fun K=>o3.also K (fun d hd q=>by omega);have hfl:=EU (dA x.lo x.hi) T;obtain ⟨w4,h4,e4,k4,r4,n4,b4⟩:=r131 (h:=h3) (by rw [o3.n0];exact G2) (N:=h2.next) (by rw [o3.n0];exact h2.n0_le_next) o3.next (fv := .func (.func 66) #[] #[ptr h.next 0]) r3 f3 (by omega) (fun r=>decide (r∈x.L))
   (fun r hr w g K=>by rw [call132];have Og:=old2 K;exact r132 (by rw [Og.n0];exact G2) (gU hd (aA.get Og g2)) (aA.get Og g2) hd (X2.rs.mono Og).rsl (by omega) w)
  have e4:=iy (f:=65) rfl (by decide) e4;have O4:=old2 k4;generalize hR:(T.filter (dA x.lo x.hi)).filter (fun r => !(decide (r∈x.L)))=R at *;have hRl:R.length<=100000:=by have:=EU (fun r => !(decide (r∈x.L))) (T.filter (dA x.lo x.hi));rw [hR] at this;omega
  obtain ⟨a4,c4,rfl⟩ : ∃ a c,w4 = .slice a R.length c:=by obtain ⟨_,a,d,e,_⟩:=r4;exact ⟨a,d,e⟩
  obtain ⟨h5,z5,o5,g5,n5⟩:=fresh [.slice none 0 0] h4;have G5:4<=h5.n0:=by rw [o5.n0,O4.n0];exact G2
  have e6:=iy (f:=68) rfl (by decide) (r134 G5 a4 R.length c4);have o6:aA h5 ((h5.alloc [.slice a4 R.length c4]).alloc [.int .i64 64]):=(az.alloc _ _ _).trans (az.alloc _ _ _);have p1:((h5.alloc [.slice a4 R.length c4]).alloc [.int .i64 64]).get h5.next=some [.slice a4 R.length c4]:=by rw [ad.aF,DM (show ¬h5.next=(h5.alloc [.slice a4 R.length c4]).next by show ¬h5.next=h5.next+1;omega),ad.aF,DL rfl]
  have p2:((h5.alloc [.slice a4 R.length c4]).alloc [.int .i64 64]).get (h5.next+1)=some [.int .i64 64]:=by rw [ad.aF,DL (show h5.next+1=(h5.alloc [.slice a4 R.length c4]).next from rfl)]
  have n6:((h5.alloc [.slice a4 R.length c4]).alloc [.int .i64 64]).next=h5.next+1+1:=rfl;generalize (h5.alloc [.slice a4 R.length c4]).alloc [.int .i64 64]=h6 at *;have key : ∃ out:aS,t103 CV (ptr vb 0) (mV m) h=out /\ ∃ w ms h',out=some (w,h')/\az h h' (· = vb)/\zW h' vb T/\yu h' h.next w ms ((kW R ((R.length+63)/64)).map fun p=>dU x.lo x.hi p false) /\ ∀ c,gK w=some c -> ∀ va,h'.get vb=some [va]->slB va≠some c:=by
   refine ⟨_,rfl,?_⟩;unfold t103;simp -implicitDefEqProofs only [b1,ay,DG,M1.l42,e2',l43,aT,DP,M2.l7,M2.l8,e3,e4,z5,e6,ae,af];generalize hY:up (bs [ptr vb 0,mV m]) _=Y;have Y24:Y 24 = .func (.func 92) #[] #[ptr h5.next 0,ptr (h5.next+1) 0]:=by rw [<-hY];rfl
   have Y3:Y 3=ptr h.next 0:=by rw [<-hY];rfl
   have Y6:Y 6=ptr h4.next 0:=by rw [<-hY];rfl
   obtain ⟨h7,v,ms,e7,O7,gv7,A7⟩:=chunk_all (h1:=h4) (h:=h6) (by rw [O4.n0];exact G2) (o5.trans o6) hRl r4 n4 (X2.old O4) (aA.get O4 g2) hnl hnh (by omega) (aA.get o6 g5) p1 p2 (by omega) (by omega) Y24 Y3 Y6;rw [e7];rw [endN_n,Ah];unfold rz;have lv:ld1 (ptr h4.next 0) h7=some (v,h7):=aU gv7 rfl (by rcases A7.sl.wform with rfl|⟨b,s,n,rfl⟩<;>rfl)
   simp -implicitDefEqProofs only [Y6,lv,ae];have O27:=O4.trans O7;exact ⟨v,ms,h7,rfl,K2.also O27 (fun _ _ q=>q.elim),I2.old O27,A7.ans (by have:=O4.next;have:=K2.next;omega),fun c hc va' hva' q=>by have h1:=(A7.sl.blk hc).1;rw [aA.get O27 gv] at hva';cases hva';have h2:=rv.slB_lt q;have:=O4.next;omega⟩
  obtain ⟨q,e,w,ms,h',e',oo⟩:=key;exact ⟨w,ms,h',iv is103 hG (by decide) (by decide) ((t103_eq _ _ _ _).trans (e.trans e')),oo⟩
def fo (S:List ao) (x:AM):List ao×List AM×Int:=
 if x.kind=4/\0<=x.cnt then (S,(fc S x).map (gF x.to x.frm),0)
 else if x.kind=5/\64<x.L.length then (S,[],3)
 else if x.kind=5/\x.L.any (ke x.lo x.hi)=false then (bB S x.L,(dS (bB S x.L) x).map (gF x.to x.frm),0)
 else (S,[],2)
theorem nilAns (g:ad) (N:Nat):yu g N (.slice none 0 0) [] []:=⟨.inl ⟨rfl,rfl⟩,rfl,fun i h=>absurd h (E0 i),fun i h=>absurd h (E0 i)⟩
set_option maxRecDepth 100000 in
set_option maxHeartbeats 1000000 in
theorem r50 {h:ad} (hG:4<=h.n0) (hz:h.get 3=some bX) {vb:Nat} {S:List ao} (I:zW h vb S) {m:bM} {x:AM} (X:kH h m x) (hS:S.length<=40000) (hL:x.L.length<=40000) (hnl:m.nl<=20000) (hnh:m.nh<=20000) :
  ∃ w ms h',CV 9 [ptr vb 0,mV m] h=some (.tuple #[w,.int .i64 (fo S x).2.2],h')/\az h h' (· = vb)/\zW h' vb (fo S x).1/\yu h' h.next w ms (fo S x).2.1:=by
 by_cases q1:x.kind=4/\0<=x.cnt
 ·obtain ⟨va,gv,rv,nv⟩:=I.ex;obtain ⟨w,ms,h',e,o,A⟩:=r50s hG hz gv rv nv I.ks I.vld (by omega) X hnl hnh q1.1 q1.2;have er:fo S x=(S,(fc S x).map (gF x.to x.frm),0):=by unfold fo;rw [DL q1]
  rw [er];exact ⟨w,ms,h',e,o.mono fun _ _ h=>h.elim,I.old o,A⟩
 ·have hd:MG m:=X.mg;have ok:=df hd;have b1:box (mV m) h=some (ptr h.next 0,h.alloc (mC m)):=dG h _ ok.2.2;have o1:aA h (h.alloc (mC m)):=az.alloc _ _ _;have g1:(h.alloc (mC m)).get h.next=some (mC m):=by rw [ad.aF,DL rfl]
  have n1:(h.alloc (mC m)).next=h.next+1:=rfl;generalize h.alloc (mC m)=h1 at *;have M:=gU hd g1;have l0:=M.l0;rw [X.kind] at l0;have l9:ld1 (ptr h.next 9) h1=some (.int .i64 x.cnt,h1):=by rw [<-X.cnt];exact M.l9
  have X1:=X.old o1;have hlr:=X1.rs.rsl.len;have vlt:vb<h.next:=by obtain ⟨w,gw⟩:=I.cell;exact h.aO gw
  have k4:=eq31k x.kind 4 4 rfl;have k5:=eq31k x.kind 5 5 rfl;by_cases q5:x.kind=5
  ·have n4 : ¬x.kind=4:=by omega
   by_cases q64:64<x.L.length
   ·have er:fo S x=(S,[],3):=by unfold fo;rw [DM q1,DL ⟨q5,q64⟩]
    rw [er];refine ⟨.slice none 0 0,[],h1,iv is50 hG (by decide) (by decide) ((xR _ _ _ _).trans ?_),o1.mono (fun _ _ h=>h.elim),I.old o1,nilAns _ _⟩;unfold t50;simp -implicitDefEqProofs only [b1,kF,ay,DG,l0,k4,DB n4,sP,bt,aw,ax,DD,D3,DY,k5,DA q5,M.l42,hlr,jo x.L.length 64 64 rfl,DA q64,ae,af]
   ·obtain ⟨h2,e2,o2⟩:=r60 (h:=h1) (by rw [o1.n0];exact hG) (fv := .func (.func 29) #[] #[ptr h.next 0]) X1.rs.rsl (by omega) (ke x.lo x.hi) (fun r hr w g og=>by rw [call101];exact r101 (by rw [(o1.trans og).n0];exact hG) (aA.get og g1) (X1.old og) hnl hnh w)
    have e2:CV 28 [m.nt,.func (.func 29) #[] #[ptr h.next 0]] h1=some (.bool (x.L.any (ke x.lo x.hi)),h2):=iy (f:=28) rfl (by decide) e2;have O2:=o1.trans o2;cases hout:x.L.any (ke x.lo x.hi) with
    |true=>
     rw [hout] at e2;have er:fo S x=(S,[],2):=by unfold fo;rw [DM q1,DM (fun q=>q64 q.2),DM (fun q=>by rw [hout] at q;cases q.2)]
     rw [er];refine ⟨.slice none 0 0,[],h2,iv is50 hG (by decide) (by decide) ((xR _ _ _ _).trans ?_),O2.mono (fun _ _ h=>h.elim),I.old O2,nilAns _ _⟩;unfold t50;simp -implicitDefEqProofs only [b1,kF,ay,DG,l0,k4,DB n4,sP,bt,aw,ax,DD,D3,DY,k5,DA q5,M.l42,hlr,jo x.L.length 64 64 rfl,DB q64,e2,aT,DP,ae,af]
    |false=>
     rw [hout] at e2;have er:fo S x=(bB S x.L,(dS (bB S x.L) x).map (gF x.to x.frm),0):=by unfold fo;rw [DM q1,DM (fun q=>q64 q.2),DL ⟨q5,hout⟩]
     rw [er];have vr : ∀ r∈x.L,de r=true:=fun r hr=>by
      rw [F7] at hout;have:=hout r hr;unfold ke at this;cases hv:de r with
      |true=>rfl
      |false=>rw [hv] at this;exact absurd rfl this
     have M2:=gU hd (aA.get o2 g1);obtain ⟨w,ms,h3,e3,k3,I3,A3,sep⟩:=r103 (h:=h2) (by rw [O2.n0];exact hG) (I.old O2) (X.old O2) vr hS hL hnl hnh;have hlen:ms.length<=1000000:=by
      rw [A3.len];have ml:=kj S x.L;unfold dS;simp only;split
      ·have h1:=EU (fun r => !(decide (r∈x.L))) ((bB S x.L).filter (dA x.lo x.hi));have h2:=EU (dA x.lo x.hi) (bB S x.L);rw [DS];unfold kW;rw [DS,GW];omega
      ·exact FN _
     have ln:lenL w=some (ak ms.length):=by rcases A3.sl with ⟨rfl,rfl⟩|⟨b,s,rfl,_⟩<;>rfl
     have K3:az h h3 (· = vb):=(O2.mono fun _ _ h=>h.elim).trans k3;have n2:=o2.next;have key : ∃ out:aS,t50 CV (ptr vb 0) (mV m) h=out /\ ∃ w ms h',out=some (.tuple #[w,.int .i64 0],h')/\az h h' (· = vb)/\zW h' vb (bB S x.L)/\yu h' h.next w ms ((dS (bB S x.L) x).map (gF x.to x.frm)):=by
      refine ⟨_,rfl,?_⟩;unfold t50;simp -implicitDefEqProofs only [b1,kF,ay,DG,l0,k4,DB n4,sP,bt,aw,ax,DD,D3,DY,k5,DA q5,M.l42,hlr,jo x.L.length 64 64 rfl,DB q64,e2,aT,DN,M2.all,e3,ln,ae,af];refine bq (Q:=fun o:aS => ∃ w ms h',o=some (.tuple #[w,.int .i64 0],h')/\az h h' (· = vb)/\zW h' vb (bB S x.L)/\yu h' h.next w ms ((dS (bB S x.L) x).map (gF x.to x.frm))) (rep_loop (C:=CV) A3 (by rw [k3.n0];exact h2.n0_le_next) hd (k3.getE (aA.get o2 g1) (by omega)) (mb:=h.next) (by omega) hlen rfl rfl rfl rfl) ?_;rintro ex z g ⟨rfl,z6,K,A'⟩;simp -implicitDefEqProofs only [aV,b50_10f,vO];unfold tS;simp -implicitDefEqProofs only [z6,ae];rw [X.to,X.frm] at A';have n3:=k3.next;refine ⟨w,ms.map (iN x.to x.frm),g,rfl,K3.also K (fun d hd q=>by have:=q.2;omega),?_,?_⟩
      ·obtain ⟨va,gv,rv,nv⟩:=I3.ex;refine ⟨by rw [K.n0];exact I3.n0,⟨va,K.getE gv (fun q=>by have:=q.2;omega),?_,nv⟩,I3.vld,I3.ks⟩;obtain ⟨hd',a,d,ea,hn',ht',h0⟩:=rv;refine ⟨hd',a,d,ea,hn',ht',fun hp => ?_⟩;obtain ⟨b,off,s,qq,eb,hk,hl,hcs⟩:=h0 hp;refine ⟨b,off,s,qq,eb,K.getE hk (fun q => ?_),hl,hcs⟩;refine sep b q.1 va gv ?_;rw [ea,eb];cases hm:(bB S x.L).length with
       |zero=>omega
       |succ n=>rfl
      ·refine ⟨?_,A'.len,A'.is,fun i hi hi'=>(A'.own i hi hi').weak O2.next⟩;rcases A'.sl with q|⟨b,s,q1,q2,q3,q4⟩
       ·exact .inl q
       ·exact .inr ⟨b,s,q1,q2,D5 O2.next q3,q4⟩
     obtain ⟨q,e,w',ms',h',e',oo⟩:=key;exact ⟨w',ms',h',iv is50 hG (by decide) (by decide) ((xR _ _ _ _).trans (e.trans e')),oo⟩
  ·have er:fo S x=(S,[],2):=by unfold fo;rw [DM q1,DM (fun q=>q5 q.1),DM (fun q=>q5 q.1)]
   rw [er];refine ⟨.slice none 0 0,[],h1,iv is50 hG (by decide) (by decide) ((xR _ _ _ _).trans ?_),o1.mono (fun _ _ h=>h.elim),I.old o1,nilAns _ _⟩;unfold t50;by_cases q4:x.kind=4
   ·have qc : ¬0<=x.cnt:=fun q=>q1 ⟨q4,q⟩;simp -implicitDefEqProofs only [b1,kF,ay,DG,l0,k4,DA q4,sP,bt,aw,ax,l9,ge0,DB qc,DD,D3,DY,k5,DB q5,ae,af]
   ·simp -implicitDefEqProofs only [b1,kF,ay,DG,l0,k4,DB q4,sP,ax,DD,D3,k5,DB q5,ae,af]
theorem is58:bP prog 37 f37:=by constructor<;>kernel_rfl
theorem is21:bP prog 32 f32:=by constructor<;>kernel_rfl
theorem is18:bP prog 35 f35:=by constructor<;>kernel_rfl
theorem b21_4e (C:aj) (e:aW) (h:ad):b21_4 C 0 e h=k21_2 C e h:=rfl
theorem geq_by (a b:List Nat):aC prog .geq 9 (.string (cz a)) (.string (cz b))=some (.bool (decide (0<=compareBytes (a.map UInt8.ofNat) (b.map UInt8.ofNat)))):=by
 have hl : ∀ l:List Nat,(cz l).toList=l.map UInt8.ofNat:=fun l=>H5 _;rw [geq_str,xw,hl,hl]
 congr 2
 by_cases h:compareBytes (a.map UInt8.ofNat) (b.map UInt8.ofNat)<0
 ·rw [DA h,DB (by omega)];rfl
 ·rw [DB h,DA (by omega)];rfl
theorem lss_by (a b:List Nat):aC prog .lss 9 (.string (cz a)) (.string (cz b))=some (.bool (decide (compareBytes (a.map UInt8.ofNat) (b.map UInt8.ofNat)<0))):=by have hl : ∀ l:List Nat,(cz l).toList=l.map UInt8.ofNat:=fun l=>H5 _;rw [lss_str,xw,hl,hl]
theorem r58 {h:ad} (hG:4<=h.n0) {r:ao} {al ah:Option Addr} {nl cl nh ch:Nat} {lo hi:List Nat} (hlo:av al nl h=some lo) (hhi:av ah nh h=some hi) :
  CW 37 [.string (cz (dx r)),.slice al nl cl,.slice ah nh ch] h=some (.bool (dA lo hi r),h):=by
 have c1:=jj (c:=cl) hlo;have c2:=jj (c:=ch) hhi;have hlen:=(aK hhi).1;have g1:aC prog .geq 9 (.string (cz (dx r))) (.string (cz lo))=some (.bool (decide (0<=jF r lo))):=geq_by _ _;have g2:aC prog .lss 9 (.string (cz (dx r))) (.string (cz hi))=some (.bool (decide (jF r hi<0))):=lss_by _ _;have ln:lenL (.slice ah nh ch)=some (ak nh):=rfl;have e0:aC prog .eql 3 (ak nh) (.int .i64 0)=some (.bool (decide (hi = []))):=by
  rw [show (Value.int .i64 0)=ak 0 from rfl];unfold ak;rw [eqI]
  congr 2
  rw [HQ,<-List.length_eq_zero_iff];omega
 refine aD is58 hG rfl ((t58_eq _ _ _ _ _).trans ?_);unfold t58 dA;simp -implicitDefEqProofs only [c1,g1,ae,af];by_cases h1:0<=jF r lo
 ·by_cases h2:hi = []
  ·simp -implicitDefEqProofs only [DA h1,bt,vU,aw,ax,ln,e0,DA h2,DY,ae,af];rfl
  ·simp -implicitDefEqProofs only [DA h1,bt,bf,aw,ln,e0,DB h2,c2,g2,DY,DD,D3,ae,af];rfl
 ·simp -implicitDefEqProofs only [DB h1, sP, bu, ax, DD, D3, ae];rfl
set_option maxRecDepth 100000 in
theorem r21 {h:ad} (hG:4<=h.n0) {v:Value} {R:List ao} (hv:jK h v R) (hR:R.length<=100000) {al ah:Option Addr} {nl cl nh ch:Nat} {lo hi:List Nat} (hlo:av al nl h=some lo) (hhi:av ah nh h=some hi) :
  ∃ w h',CW 32 [v,.slice al nl cl,.slice ah nh ch] h=some (w,h')/\aA h h'/\cy h' h.next w (R.filter (dA lo hi)):=by
 have hll:=hv.len;have b0:=tg h;have o1:aA h (h.alloc []):=az.alloc _ _ _;have r0:cy (h.alloc []) h.next (.slice (some ⟨h.next,0,none⟩) 0 0) []:=⟨(fun _ h=>by cases h),h.next,none,rfl,by rw [ad.aF,DL rfl];rfl,DF _,.inl ⟨rfl,rfl⟩⟩
 generalize h.alloc []=h1 at *;generalize Value.slice (some ⟨h.next,0,none⟩) 0 0=w0 at *;have key : ∃ q:aS,t21 CW v (.slice al nl cl) (.slice ah nh ch) h=q /\ ∃ w h',q=some (w,h')/\aA h h'/\cy h' h.next w (R.filter (dA lo hi)):=by
  refine ⟨_,rfl,?_⟩;unfold t21;simp -implicitDefEqProofs only [b0, ae];refine bq (n:=32) (fin:=fun ex y g=>ex = .exit 0/\aA h g/\cy g h.next (y 7) (R.filter (dA lo hi)))
   (Q:=fun q:aS => ∃ w h',q=some (w,h')/\aA h h'/\cy h' h.next w (R.filter (dA lo hi)))
   (bk (wR CW) (Inv:=fun k y g => ∃ i,i+k=R.length/\y 0=v/\y 1 = .slice al nl cl/\y 2 = .slice ah nh ch/\y 8=ak i/\aA h g/\cy g h.next (y 7) ((R.take i).filter (dA lo hi))) ?_ R.length (by have:aB=18446744073709551616:=rfl;omega) ⟨0,by omega,rfl,rfl,rfl,rfl,o1,by rw [List.take_zero];exact r0⟩) ?_
  ·rintro k y g ⟨i,hik,y0,y1,y2,y8,Og,rl⟩;unfold nW;simp -implicitDefEqProofs only [y0,y8,hll,eK,ae,af];by_cases hi':i<R.length
   ·obtain ⟨b,oo,ix,wr,ld⟩:=hv.rd hi';obtain ⟨g1,e1,q1⟩:=r59 (h:=g) (by rw [Og.n0];exact hG) wr;have O1:=Og.trans q1;have e2:=r58 (h:=g1) (r:=R[i]) (cl:=cl) (ch:=ch) (by rw [O1.n0];exact hG) (aA.bytes O1 hlo) (aA.bytes O1 hhi);have a8:aC prog .add 3 (ak i) (.int .i64 1)=some (ak (i+1)):=dh (by omega);have ft:(R.take (i+1)).filter (dA lo hi)=(R.take i).filter (dA lo hi)++if dA lo hi R[i]=true then [R[i]] else []:=by rw [ES hi',GP,I6,List.filter_nil]
    have rl1:=rl.old q1;have hfl:=EU (dA lo hi) (R.take i);rw [DW] at hfl;cases hin:dA lo hi R[i] with
    |true=>
     rw [hin,DL rfl] at ft;rw [hin] at e2;have br:=xN wr g1;have o3:aA g1 (g1.alloc (bL R[i])):=az.alloc _ _ _;obtain ⟨w4,g4,e4,r4,k4⟩:=(rl1.old o3).push (c:=g1.next) (by rw [o3.n0,O1.n0];exact h.n0_le_next) (O1.trans o3).next wr (by omega) (by rw [ad.aF,DL rfl]);have O4:aA h g4:=aA.bx (O1.trans o3) k4 rl1.blk.1;simp -implicitDefEqProofs only [DA hi', y1, y2, ix, ld g Og, e1, e2, ld g1 O1, br, e4, a8, ae, af];exact cR.next (k-1) (by omega) ⟨i+1,by omega,y0,y1,y2,rfl,O4,by rw [ft];exact r4⟩
    |false=>
     rw [hin,DM (by decide),EN] at ft;rw [hin] at e2;simp -implicitDefEqProofs only [DA hi', y1, y2, ix, ld g Og, e1, e2, a8, ae, af];exact cR.next (k-1) (by omega) ⟨i+1,by omega,y0,y1,y2,rfl,O1,by rw [ft];exact rl1⟩
   ·have hE:i=R.length:=by omega
    rw [hE,E9] at rl;simp -implicitDefEqProofs only [DB hi'];exact cR.out 0 ⟨rfl,Og,rl⟩
  ·rintro ex z g ⟨rfl,Og,rl⟩;simp -implicitDefEqProofs only [aV,b21_4e,t21k21_2_eq];unfold zq;exact ⟨z 7,g,rfl,Og,rl⟩
 obtain ⟨q,e,w,h',e',oo⟩:=key;exact ⟨w,h',aD is21 hG rfl ((t21_eq _ _ _ _ _).trans (e.trans e')),oo⟩
theorem eqII (n:Int):aC prog .eql 3 (.int .i64 n) (.int .i64 n)=some (.bool true):=by rw [eqI,DA rfl]
theorem eqDD {d:List Nat} (w:ic d):aC prog .eql 36 (.agg (aY d).toArray) (.agg (aY d).toArray)=some (.bool true):=by rw [eqD35 w w,DA rfl]
theorem is22:bP prog 39 f39:=by constructor<;>kernel_rfl
theorem results18:f35.results.toList = [.cell 6 43]:=by kernel_rfl
theorem cy.gR {h:ad} {N:Nat} {v:Value} {L:List ao} (x:cy h N v L):gR v:=by
 obtain ⟨hw,b,s,rfl,g1,g2,g3⟩:=x;refine ⟨_,_,_,rfl,DF _,fun h0 b' o' s' e => ?_⟩;rcases g3 with ⟨q,_⟩|⟨_,rfl⟩
 ·rw [q] at h0;exact absurd h0 (F9 0)
 ·cases e;rfl
theorem Cx {h:ad} {a:Option Addr} {n c:Nat} {l:List Nat} (hl:av a n h=some l) (hn:n<=21000) : ∃ b s c' h',appendA 1 1 (.slice (some ⟨h.next,0,none⟩) 0 0) (.slice a n c) (h.alloc [])=some (.slice (some ⟨b,0,s⟩) n c',h')/\av (some ⟨b,0,s⟩) n h'=some l/\aA h h'/\h.next<=b/\b<h'.next:=by
 have hl1:av a n (h.alloc [])=some l:=jH hl fun _ _ hc=>ad.kA hc _;obtain ⟨b,s,c',g',e1,e2,e3,e4,e5,e6,e7⟩:=sS (g:=h.alloc []) (E:=h.next) (c:=c) h.n0_le_next hl1 hn;have hn1:(h.alloc []).next=h.next+1:=rfl;refine ⟨b,s,c',g',e1,e2,(az.alloc h [] _).trans ⟨e5,e6,fun d hd _=>e7 d hd⟩,?_,?_⟩
 ·rcases e4 with e4|⟨e4,_⟩<;>omega
 ·rcases e4 with e4|⟨e4,e8⟩<;>omega
set_option maxRecDepth 100000 in
theorem r18M {h:ad} (hG:4<=h.n0) (hr:GR h) (hz:GZ h) {v:Value} {R:List ao} (hv:jK h v R) (vl : ∀ r∈R,de r=true) (hR:R.length<=100000) {al ah:Option Addr} {nl cl nh ch:Nat} {lo hi:List Nat} (hlo:av al nl h=some lo) (hhi:av ah nh h=some hi) (hnl:nl<=20000) (hnh:nh<=20000) :
  ∃ m h',CW 35 [v,.slice al nl cl,.slice ah nh ch] h=some (mV m,h')/\aA h h'/\kH h' m (tM R lo hi):=by
 obtain ⟨h1,z1,o1,g1,n1⟩:=fresh zML h;obtain ⟨w2,h2,e2,o2,r2⟩:=r21 (h:=h1) (cl:=cl) (ch:=ch) (by rw [o1.n0];exact hG) (hv.mono o1) hR (aA.bytes o1 hlo) (aA.bytes o1 hhi);have O2:=o1.trans o2;obtain ⟨b3,s3,c3,h3,e3,p3,o3,l3,u3⟩:=Cx (c:=cl) (aA.bytes O2 hlo) (by omega);have O3:=O2.trans o3;obtain ⟨b4,s4,c4,h4,e4,p4,o4,l4,u4⟩:=Cx (c:=ch) (aA.bytes O3 hhi) (by omega);have O4:=O3.trans o4;have r4:=(r2.old o3).old o4;have hll:=r4.zY.rsl.len;have hfl:=EU (dA lo hi) R;obtain ⟨h5,e5,o5⟩:=r55 (R.filter (dA lo hi)).length (h:=h4) (by rw [O4.n0];exact hG) (hr.old O4) (hz.old O4) rfl (by omega) r4.zY.rsl r4.gR (fun r hr=>vl r (EW.1 hr).1);have O5:=O4.trans o5;have hd:=fw (R.filter (dA lo hi));have bs:=bld_sum (al:=some ⟨b3,0,s3⟩) (nl:=nl) (cl:=c3) (ah:=some ⟨b4,0,s4⟩) (nh:=nh) (ch:=c4) (n:=(R.filter (dA lo hi)).length) hd;have ok:=df (m:=AG (some ⟨b3,0,s3⟩) nl c3 (some ⟨b4,0,s4⟩) nh c4 (R.filter (dA lo hi)).length (cT (R.filter (dA lo hi)))) (MZ.mg ⟨rfl,rfl,rfl,rfl,rfl⟩ hd);obtain ⟨h6,e6,k6,g6,_,n6⟩:=aX (n:=116) (k':=mC (AG (some ⟨b3,0,s3⟩) nl c3 (some ⟨b4,0,s4⟩) nh c4 (R.filter (dA lo hi)).length (cT (R.filter (dA lo hi))))) (aA.get (((o2.trans o3).trans o4).trans o5) g1) (by rw [O5.n0];exact h.n0_le_next) rfl ok.1 ok.2.2;have O6:aA h h6:=aA.bx O5 k6 (DF _);have b3':=iY h2;have b4':=iY h3;refine ⟨AG (some ⟨b3,0,s3⟩) nl c3 (some ⟨b4,0,s4⟩) nh c4 (R.filter (dA lo hi)).length (cT (R.filter (dA lo hi))),h6,aD is18 hG rfl ((t18_eq _ _ _ _ _).trans ?_),O6,⟨rfl,rfl,rfl,rfl,rfl,rfl,hd,?_,?_,xU h6,MZ.mg ⟨rfl,rfl,rfl,rfl,rfl⟩ hd⟩⟩
 ·unfold t18;have z1':dB zML h=some (ptr h.next 0,h1):=z1;have bs':ei zML [(0,1,.int .u8 4),(7,1,.slice (some ⟨b3,0,s3⟩) nl c3),(8,1,.slice (some ⟨b4,0,s4⟩) nh c4),(9,1,ak (R.filter (dA lo hi)).length),(10,32,.agg (aY (cT (R.filter (dA lo hi)))).toArray)]=some (mV (AG (some ⟨b3,0,s3⟩) nl c3 (some ⟨b4,0,s4⟩) nh c4 (R.filter (dA lo hi)).length (cT (R.filter (dA lo hi))))):=bs;simp -implicitDefEqProofs only [z1',e2,b3',e3,b4',e4,hll,e5,bs',e6,ae,af];refine cX results18 agg42 siz42 (by decide) _ ?_;exact bc g6 ok.1 ok.2.1
 ·have q1:=o4.next;have q2:=o5.next;have q3:=o2.next;refine eF (aA.bytes (o4.trans o5) p3) fun y hy => ?_;cases hy;exact k6.get b3 (by omega) (fun q=>by have q:b3=h.next:=q;omega)
 ·have q2:=o5.next;have q3:=o2.next;have q4:=o3.next;refine eF (aA.bytes o5 p4) fun y hy => ?_;cases hy;exact k6.get b4 (by omega) (fun q=>by have q:b4=h.next:=q;omega)
theorem nq9 (a:ByteArray):aC prog .neq 9 (.string a) (.string a)=some (.bool false):=by unfold aC CQ;simp only [DY];unfold binA;simp only [ground,flat,FD,DY];have e:(binOp .neq 9 (.string a) (.string a))=pure (.bool (!(a.toList==a.toList))):=rfl;rw [e,D4];rfl
theorem nq31 (k:Nat):aC prog .neq 31 (.int .u8 (k:Int)) (.int .u8 (k:Int))=some (.bool false):=by rw [aZ];simp
theorem nq3z (n:Int):aC prog .neq 3 (.int .i64 n) (.int .i64 n)=some (.bool false):=by rw [aZ];simp
theorem nq4 (b:Bool):aC prog .neq 4 (.bool b) (.bool b)=some (.bool false):=by cases b<;>kernel_rfl
theorem nqDD {d:List Nat} (w:ic d):aC prog .neq 36 (.agg (aY d).toArray) (.agg (aY d).toArray)=some (.bool false):=by rw [nqD35 w w,DA rfl];rfl
theorem eq32z:aC prog .eql 32 (.int .u64 0) (.int .u64 0)=some (.bool true):=by kernel_rfl
theorem eq26z:aC prog .eql 26 (.int .i64 0) (.int .i64 0)=some (.bool true):=by kernel_rfl
structure MLz (h:ad) (b:Nat):Prop where
 l3:ld1 (ptr b 3) h=some (.int .u64 0,h)
 l4:ld1 (ptr b 4) h=some (.int .i64 0,h)
 l5:ld1 (ptr b 5) h=some (.int .i64 0,h)
 l6:ld1 (ptr b 6) h=some (.slice none 0 0,h)
 l44:cx 32 (ptr b 44) h=some (.agg (aY z32).toArray,h)
 l78:ld1 (ptr b 78) h=some (.int .i64 0,h)
 l112:ld1 (ptr b 112) h=some (.slice none 0 0,h)
 l113:ld1 (ptr b 113) h=some (.int .i64 0,h)
 l114:ld1 (ptr b 114) h=some (.slice none 0 0,h)
 l115:ld1 (ptr b 115) h=some (.int .i64 0,h)
theorem m_lz {h:ad} {b:Nat} {m:bM} (hr':MG m) (hz:MZ m) (g:h.get b=some (mC m)):MLz h b:=by
 have hr:=hr'.d32;have ok:=df hr';have d:=bm hr;obtain ⟨z3,z4,z5,z6,zt⟩:=hz;have tz : ∀ {j:Nat} {v:Value},([m.nt,.bool m.want]++mZ)[j]? = some v->([m.nt,.bool m.want]++m.tl)[j]? = some v:=fun e=>by rw [zt];exact e
 refine ⟨aU g (ri m (i:=3) (FZ some z3)) rfl,aU g (ri m (i:=4) (FZ some z4)) rfl,aU g (ri m (i:=5) (FZ some z5)) rfl,aU g (ri m (i:=6) (FZ some z6)) rfl,?_,aU g (yB hr (j:=36) (tz rfl)) rfl,aU g (yB hr (j:=70) (tz rfl)) rfl,aU g (yB hr (j:=71) (tz rfl)) rfl,aU g (yB hr (j:=72) (tz rfl)) rfl,aU g (yB hr (j:=73) (tz rfl)) rfl⟩;have e:((mC m).drop 44).take 32=aY z32:=by unfold mC;rw [show 44=10+(32+2) from rfl,<-List.drop_drop,GF (by rfl),<-List.drop_drop,GF d.1,zt];rfl
 have:=nT (o:=44) (n:=32) g (by rw [ok.1];decide) (by rw [e];rfl);rw [e] at this;exact this
set_option maxRecDepth 100000 in
set_option maxHeartbeats 2000000 in
theorem r22 {h:ad} (hG:4<=h.n0) {m n:bM} {x:AM} (M:kH h m x) (N:kH h n x) (hmz:MZ m) (hl:x.L.length<=1000000) : ∃ h',CW 39 [mV m,mV n] h=some (.bool true,h')/\aA h h':=by
 have dm:MG m:=M.mg;have dn:MG n:=N.mg;have okm:=df dm;have okn:=df dn;have b1:box (mV m) h=some (ptr h.next 0,h.alloc (mC m)):=dG h _ okm.2.2;have o1:aA h (h.alloc (mC m)):=az.alloc _ _ _;have g1:(h.alloc (mC m)).get h.next=some (mC m):=by rw [ad.aF,DL rfl]
 generalize h.alloc (mC m)=h1 at *;have b2:box (mV n) h1=some (ptr h1.next 0,h1.alloc (mC n)):=dG h1 _ okn.2.2;have o2:aA h1 (h1.alloc (mC n)):=az.alloc _ _ _;have g2:(h1.alloc (mC n)).get h1.next=some (mC n):=by rw [ad.aF,DL rfl]
 generalize h1.alloc (mC n)=h2 at *;have O2:=o1.trans o2;have A:=gU dm (aA.get o2 g1);have B:=gU dn g2;have Z:=m_lz dm hmz (aA.get o2 g1);have a0:=A.l0;have a1:=A.l1;have a2:=A.l2;have a9:=A.l9;have a10:=A.l10;have a43:=A.l43;have c0:=B.l0;have c1:=B.l1;have c2:=B.l2;have c9:=B.l9;have c10:=B.l10;have c43:=B.l43;rw [M.kind] at a0;rw [M.frm] at a1;rw [M.to] at a2;rw [M.cnt] at a9;rw [M.root] at a10;rw [M.want] at a43;rw [N.kind] at c0;rw [N.frm] at c1;rw [N.to] at c2;rw [N.cnt] at c9;rw [N.root] at c10;rw [N.want] at c43;have s1:pX m.lo h2=some (.string (cz x.lo),h2):=jj (aA.bytes O2 M.lo);have s2:pX m.hi h2=some (.string (cz x.hi),h2):=jj (aA.bytes O2 M.hi);have s3:pX n.lo h2=some (.string (cz x.lo),h2):=jj (aA.bytes O2 N.lo);have s4:pX n.hi h2=some (.string (cz x.hi),h2):=jj (aA.bytes O2 N.hi);have e19:=r19 (h:=h2) (by rw [O2.n0];exact hG) (M.rs.mono O2).rsl (N.rs.mono O2).rsl hl;rw [DA rfl] at e19;have ln:lenL (.slice none 0 0)=some (ak 0):=rfl;have eq0:aC prog .eql 3 (ak 0) (.int .i64 0)=some (.bool true):=eqII 0;have bz:ei (List.replicate 32 (.int .u8 0)) []=some (.agg (aY z32).toArray):=rfl;refine ⟨h2,aD is22 hG rfl ((t22_eq _ _ _ _).trans ?_),O2⟩;unfold t22;simp -implicitDefEqProofs only [b1,b2,ay,DG,a0,c0,nq31,bf,aw,DD,D3,a1,c1,nq3z,a2,c2,A.l7,B.l7,s1,s3,nq9,A.l8,B.l8,s2,s4,a9,c9,a10,c10,nqDD M.d32,a43,c43,nq4,A.l42,B.l42,e19,aT,DP,
  Z.l3,eq32z,bt,DY,Z.l4,eqII,Z.l5,Z.l6,ln,eq0,Z.l44,bz,eqDD yM,Nat.reduceAdd,Z.l78,Z.l112,Z.l113,Z.l114,Z.l115,eq26z,ae,af]
theorem r15E {h:ad} (hG:4<=h.n0) {v:Value} {L:List ao} (x:eD h v L) (vr:gz L=true) (hl:L.length<=500000) :
  ∃ vb h',CV 6 [v] h=some (.tuple #[ptr vb 0,.int .i64 2],h')/\zW h' vb []/\aA h h'/\h.next<=vb:=by
 have e1:=iy (f:=19) rfl (by decide) (r33 hG);have o1:aA h (h.alloc [.slice none 0 0]):=az.alloc _ _ _;have i1:zW (h.alloc [.slice none 0 0]) h.next []:=⟨h.n0_le_next,⟨.slice none 0 0,by rw [ad.aF,DL rfl],xU _,.inl rfl⟩,(fun _ h=>by cases h),.nil⟩
 generalize h.alloc [.slice none 0 0]=h1 at *;obtain ⟨v2,h2,e2,o2,r2⟩:=r26L (h:=h1) (by rw [o1.n0];exact hG) (x.mono o1) (by omega);have e2:=iy (f:=8) rfl (by decide) e2;have e3:=r25E (i1.old o2) r2.zY.rsl vr (by decide) hl;refine ⟨h.next,h2,iv is15 hG rfl (by decide) ((t15_eq _ _ _).trans ?_),i1.old o2,o1.trans o2,DF _⟩;unfold t15;simp -implicitDefEqProofs only [e1,kF,e2,e3,ae,af]
theorem isz38:bP prog 38 f38:=by constructor<;>kernel_rfl
theorem isz11:bP prog 11 f11:=by constructor<;>kernel_rfl
theorem resultsz38:f38.results.toList = [.tmp 4]:=by kernel_rfl
theorem bz38_3e (C:aj) (e:aW) (h:ad):bz38_3 C 0 e h=kz38_1 C e h:=rfl
theorem bz11_6e (C:aj) (e:aW) (h:ad):bz11_6 C 0 e h=kz11_4 C e h:=rfl
set_option maxRecDepth 100000 in
theorem rz38 {h:ad} (hG:4<=h.n0) {v:Value} {L:List ao} (hv:jK h v L) (hl:L.length<=1000000) {r:ao} (w:r.Wf) :
  ∃ h',CW 38 [cY r,v] h=some (.bool (decide (r∈L)),h')/\aA h h':=by
 have hll:=hv.len;obtain ⟨h1,b1,o1,g1,n1⟩:=cJ h w;have key : ∃ o:aS,tz38 CW (cY r) v h=o /\ ∃ (h':ad),o=some (.bool (decide (r∈L)),h')/\aA h h':=by
  refine ⟨_,rfl,?_⟩;unfold tz38;simp -implicitDefEqProofs only [b1, ae];refine bq (n:=18) (fin:=fun ex y g=>g=h1/\((ex = .exit 0 /\ ¬r∈L)\/(ex = .ret/\r∈L/\y 4 = .bool true))) (Q:=fun o:aS => ∃ (h':ad),o=some (.bool (decide (r∈L)),h')/\aA h h')
   (bk (wS CW) (Inv:=fun k y g => ∃ i,i+k=L.length/\y 1=v/\y 2=ptr h.next 0/\y 5=ak i/\g=h1 /\ ¬r∈L.take i) ?_ L.length (by have:aB=18446744073709551616:=rfl;omega) ⟨0,by omega,rfl,rfl,rfl,rfl,by simp⟩) ?_
  ·rintro k y g ⟨i,hik,y1,y2,y5,rfl,ha⟩;unfold nU;simp -implicitDefEqProofs only [y1,y5,hll,eK,ae,af];by_cases hi:i<L.length
   ·obtain ⟨b,o,ix,wr,lp⟩:=hv.rd hi;have L1:=lp g o1;have L2:=bc g1 (aM w).1 (aM w).2.1;by_cases he:L[i]=r
    ·simp -implicitDefEqProofs only [DA hi, y2, L2, ix, L1, pQ wr w, DA he, ae, af];exact cR.ret ⟨rfl,.inr ⟨rfl,he▸EA hi,rfl⟩⟩
    ·have a5:aC prog .add 3 (ak i) (.int .i64 1)=some (ak (i+1)):=dh (by omega);simp -implicitDefEqProofs only [DA hi, y2, L2, ix, L1, pQ wr w, DB he, a5, ae, af];refine cR.next (k-1) (by omega) ⟨i+1,by omega,y1,y2,rfl,rfl,fun q => ?_⟩;rw [ES hi,D9,EH] at q;rcases q with q|q
     ·exact ha q
     ·exact he q.symm
   ·have hiE:i=L.length:=by omega
    rw [hiE,E9] at ha;simp -implicitDefEqProofs only [DB hi];exact cR.out 0 ⟨rfl,.inl ⟨rfl,ha⟩⟩
  ·rintro ex z g ⟨rfl,⟨rfl,ha⟩|⟨rfl,ha,z4⟩⟩
   ·simp -implicitDefEqProofs only [aV,bz38_3e,B0];unfold vk;exact ⟨g,by rw [DB ha];rfl,o1⟩
   ·rw [fq,cE,gu resultsz38 (by decide),z4];exact ⟨g,by rw [DA ha],o1⟩
 obtain ⟨o9,e,h',e',q⟩:=key;exact ⟨h',aD isz38 hG rfl ((tz38_eq _ _ _ _).trans (e.trans e')),q⟩
structure MsL (h:ad) (v:Value) (ms:List bM) (xs:List AM):Prop where
 len:ms.length=xs.length
 ln:lenL v=some (ak ms.length)
 is : ∀ i (hi:i<ms.length) (hi':i<xs.length),kH h ms[i] xs[i]
 rd : ∀ i (hi:i<ms.length),∃ b o,idxS 116 v (ak i)=some (ptr b o) /\ ∀ g:ad,aA h g->cx 116 (ptr b o) g=some (mV ms[i],g)
set_option maxRecDepth 100000 in
theorem rz11 {h:ad} (hG:4<=h.n0) {v w:Value} {ms ns:List bM} {xs:List AM} (A:MsL h v ms xs) (B:MsL h w ns xs) (hz : ∀ m∈ms,MZ m) (hl:xs.length<=1000000) (hL : ∀ x∈xs,x.L.length<=1000000) :
  ∃ h',CW 11 [v,w] h=some (.bool true,h')/\aA h h':=by
 have la:=A.ln;have lb:=B.ln;have lab:ms.length=ns.length:=A.len.trans B.len.symm;have key : ∃ o:aS,tz11 CW v w h=o /\ ∃ (h':ad),o=some (.bool true,h')/\aA h h':=by
  refine ⟨_,rfl,?_⟩;unfold tz11;simp -implicitDefEqProofs only [la,lb,nq3,DA lab,DP,ae,af];refine bq (n:=27) (fin:=fun ex y g=>aA h g/\ex = .exit 0) (Q:=fun o:aS => ∃ (h':ad),o=some (.bool true,h')/\aA h h')
   (bk (vB CW) (Inv:=fun k y g => ∃ i,i+k=ms.length/\y 0=v/\y 1=w/\y 5=ak i/\aA h g) ?_ ms.length (by have:aB=18446744073709551616:=rfl;have:=A.len;omega) ⟨0,by omega,rfl,rfl,rfl,az.refl _ _⟩) ?_
  ·rintro k y g ⟨i,hik,y0,y1,y5,og⟩;unfold mK;simp -implicitDefEqProofs only [y0,y5,la,eK,ae,af];by_cases hi:i<ms.length
   ·have hi2:i<ns.length:=by omega
    have hi3:i<xs.length:=by rw [<-A.len];exact hi
    obtain ⟨b,o,ix,lp⟩:=A.rd i hi;obtain ⟨b',o',ix',lp'⟩:=B.rd i hi2;have L1:=lp g og;have L2:=lp' g og;obtain ⟨g2,e2,o2⟩:=r22 (h:=g) (by rw [og.n0];exact hG) ((A.is i hi hi3).old og) ((B.is i hi2 hi3).old og) (hz _ (EA hi)) (hL _ (EA hi3));have hm:ms.length<=1000000:=by rw [A.len];exact hl
    have a5:aC prog .add 3 (ak i) (.int .i64 1)=some (ak (i+1)):=dh (by omega);simp -implicitDefEqProofs only [DA hi, y1, ix, ix', L1, L2, e2, aT, DP, a5, ae, af];exact cR.next (k-1) (by omega) ⟨i+1,by omega,y0,y1,rfl,og.trans o2⟩
   ·simp -implicitDefEqProofs only [DB hi];exact cR.out 0 ⟨og,rfl⟩
  ·rintro ex z g ⟨og,rfl⟩;simp -implicitDefEqProofs only [aV,bz11_6e,Ca];unfold uX;exact ⟨g,rfl,og⟩
 obtain ⟨o9,e,h',e',q⟩:=key;exact ⟨h',aD isz11 hG rfl ((tz11_eq _ _ _ _).trans (e.trans e')),q⟩
structure MNb (b:Nat) (m:bM):Prop where
 lo:0<m.nl -> ∀ y,m.al=some y->y.block≠b
 hi:0<m.nh -> ∀ y,m.ah=some y->y.block≠b
 rs:slB m.nt≠some b
theorem BV {a:Option Addr} {n:Nat} {h:ad} {l:List Nat} (e:av a n h=some l) (hn:0<n) {y:Addr} (hy:a=some y):y.block<h.next:=by obtain ⟨_,_,s3⟩:=aK e;obtain ⟨b,off,s,k,rfl,hk,_⟩:=s3 hn;cases hy;exact h.aO hk
theorem eD.slb {h:ad} {v:Value} {L:List ao} (x:eD h v L) {b:Nat} (e:slB v=some b):b<h.next:=by
 obtain ⟨hd,a,d,rfl,hn,ht,h0⟩:=x;cases hL:L.length with
 |zero=>rw [hL] at e;cases a<;>cases e
 |succ n=>
  obtain ⟨b',off,s,k,rfl,hk,_⟩:=h0 (by omega);rw [hL] at e;cases e;exact h.aO hk
theorem MNb.of {g:ad} {m:bM} {x:AM} (X:kH g m x) {b:Nat} (hb:g.next<=b):MNb b m:=
 ⟨fun hn y hy=>by have:=BV X.lo hn hy;omega,fun hn y hy=>by have:=BV X.hi hn hy;omega,fun e=>by have:=X.rs.slb e;omega⟩
theorem kH.keepN {g g':ad} {m:bM} {x:AM} (X:kH g m x) {b:Nat} (k:az g g' (· = b)) (nb:MNb b m):kH g' m x:=
 ⟨X.kind,X.frm,X.to,X.cnt,X.root,X.want,X.d32,az.bytes k X.lo fun y hy hn q=>nb.lo hn y hy q,az.bytes k X.hi fun y hy hn q=>nb.hi hn y hy q,X.rs.keepS k nb.rs,X.mg⟩
structure jz (g:ad) (N:Nat) (w:Value) (ms:List bM) (xs:List AM):Prop where
 sl:eZ 116 g N w ms.length (lD ms)
 len:ms.length=xs.length
 is : ∀ i (h:i<ms.length) (h':i<xs.length),kH g ms[i] xs[i]
 nb : ∀ b,gK w=some b -> ∀ m∈ms,MNb b m
theorem jz.nil {g:ad} {N:Nat} {b:Nat} (gb:g.get b=some []) (hb:N<=b):jz g N (.slice (some ⟨b,0,none⟩) 0 0) [] []:=
 ⟨⟨rfl,rfl,rfl,.inr ⟨b,none,rfl,gb,hb,.inl ⟨rfl,rfl⟩⟩⟩,rfl,fun i h=>absurd h (E0 i),fun _ _ m hm=>by cases hm⟩
theorem jz.old {g g':ad} {N:Nat} {w:Value} {ms:List bM} {xs:List AM} (A:jz g N w ms xs) (o:aA g g'):jz g' N w ms xs:=
 ⟨A.sl.old o,A.len,fun i h h'=>(A.is i h h').old o,A.nb⟩
theorem jz.push {g:ad} {N:Nat} {w:Value} {ms:List bM} {xs:List AM} (A:jz g N w ms xs) {m:bM} {x:AM} (hn:g.n0<=N) (hN:N<=g.next) (hl:ms.length<=100000) (X:kH g m x) (nbm : ∀ b,gK w=some b->MNb b m) :
  ∃ w' g',appendA 116 352 w (.slice (some ⟨g.next,0,none⟩) 1 1) (g.alloc (mC m))=some (w',g')/\jz g' N w' (ms ++ [m]) (xs ++ [x])/\az g g' (fun b=>gK w=some b) /\ ∀ b,gK w'=some b->g.next<=b:=by
 have hd:MG m:=X.mg;have ok:=df hd;have o1:aA g (g.alloc (mC m)):=az.alloc _ _ _;have g1:(g.alloc (mC m)).get g.next=some (mC m):=by rw [ad.aF,DL rfl]
 have n1:(g.alloc (mC m)).next=g.next+1:=rfl;generalize g.alloc (mC m)=h1 at *;obtain ⟨w',g',e,G,k,hb,hn'⟩:=(A.sl.old o1).pushB (oC:=352) (by decide) (by decide) (by rw [o1.n0];exact hn) (by omega) (by omega) ok.1 ok.2.1 ok.2.2 g1;have K:az g g' (fun b=>gK w=some b):=(o1.mono fun _ _ h=>h.elim).trans k;have kp : ∀ {q:bM} {z:AM},kH g q z->(∀ b,gK w=some b->MNb b q)->kH g' q z:=fun {q z} I nb=>by
  cases hw:gK w with
  |none=>exact I.old (K.mono fun c _ e=>by rw [hw] at e;cases e)
  |some b=>exact I.keepN (K.mono fun c _ e=>by rw [hw] at e;cases e;rfl) (nb b hw)
 refine ⟨w',g',e,⟨by rw [DH,jh,xx];exact G,by rw [DH,DH,A.len];rfl,fun i hi hi' => ?_,fun b hb' q hq => ?_⟩,K,fun b hb'=>by rw [hb] at hb';cases hb';omega⟩
 ·by_cases hlt:i<ms.length
  ·have hlt':i<xs.length:=by rw [<-A.len];exact hlt
   rw [FP hlt,FP hlt'];exact kp (A.is i hlt hlt') fun b hb=>A.nb b hb _ (EA hlt)
  ·rw [DH,List.length_singleton] at hi;obtain rfl:i=ms.length:=by omega
   rw [FW (DF _),FW (by rw [A.len];exact DF _)];have e1 : ∀ (k:Nat) (hk:k < [m].length),[m][k]=m:=fun k hk=>by
    obtain rfl:k=0:=by have:k<1:=hk;omega
    rfl
   have e2 : ∀ (k:Nat) (hk:k < [x].length),[x][k]=x:=fun k hk=>by
    obtain rfl:k=0:=by have:k<1:=hk;omega
    rfl
   rw [e1,e2];exact kp X nbm
 ·rw [hb] at hb';cases hb';rcases D9.1 hq with h1|h1
  ·obtain ⟨i,hi,rfl⟩:=E5.1 h1;have hi':i<xs.length:=by rw [<-A.len];exact hi
   exact MNb.of (A.is i hi hi') (by omega)
  ·rw [EH.1 h1];exact MNb.of X (by omega)
theorem jz.msl {g:ad} {N:Nat} {w:Value} {ms:List bM} {xs:List AM} (A:jz g N w ms xs):MsL g w ms xs:=by
 have dr : ∀ q∈ms,MG q:=fun q hq=>by
  obtain ⟨i,hi,rfl⟩:=E5.1 hq;have hi':i<xs.length:=by rw [<-A.len];exact hi
  exact (A.is i hi hi').mg
 refine ⟨A.len,A.sl.lenL,A.is,fun i hi => ?_⟩;rcases A.sl.form with ⟨h0,_⟩|⟨b,s,rfl,gb,_⟩
 ·omega
 ·have hlt:(ms.take i).length=i:=by rw [DW];omega
  have l1:(lD (ms.take i)).length=i*116:=by rw [tC fun q hq=>dr q (EZ hq),hlt]
  have ok:=df (dr _ (EA hi));have split:lD ms=lD (ms.take i)++(mC ms[i]++lD (ms.drop (i+1))):=by
   have e:ms.take i++ms.drop i=ms:=EL i ms;rw [EX hi] at e
   calc lD ms=lD (ms.take i++ms[i]::ms.drop (i+1)):=by rw [e]
    _=_:=by rw [jh];rfl
  refine ⟨b,i*116,?_,fun q oq => ?_⟩
  ·unfold idxS ak;simp only;rw [DL (by omega),Int.toNat_natCast,DG]
  ·have gq:=aA.get oq gb;have ec:((lD ms).drop (i*116)).take 116=mC ms[i]:=by rw [split,GF l1,HC ok.1]
   have:=nT (o:=i*116) (n:=116) gq (by rw [split,DH,DH,l1,ok.1];omega) (by rw [ec];exact ok.2.1);rw [ec] at this;exact this
set_option maxRecDepth 100000 in
theorem dc_loop {C:aj} {g0:ad} {N:Nat} {w:Value} {ms:List bM} {xs:List AM} (A:jz g0 N w ms xs) (hN:g0.n0<=N) {mb:Nat} {m:bM} (hm:MG m) (gm:g0.get mb=some (mC m)) (hmb:mb<N) (hl:ms.length<=1000000)
  {x:Nat->Value} (x3:x 3=ptr mb 0) (x7:x 7=w) (x15:x 15=ak 0) :
  Fin 206 (fun ex y g=>ex = .exit 7/\y 0=x 0/\y 7=w/\az g0 g (fun b=>gK w=some b/\N<=b)/\jz g N w (ms.map (iN m.to m.frm)) (xs.map (gF m.to m.frm))) (iter (codeA prog C (au f10 [1,1,1,1,0,1,0,0])) aB (aL 206 x) g0):=by
 have dr : ∀ q∈ms,MG q:=fun q hq=>by
  obtain ⟨i,hi,rfl⟩:=E5.1 hq;have hi':i<xs.length:=by rw [<-A.len];exact hi
  exact (A.is i hi hi').mg
 have mgE : ∀ {q:bM},MG q->MG (iN m.to m.frm q):=fun h=>⟨h.d32,h.h4,h.o4,h.tl,h.ht,h.ot⟩
 have lw:=A.sl.lenL;rcases A.sl.form with ⟨h0,rfl⟩|⟨b,s,rfl,gb,hb,hs⟩
 ·obtain rfl:ms = []:=DU.1 h0;obtain rfl:xs = []:=DU.1 A.len.symm;refine bk (kO C) (Inv:=fun k y g=>g=g0/\y 0=x 0/\y 7 = .slice none 0 0/\y 15=ak 0) ?_ 0 (by have:aB=18446744073709551616:=rfl;omega) ⟨rfl,rfl,x7,x15⟩;rintro k y g ⟨rfl,y0,y7,y15⟩;unfold gN;simp -implicitDefEqProofs only [y7,y15,lw,List.length_nil,eK,DB (F9 0),ae,af];exact cR.out 7 ⟨rfl,y0,y7,az.refl _ _,A⟩
 ·have nb:g0.n0<=b:=D5 hN hb;refine bk (kO C) (Inv:=fun k y g => ∃ i,i+k=ms.length/\y 0=x 0/\y 3=ptr mb 0/\y 7 = .slice (some ⟨b,0,s⟩) ms.length ms.length/\y 15=ak i/\az g0 g (· = b)/\g.get b=some (lD ((ms.take i).map (iN m.to m.frm)++ms.drop i))) ?_ ms.length (by have:aB=18446744073709551616:=rfl;omega) ⟨0,by omega,rfl,x3,x7,x15,az.refl _ _,by rw [List.take_zero,HH,List.nil_append,EJ];exact gb⟩;rintro k y g ⟨i,hik,y0,y3,y7,y15,K,gg⟩;unfold gN;simp -implicitDefEqProofs only [y7,y15,lw,eK,ae,af];by_cases hi:i<ms.length
  ·have hmb':mb≠b:=by omega
   have M0:=gU hm (K.getE gm hmb');have hlt:(ms.take i).length=i:=by rw [DW];omega
   have dl : ∀ q∈(ms.take i).map (iN m.to m.frm),MG q:=fun q hq=>by obtain ⟨q',hq',rfl⟩:=E2.1 hq;exact mgE (dr q' (EZ hq'))
   have l1:(lD ((ms.take i).map (iN m.to m.frm))).length=i*116:=by rw [tC dl,DS,hlt]
   have di:=dr _ (EA hi);have lm:=(df di).1;have split:lD ((ms.take i).map (iN m.to m.frm)++ms.drop i)=lD ((ms.take i).map (iN m.to m.frm))++(mC ms[i]++lD (ms.drop (i+1))):=by rw [jh,EX hi];rfl
   rw [split] at gg;have ix:idxS 116 (.slice (some ⟨b,0,s⟩) ms.length ms.length) (ak i)=some (ptr b (i*116)):=by unfold idxS ak;simp only;rw [DL (by omega),Int.toNat_natCast,DG]
   have nb':g.n0<=b:=by rw [K.n0];exact nb
   obtain ⟨g2,e2,k2,q2,_,_⟩:=stored (o:=i*116+1) (v := .int .i64 m.to) gg nb' (by rw [DH,DH,l1,lm];omega) rfl rfl;rw [tO l1 (by omega)] at q2;have K2:=K.trans k2;have M2:=gU hm (K2.getE gm hmb');obtain ⟨g3,e3,k3,q3,_,_⟩:=stored (o:=i*116+2) (v := .int .i64 m.frm) q2 (by rw [k2.n0];exact nb') (by rw [DH,DH,l1,HA,lm];omega) rfl rfl;rw [tO l1 (by rw [HA];omega),mC_ends] at q3;have K3:=K2.trans k3;have a15:aC prog .add 3 (ak i) (.int .i64 1)=some (ak (i+1)):=dh (by omega);have ck:bF true (some (.int .i64 m.frm,g2)) (.int .i64 m.frm)=true:=ze ..;simp -implicitDefEqProofs only [DA hi, y3, ay, DG, M0.l2, M0.l1, ix, e2, e3, M2.l1, ck, DV, a15, ae, af];refine cR.next (k-1) (by omega) ⟨i+1,by omega,y0,y3,y7,rfl,K3,?_⟩;rw [q3,ES hi,FG,jh,jh,EC]
   congr 2
   rw [FL,HH,xx]
  ·have hE:i=ms.length:=by omega
   subst hE;rw [E9,I7,EN] at gg;simp -implicitDefEqProofs only [DB hi];refine cR.out 7 ⟨rfl,y0,y7,K.mono (fun c _ q=>by have q:c=b:=q;subst q;exact ⟨rfl,hb⟩),?_⟩
   have dl : ∀ q∈ms.map (iN m.to m.frm),MG q:=fun q hq=>by obtain ⟨q',hq',rfl⟩:=E2.1 hq;exact mgE (dr q' hq')
   have okC : ∀ l:List bM,(∀ q∈l,MG q)->Abs.noHoles (lD l)=true/\aJ (lD l)=true:=fun l hl=>by
    unfold lD Abs.noHoles aJ;constructor
    ·rw [List.all_flatMap,DT];exact fun q hq=>(df (hl q hq)).2.1
    ·rw [List.all_flatMap,DT];exact fun q hq=>(df (hl q hq)).2.2
   have oc:=okC _ dl;refine ⟨⟨by rw [tC dl,DS],oc.1,oc.2,.inr ⟨b,s,by rw [DS],gg,hb,by rw [DS];exact hs⟩⟩,by rw [DS,DS,A.len],fun j hj hj' => ?_,fun c hc q hq => ?_⟩
   ·rw [DS] at hj hj';have I:=(A.is j hj hj').keepN K (A.nb b rfl _ (EA hj));rw [GS,GS];exact ⟨I.kind,rfl,rfl,I.cnt,I.root,I.want,I.d32,I.lo,I.hi,I.rs,mgE I.mg⟩
   ·obtain ⟨q',hq',rfl⟩:=E2.1 hq;have n:=A.nb c hc q' hq';exact ⟨n.lo,n.hi,n.rs⟩
theorem slR_lo0 (z:Nat) (v:Value) (hi:Option Value):iw z v none hi none=iw z v (some (ak 0)) hi none:=by
 have e : ∀ len cap,boundsA len cap none hi none=boundsA len cap (some (ak 0)) hi none:=fun len cap=>by
  have e0 : ∀ h,boundA 0 h (some (ak 0))=boundA 0 h none:=fun h=>by unfold boundA ak;simp
  unfold boundsA;simp only [e0]
 unfold iw sliceSl;simp only [e]
theorem slR_hi (z:Nat) {a:Option Addr} {n c:Nat} (lo:Option Value) (hc:n<=c):iw z (.slice a n c) lo none none=iw z (.slice a n c) lo (some (ak n)) none:=by
 have e:boundsA n c lo none none=boundsA n c lo (some (ak n)) none:=by
  have e0:boundA n c (some (ak n))=boundA n c none:=by unfold boundA ak;simp [hc]
  have e1:boundA c c none=some c:=rfl;unfold boundsA;simp only [e1,e0]
 unfold iw sliceSl;rcases a with _|⟨b,o,_|s⟩<;>simp only [e]
theorem slR_gsB {z:Nat} {v w:Value} {lo hi:Option Value} {b:Nat} (e:iw z v lo hi none=some w) (g:gK w=some b) (hv : ∃ a n c,v = .slice a n c):gK v=some b:=by
 obtain ⟨a,n,c,rfl⟩:=hv;unfold iw sliceSl at e;rcases a with _|⟨b',o,s⟩
 ·simp only at e;split at e
  ·cases e;cases g
  ·cases e
 ·cases s with
  |none=>
   simp only at e;split at e
   ·cases e;exact g
   ·cases e
  |some s=>
   simp only at e;split at e
   ·split at e
    ·cases e;exact g
    ·split at e
     ·cases e;exact g
     ·cases e
   ·cases e
theorem C7 {v:Value} {b:Nat} (e:slB v=some b):gK v=some b:=by
 unfold slB at e;split at e
 ·cases e;rfl
 ·cases e
theorem eD.form {h:ad} {v:Value} {L:List ao} (x:eD h v L) : ∃ a c,v = .slice a L.length c:=by obtain ⟨hd,a,d,rfl,_⟩:=x;exact ⟨a,d,rfl⟩
theorem dv.le {a:Option Addr} {n c:Nat} (x:dv (.slice a n c)):n<=c:=by
 rcases x with e|⟨a',n',c',e,hc,_⟩
 ·cases e;exact DF _
 ·cases e;exact hc
theorem cy.dv {h:ad} {N:Nat} {v:Value} {L:List ao} (x:cy h N v L):Go.Proofs.YtdnahgfgoajmcaaGreatDoor.dv v:=by
 obtain ⟨_,b,s,rfl,_,_,q⟩:=x;refine .inr ⟨_,_,_,rfl,DF _,fun t ht => ?_⟩;rcases q with ⟨_,rfl⟩|⟨_,rfl⟩
 ·cases ht
 ·cases ht;rfl
set_option maxRecDepth 100000 in
theorem bld_it0 {al:Option Addr} {nl cl:Nat} {ah:Option Addr} {nh ch:Nat} {ar:Option Addr} {nr cr:Nat}:ei zML [(0,1,.int .u8 5),(7,1,.slice al nl cl),(8,1,.slice ah nh ch),(42,1,.slice ar nr cr)]=some (mV (mk0 5 0 0 al nl cl ah nh ch 0 z32 ar nr cr false)):=rfl
theorem Bj {g:ad} {m:bM} {x:AM} (X:kH g m x) {ar:Option Addr} {nr cr:Nat} {L:List ao} (r:eD g (.slice ar nr cr) L) (w:Bool):kH g (mk0 5 0 0 m.al m.nl m.cl m.ah m.nh m.ch 0 z32 ar nr cr w) (dU x.lo x.hi L w):=
 ⟨rfl,rfl,rfl,rfl,rfl,rfl,z32_d,X.lo,X.hi,r,MZ.mg ⟨rfl,rfl,rfl,rfl,rfl⟩ z32_d⟩
set_option maxRecDepth 100000 in
theorem rest_loop {h1 h:ad} (hG:4<=h1.n0) (O1:aA h1 h) {mb:Nat} {m:bM} {a:AM} (X:kH h1 m a) (gm:h1.get mb=some (mC m)) {N:Nat} (h0:h.n0<=N) (hN:N<=h.next) (hN1:h1.next<=N) {l:List ao} {lv:Value} {NL:Nat} (hl:cy h NL lv l) (hll:l.length<=100000) (hL:a.L.length<=100000)
  {x:Nat->Value} (x3:x 3=ptr mb 0) (x12:x 12=lv) (x13:x 13=ak 0) (r0:cy h N (x 11) []) :
  Fin 206 (fun ex y g=>ex = .exit 3/\y 0=x 0/\y 3=ptr mb 0/\y 7=x 7/\az h g (fun b=>N<=b)/\aA h1 g/\cy g N (y 11) (if a.want=true then l.filter (fun r => !(decide (r∈a.L))) else [])) (iter (codeA prog CW (au f10 [1,1,1,0,1,1,1,1,1,1,1,0,1,0,0])) aB (aL 206 x) h):=by
 have hlen:=hl.zY.rsl.len;have hm:=X.mg;refine bk (kX CW) (Inv:=fun k y g => ∃ i,i+k=l.length/\y 0=x 0/\y 3=ptr mb 0/\y 7=x 7/\y 12=lv/\y 13=ak i/\az h g (fun b=>N<=b)/\aA h1 g/\(a.want=true\/i=0)/\cy g NL lv l/\cy g N (y 11) ((l.take i).filter (fun r => !(decide (r∈a.L))))) ?_ l.length (by have:aB=18446744073709551616:=rfl;omega) ⟨0,by omega,rfl,x3,rfl,x12,x13,az.refl _ _,O1,.inr rfl,hl,r0⟩;rintro k y g ⟨i,hik,y0,y3,y7,y12,y13,K,Og,hw,lg,rl⟩;unfold fl;have M:=gU hm (aA.get Og gm);have l43:=M.l43;rw [X.want] at l43;simp -implicitDefEqProofs only [y12,y13,hlen,eK,ae,af];by_cases hi:i<l.length
 ·cases hwant:a.want with
  |false=>
   obtain rfl:i=0:=by
    rcases hw with h|h
    ·rw [hwant] at h;cases h
    ·exact h
   rw [hwant] at l43;simp -implicitDefEqProofs only [DA hi,bt,aw,y3,ay,DG,l43,DY,ae,af];exact cR.out 3 ⟨rfl,y0,y3,y7,K,Og,by rw [DM HW];exact rl⟩
  |true=>
   rw [hwant] at l43;obtain ⟨b,oo,ix,wr,ld⟩:=lg.zY.rsl.rd hi;obtain ⟨g2,e2,o2⟩:=rz38 (h:=g) (by rw [Og.n0];exact hG) (X.rs.mono Og).rsl (by omega) wr;have a13:aC prog .add 3 (ak i) (.int .i64 1)=some (ak (i+1)):=dh (by omega);have ft:(l.take (i+1)).filter (fun r => !(decide (r∈a.L)))=(l.take i).filter (fun r => !(decide (r∈a.L)))++if decide (l[i]∈a.L)=false then [l[i]] else []:=by rw [ES hi,GP,I6,List.filter_nil];cases decide (l[i]∈a.L)<;>rfl
   have hfl:=EU (fun r => !(decide (r∈a.L))) (l.take i);rw [DW] at hfl;have rl1:=rl.old o2;have K2:az h g2 (fun b=>N<=b):=K.trans (o2.mono fun _ _ h=>h.elim);cases hin:decide (l[i]∈a.L) with
   |true=>
    rw [hin] at e2;rw [hin,DM (by decide),EN] at ft;simp -implicitDefEqProofs only [DA hi, bt, aw, y3, ay, DG, l43, M.l42, DY, ix, ld g (az.refl _ _), e2, aT, DP, a13, ae, af];exact cR.next (k-1) (by omega) ⟨i+1,by omega,y0,y3,y7,y12,rfl,K2,Og.trans o2,.inl trivial,lg.old o2,by rw [ft];exact rl1⟩
   |false=>
    rw [hin] at e2;rw [hin,DL rfl] at ft;have br:=xN wr g2;have o3:aA g2 (g2.alloc (bL l[i])):=az.alloc _ _ _;have n0g:g2.n0=h.n0:=K2.n0;obtain ⟨w4,g4,e4,r4,k4⟩:=(rl1.old o3).push (c:=g2.next) (by rw [o3.n0,n0g];exact h0) (by have:=K2.next;have:=o3.next;omega) wr (by omega) (by rw [ad.aF,DL rfl]);have nb4:=(rl1.blk).1;have k4':=k4;have K4:az h g4 (fun b=>N<=b):=(K2.trans (o3.mono fun _ _ h=>h.elim)).trans (k4.mono fun c _ q=>by have q:c=_:=q;omega)
    have O4:aA h1 g4:=aA.bx ((Og.trans o2).trans o3) k4 (D5 hN1 nb4);have lg4:cy g4 NL lv l:=((lg.old o2).old o3).keep k4 fun q=>by
     have q:rlB lv=rlB (y 11):=q;have q1:=lg.blk.2;have q2:=rl.blk.2;rw [q,q2] at q1;injection q1 with q1
     have q1:=FZ List.length q1;rw [cf rl.1,cf lg.1] at q1;omega
    simp -implicitDefEqProofs only [DA hi, bt, aw, y3, ay, DG, l43, M.l42, DY, ix, ld g (az.refl _ _), ld g2 o2, e2, aT, DN, br, e4, a13, ae, af];exact cR.next (k-1) (by omega) ⟨i+1,by omega,y0,y3,y7,y12,rfl,K4,O4,.inl trivial,lg4,by rw [ft];exact r4⟩
 ·have hE:i=l.length:=by omega
  rw [hE,E9] at rl;simp -implicitDefEqProofs only [DB hi, sP, ax, DD, D3, ae];refine cR.out 3 ⟨rfl,y0,y3,y7,K,Og,?_⟩;rcases hw with h|h
  ·rw [DL h];exact rl
  ·have:l = []:=DU.1 (by omega);subst this;by_cases hw:a.want=true
   ·rw [DL hw];exact rl
   ·rw [DM hw];exact rl
theorem eD.keepG {g g':ad} {v w:Value} {L:List ao} (x:eD g v L) (k:az g g' (fun b=>gK w=some b)) (h : ∀ b,gK w=some b->gK v≠some b):eD g' v L:=by
 cases hw:gK w with
 |none=>exact x.mono (k.mono fun c _ e=>by rw [hw] at e;cases e)
 |some b=>exact x.keepS (k.mono fun c _ e=>by rw [hw] at e;cases e;rfl) fun e=>h b hw (C7 e)
set_option maxRecDepth 100000 in
set_option maxHeartbeats 1000000 in
theorem part_loop {C:aj} {h1 h:ad} (O1:aA h1 h) {mb:Nat} {m:bM} {a:AM} (X:kH h1 m a) (gm:h1.get mb=some (mC m)) {w0 rv:Value} (D0:jz h h1.next w0 [] []) {R:List ao} (hR:R.length<=100000) (rc:eD h rv R) (nk:dv rv) {rb:Nat} (hrb : ∀ b,gK rv=some b->b=rb) (hrn:rb<h.next) (hwb : ∀ b,gK w0=some b->b≠rb)
  {x:Nat->Value} (x3:x 3=ptr mb 0) (x7:x 7=w0) (x11:x 11=rv) :
  Fin 206 (fun ex y g=>ex = .exit 5/\y 0=x 0/\y 3=ptr mb 0/\aA h1 g/\az h g (fun b=>gK w0=some b\/h.next<=b)/\(∀ b,gK (y 7)=some b->gK w0=some b\/h.next<=b) /\ ∃ ms,jz g h1.next (y 7) ms ((kW R ((R.length+63)/64)).map fun l=>dU a.lo a.hi l false)) (iter (codeA prog C (au f10 [1,1,1,0,1,1,1,1,1,1,1,1,0,0])) aB (aL 206 x) h):=by
 have hm:=X.mg;refine bk (mH C) (Inv:=fun k y g => ∃ t ms,t+k=(R.length+63)/64/\y 0=x 0/\y 3=ptr mb 0/\aA h1 g/\(az h g (fun b=>gK w0=some b\/h.next<=b)/\(∀ b,gK (y 7)=some b->gK w0=some b\/h.next<=b))/\jz g h1.next (y 7) ms ((kW R t).map fun l=>dU a.lo a.hi l false)/\eD g (y 11) (R.drop (64*t))/\dv (y 11)/\(∀ b,gK (y 11)=some b->b=rb)/\(∀ b,gK (y 7)=some b->b≠rb)) ?_ ((R.length+63)/64) (by have:aB=18446744073709551616:=rfl;omega)
  ⟨0,[],by omega,rfl,x3,O1,⟨az.refl _ _,fun b hb => .inl (by rw [<-x7];exact hb)⟩,by rw [x7];exact D0,by rw [x11,Nat.mul_zero,EJ];exact rc,by rw [x11];exact nk,by rw [x11];exact hrb,by rw [x7];exact hwb⟩
 rintro k y g ⟨t,ms,htk,y0,y3,Og,⟨Kg,w7⟩,D,rcg,nkg,hb11,hb7⟩;have hgn:=Kg.next;unfold fF;have M:=gU hm (aA.get Og gm);have hlen:=rcg.rsl.len;have hL:(R.drop (64*t)).length=R.length-64*t:=D8;have z0:aC prog .gtr 3 (ak (R.drop (64*t)).length) (.int .i64 0)=some (.bool (decide (0<(R.drop (64*t)).length))):=jo _ 0 0 rfl;have z64:aC prog .gtr 3 (ak (R.drop (64*t)).length) (.int .i64 64)=some (.bool (decide (64<(R.drop (64*t)).length))):=jo _ 64 64 rfl;simp -implicitDefEqProofs only [hlen,z0,ae,af];by_cases hp:0<(R.drop (64*t)).length
 ·have hcut : ∀ n,n<=(R.drop (64*t)).length->(n=64\/(n=(R.drop (64*t)).length/\n<=64)) -> ∃ pv qv,iw 39 (y 11) none (some (ak n)) none=some pv/\iw 39 (y 11) (some (ak n)) none none=some qv/\eD g pv ((R.drop (64*t)).take 64)/\eD g qv (R.drop (64*(t+1)))/\dv qv/\(∀ b,gK pv=some b->b=rb)/\(∀ b,gK qv=some b->b=rb):=by
   intro n hn hc;obtain ⟨pv,e1,r1,_⟩:=rcg.part nkg (i:=0) (j:=n) (FN _) hn;obtain ⟨qv,e2,r2,n2⟩:=rcg.part nkg (i:=n) (j:=(R.drop (64*t)).length) hn (DF _);obtain ⟨aa,cc,ev⟩:=rcg.form;have hle:(R.drop (64*t)).length<=cc:=by rw [ev] at nkg;exact nkg.le
   have sv : ∃ a n c,y 11 = .slice a n c:=⟨_,_,_,ev⟩
   refine ⟨pv,qv,by rw [slR_lo0];exact e1,by rw [ev,slR_hi _ _ hle,<-ev];exact e2,?_,?_,n2,fun b hb=>hb11 b (slR_gsB e1 hb sv),fun b hb=>hb11 b (slR_gsB e2 hb sv)⟩
   ·rw [EJ] at r1;rcases hc with rfl|⟨rfl,h64⟩
    ·exact r1
    ·rw [E9] at r1;rw [D1 h64];exact r1
   ·rw [E9,E8] at r2;rcases hc with rfl|⟨rfl,h64⟩
    ·rw [Nat.mul_add,FT];exact r2
    ·have e1:R.drop (64*(t+1)) = []:=FR (by omega);have e2:R.drop (64*t+(R.drop (64*t)).length) = []:=FR (by omega);rw [e1];rw [e2] at r2;exact r2
  have hstep : ∀ pv:Value,eD g pv ((R.drop (64*t)).take 64)->(∀ b,gK pv=some b->b=rb) -> ∃ m2 w' g',ei zML [(0,1,.int .u8 5),(7,1,m.lo),(8,1,m.hi),(42,1,pv)]=some (mV m2)/\cg 116 (.agg zML.toArray) 1 [(0,mV m2)] g=some (.slice (some ⟨g.next,0,none⟩) 1 1,g.alloc (mC m2))/\appendA 116 352 (y 7) (.slice (some ⟨g.next,0,none⟩) 1 1) (g.alloc (mC m2))=some (w',g')/\jz g' h1.next w' (ms ++ [m2]) ((kW R (t+1)).map fun l=>dU a.lo a.hi l false)/\az g g' (fun b=>gK (y 7)=some b)/\(∀ b,gK w'=some b->b≠rb/\h.next<=b):=by
   intro pv rp hpb;obtain ⟨ar,cr,rfl⟩:=rp.form;have X2:=Bj (X.old Og) rp false;have nbm : ∀ b,gK (y 7)=some b->MNb b (mk0 5 0 0 m.al m.nl m.cl m.ah m.nh m.ch 0 z32 ar ((R.drop (64*t)).take 64).length cr false):=fun b hb=>by have hb1:=(D.sl.blk hb).1;have n:=MNb.of X hb1;exact ⟨n.lo,n.hi,fun e=>hb7 b hb (hpb b (C7 e))⟩
   have hms:ms.length=t:=by rw [D.len,DS];unfold kW;rw [DS,GW]
   obtain ⟨w',g',e,D',k',fr⟩:=D.push (by rw [Og.n0];exact h1.n0_le_next) Og.next (by omega) X2 nbm;refine ⟨_,w',g',bld_it0,xh X2.mg g,e,?_,k',fun b hb => ?_⟩
   ·rw [BH,FG];exact D'
   ·have:=fr b hb;exact ⟨by omega,by omega⟩
  have hfin : ∀ (n:Nat) (g':ad) (w' qv:Value) (m2:bM) (y':Nat->Value),y' 0=y 0->y' 3=y 3->y' 7=w'->y' 11=qv->eD g qv (R.drop (64*(t+1)))->dv qv->(∀ b,gK qv=some b->b=rb)->jz g' h1.next w' (ms ++ [m2]) ((kW R (t+1)).map fun l=>dU a.lo a.hi l false)->az g g' (fun b=>gK (y 7)=some b)->(∀ b,gK w'=some b->b≠rb/\h.next<=b) ->
    ∃ t' ms',t'+(k-1)=(R.length+63)/64/\y' 0=x 0/\y' 3=ptr mb 0/\aA h1 g'/\(az h g' (fun b=>gK w0=some b\/h.next<=b)/\(∀ b,gK (y' 7)=some b->gK w0=some b\/h.next<=b))/\jz g' h1.next (y' 7) ms' ((kW R t').map fun l=>dU a.lo a.hi l false)/\eD g' (y' 11) (R.drop (64*t'))/\dv (y' 11)/\(∀ b,gK (y' 11)=some b->b=rb)/\(∀ b,gK (y' 7)=some b->b≠rb):=by
   intro n g' w' qv m2 y' e0 e3 e7 e11 rq nq hq D' k' hw';have nn:=k'.next;refine ⟨t+1,ms ++ [m2],by omega,e0.trans y0,e3.trans y3,Og.also k' (fun c hc q=>by have:=(D.sl.blk q).1;omega),⟨Kg.trans (k'.mono fun c _ q=>w7 c q),fun b hb => .inr (hw' b (by rw [<-e7];exact hb)).2⟩,by rw [e7];exact D',by rw [e11];exact rq.keepG k' (fun b hb e=>hb7 b hb (hq b e)),by rw [e11];exact nq,by rw [e11];exact hq,by rw [e7];exact fun b hb=>(hw' b hb).1⟩
  by_cases h64:64<(R.drop (64*t)).length
  ·obtain ⟨pv,qv,e1,e2,r1,r2,n2,p1,p2⟩:=hcut 64 (by omega) (.inl rfl);have e1:iw 39 (y 11) none (some (.int .i64 64)) none=some pv:=e1;have e2:iw 39 (y 11) (some (.int .i64 64)) none none=some qv:=e2;obtain ⟨m2,w',g',b1,b2,b3,D',k',hw'⟩:=hstep pv r1 p1;simp -implicitDefEqProofs only [DA hp,z64,DA h64,y3,ay,DG,M.l7,M.l8,e1,e2,b1,b2,b3,ae,af];exact cR.next (k-1) (by omega) (hfin 64 g' w' qv m2 _ rfl rfl rfl rfl r2 n2 p2 D' k' hw')
  ·obtain ⟨pv,qv,e1,e2,r1,r2,n2,p1,p2⟩:=hcut (R.drop (64*t)).length (DF _) (.inr ⟨rfl,by omega⟩);obtain ⟨m2,w',g',b1,b2,b3,D',k',hw'⟩:=hstep pv r1 p1;simp -implicitDefEqProofs only [DA hp,z64,DB h64,y3,ay,DG,M.l7,M.l8,e1,e2,b1,b2,b3,ae,af];exact cR.next (k-1) (by omega) (hfin 0 g' w' qv m2 _ rfl rfl rfl rfl r2 n2 p2 D' k' hw')
 ·have ht:t=(R.length+63)/64:=by omega
  simp -implicitDefEqProofs only [DB hp];exact cR.out 5 ⟨rfl,y0,y3,Og,Kg,w7,ms,by rw [<-ht];exact D⟩
set_option maxRecDepth 100000 in
set_option maxHeartbeats 1000000 in
theorem check_loop {h1 h:ad} (hG:4<=h1.n0) (hz:GZ h1) (O1:aA h1 h) {mb:Nat} {m:bM} {a:AM} (X:kH h1 m a) (gm:h1.get mb=some (mC m)) (hL:a.L.length<=100000)
  {x:Nat->Value} (x3:x 3=ptr mb 0) (x10:x 10=ak 0) :
  Fin 206 (fun ex y g=>aA h g/\((ex = .exit 1/\a.L.any (ke a.lo a.hi)=false/\y 0=x 0/\y 3=ptr mb 0/\y 7=x 7)\/(ex = .ret/\a.L.any (ke a.lo a.hi)=true/\y 4=x 0/\y 5 = .slice none 0 0/\y 6 = .int .i64 2))) (iter (codeA prog CW (au f10 [1,1,1,0,1,1,1,0,1,0,0])) aB (aL 206 x) h):=by
 have hm:=X.mg;refine bk (oF CW) (Inv:=fun k y g => ∃ i,i+k=a.L.length/\y 0=x 0/\y 3=ptr mb 0/\y 7=x 7/\y 10=ak i/\aA h g/\(a.L.take i).any (ke a.lo a.hi)=false) ?_ a.L.length (by have:aB=18446744073709551616:=rfl;omega) ⟨0,by omega,rfl,x3,rfl,x10,az.refl _ _,rfl⟩;rintro k y g ⟨i,hik,y0,y3,y7,y10,og,ha⟩;unfold gQ;have Og:=O1.trans og;have Mf:=fun g' (o:aA h1 g')=>gU hm (aA.get o gm);have M:=Mf g Og;have hlen:=(X.rs.mono Og).rsl.len;simp -implicitDefEqProofs only [y3,y10,ay,DG,M.l42,hlen,eK,ae,af];by_cases hi:i<a.L.length
 ·obtain ⟨b,oo,ix,wr,ld⟩:=(X.rs.mono Og).rsl.rd hi;obtain ⟨g2,e2,o2⟩:=r48 (h:=g) (by rw [Og.n0];exact hG) (hz.old Og) wr;have O2:=Og.trans o2;have M2:=Mf g2 O2;obtain ⟨g3,e3,o3⟩:=r59 (h:=g2) (by rw [O2.n0];exact hG) wr;have O3:=O2.trans o3;have M3:=Mf g3 O3;have e4:=r58 (h:=g3) (r:=a.L[i]) (cl:=m.cl) (ch:=m.ch) (by rw [O3.n0];exact hG) (aA.bytes O3 X.lo) (aA.bytes O3 X.hi);have a10:aC prog .add 3 (ak i) (.int .i64 1)=some (ak (i+1)):=dh (by omega);have fA:=yE hi (ke a.lo a.hi);rw [ha,EI] at fA;have ck1 : ∀ q,bF true (some (m.lo,q)) m.lo=true:=fun q=>iu ..;have ck2 : ∀ q,bF true (some (m.hi,q)) m.hi=true:=fun q=>iu ..;have bad : ∀ y':Nat->Value,∀ g',ke a.lo a.hi a.L[i]=true->aA g g'->y' 4=x 0->y' 5 = .slice none 0 0->y' 6 = .int .i64 2->aA h g'/\((Ex.ret = .exit 1/\a.L.any (ke a.lo a.hi)=false/\y' 0=x 0/\y' 3=ptr mb 0/\y' 7=x 7)\/(Ex.ret = .ret/\a.L.any (ke a.lo a.hi)=true/\y' 4=x 0/\y' 5 = .slice none 0 0/\y' 6 = .int .i64 2)):=fun y' g' hb og' h4 h5 h6=>
   ⟨og.trans og',.inr ⟨rfl,I8.2 ⟨_,EA hi,hb⟩,h4,h5,h6⟩⟩
  cases hv:de a.L[i] with
  |false=>
   rw [hv] at e2;have ho:ke a.lo a.hi a.L[i]=true:=by unfold ke;rw [hv];rfl
   simp -implicitDefEqProofs only [DA hi, y0, ix, ld g (az.refl _ _), e2, aT, DN, vU, ax, DY, chkJ, DV, ae, af];exact cR.ret (bad _ _ ho o2 rfl rfl rfl)
  |true=>
   rw [hv] at e2;cases hin:dA a.lo a.hi a.L[i] with
   |false=>
    rw [hin] at e4;have ho:ke a.lo a.hi a.L[i]=true:=by unfold ke;rw [hv,hin];rfl
    simp -implicitDefEqProofs only [DA hi, y0, M2.l42, M3.l7, M3.l8, M2.l7, M2.l8, ck1, ck2, ix, ld g (az.refl _ _), ld g2 o2, e2, e3, e4, aT, DP, DN, bf, aw, DV, DD, D3, ae, af];exact cR.ret (bad _ _ ho (o2.trans o3) rfl rfl rfl)
   |true=>
    rw [hin] at e4;have ho:ke a.lo a.hi a.L[i]=false:=by unfold ke;rw [hv,hin];rfl
    simp -implicitDefEqProofs only [DA hi, M2.l42, M3.l7, M3.l8, M2.l7, M2.l8, ck1, ck2, ix, ld g (az.refl _ _), ld g2 o2, e2, e3, e4, a10, aT, DP, bf, aw, DV, DD, D3, ae, af];exact cR.next (k-1) (by omega) ⟨i+1,by omega,y0,y3,y7,rfl,(og.trans o2).trans o3,by rw [fA];exact ho⟩
 ·have hE:i=a.L.length:=by omega
  rw [hE,E9] at ha;simp -implicitDefEqProofs only [DB hi];exact cR.out 1 ⟨og,.inl ⟨rfl,ha,y0,y3,y7⟩⟩
theorem isz10:bP prog 10 f10:=by constructor<;>kernel_rfl
theorem resultsz10:f10.results.toList = [.tmp 4,.tmp 5,.tmp 6]:=by kernel_rfl
theorem res_three {rs:List ResultVar} {n j k l:Nat} (hr:rs = [.tmp j,.tmp k,.tmp l]) (hj:j<n) (hk:k<n) (hl:l<n) (x:Nat->Value) (h:ad):resultsA prog rs (aL n x) h=some (.tuple #[x j,x k,x l],h):=by subst hr;simp only [resultsA,GO,List.mapM_nil,fj,mT hj,mT hk,mT hl];rfl
theorem bz10_13e (C:aj) (e:aW) (h:ad):lQ C 7 e h=CS C e h:=by unfold lQ;rw [DL rfl]
theorem bz10_22e (C:aj) (e:aW) (h:ad):Ct C 1 e h=B5 C e h:=by unfold Ct;rw [DL rfl]
theorem bz10_34e (C:aj) (e:aW) (h:ad):Ce C 3 e h=C1 C e h:=by unfold Ce;rw [DL rfl]
theorem bz10_42e (C:aj) (e:aW) (h:ad):Cd C 5 e h=rO C e h:=by unfold Cd;rw [DL rfl]
set_option maxRecDepth 100000 in
theorem b0_msgs (h:ad):cg 116 (.agg zML.toArray) 0 [] h=some (.slice (some ⟨h.next,0,none⟩) 0 0,h.alloc []):=rfl
theorem fix_end {C:aj} {g0:ad} {N:Nat} {w:Value} {ms:List bM} {xs:List AM} (A:jz g0 N w ms xs) (hN:g0.n0<=N) {mb:Nat} {m:bM} (hm:MG m) (gm:g0.get mb=some (mC m)) (hmb:mb<N) (hl:ms.length<=1000000)
  {x:Nat->Value} (x3:x 3=ptr mb 0) (x7:x 7=w) (x15:x 15=ak 0) {Q:aS->Prop} {r:aW->ad->aS}
  (hQ : ∀ g,az g0 g (fun b=>gK w=some b/\N<=b)->jz g N w (ms.map (iN m.to m.frm)) (xs.map (gF m.to m.frm))->Q (some (.tuple #[x 0,w,.int .i64 0],g))) :
  Q (dj (iter (codeA prog C (au f10 [1,1,1,1,0,1,0,0])) aB (aL 206 x) g0) r (lQ C)):=by
 refine bq (Q:=Q) (dc_loop A hN hm gm hmb hl x3 x7 x15) ?_;rintro ex z g ⟨rfl,z0,z7,K,D⟩;simp -implicitDefEqProofs only [aV,bz10_13e,Ag];unfold sw;simp -implicitDefEqProofs only [z0,z7,ae];exact hQ g K D
theorem app_two {h:ad} {b c:Nat} {e:List Value} (_:h.get b=some []) (gc:h.get c=some e) (he:e.length=232) (ho:Abs.noHoles e=true) (h1:aJ e=true):appendA 116 352 (.slice (some ⟨b,0,none⟩) 0 0) (.slice (some ⟨c,0,none⟩) 2 2) h=some (.slice (some ⟨h.next,0,some 116⟩) 2 2,h.alloc e):=by
 have hf:firstA 116 2 (.slice (some ⟨c,0,none⟩) 2 2) h=some e:=by
  have e1:(e.drop 0).take (2*116)=e:=by rw [EJ,D1 (by omega)]
  unfold firstA;simp only;rw [DM (by omega),gc];simp only;rw [e1,DL ⟨by omega,ho⟩]
 have hcond:(!(aJ e) || !(decide ((0+2)*352<=140737488355328)) || !(decide (0+2<=4611686018427387904))||decide (e.length≠2*116))=false:=by rw [h1,he];rfl
 have hf0:firstA 116 0 (.slice (some ⟨b,0,none⟩) 0 0) h=some []:=rfl;unfold appendA;simp only [ie,hf];rw [DM (by rw [hcond];decide),DM (by decide)];rfl
theorem jz.AQ {g:ad} {N:Nat} {m n:bM} {x y:AM} (X:kH g m x) (Y:kH g n y) (hN:N<=g.next):jz (g.alloc (mC m++mC n)) N (.slice (some ⟨g.next,0,some 116⟩) 2 2) [m,n] [x,y]:=by
 have o:aA g (g.alloc (mC m++mC n)):=az.alloc _ _ _;have ok:=df X.mg;have ok2:=df Y.mg;have e:lD [m,n]=mC m++mC n:=by simp [lD]
 refine ⟨⟨by rw [e,DH,ok.1,ok2.1];show (116+116:Nat)=2*116;omega,?_,?_,.inr ⟨g.next,some 116,rfl,by rw [ad.aF,DL rfl,e],hN,.inr ⟨Nat.succ_pos _,rfl⟩⟩⟩,rfl,fun i hi hi' => ?_,fun b hb q hq => ?_⟩
 ·rw [e];have h1:=ok.2.1;have h2:=ok2.2.1;unfold Abs.noHoles at *;rw [E6,h1,h2];rfl
 ·rw [e];have h1:=ok.2.2;have h2:=ok2.2.2;unfold aJ at *;rw [E6,h1,h2];rfl
 ·have hi2:i<2:=hi;rcases (show i=0\/i=1 by omega) with rfl|rfl
  ·exact X.old o
  ·exact Y.old o
 ·cases hb;rcases FJ.1 hq with rfl|hq
  ·exact MNb.of X (DF _)
  ·rw [EH.1 hq];exact MNb.of Y (DF _)
theorem chkD {d:List Nat} (w:ic d) (g:ad):bF true (some (.agg (aY d).toArray,g)) (.agg (aY d).toArray)=true:=qC _ _ (cH w).kinds
theorem nq31k (k:Nat) (n:Int) (j:Nat) (e:n=j):aC prog .neq 31 (.int .u8 (k:Int)) (.int .u8 n)=some (.bool (!(decide (k=j)))):=by subst e;rw [aZ,bne,u8_eqn]
theorem C2 {al:Option Addr} {nl cl:Nat} {ah:Option Addr} {nh ch:Nat} {ar:Option Addr} {nr cr:Nat} {w:Bool}:ei zML [(0,1,.int .u8 5),(7,1,.slice al nl cl),(8,1,.slice ah nh ch),(42,1,.slice ar nr cr),(43,1,.bool w)]=some (mV (mk0 5 0 0 al nl cl ah nh ch 0 z32 ar nr cr w)):=Bi
theorem cvSB_at (h:ad) {l:List Nat} (hb:w9 l) (hl:l.length<=100000):cvSB (.string (cz l)) h=some (.slice (some ⟨h.next,0,some 1⟩) l.length l.length,h.alloc (aY l)):=by
 have e:((cz l).data.toList.map fun b=>Value.int .u8 b.toNat)=aY l:=by unfold cz;rw [IA];refine List.map_congr_left fun x hx => ?_;have:=hb x hx;show Value.int .u8 (((UInt8.ofNat x).toNat:Nat):Int)=_;rw [UInt8.toNat_ofNat_of_lt' (by simpa using this)]
 unfold cvSB;simp only [sM];rw [DL (by omega),e]
set_option maxRecDepth 100000 in
set_option maxHeartbeats 2000000 in
theorem rz10s {h:ad} (hG:4<=h.n0) (hr:GR h) (hz:GZ h) {v:Value} {S:List ao} (hv:eD h v S) (vS:qE S) {m:bM} {x:AM} (X:kH h m x) (hS:S.length<=40000) (hnl:m.nl<=20000) (hnh:m.nh<=20000) (hk:x.kind=4) (hc:0<=x.cnt) :
  ∃ u ms h',CW 10 [v,mV m] h=some (.tuple #[v,u,.int .i64 0],h')/\aA h h'/\jz h' h.next u ms ((fc S x).map (gF x.to x.frm)):=by
 have hd:MG m:=X.mg;have ok:=df hd;have b1:box (mV m) h=some (ptr h.next 0,h.alloc (mC m)):=dG h _ ok.2.2;have o1:aA h (h.alloc (mC m)):=az.alloc _ _ _;have g1:(h.alloc (mC m)).get h.next=some (mC m):=by rw [ad.aF,DL rfl]
 have n1:(h.alloc (mC m)).next=h.next+1:=rfl;generalize h.alloc (mC m)=h1 at *;have M:=fun g (og:aA h1 g)=>gU hd (aA.get og g1);have l0:=(M h1 (az.refl _ _)).l0;rw [X.kind,hk] at l0;have l0:ld1 (ptr h.next 0) h1=some (.int .u8 4,h1):=l0;have l9:ld1 (ptr h.next 9) h1=some (.int .i64 x.cnt,h1):=by rw [<-X.cnt];exact (M h1 (az.refl _ _)).l9
 have n44:aC prog .neq 31 (.int .u8 4) (.int .u8 4)=some (.bool false):=by rw [aZ];rfl
 have e44:aC prog .eql 31 (.int .u8 4) (.int .u8 4)=some (.bool true):=by rw [bA];rfl
 have c0:aC prog .lss 3 (.int .i64 x.cnt) (.int .i64 0)=some (.bool false):=by rw [bG,DB (by omega)]
 have bz:=b0_msgs h1;have o2:aA h1 (h1.alloc []):=az.alloc _ _ _;have g2:(h1.alloc []).get h1.next=some []:=by rw [ad.aF,DL rfl]
 have n2:(h1.alloc []).next=h1.next+1:=rfl;generalize h1.alloc []=h2 at *;have O2:=o1.trans o2;have l0':ld1 (ptr h.next 0) h2=some (.int .u8 4,h2):=by have:=(M h2 o2).l0;rw [X.kind,hk] at this;exact this
 obtain ⟨w3,h3,e3,o3,r3⟩:=r21 (h:=h2) (cl:=m.cl) (ch:=m.ch) (by rw [O2.n0];exact hG) (hv.mono O2).rsl (by omega) (aA.bytes O2 X.lo) (aA.bytes O2 X.hi);have O3:=O2.trans o3;have o13:=o2.trans o3;have ll3:=r3.zY.rsl.len;have hfl:=EU (dA x.lo x.hi) S;have l9':ld1 (ptr h.next 9) h3=some (.int .i64 x.cnt,h3):=by rw [<-X.cnt];exact (M h3 o13).l9
 obtain ⟨h4,e4,o4⟩:=r55 (S.filter (dA x.lo x.hi)).length (h:=h3) (by rw [O3.n0];exact hG) (hr.old O3) (hz.old O3) rfl (by omega) r3.zY.rsl r3.gR (fun r hr=>(vS r (EW.1 hr).1).2);have O4:=O3.trans o4;have l10 : ∀ g,aA h1 g->cx 32 (ptr h.next 10) g=some (.agg (aY x.root).toArray,g):=fun g og=>by rw [<-X.root];exact (M g og).l10
 have dT:=fw (S.filter (dA x.lo x.hi));have e35:=eqDD2 dT X.d32;have ckd:=chkD X.d32;have rep:fc S x=if (decide (((S.filter (dA x.lo x.hi)).length:Int)=x.cnt)&&decide (cT (S.filter (dA x.lo x.hi))=x.root))=true then [] else if (S.filter (dA x.lo x.hi)).length<=8 then [dU x.lo x.hi (S.filter (dA x.lo x.hi)) true] else [tM S x.lo (dx ((S.filter (dA x.lo x.hi)).getD ((S.filter (dA x.lo x.hi)).length/2) ao.z)),tM S (dx ((S.filter (dA x.lo x.hi)).getD ((S.filter (dA x.lo x.hi)).length/2) ao.z)) x.hi]:=rfl
 have q2:=O2.next;have q3:=o3.next;have q4:=o4.next;have hn0:=h.n0_le_next;have key : ∃ out:aS,tz10 CW v (mV m) h=out /\ ∃ u ms h',out=some (.tuple #[v,u,.int .i64 0],h')/\aA h h'/\jz h' h.next u ms ((fc S x).map (gF x.to x.frm)):=by
  refine ⟨_,rfl,?_⟩;have wk : ∀ {g:ad} {N:Nat} {u:Value} {ms:List bM} {xs:List AM},h.next<=N->jz g N u ms xs->jz g h.next u ms xs:=fun hN D=>⟨D.sl.weak hN,D.len,D.is,D.nb⟩
  have fin : ∀ {g:ad} {u:Value} {ms:List bM} {y:Nat->Value} {r:aW->ad->aS},aA h1 g->jz g h1.next u ms (fc S x)->ms.length<=1000->y 0=v->y 3=ptr h.next 0->y 7=u->y 15=ak 0 ->
    ∃ u ms h',dj (iter (codeA prog CW (au f10 [1,1,1,1,0,1,0,0])) aB (aL 206 y) g) r (lQ CW)=some (.tuple #[v,u,.int .i64 0],h')/\aA h h'/\jz h' h.next u ms ((fc S x).map (gF x.to x.frm)):=by
   intro g u ms y r og D hms y0 y3 y7 y15;refine fix_end (Q:=fun o:aS => ∃ u ms h',o=some (.tuple #[v,u,.int .i64 0],h')/\aA h h'/\jz h' h.next u ms ((fc S x).map (gF x.to x.frm))) D (by rw [og.n0];exact h1.n0_le_next) hd (aA.get og g1) (by omega) (by omega) y3 y7 y15 ?_;intro g' K D';rw [X.to,X.frm] at D';exact ⟨u,_,g',by rw [y0],(o1.trans og).also K (fun d hd q=>by have:=q.2;omega),wk (by omega) D'⟩
  unfold tz10;simp -implicitDefEqProofs only [b1, ay, DG, l0, n44, e44, bt, bf, sP, aw, ax, DD, D3, DY, l9, c0, bz, l0', (M h2 o2).l7, (M h2 o2).l8, e3, ll3, l9', eqI, ae, af];generalize hT:cT (S.filter (dA x.lo x.hi))=T at *;generalize hl:S.filter (dA x.lo x.hi)=l at *;generalize decide (T=x.root)=q at *;have hnil : ∀ g,aA h2 g->jz g h1.next (.slice (some ⟨h1.next,0,none⟩) 0 0) [] []:=fun g og=>jz.nil (aA.get og g2) (DF _);obtain ⟨a3,c3,rfl⟩:=r3.zY.form;have A2 : ∀ g,aA h3 g -> ∃ w' g' ms,cg 116 (.agg zML.toArray) 1 [(0,mV (mk0 5 0 0 m.al m.nl m.cl m.ah m.nh m.ch 0 z32 a3 l.length c3 true))] g=some (.slice (some ⟨g.next,0,none⟩) 1 1,g.alloc (mC (mk0 5 0 0 m.al m.nl m.cl m.ah m.nh m.ch 0 z32 a3 l.length c3 true)))/\appendA 116 352 (.slice (some ⟨h1.next,0,none⟩) 0 0) (.slice (some ⟨g.next,0,none⟩) 1 1) (g.alloc (mC (mk0 5 0 0 m.al m.nl m.cl m.ah m.nh m.ch 0 z32 a3 l.length c3 true)))=some (w',g')/\jz g' h1.next w' ms [dU x.lo x.hi l true]/\aA h1 g'/\ms.length<=1000:=by
   intro g og;have X2:=Bj (X.old (O3.trans og)) (r3.zY.mono og) true;have nbm : ∀ b,gK (.slice (some ⟨h1.next,0,none⟩) 0 0)=some b->MNb b (mk0 5 0 0 m.al m.nl m.cl m.ah m.nh m.ch 0 z32 a3 l.length c3 true):=fun b hb=>by
    cases hb;have n:=MNb.of (X.old o1) (DF _);refine ⟨n.lo,n.hi,fun e => ?_⟩;obtain ⟨_,b',s',e',_,hb',_⟩:=r3;cases e';cases hc:l.length with
    |zero=>rw [show slB (Value.slice (some ⟨b',0,s'⟩) l.length l.length)=slB (Value.slice (some ⟨b',0,s'⟩) 0 l.length) by rw [hc]] at e;cases e
    |succ k=>
     have e:=C7 e;have e:some b'=some h1.next:=e;injection e with e
     omega
   obtain ⟨w',g',e,D',k',fr⟩:=(hnil g (o3.trans og)).push (by rw [((o13).trans og).n0];exact h1.n0_le_next) ((o13).trans og).next (by decide) X2 nbm;exact ⟨w',g',_,xh X2.mg g,e,D',aA.bx (o13.trans og) (k'.mono fun c _ q=>by cases q;rfl) (DF _),by show (1:Nat)<=1000;decide⟩
  have A3 : ∀ g,aA h3 g -> ¬l.length<=8 -> ∃ (rk:ao) (bb oo:Nat) (g5:ad) (m6:bM) (g6:ad) (m7:bM) (g7:ad) (w':Value) (g':ad) (ms:List bM),l.getD (l.length/2) ao.z=rk/\idxS 39 (.slice a3 l.length c3) (ak (l.length/2))=some (ptr bb oo)/\cx 39 (ptr bb oo) g=some (cY rk,g)/\CW 34 [cY rk] g=some (.string (cz (dx rk)),g5) /\
    cvSB (.string (cz (dx rk))) g5=some (.slice (some ⟨g5.next,0,some 1⟩) 34 34,g5.alloc (aY (dx rk)))/\ld1 (ptr h.next 7) (g5.alloc (aY (dx rk)))=some (m.lo,g5.alloc (aY (dx rk)))/\ld1 (ptr h.next 8) (g5.alloc (aY (dx rk)))=some (m.hi,g5.alloc (aY (dx rk)))/\CW 35 [v,m.lo,.slice (some ⟨g5.next,0,some 1⟩) 34 34] (g5.alloc (aY (dx rk)))=some (mV m6,g6)/\ld1 (ptr h.next 8) g6=some (m.hi,g6)/\CW 35 [v,.slice (some ⟨g5.next,0,some 1⟩) 34 34,m.hi] g6=some (mV m7,g7)/\cg 116 (.agg zML.toArray) 2 [(0,mV m6),(1,mV m7)] g7=some (.slice (some ⟨g7.next,0,none⟩) 2 2,g7.alloc (mC m6++mC m7))/\appendA 116 352 (.slice (some ⟨h1.next,0,none⟩) 0 0) (.slice (some ⟨g7.next,0,none⟩) 2 2) (g7.alloc (mC m6++mC m7))=some (w',g')/\jz g' h1.next w' ms [tM S x.lo (dx rk),tM S (dx rk) x.hi]/\aA h1 g'/\ms.length<=1000:=by
   intro g og h8;have hlt:l.length/2<l.length:=by omega
   obtain ⟨bb,oo,ixx,wr,ldd⟩:=r3.zY.rsl.rd hlt;have eg:l.getD (l.length/2) ao.z=l[l.length/2]:=by rw [DK,DC hlt];rfl
   rw [eg];generalize l[l.length/2]=rk at *;have Og:=o13.trans og;obtain ⟨g5,e5,o5⟩:=r59 (h:=g) (by rw [Og.n0,o1.n0];exact hG) wr;have kl:=xZ wr;have c5:=cvSB_at g5 (kL wr) (by rw [kl];decide);rw [kl] at c5;have o6:aA g5 (g5.alloc (aY (dx rk))):=az.alloc _ _ _;have gk:(g5.alloc (aY (dx rk))).get g5.next=some (aY (dx rk)):=by rw [ad.aF,DL rfl]
   have O6:=(Og.trans o5).trans o6;refine ⟨rk,bb,oo,g5,?_⟩;have sk:av (some ⟨g5.next,0,some 1⟩) 34 (g5.alloc (aY (dx rk)))=some (dx rk):=by have s4:=cG (h:=g5.alloc (aY (dx rk))) (off:=0) (n:=34) (s:=some 1) gk (by rw [kl];decide) (kL wr);rw [EJ,D1 (by rw [kl];decide)] at s4;exact s4
   generalize g5.alloc (aY (dx rk))=h6 at *;have hO6:aA h h6:=o1.trans O6;obtain ⟨m6,g6,e6,o7,X6⟩:=r18M (h:=h6) (cl:=m.cl) (ch:=34) (by rw [hO6.n0];exact hG) (hr.old hO6) (hz.old hO6) (hv.mono hO6).rsl (fun r hr=>(vS r hr).2) (by omega) (aA.bytes hO6 X.lo) sk hnl (by decide);have hO7:=hO6.trans o7;obtain ⟨m7,g7,e7,o8,X7⟩:=r18M (h:=g6) (cl:=34) (ch:=m.ch) (by rw [hO7.n0];exact hG) (hr.old hO7) (hz.old hO7) (hv.mono hO7).rsl (fun r hr=>(vS r hr).2) (by omega) (aA.bytes o7 sk) (aA.bytes hO7 X.hi) (by decide) hnh;have hO8:=hO7.trans o8;have O8:=(O6.trans o7).trans o8;have e9:=bsl_msg2 X6.mg X7.mg g7;have ok6:=df X6.mg;have ok7:=df X7.mg;have o9:aA g7 (g7.alloc (mC m6++mC m7)):=az.alloc _ _ _;have g9:(g7.alloc (mC m6++mC m7)).get g7.next=some (mC m6++mC m7):=by rw [ad.aF,DL rfl]
   have a9:=app_two (h:=g7.alloc (mC m6++mC m7)) (b:=h1.next) (aA.get ((((((o3.trans og).trans o5).trans o6).trans o7).trans o8).trans o9) g2) g9 (by rw [DH,ok6.1,ok7.1]) (by
    have h1:=ok6.2.1;have h2:=ok7.2.1;unfold Abs.noHoles at *;rw [E6,h1,h2];rfl) (by
    have h1:=ok6.2.2;have h2:=ok7.2.2;unfold aJ at *;rw [E6,h1,h2];rfl)
   have O9:=O8.trans o9;have D:=jz.AQ (g:=g7.alloc (mC m6++mC m7)) (N:=h1.next) (X6.old (o8.trans o9)) (X7.old o9) O9.next;exact ⟨m6,g6,m7,g7,_,_,[m6,m7],rfl,ixx,ldd g og,e5,c5,(M h6 O6).l7,(M h6 O6).l8,e6,(M g6 (O6.trans o7)).l8,e7,e9,a9,D,O9.trans (az.alloc _ _ _),by show (2:Nat)<=1000;decide⟩
  have ck : ∀ g,bF true (some (m.hi,g)) m.hi=true:=fun g=>iu ..;have lq:aC prog .leq 3 (ak l.length) (.int .i64 8)=some (.bool (decide (l.length<=8))):=leq3 l.length 8 8 rfl;have qu:=quo2 (show l.length<=1000000 by omega);generalize decide ((l.length:Int)=x.cnt)=p at *;by_cases hpq:(p&&q)=true
  ·rw [DL hpq] at rep;rw [DJ] at hpq;obtain ⟨rfl,rfl⟩:=hpq;simp -implicitDefEqProofs only [bt, aw, e4, l10 h4 (o13.trans o4), l10 h3 o13, e35, ckd, DV, DY, ae, af];exact fin (o13.trans o4) (by rw [rep];exact hnil _ (o3.trans o4)) (by decide) rfl rfl rfl rfl
  ·rw [DM hpq] at rep;by_cases h8:l.length<=8
   ·rw [DL h8] at rep;obtain ⟨w',g',ms,b5,e5,D',og',hms⟩:=A2 h3 (az.refl _ _);obtain ⟨w'',g'',ms',b5',e5',D'',og'',hms'⟩:=A2 h4 o4;cases p<;>cases q
    ·simp -implicitDefEqProofs only [sP, ax, DD, D3, chkJ, DV, lq, DA h8, (M h3 o13).l7, (M h3 o13).l8, C2, b5, e5, ae, af];exact fin og' (by rw [rep];exact D') hms rfl rfl rfl rfl
    ·simp -implicitDefEqProofs only [sP, ax, DD, D3, chkJ, DV, lq, DA h8, (M h3 o13).l7, (M h3 o13).l8, C2, b5, e5, ae, af];exact fin og' (by rw [rep];exact D') hms rfl rfl rfl rfl
    ·simp -implicitDefEqProofs only [bt, aw, e4, l10 h4 (o13.trans o4), l10 h3 o13, e35, ckd, DV, DY, lq, DA h8, (M h4 (o13.trans o4)).l7, (M h4 (o13.trans o4)).l8, C2, b5', e5', ae, af];exact fin og'' (by rw [rep];exact D'') hms' rfl rfl rfl rfl
    ·exact absurd rfl hpq
   ·rw [DM h8] at rep;obtain ⟨rk,bb,oo,g5,m6,g6,m7,g7,w',g',ms,ek,i1,i2,i3,i4,i5,i5b,i6,i7,i8,i9,i10,D',og',hms⟩:=A3 h3 (az.refl _ _) h8;obtain ⟨rk',bb',oo',g5',m6',g6',m7',g7',w'',g'',ms',ek',j1,j2,j3,j4,j5,j5b,j6,j7,j8,j9,j10,D'',og'',hms'⟩:=A3 h4 o4 h8;cases p<;>cases q
    ·simp -implicitDefEqProofs only [sP, ax, DD, D3, chkJ, DV, lq, DB h8, qu, i1, i2, i3, i4, i5, i5b, i6, i7, i8, i9, i10, ck, ae, af];exact fin og' (by rw [rep,ek];exact D') hms rfl rfl rfl rfl
    ·simp -implicitDefEqProofs only [sP, ax, DD, D3, chkJ, DV, lq, DB h8, qu, i1, i2, i3, i4, i5, i5b, i6, i7, i8, i9, i10, ck, ae, af];exact fin og' (by rw [rep,ek];exact D') hms rfl rfl rfl rfl
    ·simp -implicitDefEqProofs only [bt, aw, e4, l10 h4 (o13.trans o4), l10 h3 o13, e35, ckd, DV, DY, lq, DB h8, qu, j1, j2, j3, j4, j5, j5b, j6, j7, j8, j9, j10, ck, ae, af];exact fin og'' (by rw [rep,ek'];exact D'') hms' rfl rfl rfl rfl
    ·exact absurd rfl hpq
 obtain ⟨q,e,u,ms,h',e',oo⟩:=key;exact ⟨u,ms,h',aD isz10 hG rfl ((xB _ _ _ _).trans (e.trans e')),oo⟩
theorem jz.none (g:ad) (N:Nat):jz g N (.slice none 0 0) [] []:=⟨eZ.nil 116 g N,rfl,fun i h=>absurd h (E0 i),fun _ h=>by cases h⟩
theorem jz.weak {g:ad} {N M:Nat} {u:Value} {ms:List bM} {xs:List AM} (D:jz g N u ms xs) (h:M<=N):jz g M u ms xs:=⟨D.sl.weak h,D.len,D.is,D.nb⟩
theorem jz.keep {g g':ad} {N:Nat} {u:Value} (D:jz g N u [] []) {B:Nat->Prop} (k:az g g' B) (h : ∀ b,gK u=some b -> ¬B b):jz g' N u [] []:=
 ⟨D.sl.keep k h,rfl,fun i h=>absurd h (E0 i),fun _ _ _ hm=>by cases hm⟩
set_option maxRecDepth 100000 in
set_option maxHeartbeats 2000000 in
theorem rz10 {h:ad} (hG:4<=h.n0) (hr:GR h) (hz:GZ h) {v:Value} {S:List ao} (hv:eD h v S) (vS:qE S) {m:bM} {x:AM} (X:kH h m x) (hS:S.length<=40000) (hL:x.L.length<=40000) (hnl:m.nl<=20000) (hnh:m.nh<=20000) :
  ∃ w u ms h',CW 10 [v,mV m] h=some (.tuple #[w,u,.int .i64 (fo S x).2.2],h')/\aA h h'/\eD h' w (fo S x).1/\jz h' h.next u ms (fo S x).2.1:=by
 by_cases q1:x.kind=4/\0<=x.cnt
 ·obtain ⟨u,ms,h',e,o,D⟩:=rz10s hG hr hz hv vS X hS hnl hnh q1.1 q1.2;have er:fo S x=(S,(fc S x).map (gF x.to x.frm),0):=by unfold fo;rw [DL q1]
  rw [er];exact ⟨v,u,ms,h',e,o,hv.mono o,D⟩
 ·have hd:MG m:=X.mg;have ok:=df hd;have b1:box (mV m) h=some (ptr h.next 0,h.alloc (mC m)):=dG h _ ok.2.2;have o1:aA h (h.alloc (mC m)):=az.alloc _ _ _;have g1:(h.alloc (mC m)).get h.next=some (mC m):=by rw [ad.aF,DL rfl]
  have n1:(h.alloc (mC m)).next=h.next+1:=rfl;generalize h.alloc (mC m)=h1 at *;have M:=fun g (og:aA h1 g)=>gU hd (aA.get og g1);have l0:=(M h1 (az.refl _ _)).l0;rw [X.kind] at l0;have l9:ld1 (ptr h.next 9) h1=some (.int .i64 x.cnt,h1):=by rw [<-X.cnt];exact (M h1 (az.refl _ _)).l9
  have k4:=eq31k x.kind 4 4 rfl;have n4:=nq31k x.kind 4 4 rfl;have n5:=nq31k x.kind 5 5 rfl;have c0:aC prog .lss 3 (.int .i64 x.cnt) (.int .i64 0)=some (.bool (decide (x.cnt<0))):=by rw [bG]
  by_cases q5:x.kind=5
  ·have x4 : ¬x.kind=4:=by omega
   have bz:=b0_msgs h1;have o2:aA h1 (h1.alloc []):=az.alloc _ _ _;have g2:(h1.alloc []).get h1.next=some []:=by rw [ad.aF,DL rfl]
   have n2:(h1.alloc []).next=h1.next+1:=rfl;generalize h1.alloc []=h2 at *;have O2:=o1.trans o2;have l0':ld1 (ptr h.next 0) h2=some (.int .u8 (x.kind:Int),h2):=by have:=(M h2 o2).l0;rw [X.kind] at this;exact this
   have hlr:=(X.rs.mono O2).rsl.len;by_cases q64:64<x.L.length
   ·have er:fo S x=(S,[],3):=by unfold fo;rw [DM q1,DL ⟨q5,q64⟩]
    rw [er];refine ⟨v,.slice none 0 0,[],h2,aD isz10 hG rfl ((xB _ _ _ _).trans ?_),O2,hv.mono O2,jz.none _ _⟩;unfold tz10;simp -implicitDefEqProofs only [b1, ay, DG, l0, n4, n5, k4, DB x4, DA q5, DN, DP, bt, bf, sP, aw, ax, DD, D3, DY, bz, l0', (M h2 o2).l42, hlr, jo x.L.length 64 64 rfl, DA q64, ae, af]
   ·have key : ∃ out:aS,tz10 CW v (mV m) h=out /\ ∃ w u ms h',out=some (.tuple #[w,u,.int .i64 (fo S x).2.2],h')/\aA h h'/\eD h' w (fo S x).1/\jz h' h.next u ms (fo S x).2.1:=by
     refine ⟨_,rfl,?_⟩;unfold tz10;simp -implicitDefEqProofs only [b1, ay, DG, l0, n4, n5, k4, DB x4, DA q5, DN, DP, bt, bf, sP, aw, ax, DD, D3, DY, bz, l0', (M h2 o2).l42, hlr, jo x.L.length 64 64 rfl, DB q64, ae, af];refine bq (Q:=fun o:aS => ∃ w u ms h',o=some (.tuple #[w,u,.int .i64 (fo S x).2.2],h')/\aA h h'/\eD h' w (fo S x).1/\jz h' h.next u ms (fo S x).2.1) (check_loop (h1:=h1) (by rw [o1.n0];exact hG) (hz.old o1) o2 (X.old o1) g1 (by omega) rfl rfl) ?_;rintro ex z g ⟨og,⟨rfl,hout,z0,z3,z7⟩|⟨rfl,hout,z4,z5,z6⟩⟩
     ·have z0:z 0=v:=z0;have z7:z 7 = .slice (some ⟨h1.next,0,none⟩) 0 0:=z7;have er:fo S x=(bB S x.L,(dS (bB S x.L) x).map (gF x.to x.frm),0):=by unfold fo;rw [DM q1,DM (fun q=>q64 q.2),DL ⟨q5,hout⟩]
      rw [er];simp -implicitDefEqProofs only [aV,bz10_22e,Aw];have o12g:=o2.trans og;have Og:=o1.trans o12g;have vr : ∀ r∈x.L,de r=true:=fun r hr=>by
       rw [F7] at hout;have:=hout r hr;unfold ke at this;cases hv:de r with
       |true=>rfl
       |false=>rw [hv] at this;exact absurd rfl this
      have hi:gz x.L=false:=by unfold gz;rw [F7];intro r hr;rw [vr r hr];decide
      obtain ⟨w3,e',h3,e3,o3,r3⟩:=r16 (h:=g) (by rw [Og.n0];exact hG) (hz.old Og) (hv.mono Og) (X.rs.mono Og) vS (by omega) (by omega);rcases r3 with ⟨hb,_,_⟩|⟨_,rfl,r3⟩
      ·rw [hi] at hb;cases hb
      have O3:=Og.trans o3;have O13:=o12g.trans o3;have ml:=kj S x.L;have b0:=tg h3;have o4:aA h3 (h3.alloc []):=az.alloc _ _ _;have r0:cy (h3.alloc []) h3.next (.slice (some ⟨h3.next,0,Option.none⟩) 0 0) []:=⟨(fun _ h=>by cases h),h3.next,Option.none,rfl,by rw [ad.aF,DL rfl];rfl,DF _,.inl ⟨rfl,rfl⟩⟩
      have n4':(h3.alloc []).next=h3.next+1:=rfl;generalize h3.alloc []=h4 at *;have O4:=O3.trans o4;have O14:=O13.trans o4;obtain ⟨w5,h5,e5,o5,r5⟩:=r21 (h:=h4) (cl:=m.cl) (ch:=m.ch) (by rw [O4.n0];exact hG) ((r3.old o4).zY.rsl) (by omega) (aA.bytes O4 X.lo) (aA.bytes O4 X.hi);have O5:=O4.trans o5;have O15:=O14.trans o5;have hfl:=EU (dA x.lo x.hi) (bB S x.L);have q1n:=O15.next;have q2n:=o3.next;have q3n:=o5.next;have q4n:=og.next;have hn0:=h.n0_le_next;have x0:extractA (.tuple #[w3,.int .i64 0]) 0=some w3:=rfl;have x1:extractA (.tuple #[w3,.int .i64 0]) 1=some (.int .i64 0):=rfl;unfold rN;simp -implicitDefEqProofs only [z0,z3,ay,DG,(M g o12g).l42,e3,x0,x1,b0,(M h4 O14).l7,(M h4 O14).l8,e5,ae,af];refine bq (Q:=fun o:aS => ∃ w u ms h',o=some (.tuple #[w,u,.int .i64 0],h')/\aA h h'/\eD h' w (bB S x.L)/\jz h' h.next u ms ((dS (bB S x.L) x).map (gF x.to x.frm))) (rest_loop (h1:=h1) (by rw [o1.n0];exact hG) O15 (X.old o1) g1 (N:=h3.next) (by rw [O5.n0,<-O3.n0];exact h3.n0_le_next) (by omega) (by omega) r5 (by omega) (by omega) ?_ ?_ ?_ ?_) ?_
      ·exact z3
      ·rfl
      ·rfl
      ·exact r0.old o5
      rintro ex z' g' ⟨rfl,y0,y3,y7,K5,Og5,rl⟩;have y0:z' 0=w3:=y0;have y7:z' 7 = .slice (some ⟨h1.next,0,Option.none⟩) 0 0:=y7.trans z7;simp -implicitDefEqProofs only [aV,bz10_34e,AB];unfold rI;have D0:jz g' h1.next (.slice (some ⟨h1.next,0,Option.none⟩) 0 0) [] []:=((jz.nil g2 (DF _)).old (((og.trans o3).trans o4).trans o5)).keep K5 fun b hb q=>by cases hb;omega
      have k5n:=K5.next;obtain ⟨rb,s5,e5',gb5,hb5,_⟩:=rl.2;have hrl:(if x.want=true then ((bB S x.L).filter (dA x.lo x.hi)).filter (fun r => !(decide (r∈x.L))) else []).length<=80000:=by
       split
       ·have:=EU (fun r => !(decide (r∈x.L))) ((bB S x.L).filter (dA x.lo x.hi));omega
       ·exact FN _
      refine bq (Q:=fun o:aS => ∃ w u ms h',o=some (.tuple #[w,u,.int .i64 0],h')/\aA h h'/\eD h' w (bB S x.L)/\jz h' h.next u ms ((dS (bB S x.L) x).map (gF x.to x.frm))) (part_loop (C:=CW) (h1:=h1) Og5 (X.old o1) g1 D0 (by omega) rl.zY rl.dv (rb:=rb) (fun b hb=>by rw [e5'] at hb;cases hb;rfl) (g'.aO gb5) (fun b hb=>by cases hb;omega) ?_ ?_ ?_) ?_
      ·exact y3
      ·exact y7
      ·rfl
      rintro ex z'' g'' ⟨rfl,y0',y3',Og6,K6,w6,ms6,D6⟩;have y0':z'' 0=w3:=y0'.trans y0;simp -implicitDefEqProofs only [aV,bz10_42e,Ck];unfold vt;simp -implicitDefEqProofs only [ae];have rep:dS (bB S x.L) x=(kW (if x.want=true then ((bB S x.L).filter (dA x.lo x.hi)).filter (fun r => !(decide (r∈x.L))) else []) (((if x.want=true then ((bB S x.L).filter (dA x.lo x.hi)).filter (fun r => !(decide (r∈x.L))) else []).length+63)/64)).map fun l=>dU x.lo x.hi l false:=by
       unfold dS;by_cases hw:x.want=true
       ·simp only [DL hw]
       ·simp only [DM hw];rfl
      rw [<-rep] at D6;have hms:ms6.length<=1000000:=by rw [D6.len,rep,DS];unfold kW;rw [DS,GW];omega
      refine fix_end (Q:=fun o:aS => ∃ w u ms h',o=some (.tuple #[w,u,.int .i64 0],h')/\aA h h'/\eD h' w (bB S x.L)/\jz h' h.next u ms ((dS (bB S x.L) x).map (gF x.to x.frm))) D6 (by rw [Og6.n0];exact h1.n0_le_next) hd (aA.get Og6 g1) (by omega) hms ?_ ?_ ?_ ?_
      ·exact y3'
      ·rfl
      ·rfl
      intro g7 K7 D7;rw [X.to,X.frm] at D7;have b3:=r3.blk;have lt3:=h3.aO b3.2;have r5':cy h5 g.next w3 (bB S x.L):=(r3.old o4).old o5;have r6:=r5'.keep K5 (by omega);have r7:=r6.keep K6 (by
       rintro (q|q)
       ·have q:some h1.next=some (rlB w3):=q;injection q with q
        omega
       ·omega)
      have r8:=r7.keep K7 (by
       rintro ⟨q,_⟩;rcases w6 _ q with q|q
       ·have q:some h1.next=some (rlB w3):=q;injection q with q
        omega
       ·omega)
      exact ⟨w3,_,_,g7,by rw [show (up z'' [(15,.int .i64 0)]) 0=z'' 0 from rfl,y0'],(o1.trans Og6).also K7 (fun d hd q=>by have:=q.2;omega),r8.zY,D7.weak (by omega)⟩
     ·rw [fq,cE,res_three resultsz10 (by decide) (by decide) (by decide),z4,z5,z6];have er:fo S x=(S,[],2):=by unfold fo;rw [DM q1,DM (fun q=>q64 q.2),DM (fun q=>by rw [hout] at q;cases q.2)]
      rw [er];exact ⟨v,.slice Option.none 0 0,[],g,rfl,O2.trans og,hv.mono (O2.trans og),jz.none _ _⟩
    obtain ⟨q,e,w,u,ms,h',e',oo⟩:=key;exact ⟨w,u,ms,h',aD isz10 hG rfl ((xB _ _ _ _).trans (e.trans e')),oo⟩
  ·have er:fo S x=(S,[],2):=by unfold fo;rw [DM q1,DM (fun q=>q5 q.1),DM (fun q=>q5 q.1)]
   rw [er];refine ⟨v,.slice none 0 0,[],h1,aD isz10 hG rfl ((xB _ _ _ _).trans ?_),o1,hv.mono o1,jz.none _ _⟩;unfold tz10;by_cases x4:x.kind=4
   ·have cn:x.cnt<0:=by
     rcases Int.lt_or_le x.cnt 0 with h|h
     ·exact h
     ·exact absurd ⟨x4,h⟩ q1
    simp -implicitDefEqProofs only [b1, ay, DG, l0, n4, k4, DA x4, DP, bt, bf, sP, aw, ax, DD, D3, DY, l9, c0, DA cn, ae, af]
   ·simp -implicitDefEqProofs only [b1, ay, DG, l0, n4, n5, DB x4, DB q5, DN, bt, vU, bu', aw, ax, DY, ae, af]
theorem msl_of {g:ad} {b:Nat} {s:Option Nat} {ms:List bM} {xs:List AM} (len:ms.length=xs.length) (is : ∀ i (h:i<ms.length) (h':i<xs.length),kH g ms[i] xs[i]) (gb:g.get b=some (lD ms)):MsL g (.slice (some ⟨b,0,s⟩) ms.length ms.length) ms xs:=by
 have dr : ∀ q∈ms,MG q:=fun q hq=>by
  obtain ⟨i,hi,rfl⟩:=E5.1 hq;have hi':i<xs.length:=by rw [<-len];exact hi
  exact (is i hi hi').mg
 refine ⟨len,rfl,is,fun i hi => ?_⟩;have hlt:(ms.take i).length=i:=by rw [DW];omega
 have l1:(lD (ms.take i)).length=i*116:=by rw [tC fun q hq=>dr q (EZ hq),hlt]
 have ok:=df (dr _ (EA hi));have split:lD ms=lD (ms.take i)++(mC ms[i]++lD (ms.drop (i+1))):=by
  have e:ms.take i++ms.drop i=ms:=EL i ms;rw [EX hi] at e
  calc lD ms=lD (ms.take i++ms[i]::ms.drop (i+1)):=by rw [e]
   _=_:=by rw [jh];rfl
 refine ⟨b,i*116,?_,fun q oq => ?_⟩
 ·unfold idxS ak;simp only;rw [DL (by omega),Int.toNat_natCast,DG]
 ·have gq:=aA.get oq gb;have ec:((lD ms).drop (i*116)).take 116=mC ms[i]:=by rw [split,GF l1,HC ok.1]
  have:=nT (o:=i*116) (n:=116) gq (by rw [split,DH,DH,l1,ok.1];omega) (by rw [ec];exact ok.2.1);rw [ec] at this;exact this
theorem yu.msl {g:ad} {N:Nat} {w:Value} {ms:List bM} {xs:List AM} (A:yu g N w ms xs):MsL g w ms xs:=by
 rcases A.sl with ⟨rfl,rfl⟩|⟨b,s,rfl,gb,_⟩
 ·exact ⟨A.len,rfl,A.is,fun i hi=>absurd hi (E0 i)⟩
 ·exact msl_of A.len A.is gb
theorem yu.mz {g:ad} {N:Nat} {w:Value} {ms:List bM} {xs:List AM} (A:yu g N w ms xs) : ∀ m∈ms,MZ m:=fun m hm=>by
 obtain ⟨i,hi,rfl⟩:=E5.1 hm;have hi':i<xs.length:=by rw [<-A.len];exact hi
 exact (A.own i hi hi').zr
theorem MsL.old {g g':ad} {w:Value} {ms:List bM} {xs:List AM} (A:MsL g w ms xs) (o:aA g g'):MsL g' w ms xs:=
 ⟨A.len,A.ln,fun i h h'=>(A.is i h h').old o,fun i hi=>by obtain ⟨b,o',h1,h2⟩:=A.rd i hi;exact ⟨b,o',h1,fun q oq=>h2 q (o.trans oq)⟩⟩
abbrev mRec (m:bM) (ar:Option Addr) (nr cr:Nat):bM:={ m with ar:=ar,nr:=nr,cr:=cr }
abbrev mLo (m:bM) (al:Option Addr) (nl cl:Nat):bM:={ m with al:=al,nl:=nl,cl:=cl }
abbrev mHi (m:bM) (ah:Option Addr) (nh ch:Nat):bM:={ m with ah:=ah,nh:=nh,ch:=ch }
theorem mC_rec {m:bM} (hr:ic m.root) (ar:Option Addr) (nr cr:Nat):(mC m).set 42 (.slice ar nr cr)=mC (mRec m ar nr cr):=by
 have d:=(bm hr).1;have l10:(mHd m).length=10:=rfl;have e:mC m=(mHd m++aY m.root)++(([m.nt,.bool m.want]++m.tl) ++ []):=by unfold mC;rw [EC,EN]
 rw [e,tO (j:=0) (o:=42) (by rw [DH,d,l10]) (by simp)];unfold mC;rw [EC,EN];rfl
theorem mC_lo (m:bM) (al:Option Addr) (nl cl:Nat):(mC m).set 7 (.slice al nl cl)=mC (mLo m al nl cl):=rfl
theorem mC_hi (m:bM) (ah:Option Addr) (nh ch:Nat):(mC m).set 8 (.slice ah nh ch)=mC (mHi m ah nh ch):=rfl
theorem isz3:bP prog 3 f3:=by constructor<;>kernel_rfl
theorem resultsz3:f3.results.toList = [.tmp 4]:=by kernel_rfl
theorem bz3_11e (C:aj) (e:aW) (h:ad):bz3_11 C 0 e h=kz3_9 C e h:=by unfold bz3_11;rw [DL rfl]
theorem rep_size (S:List ao) (x:AM) (hx:x.L.length<=70):(fo S x).1.length<=S.length+70/\(fo S x).2.1.length<=S.length+200 /\ ∀ a∈(fo S x).2.1,a.L.length<=S.length+70:=by
 have ml:=kj S x.L;unfold fo;split
 ·refine ⟨by simp,?_,fun a ha => ?_⟩
  ·simp only [DS];unfold fc;simp only;split
   ·exact FN _
   ·split<;>simp<;>omega
  ·obtain ⟨b,hb,rfl⟩:=E2.1 ha;have hfl:=EU (dA x.lo x.hi) S;show b.L.length<=_;unfold fc at hb;simp only at hb;split at hb
   ·cases hb
   ·split at hb
    ·rw [EH.1 hb];show (S.filter (dA x.lo x.hi)).length<=_;omega
    ·rcases FJ.1 hb with rfl|hb
     ·exact FN _
     ·rw [EH.1 hb];exact FN _
 ·split
  ·exact ⟨by simp,by simp,fun a ha=>by cases ha⟩
  ·split
   ·refine ⟨by show (bB S x.L).length<=_;omega,?_,fun a ha => ?_⟩
    ·simp only [DS];unfold dS;simp only;split
     ·have h1:=EU (fun r => !(decide (r∈x.L))) ((bB S x.L).filter (dA x.lo x.hi));have h2:=EU (dA x.lo x.hi) (bB S x.L);rw [DS];unfold kW;rw [DS,GW];omega
     ·exact FN _
    ·obtain ⟨b,hb,rfl⟩:=E2.1 ha;show b.L.length<=_;unfold dS at hb;simp only at hb;split at hb
     ·obtain ⟨p,hp,rfl⟩:=E2.1 hb;unfold kW at hp;obtain ⟨i,_,rfl⟩:=E2.1 hp;show (List.take 64 _).length<=_;rw [DW];have h1:=EU (fun r => !(decide (r∈x.L))) ((bB S x.L).filter (dA x.lo x.hi));have h2:=EU (dA x.lo x.hi) (bB S x.L);rw [D8];omega
     ·cases hb
   ·exact ⟨by simp,by simp,fun a ha=>by cases ha⟩
set_option maxRecDepth 100000 in
set_option maxHeartbeats 4000000 in
theorem rz3 {h:ad} (hG:4<=h.n0) (hz:h.get 3=some bX) (hr:GR h) (hg0:GZ h) {v u:Value} {L:List ao} (hv:eD h v L) {ms:List bM} {xs:List AM} (A:MsL h u ms xs) : ∃ h',CV 3 [v,u] h=some (.bool true,h'):=by
 have hll:=hv.rsl.len;have hlm:=A.ln;have kn : ∀ g,aA h g->CV 5 [] g=some (.bool true,g):=fun g og=>iy (f:=5) rfl (by decide) (r14 (aA.get og hz));have key : ∃ out:aS,tz3 CV v u h=out /\ ∃ h',out=some (.bool true,h'):=by
  refine ⟨_,rfl,?_⟩;unfold tz3;by_cases hbig:60<L.length
  ·simp -implicitDefEqProofs only [hll,jo L.length 60 60 rfl,DA hbig,vU,ax,DY,kn h (az.refl _ _),ae,af];exact ⟨h,rfl⟩
  ·by_cases hbm:12<ms.length
   ·simp -implicitDefEqProofs only [hll,hlm,jo L.length 60 60 rfl,DB hbig,bf,aw,DD,D3,jo ms.length 12 12 rfl,DA hbm,kn h (az.refl _ _),ae,af];exact ⟨h,rfl⟩
   ·cases hi:gz L with
    |true=>
     obtain ⟨vb,h1,e1,_,o1,_⟩:=r15E hG hv hi (by omega);obtain ⟨w,e',h2,e2,o2,r2⟩:=r16 (h:=h1) (by rw [o1.n0];exact hG) (hg0.old o1) (xU h1) (hv.mono o1) (fun r hr=>by cases hr) (by simp) (by omega);rcases r2 with ⟨_,rfl,rfl⟩|⟨hb,_⟩
     ·have e2:=iy (f:=7) rfl (by decide) e2;have x0:extractA (.tuple #[ptr vb 0,.int .i64 2]) 0=some (ptr vb 0):=rfl;have x1:extractA (.tuple #[ptr vb 0,.int .i64 2]) 1=some (.int .i64 2):=rfl;have y0:extractA (.tuple #[.slice none 0 0,.int .i64 2]) 0=some (.slice none 0 0):=rfl;have y1:extractA (.tuple #[.slice none 0 0,.int .i64 2]) 1=some (.int .i64 2):=rfl;have n22:aC prog .neq 26 (.int .i64 2) (.int .i64 2)=some (.bool false):=by rw [aZ];rfl
      have n20:aC prog .neq 26 (.int .i64 2) (.int .i64 0)=some (.bool true):=by rw [aZ];rfl
      have e22:aC prog .eql 26 (.int .i64 2) (.int .i64 2)=some (.bool true):=by rw [bA];rfl
      simp -implicitDefEqProofs only [hll,hlm,jo L.length 60 60 rfl,DB hbig,bf,bt,aw,DD,D3,DY,jo ms.length 12 12 rfl,DB hbm,e1,x0,x1,e2,y0,y1,n22,n20,e22,kn h2 (o1.trans o2),ae,af];exact ⟨h2,rfl⟩
     ·rw [hi] at hb;cases hb
    |false=>
     have vr : ∀ r∈L,de r=true:=fun r hr=>by
      unfold gz at hi;rw [F7] at hi;have:=hi r hr;cases hv:de r with
      |true=>rfl
      |false=>rw [hv] at this;exact absurd rfl this
     obtain ⟨vb,h1,e1,I1,o1,hvb⟩:=r15 hG hv vr (by omega);obtain ⟨w,e',h2,e2,o2,r2⟩:=r16 (h:=h1) (by rw [o1.n0];exact hG) (hg0.old o1) (xU h1) (hv.mono o1) (fun r hr=>by cases hr) (by simp) (by omega);rcases r2 with ⟨hb,_⟩|⟨_,rfl,r2⟩
     ·rw [hi] at hb;cases hb
     ·have e2:=iy (f:=7) rfl (by decide) e2;have O2:=o1.trans o2;have x0:extractA (.tuple #[ptr vb 0,.int .i64 0]) 0=some (ptr vb 0):=rfl;have x1:extractA (.tuple #[ptr vb 0,.int .i64 0]) 1=some (.int .i64 0):=rfl;have y0:extractA (.tuple #[w,.int .i64 0]) 0=some w:=rfl;have y1:extractA (.tuple #[w,.int .i64 0]) 1=some (.int .i64 0):=rfl;have n00:aC prog .neq 26 (.int .i64 0) (.int .i64 0)=some (.bool false):=by rw [aZ];rfl
      have ml:=kj [] L;simp -implicitDefEqProofs only [hll, hlm, jo L.length 60 60 rfl, DB hbig, bf, aw, DD, D3, jo ms.length 12 12 rfl, DB hbm, e1, x0, x1, e2, y0, y1, n00, ae, af];refine bq (n:=130) (fin:=fun ex y g=>aA h g/\(ex = .exit 0\/(ex = .ret/\y 4 = .bool true))) (Q:=fun o:aS => ∃ h',o=some (.bool true,h'))
       (bk (ti CV) (Inv:=fun k y g => ∃ i S,i+k=ms.length/\y 1=u/\y 5=ptr vb 0/\y 9=ak i/\aA h g/\zW g vb S/\eD g (y 7) S/\S.length<=60+70*i) ?_ ms.length (by have:aB=18446744073709551616:=rfl;omega) ⟨0,bB [] L,by omega,rfl,rfl,rfl,O2,I1.old o2,r2.zY,by rw [List.length_nil] at ml;omega⟩) ?_
      ·rintro k y g ⟨i,S,hik,y1,y5,y9,Og,I,rs,hS⟩;unfold kq;simp -implicitDefEqProofs only [y1,y9,hlm,eK,ae,af];by_cases hlt:i<ms.length
       ·have hlt':i<xs.length:=by rw [<-A.len];exact hlt
        obtain ⟨b,o,ix,ld⟩:=A.rd i hlt;have X:=A.is i hlt hlt';have L1:=ld g Og;generalize ms[i]=m at *;generalize xs[i]=x at *;have hd:=X.mg;have ok:=df hd;obtain ⟨g1,z1,p1,c1,s1⟩:=fresh zML g;obtain ⟨g2,e2',k2,c2,_,s2⟩:=aX (n:=116) (k':=mC m) c1 (by rw [p1.n0];exact g.n0_le_next) rfl ok.1 ok.2.2;have P2:aA g g2:=aA.bx p1 k2 (DF _);have M2:=gU hd c2;have hlr:=(X.rs.mono (Og.trans P2)).rsl.len;have zz1:dB zML g=some (ptr g.next 0,g1):=z1;by_cases b1:70<x.L.length
        ·simp -implicitDefEqProofs only [DA hlt,ix,L1,zz1,e2',ay,DG,M2.l42,hlr,jo x.L.length 70 70 rfl,DA b1,vU,ax,DY,kn g2 (Og.trans P2),ae,af];exact cR.ret ⟨Og.trans P2,.inr ⟨rfl,rfl⟩⟩
        ·have ll7:lenL m.lo=some (ak m.nl):=rfl;have ll8:lenL m.hi=some (ak m.nh):=rfl;by_cases b2:100<m.nl
         ·simp -implicitDefEqProofs only [DA hlt,ix,L1,zz1,e2',ay,DG,M2.l42,hlr,jo x.L.length 70 70 rfl,DB b1,bf,vU,aw,ax,DD,D3,DY,M2.l7,ll7,jo m.nl 100 100 rfl,DA b2,kn g2 (Og.trans P2),ae,af];exact cR.ret ⟨Og.trans P2,.inr ⟨rfl,rfl⟩⟩
         ·by_cases b3:100<m.nh
          ·simp -implicitDefEqProofs only [DA hlt, ix, L1, zz1, e2', ay, DG, M2.l42, hlr, jo x.L.length 70 70 rfl, DB b1, bf, aw, DD, D3, M2.l7, ll7, jo m.nl 100 100 rfl, DB b2, M2.l8, ll8, jo m.nh 100 100 rfl, DA b3, kn g2 (Og.trans P2), ae, af];exact cR.ret ⟨Og.trans P2,.inr ⟨rfl,rfl⟩⟩
          ·obtain ⟨g3,z3,p3,c3,s3⟩:=fresh zML g2;have n02:g2.n0=g.n0:=P2.n0;have gn0:=g.n0_le_next;have P2n:=P2.next;obtain ⟨g4,e4,k4,c4,_,s4⟩:=aX (n:=116) (k':=mC m) c3 (by rw [p3.n0];exact g2.n0_le_next) rfl ok.1 ok.2.2;have P4:aA g2 g4:=aA.bx p3 k4 (DF _);have zz3:dB zML g2=some (ptr g2.next 0,g3):=z3;have O4:=(Og.trans P2).trans P4;have Mx:=fun q (oq:aA g2 q)=>gU hd (aA.get oq c2);obtain ⟨v5,g5,e5,o5,r5⟩:=r26L (h:=g4) (by rw [O4.n0];exact hG) (X.rs.mono O4) (by omega);have e5:=iy (f:=8) rfl (by decide) e5;have O5:=O4.trans o5;obtain ⟨bl,sl,cl',g6,e6,t6,o6,l6,u6⟩:=Cx (c:=m.cl) (aA.bytes O5 X.lo) (by omega);have O6:=O5.trans o6;obtain ⟨bh,sh,ch',g7,e7,t7,o7,l7,u7⟩:=Cx (c:=m.ch) (aA.bytes O6 X.hi) (by omega);have O7:=O6.trans o7;have b6:=iY g5;have b7:=iY g6;have c7:=aA.get ((o5.trans o6).trans o7) c4;have q4:=P4.next;have q5:=o5.next;have q6:=o6.next;have s3':g3.next=g2.next+1:=s3;have n07:g7.n0=g2.n0:=(((P4.trans o5).trans o6).trans o7).n0;obtain ⟨rb,rsp,ev5,gr5,lr5,_⟩:=r5.2;subst ev5;obtain ⟨g8,e8,k8,c8,i8,s8⟩:=stored (o:=42) (v := .slice (some ⟨rb,0,rsp⟩) x.L.length x.L.length) c7 (by rw [n07];exact g2.n0_le_next) (by rw [ok.1];decide) rfl rfl;rw [mC_rec hd.d32] at c8;have mg8:MG (mRec m (some ⟨rb,0,rsp⟩) x.L.length x.L.length):=⟨hd.d32,hd.h4,hd.o4,hd.tl,hd.ht,hd.ot⟩
           obtain ⟨g9,e9,k9,c9,i9,s9⟩:=stored (o:=7) (v := .slice (some ⟨bl,0,sl⟩) m.nl cl') c8 i8 (by rw [(df mg8).1];decide) rfl rfl;rw [mC_lo] at c9;have mg9:MG (mLo (mRec m (some ⟨rb,0,rsp⟩) x.L.length x.L.length) (some ⟨bl,0,sl⟩) m.nl cl'):=⟨hd.d32,hd.h4,hd.o4,hd.tl,hd.ht,hd.ot⟩
           obtain ⟨g10,e10,k10,c10,i10,s10⟩:=stored (o:=8) (v := .slice (some ⟨bh,0,sh⟩) m.nh ch') c9 i9 (by rw [(df mg9).1];decide) rfl rfl;rw [mC_hi] at c10;have mg10:MG (mHi (mLo (mRec m (some ⟨rb,0,rsp⟩) x.L.length x.L.length) (some ⟨bl,0,sl⟩) m.nl cl') (some ⟨bh,0,sh⟩) m.nh ch'):=⟨hd.d32,hd.h4,hd.o4,hd.tl,hd.ht,hd.ot⟩
           have K10:az g7 g10 (· = g2.next):=(k8.trans k9).trans k10;have P7:aA g g7:=(((P2.trans P4).trans o5).trans o6).trans o7;have P10:aA g g10:=aA.bx P7 K10 P2n;have O10:=Og.trans P10;have P210:aA g2 g10:=aA.bx (((P4.trans o5).trans o6).trans o7) K10 (DF _);have t6':=aA.bytes o7 t6;have r7:=(((r5.old o6).old o7).keep K10 (fun q=>by have q:rb=g2.next:=q;omega))
           generalize hmy:mHi (mLo (mRec m (some ⟨rb,0,rsp⟩) x.L.length x.L.length) (some ⟨bl,0,sl⟩) m.nl cl') (some ⟨bh,0,sh⟩) m.nh ch'=my at *;have hmr:my.nt = .slice (some ⟨rb,0,rsp⟩) x.L.length x.L.length:=by rw [<-hmy]
           have X10:kH g10 my x:=by
            subst hmy;exact ⟨X.kind,X.frm,X.to,X.cnt,X.root,X.want,X.d32,az.bytes K10 t6' (fun y hy hn q=>by
             cases hy;have q:bl=g2.next:=q;omega),az.bytes K10 t7 (fun y hy hn q=>by
             cases hy;have q:bh=g2.next:=q;omega),r7.zY,mg10⟩
           have hnl':my.nl<=20000:=by rw [<-hmy];show m.nl<=_;omega
           have hnh':my.nh<=20000:=by rw [<-hmy];show m.nh<=_;omega
           have vlt:vb<g.next:=by obtain ⟨w',gw⟩:=I.cell;exact g.aO gw
           obtain ⟨w11,ms11,g11,e11,k11,I11,A11⟩:=r50 (h:=g10) (by rw [O10.n0];exact hG) (aA.get O10 hz) (I.old P10) X10 (by omega) (by omega) hnl' hnh';have O11:aA h g11:=aA.bx O10 k11 hvb;obtain ⟨wc,gwc⟩:=(I.old P10).cell;have rs11:=(rs.mono P10).keepC k11 gwc;obtain ⟨w12,u12,ms12,g12,e12,o12,r12,D12⟩:=rz10 (h:=g11) (by rw [O11.n0];exact hG) (hr.old O11) (hg0.old O11) rs11 I.vld (X.old O11) (by omega) (by omega) (by omega) (by omega);have e12:=iy (f:=10) rfl (by decide) e12;have O12:=O11.trans o12;obtain ⟨z1',z2',z3'⟩:=rep_size S x (by omega);obtain ⟨g13,e13,o13⟩:=rz11 (h:=g12) (by rw [O12.n0];exact hG) (A11.msl.old o12) D12.msl A11.mz (by omega) (fun a ha=>by have:=z3' a ha;omega);have e13:=iy (f:=11) rfl (by decide) e13;have O13:=O12.trans o13;obtain ⟨va,gva,rva,nva⟩:=(I11.old (o12.trans o13)).ex;obtain ⟨v14,g14,e14,o14,r14'⟩:=r23 (h:=g13) (by rw [O13.n0];exact hG) gva rva nva (by omega);have e14:=iy (f:=13) rfl (by decide) e14;have O14:=O13.trans o14;have e15:=iy (f:=12) rfl (by decide) (r19 (h:=g14) (by rw [O14.n0];exact hG) r14' (r12.mono (o13.trans o14)).rsl (by omega));rw [DA rfl] at e15;have o1114:aA g11 g14:=(o12.trans o13).trans o14;have cy11:=k11.getE c10 (by omega);have cx11:=k11.getE (aA.get P210 c2) (by omega);have My:=gU X10.mg c10;have My14:=gU X10.mg (aA.get o1114 cy11);have Mx11:=gU hd cx11;have Mx14:=gU hd (aA.get o1114 cx11);have e16:=iy (f:=12) rfl (by decide) (r19 (h:=g14) (by rw [O14.n0];exact hG) (by rw [hmr];exact ((r7.keep k11 (fun q=>by have q:rb=vb:=q;omega)).old o1114).zY.rsl:jK g14 my.nt x.L) (X.rs.mono O14).rsl (by omega));rw [DA rfl] at e16;have M4:=Mx g4 P4;have M5:=Mx g5 (P4.trans o5);have M6:=Mx g6 ((P4.trans o5).trans o6);have ckl : ∀ q,bF true (some (m.lo,q)) m.lo=true:=fun q=>iu ..;have ckh : ∀ q,bF true (some (m.hi,q)) m.hi=true:=fun q=>iu ..;generalize hE:(fo S x).2.2=E at *;have nee:aC prog .neq 26 (.int .i64 E) (.int .i64 E)=some (.bool false):=by rw [aZ,HJ]
           have xa:extractA (.tuple #[w11,.int .i64 E]) 0=some w11:=rfl;have xb:extractA (.tuple #[w11,.int .i64 E]) 1=some (.int .i64 E):=rfl;have xc:extractA (.tuple #[w12,u12,.int .i64 E]) 0=some w12:=rfl;have xd:extractA (.tuple #[w12,u12,.int .i64 E]) 1=some u12:=rfl;have xe:extractA (.tuple #[w12,u12,.int .i64 E]) 2=some (.int .i64 E):=rfl;have a9:aC prog .add 3 (ak i) (.int .i64 1)=some (ak (i+1)):=dh (by omega);simp -implicitDefEqProofs only [DA hlt, ix, L1, zz1, e2', ay, DG, M2.l42, hlr, jo x.L.length 70 70 rfl, DB b1, bf, aw, DD, D3, M2.l7, ll7, jo m.nl 100 100 rfl, DB b2, M2.l8, ll8, jo m.nh 100 100 rfl, DB b3, M2.all, zz3, e4, M4.l42, M4.l7, M4.l8, e5, b6, e6, b7, e7, e8, e9, e10, M5.l7, M5.l8, M6.l8, ckl, ckh, DV, y5, My.all, e11, xa, xb, Mx11.all, e12, xc, xd, xe, nee, e13, aT, DP, e14, e15, My14.l42, Mx14.l42, e16, a9, ae, af];exact cR.next (k-1) (by omega) ⟨i+1,(fo S x).1,by omega,y1,y5,rfl,O14,I11.old o1114,r12.mono (o13.trans o14),by omega⟩
       ·simp -implicitDefEqProofs only [DB hlt];exact cR.out 0 ⟨Og,.inl rfl⟩
      ·rintro ex z g ⟨og,rfl|⟨rfl,z4⟩⟩
       ·simp -implicitDefEqProofs only [aV,bz3_11e,tz3k3_9_eq];unfold C0;simp -implicitDefEqProofs only [kn g og,ae];exact ⟨g,rfl⟩
       ·rw [fq,cE,gu resultsz3 (by decide),z4];exact ⟨g,rfl⟩
 obtain ⟨q,e,h',e'⟩:=key;exact ⟨h',iv isz3 hG (by decide) (by decide) ((tz3_eq _ _ _ _).trans (e.trans e'))⟩
end Go.Proofs.YtdnahgfgoajmcaaGreatDoor
