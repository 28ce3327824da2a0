/-
  A part of the proof, spaces and names shortened by a program (a claim may hold 1,500,000 bytes).
  Conditions: as each theorem states.
-/
import Derived.Test.YtdnahgfgoajmcaaGreatDoorG19
import Derived.Test.YtdnahgfgoajmcaaGreatDoorProg
import Derived.KernelRfl
namespace Go.Proofs.YtdnahgfgoajmcaaGreatDoor
open Go Go.Abs Tryz
open Go.Lib (compareBytes)
attribute [local congr] aw
theorem ql.cellW {h h':ai} {c:Nat} {w:Value} {m:cR} {x:AM} (M:ql h m x) (k:az h h' (· = c)) (hc:h.get c=some [w]) (hw : ∃ a n d,w = .slice a n d):ql h' m x:=by
 have nb : ∀ {a:Option Addr} {n:Nat} {l:List Nat},ax a n h=some l->ax a n h'=some l:=fun {a n l} e=>by
  refine az.bytes k e fun y hy hn q => ?_;have q:y.block=c:=q;obtain ⟨_,_,s3⟩:=aH e;obtain ⟨b,off,s,kk,rfl,hk,hl,ht⟩:=s3 hn;cases hy;have q:b=c:=q;subst q;rw [hc] at hk;cases hk;have h0:=ht 0 hn;obtain ⟨a',n',d',rfl⟩:=hw;have hl:off+n<=1:=hl;have:off=0:=by omega
  subst this;cases h0
 exact ⟨M.kind,M.frm,M.to,M.cnt,M.root,M.want,M.d32,nb M.lo,nb M.hi,M.rs.keepC k hc,M.mg⟩
theorem call132 (r y:Value) (h:ai):callA prog CW (.func (.func 66) #[] #[y]) [r] h=CW 66 [r,y] h:=by have hf:=EY fs_135;unfold callA;simp only;generalize prog.funcs.size=n at *;rw [DL (show (66:Nat)<n by omega)];rfl
theorem call101 (r y:Value) (h:ai):callA prog CW (.func (.func 29) #[] #[y]) [r] h=CW 29 [r,y] h:=by have hf:=EY fs_135;unfold callA;simp only;generalize prog.funcs.size=n at *;rw [DL (show (29:Nat)<n by omega)];rfl
def fQ (T:List av) (x:AM):List AM:=
 let l:=(T.filter (cX x.lo x.hi)).filter fun r => !(decide (r∈x.L))
 if x.want=true then (nU l ((l.length+63)/64)).map fun p=>dQ x.lo x.hi p false else []
theorem wT.ans {g:ai} {N M:Nat} {w:Value} {ms:List cR} {xs:List AM} (A:wT g N w ms xs) (hM:M<=N):xM g M w ms xs:=by
 refine ⟨?_,A.len,A.is,fun i hi hi'=>(A.own i hi hi').weak hM⟩;rcases A.sl.form with ⟨h1,h2⟩|⟨b,s,h1,h2,h3,_⟩
 ·exact .inl ⟨h2,DW.1 h1⟩
 ·exact .inr ⟨b,s,h1,h2,D7 hM h3,A.bel b (by rw [h1];rfl)⟩
set_option maxRecDepth 100000 in
set_option maxHeartbeats 1000000 in
theorem r103 {h:ai} (hG:4<=h.n0) {vb:Nat} {S:List av} (I:kj h vb S) {m:cR} {x:AM} (X:ql h m x) (vr : ∀ r∈x.L,dX r=true) (hS:S.length<=40000) (hL:x.L.length<=40000) (hnl:m.nl<=20000) (hnh:m.nh<=20000) :
  ∃ w ms h',CV 31 [ptr vb 0,mV m] h=some (w,h')/\az h h' (· = vb)/\kj h' vb (aT S x.L)/\xM h' h.next w ms (fQ (aT S x.L) x)/\(∀ c,iR w=some c -> ∀ va,h'.get vb=some [va]->slB va≠some c) /\ ∀ va b,h'.get vb=some [va]->slB va=some b->h.next<=b:=by
 have hd:MG m:=X.mg;have ok:=gf hd;have b1:box (mV m) h=some (ptr h.next 0,h.alloc (mC m)):=fj h _ ok.2.2;have o1:aE h (h.alloc (mC m)):=az.alloc _ _ _;have g1:(h.alloc (mC m)).get h.next=some (mC m):=by rw [ai.aN,DL rfl]
 have n1:(h.alloc (mC m)).next=h.next+1:=rfl;generalize h.alloc (mC m)=h1 at *;have I1:=I.old o1;have X1:=X.old o1;have M1:=qz hd g1;obtain ⟨wc,hc⟩:=I1.cell;have hws : ∃ a n d,wc = .slice a n d:=by obtain ⟨va,gv,rv,_⟩:=I1.ex;rw [hc] at gv;cases gv;obtain ⟨_,a,d,e,_⟩:=rv;exact ⟨_,_,_,e⟩
 have vlt:vb<h.next:=by obtain ⟨w,gw⟩:=I.cell;exact h.aO gw
 obtain ⟨h2,e2,I2,k2,lc⟩:=r25B I1 X1.rs.rsl vr (by omega) (by omega);have X2:=X1.cellW k2 hc hws;have g2:h2.get h.next=some (mC m):=k2.getE g1 (by omega);have K2:az h h2 (· = vb):=(o1.mono fun _ _ h=>h.elim).trans k2;have M2:=qz hd g2;have ml:=kY S x.L;have e2':CV 21 [ptr vb 0,m.od] h1=some (.int .i64 0,h2):=e2;have l43:ld1 (ptr h.next 43) h2=some (.bool x.want,h2):=by rw [<-X.want];exact M2.l43
 generalize aT S x.L=T at *;have rep:fQ T x=if x.want=true then (nU ((T.filter (cX x.lo x.hi)).filter fun r => !(decide (r∈x.L))) ((((T.filter (cX x.lo x.hi)).filter fun r => !(decide (r∈x.L))).length+63)/64)).map fun p=>dQ x.lo x.hi p false else []:=rfl
 cases hwant:x.want with
 |false=>
  rw [hwant] at l43;rw [DM (by rw [hwant];decide)] at rep;rw [rep];refine ⟨.slice none 0 0,[],h2,jX is103 hG (by decide) (by decide) ((t103_eq _ _ _ _).trans ?_),K2,I2,⟨.inl ⟨rfl,rfl⟩,rfl,fun i h=>absurd h (FP i),fun i h=>absurd h (FP i)⟩,(fun c h=>by cases h),fun va b g q=>by have:=lc va b g q;omega⟩;unfold t103;simp -implicitDefEqProofs only [b1,aB,DH,M1.l42,e2',l43,aV,DO,aj,ak]
 |true=>
  rw [hwant] at l43;rw [DL hwant] at rep;rw [rep];obtain ⟨va,gv,rv,nv⟩:=I2.ex;have G2:4<=h2.n0:=by rw [K2.n0];exact hG
  obtain ⟨w3,h3,e3,o3,r3,f3⟩:=r20L (h:=h2) (cl:=m.cl) (ch:=m.ch) G2 gv rv nv I2.ks (by omega) X2.lo X2.hi;have e3:=jx (f:=18) rfl (by decide) e3;have old2 : ∀ {g:ai},az h3 g (fun c=>h2.next<=c)->aE h2 g:=fun K=>o3.also K (fun d hd q=>by omega);have hfl:=FB (cX x.lo x.hi) T;obtain ⟨w4,h4,e4,k4,r4,n4,b4⟩:=r131 (h:=h3) (by rw [o3.n0];exact G2) (N:=h2.next) (by rw [o3.n0];exact h2.n0_le_next) o3.next (fv := .func (.func 66) #[] #[ptr h.next 0]) r3 f3 (by omega) (fun r=>decide (r∈x.L))
   (fun r hr w g K=>by rw [call132];have Og:=old2 K;exact r132 (by rw [Og.n0];exact G2) (qz hd (aE.get Og g2)) (aE.get Og g2) hd (X2.rs.mono Og).rsl (by omega) w)
  have e4:=jx (f:=65) rfl (by decide) e4;have O4:=old2 k4;generalize hR:(T.filter (cX x.lo x.hi)).filter (fun r => !(decide (r∈x.L)))=R at *;have hRl:R.length<=100000:=by have:=FB (fun r => !(decide (r∈x.L))) (T.filter (cX x.lo x.hi));rw [hR] at this;omega
  obtain ⟨a4,c4,rfl⟩ : ∃ a c,w4 = .slice a R.length c:=by obtain ⟨_,a,d,e,_⟩:=r4;exact ⟨a,d,e⟩
  obtain ⟨h5,z5,o5,g5,n5⟩:=fresh [.slice none 0 0] h4;have G5:4<=h5.n0:=by rw [o5.n0,O4.n0];exact G2
  have e6:=jx (f:=68) rfl (by decide) (r134 G5 a4 R.length c4);have o6:aE h5 ((h5.alloc [.slice a4 R.length c4]).alloc [.int .i64 64]):=(az.alloc _ _ _).trans (az.alloc _ _ _);have p1:((h5.alloc [.slice a4 R.length c4]).alloc [.int .i64 64]).get h5.next=some [.slice a4 R.length c4]:=by rw [ai.aN,DM (show ¬h5.next=(h5.alloc [.slice a4 R.length c4]).next by show ¬h5.next=h5.next+1;omega),ai.aN,DL rfl]
  have p2:((h5.alloc [.slice a4 R.length c4]).alloc [.int .i64 64]).get (h5.next+1)=some [.int .i64 64]:=by rw [ai.aN,DL (show h5.next+1=(h5.alloc [.slice a4 R.length c4]).next from rfl)]
  have n6:((h5.alloc [.slice a4 R.length c4]).alloc [.int .i64 64]).next=h5.next+1+1:=rfl;generalize (h5.alloc [.slice a4 R.length c4]).alloc [.int .i64 64]=h6 at *;have key : ∃ out:bc,t103 CV (ptr vb 0) (mV m) h=out /\ ∃ w ms h',out=some (w,h')/\az h h' (· = vb)/\kj h' vb T/\xM h' h.next w ms ((nU R ((R.length+63)/64)).map fun p=>dQ x.lo x.hi p false)/\(∀ c,iR w=some c -> ∀ va,h'.get vb=some [va]->slB va≠some c) /\ ∀ va b,h'.get vb=some [va]->slB va=some b->h.next<=b:=by
   refine ⟨_,rfl,?_⟩;unfold t103;simp -implicitDefEqProofs only [b1,aB,DH,M1.l42,e2',l43,aV,DP,M2.l7,M2.l8,e3,e4,z5,e6,aj,ak];generalize hY:up (bs [ptr vb 0,mV m]) _=Y;have Y24:Y 24 = .func (.func 92) #[] #[ptr h5.next 0,ptr (h5.next+1) 0]:=by rw [<-hY];rfl
   have Y3:Y 3=ptr h.next 0:=by rw [<-hY];rfl
   have Y6:Y 6=ptr h4.next 0:=by rw [<-hY];rfl
   obtain ⟨h7,v,ms,e7,O7,gv7,A7⟩:=chunk_all (h1:=h4) (h:=h6) (by rw [O4.n0];exact G2) (o5.trans o6) hRl r4 n4 (X2.old O4) (aE.get O4 g2) hnl hnh (by omega) (aE.get o6 g5) p1 p2 (by omega) (by omega) Y24 Y3 Y6;rw [e7];rw [endN_n,AH];unfold sG;have lv:ld1 (ptr h4.next 0) h7=some (v,h7):=aW gv7 rfl (by rcases A7.sl.wform with rfl|⟨b,s,n,rfl⟩<;>rfl)
   simp -implicitDefEqProofs only [Y6,lv,aj];have O27:=O4.trans O7;exact ⟨v,ms,h7,rfl,K2.also O27 (fun _ _ q=>q.elim),I2.old O27,A7.ans (by have:=O4.next;have:=K2.next;omega),(fun c hc va' hva' q=>by
    have h1:=(A7.sl.blk hc).1;rw [aE.get O27 gv] at hva';cases hva';have h2:=rv.slB_lt q;have:=O4.next;omega),fun va' b' hva' q=>by
    rw [aE.get O27 gv] at hva';cases hva';have:=lc va b' gv q;omega⟩
  obtain ⟨q,e,w,ms,h',e',oo⟩:=key;exact ⟨w,ms,h',jX is103 hG (by decide) (by decide) ((t103_eq _ _ _ _).trans (e.trans e')),oo⟩
def fX (S:List av) (x:AM):List av×List AM×Int:=
 if x.kind=4/\0<=x.cnt then (S,(fV S x).map (dN x.to x.frm),0)
 else if x.kind=5/\64<x.L.length then (S,[],3)
 else if x.kind=5/\x.L.any (yu x.lo x.hi)=false then (aT S x.L,(fQ (aT S x.L) x).map (dN x.to x.frm),0)
 else (S,[],2)
theorem nilAns (g:ai) (N:Nat):xM g N (.slice none 0 0) [] []:=⟨.inl ⟨rfl,rfl⟩,rfl,fun i h=>absurd h (FP i),fun i h=>absurd h (FP i)⟩
set_option maxRecDepth 100000 in
set_option maxHeartbeats 1000000 in
theorem r50L {h:ai} (hG:4<=h.n0) (hz:h.get 3=some bT) {vb:Nat} {S:List av} (I:kj h vb S) {m:cR} {x:AM} (X:ql h m x) (hS:S.length<=40000) (hL:x.L.length<=40000) (hnl:m.nl<=20000) (hnh:m.nh<=20000) :
  ∃ w ms h',CV 9 [ptr vb 0,mV m] h=some (.tuple #[w,.int .i64 (fX S x).2.2],h')/\az h h' (· = vb)/\kj h' vb (fX S x).1/\xM h' h.next w ms (fX S x).2.1 /\ ∀ va b,h'.get vb=some [va]->slB va=some b->h.next<=b\/h.get vb=some [va]:=by
 by_cases q1:x.kind=4/\0<=x.cnt
 ·obtain ⟨va,gv,rv,nv⟩:=I.ex;obtain ⟨w,ms,h',e,o,A⟩:=r50s hG hz gv rv nv I.ks I.vld (by omega) X hnl hnh q1.1 q1.2;have er:fX S x=(S,(fV S x).map (dN x.to x.frm),0):=by unfold fX;rw [DL q1]
  rw [er];exact ⟨w,ms,h',e,o.mono fun _ _ h=>h.elim,I.old o,A,fun va' b' g _ => .inr (by rw [aE.get o gv] at g;rw [<-g];exact gv)⟩
 ·have hd:MG m:=X.mg;have ok:=gf hd;have b1:box (mV m) h=some (ptr h.next 0,h.alloc (mC m)):=fj h _ ok.2.2;have o1:aE h (h.alloc (mC m)):=az.alloc _ _ _;have g1:(h.alloc (mC m)).get h.next=some (mC m):=by rw [ai.aN,DL rfl]
  have n1:(h.alloc (mC m)).next=h.next+1:=rfl;generalize h.alloc (mC m)=h1 at *;have M:=qz hd g1;have same : ∀ {g:ai},aE h g -> ∀ va b,g.get vb=some [va]->slB va=some b->h.next<=b\/h.get vb=some [va]:=fun {g} o va b gg _ => .inr (by obtain ⟨u,gu⟩:=I.cell;rw [aE.get o gu] at gg;rw [<-gg];exact gu)
  have l0:=M.l0;rw [X.kind] at l0;have l9:ld1 (ptr h.next 9) h1=some (.int .i64 x.cnt,h1):=by rw [<-X.cnt];exact M.l9
  have X1:=X.old o1;have hlr:=X1.rs.rsl.len;have vlt:vb<h.next:=by obtain ⟨w,gw⟩:=I.cell;exact h.aO gw
  have k4:=eq31k x.kind 4 4 rfl;have k5:=eq31k x.kind 5 5 rfl;by_cases q5:x.kind=5
  ·have n4 : ¬x.kind=4:=by omega
   by_cases q64:64<x.L.length
   ·have er:fX S x=(S,[],3):=by unfold fX;rw [DM q1,DL ⟨q5,q64⟩]
    rw [er];refine ⟨.slice none 0 0,[],h1,jX is50 hG (by decide) (by decide) ((zL _ _ _ _).trans ?_),o1.mono (fun _ _ h=>h.elim),I.old o1,nilAns _ _,same o1⟩;unfold t50;simp -implicitDefEqProofs only [b1,mM,aB,DH,l0,k4,DF n4,bf',bt,aC,aG,DG,EF,EA,k5,DC q5,M.l42,hlr,zk x.L.length 64 64 rfl,DC q64,aj,ak]
   ·obtain ⟨h2,e2,o2⟩:=r60 (h:=h1) (by rw [o1.n0];exact hG) (fv := .func (.func 29) #[] #[ptr h.next 0]) X1.rs.rsl (by omega) (yu x.lo x.hi) (fun r hr w g og=>by rw [call101];exact r101 (by rw [(o1.trans og).n0];exact hG) (aE.get og g1) (X1.old og) hnl hnh w)
    have e2:CV 28 [m.od,.func (.func 29) #[] #[ptr h.next 0]] h1=some (.bool (x.L.any (yu x.lo x.hi)),h2):=jx (f:=28) rfl (by decide) e2;have O2:=o1.trans o2;cases hout:x.L.any (yu x.lo x.hi) with
    |true=>
     rw [hout] at e2;have er:fX S x=(S,[],2):=by unfold fX;rw [DM q1,DM (fun q=>q64 q.2),DM (fun q=>by rw [hout] at q;cases q.2)]
     rw [er];refine ⟨.slice none 0 0,[],h2,jX is50 hG (by decide) (by decide) ((zL _ _ _ _).trans ?_),O2.mono (fun _ _ h=>h.elim),I.old O2,nilAns _ _,same O2⟩;unfold t50;simp -implicitDefEqProofs only [b1,mM,aB,DH,l0,k4,DF n4,bf',bt,aC,aG,DG,EF,EA,k5,DC q5,M.l42,hlr,zk x.L.length 64 64 rfl,DF q64,e2,aV,DP,aj,ak]
    |false=>
     rw [hout] at e2;have er:fX S x=(aT S x.L,(fQ (aT S x.L) x).map (dN x.to x.frm),0):=by unfold fX;rw [DM q1,DM (fun q=>q64 q.2),DL ⟨q5,hout⟩]
     rw [er];have vr : ∀ r∈x.L,dX r=true:=fun r hr=>by
      rw [H3] at hout;have:=hout r hr;unfold yu at this;cases hv:dX r with
      |true=>rfl
      |false=>rw [hv] at this;exact absurd rfl this
     have M2:=qz hd (aE.get o2 g1);obtain ⟨w,ms,h3,e3,k3,I3,A3,sep,lc⟩:=r103 (h:=h2) (by rw [O2.n0];exact hG) (I.old O2) (X.old O2) vr hS hL hnl hnh;have hlen:ms.length<=1000000:=by
      rw [A3.len];have ml:=kY S x.L;unfold fQ;simp only;split
      ·have h1:=FB (fun r => !(decide (r∈x.L))) ((aT S x.L).filter (cX x.lo x.hi));have h2:=FB (cX x.lo x.hi) (aT S x.L);rw [DY];unfold nU;rw [DY,IJ];omega
      ·exact FN _
     have ln:lenL w=some (aq ms.length):=by rcases A3.sl with ⟨rfl,rfl⟩|⟨b,s,rfl,_⟩<;>rfl
     have K3:az h h3 (· = vb):=(O2.mono fun _ _ h=>h.elim).trans k3;have n2:=o2.next;have key : ∃ out:bc,t50 CV (ptr vb 0) (mV m) h=out /\ ∃ w ms h',out=some (.tuple #[w,.int .i64 0],h')/\az h h' (· = vb)/\kj h' vb (aT S x.L)/\xM h' h.next w ms ((fQ (aT S x.L) x).map (dN x.to x.frm)) /\ ∀ va b,h'.get vb=some [va]->slB va=some b->h.next<=b\/h.get vb=some [va]:=by
      refine ⟨_,rfl,?_⟩;unfold t50;simp -implicitDefEqProofs only [b1,mM,aB,DH,l0,k4,DF n4,bf',bt,aC,aG,DG,EF,EA,k5,DC q5,M.l42,hlr,zk x.L.length 64 64 rfl,DF q64,e2,aV,DO,M2.all,e3,ln,aj,ak];refine bH (Q:=fun o:bc => ∃ w ms h',o=some (.tuple #[w,.int .i64 0],h')/\az h h' (· = vb)/\kj h' vb (aT S x.L)/\xM h' h.next w ms ((fQ (aT S x.L) x).map (dN x.to x.frm)) /\ ∀ va b,h'.get vb=some [va]->slB va=some b->h.next<=b\/h.get vb=some [va]) (rep_loop (C:=CV) A3 (by rw [k3.n0];exact h2.n0_le_next) hd (k3.getE (aE.get o2 g1) (by omega)) (mb:=h.next) (by omega) hlen rfl rfl rfl rfl) ?_;rintro ex z g ⟨rfl,z6,K,A'⟩;simp -implicitDefEqProofs only [bk,b50_10f,wB];unfold tq;simp -implicitDefEqProofs only [z6,aj];rw [X.to,X.frm] at A';have n3:=k3.next;refine ⟨w,ms.map (pe x.to x.frm),g,rfl,K3.also K (fun d hd q=>by have:=q.2;omega),?_,?_,?_⟩
      ·obtain ⟨va,gv,rv,nv⟩:=I3.ex;refine ⟨by rw [K.n0];exact I3.n0,⟨va,K.getE gv (fun q=>by have:=q.2;omega),?_,nv⟩,I3.vld,I3.ks⟩;obtain ⟨hd',a,d,ea,hn',ht',h0⟩:=rv;refine ⟨hd',a,d,ea,hn',ht',fun hp => ?_⟩;obtain ⟨b,off,s,qq,eb,hk,hl,hcs⟩:=h0 hp;refine ⟨b,off,s,qq,eb,K.getE hk (fun q => ?_),hl,hcs⟩;refine sep b q.1 va gv ?_;rw [ea,eb];cases hm:(aT S x.L).length with
       |zero=>omega
       |succ n=>rfl
      ·refine ⟨?_,A'.len,A'.is,fun i hi hi'=>(A'.own i hi hi').weak O2.next⟩;rcases A'.sl with q|⟨b,s,q1,q2,q3,q4⟩
       ·exact .inl q
       ·exact .inr ⟨b,s,q1,q2,D7 O2.next q3,q4⟩
      ·intro va' b' hva' q;obtain ⟨va,gv,_⟩:=I3.ex;rw [K.getE gv (fun q=>by have:=q.2;omega)] at hva';cases hva';have:=lc _ b' gv q;exact .inl (by omega)
     obtain ⟨q,e,w',ms',h',e',oo⟩:=key;exact ⟨w',ms',h',jX is50 hG (by decide) (by decide) ((zL _ _ _ _).trans (e.trans e')),oo⟩
  ·have er:fX S x=(S,[],2):=by unfold fX;rw [DM q1,DM (fun q=>q5 q.1),DM (fun q=>q5 q.1)]
   rw [er];refine ⟨.slice none 0 0,[],h1,jX is50 hG (by decide) (by decide) ((zL _ _ _ _).trans ?_),o1.mono (fun _ _ h=>h.elim),I.old o1,nilAns _ _,same o1⟩;unfold t50;by_cases q4:x.kind=4
   ·have qc : ¬0<=x.cnt:=fun q=>q1 ⟨q4,q⟩;simp -implicitDefEqProofs only [b1,mM,aB,DH,l0,k4,DC q4,bf',bt,aC,aG,l9,ge0,DF qc,DG,EF,EA,k5,DF q5,aj,ak]
   ·simp -implicitDefEqProofs only [b1,mM,aB,DH,l0,k4,DF q4,bf',aG,DG,EF,k5,DF q5,aj,ak]
structure MNb (b:Nat) (m:cR):Prop where
 lo:0<m.nl -> ∀ y,m.al=some y->y.block≠b
 hi:0<m.nh -> ∀ y,m.ah=some y->y.block≠b
 rs:slB m.od≠some b
theorem qT {a:Option Addr} {n:Nat} {h:ai} {l:List Nat} (e:ax a n h=some l) (hn:0<n) {y:Addr} (hy:a=some y):y.block<h.next:=by obtain ⟨_,_,s3⟩:=aH e;obtain ⟨b,off,s,k,rfl,hk,_⟩:=s3 hn;cases hy;exact h.aO hk
theorem gC.slb {h:ai} {v:Value} {L:List av} (x:gC h v L) {b:Nat} (e:slB v=some b):b<h.next:=by
 obtain ⟨hd,a,d,rfl,hn,ht,h0⟩:=x;cases hL:L.length with
 |zero=>rw [hL] at e;cases a<;>cases e
 |succ n=>
  obtain ⟨b',off,s,k,rfl,hk,_⟩:=h0 (by omega);rw [hL] at e;cases e;exact h.aO hk
theorem MNb.of {g:ai} {m:cR} {x:AM} (X:ql g m x) {b:Nat} (hb:g.next<=b):MNb b m:=
 ⟨fun hn y hy=>by have:=qT X.lo hn hy;omega,fun hn y hy=>by have:=qT X.hi hn hy;omega,fun e=>by have:=X.rs.slb e;omega⟩
theorem ql.keepN {g g':ai} {m:cR} {x:AM} (X:ql g m x) {b:Nat} (k:az g g' (· = b)) (nb:MNb b m):ql g' m x:=
 ⟨X.kind,X.frm,X.to,X.cnt,X.root,X.want,X.d32,az.bytes k X.lo fun y hy hn q=>nb.lo hn y hy q,az.bytes k X.hi fun y hy hn q=>nb.hi hn y hy q,X.rs.keepS k nb.rs,X.mg⟩
theorem slB_gsB {v:Value} {b:Nat} (e:slB v=some b):iR v=some b:=by
 unfold slB at e;split at e
 ·cases e;rfl
 ·cases e
theorem allT {p:Value->Bool} {l:List Value} (h:l.all p=true) (j:Nat):(l.take j).all p=true:=by rw [DR] at *;exact fun x hx=>h x (EZ hx)
theorem allD {p:Value->Bool} {l:List Value} (h:l.all p=true) (j:Nat):(l.drop j).all p=true:=by rw [DR] at *;exact fun x hx=>h x (FJ hx)
theorem dP.first {z:Nat} {h:ai} {N:Nat} {v:Value} {n:Nat} {cs:List Value} (x:dP z h N v n cs):firstA z n v h=some cs:=by
 have hlen:=x.len;rcases x.form with ⟨rfl,rfl⟩|⟨b,s,rfl,g1,g2,g3⟩
 ·have:cs = []:=FG (by rw [hlen,GI]);subst this;rfl
 ·unfold firstA;simp only;by_cases hz2:n*z=0
  ·rw [DL hz2,FG (by omega:cs.length=0)]
  ·have e2:(cs.drop 0).take (n*z)=cs:=by rw [EP,DX (by omega)]
   rw [DM hz2,g1];simp only;rw [e2,DL ⟨by omega,x.hol⟩]
theorem dP.pushS {z jt:Nat} {h:ai} {N:Nat} {v w:Value} {n m:Nat} {cs news:List Value} (x:dP z h N v n cs) (_:0<z) (hb:jt<=1000) (h0:h.n0<=N) (hN:N<=h.next) (hl:n<=1000000) (hm:m<=1000000) (hw:ik w=some m) (hf:firstA z m w h=some news) (he:news.length=m*z) (ho:Abs.noHoles news=true) (h1:aM news=true) :
  ∃ v' h',appendA z jt v w h=some (v',h')/\dP z h' N v' (n+m) (cs++news)/\az h h' (fun b=>iR v=some b)/\(m=0->v'=v/\h'=h)/\(0<m->iR v'=some h.next/\h'.next=h.next+1):=by
 have hlen:=x.len;have hcond:(!(aM news) || !(decide ((n+m)*jt<=140737488355328)) || !(decide (n+m<=4611686018427387904))||decide (news.length≠m*z))=false:=by have h5:(n+m)*jt<=2000000*1000:=Nat.mul_le_mul (by omega) hb;rw [h1,DC (by omega:(n+m)*jt<=140737488355328),DC (by omega:n+m<=4611686018427387904),DF (by omega)];rfl
 have hfo:=x.first;by_cases m0:m=0
 ·subst m0;have:news = []:=FG (by rw [he,GI]);subst this;refine ⟨v,h,?_,by rw [EU];exact x,az.refl _ _,fun _=>⟨rfl,rfl⟩,fun h=>absurd h (GH 0)⟩;rcases x.form with ⟨rfl,rfl⟩|⟨b,s,rfl,g1,g2,g3⟩
  ·unfold appendA;simp only [hw,hf];rw [DM (by rw [hcond];decide),DL (by decide),DL trivial]
  ·unfold appendA;simp only [hw,hf];rw [DM (by rw [hcond];decide),DL (by omega),DL trivial]
 ·have hlen':(cs++news).length=(n+m)*z:=by rw [DE,hlen,he,HM]
  have hol':Abs.noHoles (cs++news)=true:=by have h2:=x.hol;unfold Abs.noHoles at *;rw [FI,h2,ho];rfl
  have one':aM (cs++news)=true:=by have h2:=x.one;unfold aM at *;rw [FI,h2,h1];rfl
  have fin : ∀ g:ai,N<=g.next->dP z (g.alloc (cs++news)) N (.slice (some ⟨g.next,0,some z⟩) (n+m) (n+m)) (n+m) (cs++news):=fun g hg=>
   ⟨hlen',hol',one',.inr ⟨g.next,some z,rfl,by rw [ai.aN,DL rfl],hg,.inr ⟨by omega,rfl⟩⟩⟩
  rcases x.form with ⟨rfl,rfl⟩|⟨b,s,rfl,g1,g2,g3⟩
  ·have hcs:cs = []:=FG (by rw [hlen,GI]);subst hcs;refine ⟨.slice (some ⟨h.next,0,some z⟩) (0+m) (0+m),h.alloc ([]++news),?_,fin h hN,az.alloc _ _ _,fun h=>absurd h m0,fun _=>⟨rfl,rfl⟩⟩;unfold appendA;simp only [hw,hf];rw [DM (by rw [hcond];decide),DM (by omega)];rfl
  ·rcases g3 with ⟨_,rfl⟩|⟨_,rfl⟩
   ·refine ⟨.slice (some ⟨h.next,0,some z⟩) (n+m) (n+m),h.alloc (cs++news),?_,fin h hN,az.alloc _ _ _,fun h=>absurd h m0,fun _=>⟨rfl,rfl⟩⟩;unfold appendA;simp only [hw,hf];rw [DM (by rw [hcond];decide),DM (by omega)];simp only [hfo];rw [DM (by omega)]
   ·refine ⟨.slice (some ⟨h.next,0,some z⟩) (n+m) (n+m),(h.kill b).alloc (cs++news),?_,fin (h.kill b) hN,?_,fun h=>absurd h m0,fun _=>⟨rfl,rfl⟩⟩
    ·unfold appendA;simp only [hw,hf];rw [DM (by rw [hcond];decide),DM (by omega)];simp only [hfo];rw [DM (by omega),DL (by rw [g1];simp;omega)]
    ·refine ⟨rfl,by simp,fun q hq hb => ?_⟩;rw [ai.cN,ai.fU,DM (by omega)];unfold ai.kill;rw [h.cT (by omega) (h.aO g1),DM (fun e=>hb (by rw [e];rfl))]
theorem dP.takeS {z:Nat} {h:ai} {N:Nat} {v:Value} {n:Nat} {cs:List Value} (x:dP z h N v n cs) (hz:0<z) {j:Nat} (hj:j<=n) : ∃ v',nT z v none (some (aq j)) none=some v'/\ik v'=some j /\ ∀ g:ai,(∀ b,iR v=some b->g.get b=h.get b)->firstA z j v' g=some (cs.take (j*z)):=by
 have hlen:=x.len;rcases x.form with ⟨rfl,rfl⟩|⟨b,s,rfl,g1,g2,g3⟩
 ·obtain rfl:j=0:=by omega
  have:cs = []:=FG (by rw [hlen,GI]);subst this;exact ⟨.slice none 0 0,rfl,rfl,fun _ _=>by simp [firstA]⟩
 ·have hf : ∀ (sp:Option Nat) (c:Nat) (g:ai),g.get b=h.get b->firstA z j (.slice (some ⟨b,0,sp⟩) j c) g=some (cs.take (j*z)):=fun sp c g hg=>by
   unfold firstA;simp only;by_cases hz2:j*z=0
   ·rw [DL hz2,hz2,List.take_zero]
   ·have hle:j*z<=cs.length:=by rw [hlen];exact GC _ hj
    rw [DM hz2,hg,g1];simp only [EP];rw [DL ⟨by omega,allT x.hol _⟩]
  have bh:boundsA n n none (some (aq j)) none=some (0,j,n):=bnd_hi hj (DD _);rcases g3 with ⟨h0,rfl⟩|⟨h0,rfl⟩
  ·refine ⟨.slice (some ⟨b,if n=0 then 0 else 0+0*z,none⟩) (j-0) (n-0),?_,rfl,fun g hg => ?_⟩
   ·unfold nT sliceSl;simp only [bh]
   ·have:(if n=0 then 0 else 0+0*z)=0:=by split<;>simp
    rw [this];exact hf none _ g (hg b rfl)
  ·refine ⟨.slice (some ⟨b,0+0*z,some z⟩) (j-0) (n-0),?_,rfl,fun g hg => ?_⟩
   ·unfold nT sliceSl;simp only [bh];rw [DL ⟨True.intro,by omega⟩]
   ·rw [GI];exact hf (some z) _ g (hg b rfl)
theorem dP.dropS {z:Nat} {h:ai} {N:Nat} {v:Value} {n:Nat} {cs:List Value} (x:dP z h N v n cs) (hz:0<z) {j:Nat} (hj:j<=n) : ∃ v',nT z v (some (aq j)) none none=some v'/\ik v'=some (n-j) /\ ∀ g:ai,(∀ b,iR v=some b->g.get b=h.get b)->firstA z (n-j) v' g=some (cs.drop (j*z)):=by
 have hlen:=x.len;rcases x.form with ⟨rfl,rfl⟩|⟨b,s,rfl,g1,g2,g3⟩
 ·obtain rfl:j=0:=by omega
  have:cs = []:=FG (by rw [hlen,GI]);subst this;exact ⟨.slice none 0 0,rfl,rfl,fun _ _=>by simp [firstA]⟩
 ·have hm:(n-j)*z=n*z-j*z:=Nat.sub_mul ..;have hjz:j*z<=n*z:=GC _ hj;have hf : ∀ (sp:Option Nat) (o c:Nat) (g:ai),g.get b=h.get b->((n-j)*z≠0->o=j*z)->firstA z (n-j) (.slice (some ⟨b,o,sp⟩) (n-j) c) g=some (cs.drop (j*z)):=fun sp o c g hg ho=>by
   unfold firstA;simp only;by_cases hz2:(n-j)*z=0
   ·rw [DL hz2,List.drop_of_length_le (by omega)]
   ·rw [DM hz2,hg,g1,ho hz2];simp only;rw [DX (by rw [EB];omega),DL ⟨by omega,allD x.hol _⟩]
  have bh:boundsA n n (some (aq j)) none none=some (j,n,n):=by
   have a1:boundA n n none=some n:=rfl;have a3:boundA 0 n (some (aq j))=some j:=by unfold boundA aq;simp only;rw [DL (by omega)];rfl
   unfold boundsA;simp only [a1,a3]
  rcases g3 with ⟨h0,rfl⟩|⟨h0,rfl⟩
  ·refine ⟨.slice (some ⟨b,if n=j then 0 else 0+j*z,none⟩) (n-j) (n-j),?_,rfl,fun g hg=>hf none _ _ g (hg b rfl) fun hne => ?_⟩
   ·unfold nT sliceSl;simp only [bh]
   ·by_cases e:n=j
    ·rw [e,IM,GI] at hne;exact absurd rfl hne
    ·rw [DM e];omega
  ·refine ⟨.slice (some ⟨b,0+j*z,some z⟩) (n-j) (n-j),?_,rfl,fun g hg=>hf (some z) _ _ g (hg b rfl) fun _=>by omega⟩;unfold nT sliceSl;simp only [bh];rw [DL ⟨True.intro,by omega⟩]
end Go.Proofs.YtdnahgfgoajmcaaGreatDoor
namespace Go.Proofs.YtdnahgfgoajmcaaGreatDoor
open Go Go.Abs Tryz
open Go.Lib (compareBytes)
abbrev zLL:List Value:=zML ++ [.slice none 0 0]
section
variable (C:au) (i:Nat) (x:fL) (e:aX) (h:ai)
noncomputable def bz4_22 (_:au) (i:Nat) (e:aX) (h:ai):eI:=if i=2 then (fun e h=>some (Ex.normal,e,h)) e h else (fun i e h=>some (Ex.exit i,e,h)) i e h
noncomputable def xL (_:au) (x:fL) (h:ai):eI:=
 af (some (.bool false,h)) fun y6 h=>some (.normal,(aK 218 (up x [(6,y6)])),h)
noncomputable def pB:eI:=
 af (some (x 0,h)) fun y22 h=>af (some (x 1,h)) fun y23 h=>af (dg 1 (.slice none 0 0) 2 [(0,y22),(1,y23)] h) fun y24 h=>af (C 14 [y24] h) fun y25 h=>af (pu (unA .not y25) h) fun y26 h=>af (some (y26,h)) fun y27 h=>af (ay (cn y27==some false) (some (x 2,h)) h) fun y28 h=>af (ay (cn y27==some false) (pu (lenL y28) h) h) fun y29 h=>af (ay (cn y27==some false) (pu (aF prog .gtr 3 y29 (.int .i64 100)) h) h) fun y30 h=>af (match y27 with | .bool t=>some (if t then (.bool true) else y30,h)|_=>none) fun y31 h=>(match y31 with
 | .bool true=>af (C 5 [] h) fun y32 h=>af (some (y32,h)) fun y6 h=>some (.ret,(aK 218 (up x [(6,y6),(22,y22),(23,y23),(24,y24),(25,y25),(26,y26),(27,y27),(28,y28),(29,y29),(30,y30),(31,y31),(32,y32)])),h)
 | .bool false=>some (.normal,(aK 218 (up x [(22,y22),(23,y23),(24,y24),(25,y25),(26,y26),(27,y27),(28,y28),(29,y29),(30,y30),(31,y31)])),h)
 |_=>none)
noncomputable def ri:eI:=
 af (some (x 0,h)) fun y34 h=>af (C 6 [y34] h) fun y35 h=>af (some (y35,h)) fun y33 h=>af (pu (extractA y33 0) h) fun y36 h=>af (pu (extractA y33 1) h) fun y37 h=>af (some (y36,h)) fun y7 h=>af (some (y37,h)) fun y8 h=>some (.normal,(aK 218 (up x [(7,y7),(8,y8),(33,y33),(34,y34),(35,y35),(36,y36),(37,y37)])),h)
noncomputable def ou:eI:=
 af (some (x 1,h)) fun y39 h=>af (C 6 [y39] h) fun y40 h=>af (some (y40,h)) fun y38 h=>af (pu (extractA y38 0) h) fun y41 h=>af (pu (extractA y38 1) h) fun y42 h=>af (some (y41,h)) fun y9 h=>af (some (y42,h)) fun y10 h=>some (.normal,(aK 218 (up x [(9,y9),(10,y10),(38,y38),(39,y39),(40,y40),(41,y41),(42,y42)])),h)
noncomputable def mJ:eI:=
 af (some (x 0,h)) fun y44 h=>af (C 8 [y44] h) fun y45 h=>af (some (x 1,h)) fun y46 h=>af (appendA 39 88 y45 y46 h) fun y47 h=>af (C 6 [y47] h) fun y48 h=>af (some (y48,h)) fun y43 h=>af (pu (extractA y43 0) h) fun y49 h=>af (pu (extractA y43 1) h) fun y50 h=>af (some (y49,h)) fun y11 h=>af (some (y50,h)) fun y12 h=>some (.normal,(aK 218 (up x [(11,y11),(12,y12),(43,y43),(44,y44),(45,y45),(46,y46),(47,y47),(48,y48),(49,y49),(50,y50)])),h)
noncomputable def kM (_:au) (x:fL) (h:ai):eI:=
 af (some (x 8,h)) fun y51 h=>af (pu (aF prog .neq 26 y51 (.int .i64 0)) h) fun y52 h=>af (some (y52,h)) fun y53 h=>af (ay (cn y53==some false) (some (x 10,h)) h) fun y54 h=>af (ay (cn y53==some false) (pu (aF prog .neq 26 y54 (.int .i64 0)) h) h) fun y55 h=>af (match y53 with | .bool t=>some (if t then (.bool true) else y55,h)|_=>none) fun y56 h=>af (some (y56,h)) fun y57 h=>af (ay (cn y57==some false) (some (x 12,h)) h) fun y58 h=>af (ay (cn y57==some false) (pu (aF prog .neq 26 y58 (.int .i64 0)) h) h) fun y59 h=>af (match y57 with | .bool t=>some (if t then (.bool true) else y59,h)|_=>none) fun y60 h=>(match y60 with
 | .bool true=>af (some (.bool false,h)) fun y6 h=>some (.ret,(aK 218 (up x [(6,y6),(51,y51),(52,y52),(53,y53),(54,y54),(55,y55),(56,y56),(57,y57),(58,y58),(59,y59),(60,y60)])),h)
 | .bool false=>some (.normal,(aK 218 (up x [(51,y51),(52,y52),(53,y53),(54,y54),(55,y55),(56,y56),(57,y57),(58,y58),(59,y59),(60,y60)])),h)
 |_=>none)
noncomputable def jY:eI:=
 af (some (x 7,h)) fun y61 h=>af (C 15 [y61,.slice none 0 0,.slice none 0 0] h) fun y62 h=>af (eH zML h) fun y13 h=>af (eY 116 y13 y62 h) fun _ h=>some (.normal,(aK 218 (up x [(13,y13),(61,y61),(62,y62)])),h)
noncomputable def jk (_:au) (x:fL) (h:ai):eI:=
 af (pu (aP (x 13) 1) h) fun y63 h=>af (eY 1 y63 (.int .i64 0) h) fun _ h=>af (pu (aP (x 13) 2) h) fun y64 h=>af (eY 1 y64 (.int .i64 1) h) fun _ h=>some (.normal,(aK 218 (up x [(63,y63),(64,y64)])),h)
noncomputable def iF:eI:=
 af (some (x 7,h)) fun y65 h=>af (du 116 (x 13) h) fun y66 h=>af (dg 116 (.agg (zML).toArray) 1 [(0,y66)] h) fun y67 h=>af (C 16 [.slice none 0 0,y65,y67] h) fun y68 h=>af (some (y68,h)) fun y14 h=>some (.normal,(aK 218 (up x [(14,y14),(65,y65),(66,y66),(67,y67),(68,y68)])),h)
noncomputable def gl (_:au) (x:fL) (h:ai):eI:=
 af (some (.int .i64 0,h)) fun y15 h=>some (.normal,(aK 218 (up x [(15,y15)])),h)
noncomputable def gX:eI:=
 af (some (x 7,h)) fun y203 h=>af (C 13 [y203] h) fun y204 h=>af (some (x 11,h)) fun y205 h=>af (C 13 [y205] h) fun y206 h=>af (C 12 [y204,y206] h) fun y207 h=>af (some (y207,h)) fun y208 h=>af (ay (cn y208==some true) (some (x 9,h)) h) fun y209 h=>af (ay (cn y208==some true) (C 13 [y209] h) h) fun y210 h=>af (ay (cn y208==some true) (some (x 11,h)) h) fun y211 h=>af (ay (cn y208==some true) (C 13 [y211] h) h) fun y212 h=>af (ay (cn y208==some true) (C 12 [y210,y212] h) h) fun y213 h=>af (match y208 with | .bool t=>some (if t then y213 else (.bool false),h)|_=>none) fun y214 h=>af (some (y214,h)) fun y215 h=>af (ay (cn y215==some true) (C 5 [] h) h) fun y216 h=>
 af (match y215 with | .bool t=>some (if t then y216 else (.bool false),h)|_=>none) fun y217 h=>af (some (y217,h)) fun y6 h=>some (.ret,(aK 218 (up x [(6,y6),(203,y203),(204,y204),(205,y205),(206,y206),(207,y207),(208,y208),(209,y209),(210,y210),(211,y211),(212,y212),(213,y213),(214,y214),(215,y215),(216,y216),(217,y217)])),h)
noncomputable def cP (_:au) (x:fL) (h:ai):eI:=
 af (some (x 14,h)) fun y69 h=>af (pu (lenL y69) h) fun y70 h=>af (pu (aF prog .gtr 3 y70 (.int .i64 0)) h) fun y71 h=>(match y71 with
 | .bool true=>some (.normal,(aK 218 (up x [(69,y69),(70,y70),(71,y71)])),h)
 | .bool false=>some (.exit 0,(aK 218 (up x [(69,y69),(70,y70),(71,y71)])),h)
 |_=>none)
noncomputable def dA (_:au) (x:fL) (h:ai):eI:=
 af (some (x 15,h)) fun y72 h=>af (pu (aF prog .add 3 y72 (.int .i64 1)) h) fun y73 h=>af (some (y73,h)) fun y15 h=>some (.normal,(aK 218 (up x [(15,y15),(72,y72),(73,y73)])),h)
noncomputable def cL (_:au) (x:fL) (h:ai):eI:=
 af (some (x 15,h)) fun y74 h=>af (some (x 0,h)) fun y75 h=>af (pu (lenL y75) h) fun y76 h=>af (some (x 1,h)) fun y77 h=>af (pu (lenL y77) h) fun y78 h=>af (pu (aF prog .add 3 y76 y78) h) fun y79 h=>af (pu (aF prog .mul 3 (.int .i64 8) y79) h) fun y80 h=>af (pu (aF prog .add 3 (.int .i64 32) y80) h) fun y81 h=>af (pu (aF prog .gtr 3 y74 y81) h) fun y82 h=>(match y82 with
 | .bool true=>af (some (.bool false,h)) fun y6 h=>some (.ret,(aK 218 (up x [(6,y6),(74,y74),(75,y75),(76,y76),(77,y77),(78,y78),(79,y79),(80,y80),(81,y81),(82,y82)])),h)
 | .bool false=>some (.normal,(aK 218 (up x [(74,y74),(75,y75),(76,y76),(77,y77),(78,y78),(79,y79),(80,y80),(81,y81),(82,y82)])),h)
 |_=>none)
noncomputable def cK (_:au) (x:fL) (h:ai):eI:=
 af (some (.int .i64 0,h)) fun y16 h=>some (.normal,(aK 218 (up x [(16,y16)])),h)
noncomputable def bS (_:au) (x:fL) (h:ai):eI:=
 af (some (x 2,h)) fun y83 h=>af (pu (lenL y83) h) fun y84 h=>af (pu (aF prog .gtr 3 y84 (.int .i64 0)) h) fun y85 h=>(match y85 with
 | .bool true=>af (some (x 2,h)) fun y86 h=>af (some (x 15,h)) fun y87 h=>af (some (x 2,h)) fun y88 h=>af (pu (lenL y88) h) fun y89 h=>af (pu (aF prog .rem 3 y87 y89) h) fun y90 h=>af (pu (idxS 1 y86 y90) h) fun y91 h=>af (ld1 y91 h) fun y92 h=>af (some (x 14,h)) fun y93 h=>af (pu (lenL y93) h) fun y94 h=>af (pu (aF prog .rem 3 y92 y94) h) fun y95 h=>af (some (y95,h)) fun y16 h=>af (some (y16,h)) fun y96 h=>af (pu (aF prog .lss 3 y96 (.int .i64 0)) h) fun y97 h=>(match y97 with
 | .bool true=>af (some (y16,h)) fun y98 h=>af (some (x 14,h)) fun y99 h=>af (pu (lenL y99) h) fun y100 h=>af (pu (aF prog .add 3 y98 y100) h) fun y101 h=>af (some (y101,h)) fun y16_1 h=>some (.normal,(aK 218 (up x [(16,y16_1),(83,y83),(84,y84),(85,y85),(86,y86),(87,y87),(88,y88),(89,y89),(90,y90),(91,y91),(92,y92),(93,y93),(94,y94),(95,y95),(96,y96),(97,y97),(98,y98),(99,y99),(100,y100),(101,y101)])),h)
 | .bool false=>some (.normal,(aK 218 (up x [(16,y16),(83,y83),(84,y84),(85,y85),(86,y86),(87,y87),(88,y88),(89,y89),(90,y90),(91,y91),(92,y92),(93,y93),(94,y94),(95,y95),(96,y96),(97,y97)])),h)
 |_=>none)
 | .bool false=>some (.normal,(aK 218 (up x [(83,y83),(84,y84),(85,y85)])),h)
 |_=>none)
noncomputable def cF (_:au) (x:fL) (h:ai):eI:=
 af (some (x 14,h)) fun y102 h=>af (some (x 16,h)) fun y103 h=>af (pu (idxS 117 y102 y103) h) fun y104 h=>af (du 117 y104 h) fun y105 h=>af (eH zLL h) fun y17 h=>af (eY 117 y17 y105 h) fun _ h=>some (.normal,(aK 218 (up x [(17,y17),(102,y102),(103,y103),(104,y104),(105,y105)])),h)
noncomputable def cB (_:au) (x:fL) (h:ai):eI:=
 af (some (x 14,h)) fun y107 h=>af (some (x 16,h)) fun y108 h=>af (pu (nT 117 y107 none (some y108) none) h) fun y109 h=>af (dg 117 (.agg (zLL).toArray) 0 [] h) fun y106 h=>af (appendA 117 376 y106 y109 h) fun y110 h=>af (some (x 14,h)) fun y111 h=>af (some (x 16,h)) fun y112 h=>af (pu (aF prog .add 3 y112 (.int .i64 1)) h) fun y113 h=>af (pu (nT 117 y111 (some y113) none none) h) fun y114 h=>af (appendA 117 376 y110 y114 h) fun y115 h=>af (some (y115,h)) fun y14 h=>some (.normal,(aK 218 (up x [(14,y14),(106,y106),(107,y107),(108,y108),(109,y109),(110,y110),(111,y111),(112,y112),(113,y113),(114,y114),(115,y115)])),h)
noncomputable def cm (_:au) (x:fL) (h:ai):eI:=
 af (some (x 9,h)) fun y116 h=>af (some (y116,h)) fun y18 h=>some (.normal,(aK 218 (up x [(18,y18),(116,y116)])),h)
noncomputable def bY (_:au) (x:fL) (h:ai):eI:=
 af (pu (aP (x 17) 0) h) fun y117 h=>af (pu (aP y117 2) h) fun y118 h=>af (ld1 y118 h) fun y119 h=>af (pu (aF prog .eql 3 y119 (.int .i64 0)) h) fun y120 h=>(match y120 with
 | .bool true=>af (some (x 7,h)) fun y121 h=>af (some (y121,h)) fun y18 h=>some (.normal,(aK 218 (up x [(18,y18),(117,y117),(118,y118),(119,y119),(120,y120),(121,y121)])),h)
 | .bool false=>some (.normal,(aK 218 (up x [(117,y117),(118,y118),(119,y119),(120,y120)])),h)
 |_=>none)
noncomputable def bQ:eI:=
 let g13_0:=h
 af (pu (aP (x 17) 0) g13_0) fun y122 g13_1=>af (pu (aP y122 0) g13_1) fun y123 g13_2=>af (ld1 y123 g13_2) fun y124 g13_3=>af (pu (aF prog .eql 31 y124 (.int .u8 4)) g13_3) fun y125 g13_4=>af (some (y125,g13_4)) fun y126 g13_5=>af (ay (cn y126==some true) (pu (aP (x 17) 116) g13_5) g13_5) fun y127 g13_6=>af (ay (cn y126==some true) (ld1 y127 g13_6) g13_6) fun y128 g13_7=>af (ay (cn y126==some true) (some (x 18,g13_7)) g13_7) fun y129 g13_8=>af (ay (cn y126==some true) (pu (aP (x 17) 0) g13_8) g13_8) fun y130 g13_9=>af (ay (cn y126==some true) (pu (aP y130 7) g13_9) g13_9) fun y131 g13_10=>af (ay (cn y126==some true) (ld1 y131 g13_10) g13_10) fun y132 g13_11=>
 af (ay (cn y126==some true) (pu (aP (x 17) 0) g13_11) g13_11) fun y133 g13_12=>af (ay (cn y126==some true) (pu (aP y133 8) g13_12) g13_12) fun y134 g13_13=>af (ay (cn y126==some true) (ld1 y134 g13_13) g13_13) fun y135 g13_14=>af (ay (cn y126==some true) (C 18 [y129,y132,y135] g13_14) g13_14) fun y136 g13_15=>af (ay (cn y126==some true) (C 17 [y128,y136] g13_15) g13_15) fun y137 g13_16=>af (match y126 with | .bool t=>some (if t then y137 else (.bool false),g13_16)|_=>none) fun y138 g13_17=>(match (cq (cn y126==some true) (ld1 y127 g13_15) y128&&true) with
 |true=>let h:=g13_17
 (match y138 with
 | .bool true=>af (C 5 [] h) fun y139 h=>af (some (y139,h)) fun y6 h=>some (.ret,(aK 218 (up x [(6,y6),(122,y122),(123,y123),(124,y124),(125,y125),(126,y126),(127,y127),(128,y128),(129,y129),(130,y130),(131,y131),(132,y132),(133,y133),(134,y134),(135,y135),(136,y136),(137,y137),(138,y138),(139,y139)])),h)
 | .bool false=>some (.normal,(aK 218 (up x [(122,y122),(123,y123),(124,y124),(125,y125),(126,y126),(127,y127),(128,y128),(129,y129),(130,y130),(131,y131),(132,y132),(133,y133),(134,y134),(135,y135),(136,y136),(137,y137),(138,y138)])),h)
 |_=>none)
 |false=>none)
noncomputable def cC:eI:=
 af (some (x 18,h)) fun y141 h=>af (pu (aP (x 17) 0) h) fun y142 h=>af (du 116 y142 h) fun y143 h=>af (C 9 [y141,y143] h) fun y144 h=>af (some (y144,h)) fun y140 h=>af (pu (extractA y140 0) h) fun y145 h=>af (pu (extractA y140 1) h) fun y146 h=>af (some (y145,h)) fun y19 h=>af (some (y146,h)) fun y20 h=>some (.normal,(aK 218 (up x [(19,y19),(20,y20),(140,y140),(141,y141),(142,y142),(143,y143),(144,y144),(145,y145),(146,y146)])),h)
noncomputable def cy (_:au) (x:fL) (h:ai):eI:=
 af (some (x 20,h)) fun y147 h=>af (pu (aF prog .neq 26 y147 (.int .i64 0)) h) fun y148 h=>(match y148 with
 | .bool true=>af (some (.bool false,h)) fun y6 h=>some (.ret,(aK 218 (up x [(6,y6),(147,y147),(148,y148)])),h)
 | .bool false=>some (.normal,(aK 218 (up x [(147,y147),(148,y148)])),h)
 |_=>none)
noncomputable def cd:eI:=
 af (pu (aP (x 17) 0) h) fun y149 h=>af (pu (aP y149 0) h) fun y150 h=>af (ld1 y150 h) fun y151 h=>af (pu (aF prog .eql 31 y151 (.int .u8 5)) h) fun y152 h=>af (some (y152,h)) fun y153 h=>af (ay (cn y153==some true) (pu (aP (x 17) 0) h) h) fun y154 h=>af (ay (cn y153==some true) (pu (aP y154 43) h) h) fun y155 h=>af (ay (cn y153==some true) (ld1 y155 h) h) fun y156 h=>af (ay (cn y153==some true) (pu (unA .not y156) h) h) fun y157 h=>af (match y153 with | .bool t=>some (if t then y157 else (.bool false),h)|_=>none) fun y158 h=>(match y158 with
 | .bool true=>af (some (x 18,h)) fun y160 h=>af (pu (aP (x 17) 0) h) fun y161 h=>af (du 116 y161 h) fun y162 h=>af (C 9 [y160,y162] h) fun y163 h=>af (some (y163,h)) fun y159 h=>af (pu (extractA y159 0) h) fun y164 h=>af (pu (extractA y159 1) h) fun y165 h=>af (some (y164,h)) fun y19 h=>af (some (y165,h)) fun y20 h=>af (some (y20,h)) fun y166 h=>af (pu (aF prog .neq 26 y166 (.int .i64 0)) h) fun y167 h=>af (some (y167,h)) fun y168 h=>af (ay (cn y168==some false) (some (y19,h)) h) fun y169 h=>af (ay (cn y168==some false) (pu (lenL y169) h) h) fun y170 h=>af (ay (cn y168==some false) (pu (aF prog .neq 3 y170 (.int .i64 0)) h) h) fun y171 h=>
 af (match y168 with | .bool t=>some (if t then (.bool true) else y171,h)|_=>none) fun y172 h=>(match y172 with
 | .bool true=>af (some (.bool false,h)) fun y6 h=>some (.ret,(aK 218 (up x [(6,y6),(19,y19),(20,y20),(149,y149),(150,y150),(151,y151),(152,y152),(153,y153),(154,y154),(155,y155),(156,y156),(157,y157),(158,y158),(159,y159),(160,y160),(161,y161),(162,y162),(163,y163),(164,y164),(165,y165),(166,y166),(167,y167),(168,y168),(169,y169),(170,y170),(171,y171),(172,y172)])),h)
 | .bool false=>some (.normal,(aK 218 (up x [(19,y19),(20,y20),(149,y149),(150,y150),(151,y151),(152,y152),(153,y153),(154,y154),(155,y155),(156,y156),(157,y157),(158,y158),(159,y159),(160,y160),(161,y161),(162,y162),(163,y163),(164,y164),(165,y165),(166,y166),(167,y167),(168,y168),(169,y169),(170,y170),(171,y171),(172,y172)])),h)
 |_=>none)
 | .bool false=>some (.normal,(aK 218 (up x [(149,y149),(150,y150),(151,y151),(152,y152),(153,y153),(154,y154),(155,y155),(156,y156),(157,y157),(158,y158)])),h)
 |_=>none)
noncomputable def bP:eI:=
 af (some (.int .i64 0,h)) fun y21 h=>fe (iter (codeA prog C (ao f4 [1,1,1,1,1,1,1,1,1,0,1,0,0,1,0,0,1,1,1,1,1,1,1,1,1,1,1,0,1,0,0])) aD (aK 218 (up x [(21,y21)])) h) (fun e h=>some (Ex.ret,e,h)) (bz4_22 C)
noncomputable def bV:eI:=
 af (some (x 14,h)) fun y199 h=>af (some (x 18,h)) fun y200 h=>af (some (x 19,h)) fun y201 h=>af (C 16 [y199,y200,y201] h) fun y202 h=>af (some (y202,h)) fun y14 h=>some (.normal,(aK 218 (up x [(14,y14),(199,y199),(200,y200),(201,y201),(202,y202)])),h)
noncomputable def cV (_:au) (x:fL) (h:ai):eI:=
 af (some (x 21,h)) fun y173 h=>af (some (x 19,h)) fun y174 h=>af (pu (lenL y174) h) fun y175 h=>af (pu (aF prog .lss 3 y173 y175) h) fun y176 h=>(match y176 with
 | .bool true=>af (some (x 19,h)) fun y179 h=>af (some (x 21,h)) fun y180 h=>af (pu (idxS 116 y179 y180) h) fun y181 h=>af (pu (aP y181 1) h) fun y182 h=>af (ld1 y182 h) fun y183 h=>af (pu (aP (x 17) 0) h) fun y184 h=>af (pu (aP y184 2) h) fun y185 h=>af (ld1 y185 h) fun y186 h=>af (pu (aF prog .neq 3 y183 y186) h) fun y187 h=>af (some (y187,h)) fun y188 h=>af (ay (cn y188==some false) (some (x 19,h)) h) fun y189 h=>af (ay (cn y188==some false) (some (x 21,h)) h) fun y190 h=>af (ay (cn y188==some false) (pu (idxS 116 y189 y190) h) h) fun y191 h=>af (ay (cn y188==some false) (pu (aP y191 2) h) h) fun y192 h=>af (ay (cn y188==some false) (ld1 y192 h) h) fun y193 h=>
 af (ay (cn y188==some false) (pu (aP (x 17) 0) h) h) fun y194 h=>af (ay (cn y188==some false) (pu (aP y194 1) h) h) fun y195 h=>af (ay (cn y188==some false) (ld1 y195 h) h) fun y196 h=>af (ay (cn y188==some false) (pu (aF prog .neq 3 y193 y196) h) h) fun y197 h=>af (match y188 with | .bool t=>some (if t then (.bool true) else y197,h)|_=>none) fun y198 h=>(match y198 with
 | .bool true=>af (some (.bool false,h)) fun y6 h=>some (.ret,(aK 218 (up x [(6,y6),(173,y173),(174,y174),(175,y175),(176,y176),(179,y179),(180,y180),(181,y181),(182,y182),(183,y183),(184,y184),(185,y185),(186,y186),(187,y187),(188,y188),(189,y189),(190,y190),(191,y191),(192,y192),(193,y193),(194,y194),(195,y195),(196,y196),(197,y197),(198,y198)])),h)
 | .bool false=>af (some (x 21,h)) fun y177 h=>af (pu (aF prog .add 3 y177 (.int .i64 1)) h) fun y178 h=>af (some (y178,h)) fun y21 h=>some (.normal,(aK 218 (up x [(21,y21),(173,y173),(174,y174),(175,y175),(176,y176),(177,y177),(178,y178),(179,y179),(180,y180),(181,y181),(182,y182),(183,y183),(184,y184),(185,y185),(186,y186),(187,y187),(188,y188),(189,y189),(190,y190),(191,y191),(192,y192),(193,y193),(194,y194),(195,y195),(196,y196),(197,y197),(198,y198)])),h)
 |_=>none)
 | .bool false=>some (.exit 2,(aK 218 (up x [(173,y173),(174,y174),(175,y175),(176,y176)])),h)
 |_=>none)
theorem tz4p4_0_eq:codeA prog C (ao f4 [0]) (aK 218 x) h=xL C x h:=
 aA (T:=xL C) (fun x h=>by kernel_rfl) x h
theorem wO:codeA prog C (ao f4 [1,0]) (aK 218 x) h=pB C x h:=
 aA (T:=pB C) (fun x h=>by kernel_rfl) x h
theorem B4:codeA prog C (ao f4 [1,1,0]) (aK 218 x) h=ri C x h:=
 aA (T:=ri C) (fun x h=>by kernel_rfl) x h
theorem Am:codeA prog C (ao f4 [1,1,1,0]) (aK 218 x) h=ou C x h:=
 aA (T:=ou C) (fun x h=>by kernel_rfl) x h
theorem yB:codeA prog C (ao f4 [1,1,1,1,0]) (aK 218 x) h=mJ C x h:=
 aA (T:=mJ C) (fun x h=>by kernel_rfl) x h
theorem xb:codeA prog C (ao f4 [1,1,1,1,1,0]) (aK 218 x) h=kM C x h:=
 aA (T:=kM C) (fun x h=>by kernel_rfl) x h
theorem vC:codeA prog C (ao f4 [1,1,1,1,1,1,0]) (aK 218 x) h=jY C x h:=
 aA (T:=jY C) (fun x h=>by kernel_rfl) x h
theorem tA:codeA prog C (ao f4 [1,1,1,1,1,1,1,0]) (aK 218 x) h=jk C x h:=
 aA (T:=jk C) (fun x h=>by kernel_rfl) x h
theorem sX:codeA prog C (ao f4 [1,1,1,1,1,1,1,1,0]) (aK 218 x) h=iF C x h:=
 aA (T:=iF C) (fun x h=>by kernel_rfl) x h
theorem j8:codeA prog C (ao f4 [1,1,1,1,1,1,1,1,1,0,0]) (aK 218 x) h=gl C x h:=
 aA (T:=gl C) (fun x h=>by kernel_rfl) x h
theorem rN:codeA prog C (ao f4 [1,1,1,1,1,1,1,1,1,1]) (aK 218 x) h=gX C x h:=
 aA (T:=gX C) (fun x h=>by kernel_rfl) x h
theorem fk:codeA prog C (ao f4 [1,1,1,1,1,1,1,1,1,0,1,0,0,0]) (aK 218 x) h=cP C x h:=
 aA (T:=cP C) (fun x h=>by kernel_rfl) x h
theorem ni:codeA prog C (ao f4 [1,1,1,1,1,1,1,1,1,0,1,0,0,1,1]) (aK 218 x) h=dA C x h:=
 aA (T:=dA C) (fun x h=>by kernel_rfl) x h
theorem gI:codeA prog C (ao f4 [1,1,1,1,1,1,1,1,1,0,1,0,0,1,0,0,0]) (aK 218 x) h=cL C x h:=
 aA (T:=cL C) (fun x h=>by kernel_rfl) x h
theorem gy:codeA prog C (ao f4 [1,1,1,1,1,1,1,1,1,0,1,0,0,1,0,0,1,0]) (aK 218 x) h=cK C x h:=
 aA (T:=cK C) (fun x h=>by kernel_rfl) x h
theorem fO:codeA prog C (ao f4 [1,1,1,1,1,1,1,1,1,0,1,0,0,1,0,0,1,1,0]) (aK 218 x) h=bS C x h:=
 aA (T:=bS C) (fun x h=>by kernel_rfl) x h
theorem ft:codeA prog C (ao f4 [1,1,1,1,1,1,1,1,1,0,1,0,0,1,0,0,1,1,1,0]) (aK 218 x) h=cF C x h:=
 aA (T:=cF C) (fun x h=>by kernel_rfl) x h
theorem fh:codeA prog C (ao f4 [1,1,1,1,1,1,1,1,1,0,1,0,0,1,0,0,1,1,1,1,0]) (aK 218 x) h=cB C x h:=
 aA (T:=cB C) (fun x h=>by kernel_rfl) x h
theorem eW:codeA prog C (ao f4 [1,1,1,1,1,1,1,1,1,0,1,0,0,1,0,0,1,1,1,1,1,0]) (aK 218 x) h=cm C x h:=
 aA (T:=cm C) (fun x h=>by kernel_rfl) x h
theorem eS:codeA prog C (ao f4 [1,1,1,1,1,1,1,1,1,0,1,0,0,1,0,0,1,1,1,1,1,1,0]) (aK 218 x) h=bY C x h:=
 aA (T:=bY C) (fun x h=>by kernel_rfl) x h
theorem eJ:codeA prog C (ao f4 [1,1,1,1,1,1,1,1,1,0,1,0,0,1,0,0,1,1,1,1,1,1,1,0]) (aK 218 x) h=bQ C x h:=
 aA (T:=bQ C) (fun x h=>by kernel_rfl) x h
theorem iK:codeA prog C (ao f4 [1,1,1,1,1,1,1,1,1,0,1,0,0,1,0,0,1,1,1,1,1,1,1,1,0]) (aK 218 x) h=cC C x h:=
 aA (T:=cC C) (fun x h=>by kernel_rfl) x h
theorem iB:codeA prog C (ao f4 [1,1,1,1,1,1,1,1,1,0,1,0,0,1,0,0,1,1,1,1,1,1,1,1,1,0]) (aK 218 x) h=cy C x h:=
 aA (T:=cy C) (fun x h=>by kernel_rfl) x h
theorem hU:codeA prog C (ao f4 [1,1,1,1,1,1,1,1,1,0,1,0,0,1,0,0,1,1,1,1,1,1,1,1,1,1,0]) (aK 218 x) h=cd C x h:=
 aA (T:=cd C) (fun x h=>by kernel_rfl) x h
theorem hJ:codeA prog C (ao f4 [1,1,1,1,1,1,1,1,1,0,1,0,0,1,0,0,1,1,1,1,1,1,1,1,1,1,1,0]) (aK 218 x) h=bP C x h:=
 aA (T:=bP C) (fun x h=>by kernel_rfl) x h
theorem gW:codeA prog C (ao f4 [1,1,1,1,1,1,1,1,1,0,1,0,0,1,0,0,1,1,1,1,1,1,1,1,1,1,1,1]) (aK 218 x) h=bV C x h:=
 aA (T:=bV C) (fun x h=>by kernel_rfl) x h
theorem gA:codeA prog C (ao f4 [1,1,1,1,1,1,1,1,1,0,1,0,0,1,0,0,1,1,1,1,1,1,1,1,1,1,1,0,1,0,0]) (aK 218 x) h=cV C x h:=
 aA (T:=cV C) (fun x h=>by kernel_rfl) x h
end
structure Ml where
 m:AM
 l:List av
def iY (S:List av) (xs:List AM):List Ml:=xs.map fun x=>⟨x,S.filter (cX x.lo x.hi)⟩
def bq (x:AM):Bool := !(decide (x.to=0))
theorem Nf.anti {T A:List av} {r:av} (h:Nf T r) (hr:r∈A) (hs : ∀ x∈A,x∈T):Nf A r:=by
 refine ⟨⟨hr,fun y hy=>h.1.2 y (hs y hy)⟩,fun v=>h.2 ⟨v.1,?_⟩⟩;rcases v.2 with ⟨y,hy,q⟩|⟨y,hy,q⟩
 ·exact .inl ⟨y,hs y hy,q⟩
 ·exact .inr ⟨y,hs y hy,q⟩
theorem Nf.ext {A B:List av} (h : ∀ x,x∈A↔x∈B) (r:av):Nf A r↔Nf B r:=by have key : ∀ {A B:List av},(∀ x,x∈A↔x∈B)->Nf A r->Nf B r:=fun {A B} h n=>n.anti ((h r).1 n.1.1) (fun x hx=>(h x).2 hx);exact ⟨key h,key fun x=>(h x).symm⟩
theorem mQ.sub {T A:List av} (v:mQ T) (h : ∀ x∈A,x∈T):mQ A:=fun r hr=>v r (h r hr)
structure Sid (T S:List av):Prop where
 sub : ∀ r∈S,r∈T
 ks:KS S
 nf : ∀ r∈S,Nf S r
theorem Sid.aT {T S L:List av} (v:mQ T) (s:Sid T S) (h : ∀ r∈L,r∈T):Sid T (aT S L):=by have hs : ∀ r∈S++L,r∈T:=fun r hr=>(DU.1 hr).elim (s.sub r) (h r);have vl:=v.sub hs;have mm:=jL vl;refine ⟨fun r hr=>hs r ((mm r).1 hr).1.1,(kX vl).2,fun r hr=>((mm r).1 hr).anti hr fun x hx=>((mm x).1 hx).1.1⟩
theorem Sid.keep {T S L:List av} (v:mQ T) (s:Sid T S) (h : ∀ r∈L,r∈T) {r:av} (n:Nf T r) (hr:r∈S\/r∈L):r∈Go.Proofs.YtdnahgfgoajmcaaGreatDoor.aT S L:=by have hs : ∀ r∈S++L,r∈T:=fun r hr=>(DU.1 hr).elim (s.sub r) (h r);exact (jL (v.sub hs) r).2 (n.anti (DU.2 hr) hs)
theorem Sid.again {T S L:List av} (v:mQ T) (s:Sid T S) (h : ∀ r∈L,r∈T):Go.Proofs.YtdnahgfgoajmcaaGreatDoor.aT (Go.Proofs.YtdnahgfgoajmcaaGreatDoor.aT S L) L=Go.Proofs.YtdnahgfgoajmcaaGreatDoor.aT S L:=by have s':=s.aT v h;have hs : ∀ r∈S++L,r∈T:=fun r hr=>(DU.1 hr).elim (s.sub r) (h r);have hs' : ∀ r∈Go.Proofs.YtdnahgfgoajmcaaGreatDoor.aT S L++L,r∈T:=fun r hr=>(DU.1 hr).elim (s'.sub r) (h r);refine KS.ext (kX (v.sub hs')).2 s'.ks fun x => ?_;have e1:=jL (v.sub hs) x;rw [jL (v.sub hs') x,nf_nf (L:=S++L) (fun x=>jL (v.sub hs) x) x,e1];exact Nf.ext (fun y=>by simp only [DU];constructor<;>(intro q;rcases q with q|q)<;>simp_all) x
theorem Sid.full {T A B S:List av} (hT:T=A++B) (v:mQ T) (s:Sid T S) (h : ∀ r,Nf T r->r∈S):S=Go.Proofs.YtdnahgfgoajmcaaGreatDoor.aT A B:=by
 subst hT;have mm:=jL v;refine KS.ext s.ks (kX v).2 fun x => ?_;rw [mm x];refine ⟨fun hx => ?_,h x⟩;have h1:Nf (Go.Proofs.YtdnahgfgoajmcaaGreatDoor.aT A B++S) x:=by refine (Nf.ext (A:=S) (fun y => ?_) x).1 (s.nf x hx);simp only [DU];exact ⟨.inr,fun q=>q.elim (fun q=>h y ((mm y).1 q)) id⟩
 have h2:=(nf_nf (L:=A++B) (B:=S) mm x).1 h1;exact (Nf.ext (fun y=>by rw [DU (s:=A++B)];exact ⟨fun q=>q.elim id (s.sub y),.inl⟩) x).1 h2
structure MlOk (T:List av) (e:Ml):Prop where
 ends:(e.m.frm=0/\e.m.to=1)\/(e.m.frm=1/\e.m.to=0)
 sub : ∀ r∈e.m.L,r∈T/\cX e.m.lo e.m.hi r=true
 subl : ∀ r∈e.l,r∈T
 lenl:e.l.length<=T.length
 lo:e.m.lo.length<=34
 hi:e.m.hi.length<=34
 len:e.m.L.length<=64
 kind:(e.m.kind=4/\e.m.cnt=(e.l.length:Int)/\e.m.root=cM e.l)\/e.m.kind=5
def Cov (c:Bool) (r:av) (e:Ml):Prop:=
 (e.m.kind=4/\cX e.m.lo e.m.hi r=true)\/(e.m.kind=5/\bq e.m = !c/\e.m.want=true/\cX e.m.lo e.m.hi r=true)\/(e.m.kind=5/\bq e.m=c/\r∈e.m.L)
structure Lack (c:Bool) (r:av) (e:Ml):Prop where
 frm:bq e.m = !c->r∉e.l/\r∉e.m.L
 to:bq e.m=c->cX e.m.lo e.m.hi r=true->r∈e.l
structure BN (T:List av) (S:Bool->List av) (net:List Ml):Prop where
 sid : ∀ b,Sid T (S b)
 all : ∀ r,Nf T r -> ∃ b,r∈S b
 msg : ∀ e∈net,MlOk T e
 mis : ∀ b r,Nf T r->r∉S b->(∃ e∈net,Cov b r e) /\ ∀ e∈net,Lack b r e
def sP (S:Bool->List av) (b:Bool) (L:List av):Bool->List av:=fun c=>if c=b then L else S c
theorem BN.done {T A B:List av} {S:Bool->List av} (hT:T=A++B) (v:mQ T) (s:BN T S []) (b:Bool):S b=aT A B:=by refine (s.sid b).full hT v fun r n => ?_;refine Classical.byContradiction fun h => ?_;obtain ⟨⟨e,he,_⟩,_⟩:=s.mis b r n h;cases he
theorem BN.kB {T:List av} {S:Bool->List av} {net:List Ml} (s:BN T S net) {b:Bool} {r:av} (n:Nf T r) (h:r∉S b):r∈S (!b):=by
 obtain ⟨c,hc⟩:=s.all r n;by_cases e:c=b
 ·subst e;exact absurd hc h
 ·have:c = !b:=by cases c<;>cases b<;>simp_all
  rw [<-this];exact hc
theorem cmpB_key (r m:av):jv r (dI m)=gN r m:=rfl
theorem keyB_ne (r:av):dI r ≠ []:=by unfold dI;simp
theorem xn {lo hi:List Nat} {r:av}:cX lo hi r=true↔0<=jv r lo/\(hi = []\/jv r hi<0):=by unfold cX;rw [DK,FY,DS,DS,DS]
theorem BQ {lo hi:List Nat} {m:av} (hm:cX lo hi m=true) (r:av):(cX lo (dI m) r=true->cX lo hi r=true/\gN r m<0)/\(cX (dI m) hi r=true->cX lo hi r=true/\0<=gN r m)/\(cX lo hi r=true->gN r m<0->cX lo (dI m) r=true)/\(cX lo hi r=true->0<=gN r m->cX (dI m) hi r=true):=by
 have tr : ∀ a b c:List UInt8,compareBytes a b<0 -> ¬compareBytes c b<0->compareBytes a c<0:=fun a b c h1 h2=>by
  by_cases q:compareBytes a c<0
  ·exact q
  ·exact absurd h1 (kV _ _ _ q h2)
 rw [xn] at hm;rw [xn,xn,xn,cmpB_key];have kn:=keyB_ne m;refine ⟨fun ⟨h1,h2⟩ => ?_,fun ⟨h1,h2⟩ => ?_,fun ⟨h1,_⟩ h3=>⟨h1,.inr h3⟩,fun ⟨_,h2⟩ h3=>⟨h3,h2⟩⟩
 ·have h2:gN r m<0:=h2.resolve_left kn;refine ⟨⟨h1,?_⟩,h2⟩;rcases hm.2 with h|h
  ·exact .inl h
  ·exact .inr (uk _ _ _ h2 h)
 ·refine ⟨⟨?_,h2⟩,h1⟩;have h3:=hm.1;unfold jv at *;unfold gN at *;have:=kV (xT r) (xT m) (lo.map UInt8.ofNat) (by omega) (by omega);omega
theorem oe {S:List av} {xs:List AM} {e:Ml} (h:e∈iY S xs) : ∃ x∈xs,e=⟨x,S.filter (cX x.lo x.hi)⟩:=by unfold iY at h;obtain ⟨x,hx,rfl⟩:=E0.1 h;exact ⟨x,hx,rfl⟩
theorem of_sendM {S:List av} {xs:List AM} {x:AM} (h:x∈xs):(⟨x,S.filter (cX x.lo x.hi)⟩:Ml)∈iY S xs:=E0.2 ⟨x,h,rfl⟩
theorem mem_chkT {R:List av} {p:List av} {t:Nat} (h:p∈nU R t):p.length<=64 /\ ∀ r∈p,r∈R:=by unfold nU at h;obtain ⟨i,_,rfl⟩:=E0.1 h;exact ⟨by rw [DV];omega,fun r hr=>FJ (EZ hr)⟩
theorem chkT_mem {R:List av} {r:av} (h:r∈R) : ∃ p∈nU R ((R.length+63)/64),r∈p:=by
 obtain ⟨i,hi,rfl⟩:=FE.1 h;refine ⟨(R.drop (64*(i/64))).take 64,E0.2 ⟨i/64,JV.2 (by omega),rfl⟩,?_⟩;refine FE.2 ⟨i%64,by rw [DV,EB];omega,?_⟩;rw [IW,IX]
 congr 1
 omega
section
variable (C:au) (i:Nat) (x:fL) (e:aX) (h:ai)
noncomputable def kz77_1:bc:=codeK prog C (ao f77 [1,1]) e h (dC f77) (dC f77) iL
noncomputable def bz77_3:bc:=if i=0 then (kz77_1 C) e h else iL i e h
noncomputable def tz77 (C:au) (x0:Value) (h:ai):bc:=
 af (some (.bool false,h)) fun y2 h=>af (some (.int .i64 0,h)) fun y3 h=>fe (iter (codeA prog C (ao f77 [1,0,1,0,0])) aD (aK 16 (up (bs [x0]) [(2,y2),(3,y3)])) h) (dC f77) (bz77_3 C)
noncomputable def uN (_:au) (_:fL) (h:ai):bc:=
 af (some (.bool true,h)) fun y2 h=>some (y2,h)
noncomputable def oI:eI:=
 af (some (x 3,h)) fun y4 h=>af (some (x 0,h)) fun y5 h=>af (pu (lenL y5) h) fun y6 h=>af (pu (aF prog .lss 3 y4 y6) h) fun y7 h=>(match y7 with
 | .bool true=>af (some (x 0,h)) fun y10 h=>af (some (x 3,h)) fun y11 h=>af (pu (idxS 39 y10 y11) h) fun y12 h=>af (du 39 y12 h) fun y13 h=>af (C 36 [y13] h) fun y14 h=>af (pu (unA .not y14) h) fun y15 h=>(match y15 with
 | .bool true=>af (some (.bool false,h)) fun y2 h=>some (.ret,(aK 16 (up x [(2,y2),(4,y4),(5,y5),(6,y6),(7,y7),(10,y10),(11,y11),(12,y12),(13,y13),(14,y14),(15,y15)])),h)
 | .bool false=>af (some (x 3,h)) fun y8 h=>af (pu (aF prog .add 3 y8 (.int .i64 1)) h) fun y9 h=>af (some (y9,h)) fun y3 h=>some (.normal,(aK 16 (up x [(3,y3),(4,y4),(5,y5),(6,y6),(7,y7),(8,y8),(9,y9),(10,y10),(11,y11),(12,y12),(13,y13),(14,y14),(15,y15)])),h)
 |_=>none)
 | .bool false=>some (.exit 0,(aK 16 (up x [(4,y4),(5,y5),(6,y6),(7,y7)])),h)
 |_=>none)
theorem tz77_eq (C:au) (x0:Value) (h:ai):bw prog C f77 [x0] h=tz77 C x0 h:=
 fM (by kernel_rfl) (by kernel_rfl)
theorem Cc:kz77_1 C (aK 16 x) h=uN C x h:=
 uJ (T:=uN C) (fun x h=>by kernel_rfl) x h
theorem xd:codeA prog C (ao f77 [1,0,1,0,0]) (aK 16 x) h=oI C x h:=
 aA (T:=oI C) (fun x h=>by kernel_rfl) x h
noncomputable def tz43 (C:au) (x0:Value) (h:ai):bc:=
 af (eH (List.replicate 32 (.int .u8 0)) h) fun y2 h=>af (some (.int .i64 0,h)) fun _ h=>af (some (x0,h)) fun y4 h=>af (C 77 [y4] h) fun y5 h=>af (pu (unA .not y5) h) fun y6 h=>(match y6 with
 | .bool true=>af (du 32 (ptr 0 0) h) fun y7 h=>af (eY 32 y2 y7 h) fun _ h=>af (some (.int .i64 2,h)) fun y3_1 h=>resultsA prog f43.results.toList (aK 10 (up (bs [x0]) [(2,y2),(3,y3_1),(4,y4),(5,y5),(6,y6),(7,y7)])) h
 | .bool false=>af (some (x0,h)) fun y8 h=>af (C 33 [y8] h) fun y9 h=>af (eY 32 y2 y9 h) fun _ h=>af (some (.int .i64 0,h)) fun y3_1 h=>resultsA prog f43.results.toList (aK 10 (up (bs [x0]) [(2,y2),(3,y3_1),(4,y4),(5,y5),(6,y6),(8,y8),(9,y9)])) h
 |_=>none)
theorem tz43_eq (C:au) (x0:Value) (h:ai):bw prog C f43 [x0] h=tz43 C x0 h:=
 fM (by kernel_rfl) (by kernel_rfl)
noncomputable def kz16_1:bc:=codeK prog C (ao f16 [1,1]) e h (dC f16) (dC f16) iL
noncomputable def bz16_3:bc:=if i=0 then (kz16_1 C) e h else iL i e h
noncomputable def tz16 (C:au) (x0 x1 x2:Value) (h:ai):bc:=
 af (some (.slice none 0 0,h)) fun y6 h=>af (some (.int .i64 0,h)) fun y7 h=>fe (iter (codeA prog C (ao f16 [1,0,1,0,0])) aD (aK 35 (up (bs [x0,x1,x2]) [(6,y6),(7,y7)])) h) (dC f16) (bz16_3 C)
noncomputable def vu (_:au) (x:fL) (h:ai):bc:=
 af (some (x 0,h)) fun y34 h=>af (some (y34,h)) fun y6 h=>some (y6,h)
noncomputable def oT:eI:=
 af (some (x 7,h)) fun y8 h=>af (some (x 2,h)) fun y9 h=>af (pu (lenL y9) h) fun y10 h=>af (pu (aF prog .lss 3 y8 y10) h) fun y11 h=>(match y11 with
 | .bool true=>let g9_0:=h
 af (some (x 0,g9_0)) fun y14 g9_1=>af (some (x 2,g9_1)) fun y15 g9_2=>af (some (x 7,g9_2)) fun y16 g9_3=>af (pu (idxS 116 y15 y16) g9_3) fun y17 g9_4=>af (du 116 y17 g9_4) fun y18 g9_5=>af (some (x 1,g9_5)) fun y19 g9_6=>af (some (x 2,g9_6)) fun y20 g9_7=>af (some (x 7,g9_7)) fun y21 g9_8=>af (pu (idxS 116 y20 y21) g9_8) fun y22 g9_9=>af (pu (aP y22 7) g9_9) fun y23 g9_10=>af (ld1 y23 g9_10) fun y24 g9_11=>af (some (x 2,g9_11)) fun y25 g9_12=>af (some (x 7,g9_12)) fun y26 g9_13=>af (pu (idxS 116 y25 y26) g9_13) fun y27 g9_14=>af (pu (aP y27 8) g9_14) fun y28 g9_15=>af (ld1 y28 g9_15) fun y29 g9_16=>af (C 18 [y19,y24,y29] g9_16) fun y30 g9_17=>
 af (pu (fZ zLL [(0,116,y18),(116,1,y30)]) g9_17) fun y31 g9_18=>af (dg 117 (.agg (zLL).toArray) 1 [(0,y31)] g9_18) fun y32 g9_19=>af (appendA 117 376 y14 y32 g9_19) fun y33 g9_20=>af (some (y33,g9_20)) fun y0 g9_21=>(match (cq true (du 116 y17 g9_17) y18&&true) with
 |true=>let h:=g9_21
 af (some (x 7,h)) fun y12 h=>af (pu (aF prog .add 3 y12 (.int .i64 1)) h) fun y13 h=>af (some (y13,h)) fun y7 h=>some (.normal,(aK 35 (up x [(0,y0),(7,y7),(8,y8),(9,y9),(10,y10),(11,y11),(12,y12),(13,y13),(14,y14),(15,y15),(16,y16),(17,y17),(18,y18),(19,y19),(20,y20),(21,y21),(22,y22),(23,y23),(24,y24),(25,y25),(26,y26),(27,y27),(28,y28),(29,y29),(30,y30),(31,y31),(32,y32),(33,y33)])),h)
 |false=>none)
 | .bool false=>some (.exit 0,(aK 35 (up x [(8,y8),(9,y9),(10,y10),(11,y11)])),h)
 |_=>none)
theorem tz16_eq (C:au) (x0 x1 x2:Value) (h:ai):bw prog C f16 [x0,x1,x2] h=tz16 C x0 x1 x2 h:=
 fM (by kernel_rfl) (by kernel_rfl)
theorem CU:kz16_1 C (aK 35 x) h=vu C x h:=
 uJ (T:=vu C) (fun x h=>by kernel_rfl) x h
theorem xc:codeA prog C (ao f16 [1,0,1,0,0]) (aK 35 x) h=oT C x h:=
 aA (T:=oT C) (fun x h=>by kernel_rfl) x h
noncomputable def tz17 (C:au) (x0 x1:Value) (h:ai):bc:=
 af (some (.bool false,h)) fun _ h=>af (some (x0,h)) fun y9 h=>af (pu (lenL y9) h) fun y10 h=>af (some (x1,h)) fun y11 h=>af (pu (lenL y11) h) fun y12 h=>af (pu (aF prog .neq 3 y10 y12) h) fun y13 h=>af (some (y13,h)) fun y14 h=>af (ay (cn y14==some false) (some (x0,h)) h) fun y15 h=>af (ay (cn y14==some false) (some (x1,h)) h) fun y16 h=>af (ay (cn y14==some false) (C 12 [y15,y16] h) h) fun y17 h=>af (match y14 with | .bool t=>some (if t then (.bool true) else y17,h)|_=>none) fun y18 h=>(match y18 with
 | .bool true=>af (some (.bool false,h)) fun y4_1 h=>some (y4_1,h)
 | .bool false=>af (some (x0,h)) fun y20 h=>af (C 43 [y20] h) fun y21 h=>af (some (y21,h)) fun y19 h=>af (pu (extractA y19 0) h) fun y22 h=>af (pu (extractA y19 1) h) fun y23 h=>af (eH (List.replicate 32 (.int .u8 0)) h) fun y5 h=>af (eY 32 y5 y22 h) fun _ h=>af (some (y23,h)) fun _ h=>af (some (x1,h)) fun y25 h=>af (C 43 [y25] h) fun y26 h=>af (some (y26,h)) fun y24 h=>af (pu (extractA y24 0) h) fun y27 h=>af (pu (extractA y24 1) h) fun y28 h=>af (eH (List.replicate 32 (.int .u8 0)) h) fun y7 h=>af (eY 32 y7 y27 h) fun _ h=>af (some (y28,h)) fun _ h=>af (du 32 y5 h) fun y29 h=>af (du 32 y7 h) fun y30 h=>af (pu (aF prog .eql 36 y29 y30) h) fun y31 h=>af (some (y31,h)) fun y4_1 h=>
 some (y4_1,h)
 |_=>none)
theorem Co (C:au) (x0 x1:Value) (h:ai):bw prog C f17 [x0,x1] h=tz17 C x0 x1 h:=
 fM (by kernel_rfl) (by kernel_rfl)
end
def kT (T:List av) (lo hi:List Nat):Nat:=(T.filter (cX lo hi)).length
def C7 (T:List av) (e:Ml):Nat:=if e.m.kind=4 then 2*max (kT T e.m.lo e.m.hi) 4-1 else if e.m.want=true then 1+kT T e.m.lo e.m.hi else 1
def kv (T:List av) (l:List Ml):Nat:=(l.map (C7 T)).sum
theorem yg (T:List av) (a b:List Ml):kv T (a++b)=kv T a+kv T b:=by unfold kv;rw [FH,List.sum_append]
theorem qO (T:List av) (e:Ml) (b:List Ml):kv T (e::b)=C7 T e+kv T b:=by unfold kv;rw [FR,List.sum_cons]
theorem phiL_nil (T:List av):kv T []=0:=rfl
theorem phi_pos (T:List av) (e:Ml):1<=C7 T e:=by
 unfold C7;split
 ·omega
 ·split<;>omega
theorem kU : ∀ {A T:List av},A.Nodup->(∀ r∈A,r∈T)->A.length<=T.length
 | [],_,_,_=>FN _
 |a::A,T,d,h=>by rw [List.nodup_cons] at d;have ha:=h a ED;have ih:=kU (A:=A) (T:=T.erase a) d.2 (fun r hr=>(List.mem_erase_of_ne (fun e=>d.1 (by rw [<-e];exact hr))).2 (h r (EI _ hr)));rw [List.length_erase_of_mem ha] at ih;have:=List.length_pos_of_mem ha;rw [List.length_cons];omega
theorem KS.nodup {L:List av} (k:KS L):L.Nodup:=by refine List.Pairwise.imp (fun {a b} hh e => ?_) k;subst e;have:gN a a=0:=tu _;omega
theorem Sid.cnt {T S:List av} (s:Sid T S) (lo hi:List Nat):(S.filter (cX lo hi)).length<=kT T lo hi:=by refine kU ((s.ks.nodup).filter _) fun r hr => ?_;rw [EE] at *;exact ⟨s.sub r hr.1,hr.2⟩
theorem zt : ∀ {T:List av} {p q s:av->Bool},(∀ r∈T,p r=true->s r=true/\q r=false)->(∀ r∈T,q r=true->s r=true)->(T.filter p).length+(T.filter q).length<=(T.filter s).length
 | [],_,_,_,_,_=>DD _
 |a::T,p,q,s,h1,h2=>by
  have ih:=zt (T:=T) (p:=p) (q:=q) (s:=s) (fun r hr=>h1 r (EI _ hr)) (fun r hr=>h2 r (EI _ hr));have a1:=h1 a ED;have a2:=h2 a ED;cases hp:p a with
  |true=>
   obtain ⟨e1,e2⟩:=a1 hp;rw [HK hp,HL (by rw [e2];decide),HK e1,List.length_cons,List.length_cons];omega
  |false=>
   rw [HL (by rw [hp];decide)];cases hq:q a with
   |true=>
    rw [HK hq,HK (a2 hq),List.length_cons,List.length_cons];omega
   |false=>
    rw [HL (by rw [hq];decide)];cases hs:s a with
    |true=>rw [HK hs,List.length_cons];omega
    |false=>rw [HL (by rw [hs];decide)];exact ih
theorem split_cnt {T S:List av} (s:Sid T S) {lo hi:List Nat} (h9 : ¬(S.filter (cX lo hi)).length<=8) :
  let l:=S.filter (cX lo hi)
  let m:=l.getD (l.length/2) av.z
  m∈l/\4<=kT T lo (dI m)/\4<=kT T (dI m) hi/\kT T lo (dI m)+kT T (dI m) hi<=kT T lo hi:=by
 intro l m;have hl:l.length/2<l.length:=by show (S.filter (cX lo hi)).length/2<(S.filter (cX lo hi)).length;omega
 have h9 : ¬l.length<=8:=h9;have em:m=l[l.length/2]:=by show l.getD _ _=_;rw [DJ,DB hl];rfl
 have hm:m∈l:=by rw [em];exact EL hl
 have hin : ∀ r∈l,cX lo hi r=true:=fun r hr=>(EE.1 hr).2;have sp:=BQ (hin m hm);have ks:KS l:=I8 _ s.ks;have kk:=HE.1 ks;refine ⟨hm,?_,?_,?_⟩
 ·refine D7 ?_ (s.cnt lo (dI m));have h1:(l.take (l.length/2)).length<=(S.filter (cX lo (dI m))).length:=by refine kU (List.Nodup.sublist (List.take_sublist _ _) ks.nodup) fun r hr => ?_;have hr':=EZ hr;obtain ⟨i,hi',rfl⟩:=FE.1 hr;rw [DV] at hi';rw [IW] at *;refine EE.2 ⟨(EE.1 hr').1,(sp _).2.2.1 (hin _ hr') ?_⟩;rw [em];exact kk i (l.length/2) (by omega) hl (by omega)
  rw [DV] at h1;omega
 ·refine D7 ?_ (s.cnt (dI m) hi);have h1:(l.drop (l.length/2)).length<=(S.filter (cX (dI m) hi)).length:=by
   refine kU (List.Nodup.sublist (List.drop_sublist _ _) ks.nodup) fun r hr => ?_;have hr':=FJ hr;obtain ⟨i,hi',rfl⟩:=FE.1 hr;rw [EB] at hi';rw [IX] at *;refine EE.2 ⟨(EE.1 hr').1,(sp _).2.2.2 (hin _ hr') ?_⟩;rw [em];by_cases h0:i=0
   ·subst h0;have:gN l[l.length/2] l[l.length/2]=0:=tu _;show 0<=gN l[l.length/2+0] _;simp only [Nat.add_zero];omega
   ·have h2:=kk (l.length/2) (l.length/2+i) hl (by omega) (by omega);have h3:gN l[l.length/2+i] l[l.length/2] = - gN l[l.length/2] l[l.length/2+i]:=qy _ _;omega
  rw [EB] at h1;omega
 ·refine zt (fun r _ h => ?_) fun r _ h=>((sp r).2.1 h).1;obtain ⟨h1,h2⟩:=(sp r).1 h;refine ⟨h1,?_⟩;cases q:cX (dI m) hi r with
  |false=>rfl
  |true=>have:=((sp r).2.1 q).2;omega
structure AnsOk (T S':List av) (x a:AM):Prop where
 ends:a.frm=x.to/\a.to=x.frm
 ok:MlOk T ⟨a,S'.filter (cX a.lo a.hi)⟩
 sub : ∀ r∈a.L,r∈S'
theorem kP {T:List av} {e:Ml} (k:MlOk T e) {a:AM} (h:a.frm=e.m.to/\a.to=e.m.frm):bq a = !(bq e.m)/\((a.frm=0/\a.to=1)\/(a.frm=1/\a.to=0)):=by unfold bq;rw [h.2,h.1];rcases k.ends with ⟨h1,h2⟩|⟨h1,h2⟩<;>rw [h1,h2]<;>decide
theorem BN.go {T:List av} {S:Bool->List av} {n1 n2:List Ml} {e:Ml} {S':List av} {xs:List AM} (s:BN T S (n1++e::n2)) (sd:Sid T S') (keep : ∀ r,Nf T r->r∈S (bq e.m)->r∈S')
  (ha : ∀ a∈xs,AnsOk T S' e.m a)
  (hc : ∀ c r,Nf T r->r∉S c->r∉sP S (bq e.m) S' c->Cov c r e -> ∃ a∈xs,Cov c r ⟨a,S'.filter (cX a.lo a.hi)⟩) :
  BN T (sP S (bq e.m) S') ((n1++n2)++iY S' xs):=by
 have ke:=s.msg e (EW _ ED);have old : ∀ {c r},Nf T r->r∈S c->r∈sP S (bq e.m) S' c:=fun {c r} n h=>by
  unfold sP;by_cases q:c=bq e.m
  ·rw [DL q];subst q;exact keep r n h
  ·rw [DM q];exact h
 refine ⟨fun c => ?_,fun r n => ?_,fun f hf => ?_,fun c r n hr => ?_⟩
 ·unfold sP;split
  ·exact sd
  ·exact s.sid c
 ·obtain ⟨c,hc⟩:=s.all r n;exact ⟨c,old n hc⟩
 ·rcases DU.1 hf with h|h
  ·exact s.msg f (by rcases DU.1 h with q|q;exact FD _ q;exact EW _ (EI _ q))
  ·obtain ⟨a,ha',rfl⟩:=oe h;exact (ha a ha').ok
 ·have hr0:r∉S c:=fun h=>hr (old n h);obtain ⟨⟨f,hf,cv⟩,lk⟩:=s.mis c r n hr0;refine ⟨?_,fun g hg => ?_⟩
  ·by_cases q:f∈n1++n2
   ·exact ⟨f,FD _ q,cv⟩
   ·have:f=e:=by
     rcases DU.1 hf with h|h
     ·exact absurd (FD _ h) q
     ·rcases FQ.1 h with h|h
      ·exact h
      ·exact absurd (EW _ h) q
    subst this;obtain ⟨a,ha',c'⟩:=hc c r n hr0 hr cv;exact ⟨_,EW _ (of_sendM ha'),c'⟩
  ·rcases DU.1 hg with h|h
   ·exact lk g (by rcases DU.1 h with q|q;exact FD _ q;exact EW _ (EI _ q))
   ·obtain ⟨a,ha',rfl⟩:=oe h;have A:=ha a ha';obtain ⟨sf,_⟩:=kP ke A.ends;refine ⟨fun q => ?_,fun q hin => ?_⟩
    ·
     have:c=bq e.m:=by have q:bq a = !c:=q;rw [sf] at q;cases c<;>cases h:bq e.m<;>rw [h] at q<;>simp_all
     have hS:r∉S':=by intro h;apply hr;unfold sP;rw [DL this];exact h
     exact ⟨fun h=>hS (EE.1 h).1,fun h=>hS (A.sub r h)⟩
    ·have q:bq a=c:=q;rw [sf] at q;have:r∈S (bq e.m):=by have:=s.kB n hr0;rw [<-q,Bool.not_not] at this;exact this
     exact EE.2 ⟨keep r n this,hin⟩
structure StepOk (T:List av) (S:Bool->List av) (n1 n2:List Ml) (e:Ml) (R:List av×List AM×Int):Prop where
 err:R.2.2=0
 ses:BN T (sP S (bq e.m) R.1) ((n1++n2)++iY R.1 R.2.1)
 pot:kv T (iY R.1 R.2.1)+1<=C7 T e
 ends : ∀ a∈R.2.1,a.frm=e.m.to/\a.to=e.m.frm
 twice:e.m.kind=5->e.m.want=false->R.2.1 = []/\fX R.1 e.m=(R.1,[],0)
 len:R.2.1.length<=R.1.length+2
theorem BN.sum {T:List av} {S:Bool->List av} {n1 n2:List Ml} {e:Ml} (v:mQ T) (s:BN T S (n1++e::n2)) (hk:e.m.kind=4) (hcnt:e.m.cnt=(e.l.length:Int)) (hroot:e.m.root=cM e.l)
  (hnc:e.l.length=((S (bq e.m)).filter (cX e.m.lo e.m.hi)).length->cM e.l=cM ((S (bq e.m)).filter (cX e.m.lo e.m.hi))->e.l=(S (bq e.m)).filter (cX e.m.lo e.m.hi)) :
  StepOk T S n1 n2 e (fX (S (bq e.m)) e.m):=by
 have ke:=s.msg e (EW _ ED);have hmem:e∈n1++e::n2:=EW _ ED;have er:fX (S (bq e.m)) e.m=(S (bq e.m),(fV (S (bq e.m)) e.m).map (dN e.m.to e.m.frm),0):=by unfold fX;rw [DL ⟨hk,by rw [hcnt];omega⟩]
 rw [er];have sd:=s.sid (bq e.m);have ph:C7 T e=2*max (kT T e.m.lo e.m.hi) 4-1:=by unfold C7;rw [DL hk]
 have n5:e.m.kind=5->e.m.want=false->(fV (S (bq e.m)) e.m).map (dN e.m.to e.m.frm) = []/\fX (S (bq e.m)) e.m=(S (bq e.m),[],0):=fun h=>by omega
 have hl : ∀ r,r∈(S (bq e.m)).filter (cX e.m.lo e.m.hi)↔r∈S (bq e.m)/\cX e.m.lo e.m.hi r=true:=fun r=>EE;have cnt:=sd.cnt e.m.lo e.m.hi;have c45 : ∀ {c r},Cov c r e->cX e.m.lo e.m.hi r=true:=fun {c r} cv=>by
  rcases cv with q|q|q
  ·exact q.2
  ·exact q.2.2.2
  ·exact absurd q.1 (by rw [hk];decide)
 by_cases q1:(decide ((((S (bq e.m)).filter (cX e.m.lo e.m.hi)).length:Int)=e.m.cnt)&&decide (cM ((S (bq e.m)).filter (cX e.m.lo e.m.hi))=e.m.root))=true
 ·
  have ex:fV (S (bq e.m)) e.m = []:=by unfold fV;simp only;rw [DL q1]
  rw [ex,HP];rw [DK,DS,DS,hcnt,hroot] at q1;have eq:=hnc (by omega) q1.2.symm;refine ⟨rfl,?_,by rw [ph];show 0+1<=_;omega,fun a ha=>(by cases ha),fun h=>by omega,FN _⟩;refine s.go sd (fun r _ h=>h) (fun a ha=>by cases ha) fun c r n h0 _ cv => ?_;exfalso;have hin:=c45 cv;have lk:=(s.mis c r n h0).2 e hmem;by_cases hc:bq e.m=c
  ·have:=lk.to hc hin;rw [eq,hl,hc] at this;exact h0 this.1
  ·have hc':bq e.m = !c:=by cases c<;>cases h:bq e.m<;>simp_all
   have h1:=(lk.frm hc').1;apply h1;rw [eq,hl,hc'];exact ⟨s.kB n h0,hin⟩
 ·by_cases q8:((S (bq e.m)).filter (cX e.m.lo e.m.hi)).length<=8
  ·have ex:fV (S (bq e.m)) e.m = [dQ e.m.lo e.m.hi ((S (bq e.m)).filter (cX e.m.lo e.m.hi)) true]:=by unfold fV;simp only;rw [DM q1,DL q8]
   rw [ex,FR,HP];obtain ⟨sf,en⟩:=kP ke (a:=dN e.m.to e.m.frm (dQ e.m.lo e.m.hi ((S (bq e.m)).filter (cX e.m.lo e.m.hi)) true)) ⟨rfl,rfl⟩;refine ⟨rfl,?_,?_,fun a ha=>by rw [EK] at ha;subst ha;exact ⟨rfl,rfl⟩,fun h=>by omega,by show 1<=_;omega⟩
   ·refine s.go sd (fun r _ h=>h) (fun a ha => ?_) fun c r n h0 _ cv => ?_
    ·rw [EK] at ha;subst ha;refine ⟨⟨rfl,rfl⟩,⟨en,fun r hr => ?_,fun r hr => ?_,(D7 (sd.cnt _ _) (FB _ _)),ke.lo,ke.hi,?_,.inr rfl⟩,fun r hr=>((hl r).1 hr).1⟩
     ·have hr:=(hl r).1 hr;exact ⟨sd.sub r hr.1,hr.2⟩
     ·exact sd.sub r (EE.1 hr).1
     ·show ((S (bq e.m)).filter (cX e.m.lo e.m.hi)).length<=64;omega
    ·have hin:=c45 cv;refine ⟨_,EK.2 rfl,?_⟩;by_cases hc:bq e.m=c
     ·exact .inr (.inl ⟨rfl,by rw [sf,hc],rfl,hin⟩)
     ·have hc':bq e.m = !c:=by cases c<;>cases h:bq e.m<;>simp_all
      refine .inr (.inr ⟨rfl,by rw [sf,hc',Bool.not_not],?_⟩);show r∈(S (bq e.m)).filter (cX e.m.lo e.m.hi);rw [hl,hc'];exact ⟨s.kB n h0,hin⟩
   ·rw [ph];show kv T [_]+1<=_;rw [qO,phiL_nil];have:C7 T ⟨dN e.m.to e.m.frm (dQ e.m.lo e.m.hi ((S (bq e.m)).filter (cX e.m.lo e.m.hi)) true),(S (bq e.m)).filter (cX e.m.lo e.m.hi)⟩=1+kT T e.m.lo e.m.hi:=rfl;show C7 T ⟨dN e.m.to e.m.frm (dQ e.m.lo e.m.hi ((S (bq e.m)).filter (cX e.m.lo e.m.hi)) true),(S (bq e.m)).filter (cX e.m.lo e.m.hi)⟩+0+1<=_;rw [this];omega
  ·have ex:fV (S (bq e.m)) e.m = [kL (S (bq e.m)) e.m.lo (dI (((S (bq e.m)).filter (cX e.m.lo e.m.hi)).getD (((S (bq e.m)).filter (cX e.m.lo e.m.hi)).length/2) av.z)),kL (S (bq e.m)) (dI (((S (bq e.m)).filter (cX e.m.lo e.m.hi)).getD (((S (bq e.m)).filter (cX e.m.lo e.m.hi)).length/2) av.z)) e.m.hi]:=by unfold fV;simp only;rw [DM q1,DM q8]
   obtain ⟨hm,k1,k2,k3⟩:=split_cnt sd q8;rw [ex];generalize ((S (bq e.m)).filter (cX e.m.lo e.m.hi)).getD (((S (bq e.m)).filter (cX e.m.lo e.m.hi)).length/2) av.z=m at *;have sp:=BQ ((hl m).1 hm).2;have wm:=(v m (sd.sub m ((hl m).1 hm).1)).1;have en1:=kP ke (a:=dN e.m.to e.m.frm (kL (S (bq e.m)) e.m.lo (dI m))) ⟨rfl,rfl⟩;have en2:=kP ke (a:=dN e.m.to e.m.frm (kL (S (bq e.m)) (dI m) e.m.hi)) ⟨rfl,rfl⟩;rw [FR,FR,HP];refine ⟨rfl,?_,?_,fun a ha => ?_,fun h=>by omega,by show 2<=_;omega⟩
   ·refine s.go sd (fun r _ h=>h) (fun a ha => ?_) fun c r n h0 _ cv => ?_
    ·rcases FQ.1 ha with rfl|ha
     ·exact ⟨⟨rfl,rfl⟩,⟨en1.2,fun r hr=>(by cases hr),fun r hr=>sd.sub r (EE.1 hr).1,(D7 (sd.cnt _ _) (FB _ _)),ke.lo,(by rw [show (dN e.m.to e.m.frm (kL (S (bq e.m)) e.m.lo (dI m))).hi=dI m from rfl,uv wm];omega),FN _,.inl ⟨rfl,rfl,rfl⟩⟩,fun r hr=>by cases hr⟩
     ·rw [EK] at ha;subst ha;exact ⟨⟨rfl,rfl⟩,⟨en2.2,fun r hr=>(by cases hr),fun r hr=>sd.sub r (EE.1 hr).1,(D7 (sd.cnt _ _) (FB _ _)),(by rw [show (dN e.m.to e.m.frm (kL (S (bq e.m)) (dI m) e.m.hi)).lo=dI m from rfl,uv wm];omega),ke.hi,FN _,.inl ⟨rfl,rfl,rfl⟩⟩,fun r hr=>by cases hr⟩
    ·have hin:=c45 cv;by_cases h:gN r m<0
     ·exact ⟨_,ED,.inl ⟨rfl,(sp r).2.2.1 hin h⟩⟩
     ·exact ⟨_,EI _ (EK.2 rfl),.inl ⟨rfl,(sp r).2.2.2 hin (by omega)⟩⟩
   ·rw [ph];have e1:C7 T ⟨dN e.m.to e.m.frm (kL (S (bq e.m)) e.m.lo (dI m)),(S (bq e.m)).filter (cX e.m.lo (dI m))⟩=2*max (kT T e.m.lo (dI m)) 4-1:=rfl;have e2:C7 T ⟨dN e.m.to e.m.frm (kL (S (bq e.m)) (dI m) e.m.hi),(S (bq e.m)).filter (cX (dI m) e.m.hi)⟩=2*max (kT T (dI m) e.m.hi) 4-1:=rfl;show C7 T ⟨dN e.m.to e.m.frm (kL (S (bq e.m)) e.m.lo (dI m)),(S (bq e.m)).filter (cX e.m.lo (dI m))⟩+(C7 T ⟨dN e.m.to e.m.frm (kL (S (bq e.m)) (dI m) e.m.hi),(S (bq e.m)).filter (cX (dI m) e.m.hi)⟩+0)+1<=_;rw [e1,e2];omega
   ·rcases FQ.1 ha with rfl|ha
    ·exact ⟨rfl,rfl⟩
    ·rw [EK] at ha;subst ha;exact ⟨rfl,rfl⟩
theorem phiL_one {T:List av} : ∀ {l:List Ml},(∀ e∈l,C7 T e=1)->kv T l=l.length
 | [],_=>rfl
 |a::l,h=>by rw [qO,h a ED,phiL_one fun e he=>h e (EI _ he),List.length_cons];omega
theorem BN.items {T:List av} {S:Bool->List av} {n1 n2:List Ml} {e:Ml} (v:mQ T) (s:BN T S (n1++e::n2)) (hk:e.m.kind=5) :
  StepOk T S n1 n2 e (fX (S (bq e.m)) e.m):=by
 have ke:=s.msg e (EW _ ED);have hmem:e∈n1++e::n2:=EW _ ED;have out:e.m.L.any (yu e.m.lo e.m.hi)=false:=by rw [H3];intro r hr;obtain ⟨h1,h2⟩:=ke.sub r hr;unfold yu;rw [(v r h1).2,h2];decide
 have er : ∀ S0,fX S0 e.m=(aT S0 e.m.L,(fQ (aT S0 e.m.L) e.m).map (dN e.m.to e.m.frm),0):=fun S0=>by unfold fX;rw [DM (fun q=>by have:=q.1;omega),DM (fun q=>by have:=q.2;have:=ke.len;omega),DL ⟨hk,out⟩]
 have subT : ∀ r∈e.m.L,r∈T:=fun r hr=>(ke.sub r hr).1;have sd:=s.sid (bq e.m);have sd':=sd.aT v subT;have keep : ∀ r,Nf T r->r∈S (bq e.m)->r∈aT (S (bq e.m)) e.m.L:=fun r n h=>sd.keep v subT n (.inl h);have ag:=sd.again v subT;rw [er];cases hw:e.m.want with
 |false=>
  have ex : ∀ S0,fQ S0 e.m = []:=fun S0=>by unfold fQ;simp only;rw [DM (by rw [hw];decide)]
  have ph:C7 T e=1:=by unfold C7;rw [DM (by omega),DM (by rw [hw];decide)]
  rw [ex,HP];refine ⟨rfl,?_,by rw [ph];show 0+1<=_;omega,fun a ha=>(by cases ha),fun _ _=>⟨rfl,?_⟩,FN _⟩
  ·refine s.go sd' keep (fun a ha=>by cases ha) fun c r n h0 h1 cv => ?_;exfalso;rcases cv with q|q|q
   ·have:=q.1;omega
   ·rw [hw] at q;exact absurd q.2.2.1 (by decide)
   ·apply h1;unfold sP;rw [DL q.2.1.symm];exact sd.keep v subT n (.inr q.2.2)
  ·show fX (aT (S (bq e.m)) e.m.L) e.m=_;rw [er,ag,ex,HP]
 |true=>
  have ex:fQ (aT (S (bq e.m)) e.m.L) e.m=(nU ((((aT (S (bq e.m)) e.m.L).filter (cX e.m.lo e.m.hi)).filter fun r => !(decide (r∈e.m.L)))) (((((aT (S (bq e.m)) e.m.L).filter (cX e.m.lo e.m.hi)).filter fun r => !(decide (r∈e.m.L))).length+63)/64)).map fun p=>dQ e.m.lo e.m.hi p false:=by unfold fQ;simp only;rw [DL hw]
  have ph:C7 T e=1+kT T e.m.lo e.m.hi:=by unfold C7;rw [DM (by omega),DL hw]
  rw [ex];have cnt:=sd'.cnt e.m.lo e.m.hi;generalize hM:aT (S (bq e.m)) e.m.L=M at *;have hR : ∀ r,r∈(M.filter (cX e.m.lo e.m.hi)).filter (fun r => !(decide (r∈e.m.L)))↔(r∈M/\cX e.m.lo e.m.hi r=true)/\r∉e.m.L:=fun r=>by rw [EE,EE];simp
  have lR:=FB (fun r => !(decide (r∈e.m.L))) (M.filter (cX e.m.lo e.m.hi));generalize (M.filter (cX e.m.lo e.m.hi)).filter (fun r => !(decide (r∈e.m.L)))=R at *;have hx : ∀ a∈((nU R ((R.length+63)/64)).map fun p=>dQ e.m.lo e.m.hi p false).map (dN e.m.to e.m.frm),∃ p∈nU R ((R.length+63)/64),a=dN e.m.to e.m.frm (dQ e.m.lo e.m.hi p false):=fun a ha=>by rw [IU] at ha;obtain ⟨p,hp,rfl⟩:=E0.1 ha;exact ⟨p,hp,rfl⟩
  have hlen:(((nU R ((R.length+63)/64)).map fun p=>dQ e.m.lo e.m.hi p false).map (dN e.m.to e.m.frm)).length=(R.length+63)/64:=by rw [DY,DY];unfold nU;rw [DY,IJ]
  refine ⟨rfl,?_,?_,fun a ha => ?_,fun _ h=>(by rw [hw] at h;cases h),?_⟩
  ·refine s.go sd' keep (fun a ha => ?_) fun c r n h0 h1 cv => ?_
   ·obtain ⟨p,hp,rfl⟩:=hx a ha;obtain ⟨p1,p2⟩:=mem_chkT hp;obtain ⟨sf,en⟩:=kP ke (a:=dN e.m.to e.m.frm (dQ e.m.lo e.m.hi p false)) ⟨rfl,rfl⟩;refine ⟨⟨rfl,rfl⟩,⟨en,fun r hr => ?_,fun r hr => ?_,(D7 (sd'.cnt _ _) (FB _ _)),ke.lo,ke.hi,p1,.inr rfl⟩,fun r hr=>((hR r).1 (p2 r hr)).1.1⟩
    ·have:=(hR r).1 (p2 r hr);exact ⟨sd'.sub r this.1.1,this.1.2⟩
    ·exact sd'.sub r (EE.1 hr).1
   ·rcases cv with q|q|q
    ·have:=q.1;omega
    ·have hc':=q.2.1;have rM:r∈M:=keep r n (by rw [hc'];exact s.kB n h0);have lk:=((s.mis c r n h0).2 e hmem).frm hc';obtain ⟨p,hp,hrp⟩:=chkT_mem ((hR r).2 ⟨⟨rM,q.2.2.2⟩,lk.2⟩);refine ⟨dN e.m.to e.m.frm (dQ e.m.lo e.m.hi p false),E0.2 ⟨_,E0.2 ⟨p,hp,rfl⟩,rfl⟩,.inr (.inr ⟨rfl,?_,hrp⟩)⟩;rw [(kP ke (a:=dN e.m.to e.m.frm (dQ e.m.lo e.m.hi p false)) ⟨rfl,rfl⟩).1,hc',Bool.not_not]
    ·exfalso;apply h1;unfold sP;rw [DL q.2.1.symm,<-hM];exact sd.keep v subT n (.inr q.2.2)
  ·rw [ph,phiL_one (fun f hf => ?_)]
   ·unfold iY;rw [DY,hlen];omega
   ·obtain ⟨a,ha,rfl⟩:=oe hf;obtain ⟨p,hp,rfl⟩:=hx a ha;rfl
  ·obtain ⟨p,hp,rfl⟩:=hx a ha;exact ⟨rfl,rfl⟩
  ·rw [hlen];have:=FB (cX e.m.lo e.m.hi) M;show _<=M.length+2;omega
theorem BN.step {T:List av} {S:Bool->List av} {n1 n2:List Ml} {e:Ml} (v:mQ T) (s:BN T S (n1++e::n2))
  (hnc:e.m.kind=4->e.l.length=((S (bq e.m)).filter (cX e.m.lo e.m.hi)).length->cM e.l=cM ((S (bq e.m)).filter (cX e.m.lo e.m.hi))->e.l=(S (bq e.m)).filter (cX e.m.lo e.m.hi)) :
  StepOk T S n1 n2 e (fX (S (bq e.m)) e.m):=by
 rcases (s.msg e (EW _ ED)).kind with ⟨k,c,r⟩|k
 ·exact s.sum v k c r (hnc k)
 ·exact s.items v k
theorem BN.first {A B:List av} (v:mQ (A++B)) (x:AM) (hx:x=dN 0 1 (kL (aT [] A) [] [])) :
  BN (A++B) (fun c=>if c=false then aT [] A else aT [] B) (iY (aT [] A) [x])/\kv (A++B) (iY (aT [] A) [x])<=2*(A++B).length+7:=by
 subst hx;have inT : ∀ r,cX [] [] r=true:=fun r=>by
  unfold cX;have:0<=jv r []:=by unfold jv;have:xT r=UInt8.ofNat r.kind::((r.obj ++ [i8 r.aU]).map UInt8.ofNat):=rfl;rw [this];exact (show (0:Int)<=1 by decide)
  rw [DC this];rfl
 have sA : ∀ {C:List av},(∀ r∈C,r∈A++B)->Sid (A++B) (aT [] C):=fun {C} h=>by
  have:Sid (A++B) ([]:List av):=⟨fun _ h=>(by cases h),.nil,fun _ h=>by cases h⟩
  exact this.aT v h
 have kA : ∀ {C:List av},(∀ r∈C,r∈A++B) -> ∀ r,Nf (A++B) r->r∈C->r∈aT [] C:=fun {C} h r n hr=>by
  have:Sid (A++B) ([]:List av):=⟨fun _ h=>(by cases h),.nil,fun _ h=>by cases h⟩
  exact this.keep v h n (.inr hr)
 have hA : ∀ r∈A,r∈A++B:=fun r h=>FD _ h;have hB : ∀ r∈B,r∈A++B:=fun r h=>EW _ h;have fl:(aT [] A).filter (cX [] [])=aT [] A:=JE.2 fun r _=>inT r;have all : ∀ r,Nf (A++B) r->r∈aT [] A\/r∈aT [] B:=fun r n=>(DU.1 n.1.1).imp (kA hA r n) (kA hB r n);refine ⟨⟨fun c => ?_,fun r n => ?_,fun e he => ?_,fun c r n h0 => ?_⟩,?_⟩
 ·cases c
  ·exact sA hA
  ·exact sA hB
 ·rcases all r n with h|h
  ·exact ⟨false,h⟩
  ·exact ⟨true,h⟩
 ·obtain ⟨a,ha,rfl⟩:=oe he;rw [EK] at ha;subst ha;refine ⟨.inl ⟨rfl,rfl⟩,fun r hr=>(by cases hr),fun r hr=>(sA hA).sub r (EE.1 hr).1,(D7 ((sA hA).cnt _ _) (FB _ _)),FN _,FN _,FN _,.inl ⟨rfl,rfl,rfl⟩⟩
 ·refine ⟨⟨_,of_sendM (EK.2 rfl),.inl ⟨rfl,inT r⟩⟩,fun e he => ?_⟩;obtain ⟨a,ha,rfl⟩:=oe he;rw [EK] at ha;subst ha;refine ⟨fun q=>⟨fun h => ?_,fun h=>by cases h⟩,fun q _ => ?_⟩
  ·cases c
   ·exact h0 (EE.1 h).1
   ·exact Bool.noConfusion (show true=false from q)
  ·cases c
   ·exact Bool.noConfusion (show true=false from q)
   ·have:r∈aT [] A:=(all r n).resolve_right h0;exact EE.2 ⟨this,inT r⟩
 ·have:kv (A++B) (iY (aT [] A) [dN 0 1 (kL (aT [] A) [] [])])=2*max (kT (A++B) [] []) 4-1:=rfl;rw [this];have:=FB (cX [] []) (A++B);have:kT (A++B) [] []<=(A++B).length:=this;omega
end Go.Proofs.YtdnahgfgoajmcaaGreatDoor
namespace Go.Proofs.YtdnahgfgoajmcaaGreatDoor
open Go Go.Abs Tryz
open Go.Lib (compareBytes)
attribute [local congr] aw
structure ME where
 m:cR
 v:Value
def rz (e:ME):List Value:=mC e.m ++ [e.v]
structure wW (g:ai) (e:ME) (z:Ml):Prop where
 m:ql g e.m z.m
 rs:gC g e.v z.l
 gr:gR e.v
structure ENb (b:Nat) (e:ME):Prop where
 m:MNb b e.m
 v:slB e.v≠some b
theorem gC.keepB {h h':ai} {v:Value} {P:List av} {B:Nat->Prop} (x:gC h v P) (k:az h h' B) (hc : ∀ b,slB v=some b -> ¬B b):gC h' v P:=by
 obtain ⟨hd,a,d,rfl,hn,ht,h0⟩:=x;refine ⟨hd,a,d,rfl,hn,ht,fun hp => ?_⟩;obtain ⟨b,off,s,q,rfl,hk,hlen,hcs⟩:=h0 hp;refine ⟨b,off,s,q,rfl,k.getE hk (hc b ?_),hlen,hcs⟩;cases hP:P.length with
 |zero=>rw [hP] at hp;exact absurd hp (GH 0)
 |succ n=>rfl
theorem ql.keepB {g g':ai} {m:cR} {x:AM} {B:Nat->Prop} (X:ql g m x) (k:az g g' B) (nb : ∀ b,B b->b<g.next->MNb b m):ql g' m x:=
 ⟨X.kind,X.frm,X.to,X.cnt,X.root,X.want,X.d32,az.bytes k X.lo fun y hy hn q=>(nb _ q (qT X.lo hn hy)).lo hn y hy rfl,az.bytes k X.hi fun y hy hn q=>(nb _ q (qT X.hi hn hy)).hi hn y hy rfl,X.rs.keepB k fun _ hb q=>(nb _ q (X.rs.slb hb)).rs hb,X.mg⟩
theorem wW.keepB {g g':ai} {e:ME} {z:Ml} {B:Nat->Prop} (X:wW g e z) (k:az g g' B) (nb : ∀ b,B b->b<g.next->ENb b e):wW g' e z:=
 ⟨X.m.keepB k fun b hb hl=>(nb b hb hl).m,X.rs.keepB k fun b hb q=>(nb b q (X.rs.slb hb)).v hb,X.gr⟩
theorem wW.old {g g':ai} {e:ME} {z:Ml} (X:wW g e z) (o:aE g g'):wW g' e z:=⟨X.m.old o,X.rs.mono o,X.gr⟩
theorem ENb.of {g:ai} {e:ME} {z:Ml} (X:wW g e z) {b:Nat} (hb:g.next<=b):ENb b e:=⟨MNb.of X.m hb,fun q=>by have:=X.rs.slb q;omega⟩
theorem wW.cell {g g':ai} {e:ME} {z:Ml} {c:Nat} {w:Value} (X:wW g e z) (k:az g g' (· = c)) (hc:g.get c=some [w]) (hw : ∃ a n d,w = .slice a n d):wW g' e z:=
 ⟨X.m.cellW k hc hw,X.rs.keepC k hc,X.gr⟩
theorem C9 {g:ai} {e:ME} {z:Ml} (X:wW g e z):(rz e).length=117/\Abs.noHoles (rz e)=true/\aM (rz e)=true:=by
 have ok:=gf X.m.mg;obtain ⟨_,a,d,hv,_⟩:=X.rs;unfold rz;refine ⟨by rw [DE,ok.1];rfl,?_,?_⟩
 ·have:=ok.2.1;unfold Abs.noHoles at *;rw [FI,this,hv];rfl
 ·have:=ok.2.2;unfold aM at *;rw [FI,this,hv];rfl
abbrev pC (P:List (ME×Ml)):List Value:=P.flatMap fun p=>rz p.1
structure jS (g:ai) (N:Nat) (w:Value) (P:List (ME×Ml)):Prop where
 sl:dP 117 g N w P.length (pC P)
 is : ∀ p∈P,wW g p.1 p.2
 nb : ∀ b,iR w=some b -> ∀ p∈P,ENb b p.1
theorem pC_ok {g:ai} : ∀ {P:List (ME×Ml)},(∀ p∈P,wW g p.1 p.2)->(pC P).length=P.length*117/\Abs.noHoles (pC P)=true/\aM (pC P)=true
 | [],_=>⟨rfl,rfl,rfl⟩
 |p::P,h=>by
  have ih:=pC_ok (P:=P) fun q hq=>h q (EI _ hq);have ok:=C9 (h p ED);have e:pC (p::P)=rz p.1++pC P:=E6;rw [e];refine ⟨by rw [DE,ok.1,ih.1,List.length_cons];omega,?_,?_⟩
  ·have h1:=ok.2.1;have h2:=ih.2.1;unfold Abs.noHoles at *;rw [FI,h1,h2];rfl
  ·have h1:=ok.2.2;have h2:=ih.2.2;unfold aM at *;rw [FI,h1,h2];rfl
theorem pC_app (P Q:List (ME×Ml)):pC (P++Q)=pC P++pC Q:=HR
theorem zR {g:ai} {P:List (ME×Ml)} (h : ∀ p∈P,wW g p.1 p.2) {j:Nat} (hj:j<=P.length):(pC P).take (j*117)=pC (P.take j)/\(pC P).drop (j*117)=pC (P.drop j):=by
 have e:pC P=pC (P.take j)++pC (P.drop j):=by rw [<-pC_app,FC]
 have l:=(pC_ok (P:=P.take j) fun p hp=>h p (EZ hp)).1;rw [DV,HI hj] at l;rw [e];exact ⟨HC l,HW l⟩
theorem jS.old {g g':ai} {N:Nat} {w:Value} {P:List (ME×Ml)} (A:jS g N w P) (o:aE g g'):jS g' N w P:=⟨A.sl.old o,fun p hp=>(A.is p hp).old o,A.nb⟩
theorem jS.cell {g g':ai} {N:Nat} {w:Value} {P:List (ME×Ml)} {c:Nat} {u:Value} (A:jS g N w P) (k:az g g' (· = c)) (hc:g.get c=some [u]) (hu : ∃ a n d,u = .slice a n d) (hN:c<N):jS g' N w P:=
 ⟨A.sl.keep k fun b hb q=>by have:=(A.sl.blk hb).1;have q:b=c:=q;omega,fun p hp=>(A.is p hp).cell k hc hu,A.nb⟩
theorem jS.nil {g:ai} {N:Nat}:jS g N (.slice none 0 0) []:=⟨dP.nil _ _ _,fun _ h=>(by cases h),fun _ _ _ h=>(by cases h)⟩
theorem jS.push {g:ai} {N:Nat} {w u:Value} {P Q:List (ME×Ml)} (A:jS g N w P) (hn:g.n0<=N) (hN:N<=g.next) (hl:P.length<=1000000) (hm:Q.length<=1000000) (hu:ik u=some Q.length) (hf:firstA 117 Q.length u g=some (pC Q)) (is : ∀ p∈Q,wW g p.1 p.2) (nb : ∀ b,iR w=some b -> ∀ p∈Q,ENb b p.1) :
  ∃ w' g',appendA 117 376 w u g=some (w',g')/\jS g' N w' (P++Q)/\az g g' (fun b=>iR w=some b) /\ ∀ b,iR w'=some b->iR w=some b\/g.next<=b:=by
 have ok:=pC_ok is;obtain ⟨w',g',e,G,k,h0,h1⟩:=A.sl.pushS (jt:=376) (by decide) (by decide) hn hN hl hm hu hf ok.1 ok.2.1 ok.2.2;have kp : ∀ p∈P++Q,wW g' p.1 p.2:=fun p hp=>by
  rcases DU.1 hp with h|h
  ·exact (A.is p h).keepB k fun b hb _=>A.nb b hb p h
  ·exact (is p h).keepB k fun b hb _=>nb b hb p h
 refine ⟨w',g',e,⟨by rw [DE,pC_app];exact G,kp,fun b hb p hp => ?_⟩,k,fun b hb => ?_⟩
 ·by_cases hq:Q.length=0
  ·rw [(h0 hq).1] at hb;rcases DU.1 hp with h|h
   ·exact A.nb b hb p h
   ·exact nb b hb p h
  ·obtain ⟨h2,_⟩:=h1 (by omega);rw [h2] at hb;cases hb;rcases DU.1 hp with h|h
   ·exact ENb.of (A.is p h) (DD _)
   ·exact ENb.of (is p h) (DD _)
 ·by_cases hq:Q.length=0
  ·rw [(h0 hq).1] at hb;exact .inl hb
  ·obtain ⟨h2,_⟩:=h1 (by omega);rw [h2] at hb;cases hb;exact .inr (DD _)
theorem bld_me {g:ai} {e:ME} {z:Ml} (X:wW g e z):fZ zLL [(0,116,mV e.m),(116,1,e.v)]=some (.agg (rz e).toArray):=by
 have ok:=gf X.m.mg;obtain ⟨_,a,d,hv,_⟩:=X.rs;have f1:fillL zLL [(0,116,mV e.m),(116,1,e.v)]=fillL (mC e.m ++ [.slice none 0 0]) [(116,1,e.v)]:=by rw [iq (z:=zLL) (A := []) (B:=zML) (C := [.slice none 0 0]) (o:=0) (n:=116) rfl rfl rfl ok.1,List.nil_append]
 have f2:fillL (mC e.m ++ [.slice none 0 0]) [(116,1,e.v)]=some (rz e):=by
  rw [hv];have c1:(Value.slice a z.l.length d).cells = #[.slice a z.l.length d]:=rfl;unfold fillL;rw [c1];have:116+1<=(mC e.m ++ [Value.slice none 0 0]).length:=by rw [DE,ok.1];exact DD _
  simp only [DC this];unfold fillL splice rz;rw [HC ok.1,hv];simp [ok.1]
 unfold fZ;rw [f1,f2];rfl
theorem bsl_me {g:ai} {e:ME} {z:Ml} (X:wW g e z) (q:ai):dg 117 (.agg zLL.toArray) 1 [(0,.agg (rz e).toArray)] q=some (.slice (some ⟨q.next,0,none⟩) 1 1,q.alloc (rz e)):=by
 have ok:=C9 X;have e1:fillL zLL [(0*117,117,.agg (rz e).toArray)]=some (rz e):=by rw [iq (z:=zLL) (A := []) (B:=zLL) (C := []) (o:=0*117) (n:=117) (by simp) rfl rfl ok.1];simp [fillL]
 have e2:aM ([(0,Value.agg (rz e).toArray)].flatMap fun x:Nat×Value=>x.2.cells.toList)=true:=by show aM ((rz e).toArray.toList ++ [])=true;rw [EU];exact ok.2.2
 unfold dg;rw [e2];exact (GM (fun o:Option (List Value)=>match o with|some cs=>some (Value.slice (some ⟨q.next,0,none⟩) 1 1,q.alloc cs)|none=>none) e1:_)
theorem veqS : ∀ {l:List Value},(∀ v∈l,(∃ k n,v = .int k n)\/(∃ a n c,v = .slice a n c) \/ ∃ b,v = .bool b)->xa l l=true
 | [],_=>rfl
 |v::l,h=>by simp only [xa,DK];refine ⟨?_,veqS fun w hw=>h w (EI _ hw)⟩;rcases h v ED with ⟨k,n,rfl⟩|⟨a,n,c,rfl⟩|⟨b,rfl⟩<;>simp [rD]
theorem chkM {m:cR} (hz:MZ m) (_:js m.root) (g:ai):cq true (some (mV m,g)) (mV m)=true:=by
 obtain ⟨h3,h4,h5,h6,ht⟩:=hz;show (!true||rD (.agg ⟨mC m⟩) (.agg ⟨mC m⟩))=true;simp only [DP,EO,rD];refine veqS fun v hv => ?_;have hu : ∀ {l:List Nat} {v:Value},v∈bn l -> ∃ k n,v = .int k n:=fun {l v} hv=>by obtain ⟨n,_,rfl⟩:=E0.1 hv;exact ⟨_,_,rfl⟩
 unfold mC mHd at hv;rw [h3,h4,h5,h6,ht] at hv;unfold mZ at hv;simp only [DU,FQ,GO,JG] at hv;rcases hv with hv|hv|hv|hv
 ·rcases hv with h|h|h|h|h|h|h|h|h|h<;>subst h<;>first|exact .inl ⟨_,_,rfl⟩|exact .inr (.inl ⟨_,_,_,rfl⟩)
 ·exact .inl (hu hv)
 ·rcases hv with h|h<;>subst h
  ·exact .inr (.inl ⟨_,_,_,rfl⟩)
  ·exact .inr (.inr ⟨_,rfl⟩)
 ·rcases hv with hv|hv|hv|hv
  ·exact .inl (hu hv)
  ·rcases hv with h|h|h|h<;>subst h<;>exact .inl ⟨_,_,rfl⟩
  ·exact .inl (hu hv)
  ·rcases hv with h|h|h|h<;>subst h<;>first|exact .inl ⟨_,_,rfl⟩|exact .inr (.inl ⟨_,_,_,rfl⟩)
theorem dP.gR {h:ai} {N:Nat} {v:Value} {n:Nat} {cs:List Value} (x:dP 39 h N v n cs):gR v:=by
 rcases x.form with ⟨_,rfl⟩|⟨b,s,rfl,_,_,h3⟩
 ·exact ⟨none,0,0,rfl,DD _,fun h=>absurd h (GH 0)⟩
 ·refine ⟨_,_,_,rfl,DD _,fun hn b' o' s' e => ?_⟩;cases e;rcases h3 with ⟨h0,_⟩|⟨_,hs⟩
  ·omega
  ·cases hs;rfl
theorem isz16:cx prog 16 f16:=by constructor<;>kernel_rfl
theorem bz16_3f (C:au) (e:aX) (h:ai):bz16_3 C 0 e h=kz16_1 C e h:=rfl
theorem ms_at {ms:List cR} (mg : ∀ m∈ms,MG m) {b:Nat} {s:Option Nat} {i:Nat} (hi:i<ms.length):idxS 116 (.slice (some ⟨b,0,s⟩) ms.length ms.length) (aq i)=some (ptr b (i*116)) /\ ∀ g:ai,g.get b=some (uf ms)->du 116 (ptr b (i*116)) g=some (mV ms[i],g) /\ ∀ (j:Nat) (v:Value),(mC ms[i])[j]? = some v->eK v=false->ld1 (ptr b (i*116+j)) g=some (v,g):=by
 have hlt:(ms.take i).length=i:=by rw [DV];omega
 have l1:(uf (ms.take i)).length=i*116:=by rw [msC_len fun q hq=>mg q (EZ hq),hlt]
 have ok:=gf (mg _ (EL hi));have split:uf ms=uf (ms.take i)++(mC ms[i]++uf (ms.drop (i+1))):=by
  have e:ms.take i++ms.drop i=ms:=FC i ms;rw [E8 hi] at e
  calc uf ms=uf (ms.take i++ms[i]::ms.drop (i+1)):=by rw [e]
   _=_:=by rw [tn];rfl
 refine ⟨?_,fun g gb=>⟨?_,fun j v hv hh => ?_⟩⟩
 ·unfold idxS aq;simp only;rw [DL (by omega),Int.toNat_natCast,DH]
 ·have ec:((uf ms).drop (i*116)).take 116=mC ms[i]:=by rw [split,HW l1,HC ok.1]
  have:=qF (o:=i*116) (n:=116) gb (by rw [split,DE,DE,l1,ok.1];omega) (by rw [ec];exact ok.2.1);rw [ec] at this;exact this
 ·refine aW gb ?_ hh;have hj:j<(mC ms[i]).length:=(EV.1 hv).1;rw [split,EH (by omega),l1,show i*116+j-i*116=j by omega,E9 hj];exact hv
set_option maxRecDepth 100000 in
set_option maxHeartbeats 1000000 in
theorem rz16 {h:ai} (hG:4<=h.n0) {N:Nat} {w:Value} {P:List (ME×Ml)} (A:jS h N w P) (h0:h.n0<=N) (hN:N<=h.next) (hP:P.length<=500000) {vb:Nat} {S:List av} (I:kj h vb S) (hS:S.length<=1000000)
  {wa:Value} {ms:List cR} {xs:List AM} (B:(wa = .slice none 0 0/\ms = []) \/ ∃ b s,wa = .slice (some ⟨b,0,s⟩) ms.length ms.length/\h.get b=some (uf ms)) (len:ms.length=xs.length) (is : ∀ i (h1:i<ms.length) (h2:i<xs.length),ql h ms[i] xs[i]) (mz : ∀ m∈ms,MZ m) (hm:ms.length<=100000)
  (sep : ∀ b,iR w=some b->b≠vb/\iR wa≠some b/\(∀ va,h.get vb=some [va]->slB va≠some b) /\ ∀ m∈ms,MNb b m) :
  ∃ w' h' Q,CW 16 [w,ptr vb 0,wa] h=some (w',h')/\az h h' (fun b=>iR w=some b)/\jS h' N w' (P++Q)/\Q.map (·.2)=iY S xs /\ ∀ b,iR w'=some b->iR w=some b\/h.next<=b:=by
 have mg : ∀ m∈ms,MG m:=fun q hq=>by obtain ⟨i,hi,rfl⟩:=FE.1 hq;exact (is i hi (by rw [<-len];exact hi)).mg
 have ln:lenL wa=some (aq ms.length):=by rcases B with ⟨rfl,rfl⟩|⟨b,s,rfl,_⟩<;>rfl
 obtain ⟨va,gv,rv,nv⟩:=I.ex;have hvb:vb<h.next:=h.aO gv;have key : ∃ o:bc,tz16 CW w (ptr vb 0) wa h=o /\ ∃ w' h' Q,o=some (w',h')/\az h h' (fun b=>iR w=some b)/\jS h' N w' (P++Q)/\Q.map (·.2)=iY S xs /\ ∀ b,iR w'=some b->iR w=some b\/h.next<=b:=by
  refine ⟨_,rfl,?_⟩;unfold tz16;simp -implicitDefEqProofs only [aj];refine bH (n:=35) (fin:=fun ex y g=>ex = .exit 0 /\ ∃ Q,az h g (fun b=>iR w=some b)/\jS g N (y 0) (P++Q)/\Q.map (·.2)=iY S xs /\ ∀ b,iR (y 0)=some b->iR w=some b\/h.next<=b) (Q:=fun o:bc => ∃ w' h' Q,o=some (w',h')/\az h h' (fun b=>iR w=some b)/\jS h' N w' (P++Q)/\Q.map (·.2)=iY S xs /\ ∀ b,iR w'=some b->iR w=some b\/h.next<=b)
   (bC (xc CW) (Inv:=fun k y g => ∃ i Q,i+k=ms.length/\y 1=ptr vb 0/\y 2=wa/\y 7=aq i/\az h g (fun b=>iR w=some b)/\jS g N (y 0) (P++Q)/\Q.map (·.2)=iY S (xs.take i) /\ ∀ b,iR (y 0)=some b->iR w=some b\/h.next<=b) ?_ ms.length (by have:aD=18446744073709551616:=rfl;omega) ⟨0,[],by omega,rfl,rfl,rfl,az.refl _ _,(by rw [EU];exact A),(by rw [List.take_zero];rfl),fun b hb => .inl hb⟩) ?_
  ·rintro k y g ⟨i,Q,hik,y1,y2,y7,K,D,hQ,hb0⟩;unfold oT;simp -implicitDefEqProofs only [y2,y7,ln,ie,aj,ak];have hnext:=K.next;by_cases hi:i<ms.length
   ·have hi':i<xs.length:=by rw [<-len];exact hi
    have hQl:Q.length=i:=by have:=GM List.length hQ;unfold iY at this;rw [DY,DY,DV] at this;omega
    rcases B with ⟨_,rfl⟩|⟨ba,sa,rfl,gb⟩
    ·exact absurd hi (FP i)
    ·obtain ⟨ix,rd⟩:=ms_at mg (b:=ba) (s:=sa) hi;have hba:ba<h.next:=h.aO gb;have gba:g.get ba=some (uf ms):=K.getE gb fun q=>(sep _ q).2.1 rfl;obtain ⟨rd1,rdf⟩:=rd g gba;have l7:=rdf 7 ms[i].lo (ki ms[i] (i:=7) rfl) rfl;have l8:=rdf 8 ms[i].hi (ki ms[i] (i:=8) rfl) rfl;have X:=(is i hi hi').keepB K fun b hb _=>(sep b hb).2.2.2 _ (EL hi);have gvg:g.get vb=some [va]:=K.getE gv fun q=>(sep _ q).1 rfl;have rvg:gC g va S:=rv.keepB K fun b hb q=>(sep b q).2.2.1 va gv hb;obtain ⟨v',g1,e1,o1,G1,w1⟩:=r20L (h:=g) (cl:=ms[i].cl) (ch:=ms[i].ch) (by rw [K.n0];exact hG) gvg rvg nv I.ks hS X.lo X.hi;have E1:wW g1 ⟨ms[i],v'⟩ ⟨xs[i],S.filter (cX xs[i].lo xs[i].hi)⟩:=⟨X.old o1,G1.rc w1,G1.gR⟩
     have D1:=D.old o1;have n1:=o1.next;have bm:fZ zLL [(0,116,mV ms[i]),(116,1,v')]=some (.agg (rz ⟨ms[i],v'⟩).toArray):=bld_me E1;have bs:=bsl_me E1 g1;have o2:aE g1 (g1.alloc (rz ⟨ms[i],v'⟩)):=az.alloc _ _ _;have g2:(g1.alloc (rz ⟨ms[i],v'⟩)).get g1.next=some (rz ⟨ms[i],v'⟩):=by rw [ai.aN,DL rfl]
     have n2:(g1.alloc (rz ⟨ms[i],v'⟩)).next=g1.next+1:=rfl;generalize hg2:g1.alloc (rz ⟨ms[i],v'⟩)=q at *;have mk:=C9 E1;have hf:firstA 117 1 (.slice (some ⟨g1.next,0,none⟩) 1 1) q=some (pC [((⟨ms[i],v'⟩:ME),(⟨xs[i],S.filter (cX xs[i].lo xs[i].hi)⟩:Ml))]):=by
      have e1:((rz ⟨ms[i],v'⟩).drop 0).take (1*117)=rz ⟨ms[i],v'⟩:=by rw [EP,JT,DX (by omega)]
      have e2:pC [((⟨ms[i],v'⟩:ME),(⟨xs[i],S.filter (cX xs[i].lo xs[i].hi)⟩:Ml))]=rz ⟨ms[i],v'⟩:=by show rz ⟨ms[i],v'⟩ ++ []=_;rw [EU]
      unfold firstA;simp only;rw [DM (by omega),g2];simp only;rw [e1,e2,DL ⟨by omega,mk.2.1⟩]
     obtain ⟨w',g',e3,D3,k3,hb3⟩:=(D1.old o2).push (u := .slice (some ⟨g1.next,0,none⟩) 1 1) (Q := [((⟨ms[i],v'⟩:ME),(⟨xs[i],S.filter (cX xs[i].lo xs[i].hi)⟩:Ml))]) (by rw [o2.n0,o1.n0,K.n0];exact h0) (by omega) (by rw [DE,hQl];omega) (show 1<=1000000 by decide) rfl hf
      (fun p hp=>by rw [EK] at hp;subst hp;exact E1.old o2)
      (fun b hb p hp=>by
       rw [EK] at hp;subst hp;have hbl:=(D.sl.blk hb).2;refine ⟨?_,fun q => ?_⟩
       ·rcases hb0 b hb with h1|h1
        ·exact (sep b h1).2.2.2 _ (EL hi)
        ·exact MNb.of (is i hi hi') h1
       ·have:iR v'=some b:=slB_gsB q;have:=(G1.blk this).1;omega)
     have a7:aF prog .add 3 (aq i) (.int .i64 1)=some (aq (i+1)):=dR (by omega);have rd2:=(rd g1 (aE.get o1 gba)).1;have ck:=chkM (mz _ (EL hi)) (mg _ (EL hi)).d32 g1;simp -implicitDefEqProofs only [DC hi, y1, ix, rd1, aB, l7, l8, e1, bm, bs, e3, rd2, ck, a7, D9, aj, ak];refine dJ.next (k-1) (by omega) ⟨i+1,Q ++ [((⟨ms[i],v'⟩:ME),(⟨xs[i],S.filter (cX xs[i].lo xs[i].hi)⟩:Ml))],by omega,y1,y2,rfl,?_,?_,?_,?_⟩
     ·have K1:az h q (fun b=>iR w=some b):=K.also (o1.trans o2) fun _ _ f=>f.elim;exact K1.also k3 fun b hbl q=>(hb0 b q).resolve_right (by omega)
     ·rw [<-List.append_assoc];exact D3
     ·rw [FH,hQ,FF hi'];unfold iY;rw [FH];rfl
     ·intro b hb;rcases hb3 b hb with h1|h1
      ·exact hb0 b h1
      ·exact .inr (by omega)
   ·have hiE:i=ms.length:=by omega
    simp -implicitDefEqProofs only [DF hi];refine dJ.out 0 ⟨rfl,Q,K,D,?_,hb0⟩;rw [hQ,hiE,len,GN]
  ·rintro ex z g ⟨rfl,Q,K,D,hQ,hb⟩;simp -implicitDefEqProofs only [bk,bz16_3f,CU];unfold vu;simp -implicitDefEqProofs only [aj];exact ⟨_,g,Q,rfl,K,D,hQ,hb⟩
 obtain ⟨o9,e,w',h',Q,e',q⟩:=key;exact ⟨w',h',Q,aL isz16 hG rfl ((tz16_eq _ _ _ _ _).trans (e.trans e')),q⟩
theorem uA {rs:List ResultVar} {n k t z j:Nat} (hr:rs = [.cell k t,.tmp j]) (h1:su prog t=some true) (h2:cS prog t=some z) (hk:k<n) (hj:j<n) (x:Nat->Value) {h:ai} {v:Value} (e:du z (x k) h=some (v,h)):resultsA prog rs (aK n x) h=some (.tuple #[v,x j],h):=by subst hr;simp only [resultsA,HT,List.mapM_nil,gh,zn hk,zn hj,ld_agg h1 h2,e];rfl
def gE (L:List av):List Nat:=if jj L then z32 else cM L
def qj (L:List av):Int:=if jj L then 2 else 0
theorem isz77:cx prog 77 f77:=by constructor<;>kernel_rfl
theorem isz43:cx prog 43 f43:=by constructor<;>kernel_rfl
theorem xO:f43.results.toList = [.cell 2 36,.tmp 3]:=by kernel_rfl
theorem resultsz77:f77.results.toList = [.tmp 2]:=by kernel_rfl
set_option maxRecDepth 100000 in
theorem rz77 {h:ai} (hG:4<=h.n0) (hz:GZ h) {v:Value} {L:List av} (hv:kz h v L) (hl:L.length<=1000000) : ∃ h',CW 77 [v] h=some (.bool (!(jj L)),h')/\aE h h':=by
 have hll:=hv.len;have key : ∃ o:bc,tz77 CW v h=o /\ ∃ h',o=some (.bool (!(jj L)),h')/\aE h h':=by
  refine ⟨_,rfl,?_⟩;unfold tz77;simp -implicitDefEqProofs only [aj];refine bH (n:=16) (fin:=fun ex y g=>aE h g/\((ex = .exit 0/\jj L=false)\/(ex = .ret/\jj L=true/\y 2 = .bool false))) (Q:=fun o:bc => ∃ h',o=some (.bool (!(jj L)),h')/\aE h h')
   (bC (xd CW) (Inv:=fun k y g => ∃ i,i+k=L.length/\y 0=v/\y 3=aq i/\aE h g/\jj L=jj (L.drop i)) ?_ L.length (by have:aD=18446744073709551616:=rfl;omega) ⟨0,by omega,rfl,rfl,az.refl _ _,by rw [EP]⟩) ?_
  ·rintro k y g ⟨i,hik,y0,y3,O,ha⟩;unfold oI;simp -implicitDefEqProofs only [y0,y3,hll,ie,aj,ak];by_cases hi:i<L.length
   ·obtain ⟨b,o,ix,wr,mr,lp⟩:=hv.at hi;have hd:L.drop i=L.getD i av.z::L.drop (i+1):=by rw [E8 hi,DJ,DB hi];rfl
    rw [hd] at ha;generalize L.getD i av.z=r at *;have ha:jj L=(!(dX r)||jj (L.drop (i+1))):=ha.trans (by unfold jj;rw [List.any_cons]);have L1:=lp g O;obtain ⟨g',e',o'⟩:=r48 (h:=g) (by rw [O.n0];exact hG) (hz.old O) wr;cases hpr:dX r with
    |false=>
     rw [hpr] at e' ha;simp -implicitDefEqProofs only [DC hi, ix, L1, e', aV, DO, aj, ak];exact dJ.ret ⟨O.trans o',.inr ⟨rfl,by rw [ha];rfl,rfl⟩⟩
    |true=>
     rw [hpr] at e' ha;have a8:aF prog .add 3 (aq i) (.int .i64 1)=some (aq (i+1)):=dR (by omega);simp -implicitDefEqProofs only [DC hi, ix, L1, e', a8, aV, DP, aj, ak];exact dJ.next (k-1) (by omega) ⟨i+1,by omega,y0,rfl,O.trans o',ha⟩
   ·have hiE:i=L.length:=by omega
    rw [hiE,JB] at ha;simp -implicitDefEqProofs only [DF hi];exact dJ.out 0 ⟨O,.inl ⟨rfl,ha⟩⟩
  ·rintro ex z g ⟨O,⟨rfl,ha⟩|⟨rfl,ha,z2⟩⟩
   ·simp -implicitDefEqProofs only [bk,bz77_3,EA,Cc];unfold uN;exact ⟨g,by rw [ha];rfl,O⟩
   ·rw [jd,dC,iD resultsz77 (by decide),z2,ha];exact ⟨g,rfl,O⟩
 obtain ⟨o9,e,h',e',q⟩:=key;exact ⟨h',aL isz77 hG rfl ((tz77_eq _ _ _).trans (e.trans e')),q⟩
set_option maxRecDepth 100000 in
theorem rz43 {h:ai} (hG:4<=h.n0) (hr:GR h) (hz:GZ h) {v:Value} {L:List av} (hv:kz h v L) (hg:gR v) (hl:L.length<=1000000) :
  ∃ h',CW 43 [v] h=some (.tuple #[.agg (bn (gE L)).toArray,.int .i64 (qj L)],h')/\aE h h':=by
 obtain ⟨h1,z1,o1,g1,n1⟩:=fresh (List.replicate 32 (.int .u8 0)) h;obtain ⟨h2,e2,o2⟩:=rz77 (h:=h1) (by rw [o1.n0];exact hG) (hz.old o1) (hv.mono o1) hl;have O2:=o1.trans o2;cases hb:jj L with
 |true=>
  rw [hb] at e2;have ev:gE L=z32:=by unfold gE;rw [hb];rfl
  have ee:qj L=2:=by unfold qj;rw [hb];rfl
  rw [ev,ee];have dz:=aZ vG;have L0:=bj (show h2.get 0=some (bn z32) from hz.old O2) dz.1 dz.2.1;obtain ⟨h3,e3,k3,g3,_,n3⟩:=aY (n:=32) (k':=bn z32) (aE.get o2 g1) (by rw [O2.n0];exact h.n0_le_next) rfl dz.1 dz.2.2;have L3:=bj g3 dz.1 dz.2.1;refine ⟨h3,aL isz43 hG rfl ((tz43_eq _ _ _).trans ?_),aE.bK O2 k3 (DD _)⟩;unfold tz43;simp -implicitDefEqProofs only [z1,e2,aV,DP,DO,L0,e3,aj,ak];exact uA xO kD fI (by decide) (by decide) _ L3
 |false=>
  rw [hb] at e2;have ev:gE L=cM L:=by unfold gE;rw [hb];rfl
  have ee:qj L=0:=by unfold qj;rw [hb];rfl
  rw [ev,ee];obtain ⟨h3,e3,o3⟩:=r55 L.length (h:=h2) (by rw [O2.n0];exact hG) (hr.old O2) (hz.old O2) rfl (by omega) (hv.mono O2) hg (oM hb);have O3:=O2.trans o3;have dz:=aZ (fR L);obtain ⟨h4,e4,k4,g4,_,n4⟩:=aY (n:=32) (k':=bn (cM L)) (aE.get (o2.trans o3) g1) (by rw [O3.n0];exact h.n0_le_next) rfl dz.1 dz.2.2;have L4:=bj g4 dz.1 dz.2.1;refine ⟨h4,aL isz43 hG rfl ((tz43_eq _ _ _).trans ?_),aE.bK O3 k4 (DD _)⟩;unfold tz43;simp -implicitDefEqProofs only [z1,e2,aV,DP,DO,e3,e4,aj,ak];exact uA xO kD fI (by decide) (by decide) _ L4
theorem isz17:cx prog 17 f17:=by constructor<;>kernel_rfl
theorem tk (L:List av):js (gE L):=by
 unfold gE;split
 ·exact vG
 ·exact fR L
def lF (A B:List av):Bool:=decide (A.length=B.length)&&(!(decide (A=B))&&decide (gE A=gE B))
set_option maxRecDepth 100000 in
theorem rz17 {h:ai} (hG:4<=h.n0) (hr:GR h) (hz:GZ h) {v w:Value} {A B:List av} (hv:kz h v A) (gv:gR v) (hw:kz h w B) (gw:gR w) (la:A.length<=1000000) (lb:B.length<=1000000) :
  ∃ h',CW 17 [v,w] h=some (.bool (lF A B),h')/\aE h h':=by
 have ha:=hv.len;have hb:=hw.len;have e12:=r19 hG hv hw la;by_cases hl:A.length=B.length
 ·by_cases he:A=B
  ·have ec:lF A B=false:=by unfold lF;rw [DC he,DP,EG,ES]
   rw [ec];refine ⟨h,aL isz17 hG rfl ((Co _ _ _ _).trans ?_),az.refl _ _⟩;unfold tz17;simp -implicitDefEqProofs only [ha,hb,nq3,DC hl,DP,bf,aC,e12,DC he,aj,ak,DG,EF]
  ·have ec:lF A B=decide (gE A=gE B):=by unfold lF;rw [DC hl,DF he,EM,DO,EM]
   rw [ec];obtain ⟨h1,e1,o1⟩:=rz43 hG hr hz hv gv la;obtain ⟨h2,z2,o2,g2,n2⟩:=fresh (List.replicate 32 (.int .u8 0)) h1;have da:=aZ (tk A);have db:=aZ (tk B);have O2:=o1.trans o2;obtain ⟨h3,e3,k3,g3,_,n3⟩:=aY (n:=32) (k':=bn (gE A)) g2 (by rw [O2.n0];exact D7 h.n0_le_next o1.next) rfl da.1 da.2.2;have O3:aE h h3:=aE.bK O2 k3 o1.next;obtain ⟨h4,e4,o4⟩:=rz43 (h:=h3) (by rw [O3.n0];exact hG) (hr.old O3) (hz.old O3) (hw.mono O3) gw lb;obtain ⟨h5,z5,o5,g5,n5⟩:=fresh (List.replicate 32 (.int .u8 0)) h4;have O5:=(O3.trans o4).trans o5;have n34:=o4.next;obtain ⟨h6,e6,k6,g6,_,n6⟩:=aY (n:=32) (k':=bn (gE B)) g5 (by rw [O5.n0];exact D7 h.n0_le_next (O3.trans o4).next) rfl db.1 db.2.2;have O6:aE h h6:=aE.bK O5 k6 (O3.trans o4).next;have g3':h6.get h1.next=some (bn (gE A)):=k6.getE (aE.get (o4.trans o5) g3) (by omega);have L1:=bj g3' da.1 da.2.1;have L2:=bj g6 db.1 db.2.1;have x0:extractA (.tuple #[.agg (bn (gE A)).toArray,.int .i64 (qj A)]) 0=some (.agg (bn (gE A)).toArray):=rfl;have x1:extractA (.tuple #[.agg (bn (gE A)).toArray,.int .i64 (qj A)]) 1=some (.int .i64 (qj A)):=rfl;have x2:extractA (.tuple #[.agg (bn (gE B)).toArray,.int .i64 (qj B)]) 0=some (.agg (bn (gE B)).toArray):=rfl;have x3:extractA (.tuple #[.agg (bn (gE B)).toArray,.int .i64 (qj B)]) 1=some (.int .i64 (qj B)):=rfl;refine ⟨h6,aL isz17 hG rfl ((Co _ _ _ _).trans ?_),O6⟩;unfold tz17;simp -implicitDefEqProofs only [ha,hb,nq3,DC hl,DP,bf,aC,e12,DF he,aj,ak,DG,EF,e1,x0,x1,z2,e3,e4,x2,x3,z5,e6,L1,L2,eqDD2 (tk A) (tk B)]
 ·have ec:lF A B=false:=by unfold lF;rw [DF hl,EG]
  rw [ec];refine ⟨h,aL isz17 hG rfl ((Co _ _ _ _).trans ?_),az.refl _ _⟩;unfold tz17;simp -implicitDefEqProofs only [ha,hb,nq3,DF hl,DO,bt',aG,aj,ak,EA]
structure zS (y y':Nat->Value):Prop where
 f0:y' 0=y 0
 f1:y' 1=y 1
 f2:y' 2=y 2
 f7:y' 7=y 7
 f9:y' 9=y 9
 f11:y' 11=y 11
 f15:y' 15=y 15
theorem zS.trans {a b c:Nat->Value} (x:zS a b) (y:zS b c):zS a c:=⟨y.f0.trans x.f0,y.f1.trans x.f1,y.f2.trans x.f2,y.f7.trans x.f7,y.f9.trans x.f9,y.f11.trans x.f11,y.f15.trans x.f15⟩
theorem gtr3i (a b:Int):aF prog .gtr 3 (.int .i64 a) (.int .i64 b)=some (.bool (decide (b<a))):=by rw [dy];simp [jw]
theorem lss3i (a b:Int):aF prog .lss 3 (.int .i64 a) (.int .i64 b)=some (.bool (decide (a<b))):=by rw [dy];simp [jw]
theorem eql3i (a b:Int):aF prog .eql 3 (.int .i64 a) (.int .i64 b)=some (.bool (decide (a=b))):=by
 rw [bF]
 congr 2
theorem neq3i (a b:Int):aF prog .neq 3 (.int .i64 a) (.int .i64 b)=some (.bool (!(decide (a=b)))):=by
 rw [bz]
 congr 2
theorem add3i {a b:Int} (h1 : -9223372036854775808<=a+b) (h2:a+b<=9223372036854775807):aF prog .add 3 (.int .i64 a) (.int .i64 b)=some (.int .i64 (a+b)):=by rw [dy];simp only [jw];rw [DM (by simp),wrap_i64 h1 h2]
theorem mul3i {a b:Int} (h1 : -9223372036854775808<=a*b) (h2:a*b<=9223372036854775807):aF prog .mul 3 (.int .i64 a) (.int .i64 b)=some (.int .i64 (a*b)):=by rw [dy];simp only [jw];rw [DM (by simp),wrap_i64 h1 h2]
theorem rem3i {a b:Int} (hb:b≠0):aF prog .rem 3 (.int .i64 a) (.int .i64 b)=some (.int .i64 (a.tmod b)):=ry prog 3 .i64 a b hb
theorem p_b0 {y:Nat->Value} {g:ai} {n:Nat} (y14:lenL (y 14)=some (aq n)) : ∃ y',cP CV y g=some (if n=0 then .exit 0 else .normal,aK 218 y',g)/\zS y y'/\y' 14=y 14:=by
 unfold cP;have e:aF prog .gtr 3 (aq n) (.int .i64 0)=some (.bool (decide (0<n))):=zk n 0 0 rfl;by_cases h:n=0
 ·subst h;simp -implicitDefEqProofs only [y14,e,GH,decide_false,aj,ak,EA];exact ⟨_,rfl,⟨rfl,rfl,rfl,rfl,rfl,rfl,rfl⟩,rfl⟩
 ·rw [DC (by omega)] at e;simp -implicitDefEqProofs only [y14,e,aj,ak,DM h];exact ⟨_,rfl,⟨rfl,rfl,rfl,rfl,rfl,rfl,rfl⟩,rfl⟩
theorem p_x0 {y:Nat->Value} {g:ai} {a b s:Nat} (y0:lenL (y 0)=some (aq a)) (y1:lenL (y 1)=some (aq b)) (y15:y 15=aq s) (ha:a<=1000000) (hb:b<=1000000) (hs:s<=32+8*(a+b)) : ∃ y',cL CV y g=some (.normal,aK 218 y',g)/\zS y y'/\y' 14=y 14:=by
 unfold cL;have e1:aF prog .add 3 (aq a) (aq b)=some (.int .i64 ((a:Int)+b)):=add3i (by omega) (by omega);have e2:aF prog .mul 3 (.int .i64 8) (.int .i64 ((a:Int)+b))=some (.int .i64 (8*((a:Int)+b))):=mul3i (by omega) (by omega);have e3:aF prog .add 3 (.int .i64 32) (.int .i64 (8*((a:Int)+b)))=some (.int .i64 (32+8*((a:Int)+b))):=add3i (by omega) (by omega);have e4:aF prog .gtr 3 (aq s) (.int .i64 (32+8*((a:Int)+b)))=some (.bool false):=by have:=gtr3i (s:Int) (32+8*((a:Int)+b));rw [DF (by omega)] at this;exact this
 simp -implicitDefEqProofs only [y0,y1,y15,e1,e2,e3,e4,aj,ak];exact ⟨_,rfl,⟨rfl,rfl,rfl,rfl,rfl,rfl,rfl⟩,rfl⟩
theorem p_i0 (y:Nat->Value) (g:ai) : ∃ y',cK CV y g=some (.normal,aK 218 y',g)/\zS y y'/\y' 14=y 14/\y' 16 = .int .i64 0:=by unfold cK;simp -implicitDefEqProofs only [aj];exact ⟨_,rfl,⟨rfl,rfl,rfl,rfl,rfl,rfl,rfl⟩,rfl,rfl⟩
theorem p_pick {y:Nat->Value} {h g:ai} {n s:Nat} {O:List Int} (hn:0<n) (hn2:n<=1000000) (y14:lenL (y 14)=some (aq n)) (W:InS h (y 2) O) (og:aE h g) (hO:O.length<=1000000) (y15:y 15=aq s) (_:s<=100000000) (y16:y 16 = .int .i64 0) :
  ∃ y' i,bS CV y g=some (.normal,aK 218 y',g)/\zS y y'/\y' 14=y 14/\y' 16=aq i/\i<n:=by
 have e:aF prog .gtr 3 (aq O.length) (.int .i64 0)=some (.bool (decide (0<O.length))):=zk O.length 0 0 rfl;have wl:lenL (y 2)=some (aq O.length):=by obtain ⟨⟨a,c,e⟩,_⟩:=W;rw [e];rfl
 by_cases h0:O.length=0
 ·unfold bS;rw [h0] at wl e;simp -implicitDefEqProofs only [wl,e,GH,decide_false,aj,ak];exact ⟨_,0,rfl,⟨rfl,rfl,rfl,rfl,rfl,rfl,rfl⟩,rfl,y16,hn⟩
 ·rw [DC (by omega)] at e;have hr:aF prog .rem 3 (aq s) (aq O.length)=some (aq (s%O.length)):=by have:=rem3i (a:=(s:Int)) (b:=(O.length:Int)) (by omega);rw [show ((s:Int)).tmod O.length=((s%O.length:Nat):Int) from rfl] at this;exact this
  have hj:s%O.length<O.length:=HN _ (by omega);obtain ⟨hi,b,o,ix,hb,ld⟩:=W.2 _ hj;have L:=ld g (az.get og b hb id);generalize O[s%O.length]=v at *;have hr2:aF prog .rem 3 (.int .i64 v) (aq n)=some (.int .i64 (v.tmod n)):=rem3i (by omega);have hlt:=lss3i (v.tmod n) 0;by_cases hneg:v.tmod n<0
  ·rw [DC hneg] at hlt;have h1 : -(n:Int)<v.tmod n:=by have:=Int.lt_tmod_of_pos v (show (0:Int)<n by omega);omega
   have ha:aF prog .add 3 (.int .i64 (v.tmod n)) (aq n)=some (.int .i64 (v.tmod n+n)):=add3i (by omega) (by omega);unfold bS;simp -implicitDefEqProofs only [wl,e,y15,hr,ix,L,y14,hr2,hlt,ha,aj,ak];refine ⟨_,(v.tmod n+n).toNat,rfl,⟨rfl,rfl,rfl,rfl,rfl,rfl,rfl⟩,rfl,?_,by omega⟩;show Value.int .i64 (v.tmod n+n)=aq _;unfold aq;rw [Int.toNat_of_nonneg (by omega)]
  ·rw [DF hneg] at hlt;have h1:v.tmod n<n:=Int.tmod_lt_of_pos _ (by omega);unfold bS;simp -implicitDefEqProofs only [wl,e,y15,hr,ix,L,y14,hr2,hlt,aj,ak];refine ⟨_,(v.tmod n).toNat,rfl,⟨rfl,rfl,rfl,rfl,rfl,rfl,rfl⟩,rfl,?_,by omega⟩;show Value.int .i64 (v.tmod n)=aq _;unfold aq;rw [Int.toNat_of_nonneg (by omega)]
structure MeB (g:ai) (mb:Nat) (e:ME):Prop where
 fB:g.get mb=some (rz e)
 mg:MG e.m
 sl : ∃ a n c,e.v = .slice a n c
theorem MeB.old {g g':ai} {mb:Nat} {e:ME} (x:MeB g mb e) (o:aE g g'):MeB g' mb e:=⟨aE.get o x.fB,x.mg,x.sl⟩
theorem MeB.keep {g g':ai} {mb:Nat} {e:ME} {B:Nat->Prop} (x:MeB g mb e) (k:az g g' B) (h : ¬B mb):MeB g' mb e:=⟨k.getE x.fB h,x.mg,x.sl⟩
theorem MeB.l {g:ai} {mb:Nat} {e:ME} (x:MeB g mb e) {j:Nat} {v:Value} (h:(mC e.m)[j]? = some v) (hh:eK v=false):ld1 (ptr mb j) g=some (v,g):=by refine aW x.fB ?_ hh;unfold rz;rw [E9 (EV.1 h).1];exact h
theorem MeB.lv {g:ai} {mb:Nat} {e:ME} (x:MeB g mb e):ld1 (ptr mb 116) g=some (e.v,g):=by obtain ⟨a,n,c,hv⟩:=x.sl;refine aW x.fB ?_ (by rw [hv];rfl);unfold rz;rw [EH (by rw [(gf x.mg).1];exact DD _),(gf x.mg).1];rfl
theorem MeB.lm {g:ai} {mb:Nat} {e:ME} (x:MeB g mb e):du 116 (ptr mb 0) g=some (mV e.m,g):=by
 have ok:=gf x.mg;have ec:((rz e).drop 0).take 116=mC e.m:=by unfold rz;rw [EP,HC ok.1]
 have:=qF (o:=0) (n:=116) x.fB (by unfold rz;rw [DE,ok.1];simp) (by rw [ec];exact ok.2.1);rw [ec] at this;exact this
theorem p_m {y:Nat->Value} {g:ai} {N:Nat} {w:Value} {P:List (ME×Ml)} (A:jS g N w P) (hG:g.n0<=g.next) (y14:y 14=w) {i:Nat} (hi:i<P.length) (y16:y 16=aq i) :
  ∃ y' g',cF CV y g=some (.normal,aK 218 y',g')/\zS y y'/\y' 14=w/\y' 16=aq i/\y' 17=ptr g.next 0/\aE g g'/\MeB g' g.next P[i].1/\g'.next=g.next+1:=by
 rcases A.sl.form with ⟨h0,_⟩|⟨b,s,rfl,gb,_⟩
 ·omega
 ·have E:=A.is _ (EL hi);have ok:=C9 E;have ix:idxS 117 (.slice (some ⟨b,0,s⟩) P.length P.length) (aq i)=some (ptr b (i*117)):=by unfold idxS aq;simp only;rw [DL (by omega),Int.toNat_natCast,DH]
  have ec:((pC P).drop (i*117)).take 117=rz P[i].1:=by rw [(zR A.is (by omega)).2,E8 hi];show (rz P[i].1++pC (P.drop (i+1))).take 117=_;rw [HC ok.1]
  have L:=qF (o:=i*117) (n:=117) gb (by rw [A.sl.len];have:(i+1)*117<=P.length*117:=GC _ hi;omega) (by rw [ec];exact ok.2.1);rw [ec] at L;obtain ⟨g1,z1,o1,c1,n1⟩:=fresh zLL g;obtain ⟨g2,e2,k2,c2,_,n2⟩:=aY (n:=117) (k':=rz P[i].1) c1 (by rw [o1.n0];exact hG) rfl ok.1 ok.2.2;have z1':eH zLL g=some (ptr g.next 0,g1):=z1;unfold cF;simp -implicitDefEqProofs only [y14,y16,ix,L,z1',e2,aj,ak];obtain ⟨_,a,d,hv,_⟩:=E.rs;exact ⟨_,g2,rfl,⟨rfl,rfl,rfl,rfl,rfl,rfl,rfl⟩,y14,y16,rfl,aE.bK o1 k2 (DD _),⟨c2,E.m.mg,⟨_,_,_,hv⟩⟩,by omega⟩
theorem b0_mes (g:ai):dg 117 (.agg zLL.toArray) 0 [] g=some (.slice (some ⟨g.next,0,none⟩) 0 0,g.alloc []):=rfl
theorem p_net {y:Nat->Value} {g:ai} {N:Nat} {w:Value} {P:List (ME×Ml)} (A:jS g N w P) (h0:g.n0<=N) (hN:N<=g.next) (hP:P.length<=1000000) (y14:y 14=w) {i:Nat} (hi:i<P.length) (y16:y 16=aq i) :
  ∃ y' g' w',cB CV y g=some (.normal,aK 218 y',g')/\zS y y'/\y' 14=w'/\y' 17=y 17/\aE g g'/\jS g' N w' (P.take i++P.drop (i+1)) /\ ∀ b,iR w'=some b->g.next<=b:=by
 obtain ⟨v1,s1,l1,f1⟩:=A.sl.takeS (by decide) (j:=i) (by omega);obtain ⟨v2,s2,l2,f2⟩:=A.sl.dropS (by decide) (j:=i+1) (by omega);have lt:(P.take i).length=i:=by rw [DV];omega
 have ld:(P.drop (i+1)).length=P.length-(i+1):=EB ..;have o1:aE g (g.alloc []):=az.alloc _ _ _;have g1:(g.alloc []).get g.next=some []:=by rw [ai.aN,DL rfl]
 have n1:(g.alloc []).next=g.next+1:=rfl;have b0:=b0_mes g;generalize g.alloc []=q1 at *;have D0:jS q1 N (.slice (some ⟨g.next,0,none⟩) 0 0) []:=⟨⟨rfl,rfl,rfl,.inr ⟨g.next,none,rfl,g1,hN,.inl ⟨rfl,rfl⟩⟩⟩,fun _ h=>(by cases h),fun _ _ _ h=>(by cases h)⟩
 have E1 : ∀ p∈P,wW q1 p.1 p.2:=fun p hp=>(A.is p hp).old o1;obtain ⟨w1,q2,e2,D1,k2,hb2⟩:=D0.push (u:=v1) (Q:=P.take i) (by rw [o1.n0];exact h0) (by omega) (FN _) (by omega) (by rw [lt];exact l1)
  (by rw [lt,f1 q1 (fun b hb=>az.get o1 b (A.sl.blk hb).2 id),(zR A.is (by omega)).1]) (fun p hp=>E1 p (EZ hp))
  (fun b hb p hp=>by cases hb;exact ENb.of (A.is p (EZ hp)) (DD _))
 rw [List.nil_append] at D1;have k2n:=k2.next;have O2:aE g q2:=aE.bK o1 (k2.mono fun b _ q=>by cases q;rfl) (DD _);have E2 : ∀ p∈P,wW q2 p.1 p.2:=fun p hp=>(A.is p hp).old O2;obtain ⟨w2,q3,e3,D2,k3,hb3⟩:=D1.push (u:=v2) (Q:=P.drop (i+1)) (by rw [O2.n0];exact h0) (by have:=O2.next;omega) (by omega) (by omega) (by rw [ld];exact l2)
  (by rw [ld,f2 q2 (fun b hb=>az.get O2 b (A.sl.blk hb).2 id),(zR A.is (by omega)).2]) (fun p hp=>E2 p (FJ hp))
  (fun b hb p hp=>ENb.of (A.is p (FJ hp)) (by
   rcases hb2 b hb with h|h
   ·cases h;exact DD _
   ·omega))
 have hge : ∀ b,iR w1=some b->g.next<=b:=fun b hb=>by
  rcases hb2 b hb with h|h
  ·cases h;exact DD _
  ·omega
 have a1:aF prog .add 3 (aq i) (.int .i64 1)=some (aq (i+1)):=dR (by omega);unfold cB;simp -implicitDefEqProofs only [y14,y16,s1,s2,b0,e2,a1,e3,aj,ak];refine ⟨_,q3,w2,rfl,⟨rfl,rfl,rfl,rfl,rfl,rfl,rfl⟩,rfl,rfl,?_,D2,fun b hb => ?_⟩
 ·exact O2.also k3 fun b hbl q=>by have:=hge b q;omega
 ·rcases hb3 b hb with h|h
  ·exact hge b h
  ·have:=O2.next;omega
theorem p_at0 (y:Nat->Value) (g:ai) : ∃ y',cm CV y g=some (.normal,aK 218 y',g)/\zS y y'/\y' 14=y 14/\y' 17=y 17/\y' 18=y 9:=by unfold cm;simp -implicitDefEqProofs only [aj];exact ⟨_,rfl,⟨rfl,rfl,rfl,rfl,rfl,rfl,rfl⟩,rfl,rfl,rfl⟩
theorem p_at1 {y:Nat->Value} {g:ai} {mb:Nat} {e:ME} (M:MeB g mb e) (y17:y 17=ptr mb 0) : ∃ y',bY CV y g=some (.normal,aK 218 y',g)/\zS y y'/\y' 14=y 14/\y' 17=y 17/\y' 18=(if e.m.to=0 then y 7 else y 18):=by
 have l2:=M.l (j:=2) (ki e.m (i:=2) rfl) rfl;have q:=eql3i e.m.to 0;unfold bY;by_cases h:e.m.to=0
 ·rw [DC h] at q;simp -implicitDefEqProofs only [y17,aB,DH,l2,q,aj,ak,DL h];exact ⟨_,rfl,⟨rfl,rfl,rfl,rfl,rfl,rfl,rfl⟩,rfl,y17.symm▸rfl,rfl⟩
 ·rw [DF h] at q;simp -implicitDefEqProofs only [y17,aB,DH,l2,q,aj,ak,DM h];exact ⟨_,rfl,⟨rfl,rfl,rfl,rfl,rfl,rfl,rfl⟩,rfl,y17.symm▸rfl,rfl⟩
theorem chk_sl {v:Value} (h : ∃ a n c,v = .slice a n c) (g:ai):cq true (some (v,g)) v=true:=by obtain ⟨a,n,c,rfl⟩:=h;exact oV g a n c
theorem p_cl {y:Nat->Value} {g:ai} (hG:4<=g.n0) (hr:GR g) (hg0:GZ g) (kn : ∀ q,aE g q->CV 5 [] q=some (.bool true,q)) {mb vb:Nat} {e:ME} {z:Ml} (M:MeB g mb e) (X:wW g e z) (y17:y 17=ptr mb 0) (y18:y 18=ptr vb 0) {S:List av} (I:kj g vb S) (hS:S.length<=40000) (hz:z.l.length<=1000000) :
  ∃ y' g',aE g g'/\((bQ CV y g=some (.ret,aK 218 y',g')/\y' 6 = .bool true)\/(bQ CV y g=some (.normal,aK 218 y',g')/\zS y y'/\y' 14=y 14/\y' 17=y 17/\y' 18=y 18/\(z.m.kind=4->lF z.l (S.filter (cX z.m.lo z.m.hi))=false))):=by
 have l0:=M.l (j:=0) (ki e.m (i:=0) rfl) rfl;rw [X.m.kind] at l0;have k4:=eq31k z.m.kind 4 4 rfl;unfold bQ;by_cases h4:z.m.kind=4
 ·rw [DC h4] at k4;have l7:=M.l (j:=7) (ki e.m (i:=7) rfl) rfl;have l8:=M.l (j:=8) (ki e.m (i:=8) rfl) rfl;have lv:=M.lv;obtain ⟨va,gv,rv,nv⟩:=I.ex;obtain ⟨v',g1,e1,o1,G1,w1⟩:=r20L (h:=g) (cl:=e.m.cl) (ch:=e.m.ch) hG gv rv nv I.ks (by omega) X.m.lo X.m.hi;have hfl:=FB (cX z.m.lo z.m.hi) S;obtain ⟨g2,e2,o2⟩:=rz17 (h:=g1) (by rw [o1.n0];exact hG) (hr.old o1) (hg0.old o1) (X.rs.mono o1).rsl X.gr (G1.rc w1).rsl G1.gR hz (by omega);have e1:=jx (f:=18) rfl (by decide) e1;have e2:=jx (f:=17) rfl (by decide) e2;have lv1:=(M.old o1).lv;have ck:=chk_sl M.sl g1;have O2:=o1.trans o2;cases hc:lF z.l (S.filter (cX z.m.lo z.m.hi)) with
  |true=>
   rw [hc] at e2;simp -implicitDefEqProofs only [y17,y18,aB,DH,Nat.add_zero,l0,k4,bt,aC,lv,l7,l8,e1,e2,EA,lv1,ck,D9,kn g2 O2,aj,ak];exact ⟨_,g2,O2,.inl ⟨rfl,rfl⟩⟩
  |false=>
   rw [hc] at e2;simp -implicitDefEqProofs only [y17,y18,aB,DH,Nat.add_zero,l0,k4,bt,aC,lv,l7,l8,e1,e2,EA,lv1,ck,D9,aj,ak];exact ⟨_,g2,O2,.inr ⟨rfl,⟨rfl,rfl,rfl,rfl,rfl,rfl,rfl⟩,rfl,y17.symm▸rfl,y18.symm▸rfl,fun _=>trivial⟩⟩
 ·rw [DF h4] at k4;simp -implicitDefEqProofs only [y17,y18,aB,DH,Nat.add_zero,l0,k4,bf',aG,DG,EF,chkJ,D9,aj,ak];exact ⟨_,g,az.refl _ _,.inr ⟨rfl,⟨rfl,rfl,rfl,rfl,rfl,rfl,rfl⟩,rfl,y17.symm▸rfl,y18.symm▸rfl,fun h=>absurd h h4⟩⟩
theorem p_rep {y:Nat->Value} {g:ai} (hG:4<=g.n0) (hz:g.get 3=some bT) {mb vb:Nat} {e:ME} {z:Ml} (M:MeB g mb e) (X:wW g e z) (y17:y 17=ptr mb 0) (y18:y 18=ptr vb 0) {S:List av} (I:kj g vb S) (hS:S.length<=40000) (hL:z.m.L.length<=40000) (hlo:z.m.lo.length<=20000) (hhi:z.m.hi.length<=20000) :
  ∃ y' g' ms,cC CV y g=some (.normal,aK 218 y',g')/\zS y y'/\y' 14=y 14/\y' 17=y 17/\y' 18=y 18/\y' 20 = .int .i64 (fX S z.m).2.2/\az g g' (· = vb)/\kj g' vb (fX S z.m).1/\xM g' g.next (y' 19) ms (fX S z.m).2.1 /\ ∀ va b,g'.get vb=some [va]->slB va=some b->g.next<=b\/g.get vb=some [va]:=by
 have hnl:e.m.nl<=20000:=by rw [<-(aH X.m.lo).1];exact hlo
 have hnh:e.m.nh<=20000:=by rw [<-(aH X.m.hi).1];exact hhi
 obtain ⟨w,ms,g',e1,k,I',A,lc⟩:=r50L hG hz I X.m hS hL hnl hnh;have lm:=M.lm;have x0:extractA (.tuple #[w,.int .i64 (fX S z.m).2.2]) 0=some w:=rfl;have x1:extractA (.tuple #[w,.int .i64 (fX S z.m).2.2]) 1=some (.int .i64 (fX S z.m).2.2):=rfl;unfold cC;simp -implicitDefEqProofs only [y17, y18, aB, Nat.add_zero, lm, e1, x0, x1, aj, ak];exact ⟨_,g',ms,rfl,⟨rfl,rfl,rfl,rfl,rfl,rfl,rfl⟩,rfl,y17.symm▸rfl,y18.symm▸rfl,rfl,k,I',A,lc⟩
theorem p_err {y:Nat->Value} {g:ai} (y20:y 20 = .int .i64 0) : ∃ y',cy CV y g=some (.normal,aK 218 y',g)/\zS y y'/\y' 14=y 14/\y' 17=y 17/\y' 18=y 18/\y' 19=y 19:=by
 have n0:aF prog .neq 26 (.int .i64 0) (.int .i64 0)=some (.bool false):=by rw [bz];rfl
 unfold cy;simp -implicitDefEqProofs only [y20,n0,aj,ak];exact ⟨_,rfl,⟨rfl,rfl,rfl,rfl,rfl,rfl,rfl⟩,rfl,rfl,rfl,rfl⟩
theorem p_tw {y:Nat->Value} {g:ai} (hG:4<=g.n0) (hz:g.get 3=some bT) {mb vb:Nat} {e:ME} {z:Ml} (M:MeB g mb e) (X:wW g e z) (y17:y 17=ptr mb 0) (y18:y 18=ptr vb 0) {S:List av} (I:kj g vb S) (hS:S.length<=40000) (hL:z.m.L.length<=40000) (hlo:z.m.lo.length<=20000) (hhi:z.m.hi.length<=20000)
  {N:Nat} (hN:N<=g.next) {ms:List cR} {xs:List AM} (A:xM g N (y 19) ms xs) (tw:z.m.kind=5->z.m.want=false->xs = []/\fX S z.m=(S,[],0)) :
  ∃ y' g' ms',cd CV y g=some (.normal,aK 218 y',g')/\zS y y'/\y' 14=y 14/\y' 17=y 17/\y' 18=y 18/\az g g' (· = vb)/\kj g' vb S/\xM g' N (y' 19) ms' xs /\ ∀ va b,g'.get vb=some [va]->slB va=some b->g.next<=b\/g.get vb=some [va]:=by
 have l0:=M.l (j:=0) (ki e.m (i:=0) rfl) rfl;rw [X.m.kind] at l0;have k5:=eq31k z.m.kind 5 5 rfl;have lw:ld1 (ptr mb 43) g=some (.bool e.m.want,g):=M.l (j:=43) (mC_tl X.m.mg.d32 (j:=1) rfl) rfl;rw [X.m.want] at lw;have loc0 : ∀ va b,g.get vb=some [va]->slB va=some b->g.next<=b\/g.get vb=some [va]:=fun va b h _ => .inr h;unfold cd;by_cases h5:z.m.kind=5
 ·rw [DC h5] at k5;cases hw:z.m.want with
  |true=>
   rw [hw] at lw;simp -implicitDefEqProofs only [y17,y18,aB,DH,Nat.add_zero,l0,k5,bt,aC,lw,aV,DP,EA,aj,ak];exact ⟨_,g,ms,rfl,⟨rfl,rfl,rfl,rfl,rfl,rfl,rfl⟩,rfl,y17.symm▸rfl,y18.symm▸rfl,az.refl _ _,I,A,loc0⟩
  |false=>
   rw [hw] at lw;obtain ⟨ex,er⟩:=tw h5 hw;subst ex;have hnl:e.m.nl<=20000:=by rw [<-(aH X.m.lo).1];exact hlo
   have hnh:e.m.nh<=20000:=by rw [<-(aH X.m.hi).1];exact hhi
   obtain ⟨w,ms',g',e1,k,I',A',lc⟩:=r50L hG hz I X.m hS hL hnl hnh;rw [er] at e1 I' A';have lm:=M.lm;have x0:extractA (.tuple #[w,.int .i64 0]) 0=some w:=rfl;have x1:extractA (.tuple #[w,.int .i64 0]) 1=some (.int .i64 0):=rfl;have n0:aF prog .neq 26 (.int .i64 0) (.int .i64 0)=some (.bool false):=by rw [bz];rfl
   have hl0:ms'.length=0:=A'.len;have lnw:lenL w=some (.int .i64 0):=by
    rcases A'.sl with ⟨rfl,_⟩|⟨b,s,rfl,_⟩
    ·rfl
    ·rw [hl0];rfl
   have n3:=neq3i 0 0;rw [DC rfl,DP] at n3;simp -implicitDefEqProofs only [y17,y18,aB,DH,Nat.add_zero,l0,k5,bt,aC,lw,aV,DO,EA,lm,e1,x0,x1,n0,bf,lnw,n3,DG,EF,aj,ak];refine ⟨_,g',ms',rfl,⟨rfl,rfl,rfl,rfl,rfl,rfl,rfl⟩,rfl,y17.symm▸rfl,y18.symm▸rfl,k,I',?_,lc⟩;refine ⟨?_,A'.len,A'.is,fun i hi hi'=>(A'.own i hi hi').weak hN⟩;rcases A'.sl with q|⟨b,s,q1,q2,q3,q4⟩
   ·exact .inl q
   ·exact .inr ⟨b,s,q1,q2,D7 hN q3,q4⟩
 ·rw [DF h5] at k5;simp -implicitDefEqProofs only [y17, y18, aB, Nat.add_zero, l0, k5, bf', aG, DG, EF, aj, ak];exact ⟨_,g,ms,rfl,⟨rfl,rfl,rfl,rfl,rfl,rfl,rfl⟩,rfl,y17.symm▸rfl,y18.symm▸rfl,az.refl _ _,I,A,loc0⟩
end Go.Proofs.YtdnahgfgoajmcaaGreatDoor
