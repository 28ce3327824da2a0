/-
  A part of the proof, spaces and names shortened by a program (a claim may hold 1,500,000 bytes).
  Conditions: as each theorem states.
-/
import Derived.Test.YtdnahgfgoajmcaaGreatDoorG20
namespace Go.Proofs.YtdnahgfgoajmcaaGreatDoor
open Go Go.Abs Tryz
open Go.Lib (compareBytes)
attribute [local congr] aq
theorem is20:bP prog 18 f18:=by constructor<;>kernel_rfl
theorem eD.part {h:ad} {v:Value} {R:List ao} (x:eD h v R) (n:dv v) {i j:Nat} (hij:i<=j) (hj:j<=R.length) : ∃ v',iw 39 v (some (ak i)) (some (ak j)) none=some v'/\eD h v' ((R.take j).drop i)/\dv v':=by
 obtain ⟨hd,a,d,rfl,hn,ht,h0⟩:=x;have hd' : ∀ p∈(R.take j).drop i,ao.Wf p:=fun p hp=>hd p (EZ (FV hp));rcases n with h1|⟨a',n',c',h1,hc,hs⟩
 ·cases a with
  |some a=>cases h1
  |none=>
   injection h1 with _ e1 e2
   have hR:R = []:=DU.1 e1;subst hR;subst e2;obtain rfl:j=0:=by rw [List.length_nil] at hj;omega
   obtain rfl:i=0:=by omega
   exact ⟨.slice none 0 0,rfl,⟨hd',none,0,rfl,fun _=>rfl,dJ hd',fun h=>absurd h (F9 0)⟩,.inl rfl⟩
 ·injection h1 with e1 e2 e3
  subst e1 e2 e3;obtain ⟨b,o,s⟩:=a';have hl:((R.take j).drop i).length=j-i:=by rw [D8,DW];omega
  have hb:boundsA R.length d (some (ak i)) (some (ak j)) none=some (i,j,d):=by
   have a1:boundA d d none=some d:=rfl;have a2:boundA R.length d (some (ak j))=some j:=by unfold boundA ak;simp only;rw [DL (by omega)];rfl
   have a3:boundA 0 j (some (ak i))=some i:=by unfold boundA ak;simp only;rw [DL (by omega)];rfl
   unfold boundsA;simp only [a1,a2,a3]
  have hc:R.length<=d:=hc;have hsl : ∃ o',iw 39 (.slice (some ⟨b,o,s⟩) R.length d) (some (ak i)) (some (ak j)) none=some (.slice (some ⟨b,o',s⟩) (j-i) (d-i))/\(i<d->o'=o+i*39):=by
   unfold iw sliceSl;cases s with
   |none=>
    simp only [hb];by_cases hdi:d=i
    ·exact ⟨o,by rw [DL hdi],fun h=>by omega⟩
    ·exact ⟨o+i*39,by rw [DM hdi],fun _=>rfl⟩
   |some t=>
    have:t=39:=hs t rfl;subst this;simp only [hb];exact ⟨o+i*39,by rw [DL ⟨True.intro,by decide⟩],fun _=>rfl⟩
  obtain ⟨oo,hsl,hoo⟩:=hsl;refine ⟨.slice (some ⟨b,oo,s⟩) (j-i) (d-i),hsl,⟨hd',some ⟨b,oo,s⟩,d-i,by rw [hl],(fun h=>by cases h),dJ hd',fun hp => ?_⟩,.inr ⟨_,_,_,rfl,(show j-i<=d-i by omega),hs⟩⟩
  ·rw [hl] at hp;obtain ⟨b',o',s',k,e,hk,hlen,hcs⟩:=h0 (by omega);cases e;obtain rfl:=hoo (by omega);rw [show gX.length=39 from rfl] at hlen hcs;have h2:(j-i)*39=j*39-i*39:=Nat.sub_mul ..;have h3:i*39<=j*39:=F0 _ hij;have h4:j*39<=R.length*39:=F0 _ hj;refine ⟨b,o+i*39,s,k,rfl,hk,by rw [hl,show gX.length=39 from rfl];omega,?_⟩;rw [hl,show gX.length=39 from rfl];have e1:bj ((R.take j).drop i)=((bj R).take (j*39)).drop (i*39):=by
    have lt:(R.take j).length=j:=by rw [DW];omega
    have wt : ∀ p∈R.take j,ao.Wf p:=fun p hp=>hd p (EZ hp);have q1:bj (R.take j)=(bj R).take (j*39):=by
     conv=>rhs;rw [<-List.take_append_drop j R,gx]
     rw [HC (by rw [cf wt,lt])]
    have wti : ∀ p∈(R.take j).take i,ao.Wf p:=fun p hp=>wt p (EZ hp);have lti:((R.take j).take i).length=i:=by rw [DW];omega
    have q2:bj ((R.take j).drop i)=(bj (R.take j)).drop (i*39):=by
     conv=>rhs;rw [<-List.take_append_drop i (R.take j),gx]
     rw [GF (by rw [cf wti,lti])]
    rw [q2,q1]
   rw [e1,<-hcs,HI,HB h4,HY,E8,h2]
def dA (lo hi:List Nat) (r:ao):Bool:=decide (0<=jF r lo)&&(decide (hi = [])||decide (jF r hi<0))
theorem nC {R:List ao} {p:ao->Bool} {i j:Nat} (hij:i<=j) (hj:j<=R.length) (h1 : ∀ k,(hk:k<R.length)->i<=k->k<j->p R[k]=true) (h2 : ∀ k,(hk:k<R.length)->(k<i\/j<=k)->p R[k]=false):(R.take j).drop i=R.filter p:=by
 have e:R=(R.take j).take i++((R.take j).drop i++R.drop j):=by rw [<-List.append_assoc,EL,EL]
 conv=>rhs;rw [e,GP,GP]
 have a1:((R.take j).take i).filter p = []:=by rw [List.filter_eq_nil_iff];intro x hx;obtain ⟨k,hk,rfl⟩:=E5.1 hx;rw [DW,DW] at hk;rw [IU,IU,h2 k (by omega) (.inl (by omega))];decide
 have a3:(R.drop j).filter p = []:=by rw [List.filter_eq_nil_iff];intro x hx;obtain ⟨k,hk,rfl⟩:=E5.1 hx;rw [D8] at hk;rw [IV,h2 (j+k) (by omega) (.inr (by omega))];decide
 have a2:((R.take j).drop i).filter p=(R.take j).drop i:=by rw [List.filter_eq_self];intro x hx;obtain ⟨k,hk,rfl⟩:=E5.1 hx;rw [D8,DW] at hk;rw [IV,IU,h1 (i+k) (by omega) (by omega) (by omega)]
 rw [a1,a2,a3,List.nil_append,EN]
theorem max3 (a b:Nat):minmax true (ak a) [ak b]=some (ak (max a b)):=by
 unfold ak minmax;simp only [DY];unfold minmax;by_cases h:a<b
 ·rw [DL (by simpa using h)]
  congr 2
  omega
 ·rw [DM (by simpa using h)]
  congr 2
  omega
theorem xn (n:Nat) (g:ad):bF true (some (ak n,g)) (ak n)=true:=ze .i64 _ _
set_option maxRecDepth 100000 in
theorem r20 {h:ad} (hG:4<=h.n0) {vb:Nat} {va:Value} {R:List ao} (gv:h.get vb=some [va]) (RS:eD h va R) (nv:dv va) (ks:KS R) (hR:R.length<=1000000) {al ah:Option Addr} {nl cl nh ch:Nat} {lo hi:List Nat} (hlo:av al nl h=some lo) (hhi:av ah nh h=some hi) :
  ∃ v' h',CW 18 [ptr vb 0,.slice al nl cl,.slice ah nh ch] h=some (v',h')/\aA h h'/\jK h' v' (R.filter (dA lo hi)):=by
 obtain ⟨k1,h1,e1,o1,a1,a2,a3⟩:=r56 (c:=cl) hG gv RS.rsl ks hR hlo;have lv : ∀ g,aA h g->ld1 (ptr vb 0) g=some (va,g):=fun g og=>aU (aA.get og gv) rfl (zE nv);have hll:=RS.rsl.len;have cv : ∀ g,bF true (some (va,g)) va=true:=fun g=>by rcases nv with rfl|⟨a,n,c,rfl,_⟩<;>exact iu ..
 have hlen:=(aK hhi).1;have gtr0:aC prog .gtr 3 (ak nh) (.int .i64 0)=some (.bool (decide (0<nh))):=jo nh 0 0 rfl;have hnh : ∀ n c:Nat,∀ a:Option Addr,lenL (.slice a n c)=some (ak n):=fun _ _ _=>rfl;by_cases h0:0<nh
 ·obtain ⟨k2,h2,e2,o2,b1,b2,b3⟩:=r56 (h:=h1) (c:=ch) (by rw [o1.n0];exact hG) (aA.get o1 gv) (RS.mono o1).rsl ks hR (aA.bytes o1 hhi);have O2:=o1.trans o2;obtain ⟨v3,s3,r3,n3⟩:=(RS.mono O2).part nv (i:=k1) (j:=max k1 k2) (by omega) (by omega);obtain ⟨v4,h4,e4,o4,r4⟩:=r57 (h:=h2) (by rw [O2.n0];exact hG) r3 n3 (by rw [D8,DW];omega);refine ⟨v4,h4,aD is20 hG rfl ((CG _ _ _ _ _).trans ?_),O2.trans o4,?_⟩
  ·unfold t20;simp -implicitDefEqProofs only [kF,e1,bR,ay,DG,lv h1 o1,lv h (az.refl _ _),hll,cv,af,xn,DV,hnh,gtr0,DA h0,e2,max3,lv h2 O2,s3,e4,ae]
  ·have:(R.take (max k1 k2)).drop k1=R.filter (dA lo hi):=by
    refine nC (by omega) (by omega) (fun k hk q1 q2 => ?_) (fun k hk q => ?_)
    ·have p1:=a3 k hk q1;have p2:=b2 k hk (by omega);unfold dA;rw [DA p1,DA p2,E1];rfl
    ·unfold dA;rcases q with q|q
     ·have:=a2 k hk q;rw [DB (by omega : ¬0<=jF R[k] lo),EB]
     ·have p:=b3 k hk (by omega);have hne:hi ≠ []:=fun e=>by rw [e] at hlen;rw [List.length_nil] at hlen;omega
      rw [DB hne,DB (by omega : ¬jF R[k] hi<0),ET,EO]
   rw [<-this];exact r4
 ·obtain ⟨v3,s3,r3,n3⟩:=(RS.mono o1).part nv (i:=k1) (j:=R.length) a1 (DF _);obtain ⟨v4,h4,e4,o4,r4⟩:=r57 (h:=h1) (by rw [o1.n0];exact hG) r3 n3 (by rw [D8,DW];omega);refine ⟨v4,h4,aD is20 hG rfl ((CG _ _ _ _ _).trans ?_),o1.trans o4,?_⟩
  ·unfold t20;simp -implicitDefEqProofs only [kF,e1,bR,ay,DG,lv h1 o1,lv h (az.refl _ _),hll,cv,af,xn,DV,hnh,gtr0,DB h0,s3,e4,ae]
  ·have:(R.take R.length).drop k1=R.filter (dA lo hi):=by
    have hnil:hi = []:=DU.1 (by omega);refine nC a1 (DF _) (fun k hk q1 q2 => ?_) (fun k hk q => ?_)
    ·have p1:=a3 k hk q1;unfold dA;rw [DA p1,DA hnil];rfl
    ·unfold dA;rcases q with q|q
     ·have:=a2 k hk q;rw [DB (by omega : ¬0<=jF R[k] lo),EB]
     ·omega
   rw [<-this];exact r4
def mZ:List Value:=aY z32++([.int .i64 0,.int .i64 0,.int .i64 0,.int .i64 0]++(aY z32 ++ [.slice none 0 0,.int .i64 0,.slice none 0 0,.int .i64 0]))
structure bM where
 kind:Nat
 frm:Int
 to:Int
 al:Option Addr
 nl:Nat
 cl:Nat
 ah:Option Addr
 nh:Nat
 ch:Nat
 cnt:Int
 root:List Nat
 ar:Option Addr
 nr:Nat
 cr:Nat
 want:Bool
 v3:Value := .int .u64 0
 v4:Value := .int .i64 0
 v5:Value := .int .i64 0
 v6:Value := .slice none 0 0
 tl:List Value:=mZ
abbrev mk0 (kind:Nat) (frm to:Int) (al:Option Addr) (nl cl:Nat) (ah:Option Addr) (nh ch:Nat) (cnt:Int) (root:List Nat) (ar:Option Addr) (nr cr:Nat) (want:Bool):bM where
 kind:=kind
 frm:=frm
 to:=to
 al:=al
 nl:=nl
 cl:=cl
 ah:=ah
 nh:=nh
 ch:=ch
 cnt:=cnt
 root:=root
 ar:=ar
 nr:=nr
 cr:=cr
 want:=want
abbrev bM.lo (m:bM):Value := .slice m.al m.nl m.cl
abbrev bM.hi (m:bM):Value := .slice m.ah m.nh m.ch
abbrev bM.nt (m:bM):Value := .slice m.ar m.nr m.cr
def mHd (m:bM):List Value := [.int .u8 (m.kind:Int),.int .i64 m.frm,.int .i64 m.to,m.v3,m.v4,m.v5,m.v6,m.lo,m.hi,.int .i64 m.cnt]
def mC (m:bM):List Value:=mHd m++(aY m.root++([m.nt,.bool m.want]++m.tl))
abbrev mV (m:bM):Value := .agg (mC m).toArray
def zM:List Value := [.int .u8 0,.int .i64 0,.int .i64 0,.int .u64 0,.int .i64 0,.int .i64 0,.slice none 0 0,.slice none 0 0,.slice none 0 0,.int .i64 0]++(aY z32++([.slice none 0 0,.bool false]++mZ))
structure MG (m:bM):Prop where
 d32:ic m.root
 h4:Abs.noHoles [m.v3,m.v4,m.v5,m.v6]=true
 o4:aJ [m.v3,m.v4,m.v5,m.v6]=true
 tl:m.tl.length=72
 ht:Abs.noHoles m.tl=true
 ot:aJ m.tl=true
def MZ (m:bM):Prop:=m.v3 = .int .u64 0/\m.v4 = .int .i64 0/\m.v5 = .int .i64 0/\m.v6 = .slice none 0 0/\m.tl=mZ
theorem MZ.mg {m:bM} (h:MZ m) (d:ic m.root):MG m:=by
 obtain ⟨h1,h2,h3,h4,h5⟩:=h;refine ⟨d,?_,?_,?_,?_,?_⟩
 ·rw [h1,h2,h3,h4];rfl
 ·rw [h1,h2,h3,h4];rfl
 ·rw [h5];rfl
 ·rw [h5];decide
 ·rw [h5];decide
theorem df {m:bM} (hr:MG m):(mC m).length=116/\Abs.noHoles (mC m)=true/\aJ (mC m)=true:=by
 have d:=bm hr.d32;have z1:=hr.tl;have z2:=hr.ht;have z3:=hr.ot;have a2:=hr.h4;have a3:=hr.o4;refine ⟨?_,?_,?_⟩
 ·unfold mC;rw [DH,DH,DH,d.1,z1];rfl
 ·unfold mC mHd Abs.noHoles at *;rw [E6,E6,E6,d.2.1,z2];simp only [List.all_cons,List.all_nil,DV,DJ] at a2 |-;exact ⟨⟨rfl,rfl,rfl,a2.1,a2.2.1,a2.2.2.1,a2.2.2.2,rfl,rfl,rfl⟩,trivial,rfl,rfl⟩
 ·unfold mC mHd aJ at *;rw [E6,E6,E6,d.2.2,z3];simp only [List.all_cons,List.all_nil,DV,DJ] at a3 |-;exact ⟨⟨rfl,rfl,rfl,a3.1,a3.2.1,a3.2.2.1,a3.2.2.2,rfl,rfl,rfl⟩,trivial,rfl,rfl⟩
theorem ri (m:bM) {i:Nat} {v:Value} (h:(mHd m)[i]? = some v):(mC m)[i]? = some v:=by
 unfold mC;have hi:i<(mHd m).length:=by
  rcases FO i (mHd m).length with h1|h1
  ·exact h1
  ·rw [EK h1] at h;cases h
 rw [E7 hi];exact h
theorem yB {m:bM} (hr:ic m.root) {j:Nat} {v:Value} (h:([m.nt,.bool m.want]++m.tl)[j]? = some v):(mC m)[42+j]? = some v:=by unfold mC;have d:=(bm hr).1;have l10:(mHd m).length=10:=rfl;rw [EG (by omega),EG (by omega),l10,d,show 42+j-10-32=j by omega];exact h
structure MLd (h:ad) (b:Nat) (m:bM):Prop where
 l0:ld1 (ptr b 0) h=some (.int .u8 (m.kind:Int),h)
 l1:ld1 (ptr b 1) h=some (.int .i64 m.frm,h)
 l2:ld1 (ptr b 2) h=some (.int .i64 m.to,h)
 l7:ld1 (ptr b 7) h=some (m.lo,h)
 l8:ld1 (ptr b 8) h=some (m.hi,h)
 l9:ld1 (ptr b 9) h=some (.int .i64 m.cnt,h)
 l10:cx 32 (ptr b 10) h=some (.agg (aY m.root).toArray,h)
 l42:ld1 (ptr b 42) h=some (m.nt,h)
 l43:ld1 (ptr b 43) h=some (.bool m.want,h)
 all:cx 116 (ptr b 0) h=some (mV m,h)
theorem gU {h:ad} {b:Nat} {m:bM} (hg:MG m) (g:h.get b=some (mC m)):MLd h b m:=by
 have hr:=hg.d32;have ok:=df hg;have d:=bm hr;refine ⟨aU g (ri m rfl) rfl,aU g (ri m rfl) rfl,aU g (ri m rfl) rfl,aU g (ri m rfl) rfl,aU g (ri m rfl) rfl,aU g (ri m rfl) rfl,?_,aU g (yB hr (j:=0) rfl) rfl,aU g (yB hr (j:=1) rfl) rfl,bc g ok.1 ok.2.1⟩;have e:((mC m).drop 10).take 32=aY m.root:=by unfold mC;rw [GF (by rfl),HC d.1]
 have:=nT (o:=10) (n:=32) g (by rw [ok.1];decide) (by rw [e];exact d.2.1);rw [e] at this;exact this
abbrev AG (al:Option Addr) (nl cl:Nat) (ah:Option Addr) (nh ch n:Nat) (root:List Nat):bM:=mk0 4 0 0 al nl cl ah nh ch (n:Int) root none 0 0 false
theorem bld_sum {al:Option Addr} {nl cl:Nat} {ah:Option Addr} {nh ch n:Nat} {root:List Nat} (hr:ic root):ei zM [(0,1,.int .u8 4),(7,1,.slice al nl cl),(8,1,.slice ah nh ch),(9,1,ak n),(10,32,.agg (aY root).toArray)]=some (mV (AG al nl cl ah nh ch n root)):=by have e:fillL zM [(0,1,.int .u8 4),(7,1,.slice al nl cl),(8,1,.slice ah nh ch),(9,1,ak n),(10,32,.agg (aY root).toArray)]=fillL (mHd (AG al nl cl ah nh ch n root)++(aY z32++([.slice none 0 0,.bool false]++mZ))) [(10,32,.agg (aY root).toArray)]:=rfl;unfold ei;rw [e,jr (A:=mHd (AG al nl cl ah nh ch n root)) (B:=aY z32) (o:=10) (n:=32) rfl rfl rfl (bm hr).1];rfl
theorem is17:bP prog 15 f15:=by constructor<;>kernel_rfl
theorem is100:bP prog 27 f27:=by constructor<;>kernel_rfl
theorem is50:bP prog 9 f9:=by constructor<;>kernel_rfl
theorem agg42:rH prog 43=some true:=by kernel_rfl
theorem siz42:cK prog 43=some 116:=by kernel_rfl
theorem results17:f15.results.toList = [.cell 6 43]:=by kernel_rfl
theorem eF {a:Option Addr} {n:Nat} {h h':ad} {l:List Nat} (e:av a n h=some l) (hk : ∀ y,a=some y->h'.get y.block=h.get y.block):av a n h'=some l:=by
 rw [<-e];unfold av
 congr 1
 cases a with
 |none=>rfl
 |some y=>
  obtain ⟨b,o,s⟩:=y;have:=hk _ rfl;unfold firstA;simp only;rw [this]
set_option maxRecDepth 100000 in
theorem r17 {h:ad} (hG:4<=h.n0) (hz:h.get 3=some bX) {vb:Nat} {va:Value} {R:List ao} (gv:h.get vb=some [va]) (RS:eD h va R) (nv:dv va) (ks:KS R) (vl:qE R) (hR:R.length<=1000000) {al ah:Option Addr} {nl cl nh ch:Nat} {lo hi:List Nat}
  (hlo:av al nl h=some lo) (hhi:av ah nh h=some hi) (hnl:nl<=21000) (hnh:nh<=21000) :
  ∃ al' cl' ah' ch' h',CW 15 [ptr vb 0,.slice al nl cl,.slice ah nh ch] h=some (mV (AG al' nl cl' ah' nh ch' (R.filter (dA lo hi)).length (cT (R.filter (dA lo hi)))),h')/\aA h h'/\av al' nl h'=some lo/\av ah' nh h'=some hi /\
    (∀ y,al'=some y->h.next<=y.block/\y.block<h'.next)/\(∀ y,ah'=some y->h.next<=y.block/\y.block<h'.next):=by
 obtain ⟨h1,z1,o1,g1,n1⟩:=fresh zM h;obtain ⟨v2,h2,e2,o2,r2⟩:=r20 (h:=h1) (cl:=cl) (ch:=ch) (by rw [o1.n0];exact hG) (aA.get o1 gv) (RS.mono o1) nv ks hR (aA.bytes o1 hlo) (aA.bytes o1 hhi);have O2:=o1.trans o2;obtain ⟨al',cl',h3,e3,s3,_,o3,p3,_⟩:=r69b (h:=h2) (c:=cl) (by rw [O2.n0];exact hG) (aA.bytes O2 hlo) hnl;have O3:=O2.trans o3;obtain ⟨ah',ch',h4,e4,s4,_,o4,p4,_⟩:=r69b (h:=h3) (c:=ch) (by rw [O3.n0];exact hG) (aA.bytes O3 hhi) hnh;have O4:=O3.trans o4;have vF : ∀ r∈R.filter (dA lo hi),de r=true:=fun r hr=>(vl r (EW.1 hr).1).2;have hfl:=EU (dA lo hi) R;have r4:=(r2.mono o3).mono o4;obtain ⟨h5,e5,o5⟩:=r54 (h:=h4) (by rw [O4.n0];exact hG) (aA.get O4 hz) r4 vF (by omega);have O5:=O4.trans o5;have hd:=fw (R.filter (dA lo hi));have hll:=r2.len;generalize cT (R.filter (dA lo hi))=root at *;generalize (R.filter (dA lo hi)).length=n at *;have bs:=bld_sum (al:=al') (nl:=nl) (cl:=cl') (ah:=ah') (nh:=nh) (ch:=ch') (n:=n) hd;have ok:=df (m:=AG al' nl cl' ah' nh ch' n root) (MZ.mg ⟨rfl,rfl,rfl,rfl,rfl⟩ hd);obtain ⟨h6,e6,k6,g6,_,n6⟩:=aX (n:=116) (k':=mC (AG al' nl cl' ah' nh ch' n root)) (aA.get (((o2.trans o3).trans o4).trans o5) g1) (by rw [O5.n0];exact h.n0_le_next) rfl ok.1 ok.2.2;have O6:aA h h6:=aA.bx O5 k6 (DF _);refine ⟨al',cl',ah',ch',h6,aD is17 hG rfl ((t17_eq _ _ _ _ _).trans ?_),O6,?_,?_,fun y hy => ?_,fun y hy => ?_⟩
 ·unfold t17;have z1:dB zM h=some (ptr h.next 0,h1):=z1;simp -implicitDefEqProofs only [kF,ae,af];refine (FZ (fun o=>ab o _) z1).trans ?_;simp -implicitDefEqProofs only [e2,e3,e4,hll,e5,ae,af];refine (FZ (fun o=>ab (pu o _) _) bs).trans ?_;simp -implicitDefEqProofs only [e6,ae,af];refine cX results17 agg42 siz42 (by decide) _ ?_;exact bc g6 ok.1 ok.2.1
 ·refine eF (aA.bytes (o4.trans o5) s3) fun y hy=>k6.get _ ?_ ?_
  ·have:=p3 y hy;have:=o4.next;have:=o5.next;omega
  ·have:=p3 y hy;have:=O2.next;have:=o2.next;intro q;have q:y.block=h.next:=q;omega
 ·refine eF (aA.bytes o5 s4) fun y hy=>k6.get _ ?_ ?_
  ·have:=p4 y hy;have:=o5.next;omega
  ·have:=p4 y hy;have:=O3.next;have:=o2.next;have:=o3.next;intro q;have q:y.block=h.next:=q;omega
 ·have:=p3 y hy;have:=o3.next;have:=O2.next;have:=o4.next;have:=o5.next;omega
 ·have:=p4 y hy;have:=O3.next;have:=o5.next;omega
theorem r57L {h:ad} (hG:4<=h.n0) {v:Value} {L:List ao} (x:eD h v L) (hn:dv v) (hl:L.length<=1000000) : ∃ v' h',CW 40 [v] h=some (v',h')/\aA h h'/\eZ 39 h' h.next v' L.length (bj L):=by
 rcases hn with rfl|⟨a,n,c,rfl,_⟩
 ·have hL:L = []:=by
   obtain ⟨_,a,d,e,_⟩:=x;injection e with _ e1 _
   exact DU.1 e1.symm
  subst hL;refine ⟨.slice none 0 0,h,aD is57 hG rfl ((Cf _ _ _).trans ?_),az.refl _ _,eZ.nil 39 h h.next⟩;unfold t57;simp -implicitDefEqProofs only [nilT22,ae,af]
 ·have o1:aA h (h.alloc []):=az.alloc _ _ _;have r0:cy (h.alloc []) h.next (.slice (some ⟨h.next,0,none⟩) 0 0) []:=⟨(fun _ h=>by cases h),h.next,none,rfl,by rw [ad.aF,DL rfl];rfl,DF _,.inl ⟨rfl,rfl⟩⟩
  obtain ⟨v',h',e,r,k,_⟩:=r0.Bx (x.mono o1) (by rw [o1.n0];exact h.n0_le_next) o1.next (by decide) hl;rw [List.nil_append] at r;have b0:cg 39 (.agg zrC.toArray) 0 [] h=some (.slice (some ⟨h.next,0,none⟩) 0 0,h.alloc []):=rfl;refine ⟨v',h',aD is57 hG rfl ((Cf _ _ _).trans ?_),aA.bx o1 k (DF _),?_⟩
  ·unfold t57;simp -implicitDefEqProofs only [nilS22,ae,af];refine (FZ (fun o=>ab o _) b0).trans ?_;simp -implicitDefEqProofs only [e, ae]
  ·obtain ⟨hw,b,s,rfl,g1,g2,g3⟩:=r;have ok:=kR hw;refine ⟨cf hw,ok.1,ok.2,.inr ⟨b,s,rfl,g1,g2,?_⟩⟩;rcases g3 with ⟨q,rfl⟩|⟨q,rfl⟩
   ·exact .inl ⟨by rw [q];rfl,rfl⟩
   ·exact .inr ⟨HN.2 q,rfl⟩
theorem eZ.rc {h:ad} {N:Nat} {v:Value} {L:List ao} (x:eZ 39 h N v L.length (bj L)) (hw : ∀ r∈L,ao.Wf r):eD h v L:=by
 rcases x.form with ⟨h0,rfl⟩|⟨b,s,rfl,g,_⟩
 ·have:L = []:=DU.1 h0;subst this;exact ⟨(fun _ h=>by cases h),none,0,rfl,(fun _=>rfl),dJ (P := []) (fun _ h=>by cases h),fun h=>absurd h (F9 0)⟩
 ·exact eD.xW hw rfl g
theorem eZ.nok {h:ad} {N:Nat} {v:Value} {n:Nat} {cs:List Value} (x:eZ 39 h N v n cs):dv v:=by
 rcases x.form with ⟨rfl,rfl⟩|⟨b,s,rfl,g,_,q⟩
 ·exact .inl rfl
 ·refine .inr ⟨_,_,_,rfl,DF _,fun t e => ?_⟩;have e:s=some t:=e;rcases q with ⟨_,rfl⟩|⟨_,rfl⟩
  ·cases e
  ·exact (HM e).symm
theorem r20L {h:ad} (hG:4<=h.n0) {vb:Nat} {va:Value} {R:List ao} (gv:h.get vb=some [va]) (RS:eD h va R) (nv:dv va) (ks:KS R) (hR:R.length<=1000000) {al ah:Option Addr} {nl cl nh ch:Nat} {lo hi:List Nat} (hlo:av al nl h=some lo) (hhi:av ah nh h=some hi) :
  ∃ v' h',CW 18 [ptr vb 0,.slice al nl cl,.slice ah nh ch] h=some (v',h')/\aA h h'/\eZ 39 h' h.next v' (R.filter (dA lo hi)).length (bj (R.filter (dA lo hi))) /\ ∀ r∈R.filter (dA lo hi),ao.Wf r:=by
 obtain ⟨k1,h1,e1,o1,a1,a2,a3⟩:=r56 (c:=cl) hG gv RS.rsl ks hR hlo;have lv : ∀ g,aA h g->ld1 (ptr vb 0) g=some (va,g):=fun g og=>aU (aA.get og gv) rfl (zE nv);have hll:=RS.rsl.len;have cv : ∀ g,bF true (some (va,g)) va=true:=fun g=>by rcases nv with rfl|⟨a,n,c,rfl,_⟩<;>exact iu ..
 have hlen:=(aK hhi).1;have gtr0:aC prog .gtr 3 (ak nh) (.int .i64 0)=some (.bool (decide (0<nh))):=jo nh 0 0 rfl;have hnh : ∀ n c:Nat,∀ a:Option Addr,lenL (.slice a n c)=some (ak n):=fun _ _ _=>rfl;have wf : ∀ r∈R.filter (dA lo hi),ao.Wf r:=fun r hr=>RS.1 r (EW.1 hr).1;by_cases h0:0<nh
 ·obtain ⟨k2,h2,e2,o2,b1,b2,b3⟩:=r56 (h:=h1) (c:=ch) (by rw [o1.n0];exact hG) (aA.get o1 gv) (RS.mono o1).rsl ks hR (aA.bytes o1 hhi);have O2:=o1.trans o2;obtain ⟨v3,s3,r3,n3⟩:=(RS.mono O2).part nv (i:=k1) (j:=max k1 k2) (by omega) (by omega);obtain ⟨v4,h4,e4,o4,r4⟩:=r57L (h:=h2) (by rw [O2.n0];exact hG) r3 n3 (by rw [D8,DW];omega);refine ⟨v4,h4,aD is20 hG rfl ((CG _ _ _ _ _).trans ?_),O2.trans o4,?_,wf⟩
  ·unfold t20;simp -implicitDefEqProofs only [kF,e1,bR,ay,DG,lv h1 o1,lv h (az.refl _ _),hll,cv,af,xn,DV,hnh,gtr0,DA h0,e2,max3,lv h2 O2,s3,e4,ae]
  ·have:(R.take (max k1 k2)).drop k1=R.filter (dA lo hi):=by
    refine nC (by omega) (by omega) (fun k hk q1 q2 => ?_) (fun k hk q => ?_)
    ·have p1:=a3 k hk q1;have p2:=b2 k hk (by omega);unfold dA;rw [DA p1,DA p2,E1];rfl
    ·unfold dA;rcases q with q|q
     ·have:=a2 k hk q;rw [DB (by omega : ¬0<=jF R[k] lo),EB]
     ·have p:=b3 k hk (by omega);have hne:hi ≠ []:=fun e=>by rw [e] at hlen;rw [List.length_nil] at hlen;omega
      rw [DB hne,DB (by omega : ¬jF R[k] hi<0),ET,EO]
   rw [<-this];obtain ⟨x1,x2,x3,x4⟩:=r4;refine ⟨x1,x2,x3,?_⟩;rcases x4 with q|⟨b,s,q1,q2,q3,q4⟩
   ·exact .inl q
   ·exact .inr ⟨b,s,q1,q2,D5 O2.next q3,q4⟩
 ·obtain ⟨v3,s3,r3,n3⟩:=(RS.mono o1).part nv (i:=k1) (j:=R.length) a1 (DF _);obtain ⟨v4,h4,e4,o4,r4⟩:=r57L (h:=h1) (by rw [o1.n0];exact hG) r3 n3 (by rw [D8,DW];omega);refine ⟨v4,h4,aD is20 hG rfl ((CG _ _ _ _ _).trans ?_),o1.trans o4,?_,wf⟩
  ·unfold t20;simp -implicitDefEqProofs only [kF,e1,bR,ay,DG,lv h1 o1,lv h (az.refl _ _),hll,cv,af,xn,DV,hnh,gtr0,DB h0,s3,e4,ae]
  ·have:(R.take R.length).drop k1=R.filter (dA lo hi):=by
    have hnil:hi = []:=DU.1 (by omega);refine nC a1 (DF _) (fun k hk q1 q2 => ?_) (fun k hk q => ?_)
    ·have p1:=a3 k hk q1;unfold dA;rw [DA p1,DA hnil];rfl
    ·unfold dA;rcases q with q|q
     ·have:=a2 k hk q;rw [DB (by omega : ¬0<=jF R[k] lo),EB]
     ·omega
   rw [<-this];obtain ⟨x1,x2,x3,x4⟩:=r4;refine ⟨x1,x2,x3,?_⟩;rcases x4 with q|⟨b,s,q1,q2,q3,q4⟩
   ·exact .inl q
   ·exact .inr ⟨b,s,q1,q2,D5 o1.next q3,q4⟩
structure AM where
 kind:Nat
 frm:Int
 to:Int
 lo:List Nat
 hi:List Nat
 cnt:Int
 root:List Nat
 L:List ao
 want:Bool
structure kH (g:ad) (m:bM) (x:AM):Prop where
 kind:m.kind=x.kind
 frm:m.frm=x.frm
 to:m.to=x.to
 cnt:m.cnt=x.cnt
 root:m.root=x.root
 want:m.want=x.want
 d32:ic x.root
 lo:av m.al m.nl g=some x.lo
 hi:av m.ah m.nh g=some x.hi
 rs:eD g m.nt x.L
 mg:MG m
structure se (g:ad) (N:Nat) (m:bM) (n:Nat) (cs:List Value):Prop where
 lo : ∀ y,m.al=some y->N<=y.block/\y.block<g.next
 hi : ∀ y,m.ah=some y->N<=y.block/\y.block<g.next
 rs:eZ 39 g N m.nt n cs
 zr:MZ m
theorem kH.old {g g':ad} {m:bM} {x:AM} (h:kH g m x) (o:aA g g'):kH g' m x:=
 ⟨h.kind,h.frm,h.to,h.cnt,h.root,h.want,h.d32,aA.bytes o h.lo,aA.bytes o h.hi,h.rs.mono o,h.mg⟩
theorem se.old {g g':ad} {N n:Nat} {m:bM} {cs:List Value} (h:se g N m n cs) (o:aA g g'):se g' N m n cs:=
 ⟨fun y e=>⟨(h.lo y e).1,ED (h.lo y e).2 o.next⟩,fun y e=>⟨(h.hi y e).1,ED (h.hi y e).2 o.next⟩,h.rs.old o,h.zr⟩
theorem se.weak {g:ad} {N M n:Nat} {m:bM} {cs:List Value} (h:se g N m n cs) (hM:M<=N):se g M m n cs:=
 ⟨fun y e=>⟨D5 hM (h.lo y e).1,(h.lo y e).2⟩,fun y e=>⟨D5 hM (h.hi y e).1,(h.hi y e).2⟩,h.rs.weak hM,h.zr⟩
def tM (S:List ao) (lo hi:List Nat):AM:=⟨4,0,0,lo,hi,((S.filter (dA lo hi)).length:Int),cT (S.filter (dA lo hi)),[],false⟩
def dU (lo hi:List Nat) (L:List ao) (w:Bool):AM:=⟨5,0,0,lo,hi,0,z32,L,w⟩
theorem xU (h:ad):eD h (.slice none 0 0) []:=⟨(fun _ h=>by cases h),none,0,rfl,(fun _=>rfl),dJ (P := []) (fun _ h=>by cases h),fun h=>absurd h (F9 0)⟩
theorem r17M {h:ad} (hG:4<=h.n0) (hz:h.get 3=some bX) {vb:Nat} {va:Value} {R:List ao} (gv:h.get vb=some [va]) (RS:eD h va R) (nv:dv va) (ks:KS R) (vl:qE R) (hR:R.length<=1000000) {al ah:Option Addr} {nl cl nh ch:Nat} {lo hi:List Nat}
  (hlo:av al nl h=some lo) (hhi:av ah nh h=some hi) (hnl:nl<=21000) (hnh:nh<=21000) :
  ∃ m h',CW 15 [ptr vb 0,.slice al nl cl,.slice ah nh ch] h=some (mV m,h')/\aA h h'/\kH h' m (tM R lo hi)/\se h' h.next m 0 []:=by
 obtain ⟨al',cl',ah',ch',h',e,o,s1,s2,p1,p2⟩:=r17 (cl:=cl) (ch:=ch) hG hz gv RS nv ks vl hR hlo hhi hnl hnh;exact ⟨_,h',e,o,⟨rfl,rfl,rfl,rfl,rfl,rfl,fw _,s1,s2,xU h',MZ.mg ⟨rfl,rfl,rfl,rfl,rfl⟩ (fw _)⟩,⟨p1,p2,eZ.nil 39 h' h.next,⟨rfl,rfl,rfl,rfl,rfl⟩⟩⟩
theorem is129:bP prog 61 f61:=by constructor<;>kernel_rfl
theorem results129:f61.results.toList = [.cell 6 43]:=by kernel_rfl
theorem Bi {al:Option Addr} {nl cl:Nat} {ah:Option Addr} {nh ch:Nat} {ar:Option Addr} {nr cr:Nat} {w:Bool}:ei zM [(0,1,.int .u8 5),(7,1,.slice al nl cl),(8,1,.slice ah nh ch),(42,1,.slice ar nr cr),(43,1,.bool w)]=some (mV (mk0 5 0 0 al nl cl ah nh ch 0 z32 ar nr cr w)):=rfl
theorem z32_d:ic z32:=yM
set_option maxRecDepth 100000 in
theorem r129 {h:ad} (hG:4<=h.n0) {m:bM} {x:AM} (M:kH h m x) {v:Value} {L:List ao} (hv:eD h v L) (nv:dv v) (hL:L.length<=1000000) (w:Bool) (hnl:m.nl<=21000) (hnh:m.nh<=21000) :
  ∃ m' h',CW 61 [mV m,v,.bool w] h=some (mV m',h')/\aA h h'/\kH h' m' (dU x.lo x.hi L w)/\se h' h.next m' L.length (bj L):=by
 have hd:MG m:=M.mg;have ok:=df hd;have b1:box (mV m) h=some (ptr h.next 0,h.alloc (mC m)):=dG h _ ok.2.2;have o1:aA h (h.alloc (mC m)):=az.alloc _ _ _;have g1:(h.alloc (mC m)).get h.next=some (mC m):=by rw [ad.aF,DL rfl]
 have n1:(h.alloc (mC m)).next=h.next+1:=rfl;generalize h.alloc (mC m)=h1 at *;obtain ⟨h2,z2,o2,g2,n2⟩:=fresh zM h1;have O2:=o1.trans o2;obtain ⟨al',cl',h3,e3,s3,_,o3,p3,_⟩:=r69b (h:=h2) (c:=m.cl) (by rw [O2.n0];exact hG) (aA.bytes O2 M.lo) hnl;have O3:=O2.trans o3;obtain ⟨ah',ch',h4,e4,s4,_,o4,p4,_⟩:=r69b (h:=h3) (c:=m.ch) (by rw [O3.n0];exact hG) (aA.bytes O3 M.hi) hnh;have O4:=O3.trans o4;obtain ⟨v5,h5,e5,o5,r5⟩:=r57L (h:=h4) (by rw [O4.n0];exact hG) (hv.mono O4) nv hL;have O5:=O4.trans o5;have L2:=gU hd (aA.get o2 g1);have L3:=gU hd (aA.get (o2.trans o3) g1);obtain ⟨ar,nr,cr,rfl⟩ : ∃ ar nr cr,v5 = .slice ar nr cr:=by
  rcases r5.wform with rfl|⟨b,s,n,rfl⟩
  ·exact ⟨_,_,_,rfl⟩
  ·exact ⟨_,_,_,rfl⟩
 have bi:=Bi (al:=al') (nl:=m.nl) (cl:=cl') (ah:=ah') (nh:=m.nh) (ch:=ch') (ar:=ar) (nr:=nr) (cr:=cr) (w:=w);have ok2:=df (m:=mk0 5 0 0 al' m.nl cl' ah' m.nh ch' 0 z32 ar nr cr w) (MZ.mg ⟨rfl,rfl,rfl,rfl,rfl⟩ z32_d);obtain ⟨h6,e6,k6,g6,_,n6⟩:=aX (n:=116) (k':=mC (mk0 5 0 0 al' m.nl cl' ah' m.nh ch' 0 z32 ar nr cr w)) (aA.get ((o3.trans o4).trans o5) g2) (by rw [O5.n0];exact D5 h.n0_le_next o1.next) rfl ok2.1 ok2.2.2;have O6:aA h h6:=aA.bx O5 k6 o1.next;have w5:=hv.1;have q2:=o2.next;have q3:=o3.next;have q4:=o4.next;have q5:=o5.next;refine ⟨mk0 5 0 0 al' m.nl cl' ah' m.nh ch' 0 z32 ar nr cr w,h6,aD is129 hG rfl ((t129_eq _ _ _ _ _).trans ?_),O6,⟨rfl,rfl,rfl,rfl,rfl,rfl,z32_d,?_,?_,?_,MZ.mg ⟨rfl,rfl,rfl,rfl,rfl⟩ z32_d⟩,⟨fun y hy => ?_,fun y hy => ?_,?_,⟨rfl,rfl,rfl,rfl,rfl⟩⟩⟩
 ·unfold t129;simp -implicitDefEqProofs only [b1, ae];refine (FZ (fun o=>ab o _) z2).trans ?_;simp -implicitDefEqProofs only [ay,DG,L2.l7,e3,L3.l8,L2.l8,e4,e5,iu,DV,ae,af];refine (FZ (fun o=>ab (pu o _) _) bi).trans ?_;simp -implicitDefEqProofs only [e6,ae,af];refine cX results129 agg42 siz42 (by decide) _ ?_;exact bc g6 ok2.1 ok2.2.1
 ·refine eF (aA.bytes (o4.trans o5) s3) fun y hy=>k6.get _ ?_ ?_
  ·have:=p3 y hy;omega
  ·have:=p3 y hy;intro q;have q:y.block=h1.next:=q;omega
 ·refine eF (aA.bytes o5 s4) fun y hy=>k6.get _ ?_ ?_
  ·have:=p4 y hy;omega
  ·have:=p4 y hy;intro q;have q:y.block=h1.next:=q;omega
 ·refine (r5.rc w5).keepS k6 fun q => ?_;have:=r5.blk (b:=h1.next) (by
   rcases r5.wform with e|⟨b,s,n,e⟩
   ·cases e;cases q
   ·cases e;cases nr with
    |zero=>cases q
    |succ n=>cases q;rfl)
  omega
 ·have:=p3 y hy;have:=O2.next;omega
 ·have:=p4 y hy;have:=O3.next;omega
 ·refine (r5.weak O4.next).keep k6 fun b q r => ?_;have:=r5.blk q;have r:b=h1.next:=r;omega
abbrev zML:List Value:=lF
def lD (ms:List bM):List Value:=ms.flatMap mC
def MBel (b:Nat) (m:bM):Prop:=(∀ y,m.al=some y->y.block<b)/\(∀ y,m.ah=some y->y.block<b) /\ ∀ c,gK m.nt=some c->c<b
theorem se.bel {g:ad} {N n:Nat} {m:bM} {cs:List Value} (h:se g N m n cs):MBel g.next m:=⟨fun y e=>(h.lo y e).2,fun y e=>(h.hi y e).2,fun _ e=>(h.rs.blk e).2⟩
theorem MBel.up {b c:Nat} {m:bM} (h:MBel b m) (hc:b<=c):MBel c m:=⟨fun y e=>ED (h.1 y e) hc,fun y e=>ED (h.2.1 y e) hc,fun d e=>ED (h.2.2 d e) hc⟩
def MsS (g:ad) (N:Nat) (w:Value) (ms:List bM):Prop:=(w = .slice none 0 0/\ms = []) \/ ∃ b s,w = .slice (some ⟨b,0,s⟩) ms.length ms.length/\g.get b=some (lD ms)/\N<=b /\ ∀ m∈ms,MBel b m
structure yu (g:ad) (N:Nat) (w:Value) (ms:List bM) (xs:List AM):Prop where
 sl:MsS g N w ms
 len:ms.length=xs.length
 is : ∀ i (h:i<ms.length) (h':i<xs.length),kH g ms[i] xs[i]
 own : ∀ i (h:i<ms.length) (h':i<xs.length),se g N ms[i] xs[i].L.length (bj xs[i].L)
theorem xh {m:bM} (hd:MG m) (q:ad):cg 116 (.agg zML.toArray) 1 [(0,mV m)] q=some (.slice (some ⟨q.next,0,none⟩) 1 1,q.alloc (mC m)):=by
 have ok:=df hd;have e1:fillL zM [(0*116,116,mV m)]=some (mC m):=by rw [jr (z:=zM) (A := []) (B:=zM) (C := []) (o:=0*116) (n:=116) (by simp) rfl rfl ok.1];simp [fillL]
 have e2:aJ ([(0,mV m)].flatMap fun x:Nat×Value=>x.2.cells.toList)=true:=by show aJ ((mC m).toArray.toList ++ [])=true;rw [EN];exact ok.2.2
 unfold cg;rw [e2];exact (FZ (fun o:Option (List Value)=>match o with|some cs=>some (Value.slice (some ⟨q.next,0,none⟩) 1 1,q.alloc cs)|none=>none) e1:_)
theorem bsl_msg2 {m n:bM} (hd:MG m) (hn:MG n) (q:ad):cg 116 (.agg zML.toArray) 2 [(0,mV m),(1,mV n)] q=some (.slice (some ⟨q.next,0,none⟩) 2 2,q.alloc (mC m++mC n)):=by
 have ok:=df hd;have ok2:=df hn;have e1:fillL (zM++(zM ++ [])) [(0*116,116,mV m),(1*116,116,mV n)]=some (mC m++mC n):=by rw [jr (z:=zM++(zM ++ [])) (A := []) (B:=zM) (C:=zM ++ []) (o:=0*116) (n:=116) rfl rfl rfl ok.1];rw [List.nil_append,jr (z:=mC m++(zM ++ [])) (A:=mC m) (B:=zM) (C := []) (o:=1*116) (n:=116) rfl ok.1 rfl ok2.1];simp [fillL]
 have e2:aJ ([(0,mV m),(1,mV n)].flatMap fun x:Nat×Value=>x.2.cells.toList)=true:=by show aJ ((mC m).toArray.toList++((mC n).toArray.toList ++ []))=true;have h1:=ok.2.2;have h2:=ok2.2.2;unfold aJ at *;simp only [E6,h1,h2];rfl
 unfold cg;rw [e2];exact (FZ (fun o:Option (List Value)=>match o with|some cs=>some (Value.slice (some ⟨q.next,0,none⟩) 2 2,q.alloc cs)|none=>none) e1:_)
def fc (S:List ao) (x:AM):List AM:=
 let l:=S.filter (dA x.lo x.hi)
 if (decide ((l.length:Int)=x.cnt)&&decide (cT l=x.root))=true then []
 else if l.length<=8 then [dU x.lo x.hi l true]
 else [tM S x.lo (dx (l.getD (l.length/2) ao.z)),tM S (dx (l.getD (l.length/2) ao.z)) x.hi]
theorem quo2 {n:Nat} (h:n<=1000000):aC prog .quo 3 (ak n) (.int .i64 2)=some (ak (n/2)):=by unfold ak;rw [Dd (P:=prog) (t:=3) (k := .i64) (a:=(n:Int)) (b:=2) (by decide),show ((n:Int).tdiv 2)=((n/2:Nat):Int) from rfl,wrap_i64 (by omega) (by omega)]
theorem eqDD2 {a b:List Nat} (wa:ic a) (wb:ic b):aC prog .eql 36 (.agg (aY a).toArray) (.agg (aY b).toArray)=some (.bool (decide (a=b))):=eqD35 wa wb
set_option maxRecDepth 100000 in
set_option maxHeartbeats 1000000 in
theorem r100 {h:ad} (hG:4<=h.n0) (hz:h.get 3=some bX) {vb:Nat} {va:Value} {R:List ao} (gv:h.get vb=some [va]) (RS:eD h va R) (nv:dv va) (ks:KS R) (vl:qE R) (hR:R.length<=1000000) {m:bM} {x:AM} (X:kH h m x) (hnl:m.nl<=20000) (hnh:m.nh<=20000) :
  ∃ w ms h',CW 27 [ptr vb 0,mV m] h=some (w,h')/\aA h h'/\yu h' h.next w ms (fc R x):=by
 have hd:MG m:=X.mg;have ok:=df hd;have b1:box (mV m) h=some (ptr h.next 0,h.alloc (mC m)):=dG h _ ok.2.2;have o1:aA h (h.alloc (mC m)):=az.alloc _ _ _;have g1:(h.alloc (mC m)).get h.next=some (mC m):=by rw [ad.aF,DL rfl]
 generalize h.alloc (mC m)=h1 at *;have M:=fun g (og:aA h1 g)=>gU hd (aA.get og g1);have wl : ∀ g,aA h g->av m.al m.nl g=some x.lo:=fun g og=>aA.bytes og X.lo;have wh : ∀ g,aA h g->av m.ah m.nh g=some x.hi:=fun g og=>aA.bytes og X.hi;obtain ⟨m2,h2,e2,o2,X2,W2⟩:=r17M (h:=h1) (cl:=m.cl) (ch:=m.ch) (by rw [o1.n0];exact hG) (aA.get o1 hz) (aA.get o1 gv) (RS.mono o1) nv ks vl hR (wl h1 o1) (wh h1 o1) (by omega) (by omega);have O2:=o1.trans o2;have hd2:MG m2:=X2.mg;obtain ⟨h3,z3,o3,g3,n3⟩:=fresh zM h2;have ok2:=df hd2;obtain ⟨h4,e4,k4,g4,_,n4⟩:=aX (n:=116) (k':=mC m2) g3 (by rw [(O2.trans o3).n0];exact D5 h.n0_le_next O2.next) rfl ok2.1 ok2.2.2;have o4:aA h2 h4:=aA.bx o3 k4 (DF _);have O4:=O2.trans o4;obtain ⟨v5,h5,e5,o5,r5,w5⟩:=r20L (h:=h4) (cl:=m.cl) (ch:=m.ch) (by rw [O4.n0];exact hG) (aA.get O4 gv) (RS.mono O4) nv ks hR (wl h4 O4) (wh h4 O4);have O5:=O4.trans o5;have S:=gU hd2 (aA.get o5 g4);have M1:=M h1 (az.refl _ _);have M4:=M h4 (o2.trans o4);have M5:=M h5 ((o2.trans o4).trans o5);have q9:ld1 (ptr h2.next 9) h5=some (.int .i64 ((R.filter (dA x.lo x.hi)).length:Int),h5):=by have:=S.l9;rw [X2.cnt] at this;exact this
 have q10:cx 32 (ptr h2.next 10) h5=some (.agg (aY (cT (R.filter (dA x.lo x.hi)))).toArray,h5):=by have:=S.l10;rw [X2.root] at this;exact this
 have l9:ld1 (ptr h.next 9) h5=some (.int .i64 x.cnt,h5):=by rw [<-X.cnt];exact M5.l9
 have l10:cx 32 (ptr h.next 10) h5=some (.agg (aY x.root).toArray,h5):=by rw [<-X.root];exact M5.l10
 have ll5:=r5.lenL;have hfl:=EU (dA x.lo x.hi) R;have rep:fc R x=if (decide (((R.filter (dA x.lo x.hi)).length:Int)=x.cnt)&&decide (cT (R.filter (dA x.lo x.hi))=x.root))=true then [] else if (R.filter (dA x.lo x.hi)).length<=8 then [dU x.lo x.hi (R.filter (dA x.lo x.hi)) true] else [tM R x.lo (dx ((R.filter (dA x.lo x.hi)).getD ((R.filter (dA x.lo x.hi)).length/2) ao.z)),tM R (dx ((R.filter (dA x.lo x.hi)).getD ((R.filter (dA x.lo x.hi)).length/2) ao.z)) x.hi]:=rfl
 have dT:=fw (R.filter (dA x.lo x.hi));have vS : ∀ r∈R.filter (dA x.lo x.hi),ao.Wf r:=w5;generalize (R.filter (dA x.lo x.hi))=l at *;have key : ∃ out:aS,t100 CW (ptr vb 0) (mV m) h=out /\ ∃ w ms h',out=some (w,h')/\aA h h'/\yu h' h.next w ms (fc R x):=by
  refine ⟨_,rfl,?_⟩;unfold t100;simp -implicitDefEqProofs only [b1,ay,DG,M1.l7,M1.l8,e2,ae,af];have z3:dB zML h2=some (ptr h2.next 0,h3):=z3;simp -implicitDefEqProofs only [z3,e4,ay,DG,M4.l7,M4.l8,e5,q9,l9,eqI,ae,af];have nil_ok:yu h5 h.next (.slice none 0 0) [] []:=⟨.inl ⟨rfl,rfl⟩,rfl,fun i h=>absurd h (E0 i),fun i h=>absurd h (E0 i)⟩
  have e35:=eqDD2 dT X.d32;generalize decide (cT l=x.root)=q at *;generalize decide ((l.length:Int)=x.cnt)=p at *;have hn0:=h.n0_le_next;by_cases hq:(p&&q)=true
  ·rw [DL hq] at rep;rw [rep];rw [DJ] at hq;obtain ⟨rfl,rfl⟩:=hq;simp -implicitDefEqProofs only [bt, aw, q10, l10, e35, DY, ae, af];exact ⟨_,[],h5,rfl,O5,nil_ok⟩
  ·rw [DM hq] at rep;by_cases h8:l.length<=8
   ·rw [DL h8] at rep;rw [rep];obtain ⟨m6,h6,e6,o6,X6,W6⟩:=r129 (h:=h5) (by rw [O5.n0];exact hG) (X.old O5) (r5.rc w5) r5.nok (by omega) true (by omega) (by omega);have O6:=O5.trans o6;have hd6:MG m6:=X6.mg;have e7:=xh hd6 h6;have o7:aA h6 (h6.alloc (mC m6)):=az.alloc _ _ _;have g7:(h6.alloc (mC m6)).get h6.next=some (mC m6):=by rw [ad.aF,DL rfl]
    generalize h6.alloc (mC m6)=h7 at *;have A:yu h7 h.next (.slice (some ⟨h6.next,0,none⟩) 1 1) [m6] [dU x.lo x.hi l true]:=by
     refine ⟨.inr ⟨h6.next,none,rfl,by rw [g7];simp [lD],O6.next,fun m hm=>by rw [EH.1 hm];exact W6.bel⟩,rfl,fun i hi hi' => ?_,fun i hi hi' => ?_⟩
     ·obtain rfl:i=0:=by have:i<1:=hi;omega
      exact X6.old o7
     ·obtain rfl:i=0:=by have:i<1:=hi;omega
      exact (W6.old o7).weak O5.next
    have fin : ∃ w ms h',(some (Value.slice (some ⟨h6.next,0,none⟩) 1 1,h7):aS)=some (w,h')/\aA h h'/\yu h' h.next w ms [dU x.lo x.hi l true]:=⟨_,_,_,rfl,O6.trans o7,A⟩
    cases p<;>cases q;all_goals first
     |exact absurd rfl hq
     | (simp -implicitDefEqProofs only [bt, sP, aw, ax, q10, l10, e35, DY, DD, D3, ll5, leq3 l.length 8 8 rfl, DA h8, M5.all, e6, e7, ae, af]
        exact fin)
   ·rw [DM h8] at rep;rw [rep];have hlt:l.length/2<l.length:=by omega
    obtain ⟨bb,oo,ixx,wr,ldd⟩:=(r5.rc w5).rsl.rd hlt;have eg:l.getD (l.length/2) ao.z=l[l.length/2]:=by rw [DK,DC hlt];rfl
    rw [eg];obtain ⟨ka,kc,h6,e6,s6,o6⟩:=r67 (h:=h5) (by rw [O5.n0];exact hG) wr;generalize l[l.length/2]=rk at *;have O6:=O5.trans o6;have M6:=M h6 (((o2.trans o4).trans o5).trans o6);obtain ⟨m7,h7,e7,o7,X7,W7⟩:=r17M (h:=h6) (cl:=m.cl) (ch:=kc) (by rw [O6.n0];exact hG) (aA.get O6 hz) (aA.get O6 gv) (RS.mono O6) nv ks vl hR (wl h6 O6) s6 (by omega) (by omega);have O7:=O6.trans o7;have M7:=M h7 ((((o2.trans o4).trans o5).trans o6).trans o7);obtain ⟨m8,h8',e8,o8,X8,W8⟩:=r17M (h:=h7) (cl:=kc) (ch:=m.ch) (by rw [O7.n0];exact hG) (aA.get O7 hz) (aA.get O7 gv) (RS.mono O7) nv ks vl hR (aA.bytes o7 s6) (wh h7 O7) (by omega) (by omega);have O8:=O7.trans o8;have hd7:MG m7:=X7.mg;have hd8:MG m8:=X8.mg;have e9:=bsl_msg2 hd7 hd8 h8';have o9:aA h8' (h8'.alloc (mC m7++mC m8)):=az.alloc _ _ _;have g9:(h8'.alloc (mC m7++mC m8)).get h8'.next=some (mC m7++mC m8):=by rw [ad.aF,DL rfl]
    generalize h8'.alloc (mC m7++mC m8)=h9 at *;have A:yu h9 h.next (.slice (some ⟨h8'.next,0,none⟩) 2 2) [m7,m8] [tM R x.lo (dx rk),tM R (dx rk) x.hi]:=by
     refine ⟨.inr ⟨h8'.next,none,rfl,by rw [g9];simp [lD],O8.next,fun m hm => ?_⟩,rfl,fun i hi hi' => ?_,fun i hi hi' => ?_⟩
     ·rcases FJ.1 hm with rfl|hm
      ·exact W7.bel.up o8.next
      ·rw [EH.1 hm];exact W8.bel
     ·have hi2:i<2:=hi;rcases (show i=0\/i=1 by omega) with rfl|rfl
      ·exact X7.old (o8.trans o9)
      ·exact X8.old o9
     ·have hi2:i<2:=hi;rcases (show i=0\/i=1 by omega) with rfl|rfl
      ·exact (W7.old (o8.trans o9)).weak O6.next
      ·exact (W8.old o9).weak O7.next
    have fin : ∃ w ms h',(some (Value.slice (some ⟨h8'.next,0,none⟩) 2 2,h9):aS)=some (w,h')/\aA h h'/\yu h' h.next w ms [tM R x.lo (dx rk),tM R (dx rk) x.hi]:=⟨_,_,_,rfl,O8.trans o9,A⟩
    have ck : ∀ g,bF true (some (m.hi,g)) m.hi=true:=fun g=>iu ..;cases p<;>cases q;all_goals first
     |exact absurd rfl hq
     | (simp -implicitDefEqProofs only [bt, sP, aw, ax, q10, l10, e35, DY, DD, D3, ll5, leq3 l.length 8 8 rfl, DB h8, quo2 (show l.length<=1000000 by omega), ixx, ldd h5 (az.refl _ _), e6, M6.l7, e7, M7.l8, e8, e9, M6.l8, ck, DV, ae, af]
        exact fin)
 obtain ⟨q,e,w,ms,h',e',oo⟩:=key;exact ⟨w,ms,h',aD is100 hG rfl ((t100_eq _ _ _ _).trans (e.trans e')),oo⟩
def iN (a b:Int) (m:bM):bM:={ m with frm:=a,to:=b }
def gF (a b:Int) (x:AM):AM:={ x with frm:=a,to:=b }
theorem tO {A B C:List Value} {o j:Nat} {v:Value} (hA:A.length=o) (hj:j<B.length):(A++(B++C)).set (o+j) v=A++(B.set j v++C):=by subst hA;rw [IB _ _ (by omega),FF,JD _ _ hj]
theorem tC {ms:List bM} (h : ∀ m∈ms,MG m):(lD ms).length=ms.length*116:=by
 induction ms with
 |nil=>rfl
 |cons m ms ih=>
  unfold lD at *;rw [E4,DH,(df (h m ER)).1,ih fun q hq=>h q (EM _ hq),List.length_cons];omega
theorem jh (A B:List bM):lD (A++B)=lD A++lD B:=by unfold lD;rw [HL]
theorem xx (m:bM):lD [m]=mC m:=by unfold lD;rw [E4,HO,EN]
theorem mC_ends (m:bM) (a b:Int):((mC m).set 1 (.int .i64 a)).set 2 (.int .i64 b)=mC (iN a b m):=rfl
set_option maxRecDepth 100000 in
theorem rep_loop {C:aj} {g0:ad} {N:Nat} {w:Value} {ms:List bM} {xs:List AM} (A:yu g0 N w ms xs) (hN:g0.n0<=N) {mb:Nat} {m:bM} (hm:MG m) (gm:g0.get mb=some (mC m)) (hmb:mb<N) (hl:ms.length<=1000000)
  {x:Nat->Value} (x3:x 3=ptr mb 0) (x6:x 6=w) (x47:x 47=ak ms.length) (x48:x 48=ak 0) :
  Fin 65 (fun ex y g=>ex = .exit 1/\y 6=w/\az g0 g (fun b=>gK w=some b/\N<=b)/\yu g N w (ms.map (iN m.to m.frm)) (xs.map (gF m.to m.frm))) (iter (codeA prog C (au f9 [1,1,1,1,0,1,0,0])) aB (aL 65 x) g0):=by
 rcases A.sl with ⟨rfl,rfl⟩|⟨b,s,rfl,gb,hb,bel⟩
 ·have hx:xs = []:=DU.1 A.len.symm;subst hx;refine bk (lR C) (Inv:=fun k y g=>g=g0/\y 6 = .slice none 0 0/\y 47=ak 0/\y 48=ak 0) ?_ 0 (by have:aB=18446744073709551616:=rfl;omega) ⟨rfl,x6,x47,x48⟩;rintro k y g ⟨rfl,y6,y47,y48⟩;unfold iD;simp -implicitDefEqProofs only [y47,y48,eK,DB (F9 0),ae,af];exact cR.out 1 ⟨rfl,y6,az.refl _ _,A⟩
 ·have dr : ∀ q∈ms,MG q:=fun q hq=>by
   obtain ⟨i,hi,rfl⟩:=E5.1 hq;have hi':i<xs.length:=by rw [<-A.len];exact hi
   exact (A.is i hi hi').mg
  have nb:g0.n0<=b:=D5 hN hb;refine bk (lR C) (Inv:=fun k y g => ∃ i,i+k=ms.length/\y 3=ptr mb 0/\y 6 = .slice (some ⟨b,0,s⟩) ms.length ms.length/\y 47=ak ms.length/\y 48=ak i/\az g0 g (· = b)/\g.get b=some (lD ((ms.take i).map (iN m.to m.frm)++ms.drop i))) ?_ ms.length (by have:aB=18446744073709551616:=rfl;omega) ⟨0,by omega,x3,x6,x47,x48,az.refl _ _,by rw [List.take_zero];exact gb⟩;rintro k y g ⟨i,hik,y3,y6,y47,y48,K,gg⟩;unfold iD;simp -implicitDefEqProofs only [y47,y48,eK,ae,af];by_cases hi:i<ms.length
  ·have hmb':mb≠b:=by omega
   have M0:=gU hm (K.getE gm hmb');have hlt:(ms.take i).length=i:=by rw [DW];omega
   have dl : ∀ q∈(ms.take i).map (iN m.to m.frm),MG q:=fun q hq=>by obtain ⟨q',hq',rfl⟩:=E2.1 hq;have:=dr q' (EZ hq');exact ⟨this.d32,this.h4,this.o4,this.tl,this.ht,this.ot⟩
   have l1:(lD ((ms.take i).map (iN m.to m.frm))).length=i*116:=by rw [tC dl,DS,hlt]
   have di:=dr _ (EA hi);have lm:=(df di).1;have split:lD ((ms.take i).map (iN m.to m.frm)++ms.drop i)=lD ((ms.take i).map (iN m.to m.frm))++(mC ms[i]++lD (ms.drop (i+1))):=by rw [jh,EX hi];rfl
   rw [split] at gg;have ix:idxS 116 (.slice (some ⟨b,0,s⟩) ms.length ms.length) (ak i)=some (ptr b (i*116)):=by unfold idxS ak;simp only;rw [DL (by omega),Int.toNat_natCast,DG]
   have nb':g.n0<=b:=by rw [K.n0];exact nb
   obtain ⟨g2,e2,k2,q2,_,_⟩:=stored (o:=i*116+1) (v := .int .i64 m.to) gg nb' (by rw [DH,DH,l1,lm];omega) rfl rfl;rw [tO l1 (by omega)] at q2;have K2:=K.trans k2;have M2:=gU hm (K2.getE gm hmb');obtain ⟨g3,e3,k3,q3,_,_⟩:=stored (o:=i*116+2) (v := .int .i64 m.frm) q2 (by rw [k2.n0];exact nb') (by rw [DH,DH,l1,HA,lm];omega) rfl rfl;rw [tO l1 (by rw [HA];omega),mC_ends] at q3;have K3:=K2.trans k3;have a48:aC prog .add 3 (ak i) (.int .i64 1)=some (ak (i+1)):=dh (by omega);have ck:bF true (some (.int .i64 m.frm,g2)) (.int .i64 m.frm)=true:=ze ..;simp -implicitDefEqProofs only [DA hi, y3, y6, ay, DG, M0.l2, M0.l1, ix, e2, e3, M2.l1, ck, DV, a48, ae, af];refine cR.next (k-1) (by omega) ⟨i+1,by omega,y3,y6,y47,rfl,K3,?_⟩;rw [q3,ES hi,FG,jh,jh,EC]
   congr 2
   rw [FL,HH,xx]
  ·have hE:i=ms.length:=by omega
   subst hE;rw [E9,I7,EN] at gg;simp -implicitDefEqProofs only [DB hi];refine cR.out 1 ⟨rfl,y6,K.mono (fun c _ q=>by have q:c=b:=q;subst q;exact ⟨rfl,hb⟩),?_⟩
   have nxt:=K.next;refine ⟨.inr ⟨b,s,by rw [DS],gg,hb,fun q hq => ?_⟩,by rw [DS,DS,A.len],fun j hj hj' => ?_,fun j hj hj' => ?_⟩
   ·obtain ⟨q',hq',rfl⟩:=E2.1 hq;exact bel q' hq'
   ·rw [DS] at hj hj';have I:=A.is j hj hj';have O:=A.own j hj hj';have bl:=bel _ (EA hj);rw [GS,GS];refine ⟨I.kind,rfl,rfl,I.cnt,I.root,I.want,I.d32,eF I.lo fun y hy=>K.get _ (O.lo y hy).2 (fun q => ?_),eF I.hi fun y hy=>K.get _ (O.hi y hy).2 (fun q => ?_),I.rs.keepS K fun q => ?_,⟨I.mg.d32,I.mg.h4,I.mg.o4,I.mg.tl,I.mg.ht,I.mg.ot⟩⟩
    ·have h1:=bl.1 y hy;have q:y.block=b:=q;omega
    ·have h1:=bl.2.1 y hy;have q:y.block=b:=q;omega
    ·have h1:=bl.2.2 b (by
      have w:=O.rs.wform;rcases w with e|⟨b',s',n',e⟩
      ·rw [show ms[j].nt=_ from e] at q;cases q
      ·rw [show ms[j].nt=_ from e] at q |-;cases n' with
       |zero=>cases q
       |succ n=>cases q;rfl)
     omega
   ·rw [DS] at hj hj';have O:=A.own j hj hj';have bl:=bel _ (EA hj);rw [GS,GS];exact ⟨fun y hy=>⟨(O.lo y hy).1,ED (O.lo y hy).2 nxt⟩,fun y hy=>⟨(O.hi y hy).1,ED (O.hi y hy).2 nxt⟩,O.rs.keep K fun c hc q=>by have h1:=bl.2.2 c hc;have q:c=b:=q;omega,O.zr⟩
theorem b50_10f (C:aj) (e:aW) (h:ad):b50_10 C 1 e h=k50_8 C e h:=rfl
theorem eq31k (k:Nat) (n:Int) (j:Nat) (e:n=j):aC prog .eql 31 (.int .u8 (k:Int)) (.int .u8 n)=some (.bool (decide (k=j))):=by subst e;rw [bA,u8_eqn]
set_option maxRecDepth 100000 in
theorem r50s {h:ad} (hG:4<=h.n0) (hz:h.get 3=some bX) {vb:Nat} {va:Value} {R:List ao} (gv:h.get vb=some [va]) (RS:eD h va R) (nv:dv va) (ks:KS R) (vl:qE R) (hR:R.length<=1000000) {m:bM} {x:AM} (X:kH h m x) (hnl:m.nl<=20000) (hnh:m.nh<=20000) (hk:x.kind=4) (hc:0<=x.cnt) :
  ∃ w ms h',CV 9 [ptr vb 0,mV m] h=some (.tuple #[w,.int .i64 0],h')/\aA h h'/\yu h' h.next w ms ((fc R x).map (gF x.to x.frm)):=by
 have hd:MG m:=X.mg;have ok:=df hd;have b1:box (mV m) h=some (ptr h.next 0,h.alloc (mC m)):=dG h _ ok.2.2;have o1:aA h (h.alloc (mC m)):=az.alloc _ _ _;have g1:(h.alloc (mC m)).get h.next=some (mC m):=by rw [ad.aF,DL rfl]
 have n1:(h.alloc (mC m)).next=h.next+1:=rfl;generalize h.alloc (mC m)=h1 at *;have M:=gU hd g1;have l0:=M.l0;rw [X.kind,hk] at l0;have l0:ld1 (ptr h.next 0) h1=some (.int .u8 4,h1):=l0;have gc:aC prog .geq 3 (.int .i64 m.cnt) (.int .i64 0)=some (.bool true):=by rw [ge0,X.cnt,DA hc]
 obtain ⟨w,ms,h2,e2,o2,A⟩:=r100 (h:=h1) (by rw [o1.n0];exact hG) (aA.get o1 hz) (aA.get o1 gv) (RS.mono o1) nv ks vl hR (X.old o1) hnl hnh;have e2:=iy (f:=27) rfl (by decide) e2;have O2:=o1.trans o2;have e31:aC prog .eql 31 (.int .u8 4) (.int .u8 4)=some (.bool true):=by kernel_rfl
 have hlen:ms.length<=1000000:=by
  rw [A.len];have:(fc R x).length<=2:=by
   unfold fc;simp only;split
   ·exact FN _
   ·split<;>simp
  omega
 have ln:lenL w=some (ak ms.length):=by rcases A.sl with ⟨rfl,rfl⟩|⟨b,s,rfl,_⟩<;>rfl
 have key : ∃ out:aS,t50 CV (ptr vb 0) (mV m) h=out /\ ∃ w ms h',out=some (.tuple #[w,.int .i64 0],h')/\aA h h'/\yu h' h.next w ms ((fc R x).map (gF x.to x.frm)):=by
  refine ⟨_,rfl,?_⟩;unfold t50;simp -implicitDefEqProofs only [b1,kF,ay,DG,l0,e31,bt,aw,M.l9,gc,DY,M.all,e2,ln,ae,af];refine bq (Q:=fun o:aS => ∃ w ms h',o=some (.tuple #[w,.int .i64 0],h')/\aA h h'/\yu h' h.next w ms ((fc R x).map (gF x.to x.frm))) (rep_loop (C:=CV) A (by rw [o2.n0];exact h1.n0_le_next) hd (aA.get o2 g1) (mb:=h.next) (by omega) hlen rfl rfl rfl rfl) ?_;rintro ex z g ⟨rfl,z6,K,A'⟩;simp -implicitDefEqProofs only [aV,b50_10f,vO];unfold tS;simp -implicitDefEqProofs only [z6,ae];rw [X.to,X.frm] at A';refine ⟨w,ms.map (iN x.to x.frm),g,rfl,O2.also K (fun d hd q=>by have:=q.2;omega),?_⟩;have hle:h.next<=h1.next:=o1.next;refine ⟨?_,A'.len,A'.is,fun i hi hi'=>(A'.own i hi hi').weak hle⟩;rcases A'.sl with q|⟨b,s,q1,q2,q3,q4⟩
  ·exact .inl q
  ·exact .inr ⟨b,s,q1,q2,D5 hle q3,q4⟩
 obtain ⟨q,e,w',ms',h',e',oo⟩:=key;exact ⟨w',ms',h',iv is50 hG (by decide) (by decide) ((xR _ _ _ _).trans (e.trans e')),oo⟩
theorem is151:bP prog 91 f91:=by constructor<;>kernel_rfl
theorem is133:bP prog 67 f67:=by constructor<;>kernel_rfl
theorem is132:bP prog 66 f66:=by constructor<;>kernel_rfl
theorem is130:bP prog 64 f64:=by constructor<;>kernel_rfl
theorem is150:bP prog 90 f90:=by constructor<;>kernel_rfl
theorem is160:bP prog 112 f112:=by constructor<;>kernel_rfl
theorem is102:bP prog 30 f30:=by constructor<;>kernel_rfl
theorem is101:bP prog 29 f29:=by constructor<;>kernel_rfl
theorem results151:f91.results.toList = [.tmp 4]:=by kernel_rfl
theorem results130:f64.results.toList = [.tmp 4]:=by kernel_rfl
theorem b151_3e (C:aj) (e:aW) (h:ad):b151_3 C 0 e h=k151_1 C e h:=rfl
theorem b130_3e (C:aj) (e:aW) (h:ad):b130_3 C 0 e h=k130_1 C e h:=rfl
def Dc (L:List ao) (p:ao->Bool) (k:Int):Prop:=(L.any p=false/\k = -1) \/ ∃ i:Nat,k=i /\ ∃ h:i<L.length,p L[i]=true/\(L.take i).any p=false
set_option maxRecDepth 100000 in
theorem r113i {h:ad} (hG:4<=h.n0) {v fv:Value} {L:List ao} (hv:jK h v L) (hl:L.length<=1000000) (p:ao->Bool) (hp : ∀ r∈L,r.Wf -> ∀ g,aA h g -> ∃ g',callA prog CW fv [.agg (bL r).toArray] g=some (.bool (p r),g')/\aA g g') :
  ∃ (k:Int) (h':ad),CW 62 [v,fv] h=some (.int .i64 k,h')/\aA h h'/\Dc L p k:=by
 have hll:=hv.len;have key : ∃ o:aS,t113 CW v fv h=o /\ ∃ (k:Int) (h':ad),o=some (.int .i64 k,h')/\aA h h'/\Dc L p k:=by
  refine ⟨_,rfl,?_⟩;unfold t113;simp -implicitDefEqProofs only [hll,ae,af];refine bq (n:=19) (fin:=fun ex y g=>aA h g/\((ex = .exit 0/\L.any p=false)\/(ex = .ret /\ ∃ i:Nat,y 4=ak i/\Dc L p i))) (Q:=fun o:aS => ∃ (k:Int) (h':ad),o=some (.int .i64 k,h')/\aA h h'/\Dc L p k)
   (bk (mM CW) (Inv:=fun k y g => ∃ i,i+k=L.length/\y 0=v/\y 1=fv/\y 7=ak L.length/\y 8=ak i/\aA h g/\(L.take i).any p=false) ?_ L.length (by have:aB=18446744073709551616:=rfl;omega) ⟨0,by omega,rfl,rfl,rfl,rfl,az.refl _ _,by simp⟩) ?_
  ·rintro k y g ⟨i,hik,y0,y1,y7,y8,O,ha⟩;unfold ji;simp -implicitDefEqProofs only [y7,y8,eK,ae,af];by_cases hi:i<L.length
   ·obtain ⟨b,o,ix,wr,lp⟩:=hv.rd hi;have L1:=lp g O;obtain ⟨g',e',o'⟩:=hp _ (EA hi) wr g O;have hany:=yE hi p;rw [ha,EI] at hany;cases hpr:p L[i] with
    |true=>
     rw [hpr] at e';simp -implicitDefEqProofs only [DA hi,y0,y1,ix,L1,e',ae,af];exact cR.ret ⟨O.trans o',.inr ⟨rfl,i,rfl,.inr ⟨i,rfl,hi,hpr,ha⟩⟩⟩
    |false=>
     rw [hpr] at e' hany;have a8:aC prog .add 3 (ak i) (.int .i64 1)=some (ak (i+1)):=dh (by omega);simp -implicitDefEqProofs only [DA hi, y0, y1, ix, L1, e', a8, ae, af];exact cR.next (k-1) (by omega) ⟨i+1,by omega,y0,y1,y7,rfl,O.trans o',hany⟩
   ·have hiE:i=L.length:=by omega
    rw [hiE,E9] at ha;simp -implicitDefEqProofs only [DB hi];exact cR.out 0 ⟨O,.inl ⟨rfl,ha⟩⟩
  ·rintro ex z g ⟨O,⟨rfl,ha⟩|⟨rfl,i,z4,hf⟩⟩
   ·simp -implicitDefEqProofs only [aV,b113_3,DY,qX];unfold oh;exact ⟨-1,g,rfl,O,.inl ⟨ha,rfl⟩⟩
   ·rw [fq,cE,gu results113 (by decide),z4];exact ⟨i,g,rfl,O,hf⟩
 obtain ⟨o9,e,k,h',e',q⟩:=key;exact ⟨k,h',aD is113 hG rfl ((t113_eq _ _ _ _).trans (e.trans e')),q⟩
set_option maxRecDepth 100000 in
theorem r151 {h:ad} (hG:4<=h.n0) {v:Value} {L:List ao} (hv:jK h v L) (hl:L.length<=1000000) {r:ao} (w:r.Wf) :
  ∃ (k:Int) (h':ad),CW 91 [v,cY r] h=some (.int .i64 k,h')/\aA h h'/\decide (0<=k)=decide (r∈L):=by
 have hll:=hv.len;obtain ⟨h1,b1,o1,g1,n1⟩:=cJ h w;have key : ∃ o:aS,t151 CW v (cY r) h=o /\ ∃ (k:Int) (h':ad),o=some (.int .i64 k,h')/\aA h h'/\decide (0<=k)=decide (r∈L):=by
  refine ⟨_,rfl,?_⟩;unfold t151;simp -implicitDefEqProofs only [b1,hll,ae,af];refine bq (n:=19) (fin:=fun ex y g=>g=h1/\((ex = .exit 0 /\ ¬r∈L)\/(ex = .ret/\r∈L /\ ∃ i:Nat,y 4=ak i))) (Q:=fun o:aS => ∃ (k:Int) (h':ad),o=some (.int .i64 k,h')/\aA h h'/\decide (0<=k)=decide (r∈L))
   (bk (uS CW) (Inv:=fun k y g => ∃ i,i+k=L.length/\y 0=v/\y 3=ptr h.next 0/\y 7=ak L.length/\y 8=ak i/\g=h1 /\ ¬r∈L.take i) ?_ L.length (by have:aB=18446744073709551616:=rfl;omega) ⟨0,by omega,rfl,rfl,rfl,rfl,rfl,by simp⟩) ?_
  ·rintro k y g ⟨i,hik,y0,y3,y7,y8,rfl,ha⟩;unfold mh;simp -implicitDefEqProofs only [y7,y8,eK,ae,af];by_cases hi:i<L.length
   ·obtain ⟨b,o,ix,wr,lp⟩:=hv.rd hi;have L1:=lp g o1;have L2:=bc g1 (aM w).1 (aM w).2.1;by_cases he:r=L[i]
    ·simp -implicitDefEqProofs only [DA hi,y0,y3,L2,ix,L1,pQ w wr,DA he,ae,af];exact cR.ret ⟨rfl,.inr ⟨rfl,he▸EA hi,i,rfl⟩⟩
    ·have a8:aC prog .add 3 (ak i) (.int .i64 1)=some (ak (i+1)):=dh (by omega);simp -implicitDefEqProofs only [DA hi, y0, y3, L2, ix, L1, pQ w wr, DB he, a8, ae, af];refine cR.next (k-1) (by omega) ⟨i+1,by omega,y0,y3,y7,rfl,rfl,fun q => ?_⟩;rw [ES hi,D9,EH] at q;rcases q with q|q
     ·exact ha q
     ·exact he q
   ·have hiE:i=L.length:=by omega
    rw [hiE,E9] at ha;simp -implicitDefEqProofs only [DB hi];exact cR.out 0 ⟨rfl,.inl ⟨rfl,ha⟩⟩
  ·rintro ex z g ⟨rfl,⟨rfl,ha⟩|⟨rfl,ha,i,z4⟩⟩
   ·simp -implicitDefEqProofs only [aV,b151_3e,AV];unfold rC;exact ⟨-1,g,rfl,o1,by rw [DB ha];rfl⟩
   ·rw [fq,cE,gu results151 (by decide),z4];exact ⟨i,g,rfl,o1,by rw [DA ha,DA (by omega)]⟩
 obtain ⟨o9,e,k,h',e',q⟩:=key;exact ⟨k,h',aD is151 hG rfl ((t151_eq _ _ _ _).trans (e.trans e')),q⟩
theorem r133 {h:ad} (hG:4<=h.n0) {v:Value} {L:List ao} (hv:jK h v L) (hl:L.length<=1000000) {r:ao} (w:r.Wf) :
  ∃ h',CW 67 [v,cY r] h=some (.bool (decide (r∈L)),h')/\aA h h':=by
 obtain ⟨h1,b1,o1,g1,n1⟩:=cJ h w;have L2:=bc g1 (aM w).1 (aM w).2.1;obtain ⟨k,h2,e2,o2,q⟩:=r151 (h:=h1) (by rw [o1.n0];exact hG) (hv.mono o1) hl w;refine ⟨h2,aD is133 hG rfl ((t133_eq _ _ _ _).trans ?_),o1.trans o2⟩;unfold t133;simp -implicitDefEqProofs only [b1,L2,e2,ge0,q,ae,af]
theorem r132 {h:ad} (hG:4<=h.n0) {b:Nat} {m:bM} (_:MLd h b m) (g0:h.get b=some (mC m)) (hd:MG m) {L:List ao} (hv:jK h m.nt L) (hl:L.length<=1000000) {r:ao} (w:r.Wf) :
  ∃ h',CW 66 [cY r,ptr b 0] h=some (.bool (decide (r∈L)),h')/\aA h h':=by
 obtain ⟨h1,b1,o1,g1,n1⟩:=cJ h w;have L2:=bc g1 (aM w).1 (aM w).2.1;have M1:=gU hd (aA.get o1 g0);obtain ⟨h2,e2,o2⟩:=r133 (h:=h1) (by rw [o1.n0];exact hG) (hv.mono o1) hl w;refine ⟨h2,aD is132 hG rfl ((t132_eq _ _ _ _).trans ?_),o1.trans o2⟩;unfold t132;simp -implicitDefEqProofs only [b1,ay,DG,M1.l42,L2,e2,ae,af]
theorem r160 {h:ad} (hG:4<=h.n0) (a:Int):CW 112 [.int .u8 a] h=some (.bool false,h):=by refine aD is160 hG rfl ((t160_eq _ _ _).trans ?_);unfold t160;simp -implicitDefEqProofs only [aZ,HJ,ae,af]
theorem r150 {h:ad} (hG:4<=h.n0) (a b:Int):CW 90 [.int .u8 a,.int .u8 b] h=some (.int .i64 (fH a b),h):=by
 refine aD is150 hG rfl ((t150_eq _ _ _ _).trans ?_);unfold t150 fH;simp -implicitDefEqProofs only [r160 hG,bG,bD,ae,af];by_cases h1:a<b
 ·simp -implicitDefEqProofs only [DA h1, DL h1]
 ·simp -implicitDefEqProofs only [DB h1, DM h1];by_cases h2:b<a
  ·have h2':a>b:=h2;simp -implicitDefEqProofs only [DA h2', DL h2]
  ·have h2' : ¬a>b:=h2;simp -implicitDefEqProofs only [DB h2', DM h2]
theorem cmpI_u8 {x y:Nat} (hx:x<256) (hy:y<256) (a b:List Nat):compareBytes ((x::a).map UInt8.ofNat) ((y::b).map UInt8.ofNat)=if fH x y=0 then compareBytes (a.map UInt8.ofNat) (b.map UInt8.ofNat) else fH x y:=by
 rw [FL,FL,lE];have ex:(UInt8.ofNat x).toNat=x:=by simp;omega
 have ey:(UInt8.ofNat y).toNat=y:=by simp;omega
 rw [ex,ey];unfold fH;by_cases h1:x<y
 ·rw [DL h1,DL (by omega:(x:Int)<y),DM (by decide)]
 ·by_cases h2:y<x
  ·rw [DM h1,DL h2,DM (by omega : ¬(x:Int)<y),DL (by omega:(y:Int)<x),DM (by decide)]
  ·rw [DM h1,DM h2,DM (by omega : ¬(x:Int)<y),DM (by omega : ¬(y:Int)<x),DL rfl]
theorem nq3i (n:Int):aC prog .neq 3 (.int .i64 n) (.int .i64 0)=some (.bool (!(decide (n=0)))):=by
 rw [aZ]
 congr 2
set_option maxRecDepth 100000 in
theorem r130 {h:ad} (hG:4<=h.n0) {a b:Option Addr} {n c m d:Nat} {x y:List Nat} (hx:av a n h=some x) (hy:av b m h=some y) (hn:n<=1000000) (hm:m<=1000000) :
  CW 64 [.slice a n c,.slice b m d] h=some (.int .i64 (compareBytes (x.map UInt8.ofNat) (y.map UInt8.ofNat)),h):=by
 obtain ⟨x1,x2,x3⟩:=aK hx;obtain ⟨y1,y2,y3⟩:=aK hy;have lx:lenL (.slice a n c)=some (ak n):=rfl;have ly:lenL (.slice b m d)=some (ak m):=rfl;have rdx : ∀ i (hi:i<x.length),∃ bl o,idxS 1 (.slice a n c) (ak i)=some (ptr bl o)/\ld1 (ptr bl o) h=some (.int .u8 (x[i]:Int),h):=fun i hi=>by
  obtain ⟨bl,off,s,k,rfl,hk,hl,ht⟩:=x3 (by omega);refine ⟨bl,off+i,?_,aU hk ((ht i (by omega)).trans ?_) rfl⟩
  ·unfold idxS ak;simp only;rw [DL (by omega),Int.toNat_natCast,FT]
  ·rw [DK,DC hi];rfl
 have rdy : ∀ i (hi:i<y.length),∃ bl o,idxS 1 (.slice b m d) (ak i)=some (ptr bl o)/\ld1 (ptr bl o) h=some (.int .u8 (y[i]:Int),h):=fun i hi=>by
  obtain ⟨bl,off,s,k,rfl,hk,hl,ht⟩:=y3 (by omega);refine ⟨bl,off+i,?_,aU hk ((ht i (by omega)).trans ?_) rfl⟩
  ·unfold idxS ak;simp only;rw [DL (by omega),Int.toNat_natCast,FT]
  ·rw [DK,DC hi];rfl
 refine aD is130 hG rfl ((t130_eq _ _ _ _).trans ?_);unfold t130;simp -implicitDefEqProofs only [lx,ae,af];refine bq (n:=36) (fin:=fun ex z g=>g=h/\((ex = .exit 0/\z 0 = .slice a n c/\z 1 = .slice b m d/\n<=m/\compareBytes (x.map UInt8.ofNat) (y.map UInt8.ofNat)=if n<m then -1 else 0)\/(ex = .ret/\z 4 = .int .i64 (compareBytes (x.map UInt8.ofNat) (y.map UInt8.ofNat)))))
  (Q:=fun o:aS=>o=some (.int .i64 (compareBytes (x.map UInt8.ofNat) (y.map UInt8.ofNat)),h))
  (bk (uM CW) (Inv:=fun k z g => ∃ i,i+k=n/\i<=m/\z 0 = .slice a n c/\z 1 = .slice b m d/\z 9 = .slice a n c/\z 10=ak n/\z 11=ak i/\g=h/\compareBytes (x.map UInt8.ofNat) (y.map UInt8.ofNat)=compareBytes ((x.drop i).map UInt8.ofNat) ((y.drop i).map UInt8.ofNat)) ?_ n (by have:aB=18446744073709551616:=rfl;omega) ⟨0,by omega,FN _,rfl,rfl,rfl,rfl,rfl,rfl,by rw [EJ,EJ]⟩) ?_
 ·rintro k z g ⟨i,hik,him,z0,z1,z9,z10,z11,rfl,he⟩;unfold mD;simp -implicitDefEqProofs only [z10,z11,eK,ae,af];by_cases hi:i<n
  ·obtain ⟨bl,o,e1,e2⟩:=rdx i (by omega);have gq:aC prog .geq 3 (ak i) (ak m)=some (.bool (decide (m<=i))):=by
    unfold ak;rw [bH]
    congr 2
    rw [HQ];omega
   have hxd:x.drop i=x[i]::x.drop (i+1):=EX (by omega);by_cases hj:m<=i
   ·simp -implicitDefEqProofs only [DA hi,z9,e1,e2,z1,ly,gq,DA hj,ae,af];refine cR.ret ⟨rfl,.inr ⟨rfl,?_⟩⟩;have hyd:y.drop i = []:=FR (by omega);rw [he,hxd,hyd];rfl
   ·obtain ⟨bl2,o2,e3,e4⟩:=rdy i (by omega);have hyd:y.drop i=y[i]::y.drop (i+1):=EX (by omega);have ec:=cmpI_u8 (x2 _ (EA (by omega:i<x.length))) (y2 _ (EA (by omega:i<y.length))) (x.drop (i+1)) (y.drop (i+1));rw [<-hxd,<-hyd,<-he] at ec;have a11:aC prog .add 3 (ak i) (.int .i64 1)=some (ak (i+1)):=dh (by omega);by_cases hz:fH x[i] y[i]=0
    ·rw [DL hz] at ec;simp -implicitDefEqProofs only [DA hi,z9,e1,e2,z1,ly,gq,DB hj,e3,e4,r150 hG,nq3i,DA hz,DP,a11,ae,af];exact cR.next (k-1) (by omega) ⟨i+1,by omega,by omega,z0,z1,z9,z10,rfl,rfl,ec⟩
    ·rw [DM hz] at ec;simp -implicitDefEqProofs only [DA hi,z9,e1,e2,z1,ly,gq,DB hj,e3,e4,r150 hG,nq3i,DB hz,DN,ae,af];exact cR.ret ⟨rfl,.inr ⟨rfl,by rw [ec];rfl⟩⟩
  ·have hE:i=n:=by omega
   simp -implicitDefEqProofs only [DB hi];refine cR.out 0 ⟨rfl,.inl ⟨rfl,z0,z1,by omega,?_⟩⟩;rw [he,hE,FR (by omega:x.length<=n)];by_cases hlt:n<m
   ·rw [DL hlt,EX (by omega:n<y.length)];rfl
   ·rw [DM hlt,FR (by omega:y.length<=n)];rfl
 ·rintro ex z g ⟨rfl,⟨rfl,z0,z1,hle,q⟩|⟨rfl,z4⟩⟩
  ·simp -implicitDefEqProofs only [aV,b130_3e,Ak];unfold sL;simp -implicitDefEqProofs only [z0,z1,lx,ly,eK,ae,af];rw [q];by_cases hlt:n<m
   ·simp -implicitDefEqProofs only [DA hlt, DL hlt]
   ·simp -implicitDefEqProofs only [DB hlt, DM hlt]
  ·rw [fq,cE,gu results130 (by decide),z4]
def ke (lo hi:List Nat) (r:ao):Bool := !(de r) || !(dA lo hi r)
set_option maxRecDepth 100000 in
theorem r102 {h:ad} (hG:4<=h.n0) {m:bM} {x:AM} (X:kH h m x) (hnl:m.nl<=20000) (hnh:m.nh<=20000) {r:ao} (w:r.Wf) :
  ∃ h',CW 30 [cY r,mV m] h=some (.bool (ke x.lo x.hi r),h')/\aA h h':=by
 have hd:MG m:=X.mg;have ok:=df hd;obtain ⟨h1,b1,o1,g1,n1⟩:=cJ h w;have b2:box (mV m) h1=some (ptr h1.next 0,h1.alloc (mC m)):=dG h1 _ ok.2.2;have o2:aA h1 (h1.alloc (mC m)):=az.alloc _ _ _;have g2:(h1.alloc (mC m)).get h1.next=some (mC m):=by rw [ad.aF,DL rfl]
 generalize h1.alloc (mC m)=h2 at *;have O2:=o1.trans o2;have L2:=bc (aA.get o2 g1) (aM w).1 (aM w).2.1;have G2:4<=h2.n0:=by rw [O2.n0];exact hG
 obtain ⟨k1,k2⟩:=r27 (h:=h2) G2 w;cases hv:de r with
 |false=>
  obtain ⟨h3,e3,o3⟩:=k2 hv;have x0:extractA (.tuple #[.slice none 0 0,.int .i64 2]) 0=some (.slice none 0 0):=rfl;have x1:extractA (.tuple #[.slice none 0 0,.int .i64 2]) 1=some (.int .i64 2):=rfl;have nq2:aC prog .neq 26 (.int .i64 2) (.int .i64 0)=some (.bool true):=by kernel_rfl
  refine ⟨h3,aD is102 hG rfl ((t102_eq _ _ _ _).trans ?_),O2.trans o3⟩;unfold t102 ke;simp -implicitDefEqProofs only [b1, b2, L2, e3, x0, x1, nq2, vU, bu', ax, DY, ae, af];rw [hv];rfl
 |true=>
  obtain ⟨a,c,h3,e3,s3,o3⟩:=k1 hv;have O3:=O2.trans o3;have G3:4<=h3.n0:=by rw [O3.n0];exact hG
  have M:=gU hd (aA.get o3 g2);have x0:extractA (.tuple #[.slice a 34 c,.int .i64 0]) 0=some (.slice a 34 c):=rfl;have x1:extractA (.tuple #[.slice a 34 c,.int .i64 0]) 1=some (.int .i64 0):=rfl;have nq0:aC prog .neq 26 (.int .i64 0) (.int .i64 0)=some (.bool false):=by kernel_rfl
  have c1:=r130 (c:=c) (d:=m.cl) G3 s3 (aA.bytes O3 X.lo) (by decide) (by omega);have c2:=r130 (c:=c) (d:=m.ch) G3 s3 (aA.bytes O3 X.hi) (by decide) (by omega);have c1:CW 64 [.slice a 34 c,m.lo] h3=some (.int .i64 (jF r x.lo),h3):=c1;have c2:CW 64 [.slice a 34 c,m.hi] h3=some (.int .i64 (jF r x.hi),h3):=c2;have lt0 : ∀ n:Int,aC prog .lss 3 (.int .i64 n) (.int .i64 0)=some (.bool (decide (n<0))):=fun n=>by rw [bG]
  have ln:lenL m.hi=some (ak m.nh):=rfl;have hlen:=(aK X.hi).1;have e0:aC prog .gtr 3 (ak m.nh) (.int .i64 0)=some (.bool (!(decide (x.hi = [])))):=by
   rw [jo m.nh 0 0 rfl]
   congr 2
   by_cases q:x.hi = []
   ·rw [DA q,DB (by rw [q,List.length_nil] at hlen;omega)];rfl
   ·rw [DB q,DA (by have:=HN.2 q;omega)];rfl
  refine ⟨h3,aD is102 hG rfl ((t102_eq _ _ _ _).trans ?_),O3⟩;unfold t102 ke dA;rw [hv];simp -implicitDefEqProofs only [b1,b2,L2,e3,x0,x1,nq0,bf,aw,ay,M.l7,c1,lt0,DD,D3,ae,af];by_cases q1:jF r x.lo<0
  ·simp -implicitDefEqProofs only [DA q1, vU, bu', ax, DY, ae];rw [DB (by omega : ¬0<=jF r x.lo)];rfl
  ·simp -implicitDefEqProofs only [DB q1, bf, aw, DD, D3, M.l8, ln, e0, ae, af];by_cases q2:x.hi = []
   ·simp -implicitDefEqProofs only [DA q2, DP, sP, ax, DD, D3, ae];rw [DA (by omega:0<=jF r x.lo)];rfl
   ·simp -implicitDefEqProofs only [DB q2, DN, bt, aw, DY, M.l8, c2, ge0, ae, af];rw [DA (by omega:0<=jF r x.lo),EE,EI]
    congr 3
    by_cases q3:jF r x.hi<0
    ·rw [DA q3,DB (by omega)];rfl
    ·rw [DB q3,DA (by omega)];rfl
theorem is131:bP prog 65 f65:=by constructor<;>kernel_rfl
theorem b131_7e (C:aj) (e:aW) (h:ad):b131_7 C 0 e h=k131_5 C e h:=rfl
theorem r101 {h:ad} (hG:4<=h.n0) {b:Nat} {m:bM} (g0:h.get b=some (mC m)) {x:AM} (X:kH h m x) (hnl:m.nl<=20000) (hnh:m.nh<=20000) {r:ao} (w:r.Wf) :
  ∃ h',CW 29 [cY r,ptr b 0] h=some (.bool (ke x.lo x.hi r),h')/\aA h h':=by
 have hd:MG m:=X.mg;obtain ⟨h1,b1,o1,g1,n1⟩:=cJ h w;have L2:=bc g1 (aM w).1 (aM w).2.1;have M1:=gU hd (aA.get o1 g0);obtain ⟨h2,e2,o2⟩:=r102 (h:=h1) (by rw [o1.n0];exact hG) (X.old o1) hnl hnh w;refine ⟨h2,aD is101 hG rfl ((t101_eq _ _ _ _).trans ?_),o1.trans o2⟩;unfold t101;simp -implicitDefEqProofs only [b1, L2, M1.all, e2, ae]
theorem yv {L:List ao} (hw : ∀ r∈L,ao.Wf r) (j:Nat):bj (L.take j)=(bj L).take (j*39):=by
 rcases Nat.le_total j L.length with hj|hj
 ·have lt:(L.take j).length=j:=by rw [DW];omega
  conv=>rhs;rw [<-List.take_append_drop j L,gx]
  rw [HC (by rw [cf fun p hp=>hw p (EZ hp),lt])]
 ·rw [D1 hj,D1 (by rw [cf hw];exact F0 _ hj)]
theorem xQ {L:List ao} (hw : ∀ r∈L,ao.Wf r) {j:Nat} (hj:j<=L.length):bj (L.drop j)=(bj L).drop (j*39):=by
 have lt:(L.take j).length=j:=by rw [DW];omega
 conv=>rhs;rw [<-List.take_append_drop j L,gx]
 rw [GF (by rw [cf fun p hp=>hw p (EZ hp),lt])]
structure Cc (k:List Value) (L:List ao) (p:ao->Bool) (i j:Nat):Prop where
 len:k.length=L.length*39
 ij:i<=j
 jl:j<=L.length
 il:i=((L.take j).filter fun r => !(p r)).length
 lo:k.take (i*39)=bj ((L.take j).filter fun r => !(p r))
 hi:k.drop (j*39)=bj (L.drop j)
theorem ld_drop {L:List ao} (hw : ∀ r∈L,ao.Wf r) {k:List Value} {j:Nat} (hj:j<L.length) (hk:k.drop (j*39)=bj (L.drop j)):(k.drop (j*39)).take 39=bL L[j]:=by rw [hk,EX hj];unfold bj;rw [E4,HC (aM (hw _ (EA hj))).1]
theorem Cc.skip {k:List Value} {L:List ao} {p:ao->Bool} {i j:Nat} (s:Cc k L p i j) (hw : ∀ r∈L,ao.Wf r) (hj:j<L.length) (hp:p L[j]=true):Cc k L p i (j+1):=by
 have e:(L.take (j+1)).filter (fun r => !(p r))=(L.take j).filter (fun r => !(p r)):=by rw [ES hj,GP,List.filter_cons_of_neg (by rw [hp];decide),List.filter_nil,EN]
 refine ⟨s.len,IQ s.ij,hj,by rw [e];exact s.il,by rw [e];exact s.lo,?_⟩;have h1:=FZ (List.drop 39) s.hi;rw [E8] at h1;rw [show (j+1)*39=j*39+39 by omega,h1,EX hj];unfold bj;rw [E4,GF (aM (hw _ (EA hj))).1]
theorem Cc.keep {k:List Value} {L:List ao} {p:ao->Bool} {i j:Nat} (s:Cc k L p i j) (hw : ∀ r∈L,ao.Wf r) (hij:i<j) (hj:j<L.length) (hp:p L[j]=false):Cc (splice k (i*39) (bL L[j])) L p (i+1) (j+1):=by
 have c:=aM (hw _ (EA hj));have hl:=s.len;have hm:i*39+39<=j*39:=by omega
 have hm2:j*39+39<=L.length*39:=by omega
 have e:(L.take (j+1)).filter (fun r => !(p r))=(L.take j).filter (fun r => !(p r)) ++ [L[j]]:=by rw [ES hj,GP,List.filter_cons_of_pos (by rw [hp];rfl),List.filter_nil]
 have lt:(k.take (i*39)).length=i*39:=by rw [DW];omega
 refine ⟨?_,by omega,hj,by rw [e,DH,<-s.il];rfl,?_,?_⟩
 ·unfold splice;rw [DH,DH,lt,c.1,D8];omega
 ·rw [e,gx,BC,<-s.lo];unfold splice;rw [FU (by rw [DH,lt,c.1];omega),D1 (by rw [DH,lt,c.1];omega)]
 ·unfold splice;rw [List.drop_append,List.drop_of_length_le (by rw [DH,lt,c.1];omega),List.nil_append,DH,lt,c.1,E8];rw [show i*39+39+((j+1)*39-(i*39+39))=j*39+39 by omega];have h1:=FZ (List.drop 39) s.hi;rw [E8] at h1;rw [h1,EX hj];unfold bj;rw [E4,GF c.1]
theorem stored_spl {h:ad} {b o n:Nat} {k k':iM} (g:h.get b=some k) (hn:h.n0<=b) (hl:o+n<=k.length) (hl':k'.length=n) (ho:aJ k'=true) : ∃ h2,eo n (ptr b o) (.agg k'.toArray) h=some (undef,h2)/\az h h2 (· = b)/\h2.get b=some (splice k o k'):=by have hc:(Value.agg k'.toArray).cells=k'.toArray:=rfl;refine ⟨h.set b (splice k o k'),?_,az.set hn g (.inr rfl),ad.dF hn g _⟩;unfold eo ptr;simp only [hc,FI,hl',DY];unfold stL;simp only [g];have h1:decide (h.n0<=b)=true:=DA hn;have h2:decide (o+k'.length<=k.length)=true:=DA (by omega);rw [h1,h2,ho];rfl
theorem zeros_len (n:Nat):(cU zrC n).length=n*39:=by
 unfold cU;induction n with
 |zero=>rfl
 |succ n ih=>
  rw [H8,HL,DH,ih,E4,HO,EN];have:zrC.length=39:=rfl;omega
theorem zeros_one (n:Nat):aJ (cU zrC n)=true:=by
 unfold cU;induction n with
 |zero=>rfl
 |succ n ih=>
  unfold aJ at *;rw [H8,HL,E6,ih,E4,HO,EN];decide
theorem clr_recs {h:ad} {b i n:Nat} {k:iM} (g:h.get b=some k) (hn:h.n0<=b) (hi:i<n) (hl:k.length=n*39) :
  ∃ h2,clrR (.agg zrC.toArray) 39 (.slice (some ⟨b,0+i*39,some 39⟩) (n-i) (n-i)) h=some (undef,h2)/\az h h2 (· = b) /\ ∃ k2,h2.get b=some k2/\k2.length=k.length/\k2.take (i*39)=k.take (i*39):=by
 have zl:=zeros_len (n-i);have hm:(n-i)*39=n*39-i*39:=Nat.sub_mul ..;refine ⟨h.set b (splice k (0+i*39) (cU zrC (n-i))),?_,az.set hn g (.inr rfl),_,ad.dF hn g _,?_,?_⟩
 ·unfold clrR;simp only;rw [DM (by omega)];have e1:(bJ (Value.agg zrC.toArray).cells.toList&&decide ((Value.agg zrC.toArray).cells.size=39)&&decide (0<39))=true:=by decide
  rw [DL e1];show (stL b (0+i*39) (cU zrC (n-i)) h).map _=_;unfold stL;simp only [g];have h1:decide (h.n0<=b)=true:=DA hn;have h2:decide (0+i*39+(cU zrC (n-i)).length<=k.length)=true:=DA (by omega);rw [h1,h2,zeros_one];rfl
 ·unfold splice;rw [DH,DH,DW,D8];omega
 ·unfold splice;rw [DG,FU (by rw [DH,DW];omega),FU (by rw [DW];omega),HI,Nat.min_self]
set_option maxRecDepth 100000 in
set_option maxHeartbeats 1000000 in
theorem r131 {h:ad} (hG:4<=h.n0) {N:Nat} (hN:h.n0<=N) (_:N<=h.next) {v fv:Value} {L:List ao} (G:eZ 39 h N v L.length (bj L)) (hw : ∀ r∈L,ao.Wf r) (hl:L.length<=1000000) (p:ao->Bool)
  (hp : ∀ r∈L,r.Wf -> ∀ g,az h g (fun c=>N<=c) -> ∃ g',callA prog CW fv [.agg (bL r).toArray] g=some (.bool (p r),g')/\aA g g') :
  ∃ w h',CW 65 [v,fv] h=some (w,h')/\az h h' (fun c=>N<=c)/\eD h' w (L.filter fun r => !(p r))/\dv w /\ ∀ b,gK w=some b->N<=b:=by
 obtain ⟨k0,h1,e1,o1,F⟩:=r113i hG (G.rc hw).rsl hl p (fun r hr w g og=>hp r hr w g (og.mono fun _ _ h=>h.elim));have K1:az h h1 (fun c=>N<=c):=o1.mono fun _ _ h=>h.elim;have em1 : ∀ n:Int,aC prog .eql 3 (.int .i64 n) (.int .i64 (-1))=some (.bool (decide (n = -1))):=fun n=>eqI n (-1);rcases F with ⟨ha,rfl⟩|⟨i0,rfl,hi0,hpi,hta⟩
 ·have hf:(L.filter fun r => !(p r))=L:=by rw [List.filter_eq_self];intro r hr;rw [F7] at ha;simpa using ha r hr
  refine ⟨v,h1,aD is131 hG rfl ((t131_eq _ _ _ _).trans ?_),K1,by rw [hf];exact (G.old o1).rc hw,G.nok,fun b hb=>(G.blk hb).1⟩;unfold t131;have e1:CW 62 [v,fv] h=some (.int .i64 (-1),h1):=e1;simp -implicitDefEqProofs only [e1,em1 (-1),ae,af];rfl
 ·obtain ⟨b,gb,hb,ev⟩ : ∃ b,h.get b=some (bj L)/\N<=b/\v = .slice (some ⟨b,0,some 39⟩) L.length L.length:=by
   rcases G.form with ⟨q,_⟩|⟨b,s,q,g,hb,q2⟩
   ·omega
   ·rcases q2 with ⟨q3,_⟩|⟨_,rfl⟩
    ·omega
    ·exact ⟨b,g,hb,q⟩
  have lr:=cf hw;have D0:Cc (bj L) L p i0 (i0+1):=by
   have e:(L.take (i0+1)).filter (fun r => !(p r))=L.take i0:=by rw [ES hi0,GP,List.filter_cons_of_neg (by rw [hpi];decide),List.filter_nil,EN,List.filter_eq_self];intro r hr;rw [F7] at hta;simpa using hta r hr
   refine ⟨lr,HG _,hi0,by rw [e,DW];omega,by rw [e,yv hw],(xQ hw hi0).symm⟩
  have nb : ∀ g,az h g (fun c=>N<=c)->g.n0<=b:=fun g K=>by rw [K.n0];omega
  have key : ∃ o:aS,t131 CW v fv h=o /\ ∃ w h',o=some (w,h')/\az h h' (fun c=>N<=c)/\eD h' w (L.filter fun r => !(p r))/\dv w /\ ∀ b,gK w=some b->N<=b:=by
   refine ⟨_,rfl,?_⟩;unfold t131;have e1:CW 62 [v,fv] h=some (ak i0,h1):=e1;have em:aC prog .eql 3 (ak i0) (.int .i64 (-1))=some (.bool false):=by unfold ak;rw [em1,DB (by omega)]
   have a0:aC prog .add 3 (ak i0) (.int .i64 1)=some (ak (i0+1)):=dh (by omega);simp -implicitDefEqProofs only [e1,em,a0,ae,af];refine bq (n:=42) (fin:=fun ex y g=>ex = .exit 0/\az h g (fun c=>N<=c)/\y 0=v /\ ∃ i k,y 5=ak i/\g.get b=some k/\Cc k L p i L.length/\i<L.length) (Q:=fun o:aS => ∃ w h',o=some (w,h')/\az h h' (fun c=>N<=c)/\eD h' w (L.filter fun r => !(p r))/\dv w /\ ∀ b,gK w=some b->N<=b)
    (bk (rV CW) (Inv:=fun kk y g => ∃ i j k,j+kk=L.length/\y 0=v/\y 1=fv/\y 5=ak i/\y 6=ak j/\az h g (fun c=>N<=c)/\g.get b=some k/\Cc k L p i j/\i<j) ?_ (L.length-(i0+1)) (by have:aB=18446744073709551616:=rfl;omega) ⟨i0,i0+1,bj L,by omega,rfl,rfl,rfl,rfl,K1,aA.get o1 gb,D0,Nat.lt_succ_self _⟩) ?_
   ·rintro kk y g ⟨i,j,k,hjk,y0,y1,y5,y6,K,gk,D,hij⟩;have y0':=y0.trans ev;unfold jG;have ln:lenL (.slice (some ⟨b,0,some 39⟩) L.length L.length)=some (ak L.length):=rfl;have y5':y 5=ak i:=y5;simp -implicitDefEqProofs only [y0',y6,ln,eK,ae,af];by_cases hj:j<L.length
    ·have hm:=BX (z:=39) hj;have ix : ∀ t,t<L.length->idxS 39 (.slice (some ⟨b,0,some 39⟩) L.length L.length) (ak t)=some (ptr b (t*39)):=fun t ht=>by unfold idxS ak;simp only;rw [DL (by omega),Int.toNat_natCast,DG]
     have wr:=hw _ (EA hj);have L1:cx 39 (ptr b (j*39)) g=some (cY L[j],g):=by have e:=ld_drop hw hj D.hi;have:=nT (o:=j*39) (n:=39) gk (by rw [D.len];exact hm) (by rw [e];exact (aM wr).2.1);rw [e] at this;exact this
     obtain ⟨g1,g2,z1,s1,o2,q2⟩:=qj g wr;have K2:az h g2 (fun c=>N<=c):=K.trans (o2.mono fun _ _ h=>h.elim);have L2:=bc q2 (aM wr).1 (aM wr).2.1;obtain ⟨g3,e3,o3⟩:=hp _ (EA hj) wr g2 K2;have K3:az h g3 (fun c=>N<=c):=K2.trans (o3.mono fun _ _ h=>h.elim);have L3:=bc (aA.get o3 q2) (aM wr).1 (aM wr).2.1;have a6:aC prog .add 3 (ak j) (.int .i64 1)=some (ak (j+1)):=dh (by omega);have gk3:=aA.get (o2.trans o3) gk;cases hpj:p L[j] with
     |true=>
      rw [hpj] at e3;simp -implicitDefEqProofs only [DA hj, y1, ix j hj, L1, z1, s1, L2, e3, aT, DP, a6, ae, af];exact cR.next (kk-1) (by omega) ⟨i,j+1,k,by omega,y0,y1,y5,rfl,K3,gk3,D.skip hw hj hpj,by omega⟩
     |false=>
      rw [hpj] at e3;obtain ⟨g4,e4,k4,q4⟩:=stored_spl (o:=i*39) (n:=39) gk3 (nb g3 K3) (by rw [D.len];omega) (aM wr).1 (aM wr).2.2;have a5:aC prog .add 3 (ak i) (.int .i64 1)=some (ak (i+1)):=dh (by omega);have K4:az h g4 (fun c=>N<=c):=K3.also k4 (fun d _ q=>by have q:d=b:=q;omega)
      simp -implicitDefEqProofs only [DA hj, y1, y5', ix j hj, ix i (by omega), L1, z1, s1, L2, e3, aT, DN, L3, e4, a5, a6, ae, af];exact cR.next (kk-1) (by omega) ⟨i+1,j+1,_,by omega,y0,y1,rfl,rfl,K4,q4,D.keep hw hij hj hpj,by omega⟩
    ·have hE:j=L.length:=by omega
     subst hE;simp -implicitDefEqProofs only [DB hj];exact cR.out 0 ⟨rfl,K,y0,i,k,y5,gk,D,hij⟩
   ·rintro ex z g ⟨rfl,K,z0,i,k,z5,gk,D,hij⟩;have z0':=z0.trans ev;simp -implicitDefEqProofs only [aV,b131_7e,Az];unfold sg;have hb1:iw 39 (.slice (some ⟨b,0,some 39⟩) L.length L.length) (some (ak i)) none none=some (.slice (some ⟨b,0+i*39,some 39⟩) (L.length-i) (L.length-i)):=by unfold iw sliceSl;simp only [bnd_lo (FC hij) (DF L.length)];rw [DL ⟨True.intro,by decide⟩]
    have hb2:iw 39 (.slice (some ⟨b,0,some 39⟩) L.length L.length) none (some (ak i)) none=some (.slice (some ⟨b,0+0*39,some 39⟩) (i-0) (L.length-0)):=by unfold iw sliceSl;simp only [bnd_hi (FC hij) (DF L.length)];rw [DL ⟨True.intro,by decide⟩]
    obtain ⟨g2,e2,k2,kc,q2,l2,t2⟩:=clr_recs gk (nb g K) hij D.len;have e2:clrR (.agg gI) 39 (.slice (some ⟨b,0+i*39,some 39⟩) (L.length-i) (L.length-i)) g=some (undef,g2):=e2;simp -implicitDefEqProofs only [z0',z5,hb1,e2,hb2,ae,af];have hi:=D.il;rw [E9] at hi;have hlo:=D.lo;rw [E9] at hlo;have hwf : ∀ r∈L.filter (fun r => !(p r)),ao.Wf r:=fun r hr=>hw r (EW.1 hr).1;have hm:i*39+39<=L.length*39:=by omega
    refine ⟨_,g2,rfl,K.also k2 (fun d _ q=>by have q:d=b:=q;omega),⟨hwf,some ⟨b,0+0*39,some 39⟩,L.length-0,by rw [<-hi];rfl,(fun h=>by cases h),dJ hwf,fun _=>⟨b,0+0*39,some 39,kc,rfl,q2,?_,?_⟩⟩,.inr ⟨_,_,_,rfl,by omega,fun t e=>by cases e;rfl⟩,fun c hc => ?_⟩
    ·rw [<-hi,show gX.length=39 from rfl,l2,D.len];omega
    ·rw [<-hi,show gX.length=39 from rfl,show 0+0*39=0 from rfl,EJ,t2,hlo]
    ·cases hc;exact hb
  obtain ⟨q,e,w,h',e',oo⟩:=key;exact ⟨w,h',aD is131 hG rfl ((t131_eq _ _ _ _).trans (e.trans e')),oo⟩
theorem is134:bP prog 68 f68:=by constructor<;>kernel_rfl
theorem is152:bP prog 92 f92:=by constructor<;>kernel_rfl
theorem results152:f92.results.toList = []:=by kernel_rfl
theorem body152:hasBody prog 92=true:=by kernel_rfl
theorem b152_1e (C:aj) (e:aW) (h:ad):b152_1 C 0 e h=resultsA prog f92.results.toList e h:=rfl
theorem eD.lim {h:ad} {v:Value} {R:List ao} (x:eD h v R) (n:dv v) {i k:Nat} (hk:0<k) (hj:i+k<=R.length) : ∃ v',iw 39 v (some (ak i)) (some (ak (i+k))) (some (ak (i+k)))=some v'/\eD h v' ((R.drop i).take k)/\dv v':=by
 obtain ⟨hd,a,d,rfl,hn,ht,h0⟩:=x;have hd' : ∀ p∈(R.drop i).take k,ao.Wf p:=fun p hp=>hd p (FV (EZ hp));obtain ⟨b,o,s,kk,rfl,hkk,hlen,hcs⟩:=h0 (by omega);rw [show gX.length=39 from rfl] at hlen hcs;rcases n with h1|⟨a',n',c',h1,hc,hs⟩
 ·cases h1
 ·injection h1 with e1 e2 e3
  cases e1;subst e2 e3;have hc:R.length<=d:=hc;have hl:((R.drop i).take k).length=k:=by rw [DW,D8];omega
  have hb:boundsA R.length d (some (ak i)) (some (ak (i+k))) (some (ak (i+k)))=some (i,i+k,i+k):=by
   have a1:boundA d d (some (ak (i+k)))=some (i+k):=by unfold boundA ak;simp only;rw [DL (by omega)];rfl
   have a2:boundA R.length (i+k) (some (ak (i+k)))=some (i+k):=by unfold boundA ak;simp only;rw [DL (by omega)];rfl
   have a3:boundA 0 (i+k) (some (ak i))=some i:=by unfold boundA ak;simp only;rw [DL (by omega)];rfl
   unfold boundsA;simp only [a1,a2,a3]
  refine ⟨.slice (some ⟨b,o+i*39,none⟩) (i+k-i) (i+k-i),?_,⟨hd',some ⟨b,o+i*39,none⟩,i+k-i,by rw [hl,FF],(fun h=>by cases h),dJ hd',fun hp=>⟨b,o+i*39,none,kk,rfl,hkk,?_,?_⟩⟩,.inr ⟨_,_,_,rfl,DF _,fun t e=>by cases e⟩⟩
  ·unfold iw sliceSl;cases s with
   |none=>
    simp only [hb];rw [DM (by omega)]
   |some t=>
    have:t=39:=hs t rfl;subst this;simp only [hb];rw [DL ⟨True.intro,by decide⟩,DM (by omega)]
  ·have h2:(i+k)*39<=R.length*39:=F0 _ hj;have h3:(i+k)*39=i*39+k*39:=GY ..;rw [hl,show gX.length=39 from rfl];omega
  ·have h2:(i+k)*39<=R.length*39:=F0 _ hj;have h3:(i+k)*39=i*39+k*39:=GY ..;have hdd : ∀ p∈R.drop i,ao.Wf p:=fun p hp=>hd p (FV hp);rw [hl,show gX.length=39 from rfl,yv hdd,xQ hd (by omega),<-hcs,HY,HI,E8];rw [HB (by omega)]
theorem eD.cI {h:ad} {v:Value} {R:List ao} (x:eD h v R) (n:dv v) {i:Nat} (hi:i<R.length) : ∃ v',iw 39 v (some (ak i)) none none=some v'/\lenL v'=some (ak (R.length-i)):=by
 obtain ⟨hd,a,d,rfl,hn,ht,h0⟩:=x;obtain ⟨b,o,s,kk,rfl,hkk,hlen,hcs⟩:=h0 (by omega);rcases n with h1|⟨a',n',c',h1,hc,hs⟩
 ·cases h1
 ·injection h1 with e1 e2 e3
  cases e1;subst e2 e3;have hc:R.length<=d:=hc;have hb:=bnd_lo (n:=R.length) (c:=d) (FC hi) hc;unfold iw sliceSl;cases s with
  |none=>
   simp only [hb];exact ⟨_,rfl,rfl⟩
  |some t=>
   have:t=39:=hs t rfl;subst this;simp only [hb];rw [DL ⟨True.intro,by decide⟩];exact ⟨_,rfl,rfl⟩
theorem min3 (a b:Nat):minmax false (ak a) [ak b]=some (ak (min a b)):=by
 unfold ak minmax;simp only [DY];unfold minmax;by_cases h:b<a
 ·simp only [DD,D3];rw [DL (by simpa using h)]
  congr 2
  omega
 ·simp only [DD,D3];rw [DM (by simpa using h)]
  congr 2
  omega
theorem r134 {h:ad} (hG:4<=h.n0) (a:Option Addr) (n c:Nat):CW 68 [.slice a n c,.int .i64 64] h=some (.func (.func 92) #[] #[ptr h.next 0,ptr (h.next+1) 0],(h.alloc [.slice a n c]).alloc [.int .i64 64]):=by
 have b1:=box_sl a n c h;have b2:box (.int .i64 64) (h.alloc [.slice a n c])=some (ptr (h.next+1) 0,(h.alloc [.slice a n c]).alloc [.int .i64 64]):=rfl;have g2:((h.alloc [.slice a n c]).alloc [.int .i64 64]).get (h.next+1)=some [.int .i64 64]:=by rw [ad.aF,DL (show h.next+1=(h.alloc [.slice a n c]).next from rfl)]
 generalize hh2:(h.alloc [.slice a n c]).alloc [.int .i64 64]=h2 at *;have l3:ld1 (ptr (h.next+1) 0) h2=some (.int .i64 64,h2):=aU g2 rfl rfl;have hb:f68.body=some (.seq (au f68 [0]) (.seq (.seq (au f68 [1,0,0]) (.cond (.tmp 6) (au f68 [1,0,1,0]) .skip)) (au f68 [1,1]))):=by kernel_rfl
 have hn:f68.ntmps=9:=by kernel_rfl
 have hr:f68.results.toList = [.tmp 4]:=by kernel_rfl
 have lt64:aC prog .lss 3 (.int .i64 64) (.int .i64 1)=some (.bool false):=by kernel_rfl
 have e0 : [Value.slice a n c,.int .i64 64]++List.replicate (9-2) undef=aL 9 (bs [.slice a n c,.int .i64 64]):=rfl;refine aD is134 hG rfl ?_;rw [bodyK_eq];unfold bodyA;rw [hb,hn];simp only [List.length_cons,List.length_nil];rw [e0];simp only [codeA,AS];unfold ry;have x0:bs [Value.slice a n c,.int .i64 64] 0 = .slice a n c:=rfl;have x1:bs [Value.slice a n c,.int .i64 64] 1 = .int .i64 64:=rfl;simp -implicitDefEqProofs only [x0, x1, b1, b2, ae, wT];unfold nR;have x3 : ∀ y,up (bs [Value.slice a n c,.int .i64 64]) [(2,ptr h.next 0),(3,ptr (h.next+1) 0),(4,y)] 3=ptr (h.next+1) 0:=fun _=>rfl;simp -implicitDefEqProofs only [x3, l3, lt64, ae, af];rw [ev_mkF (by decide:6<9)];have x6:up (up (bs [Value.slice a n c,.int .i64 64]) [(2,ptr h.next 0),(3,ptr (h.next+1) 0),(4,Value.nilFunc)]) [(5,Value.int .i64 64),(6,.bool false)] 6 = .bool false:=rfl;rw [x6];simp only [pY];unfold oR;simp -implicitDefEqProofs only [ae];rw [gu hr (by decide)];rfl
set_option maxRecDepth 100000 in
theorem r152 {C:aj} (hC : ∀ args (h:ad) r,4<=h.n0->ba prog C f92 args h=some r->C 92 args h=some r) {h:ad} (hG:4<=h.n0) {L c1 c2:Nat} {w:Value} {R:List ao} (hR:R.length<=1000000) (Inv:Nat->ad->Prop)
  (hread : ∀ j g,Inv j g->ld1 (ptr c1 0) g=some (w,g)/\ld1 (ptr c2 0) g=some (.int .i64 64,g)/\eD g w R/\dv w)
  (hstep : ∀ j g v',j<R.length->Inv j g->eD g v' ((R.drop j).take 64)->dv v' -> ∃ g',C (Bs prog L) [v'] g=some (.bool true,g')/\Inv (j+64) g') (h0:Inv 0 h) :
  ∃ h' j,C 92 [.func (.yield L) #[] #[],ptr c1 0,ptr c2 0] h=some (.tuple #[],h')/\R.length<=j/\Inv j h':=by
 have key : ∃ o:aS,t152 C (.func (.yield L) #[] #[]) (ptr c1 0) (ptr c2 0) h=o /\ ∃ h' j,o=some (.tuple #[],h')/\R.length<=j/\Inv j h':=by
  refine ⟨_,rfl,?_⟩;unfold t152;simp -implicitDefEqProofs only [ae];refine bq (n:=31) (fin:=fun ex y g=>ex = .exit 0 /\ ∃ j,R.length<=j/\Inv j g) (Q:=fun o:aS => ∃ h' j,o=some (.tuple #[],h')/\R.length<=j/\Inv j h')
   (bk (yS C) (Inv:=fun k y g => ∃ i,R.length<=i+k/\i<=R.length+64/\(k=0->R.length<=i)/\y 0 = .func (.yield L) #[] #[]/\y 1=ptr c1 0/\y 2=ptr c2 0/\y 4=ak i/\Inv i g) ?_ R.length (by have:aB=18446744073709551616:=rfl;omega) ⟨0,by omega,by omega,fun h=>by omega,rfl,rfl,rfl,rfl,h0⟩) ?_
  ·rintro k y g ⟨i,hik,hi64,hk0,y0,y1,y2,y4,hi⟩;obtain ⟨l1,l2,rc,nk⟩:=hread _ _ hi;have hll:=rc.rsl.len;unfold pG;simp -implicitDefEqProofs only [y1,y4,l1,hll,eK,ae,af];by_cases hlt:i<R.length
   ·obtain ⟨v1,s1,n1⟩:=rc.cI nk hlt;have hmin:0<min 64 (R.length-i):=by omega
    obtain ⟨v2,s2,r2,k2⟩:=rc.lim nk (i:=i) (k:=min 64 (R.length-i)) hmin (by omega);have er:(R.drop i).take (min 64 (R.length-i))=(R.drop i).take 64:=by rw [<-List.length_drop,Nat.min_comm,List.take_eq_take_iff];omega
    rw [er] at r2;obtain ⟨g',e',hi'⟩:=hstep i g v2 hlt hi r2 k2;have hca:callA prog C (.func (.yield L) #[] #[]) [v2] g=some (.bool true,g'):=e';obtain ⟨_,l2',_,_⟩:=hread _ _ hi';have m64:minmax false (.int .i64 64) [ak (R.length-i)]=some (ak (min 64 (R.length-i))):=min3 64 _;have a1:aC prog .add 3 (ak i) (ak (min 64 (R.length-i)))=some (ak (i+min 64 (R.length-i))):=add33 (by omega);have a2:aC prog .add 3 (ak i) (.int .i64 64)=some (ak (i+64)):=add33 (j:=64) (by omega);simp -implicitDefEqProofs only [DA hlt, y0, y2, l1, l2, s1, n1, m64, a1, s2, hca, aT, DP, l2', a2, ae, af];exact cR.next (k-1) (by omega) ⟨i+64,by omega,by omega,fun h=>by omega,y0,y1,y2,rfl,hi'⟩
   ·simp -implicitDefEqProofs only [DB hlt];exact cR.out 0 ⟨rfl,i,by omega,hi⟩
  ·rintro ex z g ⟨rfl,j,hj,hi⟩;simp -implicitDefEqProofs only [aV,b152_1e];refine ⟨g,j,?_,hj,hi⟩;rw [results152];rfl
 obtain ⟨o,e,h',j,e',hj,hi⟩:=key;exact ⟨h',j,hC _ _ _ hG ((t152_eq _ _ _ _ _).trans (e.trans e')),hj,hi⟩
theorem is103:bP prog 31 f31:=by constructor<;>kernel_rfl
theorem rng103:au f31 [1,1,1,1,1,0,1,0] = .rangeFunc (.tmp 24) #[25] (rgA (au f31 [1,1,1,1,1,0,1,0])) (rgB (au f31 [1,1,1,1,1,0,1,0])):=by kernel_rfl
theorem rng103a:codeOk prog (rgA (au f31 [1,1,1,1,1,0,1,0]))=true:=by kernel_rfl
theorem rng103b:codeOk prog (rgB (au f31 [1,1,1,1,1,0,1,0]))=true:=by kernel_rfl
theorem eZ.pushB {z oC:Nat} {h:ad} {N c:Nat} {v:Value} {n:Nat} {cs e:List Value} (x:eZ z h N v n cs) (hz:0<z) (hb:oC<=1000) (h0:h.n0<=N) (hN:N<=h.next) (hl:n<=1000000) (he:e.length=z) (ho:Abs.noHoles e=true) (h1:aJ e=true) (hc:h.get c=some e) :
  ∃ v' h',appendA z oC v (.slice (some ⟨c,0,none⟩) 1 1) h=some (v',h')/\eZ z h' N v' (n+1) (cs++e)/\az h h' (fun b=>gK v=some b)/\gK v'=some h.next/\h'.next=h.next+1:=by
 obtain ⟨v',h',e1,g1,k1⟩:=x.push hz hb h0 hN hl he ho h1 hc;refine ⟨v',h',e1,g1,k1,?_⟩;have hf:firstA z 1 (.slice (some ⟨c,0,none⟩) 1 1) h=some e:=by
  have e1:(e.drop 0).take (1*z)=e:=by rw [EJ,Nat.one_mul,D1 (by omega)]
  unfold firstA;simp only;rw [DM (by omega),hc];simp only;rw [e1,DL ⟨by omega,ho⟩]
 unfold appendA at e1;rcases x.form with ⟨rfl,rfl⟩|⟨b,s,rfl,g2,g3,g4⟩
 ·simp only [ie,hf] at e1;split at e1
  ·cases e1
  ·split at e1
   ·rename_i hh;omega
   ·split at e1
    ·cases e1;exact ⟨rfl,rfl⟩
    ·cases e1
 ·simp only [ie,hf] at e1;split at e1
  ·cases e1
  ·split at e1
   ·rename_i hh;omega
   ·split at e1
    ·cases e1
    ·split at e1
     ·cases e1
     ·split at e1
      ·cases e1;exact ⟨rfl,rfl⟩
      ·split at e1
       ·cases e1;exact ⟨rfl,rfl⟩
       ·cases e1
structure wU (g:ad) (N:Nat) (w:Value) (ms:List bM) (xs:List AM):Prop where
 sl:eZ 116 g N w ms.length (lD ms)
 len:ms.length=xs.length
 is : ∀ i (h:i<ms.length) (h':i<xs.length),kH g ms[i] xs[i]
 own : ∀ i (h:i<ms.length) (h':i<xs.length),se g N ms[i] xs[i].L.length (bj xs[i].L)
 bel : ∀ b,gK w=some b -> ∀ m∈ms,MBel b m
theorem kH.keep {g g':ad} {N n:Nat} {m:bM} {x:AM} {cs:List Value} {B:Nat->Prop} (h:kH g m x) (o:se g N m n cs) (k:az g g' B) (hB : ∀ b,N<=b->b<g.next->((∃ y,m.al=some y/\y.block=b)\/(∃ y,m.ah=some y/\y.block=b)\/gK m.nt=some b) -> ¬B b):kH g' m x/\se g' N m n cs:=by
 have rs':=o.rs.keep k (fun b hb=>hB b (o.rs.blk hb).1 (o.rs.blk hb).2 (.inr (.inr hb)));refine ⟨⟨h.kind,h.frm,h.to,h.cnt,h.root,h.want,h.d32,eF h.lo fun y hy=>k.get _ (o.lo y hy).2 (hB _ (o.lo y hy).1 (o.lo y hy).2 (.inl ⟨y,hy,rfl⟩)),eF h.hi fun y hy=>k.get _ (o.hi y hy).2 (hB _ (o.hi y hy).1 (o.hi y hy).2 (.inr (.inl ⟨y,hy,rfl⟩))),?_,h.mg⟩,
  ⟨fun y e=>⟨(o.lo y e).1,ED (o.lo y e).2 k.next⟩,fun y e=>⟨(o.hi y e).1,ED (o.hi y e).2 k.next⟩,rs',o.zr⟩⟩
 obtain ⟨hd,a,d,e,hn,ht,h0⟩:=h.rs;refine ⟨hd,a,d,e,hn,ht,fun hp => ?_⟩;obtain ⟨b,off,s,q,rfl,hk,hl,hcs⟩:=h0 hp;have hg:gK m.nt=some b:=by rw [e];rfl
 exact ⟨b,off,s,q,rfl,k.getE hk (hB b (o.rs.blk hg).1 (o.rs.blk hg).2 (.inr (.inr hg))),hl,hcs⟩
theorem wU.keep {g g':ad} {N:Nat} {w:Value} {ms:List bM} {xs:List AM} {B:Nat->Prop} (h:wU g N w ms xs) (k:az g g' B) (hB : ∀ b,N<=b->b<g.next -> ¬B b):wU g' N w ms xs:=
 ⟨h.sl.keep k fun b hb=>hB b (h.sl.blk hb).1 (h.sl.blk hb).2,h.len,fun i hi hi'=>((h.is i hi hi').keep (h.own i hi hi') k fun b h1 h2 _=>hB b h1 h2).1,fun i hi hi'=>((h.is i hi hi').keep (h.own i hi hi') k fun b h1 h2 _=>hB b h1 h2).2,h.bel⟩
theorem wU.push {g:ad} {N:Nat} {w:Value} {ms:List bM} {xs:List AM} (A:wU g N w ms xs) {m:bM} {x:AM} (hn:g.n0<=N) (hN:N<=g.next) (hl:ms.length<=100000) (X:kH g m x) {M:Nat} (hM:N<=M) (hwM : ∀ b,gK w=some b->b<M) (O:se g M m x.L.length (bj x.L)) :
  ∃ w' g',appendA 116 352 w (.slice (some ⟨g.next,0,none⟩) 1 1) (g.alloc (mC m))=some (w',g')/\wU g' N w' (ms ++ [m]) (xs ++ [x])/\az g g' (fun b=>gK w=some b)/\(∃ b s n,w' = .slice (some ⟨b,0,s⟩) n n):=by
 have hd:MG m:=X.mg;have ok:=df hd;have o1:aA g (g.alloc (mC m)):=az.alloc _ _ _;have g1:(g.alloc (mC m)).get g.next=some (mC m):=by rw [ad.aF,DL rfl]
 have n1:(g.alloc (mC m)).next=g.next+1:=rfl;generalize g.alloc (mC m)=h1 at *;obtain ⟨w',g',e,G,k,hb,hn'⟩:=(A.sl.old o1).pushB (oC:=352) (by decide) (by decide) (by rw [o1.n0];exact hn) (by omega) (by omega) ok.1 ok.2.1 ok.2.2 g1;have K:az g g' (fun b=>gK w=some b):=(o1.mono fun _ _ h=>h.elim).trans k;have notw : ∀ q∈ms,∀ b,((∃ y,q.al=some y/\y.block=b)\/(∃ y,q.ah=some y/\y.block=b)\/gK q.nt=some b) -> ¬gK w=some b:=fun q hq b hb' hw=>by
  have bl:=A.bel b hw q hq;rcases hb' with ⟨y,h1,h2⟩|⟨y,h1,h2⟩|h1
  ·have:=bl.1 y h1;omega
  ·have:=bl.2.1 y h1;omega
  ·have:=bl.2.2 b h1;omega
 have G':eZ 116 g' N w' (ms ++ [m]).length (lD (ms ++ [m])):=by rw [DH,jh,xx];exact G
 have wf : ∃ b s n,w' = .slice (some ⟨b,0,s⟩) n n:=by
  rcases G.wform with h|h
  ·rw [h] at hb;cases hb
  ·exact h
 have XO:=X.keep O K fun b h1 _ _ hb'=>by have:=hwM b hb';omega
 refine ⟨w',g',e,⟨G',by rw [DH,DH,A.len];rfl,fun i hi hi' => ?_,fun i hi hi' => ?_,fun b hb' q hq => ?_⟩,K,wf⟩
 ·skip
  by_cases hlt:i<ms.length
  ·have hlt':i<xs.length:=by rw [<-A.len];exact hlt
   rw [FP hlt,FP hlt'];exact ((A.is i hlt hlt').keep (A.own i hlt hlt') K fun b _ _ hb'=>notw _ (EA hlt) b hb').1
  ·have hi2:i<ms.length+1:=by rw [DH] at hi;exact hi
   obtain rfl:i=ms.length:=by omega
   have ex:(xs ++ [x])[ms.length]=x:=by rw [FW (by rw [A.len];exact DF _)];simp [A.len]
   rw [ex,FW (DF _)];simp only [H4,List.getElem_cons_zero];exact XO.1
 ·by_cases hlt:i<ms.length
  ·have hlt':i<xs.length:=by rw [<-A.len];exact hlt
   rw [FP hlt,FP hlt'];exact ((A.is i hlt hlt').keep (A.own i hlt hlt') K fun b _ _ hb'=>notw _ (EA hlt) b hb').2
  ·have hi2:i<ms.length+1:=by rw [DH] at hi;exact hi
   obtain rfl:i=ms.length:=by omega
   have ex:(xs ++ [x])[ms.length]=x:=by rw [FW (by rw [A.len];exact DF _)];simp [A.len]
   rw [ex,FW (DF _)];simp only [H4,List.getElem_cons_zero];exact XO.2.weak hM
 ·rw [hb] at hb';obtain rfl:=HM hb';rcases D9.1 hq with hq|hq
  ·obtain ⟨i,hi,rfl⟩:=E5.1 hq;have hi':i<xs.length:=by rw [<-A.len];exact hi
   exact (A.own i hi hi').bel.up (by omega)
  ·rw [EH.1 hq];exact O.bel.up (by omega)
theorem fs_135:Nat.ble 135 prog.funcs.size=true:=by kernel_rfl
theorem SV_lt : ∀ x∈SV,x<135:=by decide
theorem CV_yield {L:Nat} {args:List Value} {h:ad} {r:Value×ad} (hG:4<=h.n0) (e:roundA prog CV L args h=some r):CV (Bs prog L) args h=some r:=by
 have e1:=EV fs_135;refine CC2_round (by rw [kJ];exact hG) ?_ (Cm ?_ _ _) e
 ·show SV.contains (prog.funcs.size+L)=false;generalize prog.funcs.size=n at e1;rw [<-Bool.not_eq_true,H9];intro hm;have:=SV_lt _ hm;omega
 ·show ¬(prog.funcs.size+L)=21;generalize prog.funcs.size=n at e1;omega
def kW (R:List ao) (t:Nat):List (List ao):=(List.range t).map fun i=>(R.drop (64*i)).take 64
theorem BH (R:List ao) (t:Nat):kW R (t+1)=kW R t ++ [(R.drop (64*t)).take 64]:=by unfold kW;rw [H8,FG,FL,HH]
set_option maxRecDepth 100000 in
set_option maxHeartbeats 1000000 in
theorem chunk_all {h1 h:ad} (hG:4<=h1.n0) (O1:aA h1 h) {c1 c2 mb:Nat} {w:Value} {R:List ao} (hR:R.length<=100000) (rc:eD h1 w R) (nk:dv w) {m:bM} {x:AM} (X:kH h1 m x) (gm:h1.get mb=some (mC m)) (hnl:m.nl<=20000) (hnh:m.nh<=20000)
  (hcb:h1.next<h.next) (gc:h.get h1.next=some [.slice none 0 0]) (g1:h.get c1=some [w]) (g2:h.get c2=some [.int .i64 64]) (n1:h1.next<c1) (n2:h1.next<c2)
  {y0:Nat->Value} (x24:y0 24 = .func (.func 92) #[] #[ptr c1 0,ptr c2 0]) (x3:y0 3=ptr mb 0) (x6:y0 6=ptr h1.next 0) :
  ∃ h' v ms,codeA prog CV (au f31 [1,1,1,1,1,0,1,0]) (aL 33 y0) h=some (.normal,aL 33 y0,h')/\aA h1 h'/\h'.get h1.next=some [v]/\wU h' (h.next+1) v ms ((kW R ((R.length+63)/64)).map fun l=>dU x.lo x.hi l false):=by
 have hc0:=rng103;have oa:=rng103a;have ob:=rng103b;have hA : ∀ y g,codeA prog CV (rgA (au f31 [1,1,1,1,1,0,1,0])) (aL 33 y) g=some (.normal,aL 33 (up y [(7,y 25)]),g):=fun y g=>(oI CV y g).trans rfl;have hB : ∀ y g,codeA prog CV (rgB (au f31 [1,1,1,1,1,0,1,0])) (aL 33 y) g=ff CV y g:=fun y g=>oJ CV y g;generalize hca:rgA (au f31 [1,1,1,1,1,0,1,0])=ca at *;generalize hcb':rgB (au f31 [1,1,1,1,1,0,1,0])=cbd at *;have hGh:4<=h.n0:=by rw [O1.n0];exact hG
 have Lp0:=zV.new h (aL 33 y0) [25] ca cbd;have k0:aA h (h.bn (.obj (.loop .ready none (aL 33 y0) [25] ca cbd))):=az.allocO _ _ _;have h1n:=h.aO g1;have h2n:=h.aO g2;generalize hh1:h.bn (.obj (.loop .ready none (aL 33 y0) [25] ca cbd))=h2 at *;have hn1:h2.next=h.next+1:=by rw [<-hh1];rfl
 have old1 : ∀ {g:ad},az h g (fun b=>b=h1.next\/h.next<=b)->aA h1 g:=fun K=>O1.also K (fun d hd q=>by rcases q with q|q<;>omega);have hd:MG m:=X.mg;obtain ⟨h3,j,e2,hj,⟨t,rfl,ht,K3,R3,hn3,v,ms,gv,A3,hml⟩⟩:=r152 (C:=CV) (fun args h r hg e=>iv is152 hg (by decide) (by decide) e) (h:=h2) (by rw [k0.n0];exact hGh) (L:=h.next) (c1:=c1) (c2:=c2) (w:=w) (R:=R) (by omega)
  (fun j g => ∃ t,j=64*t/\t<=(R.length+63)/64/\az h g (fun b=>b=h1.next\/h.next<=b)/\zV g h.next (aL 33 y0) [25] ca cbd/\h2.next<=g.next /\ ∃ v ms,g.get h1.next=some [v]/\wU g (h.next+1) v ms ((kW R t).map fun l=>dU x.lo x.hi l false)/\(v = .slice none 0 0 \/ ∃ b s n,v = .slice (some ⟨b,0,s⟩) n n))
  (fun j g ⟨t,_,_,K,_,_,_⟩=>by refine ⟨aU (K.getE g1 (fun q=>by rcases q with q|q<;>omega)) rfl (zE nk),aU (K.getE g2 (fun q=>by rcases q with q|q<;>omega)) rfl rfl,rc.mono (old1 K),nk⟩)
  (fun j g v' hjl ⟨t,hjt,ht,K,R1,hn,v,ms,gv,A,hv⟩ rc' nk'=>by
   have Og:=old1 K;have G:4<=g.n0:=by rw [K.n0];exact hGh
   have ha:codeA prog CV ca (eQ (aL 33 y0) ([25].zip [v'])) g=some (.normal,aL 33 (up (up y0 [(25,v')]) [(7,v')]),g):=by show codeA prog CV ca ((aL 33 y0).set 25 v') g=_;rw [qF,hA];rfl
   have R4':=R1;unfold zV at R4';have kS:az g (g.setO h.next (.loop .busy none (aL 33 y0) [25] ca cbd)) (· = h.next):=Go.Abs.az.setO R4' rfl;have gS : ∀ b,(g.setO h.next (.loop .busy none (aL 33 y0) [25] ca cbd)).get b=g.get b:=fun b=>ad.tF R4' _ b;have gL:g.get h.next=none:=by unfold ad.get;rw [R4'];rfl
   generalize hg5:g.setO h.next (.loop .busy none (aL 33 y0) [25] ca cbd)=g5 at *;have G5:4<=g5.n0:=by rw [kS.n0];exact G
   have K5:az h g5 (fun b=>b=h1.next\/h.next<=b):=K.also kS (fun d hd q => .inr (by omega));have O5:=old1 K5;have hk5:=kS.next;have A5:wU g5 (h.next+1) v ms ((kW R t).map fun l=>dU x.lo x.hi l false):=A.keep kS (fun b h1 _ q=>by have q:b=h.next:=q;omega)
   have gv5:g5.get h1.next=some [v]:=(gS _).trans gv;have rc5:eD g5 v' ((R.drop j).take 64):=by obtain ⟨hd',a,d,e,hn',ht',h0⟩:=rc';refine ⟨hd',a,d,e,hn',ht',fun hp => ?_⟩;obtain ⟨b,off,s,q,e',hk,hl,hcs⟩:=h0 hp;exact ⟨b,off,s,q,e',(gS _).trans hk,hl,hcs⟩
   obtain ⟨m',g6,e6,o6,X6,W6⟩:=r129 (h:=g5) G5 (X.old O5) rc5 nk' (by rw [DW];omega) false (by omega) (by omega);have e6:=iy (f:=61) rfl (by decide) e6;have hd6:MG m':=X6.mg;have e7:=xh hd6 g6;have o6n:=o6.next;have A6:=A5.keep (o6.mono (B':=fun _=>False) fun _ _ h=>h) (fun _ _ _ h=>h);have hms:ms.length<=100000:=by rw [A.len,DS];unfold kW;rw [DS,GW];omega
   have gl5 : ∀ b,gK v=some b->b<g5.next:=fun b hb=>(A5.sl.blk hb).2;obtain ⟨w8,g8,e8,A8,k8,hw8⟩:=A6.push (x:=dU x.lo x.hi ((R.drop j).take 64) false) (by rw [o6.n0,K5.n0];exact IQ h.n0_le_next) (by omega) hms X6 (M:=g5.next) (by omega) gl5 W6;have K68:az g5 g8 (fun b=>gK v=some b):=(o6.mono fun _ _ h=>h.elim).trans k8;have gv8:g8.get h1.next=some [v]:=K68.getE gv5 (fun q=>by have:=(A5.sl.blk q).1;omega)
   have cw:w8.cells = #[w8]/\w8.oneCell'=true:=by obtain ⟨b,s,n,rfl⟩:=hw8;exact ⟨rfl,rfl⟩
   obtain ⟨g9,e9,k9,q9,_,_⟩:=stored (o:=0) (v:=w8) gv8 (by rw [K68.n0,K5.n0,O1.n0];exact h1.n0_le_next) (Nat.succ_pos _) cw.1 cw.2;have l6:ld1 (ptr h1.next 0) g5=some (v,g5):=aU gv5 rfl (by rcases hv with rfl|⟨b,s,n,rfl⟩<;>rfl);have l6':ld1 (ptr h1.next 0) g6=some (v,g6):=aU (aA.get o6 gv5) rfl (by rcases hv with rfl|⟨b,s,n,rfl⟩<;>rfl);have M5:=gU hd (aA.get O5 gm);have ck:bF true (some (v,g6)) v=true:=by rcases hv with rfl|⟨b,s,n,rfl⟩<;>exact iu ..
   have eb:codeA prog CV cbd (aL 33 (up (up y0 [(25,v')]) [(7,v')])) g5=some (.normal,aL 33 (up (up (up y0 [(25,v')]) [(7,v')]) [(26,v),(27,mV m),(28,v'),(29,mV m'),(30,.slice (some ⟨g6.next,0,none⟩) 1 1),(31,w8)]),g9):=by rw [hB];unfold ff;have x3':up (up y0 [(25,v')]) [(7,v')] 3=ptr mb 0:=x3;have x6':up (up y0 [(25,v')]) [(7,v')] 6=ptr h1.next 0:=x6;have x7':up (up y0 [(25,v')]) [(7,v')] 7=v':=rfl;simp -implicitDefEqProofs only [x3', x6', x7', l6, M5.all, e6, ae];refine (FZ (fun o=>ab o _) e7).trans ?_;simp -implicitDefEqProofs only [e8, e9, l6', ck, DV, ae]
   have K59:az g5 g9 (fun b=>b=h1.next\/h.next<b):=by refine (K68.mono fun b _ hb => .inr ?_).trans (k9.mono fun b _ hb => .inl hb);have:=(A5.sl.blk hb).1;omega
   obtain ⟨g10,e10,R10,n10,m10,s10,b10⟩:=zV.round (B:=fun b=>b=h1.next\/h.next<b) R1 rfl oa ob ha (az.refl g _) (by omega) (by rw [hg5];exact eb) (by rw [hg5];exact K59);have k910:=K59.next;have kf:az g9 g10 (· = h.next):=⟨by rw [m10,K59.n0,kS.n0],by omega,fun b hb hq=>b10 b hq⟩
   have K10:az g g10 (fun b=>b=h1.next\/h.next<=b):=by refine ⟨m10,by omega,fun b hb hq => ?_⟩;have q1 : ¬b=h1.next:=fun q=>hq (.inl q);have q2 : ¬h.next<=b:=fun q=>hq (.inr q);rw [b10 b (by omega),K59.getB b (by omega) (fun q=>by rcases q with q|q;exact q1 q;omega),kS.getB b (by omega) (by omega)]
   have A9:wU g9 (h.next+1) w8 (ms ++ [m']) (((kW R t).map fun l=>dU x.lo x.hi l false) ++ [dU x.lo x.hi ((R.drop j).take 64) false]):=A8.keep k9 (fun b hb1 _ q=>by have q:b=h1.next:=q;omega)
   have A10:=A9.keep kf (fun b hb1 _ q=>by have q:b=h.next:=q;omega)
   refine ⟨g10,CV_yield G e10,t+1,by omega,by omega,K.trans K10,R10,by omega,w8,ms ++ [m'],?_,?_,.inr hw8⟩
   ·rw [s10 h1.next,q9];rfl
   ·rw [BH,FG,FL,HH,<-hjt];exact A10)
  ⟨0,rfl,FN _,k0.mono (fun _ _ h=>h.elim),Lp0,DF _,.slice none 0 0,[],aA.get k0 gc,⟨eZ.nil 116 h2 (h.next+1),rfl,fun i h=>absurd h (E0 i),fun i h=>absurd h (E0 i),fun b h=>by cases h⟩,.inl rfl⟩
 have hv:ev (aL 33 y0) (.tmp 24) = .func (.func 92) #[] #[ptr c1 0,ptr c2 0]:=(ev_mkF (by decide) y0).trans x24;have run:codeA prog CV (au f31 [1,1,1,1,1,0,1,0]) (aL 33 y0) h=endLoopA h.next (aL 33 y0) h3:=by refine yk (v := .tuple #[]) (h2:=h3) (ps := #[25]) (by rw [hca,hcb'];exact hc0) hv body152 ?_;rw [hca,hcb'];show CV 92 [.func (.yield h.next) #[] #[],ptr c1 0,ptr c2 0] (h.bn (.obj (.loop .ready none (aL 33 y0) [25] ca cbd)))=_;rw [hh1];exact e2
 obtain ⟨h4,e4,k4,_⟩:=R3.fin (e0:=aL 33 y0);have ht2:t=(R.length+63)/64:=by omega
 subst ht2;refine ⟨h4,v,ms,run.trans e4,(old1 K3).also k4 (fun d hd q=>by have:=O1.next;omega),k4.getE gv (by omega),A3.keep k4 (fun b hb1 _ q=>by have q:b=h.next:=q;omega)⟩
theorem is15:bP prog 6 f6:=by constructor<;>kernel_rfl
theorem r26L {h:ad} (hG:4<=h.n0) {v:Value} {L:List ao} (x:eD h v L) (hl:L.length<=1000000) : ∃ v' h',CW 8 [v] h=some (v',h')/\aA h h'/\cy h' h.next v' L:=by
 have o1:aA h (h.alloc []):=az.alloc _ _ _;have r0:cy (h.alloc []) h.next (.slice (some ⟨h.next,0,none⟩) 0 0) []:=⟨(fun _ h=>by cases h),h.next,none,rfl,by rw [ad.aF,DL rfl];rfl,DF _,.inl ⟨rfl,rfl⟩⟩
 obtain ⟨v',h',e,r,k,_⟩:=r0.Bx (x.mono o1) (by rw [o1.n0];exact h.n0_le_next) o1.next (by decide) hl;rw [List.nil_append] at r;have b0:cg 39 (.agg gI) 0 [] h=some (.slice (some ⟨h.next,0,none⟩) 0 0,h.alloc []):=rfl;refine ⟨v',h',aD is26 hG rfl ((t26_eq _ _ _).trans ?_),aA.bx o1 k (DF _),r⟩;unfold t26;simp -implicitDefEqProofs only [b0, e, ae]
theorem r15 {h:ad} (hG:4<=h.n0) {v:Value} {L:List ao} (x:eD h v L) (vr : ∀ r∈L,de r=true) (hl:L.length<=500000) :
  ∃ vb h',CV 6 [v] h=some (.tuple #[ptr vb 0,.int .i64 0],h')/\zW h' vb (bB [] L)/\aA h h'/\h.next<=vb:=by
 have e1:=iy (f:=19) rfl (by decide) (r33 hG);have o1:aA h (h.alloc [.slice none 0 0]):=az.alloc _ _ _;have i1:zW (h.alloc [.slice none 0 0]) h.next []:=⟨h.n0_le_next,⟨.slice none 0 0,by rw [ad.aF,DL rfl],⟨(fun _ h=>by cases h),none,0,rfl,fun _=>rfl,dJ (P := []) (fun _ h=>by cases h),fun h=>absurd h (F9 0)⟩,.inl rfl⟩,(fun _ h=>by cases h),.nil⟩
 generalize h.alloc [.slice none 0 0]=h1 at *;obtain ⟨v2,h2,e2,o2,r2⟩:=r26L (h:=h1) (by rw [o1.n0];exact hG) (x.mono o1) (by omega);have e2:=iy (f:=8) rfl (by decide) e2;obtain ⟨h3,e3,i3,k3⟩:=r25 (i1.old o2) r2.zY.rsl vr (by decide) hl;refine ⟨h.next,h3,iv is15 hG rfl (by decide) ((t15_eq _ _ _).trans ?_),i3,aA.bx (o1.trans o2) k3 (DF _),DF _⟩;unfold t15;simp -implicitDefEqProofs only [e1,kF,e2,e3,ae,af]
theorem cy.take {h:ad} {N:Nat} {v:Value} {L:List ao} (x:cy h N v L) (hL:L ≠ []) {j:Nat} (hj:j<=L.length) : ∃ v',iw 39 v none (some (ak j)) none=some v'/\eD h v' (L.take j):=by
 obtain ⟨hw,b,s,rfl,g1,g2,g3⟩:=x;rcases g3 with ⟨h1,_⟩|⟨_,rfl⟩
 ·exact absurd h1 hL
 ·have hd : ∀ p∈L.take j,ao.Wf p:=fun p hp=>hw p (EZ hp);have hl:=cf hw;have hlt:=cf hd;have hlen:(L.take j).length=j:=by rw [DW];omega
  have hcs:(bj L).take (j*39)=bj (L.take j):=by
   have e:bj L=bj (L.take j)++bj (L.drop j):=by rw [<-gx,EL]
   rw [e,HC (by rw [hlt,hlen])]
  refine ⟨.slice (some ⟨b,0,some 39⟩) j L.length,?_,hd,some ⟨b,0,some 39⟩,L.length,by rw [hlen],(fun h=>by cases h),dJ hd,fun _=>⟨b,0,some 39,bj L,rfl,g1,?_,?_⟩⟩
  ·unfold iw sliceSl;simp only [bnd_hi hj (DF _)];rw [DL ⟨True.intro,by decide⟩];rfl
  ·rw [show gX.length=39 from rfl,hl,hlen,DG];exact F0 _ hj
  ·rw [show gX.length=39 from rfl,EJ,hlen,hcs]
theorem cy.drop {h:ad} {N:Nat} {v:Value} {L:List ao} (x:cy h N v L) (hL:L ≠ []) {j:Nat} (hj:j<=L.length) : ∃ v',iw 39 v (some (ak j)) none none=some v'/\eD h v' (L.drop j):=by
 obtain ⟨hw,b,s,rfl,g1,g2,g3⟩:=x;rcases g3 with ⟨h1,_⟩|⟨_,rfl⟩
 ·exact absurd h1 hL
 ·have hd : ∀ p∈L.drop j,ao.Wf p:=fun p hp=>hw p (FV hp);have hl:=cf hw;have hlt:=cf hd;have hlen:(L.drop j).length=L.length-j:=D8 ..;have hm:(L.length-j)*39=L.length*39-j*39:=Nat.sub_mul ..;have hjm:j*39<=L.length*39:=F0 _ hj;have hdt:(L.take j).length=j:=by rw [DW];omega
  have hcs:(bj L).drop (j*39)=bj (L.drop j):=by
   have e:bj L=bj (L.take j)++bj (L.drop j):=by rw [<-gx,EL]
   rw [e,GF (by rw [cf fun p hp=>hw p (EZ hp),hdt])]
  have hb:boundsA L.length L.length (some (ak j)) none none=some (j,L.length,L.length):=by
   have a1:boundA L.length L.length none=some L.length:=rfl;have a2:boundA 0 L.length (some (ak j))=some j:=by unfold boundA ak;simp only;rw [DL (by omega)];rfl
   unfold boundsA;simp only [a1,a2]
  refine ⟨.slice (some ⟨b,0+j*39,some 39⟩) (L.length-j) (L.length-j),?_,hd,some ⟨b,0+j*39,some 39⟩,L.length-j,by rw [hlen],(fun h=>by cases h),dJ hd,fun _=>⟨b,0+j*39,some 39,bj L,rfl,g1,?_,?_⟩⟩
  ·unfold iw sliceSl;simp only [hb];rw [DL ⟨True.intro,by decide⟩]
  ·rw [show gX.length=39 from rfl,hl,hlen];omega
  ·rw [show gX.length=39 from rfl,DG,hcs,hlen,D1 (by rw [hlt,hlen];exact DF _)]
theorem kj (A B:List ao):(bB A B).length<=A.length+B.length:=by have h1:=zy (A++B);rw [DH] at h1;have h2:=EU (gf (dz (A++B))) (dz (A++B));show (qY _).length<=_;rw [(fV _).length_eq];omega
def Is (T P:List ao):Prop := ∀ x,x∈T↔Nf P x
theorem cy.weak {h:ad} {N M:Nat} {v:Value} {L:List ao} (x:cy h N v L) (hm:M<=N):cy h M v L:=by obtain ⟨hw,b,s,rfl,g1,g2,g3⟩:=x;exact ⟨hw,b,s,rfl,g1,D5 hm g2,g3⟩
theorem is105:bP prog 60 f60:=by constructor<;>kernel_rfl
theorem is52:bP prog 26 f26:=by constructor<;>kernel_rfl
theorem is16:bP prog 7 f7:=by constructor<;>kernel_rfl
theorem results105:f60.results.toList = [.tmp 4]:=by kernel_rfl
theorem b105_3e (C:aj) (e:aW) (h:ad):b105_3 C 0 e h=k105_1 C e h:=rfl
def oD (r x:ao):Bool:=uY x r||((((decide (r.kind=3)&&decide (x.kind=1))&&decide (x.aN=r.aN))&&decide (r.gO<x.gO))||((decide (r.kind=3)&&decide (x.kind=2))&&decide (x.obj=r.obj)))
theorem gtr32 (a b:Nat):aC prog .gtr 32 (.int .u64 (a:Int)) (.int .u64 (b:Int))=some (.bool (decide (b<a))):=by
 rw [bD]
 congr 2
 rw [HQ];omega
set_option maxRecDepth 100000 in
theorem r105 {h:ad} (hG:4<=h.n0) (hz:GZ h) {r:ao} (w:r.Wf) {v:Value} {R:List ao} (hv:jK h v R) (hR:R.length<=1000000) :
  ∃ h',CW 60 [cY r,v] h=some (.bool (R.any (oD r)),h')/\aA h h':=by
 have hll:=hv.len;obtain ⟨h1,b1,o1,g1,n1⟩:=cJ h w;have key : ∃ q:aS,t105 CW (cY r) v h=q /\ ∃ h',q=some (.bool (R.any (oD r)),h')/\aA h h':=by
  refine ⟨_,rfl,?_⟩;unfold t105;simp -implicitDefEqProofs only [b1,ae];refine bq (n:=61) (fin:=fun ex y g=>aA h g/\((ex = .exit 0/\R.any (oD r)=false)\/(ex = .ret/\R.any (oD r)=true/\y 4 = .bool true))) (Q:=fun q:aS => ∃ h',q=some (.bool (R.any (oD r)),h')/\aA h h')
   (bk (vK CW) (Inv:=fun k y g => ∃ i,i+k=R.length/\y 1=v/\y 2=ptr h.next 0/\y 5=ak i/\aA h1 g/\(R.take i).any (oD r)=false) ?_ R.length (by have:aB=18446744073709551616:=rfl;omega) ⟨0,by omega,rfl,rfl,rfl,az.refl _ _,by simp⟩) ?_
  ·rintro k y g ⟨i,hik,y1,y2,y5,Og,hf⟩;have O:=o1.trans Og;unfold mn;simp -implicitDefEqProofs only [y1,y5,hll,eK,ae,af];by_cases hi:i<R.length
   ·obtain ⟨b,oo,ix,wr,ld⟩:=hv.rd hi;have hany:=yE hi (oD r);rw [hf,EI] at hany;have a5:aC prog .add 3 (ak i) (.int .i64 1)=some (ak (i+1)):=dh (by omega);have whole:oD r R[i]=true->R.any (oD r)=true:=fun q=>by rw [I8];exact ⟨R[i],EA hi,q⟩
    generalize R[i]=x at *;obtain ⟨h2,h3,e2,e3,o3,g3⟩:=qj g wr;have O3:=Og.trans o3;obtain ⟨h4,e4,o4⟩:=r49 (h:=h3) (by rw [O3.n0,o1.n0];exact hG) ((hz.old o1).old O3) wr w;have O4:=O3.trans o4;have LX:=bc g3 (aM wr).1 (aM wr).2.1;have LR:=bc (aA.get O3 g1) (aM w).1 (aM w).2.1;have X:=js wr (aA.get o4 g3);have Y:=js w (aA.get O4 g1);have ret : ∀ x':Nat->Value,x' 4 = .bool true->oD r x=true->cR 61 (fun k y g => ∃ i,i+k=R.length/\y 1=v/\y 2=ptr h.next 0/\y 5=ak i/\aA h1 g/\(R.take i).any (oD r)=false) (fun ex y g=>aA h g/\((ex = .exit 0/\R.any (oD r)=false)\/(ex = .ret/\R.any (oD r)=true/\y 4 = .bool true))) k (some (.ret,aL 61 x',h4)):=fun x' h4 q=>cR.ret ⟨o1.trans O4,.inr ⟨rfl,whole q,h4⟩⟩;have nxt : ∀ x':Nat->Value,x' 1=y 1->x' 2=y 2->x' 5=ak (i+1)->oD r x=false->cR 61 (fun k y g => ∃ i,i+k=R.length/\y 1=v/\y 2=ptr h.next 0/\y 5=ak i/\aA h1 g/\(R.take i).any (oD r)=false) (fun ex y g=>aA h g/\((ex = .exit 0/\R.any (oD r)=false)\/(ex = .ret/\R.any (oD r)=true/\y 4 = .bool true))) k (some (.normal,aL 61 x',h4)):=fun x' q1 q2 q5 q=>cR.next (k-1) (by omega) ⟨i+1,by omega,q1.trans y1,q2.trans y2,q5,O4,by rw [hany];exact q⟩;simp -implicitDefEqProofs only [DA hi, y2, ix, ld g O, e2, e3, LX, LR, e4, ay, DG, ae, af];cases hn:uY x r with
    |true=>
     simp -implicitDefEqProofs only [vU, bu', ax, DY, ae];exact ret _ rfl (by unfold oD;rw [hn];rfl)
    |false=>
     by_cases hr:r.kind=3
     ·by_cases hx:x.kind=1
      ·have hx2 : ¬x.kind=2:=by omega
       by_cases hh:x.aN=r.aN
       ·by_cases hc:r.gO<x.gO
        ·simp -implicitDefEqProofs only [X.l0, X.l33, X.l34, Y.l0, Y.l33, Y.l34, vU, bt, bf, ax, aw, DY, DD, D3, eq56, pD x.kind 1 1 rfl, eqI, gtr32, DA hr, DA hx, DA hh, DA hc, ae, af];exact ret _ rfl (by unfold oD;simp [hr,hx,hh,hc])
        ·simp -implicitDefEqProofs only [X.l0, X.l33, X.l34, Y.l0, Y.l33, Y.l34, bt, bf, sP, ax, aw, DY, DD, D3, eq56, pD x.kind 1 1 rfl, pD x.kind 2 2 rfl, eqI, gtr32, DA hr, DA hx, DA hh, DB hc, DB hx2, a5, ae, af];exact nxt _ rfl rfl rfl (by unfold oD;simp [hn,hc,hx2])
       ·simp -implicitDefEqProofs only [X.l0, X.l33, Y.l0, Y.l33, bt, bf, sP, ax, aw, DY, DD, D3, eq56, pD x.kind 1 1 rfl, pD x.kind 2 2 rfl, eqI, DA hr, DA hx, DB hh, DB hx2, a5, ae, af];exact nxt _ rfl rfl rfl (by unfold oD;simp [hn,hh,hx2])
      ·by_cases hx2:x.kind=2
       ·by_cases ho:x.obj=r.obj
        ·simp -implicitDefEqProofs only [X.l0, X.l1, Y.l0, Y.l1, bt, bf, sP, ax, aw, DY, DD, D3, eq56, pD x.kind 1 1 rfl, pD x.kind 2 2 rfl, eqD35 wr.obj w.obj, DA hr, DB hx, DA hx2, DA ho, ae, af];exact ret _ rfl (by unfold oD;simp [hr,hx2,ho])
        ·simp -implicitDefEqProofs only [X.l0, X.l1, Y.l0, Y.l1, bt, bf, sP, ax, aw, DY, DD, D3, eq56, pD x.kind 1 1 rfl, pD x.kind 2 2 rfl, eqD35 wr.obj w.obj, DA hr, DB hx, DA hx2, DB ho, a5, ae, af];exact nxt _ rfl rfl rfl (by unfold oD;simp [hn,hx,ho])
       ·simp -implicitDefEqProofs only [X.l0, Y.l0, bt, bf, sP, ax, aw, DY, DD, D3, eq56, pD x.kind 1 1 rfl, pD x.kind 2 2 rfl, DA hr, DB hx, DB hx2, a5, ae, af];exact nxt _ rfl rfl rfl (by unfold oD;simp [hn,hx,hx2])
     ·simp -implicitDefEqProofs only [Y.l0, bf, sP, ax, aw, DD, D3, eq56, DB hr, a5, ae, af];exact nxt _ rfl rfl rfl (by unfold oD;simp [hn,hr])
   ·have hE:i=R.length:=by omega
    rw [hE,E9] at hf;simp -implicitDefEqProofs only [DB hi];exact cR.out 0 ⟨O,.inl ⟨rfl,hf⟩⟩
  ·rintro ex z g ⟨Og,⟨rfl,q⟩|⟨rfl,q,z4⟩⟩
   ·simp -implicitDefEqProofs only [aV,b105_3e,Ar];unfold rP;rw [q];exact ⟨g,rfl,Og⟩
   ·rw [fq,cE,gu results105 (by decide),z4,q];exact ⟨g,rfl,Og⟩
 obtain ⟨q,e,h',e',oo⟩:=key;exact ⟨h',aD is105 hG rfl ((t105_eq _ _ _ _).trans (e.trans e')),oo⟩
theorem eD.slB_lt {h:ad} {v:Value} {P:List ao} {b:Nat} (x:eD h v P) (e:slB v=some b):b<h.next:=by
 obtain ⟨hd,a,d,rfl,hn,ht,h0⟩:=x;cases hP:P.length with
 |zero=>rw [hP] at e;cases a<;>cases e
 |succ n=>
  obtain ⟨b',off,s,q,rfl,hk,_⟩:=h0 (by omega);rw [hP] at e;cases e;exact h.aO hk
theorem tg (h:ad):cg 39 (.agg gI) 0 [] h=some (.slice (some ⟨h.next,0,none⟩) 0 0,h.alloc []):=rfl
theorem xw : ∀ a b:List UInt8,Op.bytesLess a b=decide (compareBytes a b<0)
 | [],[]=>rfl
 |_::_,[]=>rfl
 | [],_::_=>rfl
 |x::a,y::b=>by
  rw [lE];unfold Op.bytesLess;rw [xw a b];by_cases e1:x.toNat<y.toNat
  ·have h1:x<y:=IZ.2 e1;rw [DL e1];simp [h1]
  ·have h1 : ¬x<y:=fun h=>e1 (IZ.1 h);rw [DM e1];by_cases e2:y.toNat<x.toNat
   ·have h2:x≠y:=fun h=>by subst h;omega
    rw [DL e2];simp [h1,h2]
   ·have h2:x=y:=UInt8.toNat_inj.1 (by omega);subst h2;rw [DM e2];simp
theorem geq_str (a b:ByteArray):aC prog .geq 9 (.string a) (.string b)=some (.bool (!(Op.bytesLess a.toList b.toList))):=by unfold aC CQ;simp only [DY];unfold binA;simp only [ground,flat,FD,DY];have e:(binOp .geq 9 (.string a) (.string b))=pure (.bool (!(Op.bytesLess a.toList b.toList))):=rfl;rw [e];rfl
theorem results52:f26.results.toList = [.tmp 2,.tmp 3]:=by kernel_rfl
theorem b52_4e (C:aj) (e:aW) (h:ad):b52_4 C 0 e h=k52_2 C e h:=rfl
theorem b52_9e (C:aj) (e:aW) (h:ad):b52_9 C 1 e h=BJ C e h:=rfl
theorem b52_17e (C:aj) (e:aW) (h:ad):b52_17 C 2 e h=k52_16 C e h:=rfl
theorem lss_str (a b:ByteArray):aC prog .lss 9 (.string a) (.string b)=some (.bool (Op.bytesLess a.toList b.toList)):=by unfold aC CQ;simp only [DY];unfold binA;simp only [ground,flat,FD,DY];have e:(binOp .lss 9 (.string a) (.string b))=pure (.bool (Op.bytesLess a.toList b.toList)):=rfl;rw [e];rfl
theorem lss_key (a b:ao):aC prog .lss 9 (.string (cz (dx a))) (.string (cz (dx b)))=some (.bool (decide (fp a b<0))):=by have hl : ∀ l:List Nat,(cz l).toList=l.map UInt8.ofNat:=fun l=>H5 _;rw [lss_str,xw,hl,hl];rfl
theorem chkRec {r:ao} (w:r.Wf) (g:ad):bF true (some (cY r,g)) (cY r)=true:=qC _ _ (cA w).kinds
set_option maxRecDepth 100000 in
theorem nl_in {h g0:ad} (hG:4<=h.n0) (O:aA h g0) {v w:Value} {R out:List ao} (hv:jK h v R) {i:Nat} (hi:i<R.length) {N:Nat} (hw:cy g0 N w out) (hl:out.length<=1000000)
  {x:Nat->Value} (x0:x 0=v) (x4:x 4=w) (x5:x 5=ak i) (x6:x 6=ak 0) :
  Fin 76 (fun ex y g=>ex = .exit 2/\aA g0 g/\y 0=v/\y 4=w/\y 5=ak i /\ ∃ a,y 6=ak a/\a<=out.length/\(∀ j,(hj:j<out.length)->j<a->fp out[j] R[i]<0) /\ ∀ ha:a<out.length,¬fp out[a] R[i]<0) (iter (codeA prog CW (au f26 [1,1,0,1,0,0,1,0,0,1,1,1,0,0,0])) aB (aL 76 x) g0):=by
 have hol:=hw.zY.rsl.len;obtain ⟨bi,oi,ixi,wi,ldi⟩:=hv.rd hi;refine bk (mJ CW) (Inv:=fun k y g => ∃ a,a+k=out.length/\y 0=v/\y 4=w/\y 5=ak i/\y 6=ak a/\aA g0 g /\ ∀ j,(hj:j<out.length)->j<a->fp out[j] R[i]<0) ?_ out.length (by have:aB=18446744073709551616:=rfl;omega) ⟨0,by omega,x0,x4,x5,x6,az.refl _ _,fun j _ hj=>absurd hj (E0 j)⟩;rintro k y g ⟨a,hak,y0,y4,y5,y6,Og,lo⟩;unfold fI;simp -implicitDefEqProofs only [y4,y6,hol,eK,ae,af];by_cases ha:a<out.length
 ·obtain ⟨b,o,ix,wr,ld⟩:=hw.zY.rsl.rd ha;obtain ⟨g1,e1,o1⟩:=r59 (h:=g) (by rw [(O.trans Og).n0];exact hG) wr;have O1:=Og.trans o1;obtain ⟨g2,e2,o2⟩:=r59 (h:=g1) (by rw [(O.trans O1).n0];exact hG) wi;have O2:=O1.trans o2;have a6:aC prog .add 3 (ak a) (.int .i64 1)=some (ak (a+1)):=dh (by omega);simp -implicitDefEqProofs only [DA ha, bt, aw, ix, ld g Og, e1, y0, y5, ixi, ldi g1 (O.trans O1), e2, lss_key, ldi g (O.trans Og), chkRec wi, DV, DY, ae, af];by_cases hc:fp out[a] R[i]<0
  ·simp -implicitDefEqProofs only [DA hc, a6, ae, af];refine cR.next (k-1) (by omega) ⟨a+1,by omega,y0,y4,y5,rfl,O2,fun j hj h => ?_⟩;rcases FO j a with h1|h1
   ·exact lo j hj h1
   ·have:j=a:=by omega
    subst this;exact hc
  ·simp -implicitDefEqProofs only [DB hc];exact cR.out 2 ⟨rfl,O2,y0,y4,y5,a,y6,by omega,lo,fun _=>hc⟩
 ·simp -implicitDefEqProofs only [DB ha, sP, ax, DD, D3, chkJ, DV, ae];exact cR.out 2 ⟨rfl,Og,y0,y4,y5,a,y6,by omega,lo,fun h=>absurd h ha⟩
theorem ks_ins {out:List ao} {r:ao} {a:Nat} (ks:KS out) (ha:a<=out.length) (lo : ∀ j,(hj:j<out.length)->j<a->fp out[j] r<0) (hi : ∀ h:a<out.length,¬fp out[a] r<0) (un : ∀ x∈out,fp x r=0->x=r) :
  (∀ h:a<out.length,out[a]≠r)->KS (out.take a ++ [r]++out.drop a):=by
 intro hne;unfold KS at *;have h1:=ks;rw [<-List.take_append_drop a out,IE] at h1;obtain ⟨k1,k2,k3⟩:=h1;have lt1 : ∀ x∈out.take a,fp x r<0:=fun x hx=>by obtain ⟨j,hj,rfl⟩:=E5.1 hx;rw [DW] at hj;rw [IU];exact lo j (by omega) (by omega)
 have lt2 : ∀ x∈out.drop a,fp r x<0:=fun x hx=>by
  obtain ⟨j,hj,rfl⟩:=E5.1 hx;rw [D8] at hj;have hal:a<out.length:=by omega
  have h2:=hi hal;have h3:fp out[a] r≠0:=fun e=>hne hal (un _ (EA hal) e);have h4:fp r out[a]<0:=by have:=pO (AE out[a]) (AE r);unfold fp at *;omega
  rw [IV];rcases Nat.eq_zero_or_pos j with rfl|hj0
  ·exact h4
  ·have h5:=ks_lt (R:=out) ks (i:=a) (j:=a+j) (by omega) (by omega);exact tN _ _ _ h4 h5
 rw [IE];refine ⟨?_,k2,fun x hx y hy => ?_⟩
 ·rw [IE];exact ⟨k1,List.pairwise_singleton _ _,fun x hx y hy=>by rw [EH.1 hy];exact lt1 x hx⟩
 ·rcases D9.1 hx with h|h
  ·exact k3 x h y hy
  ·rw [EH.1 h];exact lt2 y hy
theorem vd_uniq {R:List ao} {x r:ao} (hx:x∈R) (hr:r∈R) (wx:x.Wf) (wr:r.Wf) (vx:de x=true) (vr:de r=true) (nx:R.any (oD x)=false) (nr:R.any (oD r)=false) (h:fp x r=0):x=r:=by
 have ha:=Bz wx wr vx vr h;have ha':kU r x=true:=by rw [eO];exact ha
 rw [F7] at nx nr;have h1:=nx r hr;have h2:=nr x hx;unfold oD at h1 h2;simp only [FH,not_or] at h1 h2;have h1:=h1.1;have h2:=h2.1;rw [<-nM wr wx] at h1;rw [<-nM wx wr] at h2;unfold yj at h1 h2;simp only [vx,vr,ha,ha',EE,DR] at h1 h2;refine cmpR_eq ha ?_;have:=te x r;omega
theorem cy.takeA {h:ad} {N:Nat} {v:Value} {L:List ao} (x:cy h N v L) {j:Nat} (hj:j<=L.length) : ∃ v',iw 39 v none (some (ak j)) none=some v'/\eD h v' (L.take j):=by
 by_cases hL:L = []
 ·subst hL;obtain rfl:j=0:=by rw [List.length_nil] at hj;omega
  obtain ⟨hw,b,s,rfl,g1,g2,g3⟩:=x;rcases g3 with ⟨_,rfl⟩|⟨h,_⟩
  ·exact ⟨.slice (some ⟨b,0,none⟩) 0 0,rfl,eD.xW (P := []) (fun _ h=>by cases h) rfl g1⟩
  ·exact absurd rfl h
 ·exact x.take hL hj
theorem cy.dropA {h:ad} {N:Nat} {v:Value} {L:List ao} (x:cy h N v L) {j:Nat} (hj:j<=L.length) : ∃ v',iw 39 v (some (ak j)) none none=some v'/\eD h v' (L.drop j):=by
 by_cases hL:L = []
 ·subst hL;obtain rfl:j=0:=by rw [List.length_nil] at hj;omega
  obtain ⟨hw,b,s,rfl,g1,g2,g3⟩:=x;rcases g3 with ⟨_,rfl⟩|⟨h,_⟩
  ·exact ⟨.slice (some ⟨b,0,none⟩) 0 0,rfl,eD.xW (P := []) (fun _ h=>by cases h) rfl g1⟩
  ·exact absurd rfl h
 ·exact x.drop hL hj
end Go.Proofs.YtdnahgfgoajmcaaGreatDoor
