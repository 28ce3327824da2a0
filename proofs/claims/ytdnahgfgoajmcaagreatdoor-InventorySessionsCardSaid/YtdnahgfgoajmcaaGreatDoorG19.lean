/-
  A part of the proof, spaces and names shortened by a program (a claim may hold 1,500,000 bytes).
  Conditions: as each theorem states.
-/
import Derived.Test.YtdnahgfgoajmcaaGreatDoorG18
namespace Go.Proofs.YtdnahgfgoajmcaaGreatDoor
open Go Go.Abs Tryz
open Go.Lib (compareBytes)
attribute [local congr] aw
theorem is111:cx prog 78 f78:=by constructor<;>kernel_rfl
theorem is112:cx prog 79 f79:=by constructor<;>kernel_rfl
theorem is56:cx prog 44 f44:=by constructor<;>kernel_rfl
theorem b111_3e (C:au) (e:aX) (h:ai):b111_3 C 0 e h=k111_2 C e h:=rfl
theorem shr111 (i:Nat):aF prog .shr 120 (.int .u64 (i:Int)) (.int .u64 1)=some (.int .u64 ((i/2:Nat):Int)):=eQ prog 120 (k := .u64) (k' := .u64) (b:=1) (by decide)
theorem add33 {i j:Nat} (h:i+j<=10000000):aF prog .add 3 (aq i) (aq j)=some (aq (i+j)):=by
 unfold aq;rw [my,wrap_i64 (by omega) (by omega)]
 congr 2
theorem cvU {i:Nat} (h:i<=10000000) (g:ai):lW .u64 (aq i) g=some (.int .u64 (i:Int),g):=by
 unfold aq;rw [eh]
 congr 3
 show ((i:Int)%18446744073709551616)=_;omega
theorem cvN {i:Nat} (h:i<=10000000) (g:ai):lW .i64 (.int .u64 (i:Int)) g=some (aq i,g):=by unfold aq;rw [eh,wrap_i64 (by omega) (by omega)]
set_option maxRecDepth 100000 in
theorem r111 {h:ai} (hG:4<=h.n0) {fv:Value} {n:Nat} (hn:n<=1000000) (p:Nat->Bool) (hp : ∀ i,i<n -> ∀ g,aE h g -> ∃ g',callA prog CW fv [aq i] g=some (.bool (p i),g')/\aE g g') (mono : ∀ i j,i<=j->j<n->p i=true->p j=true) :
  ∃ k h',CW 78 [aq n,fv] h=some (aq k,h')/\aE h h'/\k<=n/\(∀ i,i<k->p i=false) /\ ∀ i,k<=i->i<n->p i=true:=by
 have key : ∃ q:bc,t111 CW (aq n) fv h=q /\ ∃ k h',q=some (aq k,h')/\aE h h'/\k<=n/\(∀ i,i<k->p i=false) /\ ∀ i,k<=i->i<n->p i=true:=by
  refine ⟨_,rfl,?_⟩;unfold t111;simp -implicitDefEqProofs only [aj];refine bH (n:=26) (fin:=fun ex y g=>ex = .exit 0/\aE h g /\ ∃ k,y 5=aq k/\k<=n/\(∀ i,i<k->p i=false) /\ ∀ i,k<=i->i<n->p i=true)
   (Q:=fun q:bc => ∃ k h',q=some (aq k,h')/\aE h h'/\k<=n/\(∀ i,i<k->p i=false) /\ ∀ i,k<=i->i<n->p i=true)
   (bC (vI CW) (Inv:=fun k y g => ∃ i j,i+k=j/\j<=n/\y 1=fv/\y 5=aq i/\y 6=aq j/\aE h g/\(∀ a,a<i->p a=false) /\ ∀ a,j<=a->a<n->p a=true) ?_ n (by have:aD=18446744073709551616:=rfl;omega) ⟨0,n,by omega,DD _,rfl,rfl,rfl,az.refl _ _,fun a h=>absurd h (FP a),fun a h1 h2=>by omega⟩) ?_
  ·rintro k y g ⟨i,j,hij,hjn,y1,y5,y6,Og,lo,hi⟩;unfold mX;simp -implicitDefEqProofs only [y5,y6,ie,aj,ak];by_cases h1:i<j
   ·have hm1:i<=(i+j)/2:=by omega
    have hm2:(i+j)/2<j:=by omega
    obtain ⟨g',e,o⟩:=hp ((i+j)/2) (by omega) g Og;simp -implicitDefEqProofs only [DC h1,add33 (show i+j<=10000000 by omega),cvU (show i+j<=10000000 by omega),shr111,cvN (show (i+j)/2<=10000000 by omega),y1,e,aV,aj,ak];cases hpm:p ((i+j)/2) with
    |true=>
     simp -implicitDefEqProofs only [DP];exact dJ.next ((i+j)/2-i) (by omega) ⟨i,(i+j)/2,by omega,by omega,y1,y5,rfl,Og.trans o,lo,fun a h2 h3=>mono _ _ h2 h3 hpm⟩
    |false=>
     have a5:aF prog .add 3 (aq ((i+j)/2)) (.int .i64 1)=some (aq ((i+j)/2+1)):=dR (by omega);simp -implicitDefEqProofs only [DO,a5,aj,ak];refine dJ.next (j-((i+j)/2+1)) (by omega) ⟨(i+j)/2+1,j,by omega,hjn,y1,rfl,y6,Og.trans o,fun a ha => ?_,hi⟩;cases hpa:p a with
     |false=>rfl
     |true=>
      have:=mono a ((i+j)/2) (by omega) (by omega) hpa;rw [hpm] at this;cases this
   ·simp -implicitDefEqProofs only [DF h1];refine dJ.out 0 ⟨rfl,Og,i,y5,by omega,lo,fun a h2 h3=>hi a (by omega) h3⟩
  ·rintro ex z g ⟨rfl,Og,k,z5,q1,q2,q3⟩;simp -implicitDefEqProofs only [bk,b111_3e,AS];unfold sO;rw [z5];exact ⟨k,g,rfl,Og,q1,q2,q3⟩
 obtain ⟨q,e,k,h',e',oo⟩:=key;exact ⟨k,h',aL is111 hG rfl ((t111_eq _ _ _ _).trans (e.trans e')),oo⟩
def jv (r:av) (l:List Nat):Int:=compareBytes (xT r) (l.map UInt8.ofNat)
theorem ge0 (n:Int):aF prog .geq 3 (.int .i64 n) (.int .i64 0)=some (.bool (decide (0<=n))):=by rw [bG]
theorem oV (g:ai) (a:Option Addr) (n c:Nat):cq true (some (.slice a n c,g)) (.slice a n c)=true:=by show (!true||rD (.slice a n c) (.slice a n c))=true;simp [rD]
theorem r112 {h:ai} (hG:4<=h.n0) {c2 c3 vb:Nat} {va:Value} {R:List av} {a:Option Addr} {n c:Nat} {l:List Nat} (g2:h.get c2=some [ptr vb 0]) (gv:h.get vb=some [va]) (RS:kz h va R) (g3:h.get c3=some [.slice a n c]) (hk:ax a n h=some l) {i:Nat} (hi:i<R.length) :
  ∃ h',CW 79 [aq i,ptr c2 0,ptr c3 0] h=some (.bool (decide (0<=jv R[i] l)),h')/\aE h h':=by
 obtain ⟨b,o,ix,wr,ld⟩:=RS.rd hi;obtain ⟨p,d,h1,e1,s1,o1⟩:=r67 hG wr;have e2:=r66 (h:=h1) (c:=d) (d:=c) (by rw [o1.n0];exact hG) s1 (aE.bytes o1 hk);have l2 : ∀ g,aE h g->ld1 (ptr c2 0) g=some (ptr vb 0,g):=fun g og=>aW (aE.get og g2) rfl rfl;have lv : ∀ g,aE h g->ld1 (ptr vb 0) g=some (va,g):=fun g og=>aW (aE.get og gv) rfl (by obtain ⟨⟨a,c,rfl⟩,_⟩:=RS;rfl);have l3 : ∀ g,aE h g->ld1 (ptr c3 0) g=some (.slice a n c,g):=fun g og=>aW (aE.get og g3) rfl rfl;refine ⟨h1,aL is112 hG rfl ((t112_eq _ _ _ _ _).trans ?_),o1⟩;unfold t112;simp -implicitDefEqProofs only [l2 h (az.refl _ _),bX,aB,DH,lv h (az.refl _ _),ix,ld h (az.refl _ _),e1,l3 h1 o1,e2,ge0,l3 h (az.refl _ _),oV,D9,aj,ak];rfl
theorem call112 (x y z:Value) (h:ai):callA prog CW (.func (.func 79) #[] #[y,z]) [x] h=CW 79 [x,y,z] h:=by have hf:=EY fs_124;unfold callA;simp only;generalize prog.funcs.size=n at *;rw [DL (show (79:Nat)<n by omega)];rfl
theorem box_ptr (b o:Nat) (h:ai):box (ptr b o) h=some (ptr h.next 0,h.alloc [ptr b o]):=rfl
theorem box_sl (a:Option Addr) (n c:Nat) (h:ai):box (.slice a n c) h=some (ptr h.next 0,h.alloc [.slice a n c]):=rfl
theorem ks_lt {R:List av} (ks:KS R) {i j:Nat} (hij:i<j) (hj:j<R.length):gN R[i] R[j]<0:=by have h:=ks;unfold KS at h;rw [HE] at h;exact h i j (by omega) hj hij
theorem cmpB_mono {a b:av} {l:List Nat} (h:gN a b<0) (h1:0<=jv a l):0<=jv b l:=by
 unfold jv gN at *;have h2:=qy (xT a) (l.map UInt8.ofNat);have h3:=qy (xT b) (l.map UInt8.ofNat);have h4:=qy (xT a) (xT b);have:=kV (l.map UInt8.ofNat);by_cases h5:compareBytes (xT b) (l.map UInt8.ofNat)<0
 ·have:=uk _ _ _ h h5;omega
 ·omega
theorem r56 {h:ai} (hG:4<=h.n0) {vb:Nat} {va:Value} {R:List av} (gv:h.get vb=some [va]) (RS:kz h va R) (ks:KS R) (hR:R.length<=1000000) {a:Option Addr} {n c:Nat} {l:List Nat} (hk:ax a n h=some l) :
  ∃ k h',CW 44 [ptr vb 0,.slice a n c] h=some (aq k,h')/\aE h h'/\k<=R.length/\(∀ i,(hi:i<R.length)->i<k->jv R[i] l<0) /\ ∀ i,(hi:i<R.length)->k<=i->0<=jv R[i] l:=by
 have o1:aE h (h.alloc [ptr vb 0]):=az.alloc _ _ _;have b1:=box_ptr vb 0 h;have g1:(h.alloc [ptr vb 0]).get h.next=some [ptr vb 0]:=by rw [ai.aN,DL rfl]
 have n1:(h.alloc [ptr vb 0]).next=h.next+1:=rfl;generalize h.alloc [ptr vb 0]=h1 at *;have o2:aE h1 (h1.alloc [.slice a n c]):=az.alloc _ _ _;have b2:=box_sl a n c h1;have g2:(h1.alloc [.slice a n c]).get h1.next=some [.slice a n c]:=by rw [ai.aN,DL rfl]
 generalize h1.alloc [.slice a n c]=h2 at *;have O2:=o1.trans o2;have g1':=aE.get o2 g1;have gv':=aE.get O2 gv;have hll:=RS.len;have lv:ld1 (ptr vb 0) h2=some (va,h2):=aW gv' rfl (by obtain ⟨⟨a,c,rfl⟩,_⟩:=RS;rfl);have l1:ld1 (ptr h.next 0) h2=some (ptr vb 0,h2):=aW g1' rfl rfl;have hG2:4<=h2.n0:=by rw [O2.n0];exact hG
 obtain ⟨k,h3,e3,o3,hk1,hk2,hk3⟩:=r111 (h:=h2) hG2 (fv := .func (.func 79) #[] #[ptr h.next 0,ptr h1.next 0]) (n:=R.length) hR (fun i=>decide (0<=jv (R.getD i av.z) l))
  (fun i hi g og=>by obtain ⟨g',e,o⟩:=r112 (h:=g) (by rw [og.n0];exact hG2) (aE.get og g1') (aE.get og gv') ((RS.mono O2).mono og) (aE.get og g2) (aE.bytes (O2.trans og) hk) hi;refine ⟨g',?_,o⟩;rw [call112,e,DJ,DB hi];rfl)
  (fun i j hij hj hp=>by
   rcases Nat.eq_or_lt_of_le hij with rfl|hlt
   ·exact hp
   ·have hi:i<R.length:=by omega
    simp only [DJ,DB hi,DB hj,Option.getD_some,DS] at hp |-;exact cmpB_mono (ks_lt ks hlt hj) hp)
 refine ⟨k,h3,aL is56 hG rfl ((t56_eq _ _ _ _).trans ?_),O2.trans o3,hk1,fun i hi hik => ?_,fun i hi hik => ?_⟩
 ·unfold t56;simp -implicitDefEqProofs only [b1,b2,l1,bX,aB,DH,lv,hll,e3,aj,ak]
 ·have:=hk2 i hik;simp only [DJ,DB hi,Option.getD_some,FX] at this;omega
 ·have:=hk3 i hik hi;simp only [DJ,DB hi,Option.getD_some,DS] at this;exact this
theorem is20:cx prog 18 f18:=by constructor<;>kernel_rfl
theorem gC.part {h:ai} {v:Value} {R:List av} (x:gC h v R) (n:gx v) {i j:Nat} (hij:i<=j) (hj:j<=R.length) : ∃ v',nT 39 v (some (aq i)) (some (aq j)) none=some v'/\gC h v' ((R.take j).drop i)/\gx v':=by
 obtain ⟨hd,a,d,rfl,hn,ht,h0⟩:=x;have hd' : ∀ p∈(R.take j).drop i,av.Wf p:=fun p hp=>hd p (EZ (FJ hp));rcases n with h1|⟨a',n',c',h1,hc,hs⟩
 ·cases a with
  |some a=>cases h1
  |none=>
   injection h1 with _ e1 e2
   have hR:R = []:=DW.1 e1;subst hR;subst e2;obtain rfl:j=0:=by rw [List.length_nil] at hj;omega
   obtain rfl:i=0:=by omega
   exact ⟨.slice none 0 0,rfl,⟨hd',none,0,rfl,fun _=>rfl,fu hd',fun h=>absurd h (GH 0)⟩,.inl rfl⟩
 ·injection h1 with e1 e2 e3
  subst e1 e2 e3;obtain ⟨b,o,s⟩:=a';have hl:((R.take j).drop i).length=j-i:=by rw [EB,DV];omega
  have hb:boundsA R.length d (some (aq i)) (some (aq j)) none=some (i,j,d):=by
   have a1:boundA d d none=some d:=rfl;have a2:boundA R.length d (some (aq j))=some j:=by unfold boundA aq;simp only;rw [DL (by omega)];rfl
   have a3:boundA 0 j (some (aq i))=some i:=by unfold boundA aq;simp only;rw [DL (by omega)];rfl
   unfold boundsA;simp only [a1,a2,a3]
  have hc:R.length<=d:=hc;have hsl : ∃ o',nT 39 (.slice (some ⟨b,o,s⟩) R.length d) (some (aq i)) (some (aq j)) none=some (.slice (some ⟨b,o',s⟩) (j-i) (d-i))/\(i<d->o'=o+i*39):=by
   unfold nT sliceSl;cases s with
   |none=>
    simp only [hb];by_cases hdi:d=i
    ·exact ⟨o,by rw [DL hdi],fun h=>by omega⟩
    ·exact ⟨o+i*39,by rw [DM hdi],fun _=>rfl⟩
   |some t=>
    have:t=39:=hs t rfl;subst this;simp only [hb];exact ⟨o+i*39,by rw [DL ⟨True.intro,by decide⟩],fun _=>rfl⟩
  obtain ⟨oo,hsl,hoo⟩:=hsl;refine ⟨.slice (some ⟨b,oo,s⟩) (j-i) (d-i),hsl,⟨hd',some ⟨b,oo,s⟩,d-i,by rw [hl],(fun h=>by cases h),fu hd',fun hp => ?_⟩,.inr ⟨_,_,_,rfl,(show j-i<=d-i by omega),hs⟩⟩
  ·rw [hl] at hp;obtain ⟨b',o',s',k,e,hk,hlen,hcs⟩:=h0 (by omega);cases e;obtain rfl:=hoo (by omega);rw [show jO.length=39 from rfl] at hlen hcs;have h2:(j-i)*39=j*39-i*39:=Nat.sub_mul ..;have h3:i*39<=j*39:=GC _ hij;have h4:j*39<=R.length*39:=GC _ hj;refine ⟨b,o+i*39,s,k,rfl,hk,by rw [hl,show jO.length=39 from rfl];omega,?_⟩;rw [hl,show jO.length=39 from rfl];have e1:bA ((R.take j).drop i)=((bA R).take (j*39)).drop (i*39):=by
    have lt:(R.take j).length=j:=by rw [DV];omega
    have wt : ∀ p∈R.take j,av.Wf p:=fun p hp=>hd p (EZ hp);have q1:bA (R.take j)=(bA R).take (j*39):=by
     conv=>rhs;rw [<-List.take_append_drop j R,jF]
     rw [HC (by rw [dE wt,lt])]
    have wti : ∀ p∈(R.take j).take i,av.Wf p:=fun p hp=>wt p (EZ hp);have lti:((R.take j).take i).length=i:=by rw [DV];omega
    have q2:bA ((R.take j).drop i)=(bA (R.take j)).drop (i*39):=by
     conv=>rhs;rw [<-List.take_append_drop i (R.take j),jF]
     rw [HW (by rw [dE wti,lti])]
    rw [q2,q1]
   rw [e1,<-hcs,H2,HI h4,IH,FV,h2]
def cX (lo hi:List Nat) (r:av):Bool:=decide (0<=jv r lo)&&(decide (hi = [])||decide (jv r hi<0))
theorem ov {R:List av} {p:av->Bool} {i j:Nat} (hij:i<=j) (hj:j<=R.length) (h1 : ∀ k,(hk:k<R.length)->i<=k->k<j->p R[k]=true) (h2 : ∀ k,(hk:k<R.length)->(k<i\/j<=k)->p R[k]=false):(R.take j).drop i=R.filter p:=by
 have e:R=(R.take j).take i++((R.take j).drop i++R.drop j):=by rw [<-List.append_assoc,FC,FC]
 conv=>rhs;rw [e,IB,IB]
 have a1:((R.take j).take i).filter p = []:=by rw [List.filter_eq_nil_iff];intro x hx;obtain ⟨k,hk,rfl⟩:=FE.1 hx;rw [DV,DV] at hk;rw [IW,IW,h2 k (by omega) (.inl (by omega))];decide
 have a3:(R.drop j).filter p = []:=by rw [List.filter_eq_nil_iff];intro x hx;obtain ⟨k,hk,rfl⟩:=FE.1 hx;rw [EB] at hk;rw [IX,h2 (j+k) (by omega) (.inr (by omega))];decide
 have a2:((R.take j).drop i).filter p=(R.take j).drop i:=by rw [JE];intro x hx;obtain ⟨k,hk,rfl⟩:=FE.1 hx;rw [EB,DV] at hk;rw [IX,IW,h1 (i+k) (by omega) (by omega) (by omega)]
 rw [a1,a2,a3,List.nil_append,EU]
theorem max3 (a b:Nat):minmax true (aq a) [aq b]=some (aq (max a b)):=by
 unfold aq minmax;simp only [EA];unfold minmax;by_cases h:a<b
 ·rw [DL (by simpa using h)]
  congr 2
  omega
 ·rw [DM (by simpa using h)]
  congr 2
  omega
theorem xm (n:Nat) (g:ai):cq true (some (aq n,g)) (aq n)=true:=CB .i64 _ _
set_option maxRecDepth 100000 in
theorem r20 {h:ai} (hG:4<=h.n0) {vb:Nat} {va:Value} {R:List av} (gv:h.get vb=some [va]) (RS:gC h va R) (nv:gx va) (ks:KS R) (hR:R.length<=1000000) {al ah:Option Addr} {nl cl nh ch:Nat} {lo hi:List Nat} (hlo:ax al nl h=some lo) (hhi:ax ah nh h=some hi) :
  ∃ v' h',CW 18 [ptr vb 0,.slice al nl cl,.slice ah nh ch] h=some (v',h')/\aE h h'/\kz h' v' (R.filter (cX lo hi)):=by
 obtain ⟨k1,h1,e1,o1,a1,a2,a3⟩:=r56 (c:=cl) hG gv RS.rsl ks hR hlo;have lv : ∀ g,aE h g->ld1 (ptr vb 0) g=some (va,g):=fun g og=>aW (aE.get og gv) rfl (yQ nv);have hll:=RS.rsl.len;have cv : ∀ g,cq true (some (va,g)) va=true:=fun g=>by rcases nv with rfl|⟨a,n,c,rfl,_⟩<;>exact oV ..
 have hlen:=(aH hhi).1;have gtr0:aF prog .gtr 3 (aq nh) (.int .i64 0)=some (.bool (decide (0<nh))):=zk nh 0 0 rfl;have hnh : ∀ n c:Nat,∀ a:Option Addr,lenL (.slice a n c)=some (aq n):=fun _ _ _=>rfl;by_cases h0:0<nh
 ·obtain ⟨k2,h2,e2,o2,b1,b2,b3⟩:=r56 (h:=h1) (c:=ch) (by rw [o1.n0];exact hG) (aE.get o1 gv) (RS.mono o1).rsl ks hR (aE.bytes o1 hhi);have O2:=o1.trans o2;obtain ⟨v3,s3,r3,n3⟩:=(RS.mono O2).part nv (i:=k1) (j:=max k1 k2) (by omega) (by omega);obtain ⟨v4,h4,e4,o4,r4⟩:=r57 (h:=h2) (by rw [O2.n0];exact hG) r3 n3 (by rw [EB,DV];omega);refine ⟨v4,h4,aL is20 hG rfl ((C6 _ _ _ _ _).trans ?_),O2.trans o4,?_⟩
  ·unfold t20;simp -implicitDefEqProofs only [mM,e1,bX,aB,DH,lv h1 o1,lv h (az.refl _ _),hll,cv,ak,xm,D9,hnh,gtr0,DC h0,e2,max3,lv h2 O2,s3,e4,aj]
  ·have:(R.take (max k1 k2)).drop k1=R.filter (cX lo hi):=by
    refine ov (by omega) (by omega) (fun k hk q1 q2 => ?_) (fun k hk q => ?_)
    ·have p1:=a3 k hk q1;have p2:=b2 k hk (by omega);unfold cX;rw [DC p1,DC p2,E7];rfl
    ·unfold cX;rcases q with q|q
     ·have:=a2 k hk q;rw [DF (by omega : ¬0<=jv R[k] lo),EG]
     ·have p:=b3 k hk (by omega);have hne:hi ≠ []:=fun e=>by rw [e] at hlen;rw [List.length_nil] at hlen;omega
      rw [DF hne,DF (by omega : ¬jv R[k] hi<0),EX,ES]
   rw [<-this];exact r4
 ·obtain ⟨v3,s3,r3,n3⟩:=(RS.mono o1).part nv (i:=k1) (j:=R.length) a1 (DD _);obtain ⟨v4,h4,e4,o4,r4⟩:=r57 (h:=h1) (by rw [o1.n0];exact hG) r3 n3 (by rw [EB,DV];omega);refine ⟨v4,h4,aL is20 hG rfl ((C6 _ _ _ _ _).trans ?_),o1.trans o4,?_⟩
  ·unfold t20;simp -implicitDefEqProofs only [mM,e1,bX,aB,DH,lv h1 o1,lv h (az.refl _ _),hll,cv,ak,xm,D9,hnh,gtr0,DF h0,s3,e4,aj]
  ·have:(R.take R.length).drop k1=R.filter (cX lo hi):=by
    have hnil:hi = []:=DW.1 (by omega);refine ov a1 (DD _) (fun k hk q1 q2 => ?_) (fun k hk q => ?_)
    ·have p1:=a3 k hk q1;unfold cX;rw [DC p1,DC hnil];rfl
    ·unfold cX;rcases q with q|q
     ·have:=a2 k hk q;rw [DF (by omega : ¬0<=jv R[k] lo),EG]
     ·omega
   rw [<-this];exact r4
def mZ:List Value:=bn z32++([.int .i64 0,.int .i64 0,.int .i64 0,.int .i64 0]++(bn z32 ++ [.slice none 0 0,.int .i64 0,.slice none 0 0,.int .i64 0]))
structure cR where
 kind:Nat
 frm:Int
 to:Int
 al:Option Addr
 nl:Nat
 cl:Nat
 ah:Option Addr
 nh:Nat
 ch:Nat
 cnt:Int
 root:List Nat
 ar:Option Addr
 nr:Nat
 cr:Nat
 want:Bool
 v3:Value := .int .u64 0
 v4:Value := .int .i64 0
 v5:Value := .int .i64 0
 v6:Value := .slice none 0 0
 tl:List Value:=mZ
abbrev mk0 (kind:Nat) (frm to:Int) (al:Option Addr) (nl cl:Nat) (ah:Option Addr) (nh ch:Nat) (cnt:Int) (root:List Nat) (ar:Option Addr) (nr cr:Nat) (want:Bool):cR where
 kind:=kind
 frm:=frm
 to:=to
 al:=al
 nl:=nl
 cl:=cl
 ah:=ah
 nh:=nh
 ch:=ch
 cnt:=cnt
 root:=root
 ar:=ar
 nr:=nr
 cr:=cr
 want:=want
abbrev cR.lo (m:cR):Value := .slice m.al m.nl m.cl
abbrev cR.hi (m:cR):Value := .slice m.ah m.nh m.ch
abbrev cR.od (m:cR):Value := .slice m.ar m.nr m.cr
def mHd (m:cR):List Value := [.int .u8 (m.kind:Int),.int .i64 m.frm,.int .i64 m.to,m.v3,m.v4,m.v5,m.v6,m.lo,m.hi,.int .i64 m.cnt]
def mC (m:cR):List Value:=mHd m++(bn m.root++([m.od,.bool m.want]++m.tl))
abbrev mV (m:cR):Value := .agg (mC m).toArray
def zM:List Value := [.int .u8 0,.int .i64 0,.int .i64 0,.int .u64 0,.int .i64 0,.int .i64 0,.slice none 0 0,.slice none 0 0,.slice none 0 0,.int .i64 0]++(bn z32++([.slice none 0 0,.bool false]++mZ))
structure MG (m:cR):Prop where
 d32:js m.root
 h4:Abs.noHoles [m.v3,m.v4,m.v5,m.v6]=true
 o4:aM [m.v3,m.v4,m.v5,m.v6]=true
 tl:m.tl.length=72
 ht:Abs.noHoles m.tl=true
 ot:aM m.tl=true
def MZ (m:cR):Prop:=m.v3 = .int .u64 0/\m.v4 = .int .i64 0/\m.v5 = .int .i64 0/\m.v6 = .slice none 0 0/\m.tl=mZ
theorem MZ.mg {m:cR} (h:MZ m) (d:js m.root):MG m:=by
 obtain ⟨h1,h2,h3,h4,h5⟩:=h;refine ⟨d,?_,?_,?_,?_,?_⟩
 ·rw [h1,h2,h3,h4];rfl
 ·rw [h1,h2,h3,h4];rfl
 ·rw [h5];rfl
 ·rw [h5];decide
 ·rw [h5];decide
theorem gf {m:cR} (hr:MG m):(mC m).length=116/\Abs.noHoles (mC m)=true/\aM (mC m)=true:=by
 have d:=aZ hr.d32;have z1:=hr.tl;have z2:=hr.ht;have z3:=hr.ot;have a2:=hr.h4;have a3:=hr.o4;refine ⟨?_,?_,?_⟩
 ·unfold mC;rw [DE,DE,DE,d.1,z1];rfl
 ·unfold mC mHd Abs.noHoles at *;rw [FI,FI,FI,d.2.1,z2];simp only [List.all_cons,List.all_nil,D9,DK] at a2 |-;exact ⟨⟨rfl,rfl,rfl,a2.1,a2.2.1,a2.2.2.1,a2.2.2.2,rfl,rfl,rfl⟩,trivial,rfl,rfl⟩
 ·unfold mC mHd aM at *;rw [FI,FI,FI,d.2.2,z3];simp only [List.all_cons,List.all_nil,D9,DK] at a3 |-;exact ⟨⟨rfl,rfl,rfl,a3.1,a3.2.1,a3.2.2.1,a3.2.2.2,rfl,rfl,rfl⟩,trivial,rfl,rfl⟩
theorem ki (m:cR) {i:Nat} {v:Value} (h:(mHd m)[i]? = some v):(mC m)[i]? = some v:=by
 unfold mC;have hi:i<(mHd m).length:=by
  rcases GB i (mHd m).length with h1|h1
  ·exact h1
  ·rw [ET h1] at h;cases h
 rw [E9 hi];exact h
theorem mC_tl {m:cR} (hr:js m.root) {j:Nat} {v:Value} (h:([m.od,.bool m.want]++m.tl)[j]? = some v):(mC m)[42+j]? = some v:=by unfold mC;have d:=(aZ hr).1;have l10:(mHd m).length=10:=rfl;rw [EH (by omega),EH (by omega),l10,d,show 42+j-10-32=j by omega];exact h
structure MLd (h:ai) (b:Nat) (m:cR):Prop where
 l0:ld1 (ptr b 0) h=some (.int .u8 (m.kind:Int),h)
 l1:ld1 (ptr b 1) h=some (.int .i64 m.frm,h)
 l2:ld1 (ptr b 2) h=some (.int .i64 m.to,h)
 l7:ld1 (ptr b 7) h=some (m.lo,h)
 l8:ld1 (ptr b 8) h=some (m.hi,h)
 l9:ld1 (ptr b 9) h=some (.int .i64 m.cnt,h)
 l10:du 32 (ptr b 10) h=some (.agg (bn m.root).toArray,h)
 l42:ld1 (ptr b 42) h=some (m.od,h)
 l43:ld1 (ptr b 43) h=some (.bool m.want,h)
 all:du 116 (ptr b 0) h=some (mV m,h)
theorem qz {h:ai} {b:Nat} {m:cR} (hg:MG m) (g:h.get b=some (mC m)):MLd h b m:=by
 have hr:=hg.d32;have ok:=gf hg;have d:=aZ hr;refine ⟨aW g (ki m rfl) rfl,aW g (ki m rfl) rfl,aW g (ki m rfl) rfl,aW g (ki m rfl) rfl,aW g (ki m rfl) rfl,aW g (ki m rfl) rfl,?_,aW g (mC_tl hr (j:=0) rfl) rfl,aW g (mC_tl hr (j:=1) rfl) rfl,bj g ok.1 ok.2.1⟩;have e:((mC m).drop 10).take 32=bn m.root:=by unfold mC;rw [HW (by rfl),HC d.1]
 have:=qF (o:=10) (n:=32) g (by rw [ok.1];decide) (by rw [e];exact d.2.1);rw [e] at this;exact this
abbrev sumM (al:Option Addr) (nl cl:Nat) (ah:Option Addr) (nh ch n:Nat) (root:List Nat):cR:=mk0 4 0 0 al nl cl ah nh ch (n:Int) root none 0 0 false
theorem bld_sum {al:Option Addr} {nl cl:Nat} {ah:Option Addr} {nh ch n:Nat} {root:List Nat} (hr:js root):fZ zM [(0,1,.int .u8 4),(7,1,.slice al nl cl),(8,1,.slice ah nh ch),(9,1,aq n),(10,32,.agg (bn root).toArray)]=some (mV (sumM al nl cl ah nh ch n root)):=by have e:fillL zM [(0,1,.int .u8 4),(7,1,.slice al nl cl),(8,1,.slice ah nh ch),(9,1,aq n),(10,32,.agg (bn root).toArray)]=fillL (mHd (sumM al nl cl ah nh ch n root)++(bn z32++([.slice none 0 0,.bool false]++mZ))) [(10,32,.agg (bn root).toArray)]:=rfl;unfold fZ;rw [e,iq (A:=mHd (sumM al nl cl ah nh ch n root)) (B:=bn z32) (o:=10) (n:=32) rfl rfl rfl (aZ hr).1];rfl
theorem is17:cx prog 15 f15:=by constructor<;>kernel_rfl
theorem is100:cx prog 27 f27:=by constructor<;>kernel_rfl
theorem is50:cx prog 9 f9:=by constructor<;>kernel_rfl
theorem agg42:su prog 43=some true:=by kernel_rfl
theorem siz42:cS prog 43=some 116:=by kernel_rfl
theorem results17:f15.results.toList = [.cell 6 43]:=by kernel_rfl
theorem gD {a:Option Addr} {n:Nat} {h h':ai} {l:List Nat} (e:ax a n h=some l) (hk : ∀ y,a=some y->h'.get y.block=h.get y.block):ax a n h'=some l:=by
 rw [<-e];unfold ax
 congr 1
 cases a with
 |none=>rfl
 |some y=>
  obtain ⟨b,o,s⟩:=y;have:=hk _ rfl;unfold firstA;simp only;rw [this]
set_option maxRecDepth 100000 in
theorem r17 {h:ai} (hG:4<=h.n0) (hz:h.get 3=some bT) {vb:Nat} {va:Value} {R:List av} (gv:h.get vb=some [va]) (RS:gC h va R) (nv:gx va) (ks:KS R) (vl:mQ R) (hR:R.length<=1000000) {al ah:Option Addr} {nl cl nh ch:Nat} {lo hi:List Nat}
  (hlo:ax al nl h=some lo) (hhi:ax ah nh h=some hi) (hnl:nl<=21000) (hnh:nh<=21000) :
  ∃ al' cl' ah' ch' h',CW 15 [ptr vb 0,.slice al nl cl,.slice ah nh ch] h=some (mV (sumM al' nl cl' ah' nh ch' (R.filter (cX lo hi)).length (cM (R.filter (cX lo hi)))),h')/\aE h h'/\ax al' nl h'=some lo/\ax ah' nh h'=some hi /\
    (∀ y,al'=some y->h.next<=y.block/\y.block<h'.next)/\(∀ y,ah'=some y->h.next<=y.block/\y.block<h'.next):=by
 obtain ⟨h1,z1,o1,g1,n1⟩:=fresh zM h;obtain ⟨v2,h2,e2,o2,r2⟩:=r20 (h:=h1) (cl:=cl) (ch:=ch) (by rw [o1.n0];exact hG) (aE.get o1 gv) (RS.mono o1) nv ks hR (aE.bytes o1 hlo) (aE.bytes o1 hhi);have O2:=o1.trans o2;obtain ⟨al',cl',h3,e3,s3,_,o3,p3,_⟩:=r69b (h:=h2) (c:=cl) (by rw [O2.n0];exact hG) (aE.bytes O2 hlo) hnl;have O3:=O2.trans o3;obtain ⟨ah',ch',h4,e4,s4,_,o4,p4,_⟩:=r69b (h:=h3) (c:=ch) (by rw [O3.n0];exact hG) (aE.bytes O3 hhi) hnh;have O4:=O3.trans o4;have vF : ∀ r∈R.filter (cX lo hi),dX r=true:=fun r hr=>(vl r (EE.1 hr).1).2;have hfl:=FB (cX lo hi) R;have r4:=(r2.mono o3).mono o4;obtain ⟨h5,e5,o5⟩:=r54 (h:=h4) (by rw [O4.n0];exact hG) (aE.get O4 hz) r4 vF (by omega);have O5:=O4.trans o5;have hd:=fR (R.filter (cX lo hi));have hll:=r2.len;generalize cM (R.filter (cX lo hi))=root at *;generalize (R.filter (cX lo hi)).length=n at *;have bs:=bld_sum (al:=al') (nl:=nl) (cl:=cl') (ah:=ah') (nh:=nh) (ch:=ch') (n:=n) hd;have ok:=gf (m:=sumM al' nl cl' ah' nh ch' n root) (MZ.mg ⟨rfl,rfl,rfl,rfl,rfl⟩ hd);obtain ⟨h6,e6,k6,g6,_,n6⟩:=aY (n:=116) (k':=mC (sumM al' nl cl' ah' nh ch' n root)) (aE.get (((o2.trans o3).trans o4).trans o5) g1) (by rw [O5.n0];exact h.n0_le_next) rfl ok.1 ok.2.2;have O6:aE h h6:=aE.bK O5 k6 (DD _);refine ⟨al',cl',ah',ch',h6,aL is17 hG rfl ((t17_eq _ _ _ _ _).trans ?_),O6,?_,?_,fun y hy => ?_,fun y hy => ?_⟩
 ·unfold t17;have z1:eH zM h=some (ptr h.next 0,h1):=z1;simp -implicitDefEqProofs only [mM,aj,ak];refine (GM (fun o=>af o _) z1).trans ?_;simp -implicitDefEqProofs only [e2,e3,e4,hll,e5,aj,ak];refine (GM (fun o=>af (pu o _) _) bs).trans ?_;simp -implicitDefEqProofs only [e6,aj,ak];refine dG results17 agg42 siz42 (by decide) _ ?_;exact bj g6 ok.1 ok.2.1
 ·refine gD (aE.bytes (o4.trans o5) s3) fun y hy=>k6.get _ ?_ ?_
  ·have:=p3 y hy;have:=o4.next;have:=o5.next;omega
  ·have:=p3 y hy;have:=O2.next;have:=o2.next;intro q;have q:y.block=h.next:=q;omega
 ·refine gD (aE.bytes o5 s4) fun y hy=>k6.get _ ?_ ?_
  ·have:=p4 y hy;have:=o5.next;omega
  ·have:=p4 y hy;have:=O3.next;have:=o2.next;have:=o3.next;intro q;have q:y.block=h.next:=q;omega
 ·have:=p3 y hy;have:=o3.next;have:=O2.next;have:=o4.next;have:=o5.next;omega
 ·have:=p4 y hy;have:=O3.next;have:=o5.next;omega
theorem r57L {h:ai} (hG:4<=h.n0) {v:Value} {L:List av} (x:gC h v L) (hn:gx v) (hl:L.length<=1000000) : ∃ v' h',CW 40 [v] h=some (v',h')/\aE h h'/\dP 39 h' h.next v' L.length (bA L):=by
 rcases hn with rfl|⟨a,n,c,rfl,_⟩
 ·have hL:L = []:=by
   obtain ⟨_,a,d,e,_⟩:=x;injection e with _ e1 _
   exact DW.1 e1.symm
  subst hL;refine ⟨.slice none 0 0,h,aL is57 hG rfl ((Cr _ _ _).trans ?_),az.refl _ _,dP.nil 39 h h.next⟩;unfold t57;simp -implicitDefEqProofs only [nilT22,aj,ak]
 ·have o1:aE h (h.alloc []):=az.alloc _ _ _;have r0:jc (h.alloc []) h.next (.slice (some ⟨h.next,0,none⟩) 0 0) []:=⟨(fun _ h=>by cases h),h.next,none,rfl,by rw [ai.aN,DL rfl];rfl,DD _,.inl ⟨rfl,rfl⟩⟩
  obtain ⟨v',h',e,r,k,_⟩:=r0.pushL (x.mono o1) (by rw [o1.n0];exact h.n0_le_next) o1.next (by decide) hl;rw [List.nil_append] at r;have b0:dg 39 (.agg zrC.toArray) 0 [] h=some (.slice (some ⟨h.next,0,none⟩) 0 0,h.alloc []):=rfl;refine ⟨v',h',aL is57 hG rfl ((Cr _ _ _).trans ?_),aE.bK o1 k (DD _),?_⟩
  ·unfold t57;simp -implicitDefEqProofs only [nilS22,aj,ak];refine (GM (fun o=>af o _) b0).trans ?_;simp -implicitDefEqProofs only [e, aj]
  ·obtain ⟨hw,b,s,rfl,g1,g2,g3⟩:=r;have ok:=lP hw;refine ⟨dE hw,ok.1,ok.2,.inr ⟨b,s,rfl,g1,g2,?_⟩⟩;rcases g3 with ⟨q,rfl⟩|⟨q,rfl⟩
   ·exact .inl ⟨by rw [q];rfl,rfl⟩
   ·exact .inr ⟨H7.2 q,rfl⟩
theorem dP.rc {h:ai} {N:Nat} {v:Value} {L:List av} (x:dP 39 h N v L.length (bA L)) (hw : ∀ r∈L,av.Wf r):gC h v L:=by
 rcases x.form with ⟨h0,rfl⟩|⟨b,s,rfl,g,_⟩
 ·have:L = []:=DW.1 h0;subst this;exact ⟨(fun _ h=>by cases h),none,0,rfl,(fun _=>rfl),fu (P := []) (fun _ h=>by cases h),fun h=>absurd h (GH 0)⟩
 ·exact gC.of_blk hw rfl g
theorem dP.nok {h:ai} {N:Nat} {v:Value} {n:Nat} {cs:List Value} (x:dP 39 h N v n cs):gx v:=by
 rcases x.form with ⟨rfl,rfl⟩|⟨b,s,rfl,g,_,q⟩
 ·exact .inl rfl
 ·refine .inr ⟨_,_,_,rfl,DD _,fun t e => ?_⟩;have e:s=some t:=e;rcases q with ⟨_,rfl⟩|⟨_,rfl⟩
  ·cases e
  ·exact (H5 e).symm
theorem r20L {h:ai} (hG:4<=h.n0) {vb:Nat} {va:Value} {R:List av} (gv:h.get vb=some [va]) (RS:gC h va R) (nv:gx va) (ks:KS R) (hR:R.length<=1000000) {al ah:Option Addr} {nl cl nh ch:Nat} {lo hi:List Nat} (hlo:ax al nl h=some lo) (hhi:ax ah nh h=some hi) :
  ∃ v' h',CW 18 [ptr vb 0,.slice al nl cl,.slice ah nh ch] h=some (v',h')/\aE h h'/\dP 39 h' h.next v' (R.filter (cX lo hi)).length (bA (R.filter (cX lo hi))) /\ ∀ r∈R.filter (cX lo hi),av.Wf r:=by
 obtain ⟨k1,h1,e1,o1,a1,a2,a3⟩:=r56 (c:=cl) hG gv RS.rsl ks hR hlo;have lv : ∀ g,aE h g->ld1 (ptr vb 0) g=some (va,g):=fun g og=>aW (aE.get og gv) rfl (yQ nv);have hll:=RS.rsl.len;have cv : ∀ g,cq true (some (va,g)) va=true:=fun g=>by rcases nv with rfl|⟨a,n,c,rfl,_⟩<;>exact oV ..
 have hlen:=(aH hhi).1;have gtr0:aF prog .gtr 3 (aq nh) (.int .i64 0)=some (.bool (decide (0<nh))):=zk nh 0 0 rfl;have hnh : ∀ n c:Nat,∀ a:Option Addr,lenL (.slice a n c)=some (aq n):=fun _ _ _=>rfl;have wf : ∀ r∈R.filter (cX lo hi),av.Wf r:=fun r hr=>RS.1 r (EE.1 hr).1;by_cases h0:0<nh
 ·obtain ⟨k2,h2,e2,o2,b1,b2,b3⟩:=r56 (h:=h1) (c:=ch) (by rw [o1.n0];exact hG) (aE.get o1 gv) (RS.mono o1).rsl ks hR (aE.bytes o1 hhi);have O2:=o1.trans o2;obtain ⟨v3,s3,r3,n3⟩:=(RS.mono O2).part nv (i:=k1) (j:=max k1 k2) (by omega) (by omega);obtain ⟨v4,h4,e4,o4,r4⟩:=r57L (h:=h2) (by rw [O2.n0];exact hG) r3 n3 (by rw [EB,DV];omega);refine ⟨v4,h4,aL is20 hG rfl ((C6 _ _ _ _ _).trans ?_),O2.trans o4,?_,wf⟩
  ·unfold t20;simp -implicitDefEqProofs only [mM,e1,bX,aB,DH,lv h1 o1,lv h (az.refl _ _),hll,cv,ak,xm,D9,hnh,gtr0,DC h0,e2,max3,lv h2 O2,s3,e4,aj]
  ·have:(R.take (max k1 k2)).drop k1=R.filter (cX lo hi):=by
    refine ov (by omega) (by omega) (fun k hk q1 q2 => ?_) (fun k hk q => ?_)
    ·have p1:=a3 k hk q1;have p2:=b2 k hk (by omega);unfold cX;rw [DC p1,DC p2,E7];rfl
    ·unfold cX;rcases q with q|q
     ·have:=a2 k hk q;rw [DF (by omega : ¬0<=jv R[k] lo),EG]
     ·have p:=b3 k hk (by omega);have hne:hi ≠ []:=fun e=>by rw [e] at hlen;rw [List.length_nil] at hlen;omega
      rw [DF hne,DF (by omega : ¬jv R[k] hi<0),EX,ES]
   rw [<-this];obtain ⟨x1,x2,x3,x4⟩:=r4;refine ⟨x1,x2,x3,?_⟩;rcases x4 with q|⟨b,s,q1,q2,q3,q4⟩
   ·exact .inl q
   ·exact .inr ⟨b,s,q1,q2,D7 O2.next q3,q4⟩
 ·obtain ⟨v3,s3,r3,n3⟩:=(RS.mono o1).part nv (i:=k1) (j:=R.length) a1 (DD _);obtain ⟨v4,h4,e4,o4,r4⟩:=r57L (h:=h1) (by rw [o1.n0];exact hG) r3 n3 (by rw [EB,DV];omega);refine ⟨v4,h4,aL is20 hG rfl ((C6 _ _ _ _ _).trans ?_),o1.trans o4,?_,wf⟩
  ·unfold t20;simp -implicitDefEqProofs only [mM,e1,bX,aB,DH,lv h1 o1,lv h (az.refl _ _),hll,cv,ak,xm,D9,hnh,gtr0,DF h0,s3,e4,aj]
  ·have:(R.take R.length).drop k1=R.filter (cX lo hi):=by
    have hnil:hi = []:=DW.1 (by omega);refine ov a1 (DD _) (fun k hk q1 q2 => ?_) (fun k hk q => ?_)
    ·have p1:=a3 k hk q1;unfold cX;rw [DC p1,DC hnil];rfl
    ·unfold cX;rcases q with q|q
     ·have:=a2 k hk q;rw [DF (by omega : ¬0<=jv R[k] lo),EG]
     ·omega
   rw [<-this];obtain ⟨x1,x2,x3,x4⟩:=r4;refine ⟨x1,x2,x3,?_⟩;rcases x4 with q|⟨b,s,q1,q2,q3,q4⟩
   ·exact .inl q
   ·exact .inr ⟨b,s,q1,q2,D7 o1.next q3,q4⟩
structure AM where
 kind:Nat
 frm:Int
 to:Int
 lo:List Nat
 hi:List Nat
 cnt:Int
 root:List Nat
 L:List av
 want:Bool
structure ql (g:ai) (m:cR) (x:AM):Prop where
 kind:m.kind=x.kind
 frm:m.frm=x.frm
 to:m.to=x.to
 cnt:m.cnt=x.cnt
 root:m.root=x.root
 want:m.want=x.want
 d32:js x.root
 lo:ax m.al m.nl g=some x.lo
 hi:ax m.ah m.nh g=some x.hi
 rs:gC g m.od x.L
 mg:MG m
structure sv (g:ai) (N:Nat) (m:cR) (n:Nat) (cs:List Value):Prop where
 lo : ∀ y,m.al=some y->N<=y.block/\y.block<g.next
 hi : ∀ y,m.ah=some y->N<=y.block/\y.block<g.next
 rs:dP 39 g N m.od n cs
 zr:MZ m
theorem ql.old {g g':ai} {m:cR} {x:AM} (h:ql g m x) (o:aE g g'):ql g' m x:=
 ⟨h.kind,h.frm,h.to,h.cnt,h.root,h.want,h.d32,aE.bytes o h.lo,aE.bytes o h.hi,h.rs.mono o,h.mg⟩
theorem sv.old {g g':ai} {N n:Nat} {m:cR} {cs:List Value} (h:sv g N m n cs) (o:aE g g'):sv g' N m n cs:=
 ⟨fun y e=>⟨(h.lo y e).1,EJ (h.lo y e).2 o.next⟩,fun y e=>⟨(h.hi y e).1,EJ (h.hi y e).2 o.next⟩,h.rs.old o,h.zr⟩
theorem sv.weak {g:ai} {N M n:Nat} {m:cR} {cs:List Value} (h:sv g N m n cs) (hM:M<=N):sv g M m n cs:=
 ⟨fun y e=>⟨D7 hM (h.lo y e).1,(h.lo y e).2⟩,fun y e=>⟨D7 hM (h.hi y e).1,(h.hi y e).2⟩,h.rs.weak hM,h.zr⟩
def kL (S:List av) (lo hi:List Nat):AM:=⟨4,0,0,lo,hi,((S.filter (cX lo hi)).length:Int),cM (S.filter (cX lo hi)),[],false⟩
def dQ (lo hi:List Nat) (L:List av) (w:Bool):AM:=⟨5,0,0,lo,hi,0,z32,L,w⟩
theorem nil_rc (h:ai):gC h (.slice none 0 0) []:=⟨(fun _ h=>by cases h),none,0,rfl,(fun _=>rfl),fu (P := []) (fun _ h=>by cases h),fun h=>absurd h (GH 0)⟩
theorem r17M {h:ai} (hG:4<=h.n0) (hz:h.get 3=some bT) {vb:Nat} {va:Value} {R:List av} (gv:h.get vb=some [va]) (RS:gC h va R) (nv:gx va) (ks:KS R) (vl:mQ R) (hR:R.length<=1000000) {al ah:Option Addr} {nl cl nh ch:Nat} {lo hi:List Nat}
  (hlo:ax al nl h=some lo) (hhi:ax ah nh h=some hi) (hnl:nl<=21000) (hnh:nh<=21000) :
  ∃ m h',CW 15 [ptr vb 0,.slice al nl cl,.slice ah nh ch] h=some (mV m,h')/\aE h h'/\ql h' m (kL R lo hi)/\sv h' h.next m 0 []:=by
 obtain ⟨al',cl',ah',ch',h',e,o,s1,s2,p1,p2⟩:=r17 (cl:=cl) (ch:=ch) hG hz gv RS nv ks vl hR hlo hhi hnl hnh;exact ⟨_,h',e,o,⟨rfl,rfl,rfl,rfl,rfl,rfl,fR _,s1,s2,nil_rc h',MZ.mg ⟨rfl,rfl,rfl,rfl,rfl⟩ (fR _)⟩,⟨p1,p2,dP.nil 39 h' h.next,⟨rfl,rfl,rfl,rfl,rfl⟩⟩⟩
theorem is129:cx prog 61 f61:=by constructor<;>kernel_rfl
theorem results129:f61.results.toList = [.cell 6 43]:=by kernel_rfl
theorem bld_items {al:Option Addr} {nl cl:Nat} {ah:Option Addr} {nh ch:Nat} {ar:Option Addr} {nr cr:Nat} {w:Bool}:fZ zM [(0,1,.int .u8 5),(7,1,.slice al nl cl),(8,1,.slice ah nh ch),(42,1,.slice ar nr cr),(43,1,.bool w)]=some (mV (mk0 5 0 0 al nl cl ah nh ch 0 z32 ar nr cr w)):=rfl
theorem z32_d:js z32:=vG
set_option maxRecDepth 100000 in
theorem r129 {h:ai} (hG:4<=h.n0) {m:cR} {x:AM} (M:ql h m x) {v:Value} {L:List av} (hv:gC h v L) (nv:gx v) (hL:L.length<=1000000) (w:Bool) (hnl:m.nl<=21000) (hnh:m.nh<=21000) :
  ∃ m' h',CW 61 [mV m,v,.bool w] h=some (mV m',h')/\aE h h'/\ql h' m' (dQ x.lo x.hi L w)/\sv h' h.next m' L.length (bA L):=by
 have hd:MG m:=M.mg;have ok:=gf hd;have b1:box (mV m) h=some (ptr h.next 0,h.alloc (mC m)):=fj h _ ok.2.2;have o1:aE h (h.alloc (mC m)):=az.alloc _ _ _;have g1:(h.alloc (mC m)).get h.next=some (mC m):=by rw [ai.aN,DL rfl]
 have n1:(h.alloc (mC m)).next=h.next+1:=rfl;generalize h.alloc (mC m)=h1 at *;obtain ⟨h2,z2,o2,g2,n2⟩:=fresh zM h1;have O2:=o1.trans o2;obtain ⟨al',cl',h3,e3,s3,_,o3,p3,_⟩:=r69b (h:=h2) (c:=m.cl) (by rw [O2.n0];exact hG) (aE.bytes O2 M.lo) hnl;have O3:=O2.trans o3;obtain ⟨ah',ch',h4,e4,s4,_,o4,p4,_⟩:=r69b (h:=h3) (c:=m.ch) (by rw [O3.n0];exact hG) (aE.bytes O3 M.hi) hnh;have O4:=O3.trans o4;obtain ⟨v5,h5,e5,o5,r5⟩:=r57L (h:=h4) (by rw [O4.n0];exact hG) (hv.mono O4) nv hL;have O5:=O4.trans o5;have L2:=qz hd (aE.get o2 g1);have L3:=qz hd (aE.get (o2.trans o3) g1);obtain ⟨ar,nr,cr,rfl⟩ : ∃ ar nr cr,v5 = .slice ar nr cr:=by
  rcases r5.wform with rfl|⟨b,s,n,rfl⟩
  ·exact ⟨_,_,_,rfl⟩
  ·exact ⟨_,_,_,rfl⟩
 have bi:=bld_items (al:=al') (nl:=m.nl) (cl:=cl') (ah:=ah') (nh:=m.nh) (ch:=ch') (ar:=ar) (nr:=nr) (cr:=cr) (w:=w);have ok2:=gf (m:=mk0 5 0 0 al' m.nl cl' ah' m.nh ch' 0 z32 ar nr cr w) (MZ.mg ⟨rfl,rfl,rfl,rfl,rfl⟩ z32_d);obtain ⟨h6,e6,k6,g6,_,n6⟩:=aY (n:=116) (k':=mC (mk0 5 0 0 al' m.nl cl' ah' m.nh ch' 0 z32 ar nr cr w)) (aE.get ((o3.trans o4).trans o5) g2) (by rw [O5.n0];exact D7 h.n0_le_next o1.next) rfl ok2.1 ok2.2.2;have O6:aE h h6:=aE.bK O5 k6 o1.next;have w5:=hv.1;have q2:=o2.next;have q3:=o3.next;have q4:=o4.next;have q5:=o5.next;refine ⟨mk0 5 0 0 al' m.nl cl' ah' m.nh ch' 0 z32 ar nr cr w,h6,aL is129 hG rfl ((t129_eq _ _ _ _ _).trans ?_),O6,⟨rfl,rfl,rfl,rfl,rfl,rfl,z32_d,?_,?_,?_,MZ.mg ⟨rfl,rfl,rfl,rfl,rfl⟩ z32_d⟩,⟨fun y hy => ?_,fun y hy => ?_,?_,⟨rfl,rfl,rfl,rfl,rfl⟩⟩⟩
 ·unfold t129;simp -implicitDefEqProofs only [b1, aj];refine (GM (fun o=>af o _) z2).trans ?_;simp -implicitDefEqProofs only [aB,DH,L2.l7,e3,L3.l8,L2.l8,e4,e5,oV,D9,aj,ak];refine (GM (fun o=>af (pu o _) _) bi).trans ?_;simp -implicitDefEqProofs only [e6,aj,ak];refine dG results129 agg42 siz42 (by decide) _ ?_;exact bj g6 ok2.1 ok2.2.1
 ·refine gD (aE.bytes (o4.trans o5) s3) fun y hy=>k6.get _ ?_ ?_
  ·have:=p3 y hy;omega
  ·have:=p3 y hy;intro q;have q:y.block=h1.next:=q;omega
 ·refine gD (aE.bytes o5 s4) fun y hy=>k6.get _ ?_ ?_
  ·have:=p4 y hy;omega
  ·have:=p4 y hy;intro q;have q:y.block=h1.next:=q;omega
 ·refine (r5.rc w5).keepS k6 fun q => ?_;have:=r5.blk (b:=h1.next) (by
   rcases r5.wform with e|⟨b,s,n,e⟩
   ·cases e;cases q
   ·cases e;cases nr with
    |zero=>cases q
    |succ n=>cases q;rfl)
  omega
 ·have:=p3 y hy;have:=O2.next;omega
 ·have:=p4 y hy;have:=O3.next;omega
 ·refine (r5.weak O4.next).keep k6 fun b q r => ?_;have:=r5.blk q;have r:b=h1.next:=r;omega
abbrev zML:List Value:=zp
def uf (ms:List cR):List Value:=ms.flatMap mC
def MBel (b:Nat) (m:cR):Prop:=(∀ y,m.al=some y->y.block<b)/\(∀ y,m.ah=some y->y.block<b) /\ ∀ c,iR m.od=some c->c<b
theorem sv.bel {g:ai} {N n:Nat} {m:cR} {cs:List Value} (h:sv g N m n cs):MBel g.next m:=⟨fun y e=>(h.lo y e).2,fun y e=>(h.hi y e).2,fun _ e=>(h.rs.blk e).2⟩
theorem MBel.up {b c:Nat} {m:cR} (h:MBel b m) (hc:b<=c):MBel c m:=⟨fun y e=>EJ (h.1 y e) hc,fun y e=>EJ (h.2.1 y e) hc,fun d e=>EJ (h.2.2 d e) hc⟩
def MsS (g:ai) (N:Nat) (w:Value) (ms:List cR):Prop:=(w = .slice none 0 0/\ms = []) \/ ∃ b s,w = .slice (some ⟨b,0,s⟩) ms.length ms.length/\g.get b=some (uf ms)/\N<=b /\ ∀ m∈ms,MBel b m
structure xM (g:ai) (N:Nat) (w:Value) (ms:List cR) (xs:List AM):Prop where
 sl:MsS g N w ms
 len:ms.length=xs.length
 is : ∀ i (h:i<ms.length) (h':i<xs.length),ql g ms[i] xs[i]
 own : ∀ i (h:i<ms.length) (h':i<xs.length),sv g N ms[i] xs[i].L.length (bA xs[i].L)
theorem B7 {m:cR} (hd:MG m) (q:ai):dg 116 (.agg zML.toArray) 1 [(0,mV m)] q=some (.slice (some ⟨q.next,0,none⟩) 1 1,q.alloc (mC m)):=by
 have ok:=gf hd;have e1:fillL zM [(0*116,116,mV m)]=some (mC m):=by rw [iq (z:=zM) (A := []) (B:=zM) (C := []) (o:=0*116) (n:=116) (by simp) rfl rfl ok.1];simp [fillL]
 have e2:aM ([(0,mV m)].flatMap fun x:Nat×Value=>x.2.cells.toList)=true:=by show aM ((mC m).toArray.toList ++ [])=true;rw [EU];exact ok.2.2
 unfold dg;rw [e2];exact (GM (fun o:Option (List Value)=>match o with|some cs=>some (Value.slice (some ⟨q.next,0,none⟩) 1 1,q.alloc cs)|none=>none) e1:_)
theorem bsl_msg2 {m n:cR} (hd:MG m) (hn:MG n) (q:ai):dg 116 (.agg zML.toArray) 2 [(0,mV m),(1,mV n)] q=some (.slice (some ⟨q.next,0,none⟩) 2 2,q.alloc (mC m++mC n)):=by
 have ok:=gf hd;have ok2:=gf hn;have e1:fillL (zM++(zM ++ [])) [(0*116,116,mV m),(1*116,116,mV n)]=some (mC m++mC n):=by rw [iq (z:=zM++(zM ++ [])) (A := []) (B:=zM) (C:=zM ++ []) (o:=0*116) (n:=116) rfl rfl rfl ok.1];rw [List.nil_append,iq (z:=mC m++(zM ++ [])) (A:=mC m) (B:=zM) (C := []) (o:=1*116) (n:=116) rfl ok.1 rfl ok2.1];simp [fillL]
 have e2:aM ([(0,mV m),(1,mV n)].flatMap fun x:Nat×Value=>x.2.cells.toList)=true:=by show aM ((mC m).toArray.toList++((mC n).toArray.toList ++ []))=true;have h1:=ok.2.2;have h2:=ok2.2.2;unfold aM at *;simp only [FI,h1,h2];rfl
 unfold dg;rw [e2];exact (GM (fun o:Option (List Value)=>match o with|some cs=>some (Value.slice (some ⟨q.next,0,none⟩) 2 2,q.alloc cs)|none=>none) e1:_)
def fV (S:List av) (x:AM):List AM:=
 let l:=S.filter (cX x.lo x.hi)
 if (decide ((l.length:Int)=x.cnt)&&decide (cM l=x.root))=true then []
 else if l.length<=8 then [dQ x.lo x.hi l true]
 else [kL S x.lo (dI (l.getD (l.length/2) av.z)),kL S (dI (l.getD (l.length/2) av.z)) x.hi]
theorem quo2 {n:Nat} (h:n<=1000000):aF prog .quo 3 (aq n) (.int .i64 2)=some (aq (n/2)):=by unfold aq;rw [CF (P:=prog) (t:=3) (k := .i64) (a:=(n:Int)) (b:=2) (by decide),show ((n:Int).tdiv 2)=((n/2:Nat):Int) from rfl,wrap_i64 (by omega) (by omega)]
theorem eqDD2 {a b:List Nat} (wa:js a) (wb:js b):aF prog .eql 36 (.agg (bn a).toArray) (.agg (bn b).toArray)=some (.bool (decide (a=b))):=eqD35 wa wb
set_option maxRecDepth 100000 in
set_option maxHeartbeats 1000000 in
theorem r100 {h:ai} (hG:4<=h.n0) (hz:h.get 3=some bT) {vb:Nat} {va:Value} {R:List av} (gv:h.get vb=some [va]) (RS:gC h va R) (nv:gx va) (ks:KS R) (vl:mQ R) (hR:R.length<=1000000) {m:cR} {x:AM} (X:ql h m x) (hnl:m.nl<=20000) (hnh:m.nh<=20000) :
  ∃ w ms h',CW 27 [ptr vb 0,mV m] h=some (w,h')/\aE h h'/\xM h' h.next w ms (fV R x):=by
 have hd:MG m:=X.mg;have ok:=gf hd;have b1:box (mV m) h=some (ptr h.next 0,h.alloc (mC m)):=fj h _ ok.2.2;have o1:aE h (h.alloc (mC m)):=az.alloc _ _ _;have g1:(h.alloc (mC m)).get h.next=some (mC m):=by rw [ai.aN,DL rfl]
 generalize h.alloc (mC m)=h1 at *;have M:=fun g (og:aE h1 g)=>qz hd (aE.get og g1);have wl : ∀ g,aE h g->ax m.al m.nl g=some x.lo:=fun g og=>aE.bytes og X.lo;have wh : ∀ g,aE h g->ax m.ah m.nh g=some x.hi:=fun g og=>aE.bytes og X.hi;obtain ⟨m2,h2,e2,o2,X2,W2⟩:=r17M (h:=h1) (cl:=m.cl) (ch:=m.ch) (by rw [o1.n0];exact hG) (aE.get o1 hz) (aE.get o1 gv) (RS.mono o1) nv ks vl hR (wl h1 o1) (wh h1 o1) (by omega) (by omega);have O2:=o1.trans o2;have hd2:MG m2:=X2.mg;obtain ⟨h3,z3,o3,g3,n3⟩:=fresh zM h2;have ok2:=gf hd2;obtain ⟨h4,e4,k4,g4,_,n4⟩:=aY (n:=116) (k':=mC m2) g3 (by rw [(O2.trans o3).n0];exact D7 h.n0_le_next O2.next) rfl ok2.1 ok2.2.2;have o4:aE h2 h4:=aE.bK o3 k4 (DD _);have O4:=O2.trans o4;obtain ⟨v5,h5,e5,o5,r5,w5⟩:=r20L (h:=h4) (cl:=m.cl) (ch:=m.ch) (by rw [O4.n0];exact hG) (aE.get O4 gv) (RS.mono O4) nv ks hR (wl h4 O4) (wh h4 O4);have O5:=O4.trans o5;have S:=qz hd2 (aE.get o5 g4);have M1:=M h1 (az.refl _ _);have M4:=M h4 (o2.trans o4);have M5:=M h5 ((o2.trans o4).trans o5);have q9:ld1 (ptr h2.next 9) h5=some (.int .i64 ((R.filter (cX x.lo x.hi)).length:Int),h5):=by have:=S.l9;rw [X2.cnt] at this;exact this
 have q10:du 32 (ptr h2.next 10) h5=some (.agg (bn (cM (R.filter (cX x.lo x.hi)))).toArray,h5):=by have:=S.l10;rw [X2.root] at this;exact this
 have l9:ld1 (ptr h.next 9) h5=some (.int .i64 x.cnt,h5):=by rw [<-X.cnt];exact M5.l9
 have l10:du 32 (ptr h.next 10) h5=some (.agg (bn x.root).toArray,h5):=by rw [<-X.root];exact M5.l10
 have ll5:=r5.lenL;have hfl:=FB (cX x.lo x.hi) R;have rep:fV R x=if (decide (((R.filter (cX x.lo x.hi)).length:Int)=x.cnt)&&decide (cM (R.filter (cX x.lo x.hi))=x.root))=true then [] else if (R.filter (cX x.lo x.hi)).length<=8 then [dQ x.lo x.hi (R.filter (cX x.lo x.hi)) true] else [kL R x.lo (dI ((R.filter (cX x.lo x.hi)).getD ((R.filter (cX x.lo x.hi)).length/2) av.z)),kL R (dI ((R.filter (cX x.lo x.hi)).getD ((R.filter (cX x.lo x.hi)).length/2) av.z)) x.hi]:=rfl
 have dT:=fR (R.filter (cX x.lo x.hi));have vS : ∀ r∈R.filter (cX x.lo x.hi),av.Wf r:=w5;generalize (R.filter (cX x.lo x.hi))=l at *;have key : ∃ out:bc,t100 CW (ptr vb 0) (mV m) h=out /\ ∃ w ms h',out=some (w,h')/\aE h h'/\xM h' h.next w ms (fV R x):=by
  refine ⟨_,rfl,?_⟩;unfold t100;simp -implicitDefEqProofs only [b1,aB,DH,M1.l7,M1.l8,e2,aj,ak];have z3:eH zML h2=some (ptr h2.next 0,h3):=z3;simp -implicitDefEqProofs only [z3,e4,aB,DH,M4.l7,M4.l8,e5,q9,l9,eqI,aj,ak];have nil_ok:xM h5 h.next (.slice none 0 0) [] []:=⟨.inl ⟨rfl,rfl⟩,rfl,fun i h=>absurd h (FP i),fun i h=>absurd h (FP i)⟩
  have e35:=eqDD2 dT X.d32;generalize decide (cM l=x.root)=q at *;generalize decide ((l.length:Int)=x.cnt)=p at *;have hn0:=h.n0_le_next;by_cases hq:(p&&q)=true
  ·rw [DL hq] at rep;rw [rep];rw [DK] at hq;obtain ⟨rfl,rfl⟩:=hq;simp -implicitDefEqProofs only [bt, aC, q10, l10, e35, EA, aj, ak];exact ⟨_,[],h5,rfl,O5,nil_ok⟩
  ·rw [DM hq] at rep;by_cases h8:l.length<=8
   ·rw [DL h8] at rep;rw [rep];obtain ⟨m6,h6,e6,o6,X6,W6⟩:=r129 (h:=h5) (by rw [O5.n0];exact hG) (X.old O5) (r5.rc w5) r5.nok (by omega) true (by omega) (by omega);have O6:=O5.trans o6;have hd6:MG m6:=X6.mg;have e7:=B7 hd6 h6;have o7:aE h6 (h6.alloc (mC m6)):=az.alloc _ _ _;have g7:(h6.alloc (mC m6)).get h6.next=some (mC m6):=by rw [ai.aN,DL rfl]
    generalize h6.alloc (mC m6)=h7 at *;have A:xM h7 h.next (.slice (some ⟨h6.next,0,none⟩) 1 1) [m6] [dQ x.lo x.hi l true]:=by
     refine ⟨.inr ⟨h6.next,none,rfl,by rw [g7];simp [uf],O6.next,fun m hm=>by rw [EK.1 hm];exact W6.bel⟩,rfl,fun i hi hi' => ?_,fun i hi hi' => ?_⟩
     ·obtain rfl:i=0:=by have:i<1:=hi;omega
      exact X6.old o7
     ·obtain rfl:i=0:=by have:i<1:=hi;omega
      exact (W6.old o7).weak O5.next
    have fin : ∃ w ms h',(some (Value.slice (some ⟨h6.next,0,none⟩) 1 1,h7):bc)=some (w,h')/\aE h h'/\xM h' h.next w ms [dQ x.lo x.hi l true]:=⟨_,_,_,rfl,O6.trans o7,A⟩
    cases p<;>cases q;all_goals first
     |exact absurd rfl hq
     | (simp -implicitDefEqProofs only [bt, bf', aC, aG, q10, l10, e35, EA, DG, EF, ll5, leq3 l.length 8 8 rfl, DC h8, M5.all, e6, e7, aj, ak]
        exact fin)
   ·rw [DM h8] at rep;rw [rep];have hlt:l.length/2<l.length:=by omega
    obtain ⟨bb,oo,ixx,wr,ldd⟩:=(r5.rc w5).rsl.rd hlt;have eg:l.getD (l.length/2) av.z=l[l.length/2]:=by rw [DJ,DB hlt];rfl
    rw [eg];obtain ⟨ka,kc,h6,e6,s6,o6⟩:=r67 (h:=h5) (by rw [O5.n0];exact hG) wr;generalize l[l.length/2]=rk at *;have O6:=O5.trans o6;have M6:=M h6 (((o2.trans o4).trans o5).trans o6);obtain ⟨m7,h7,e7,o7,X7,W7⟩:=r17M (h:=h6) (cl:=m.cl) (ch:=kc) (by rw [O6.n0];exact hG) (aE.get O6 hz) (aE.get O6 gv) (RS.mono O6) nv ks vl hR (wl h6 O6) s6 (by omega) (by omega);have O7:=O6.trans o7;have M7:=M h7 ((((o2.trans o4).trans o5).trans o6).trans o7);obtain ⟨m8,h8',e8,o8,X8,W8⟩:=r17M (h:=h7) (cl:=kc) (ch:=m.ch) (by rw [O7.n0];exact hG) (aE.get O7 hz) (aE.get O7 gv) (RS.mono O7) nv ks vl hR (aE.bytes o7 s6) (wh h7 O7) (by omega) (by omega);have O8:=O7.trans o8;have hd7:MG m7:=X7.mg;have hd8:MG m8:=X8.mg;have e9:=bsl_msg2 hd7 hd8 h8';have o9:aE h8' (h8'.alloc (mC m7++mC m8)):=az.alloc _ _ _;have g9:(h8'.alloc (mC m7++mC m8)).get h8'.next=some (mC m7++mC m8):=by rw [ai.aN,DL rfl]
    generalize h8'.alloc (mC m7++mC m8)=h9 at *;have A:xM h9 h.next (.slice (some ⟨h8'.next,0,none⟩) 2 2) [m7,m8] [kL R x.lo (dI rk),kL R (dI rk) x.hi]:=by
     refine ⟨.inr ⟨h8'.next,none,rfl,by rw [g9];simp [uf],O8.next,fun m hm => ?_⟩,rfl,fun i hi hi' => ?_,fun i hi hi' => ?_⟩
     ·rcases FQ.1 hm with rfl|hm
      ·exact W7.bel.up o8.next
      ·rw [EK.1 hm];exact W8.bel
     ·have hi2:i<2:=hi;rcases (show i=0\/i=1 by omega) with rfl|rfl
      ·exact X7.old (o8.trans o9)
      ·exact X8.old o9
     ·have hi2:i<2:=hi;rcases (show i=0\/i=1 by omega) with rfl|rfl
      ·exact (W7.old (o8.trans o9)).weak O6.next
      ·exact (W8.old o9).weak O7.next
    have fin : ∃ w ms h',(some (Value.slice (some ⟨h8'.next,0,none⟩) 2 2,h9):bc)=some (w,h')/\aE h h'/\xM h' h.next w ms [kL R x.lo (dI rk),kL R (dI rk) x.hi]:=⟨_,_,_,rfl,O8.trans o9,A⟩
    have ck : ∀ g,cq true (some (m.hi,g)) m.hi=true:=fun g=>oV ..;cases p<;>cases q;all_goals first
     |exact absurd rfl hq
     | (simp -implicitDefEqProofs only [bt, bf', aC, aG, q10, l10, e35, EA, DG, EF, ll5, leq3 l.length 8 8 rfl, DF h8, quo2 (show l.length<=1000000 by omega), ixx, ldd h5 (az.refl _ _), e6, M6.l7, e7, M7.l8, e8, e9, M6.l8, ck, D9, aj, ak]
        exact fin)
 obtain ⟨q,e,w,ms,h',e',oo⟩:=key;exact ⟨w,ms,h',aL is100 hG rfl ((t100_eq _ _ _ _).trans (e.trans e')),oo⟩
def pe (a b:Int) (m:cR):cR:={ m with frm:=a,to:=b }
def dN (a b:Int) (x:AM):AM:={ x with frm:=a,to:=b }
theorem set_mid {A B C:List Value} {o j:Nat} {v:Value} (hA:A.length=o) (hj:j<B.length):(A++(B++C)).set (o+j) v=A++(B.set j v++C):=by subst hA;rw [IV _ _ (by omega),FO,JS _ _ hj]
theorem msC_len {ms:List cR} (h : ∀ m∈ms,MG m):(uf ms).length=ms.length*116:=by
 induction ms with
 |nil=>rfl
 |cons m ms ih=>
  unfold uf at *;rw [E6,DE,(gf (h m ED)).1,ih fun q hq=>h q (EI _ hq),List.length_cons];omega
theorem tn (A B:List cR):uf (A++B)=uf A++uf B:=by unfold uf;rw [HR]
theorem msC_one (m:cR):uf [m]=mC m:=by unfold uf;rw [E6,H8,EU]
theorem mC_ends (m:cR) (a b:Int):((mC m).set 1 (.int .i64 a)).set 2 (.int .i64 b)=mC (pe a b m):=rfl
set_option maxRecDepth 100000 in
theorem rep_loop {C:au} {g0:ai} {N:Nat} {w:Value} {ms:List cR} {xs:List AM} (A:xM g0 N w ms xs) (hN:g0.n0<=N) {mb:Nat} {m:cR} (hm:MG m) (gm:g0.get mb=some (mC m)) (hmb:mb<N) (hl:ms.length<=1000000)
  {x:Nat->Value} (x3:x 3=ptr mb 0) (x6:x 6=w) (x47:x 47=aq ms.length) (x48:x 48=aq 0) :
  Fin 65 (fun ex y g=>ex = .exit 1/\y 6=w/\az g0 g (fun b=>iR w=some b/\N<=b)/\xM g N w (ms.map (pe m.to m.frm)) (xs.map (dN m.to m.frm))) (iter (codeA prog C (ao f9 [1,1,1,1,0,1,0,0])) aD (aK 65 x) g0):=by
 rcases A.sl with ⟨rfl,rfl⟩|⟨b,s,rfl,gb,hb,bel⟩
 ·have hx:xs = []:=DW.1 A.len.symm;subst hx;refine bC (mN C) (Inv:=fun k y g=>g=g0/\y 6 = .slice none 0 0/\y 47=aq 0/\y 48=aq 0) ?_ 0 (by have:aD=18446744073709551616:=rfl;omega) ⟨rfl,x6,x47,x48⟩;rintro k y g ⟨rfl,y6,y47,y48⟩;unfold iV;simp -implicitDefEqProofs only [y47,y48,ie,DF (GH 0),aj,ak];exact dJ.out 1 ⟨rfl,y6,az.refl _ _,A⟩
 ·have dr : ∀ q∈ms,MG q:=fun q hq=>by
   obtain ⟨i,hi,rfl⟩:=FE.1 hq;have hi':i<xs.length:=by rw [<-A.len];exact hi
   exact (A.is i hi hi').mg
  have nb:g0.n0<=b:=D7 hN hb;refine bC (mN C) (Inv:=fun k y g => ∃ i,i+k=ms.length/\y 3=ptr mb 0/\y 6 = .slice (some ⟨b,0,s⟩) ms.length ms.length/\y 47=aq ms.length/\y 48=aq i/\az g0 g (· = b)/\g.get b=some (uf ((ms.take i).map (pe m.to m.frm)++ms.drop i))) ?_ ms.length (by have:aD=18446744073709551616:=rfl;omega) ⟨0,by omega,x3,x6,x47,x48,az.refl _ _,by rw [List.take_zero];exact gb⟩;rintro k y g ⟨i,hik,y3,y6,y47,y48,K,gg⟩;unfold iV;simp -implicitDefEqProofs only [y47,y48,ie,aj,ak];by_cases hi:i<ms.length
  ·have hmb':mb≠b:=by omega
   have M0:=qz hm (K.getE gm hmb');have hlt:(ms.take i).length=i:=by rw [DV];omega
   have dl : ∀ q∈(ms.take i).map (pe m.to m.frm),MG q:=fun q hq=>by obtain ⟨q',hq',rfl⟩:=E0.1 hq;have:=dr q' (EZ hq');exact ⟨this.d32,this.h4,this.o4,this.tl,this.ht,this.ot⟩
   have l1:(uf ((ms.take i).map (pe m.to m.frm))).length=i*116:=by rw [msC_len dl,DY,hlt]
   have di:=dr _ (EL hi);have lm:=(gf di).1;have split:uf ((ms.take i).map (pe m.to m.frm)++ms.drop i)=uf ((ms.take i).map (pe m.to m.frm))++(mC ms[i]++uf (ms.drop (i+1))):=by rw [tn,E8 hi];rfl
   rw [split] at gg;have ix:idxS 116 (.slice (some ⟨b,0,s⟩) ms.length ms.length) (aq i)=some (ptr b (i*116)):=by unfold idxS aq;simp only;rw [DL (by omega),Int.toNat_natCast,DH]
   have nb':g.n0<=b:=by rw [K.n0];exact nb
   obtain ⟨g2,e2,k2,q2,_,_⟩:=stored (o:=i*116+1) (v := .int .i64 m.to) gg nb' (by rw [DE,DE,l1,lm];omega) rfl rfl;rw [set_mid l1 (by omega)] at q2;have K2:=K.trans k2;have M2:=qz hm (K2.getE gm hmb');obtain ⟨g3,e3,k3,q3,_,_⟩:=stored (o:=i*116+2) (v := .int .i64 m.frm) q2 (by rw [k2.n0];exact nb') (by rw [DE,DE,l1,H6,lm];omega) rfl rfl;rw [set_mid l1 (by rw [H6];omega),mC_ends] at q3;have K3:=K2.trans k3;have a48:aF prog .add 3 (aq i) (.int .i64 1)=some (aq (i+1)):=dR (by omega);have ck:cq true (some (.int .i64 m.frm,g2)) (.int .i64 m.frm)=true:=CB ..;simp -implicitDefEqProofs only [DC hi, y3, y6, aB, DH, M0.l2, M0.l1, ix, e2, e3, M2.l1, ck, D9, a48, aj, ak];refine dJ.next (k-1) (by omega) ⟨i+1,by omega,y3,y6,y47,rfl,K3,?_⟩;rw [q3,FF hi,FH,tn,tn,ER]
   congr 2
   rw [FR,HP,msC_one]
  ·have hE:i=ms.length:=by omega
   subst hE;rw [GN,JB,EU] at gg;simp -implicitDefEqProofs only [DF hi];refine dJ.out 1 ⟨rfl,y6,K.mono (fun c _ q=>by have q:c=b:=q;subst q;exact ⟨rfl,hb⟩),?_⟩
   have nxt:=K.next;refine ⟨.inr ⟨b,s,by rw [DY],gg,hb,fun q hq => ?_⟩,by rw [DY,DY,A.len],fun j hj hj' => ?_,fun j hj hj' => ?_⟩
   ·obtain ⟨q',hq',rfl⟩:=E0.1 hq;exact bel q' hq'
   ·rw [DY] at hj hj';have I:=A.is j hj hj';have O:=A.own j hj hj';have bl:=bel _ (EL hj);rw [JP,JP];refine ⟨I.kind,rfl,rfl,I.cnt,I.root,I.want,I.d32,gD I.lo fun y hy=>K.get _ (O.lo y hy).2 (fun q => ?_),gD I.hi fun y hy=>K.get _ (O.hi y hy).2 (fun q => ?_),I.rs.keepS K fun q => ?_,⟨I.mg.d32,I.mg.h4,I.mg.o4,I.mg.tl,I.mg.ht,I.mg.ot⟩⟩
    ·have h1:=bl.1 y hy;have q:y.block=b:=q;omega
    ·have h1:=bl.2.1 y hy;have q:y.block=b:=q;omega
    ·have h1:=bl.2.2 b (by
      have w:=O.rs.wform;rcases w with e|⟨b',s',n',e⟩
      ·rw [show ms[j].od=_ from e] at q;cases q
      ·rw [show ms[j].od=_ from e] at q |-;cases n' with
       |zero=>cases q
       |succ n=>cases q;rfl)
     omega
   ·rw [DY] at hj hj';have O:=A.own j hj hj';have bl:=bel _ (EL hj);rw [JP,JP];exact ⟨fun y hy=>⟨(O.lo y hy).1,EJ (O.lo y hy).2 nxt⟩,fun y hy=>⟨(O.hi y hy).1,EJ (O.hi y hy).2 nxt⟩,O.rs.keep K fun c hc q=>by have h1:=bl.2.2 c hc;have q:c=b:=q;omega,O.zr⟩
theorem b50_10f (C:au) (e:aX) (h:ai):b50_10 C 1 e h=k50_8 C e h:=rfl
theorem eq31k (k:Nat) (n:Int) (j:Nat) (e:n=j):aF prog .eql 31 (.int .u8 (k:Int)) (.int .u8 n)=some (.bool (decide (k=j))):=by subst e;rw [bF,u8_eqn]
set_option maxRecDepth 100000 in
theorem r50s {h:ai} (hG:4<=h.n0) (hz:h.get 3=some bT) {vb:Nat} {va:Value} {R:List av} (gv:h.get vb=some [va]) (RS:gC h va R) (nv:gx va) (ks:KS R) (vl:mQ R) (hR:R.length<=1000000) {m:cR} {x:AM} (X:ql h m x) (hnl:m.nl<=20000) (hnh:m.nh<=20000) (hk:x.kind=4) (hc:0<=x.cnt) :
  ∃ w ms h',CV 9 [ptr vb 0,mV m] h=some (.tuple #[w,.int .i64 0],h')/\aE h h'/\xM h' h.next w ms ((fV R x).map (dN x.to x.frm)):=by
 have hd:MG m:=X.mg;have ok:=gf hd;have b1:box (mV m) h=some (ptr h.next 0,h.alloc (mC m)):=fj h _ ok.2.2;have o1:aE h (h.alloc (mC m)):=az.alloc _ _ _;have g1:(h.alloc (mC m)).get h.next=some (mC m):=by rw [ai.aN,DL rfl]
 have n1:(h.alloc (mC m)).next=h.next+1:=rfl;generalize h.alloc (mC m)=h1 at *;have M:=qz hd g1;have l0:=M.l0;rw [X.kind,hk] at l0;have l0:ld1 (ptr h.next 0) h1=some (.int .u8 4,h1):=l0;have gc:aF prog .geq 3 (.int .i64 m.cnt) (.int .i64 0)=some (.bool true):=by rw [ge0,X.cnt,DC hc]
 obtain ⟨w,ms,h2,e2,o2,A⟩:=r100 (h:=h1) (by rw [o1.n0];exact hG) (aE.get o1 hz) (aE.get o1 gv) (RS.mono o1) nv ks vl hR (X.old o1) hnl hnh;have e2:=jx (f:=27) rfl (by decide) e2;have O2:=o1.trans o2;have e31:aF prog .eql 31 (.int .u8 4) (.int .u8 4)=some (.bool true):=by kernel_rfl
 have hlen:ms.length<=1000000:=by
  rw [A.len];have:(fV R x).length<=2:=by
   unfold fV;simp only;split
   ·exact FN _
   ·split<;>simp
  omega
 have ln:lenL w=some (aq ms.length):=by rcases A.sl with ⟨rfl,rfl⟩|⟨b,s,rfl,_⟩<;>rfl
 have key : ∃ out:bc,t50 CV (ptr vb 0) (mV m) h=out /\ ∃ w ms h',out=some (.tuple #[w,.int .i64 0],h')/\aE h h'/\xM h' h.next w ms ((fV R x).map (dN x.to x.frm)):=by
  refine ⟨_,rfl,?_⟩;unfold t50;simp -implicitDefEqProofs only [b1,mM,aB,DH,l0,e31,bt,aC,M.l9,gc,EA,M.all,e2,ln,aj,ak];refine bH (Q:=fun o:bc => ∃ w ms h',o=some (.tuple #[w,.int .i64 0],h')/\aE h h'/\xM h' h.next w ms ((fV R x).map (dN x.to x.frm))) (rep_loop (C:=CV) A (by rw [o2.n0];exact h1.n0_le_next) hd (aE.get o2 g1) (mb:=h.next) (by omega) hlen rfl rfl rfl rfl) ?_;rintro ex z g ⟨rfl,z6,K,A'⟩;simp -implicitDefEqProofs only [bk,b50_10f,wB];unfold tq;simp -implicitDefEqProofs only [z6,aj];rw [X.to,X.frm] at A';refine ⟨w,ms.map (pe x.to x.frm),g,rfl,O2.also K (fun d hd q=>by have:=q.2;omega),?_⟩;have hle:h.next<=h1.next:=o1.next;refine ⟨?_,A'.len,A'.is,fun i hi hi'=>(A'.own i hi hi').weak hle⟩;rcases A'.sl with q|⟨b,s,q1,q2,q3,q4⟩
  ·exact .inl q
  ·exact .inr ⟨b,s,q1,q2,D7 hle q3,q4⟩
 obtain ⟨q,e,w',ms',h',e',oo⟩:=key;exact ⟨w',ms',h',jX is50 hG (by decide) (by decide) ((zL _ _ _ _).trans (e.trans e')),oo⟩
theorem is151:cx prog 91 f91:=by constructor<;>kernel_rfl
theorem is133:cx prog 67 f67:=by constructor<;>kernel_rfl
theorem is132:cx prog 66 f66:=by constructor<;>kernel_rfl
theorem is130:cx prog 64 f64:=by constructor<;>kernel_rfl
theorem is150:cx prog 90 f90:=by constructor<;>kernel_rfl
theorem is160:cx prog 112 f112:=by constructor<;>kernel_rfl
theorem is102:cx prog 30 f30:=by constructor<;>kernel_rfl
theorem is101:cx prog 29 f29:=by constructor<;>kernel_rfl
theorem results151:f91.results.toList = [.tmp 4]:=by kernel_rfl
theorem results130:f64.results.toList = [.tmp 4]:=by kernel_rfl
theorem b151_3e (C:au) (e:aX) (h:ai):b151_3 C 0 e h=k151_1 C e h:=rfl
theorem b130_3e (C:au) (e:aX) (h:ai):b130_3 C 0 e h=k130_1 C e h:=rfl
def Cf (L:List av) (p:av->Bool) (k:Int):Prop:=(L.any p=false/\k = -1) \/ ∃ i:Nat,k=i /\ ∃ h:i<L.length,p L[i]=true/\(L.take i).any p=false
set_option maxRecDepth 100000 in
theorem r113i {h:ai} (hG:4<=h.n0) {v fv:Value} {L:List av} (hv:kz h v L) (hl:L.length<=1000000) (p:av->Bool) (hp : ∀ r∈L,r.Wf -> ∀ g,aE h g -> ∃ g',callA prog CW fv [.agg (bW r).toArray] g=some (.bool (p r),g')/\aE g g') :
  ∃ (k:Int) (h':ai),CW 62 [v,fv] h=some (.int .i64 k,h')/\aE h h'/\Cf L p k:=by
 have hll:=hv.len;have key : ∃ o:bc,t113 CW v fv h=o /\ ∃ (k:Int) (h':ai),o=some (.int .i64 k,h')/\aE h h'/\Cf L p k:=by
  refine ⟨_,rfl,?_⟩;unfold t113;simp -implicitDefEqProofs only [hll,aj,ak];refine bH (n:=19) (fin:=fun ex y g=>aE h g/\((ex = .exit 0/\L.any p=false)\/(ex = .ret /\ ∃ i:Nat,y 4=aq i/\Cf L p i))) (Q:=fun o:bc => ∃ (k:Int) (h':ai),o=some (.int .i64 k,h')/\aE h h'/\Cf L p k)
   (bC (nX CW) (Inv:=fun k y g => ∃ i,i+k=L.length/\y 0=v/\y 1=fv/\y 7=aq L.length/\y 8=aq i/\aE h g/\(L.take i).any p=false) ?_ L.length (by have:aD=18446744073709551616:=rfl;omega) ⟨0,by omega,rfl,rfl,rfl,rfl,az.refl _ _,by simp⟩) ?_
  ·rintro k y g ⟨i,hik,y0,y1,y7,y8,O,ha⟩;unfold jV;simp -implicitDefEqProofs only [y7,y8,ie,aj,ak];by_cases hi:i<L.length
   ·obtain ⟨b,o,ix,wr,lp⟩:=hv.rd hi;have L1:=lp g O;obtain ⟨g',e',o'⟩:=hp _ (EL hi) wr g O;have hany:=any_take hi p;rw [ha,EO] at hany;cases hpr:p L[i] with
    |true=>
     rw [hpr] at e';simp -implicitDefEqProofs only [DC hi,y0,y1,ix,L1,e',aj,ak];exact dJ.ret ⟨O.trans o',.inr ⟨rfl,i,rfl,.inr ⟨i,rfl,hi,hpr,ha⟩⟩⟩
    |false=>
     rw [hpr] at e' hany;have a8:aF prog .add 3 (aq i) (.int .i64 1)=some (aq (i+1)):=dR (by omega);simp -implicitDefEqProofs only [DC hi, y0, y1, ix, L1, e', a8, aj, ak];exact dJ.next (k-1) (by omega) ⟨i+1,by omega,y0,y1,y7,rfl,O.trans o',hany⟩
   ·have hiE:i=L.length:=by omega
    rw [hiE,GN] at ha;simp -implicitDefEqProofs only [DF hi];exact dJ.out 0 ⟨O,.inl ⟨rfl,ha⟩⟩
  ·rintro ex z g ⟨O,⟨rfl,ha⟩|⟨rfl,i,z4,hf⟩⟩
   ·simp -implicitDefEqProofs only [bk,b113_3,EA,rW];unfold oD;exact ⟨-1,g,rfl,O,.inl ⟨ha,rfl⟩⟩
   ·rw [jd,dC,iD results113 (by decide),z4];exact ⟨i,g,rfl,O,hf⟩
 obtain ⟨o9,e,k,h',e',q⟩:=key;exact ⟨k,h',aL is113 hG rfl ((t113_eq _ _ _ _).trans (e.trans e')),q⟩
set_option maxRecDepth 100000 in
theorem r151 {h:ai} (hG:4<=h.n0) {v:Value} {L:List av} (hv:kz h v L) (hl:L.length<=1000000) {r:av} (w:r.Wf) :
  ∃ (k:Int) (h':ai),CW 91 [v,dW r] h=some (.int .i64 k,h')/\aE h h'/\decide (0<=k)=decide (r∈L):=by
 have hll:=hv.len;obtain ⟨h1,b1,o1,g1,n1⟩:=dS h w;have key : ∃ o:bc,t151 CW v (dW r) h=o /\ ∃ (k:Int) (h':ai),o=some (.int .i64 k,h')/\aE h h'/\decide (0<=k)=decide (r∈L):=by
  refine ⟨_,rfl,?_⟩;unfold t151;simp -implicitDefEqProofs only [b1,hll,aj,ak];refine bH (n:=19) (fin:=fun ex y g=>g=h1/\((ex = .exit 0 /\ ¬r∈L)\/(ex = .ret/\r∈L /\ ∃ i:Nat,y 4=aq i))) (Q:=fun o:bc => ∃ (k:Int) (h':ai),o=some (.int .i64 k,h')/\aE h h'/\decide (0<=k)=decide (r∈L))
   (bC (vg CW) (Inv:=fun k y g => ∃ i,i+k=L.length/\y 0=v/\y 3=ptr h.next 0/\y 7=aq L.length/\y 8=aq i/\g=h1 /\ ¬r∈L.take i) ?_ L.length (by have:aD=18446744073709551616:=rfl;omega) ⟨0,by omega,rfl,rfl,rfl,rfl,rfl,by simp⟩) ?_
  ·rintro k y g ⟨i,hik,y0,y3,y7,y8,rfl,ha⟩;unfold ng;simp -implicitDefEqProofs only [y7,y8,ie,aj,ak];by_cases hi:i<L.length
   ·obtain ⟨b,o,ix,wr,lp⟩:=hv.rd hi;have L1:=lp g o1;have L2:=bj g1 (aQ w).1 (aQ w).2.1;by_cases he:r=L[i]
    ·simp -implicitDefEqProofs only [DC hi,y0,y3,L2,ix,L1,CZ w wr,DC he,aj,ak];exact dJ.ret ⟨rfl,.inr ⟨rfl,he▸EL hi,i,rfl⟩⟩
    ·have a8:aF prog .add 3 (aq i) (.int .i64 1)=some (aq (i+1)):=dR (by omega);simp -implicitDefEqProofs only [DC hi, y0, y3, L2, ix, L1, CZ w wr, DF he, a8, aj, ak];refine dJ.next (k-1) (by omega) ⟨i+1,by omega,y0,y3,y7,rfl,rfl,fun q => ?_⟩;rw [FF hi,DU,EK] at q;rcases q with q|q
     ·exact ha q
     ·exact he q
   ·have hiE:i=L.length:=by omega
    rw [hiE,GN] at ha;simp -implicitDefEqProofs only [DF hi];exact dJ.out 0 ⟨rfl,.inl ⟨rfl,ha⟩⟩
  ·rintro ex z g ⟨rfl,⟨rfl,ha⟩|⟨rfl,ha,i,z4⟩⟩
   ·simp -implicitDefEqProofs only [bk,b151_3e,AG];unfold sZ;exact ⟨-1,g,rfl,o1,by rw [DF ha];rfl⟩
   ·rw [jd,dC,iD results151 (by decide),z4];exact ⟨i,g,rfl,o1,by rw [DC ha,DC (by omega)]⟩
 obtain ⟨o9,e,k,h',e',q⟩:=key;exact ⟨k,h',aL is151 hG rfl ((t151_eq _ _ _ _).trans (e.trans e')),q⟩
theorem r133 {h:ai} (hG:4<=h.n0) {v:Value} {L:List av} (hv:kz h v L) (hl:L.length<=1000000) {r:av} (w:r.Wf) :
  ∃ h',CW 67 [v,dW r] h=some (.bool (decide (r∈L)),h')/\aE h h':=by
 obtain ⟨h1,b1,o1,g1,n1⟩:=dS h w;have L2:=bj g1 (aQ w).1 (aQ w).2.1;obtain ⟨k,h2,e2,o2,q⟩:=r151 (h:=h1) (by rw [o1.n0];exact hG) (hv.mono o1) hl w;refine ⟨h2,aL is133 hG rfl ((t133_eq _ _ _ _).trans ?_),o1.trans o2⟩;unfold t133;simp -implicitDefEqProofs only [b1,L2,e2,ge0,q,aj,ak]
theorem r132 {h:ai} (hG:4<=h.n0) {b:Nat} {m:cR} (_:MLd h b m) (g0:h.get b=some (mC m)) (hd:MG m) {L:List av} (hv:kz h m.od L) (hl:L.length<=1000000) {r:av} (w:r.Wf) :
  ∃ h',CW 66 [dW r,ptr b 0] h=some (.bool (decide (r∈L)),h')/\aE h h':=by
 obtain ⟨h1,b1,o1,g1,n1⟩:=dS h w;have L2:=bj g1 (aQ w).1 (aQ w).2.1;have M1:=qz hd (aE.get o1 g0);obtain ⟨h2,e2,o2⟩:=r133 (h:=h1) (by rw [o1.n0];exact hG) (hv.mono o1) hl w;refine ⟨h2,aL is132 hG rfl ((t132_eq _ _ _ _).trans ?_),o1.trans o2⟩;unfold t132;simp -implicitDefEqProofs only [b1,aB,DH,M1.l42,L2,e2,aj,ak]
theorem r160 {h:ai} (hG:4<=h.n0) (a:Int):CW 112 [.int .u8 a] h=some (.bool false,h):=by refine aL is160 hG rfl ((t160_eq _ _ _).trans ?_);unfold t160;simp -implicitDefEqProofs only [bz,II,aj,ak]
theorem r150 {h:ai} (hG:4<=h.n0) (a b:Int):CW 90 [.int .u8 a,.int .u8 b] h=some (.int .i64 (iH a b),h):=by
 refine aL is150 hG rfl ((t150_eq _ _ _ _).trans ?_);unfold t150 iH;simp -implicitDefEqProofs only [r160 hG,bL,bJ,aj,ak];by_cases h1:a<b
 ·simp -implicitDefEqProofs only [DC h1, DL h1]
 ·simp -implicitDefEqProofs only [DF h1, DM h1];by_cases h2:b<a
  ·have h2':a>b:=h2;simp -implicitDefEqProofs only [DC h2', DL h2]
  ·have h2' : ¬a>b:=h2;simp -implicitDefEqProofs only [DF h2', DM h2]
theorem cmpI_u8 {x y:Nat} (hx:x<256) (hy:y<256) (a b:List Nat):compareBytes ((x::a).map UInt8.ofNat) ((y::b).map UInt8.ofNat)=if iH x y=0 then compareBytes (a.map UInt8.ofNat) (b.map UInt8.ofNat) else iH x y:=by
 rw [FR,FR,oN];have ex:(UInt8.ofNat x).toNat=x:=by simp;omega
 have ey:(UInt8.ofNat y).toNat=y:=by simp;omega
 rw [ex,ey];unfold iH;by_cases h1:x<y
 ·rw [DL h1,DL (by omega:(x:Int)<y),DM (by decide)]
 ·by_cases h2:y<x
  ·rw [DM h1,DL h2,DM (by omega : ¬(x:Int)<y),DL (by omega:(y:Int)<x),DM (by decide)]
  ·rw [DM h1,DM h2,DM (by omega : ¬(x:Int)<y),DM (by omega : ¬(y:Int)<x),DL rfl]
theorem nq3i (n:Int):aF prog .neq 3 (.int .i64 n) (.int .i64 0)=some (.bool (!(decide (n=0)))):=by
 rw [bz]
 congr 2
set_option maxRecDepth 100000 in
theorem r130 {h:ai} (hG:4<=h.n0) {a b:Option Addr} {n c m d:Nat} {x y:List Nat} (hx:ax a n h=some x) (hy:ax b m h=some y) (hn:n<=1000000) (hm:m<=1000000) :
  CW 64 [.slice a n c,.slice b m d] h=some (.int .i64 (compareBytes (x.map UInt8.ofNat) (y.map UInt8.ofNat)),h):=by
 obtain ⟨x1,x2,x3⟩:=aH hx;obtain ⟨y1,y2,y3⟩:=aH hy;have lx:lenL (.slice a n c)=some (aq n):=rfl;have ly:lenL (.slice b m d)=some (aq m):=rfl;have rdx : ∀ i (hi:i<x.length),∃ bl o,idxS 1 (.slice a n c) (aq i)=some (ptr bl o)/\ld1 (ptr bl o) h=some (.int .u8 (x[i]:Int),h):=fun i hi=>by
  obtain ⟨bl,off,s,k,rfl,hk,hl,ht⟩:=x3 (by omega);refine ⟨bl,off+i,?_,aW hk ((ht i (by omega)).trans ?_) rfl⟩
  ·unfold idxS aq;simp only;rw [DL (by omega),Int.toNat_natCast,GF]
  ·rw [DJ,DB hi];rfl
 have rdy : ∀ i (hi:i<y.length),∃ bl o,idxS 1 (.slice b m d) (aq i)=some (ptr bl o)/\ld1 (ptr bl o) h=some (.int .u8 (y[i]:Int),h):=fun i hi=>by
  obtain ⟨bl,off,s,k,rfl,hk,hl,ht⟩:=y3 (by omega);refine ⟨bl,off+i,?_,aW hk ((ht i (by omega)).trans ?_) rfl⟩
  ·unfold idxS aq;simp only;rw [DL (by omega),Int.toNat_natCast,GF]
  ·rw [DJ,DB hi];rfl
 refine aL is130 hG rfl ((t130_eq _ _ _ _).trans ?_);unfold t130;simp -implicitDefEqProofs only [lx,aj,ak];refine bH (n:=36) (fin:=fun ex z g=>g=h/\((ex = .exit 0/\z 0 = .slice a n c/\z 1 = .slice b m d/\n<=m/\compareBytes (x.map UInt8.ofNat) (y.map UInt8.ofNat)=if n<m then -1 else 0)\/(ex = .ret/\z 4 = .int .i64 (compareBytes (x.map UInt8.ofNat) (y.map UInt8.ofNat)))))
  (Q:=fun o:bc=>o=some (.int .i64 (compareBytes (x.map UInt8.ofNat) (y.map UInt8.ofNat)),h))
  (bC (vE CW) (Inv:=fun k z g => ∃ i,i+k=n/\i<=m/\z 0 = .slice a n c/\z 1 = .slice b m d/\z 9 = .slice a n c/\z 10=aq n/\z 11=aq i/\g=h/\compareBytes (x.map UInt8.ofNat) (y.map UInt8.ofNat)=compareBytes ((x.drop i).map UInt8.ofNat) ((y.drop i).map UInt8.ofNat)) ?_ n (by have:aD=18446744073709551616:=rfl;omega) ⟨0,by omega,FN _,rfl,rfl,rfl,rfl,rfl,rfl,by rw [EP,EP]⟩) ?_
 ·rintro k z g ⟨i,hik,him,z0,z1,z9,z10,z11,rfl,he⟩;unfold mY;simp -implicitDefEqProofs only [z10,z11,ie,aj,ak];by_cases hi:i<n
  ·obtain ⟨bl,o,e1,e2⟩:=rdx i (by omega);have gq:aF prog .geq 3 (aq i) (aq m)=some (.bool (decide (m<=i))):=by
    unfold aq;rw [bG]
    congr 2
    rw [JC];omega
   have hxd:x.drop i=x[i]::x.drop (i+1):=E8 (by omega);by_cases hj:m<=i
   ·simp -implicitDefEqProofs only [DC hi,z9,e1,e2,z1,ly,gq,DC hj,aj,ak];refine dJ.ret ⟨rfl,.inr ⟨rfl,?_⟩⟩;have hyd:y.drop i = []:=GU (by omega);rw [he,hxd,hyd];rfl
   ·obtain ⟨bl2,o2,e3,e4⟩:=rdy i (by omega);have hyd:y.drop i=y[i]::y.drop (i+1):=E8 (by omega);have ec:=cmpI_u8 (x2 _ (EL (by omega:i<x.length))) (y2 _ (EL (by omega:i<y.length))) (x.drop (i+1)) (y.drop (i+1));rw [<-hxd,<-hyd,<-he] at ec;have a11:aF prog .add 3 (aq i) (.int .i64 1)=some (aq (i+1)):=dR (by omega);by_cases hz:iH x[i] y[i]=0
    ·rw [DL hz] at ec;simp -implicitDefEqProofs only [DC hi,z9,e1,e2,z1,ly,gq,DF hj,e3,e4,r150 hG,nq3i,DC hz,DP,a11,aj,ak];exact dJ.next (k-1) (by omega) ⟨i+1,by omega,by omega,z0,z1,z9,z10,rfl,rfl,ec⟩
    ·rw [DM hz] at ec;simp -implicitDefEqProofs only [DC hi,z9,e1,e2,z1,ly,gq,DF hj,e3,e4,r150 hG,nq3i,DF hz,DO,aj,ak];exact dJ.ret ⟨rfl,.inr ⟨rfl,by rw [ec];rfl⟩⟩
  ·have hE:i=n:=by omega
   simp -implicitDefEqProofs only [DF hi];refine dJ.out 0 ⟨rfl,.inl ⟨rfl,z0,z1,by omega,?_⟩⟩;rw [he,hE,GU (by omega:x.length<=n)];by_cases hlt:n<m
   ·rw [DL hlt,E8 (by omega:n<y.length)];rfl
   ·rw [DM hlt,GU (by omega:y.length<=n)];rfl
 ·rintro ex z g ⟨rfl,⟨rfl,z0,z1,hle,q⟩|⟨rfl,z4⟩⟩
  ·simp -implicitDefEqProofs only [bk,b130_3e,Az];unfold sC;simp -implicitDefEqProofs only [z0,z1,lx,ly,ie,aj,ak];rw [q];by_cases hlt:n<m
   ·simp -implicitDefEqProofs only [DC hlt, DL hlt]
   ·simp -implicitDefEqProofs only [DF hlt, DM hlt]
  ·rw [jd,dC,iD results130 (by decide),z4]
def yu (lo hi:List Nat) (r:av):Bool := !(dX r) || !(cX lo hi r)
set_option maxRecDepth 100000 in
theorem r102 {h:ai} (hG:4<=h.n0) {m:cR} {x:AM} (X:ql h m x) (hnl:m.nl<=20000) (hnh:m.nh<=20000) {r:av} (w:r.Wf) :
  ∃ h',CW 30 [dW r,mV m] h=some (.bool (yu x.lo x.hi r),h')/\aE h h':=by
 have hd:MG m:=X.mg;have ok:=gf hd;obtain ⟨h1,b1,o1,g1,n1⟩:=dS h w;have b2:box (mV m) h1=some (ptr h1.next 0,h1.alloc (mC m)):=fj h1 _ ok.2.2;have o2:aE h1 (h1.alloc (mC m)):=az.alloc _ _ _;have g2:(h1.alloc (mC m)).get h1.next=some (mC m):=by rw [ai.aN,DL rfl]
 generalize h1.alloc (mC m)=h2 at *;have O2:=o1.trans o2;have L2:=bj (aE.get o2 g1) (aQ w).1 (aQ w).2.1;have G2:4<=h2.n0:=by rw [O2.n0];exact hG
 obtain ⟨k1,k2⟩:=r27 (h:=h2) G2 w;cases hv:dX r with
 |false=>
  obtain ⟨h3,e3,o3⟩:=k2 hv;have x0:extractA (.tuple #[.slice none 0 0,.int .i64 2]) 0=some (.slice none 0 0):=rfl;have x1:extractA (.tuple #[.slice none 0 0,.int .i64 2]) 1=some (.int .i64 2):=rfl;have nq2:aF prog .neq 26 (.int .i64 2) (.int .i64 0)=some (.bool true):=by kernel_rfl
  refine ⟨h3,aL is102 hG rfl ((t102_eq _ _ _ _).trans ?_),O2.trans o3⟩;unfold t102 yu;simp -implicitDefEqProofs only [b1, b2, L2, e3, x0, x1, nq2, bt', bu', aG, EA, aj, ak];rw [hv];rfl
 |true=>
  obtain ⟨a,c,h3,e3,s3,o3⟩:=k1 hv;have O3:=O2.trans o3;have G3:4<=h3.n0:=by rw [O3.n0];exact hG
  have M:=qz hd (aE.get o3 g2);have x0:extractA (.tuple #[.slice a 34 c,.int .i64 0]) 0=some (.slice a 34 c):=rfl;have x1:extractA (.tuple #[.slice a 34 c,.int .i64 0]) 1=some (.int .i64 0):=rfl;have nq0:aF prog .neq 26 (.int .i64 0) (.int .i64 0)=some (.bool false):=by kernel_rfl
  have c1:=r130 (c:=c) (d:=m.cl) G3 s3 (aE.bytes O3 X.lo) (by decide) (by omega);have c2:=r130 (c:=c) (d:=m.ch) G3 s3 (aE.bytes O3 X.hi) (by decide) (by omega);have c1:CW 64 [.slice a 34 c,m.lo] h3=some (.int .i64 (jv r x.lo),h3):=c1;have c2:CW 64 [.slice a 34 c,m.hi] h3=some (.int .i64 (jv r x.hi),h3):=c2;have lt0 : ∀ n:Int,aF prog .lss 3 (.int .i64 n) (.int .i64 0)=some (.bool (decide (n<0))):=fun n=>by rw [bL]
  have ln:lenL m.hi=some (aq m.nh):=rfl;have hlen:=(aH X.hi).1;have e0:aF prog .gtr 3 (aq m.nh) (.int .i64 0)=some (.bool (!(decide (x.hi = [])))):=by
   rw [zk m.nh 0 0 rfl]
   congr 2
   by_cases q:x.hi = []
   ·rw [DC q,DF (by rw [q,List.length_nil] at hlen;omega)];rfl
   ·rw [DF q,DC (by have:=H7.2 q;omega)];rfl
  refine ⟨h3,aL is102 hG rfl ((t102_eq _ _ _ _).trans ?_),O3⟩;unfold t102 yu cX;rw [hv];simp -implicitDefEqProofs only [b1,b2,L2,e3,x0,x1,nq0,bf,aC,aB,M.l7,c1,lt0,DG,EF,aj,ak];by_cases q1:jv r x.lo<0
  ·simp -implicitDefEqProofs only [DC q1, bt', bu', aG, EA, aj];rw [DF (by omega : ¬0<=jv r x.lo)];rfl
  ·simp -implicitDefEqProofs only [DF q1, bf, aC, DG, EF, M.l8, ln, e0, aj, ak];by_cases q2:x.hi = []
   ·simp -implicitDefEqProofs only [DC q2, DP, bf', aG, DG, EF, aj];rw [DC (by omega:0<=jv r x.lo)];rfl
   ·simp -implicitDefEqProofs only [DF q2, DO, bt, aC, EA, M.l8, c2, ge0, aj, ak];rw [DC (by omega:0<=jv r x.lo),EM,EO]
    congr 3
    by_cases q3:jv r x.hi<0
    ·rw [DC q3,DF (by omega)];rfl
    ·rw [DF q3,DC (by omega)];rfl
theorem is131:cx prog 65 f65:=by constructor<;>kernel_rfl
theorem b131_7e (C:au) (e:aX) (h:ai):b131_7 C 0 e h=k131_5 C e h:=rfl
theorem r101 {h:ai} (hG:4<=h.n0) {b:Nat} {m:cR} (g0:h.get b=some (mC m)) {x:AM} (X:ql h m x) (hnl:m.nl<=20000) (hnh:m.nh<=20000) {r:av} (w:r.Wf) :
  ∃ h',CW 29 [dW r,ptr b 0] h=some (.bool (yu x.lo x.hi r),h')/\aE h h':=by
 have hd:MG m:=X.mg;obtain ⟨h1,b1,o1,g1,n1⟩:=dS h w;have L2:=bj g1 (aQ w).1 (aQ w).2.1;have M1:=qz hd (aE.get o1 g0);obtain ⟨h2,e2,o2⟩:=r102 (h:=h1) (by rw [o1.n0];exact hG) (X.old o1) hnl hnh w;refine ⟨h2,aL is101 hG rfl ((t101_eq _ _ _ _).trans ?_),o1.trans o2⟩;unfold t101;simp -implicitDefEqProofs only [b1, L2, M1.all, e2, aj]
theorem yA {L:List av} (hw : ∀ r∈L,av.Wf r) (j:Nat):bA (L.take j)=(bA L).take (j*39):=by
 rcases Nat.le_total j L.length with hj|hj
 ·have lt:(L.take j).length=j:=by rw [DV];omega
  conv=>rhs;rw [<-List.take_append_drop j L,jF]
  rw [HC (by rw [dE fun p hp=>hw p (EZ hp),lt])]
 ·rw [DX hj,DX (by rw [dE hw];exact GC _ hj)]
theorem yo {L:List av} (hw : ∀ r∈L,av.Wf r) {j:Nat} (hj:j<=L.length):bA (L.drop j)=(bA L).drop (j*39):=by
 have lt:(L.take j).length=j:=by rw [DV];omega
 conv=>rhs;rw [<-List.take_append_drop j L,jF]
 rw [HW (by rw [dE fun p hp=>hw p (EZ hp),lt])]
structure Cw (k:List Value) (L:List av) (p:av->Bool) (i j:Nat):Prop where
 len:k.length=L.length*39
 ij:i<=j
 jl:j<=L.length
 il:i=((L.take j).filter fun r => !(p r)).length
 lo:k.take (i*39)=bA ((L.take j).filter fun r => !(p r))
 hi:k.drop (j*39)=bA (L.drop j)
theorem ld_drop {L:List av} (hw : ∀ r∈L,av.Wf r) {k:List Value} {j:Nat} (hj:j<L.length) (hk:k.drop (j*39)=bA (L.drop j)):(k.drop (j*39)).take 39=bW L[j]:=by rw [hk,E8 hj];unfold bA;rw [E6,HC (aQ (hw _ (EL hj))).1]
theorem Cw.skip {k:List Value} {L:List av} {p:av->Bool} {i j:Nat} (s:Cw k L p i j) (hw : ∀ r∈L,av.Wf r) (hj:j<L.length) (hp:p L[j]=true):Cw k L p i (j+1):=by
 have e:(L.take (j+1)).filter (fun r => !(p r))=(L.take j).filter (fun r => !(p r)):=by rw [FF hj,IB,HL (by rw [hp];decide),List.filter_nil,EU]
 refine ⟨s.len,Nat.le_succ_of_le s.ij,hj,by rw [e];exact s.il,by rw [e];exact s.lo,?_⟩;have h1:=GM (List.drop 39) s.hi;rw [FV] at h1;rw [show (j+1)*39=j*39+39 by omega,h1,E8 hj];unfold bA;rw [E6,HW (aQ (hw _ (EL hj))).1]
theorem Cw.keep {k:List Value} {L:List av} {p:av->Bool} {i j:Nat} (s:Cw k L p i j) (hw : ∀ r∈L,av.Wf r) (hij:i<j) (hj:j<L.length) (hp:p L[j]=false):Cw (splice k (i*39) (bW L[j])) L p (i+1) (j+1):=by
 have c:=aQ (hw _ (EL hj));have hl:=s.len;have hm:i*39+39<=j*39:=by omega
 have hm2:j*39+39<=L.length*39:=by omega
 have e:(L.take (j+1)).filter (fun r => !(p r))=(L.take j).filter (fun r => !(p r)) ++ [L[j]]:=by rw [FF hj,IB,HK (by rw [hp];rfl),List.filter_nil]
 have lt:(k.take (i*39)).length=i*39:=by rw [DV];omega
 refine ⟨?_,by omega,hj,by rw [e,DE,<-s.il];rfl,?_,?_⟩
 ·unfold splice;rw [DE,DE,lt,c.1,EB];omega
 ·rw [e,jF,BA,<-s.lo];unfold splice;rw [GA (by rw [DE,lt,c.1];omega),DX (by rw [DE,lt,c.1];omega)]
 ·unfold splice;rw [List.drop_append,List.drop_of_length_le (by rw [DE,lt,c.1];omega),List.nil_append,DE,lt,c.1,FV];rw [show i*39+39+((j+1)*39-(i*39+39))=j*39+39 by omega];have h1:=GM (List.drop 39) s.hi;rw [FV] at h1;rw [h1,E8 hj];unfold bA;rw [E6,HW c.1]
theorem stored_spl {h:ai} {b o n:Nat} {k k':ju} (g:h.get b=some k) (hn:h.n0<=b) (hl:o+n<=k.length) (hl':k'.length=n) (ho:aM k'=true) : ∃ h2,eY n (ptr b o) (.agg k'.toArray) h=some (undef,h2)/\az h h2 (· = b)/\h2.get b=some (splice k o k'):=by have hc:(Value.agg k'.toArray).cells=k'.toArray:=rfl;refine ⟨h.set b (splice k o k'),?_,az.set hn g (.inr rfl),ai.dZ hn g _⟩;unfold eY ptr;simp only [hc,FT,hl',EA];unfold stL;simp only [g];have h1:decide (h.n0<=b)=true:=DC hn;have h2:decide (o+k'.length<=k.length)=true:=DC (by omega);rw [h1,h2,ho];rfl
theorem zeros_len (n:Nat):(dj zrC n).length=n*39:=by
 unfold dj;induction n with
 |zero=>rfl
 |succ n ih=>
  rw [IQ,HR,DE,ih,E6,H8,EU];have:zrC.length=39:=rfl;omega
theorem zeros_one (n:Nat):aM (dj zrC n)=true:=by
 unfold dj;induction n with
 |zero=>rfl
 |succ n ih=>
  unfold aM at *;rw [IQ,HR,FI,ih,E6,H8,EU];decide
theorem clr_recs {h:ai} {b i n:Nat} {k:ju} (g:h.get b=some k) (hn:h.n0<=b) (hi:i<n) (hl:k.length=n*39) :
  ∃ h2,clrR (.agg zrC.toArray) 39 (.slice (some ⟨b,0+i*39,some 39⟩) (n-i) (n-i)) h=some (undef,h2)/\az h h2 (· = b) /\ ∃ k2,h2.get b=some k2/\k2.length=k.length/\k2.take (i*39)=k.take (i*39):=by
 have zl:=zeros_len (n-i);have hm:(n-i)*39=n*39-i*39:=Nat.sub_mul ..;refine ⟨h.set b (splice k (0+i*39) (dj zrC (n-i))),?_,az.set hn g (.inr rfl),_,ai.dZ hn g _,?_,?_⟩
 ·unfold clrR;simp only;rw [DM (by omega)];have e1:(bI (Value.agg zrC.toArray).cells.toList&&decide ((Value.agg zrC.toArray).cells.size=39)&&decide (0<39))=true:=by decide
  rw [DL e1];show (stL b (0+i*39) (dj zrC (n-i)) h).map _=_;unfold stL;simp only [g];have h1:decide (h.n0<=b)=true:=DC hn;have h2:decide (0+i*39+(dj zrC (n-i)).length<=k.length)=true:=DC (by omega);rw [h1,h2,zeros_one];rfl
 ·unfold splice;rw [DE,DE,DV,EB];omega
 ·unfold splice;rw [DH,GA (by rw [DE,DV];omega),GA (by rw [DV];omega),H2,Nat.min_self]
set_option maxRecDepth 100000 in
set_option maxHeartbeats 1000000 in
theorem r131 {h:ai} (hG:4<=h.n0) {N:Nat} (hN:h.n0<=N) (_:N<=h.next) {v fv:Value} {L:List av} (G:dP 39 h N v L.length (bA L)) (hw : ∀ r∈L,av.Wf r) (hl:L.length<=1000000) (p:av->Bool)
  (hp : ∀ r∈L,r.Wf -> ∀ g,az h g (fun c=>N<=c) -> ∃ g',callA prog CW fv [.agg (bW r).toArray] g=some (.bool (p r),g')/\aE g g') :
  ∃ w h',CW 65 [v,fv] h=some (w,h')/\az h h' (fun c=>N<=c)/\gC h' w (L.filter fun r => !(p r))/\gx w /\ ∀ b,iR w=some b->N<=b:=by
 obtain ⟨k0,h1,e1,o1,F⟩:=r113i hG (G.rc hw).rsl hl p (fun r hr w g og=>hp r hr w g (og.mono fun _ _ h=>h.elim));have K1:az h h1 (fun c=>N<=c):=o1.mono fun _ _ h=>h.elim;have em1 : ∀ n:Int,aF prog .eql 3 (.int .i64 n) (.int .i64 (-1))=some (.bool (decide (n = -1))):=fun n=>eqI n (-1);rcases F with ⟨ha,rfl⟩|⟨i0,rfl,hi0,hpi,hta⟩
 ·have hf:(L.filter fun r => !(p r))=L:=by rw [JE];intro r hr;rw [H3] at ha;simpa using ha r hr
  refine ⟨v,h1,aL is131 hG rfl ((t131_eq _ _ _ _).trans ?_),K1,by rw [hf];exact (G.old o1).rc hw,G.nok,fun b hb=>(G.blk hb).1⟩;unfold t131;have e1:CW 62 [v,fv] h=some (.int .i64 (-1),h1):=e1;simp -implicitDefEqProofs only [e1,em1 (-1),aj,ak];rfl
 ·obtain ⟨b,gb,hb,ev⟩ : ∃ b,h.get b=some (bA L)/\N<=b/\v = .slice (some ⟨b,0,some 39⟩) L.length L.length:=by
   rcases G.form with ⟨q,_⟩|⟨b,s,q,g,hb,q2⟩
   ·omega
   ·rcases q2 with ⟨q3,_⟩|⟨_,rfl⟩
    ·omega
    ·exact ⟨b,g,hb,q⟩
  have lr:=dE hw;have D0:Cw (bA L) L p i0 (i0+1):=by
   have e:(L.take (i0+1)).filter (fun r => !(p r))=L.take i0:=by rw [FF hi0,IB,HL (by rw [hpi];decide),List.filter_nil,EU,JE];intro r hr;rw [H3] at hta;simpa using hta r hr
   refine ⟨lr,HZ _,hi0,by rw [e,DV];omega,by rw [e,yA hw],(yo hw hi0).symm⟩
  have nb : ∀ g,az h g (fun c=>N<=c)->g.n0<=b:=fun g K=>by rw [K.n0];omega
  have key : ∃ o:bc,t131 CW v fv h=o /\ ∃ w h',o=some (w,h')/\az h h' (fun c=>N<=c)/\gC h' w (L.filter fun r => !(p r))/\gx w /\ ∀ b,iR w=some b->N<=b:=by
   refine ⟨_,rfl,?_⟩;unfold t131;have e1:CW 62 [v,fv] h=some (aq i0,h1):=e1;have em:aF prog .eql 3 (aq i0) (.int .i64 (-1))=some (.bool false):=by unfold aq;rw [em1,DF (by omega)]
   have a0:aF prog .add 3 (aq i0) (.int .i64 1)=some (aq (i0+1)):=dR (by omega);simp -implicitDefEqProofs only [e1,em,a0,aj,ak];refine bH (n:=42) (fin:=fun ex y g=>ex = .exit 0/\az h g (fun c=>N<=c)/\y 0=v /\ ∃ i k,y 5=aq i/\g.get b=some k/\Cw k L p i L.length/\i<L.length) (Q:=fun o:bc => ∃ w h',o=some (w,h')/\az h h' (fun c=>N<=c)/\gC h' w (L.filter fun r => !(p r))/\gx w /\ ∀ b,iR w=some b->N<=b)
    (bC (sy CW) (Inv:=fun kk y g => ∃ i j k,j+kk=L.length/\y 0=v/\y 1=fv/\y 5=aq i/\y 6=aq j/\az h g (fun c=>N<=c)/\g.get b=some k/\Cw k L p i j/\i<j) ?_ (L.length-(i0+1)) (by have:aD=18446744073709551616:=rfl;omega) ⟨i0,i0+1,bA L,by omega,rfl,rfl,rfl,rfl,K1,aE.get o1 gb,D0,Nat.lt_succ_self _⟩) ?_
   ·rintro kk y g ⟨i,j,k,hjk,y0,y1,y5,y6,K,gk,D,hij⟩;have y0':=y0.trans ev;unfold ku;have ln:lenL (.slice (some ⟨b,0,some 39⟩) L.length L.length)=some (aq L.length):=rfl;have y5':y 5=aq i:=y5;simp -implicitDefEqProofs only [y0',y6,ln,ie,aj,ak];by_cases hj:j<L.length
    ·have hm:=Cx (z:=39) hj;have ix : ∀ t,t<L.length->idxS 39 (.slice (some ⟨b,0,some 39⟩) L.length L.length) (aq t)=some (ptr b (t*39)):=fun t ht=>by unfold idxS aq;simp only;rw [DL (by omega),Int.toNat_natCast,DH]
     have wr:=hw _ (EL hj);have L1:du 39 (ptr b (j*39)) g=some (dW L[j],g):=by have e:=ld_drop hw hj D.hi;have:=qF (o:=j*39) (n:=39) gk (by rw [D.len];exact hm) (by rw [e];exact (aQ wr).2.1);rw [e] at this;exact this
     obtain ⟨g1,g2,z1,s1,o2,q2⟩:=tD g wr;have K2:az h g2 (fun c=>N<=c):=K.trans (o2.mono fun _ _ h=>h.elim);have L2:=bj q2 (aQ wr).1 (aQ wr).2.1;obtain ⟨g3,e3,o3⟩:=hp _ (EL hj) wr g2 K2;have K3:az h g3 (fun c=>N<=c):=K2.trans (o3.mono fun _ _ h=>h.elim);have L3:=bj (aE.get o3 q2) (aQ wr).1 (aQ wr).2.1;have a6:aF prog .add 3 (aq j) (.int .i64 1)=some (aq (j+1)):=dR (by omega);have gk3:=aE.get (o2.trans o3) gk;cases hpj:p L[j] with
     |true=>
      rw [hpj] at e3;simp -implicitDefEqProofs only [DC hj, y1, ix j hj, L1, z1, s1, L2, e3, aV, DP, a6, aj, ak];exact dJ.next (kk-1) (by omega) ⟨i,j+1,k,by omega,y0,y1,y5,rfl,K3,gk3,D.skip hw hj hpj,by omega⟩
     |false=>
      rw [hpj] at e3;obtain ⟨g4,e4,k4,q4⟩:=stored_spl (o:=i*39) (n:=39) gk3 (nb g3 K3) (by rw [D.len];omega) (aQ wr).1 (aQ wr).2.2;have a5:aF prog .add 3 (aq i) (.int .i64 1)=some (aq (i+1)):=dR (by omega);have K4:az h g4 (fun c=>N<=c):=K3.also k4 (fun d _ q=>by have q:d=b:=q;omega)
      simp -implicitDefEqProofs only [DC hj, y1, y5', ix j hj, ix i (by omega), L1, z1, s1, L2, e3, aV, DO, L3, e4, a5, a6, aj, ak];exact dJ.next (kk-1) (by omega) ⟨i+1,j+1,_,by omega,y0,y1,rfl,rfl,K4,q4,D.keep hw hij hj hpj,by omega⟩
    ·have hE:j=L.length:=by omega
     subst hE;simp -implicitDefEqProofs only [DF hj];exact dJ.out 0 ⟨rfl,K,y0,i,k,y5,gk,D,hij⟩
   ·rintro ex z g ⟨rfl,K,z0,i,k,z5,gk,D,hij⟩;have z0':=z0.trans ev;simp -implicitDefEqProofs only [bk,b131_7e,Ak];unfold sx;have hb1:nT 39 (.slice (some ⟨b,0,some 39⟩) L.length L.length) (some (aq i)) none none=some (.slice (some ⟨b,0+i*39,some 39⟩) (L.length-i) (L.length-i)):=by unfold nT sliceSl;simp only [bnd_lo (FM hij) (DD L.length)];rw [DL ⟨True.intro,by decide⟩]
    have hb2:nT 39 (.slice (some ⟨b,0,some 39⟩) L.length L.length) none (some (aq i)) none=some (.slice (some ⟨b,0+0*39,some 39⟩) (i-0) (L.length-0)):=by unfold nT sliceSl;simp only [bnd_hi (FM hij) (DD L.length)];rw [DL ⟨True.intro,by decide⟩]
    obtain ⟨g2,e2,k2,kc,q2,l2,t2⟩:=clr_recs gk (nb g K) hij D.len;have e2:clrR (.agg pg) 39 (.slice (some ⟨b,0+i*39,some 39⟩) (L.length-i) (L.length-i)) g=some (undef,g2):=e2;simp -implicitDefEqProofs only [z0',z5,hb1,e2,hb2,aj,ak];have hi:=D.il;rw [GN] at hi;have hlo:=D.lo;rw [GN] at hlo;have hwf : ∀ r∈L.filter (fun r => !(p r)),av.Wf r:=fun r hr=>hw r (EE.1 hr).1;have hm:i*39+39<=L.length*39:=by omega
    refine ⟨_,g2,rfl,K.also k2 (fun d _ q=>by have q:d=b:=q;omega),⟨hwf,some ⟨b,0+0*39,some 39⟩,L.length-0,by rw [<-hi];rfl,(fun h=>by cases h),fu hwf,fun _=>⟨b,0+0*39,some 39,kc,rfl,q2,?_,?_⟩⟩,.inr ⟨_,_,_,rfl,by omega,fun t e=>by cases e;rfl⟩,fun c hc => ?_⟩
    ·rw [<-hi,show jO.length=39 from rfl,l2,D.len];omega
    ·rw [<-hi,show jO.length=39 from rfl,show 0+0*39=0 from rfl,EP,t2,hlo]
    ·cases hc;exact hb
  obtain ⟨q,e,w,h',e',oo⟩:=key;exact ⟨w,h',aL is131 hG rfl ((t131_eq _ _ _ _).trans (e.trans e')),oo⟩
theorem is134:cx prog 68 f68:=by constructor<;>kernel_rfl
theorem is152:cx prog 92 f92:=by constructor<;>kernel_rfl
theorem results152:f92.results.toList = []:=by kernel_rfl
theorem body152:hasBody prog 92=true:=by kernel_rfl
theorem b152_1e (C:au) (e:aX) (h:ai):b152_1 C 0 e h=resultsA prog f92.results.toList e h:=rfl
theorem gC.lim {h:ai} {v:Value} {R:List av} (x:gC h v R) (n:gx v) {i k:Nat} (hk:0<k) (hj:i+k<=R.length) : ∃ v',nT 39 v (some (aq i)) (some (aq (i+k))) (some (aq (i+k)))=some v'/\gC h v' ((R.drop i).take k)/\gx v':=by
 obtain ⟨hd,a,d,rfl,hn,ht,h0⟩:=x;have hd' : ∀ p∈(R.drop i).take k,av.Wf p:=fun p hp=>hd p (FJ (EZ hp));obtain ⟨b,o,s,kk,rfl,hkk,hlen,hcs⟩:=h0 (by omega);rw [show jO.length=39 from rfl] at hlen hcs;rcases n with h1|⟨a',n',c',h1,hc,hs⟩
 ·cases h1
 ·injection h1 with e1 e2 e3
  cases e1;subst e2 e3;have hc:R.length<=d:=hc;have hl:((R.drop i).take k).length=k:=by rw [DV,EB];omega
  have hb:boundsA R.length d (some (aq i)) (some (aq (i+k))) (some (aq (i+k)))=some (i,i+k,i+k):=by
   have a1:boundA d d (some (aq (i+k)))=some (i+k):=by unfold boundA aq;simp only;rw [DL (by omega)];rfl
   have a2:boundA R.length (i+k) (some (aq (i+k)))=some (i+k):=by unfold boundA aq;simp only;rw [DL (by omega)];rfl
   have a3:boundA 0 (i+k) (some (aq i))=some i:=by unfold boundA aq;simp only;rw [DL (by omega)];rfl
   unfold boundsA;simp only [a1,a2,a3]
  refine ⟨.slice (some ⟨b,o+i*39,none⟩) (i+k-i) (i+k-i),?_,⟨hd',some ⟨b,o+i*39,none⟩,i+k-i,by rw [hl,FO],(fun h=>by cases h),fu hd',fun hp=>⟨b,o+i*39,none,kk,rfl,hkk,?_,?_⟩⟩,.inr ⟨_,_,_,rfl,DD _,fun t e=>by cases e⟩⟩
  ·unfold nT sliceSl;cases s with
   |none=>
    simp only [hb];rw [DM (by omega)]
   |some t=>
    have:t=39:=hs t rfl;subst this;simp only [hb];rw [DL ⟨True.intro,by decide⟩,DM (by omega)]
  ·have h2:(i+k)*39<=R.length*39:=GC _ hj;have h3:(i+k)*39=i*39+k*39:=HM ..;rw [hl,show jO.length=39 from rfl];omega
  ·have h2:(i+k)*39<=R.length*39:=GC _ hj;have h3:(i+k)*39=i*39+k*39:=HM ..;have hdd : ∀ p∈R.drop i,av.Wf p:=fun p hp=>hd p (FJ hp);rw [hl,show jO.length=39 from rfl,yA hdd,yo hd (by omega),<-hcs,IH,H2,FV];rw [HI (by omega)]
theorem gC.cU {h:ai} {v:Value} {R:List av} (x:gC h v R) (n:gx v) {i:Nat} (hi:i<R.length) : ∃ v',nT 39 v (some (aq i)) none none=some v'/\lenL v'=some (aq (R.length-i)):=by
 obtain ⟨hd,a,d,rfl,hn,ht,h0⟩:=x;obtain ⟨b,o,s,kk,rfl,hkk,hlen,hcs⟩:=h0 (by omega);rcases n with h1|⟨a',n',c',h1,hc,hs⟩
 ·cases h1
 ·injection h1 with e1 e2 e3
  cases e1;subst e2 e3;have hc:R.length<=d:=hc;have hb:=bnd_lo (n:=R.length) (c:=d) (FM hi) hc;unfold nT sliceSl;cases s with
  |none=>
   simp only [hb];exact ⟨_,rfl,rfl⟩
  |some t=>
   have:t=39:=hs t rfl;subst this;simp only [hb];rw [DL ⟨True.intro,by decide⟩];exact ⟨_,rfl,rfl⟩
theorem min3 (a b:Nat):minmax false (aq a) [aq b]=some (aq (min a b)):=by
 unfold aq minmax;simp only [EA];unfold minmax;by_cases h:b<a
 ·simp only [DG,EF];rw [DL (by simpa using h)]
  congr 2
  omega
 ·simp only [DG,EF];rw [DM (by simpa using h)]
  congr 2
  omega
theorem r134 {h:ai} (hG:4<=h.n0) (a:Option Addr) (n c:Nat):CW 68 [.slice a n c,.int .i64 64] h=some (.func (.func 92) #[] #[ptr h.next 0,ptr (h.next+1) 0],(h.alloc [.slice a n c]).alloc [.int .i64 64]):=by
 have b1:=box_sl a n c h;have b2:box (.int .i64 64) (h.alloc [.slice a n c])=some (ptr (h.next+1) 0,(h.alloc [.slice a n c]).alloc [.int .i64 64]):=rfl;have g2:((h.alloc [.slice a n c]).alloc [.int .i64 64]).get (h.next+1)=some [.int .i64 64]:=by rw [ai.aN,DL (show h.next+1=(h.alloc [.slice a n c]).next from rfl)]
 generalize hh2:(h.alloc [.slice a n c]).alloc [.int .i64 64]=h2 at *;have l3:ld1 (ptr (h.next+1) 0) h2=some (.int .i64 64,h2):=aW g2 rfl rfl;have hb:f68.body=some (.seq (ao f68 [0]) (.seq (.seq (ao f68 [1,0,0]) (.cond (.tmp 6) (ao f68 [1,0,1,0]) .skip)) (ao f68 [1,1]))):=by kernel_rfl
 have hn:f68.ntmps=9:=by kernel_rfl
 have hr:f68.results.toList = [.tmp 4]:=by kernel_rfl
 have lt64:aF prog .lss 3 (.int .i64 64) (.int .i64 1)=some (.bool false):=by kernel_rfl
 have e0 : [Value.slice a n c,.int .i64 64]++List.replicate (9-2) undef=aK 9 (bs [.slice a n c,.int .i64 64]):=rfl;refine aL is134 hG rfl ?_;rw [xZ];unfold bodyA;rw [hb,hn];simp only [List.length_cons,List.length_nil];rw [e0];simp only [codeA,AD];unfold sS;have x0:bs [Value.slice a n c,.int .i64 64] 0 = .slice a n c:=rfl;have x1:bs [Value.slice a n c,.int .i64 64] 1 = .int .i64 64:=rfl;simp -implicitDefEqProofs only [x0, x1, b1, b2, aj, wU];unfold oR;have x3 : ∀ y,up (bs [Value.slice a n c,.int .i64 64]) [(2,ptr h.next 0),(3,ptr (h.next+1) 0),(4,y)] 3=ptr (h.next+1) 0:=fun _=>rfl;simp -implicitDefEqProofs only [x3, l3, lt64, aj, ak];rw [ev_mkF (by decide:6<9)];have x6:up (up (bs [Value.slice a n c,.int .i64 64]) [(2,ptr h.next 0),(3,ptr (h.next+1) 0),(4,Value.nilFunc)]) [(5,Value.int .i64 64),(6,.bool false)] 6 = .bool false:=rfl;rw [x6];simp only [qB];unfold qC;simp -implicitDefEqProofs only [aj];rw [iD hr (by decide)];rfl
set_option maxRecDepth 100000 in
theorem r152 {C:au} (hC : ∀ args (h:ai) r,4<=h.n0->bw prog C f92 args h=some r->C 92 args h=some r) {h:ai} (hG:4<=h.n0) {L c1 c2:Nat} {w:Value} {R:List av} (hR:R.length<=1000000) (Inv:Nat->ai->Prop)
  (hread : ∀ j g,Inv j g->ld1 (ptr c1 0) g=some (w,g)/\ld1 (ptr c2 0) g=some (.int .i64 64,g)/\gC g w R/\gx w)
  (hstep : ∀ j g v',j<R.length->Inv j g->gC g v' ((R.drop j).take 64)->gx v' -> ∃ g',C (BS prog L) [v'] g=some (.bool true,g')/\Inv (j+64) g') (h0:Inv 0 h) :
  ∃ h' j,C 92 [.func (.yield L) #[] #[],ptr c1 0,ptr c2 0] h=some (.tuple #[],h')/\R.length<=j/\Inv j h':=by
 have key : ∃ o:bc,t152 C (.func (.yield L) #[] #[]) (ptr c1 0) (ptr c2 0) h=o /\ ∃ h' j,o=some (.tuple #[],h')/\R.length<=j/\Inv j h':=by
  refine ⟨_,rfl,?_⟩;unfold t152;simp -implicitDefEqProofs only [aj];refine bH (n:=31) (fin:=fun ex y g=>ex = .exit 0 /\ ∃ j,R.length<=j/\Inv j g) (Q:=fun o:bc => ∃ h' j,o=some (.tuple #[],h')/\R.length<=j/\Inv j h')
   (bC (xR C) (Inv:=fun k y g => ∃ i,R.length<=i+k/\i<=R.length+64/\(k=0->R.length<=i)/\y 0 = .func (.yield L) #[] #[]/\y 1=ptr c1 0/\y 2=ptr c2 0/\y 4=aq i/\Inv i g) ?_ R.length (by have:aD=18446744073709551616:=rfl;omega) ⟨0,by omega,by omega,fun h=>by omega,rfl,rfl,rfl,rfl,h0⟩) ?_
  ·rintro k y g ⟨i,hik,hi64,hk0,y0,y1,y2,y4,hi⟩;obtain ⟨l1,l2,rc,nk⟩:=hread _ _ hi;have hll:=rc.rsl.len;unfold qn;simp -implicitDefEqProofs only [y1,y4,l1,hll,ie,aj,ak];by_cases hlt:i<R.length
   ·obtain ⟨v1,s1,n1⟩:=rc.cU nk hlt;have hmin:0<min 64 (R.length-i):=by omega
    obtain ⟨v2,s2,r2,k2⟩:=rc.lim nk (i:=i) (k:=min 64 (R.length-i)) hmin (by omega);have er:(R.drop i).take (min 64 (R.length-i))=(R.drop i).take 64:=by rw [<-List.length_drop,Nat.min_comm,List.take_eq_take_iff];omega
    rw [er] at r2;obtain ⟨g',e',hi'⟩:=hstep i g v2 hlt hi r2 k2;have hca:callA prog C (.func (.yield L) #[] #[]) [v2] g=some (.bool true,g'):=e';obtain ⟨_,l2',_,_⟩:=hread _ _ hi';have m64:minmax false (.int .i64 64) [aq (R.length-i)]=some (aq (min 64 (R.length-i))):=min3 64 _;have a1:aF prog .add 3 (aq i) (aq (min 64 (R.length-i)))=some (aq (i+min 64 (R.length-i))):=add33 (by omega);have a2:aF prog .add 3 (aq i) (.int .i64 64)=some (aq (i+64)):=add33 (j:=64) (by omega);simp -implicitDefEqProofs only [DC hlt, y0, y2, l1, l2, s1, n1, m64, a1, s2, hca, aV, DP, l2', a2, aj, ak];exact dJ.next (k-1) (by omega) ⟨i+64,by omega,by omega,fun h=>by omega,y0,y1,y2,rfl,hi'⟩
   ·simp -implicitDefEqProofs only [DF hlt];exact dJ.out 0 ⟨rfl,i,by omega,hi⟩
  ·rintro ex z g ⟨rfl,j,hj,hi⟩;simp -implicitDefEqProofs only [bk,b152_1e];refine ⟨g,j,?_,hj,hi⟩;rw [results152];rfl
 obtain ⟨o,e,h',j,e',hj,hi⟩:=key;exact ⟨h',j,hC _ _ _ hG ((t152_eq _ _ _ _ _).trans (e.trans e')),hj,hi⟩
theorem is103:cx prog 31 f31:=by constructor<;>kernel_rfl
theorem rng103:ao f31 [1,1,1,1,1,0,1,0] = .rangeFunc (.tmp 24) #[25] (rgA (ao f31 [1,1,1,1,1,0,1,0])) (rgB (ao f31 [1,1,1,1,1,0,1,0])):=by kernel_rfl
theorem rng103a:codeOk prog (rgA (ao f31 [1,1,1,1,1,0,1,0]))=true:=by kernel_rfl
theorem rng103b:codeOk prog (rgB (ao f31 [1,1,1,1,1,0,1,0]))=true:=by kernel_rfl
theorem dP.pushB {z jt:Nat} {h:ai} {N c:Nat} {v:Value} {n:Nat} {cs e:List Value} (x:dP z h N v n cs) (hz:0<z) (hb:jt<=1000) (h0:h.n0<=N) (hN:N<=h.next) (hl:n<=1000000) (he:e.length=z) (ho:Abs.noHoles e=true) (h1:aM e=true) (hc:h.get c=some e) :
  ∃ v' h',appendA z jt v (.slice (some ⟨c,0,none⟩) 1 1) h=some (v',h')/\dP z h' N v' (n+1) (cs++e)/\az h h' (fun b=>iR v=some b)/\iR v'=some h.next/\h'.next=h.next+1:=by
 obtain ⟨v',h',e1,g1,k1⟩:=x.push hz hb h0 hN hl he ho h1 hc;refine ⟨v',h',e1,g1,k1,?_⟩;have hf:firstA z 1 (.slice (some ⟨c,0,none⟩) 1 1) h=some e:=by
  have e1:(e.drop 0).take (1*z)=e:=by rw [EP,JT,DX (by omega)]
  unfold firstA;simp only;rw [DM (by omega),hc];simp only;rw [e1,DL ⟨by omega,ho⟩]
 unfold appendA at e1;rcases x.form with ⟨rfl,rfl⟩|⟨b,s,rfl,g2,g3,g4⟩
 ·simp only [ik,hf] at e1;split at e1
  ·cases e1
  ·split at e1
   ·rename_i hh;omega
   ·split at e1
    ·cases e1;exact ⟨rfl,rfl⟩
    ·cases e1
 ·simp only [ik,hf] at e1;split at e1
  ·cases e1
  ·split at e1
   ·rename_i hh;omega
   ·split at e1
    ·cases e1
    ·split at e1
     ·cases e1
     ·split at e1
      ·cases e1;exact ⟨rfl,rfl⟩
      ·split at e1
       ·cases e1;exact ⟨rfl,rfl⟩
       ·cases e1
structure wT (g:ai) (N:Nat) (w:Value) (ms:List cR) (xs:List AM):Prop where
 sl:dP 116 g N w ms.length (uf ms)
 len:ms.length=xs.length
 is : ∀ i (h:i<ms.length) (h':i<xs.length),ql g ms[i] xs[i]
 own : ∀ i (h:i<ms.length) (h':i<xs.length),sv g N ms[i] xs[i].L.length (bA xs[i].L)
 bel : ∀ b,iR w=some b -> ∀ m∈ms,MBel b m
theorem ql.keep {g g':ai} {N n:Nat} {m:cR} {x:AM} {cs:List Value} {B:Nat->Prop} (h:ql g m x) (o:sv g N m n cs) (k:az g g' B) (hB : ∀ b,N<=b->b<g.next->((∃ y,m.al=some y/\y.block=b)\/(∃ y,m.ah=some y/\y.block=b)\/iR m.od=some b) -> ¬B b):ql g' m x/\sv g' N m n cs:=by
 have rs':=o.rs.keep k (fun b hb=>hB b (o.rs.blk hb).1 (o.rs.blk hb).2 (.inr (.inr hb)));refine ⟨⟨h.kind,h.frm,h.to,h.cnt,h.root,h.want,h.d32,gD h.lo fun y hy=>k.get _ (o.lo y hy).2 (hB _ (o.lo y hy).1 (o.lo y hy).2 (.inl ⟨y,hy,rfl⟩)),gD h.hi fun y hy=>k.get _ (o.hi y hy).2 (hB _ (o.hi y hy).1 (o.hi y hy).2 (.inr (.inl ⟨y,hy,rfl⟩))),?_,h.mg⟩,
  ⟨fun y e=>⟨(o.lo y e).1,EJ (o.lo y e).2 k.next⟩,fun y e=>⟨(o.hi y e).1,EJ (o.hi y e).2 k.next⟩,rs',o.zr⟩⟩
 obtain ⟨hd,a,d,e,hn,ht,h0⟩:=h.rs;refine ⟨hd,a,d,e,hn,ht,fun hp => ?_⟩;obtain ⟨b,off,s,q,rfl,hk,hl,hcs⟩:=h0 hp;have hg:iR m.od=some b:=by rw [e];rfl
 exact ⟨b,off,s,q,rfl,k.getE hk (hB b (o.rs.blk hg).1 (o.rs.blk hg).2 (.inr (.inr hg))),hl,hcs⟩
theorem wT.keep {g g':ai} {N:Nat} {w:Value} {ms:List cR} {xs:List AM} {B:Nat->Prop} (h:wT g N w ms xs) (k:az g g' B) (hB : ∀ b,N<=b->b<g.next -> ¬B b):wT g' N w ms xs:=
 ⟨h.sl.keep k fun b hb=>hB b (h.sl.blk hb).1 (h.sl.blk hb).2,h.len,fun i hi hi'=>((h.is i hi hi').keep (h.own i hi hi') k fun b h1 h2 _=>hB b h1 h2).1,fun i hi hi'=>((h.is i hi hi').keep (h.own i hi hi') k fun b h1 h2 _=>hB b h1 h2).2,h.bel⟩
theorem wT.push {g:ai} {N:Nat} {w:Value} {ms:List cR} {xs:List AM} (A:wT g N w ms xs) {m:cR} {x:AM} (hn:g.n0<=N) (hN:N<=g.next) (hl:ms.length<=100000) (X:ql g m x) {M:Nat} (hM:N<=M) (hwM : ∀ b,iR w=some b->b<M) (O:sv g M m x.L.length (bA x.L)) :
  ∃ w' g',appendA 116 352 w (.slice (some ⟨g.next,0,none⟩) 1 1) (g.alloc (mC m))=some (w',g')/\wT g' N w' (ms ++ [m]) (xs ++ [x])/\az g g' (fun b=>iR w=some b)/\(∃ b s n,w' = .slice (some ⟨b,0,s⟩) n n):=by
 have hd:MG m:=X.mg;have ok:=gf hd;have o1:aE g (g.alloc (mC m)):=az.alloc _ _ _;have g1:(g.alloc (mC m)).get g.next=some (mC m):=by rw [ai.aN,DL rfl]
 have n1:(g.alloc (mC m)).next=g.next+1:=rfl;generalize g.alloc (mC m)=h1 at *;obtain ⟨w',g',e,G,k,hb,hn'⟩:=(A.sl.old o1).pushB (jt:=352) (by decide) (by decide) (by rw [o1.n0];exact hn) (by omega) (by omega) ok.1 ok.2.1 ok.2.2 g1;have K:az g g' (fun b=>iR w=some b):=(o1.mono fun _ _ h=>h.elim).trans k;have notw : ∀ q∈ms,∀ b,((∃ y,q.al=some y/\y.block=b)\/(∃ y,q.ah=some y/\y.block=b)\/iR q.od=some b) -> ¬iR w=some b:=fun q hq b hb' hw=>by
  have bl:=A.bel b hw q hq;rcases hb' with ⟨y,h1,h2⟩|⟨y,h1,h2⟩|h1
  ·have:=bl.1 y h1;omega
  ·have:=bl.2.1 y h1;omega
  ·have:=bl.2.2 b h1;omega
 have G':dP 116 g' N w' (ms ++ [m]).length (uf (ms ++ [m])):=by rw [DE,tn,msC_one];exact G
 have wf : ∃ b s n,w' = .slice (some ⟨b,0,s⟩) n n:=by
  rcases G.wform with h|h
  ·rw [h] at hb;cases hb
  ·exact h
 have XO:=X.keep O K fun b h1 _ _ hb'=>by have:=hwM b hb';omega
 refine ⟨w',g',e,⟨G',by rw [DE,DE,A.len];rfl,fun i hi hi' => ?_,fun i hi hi' => ?_,fun b hb' q hq => ?_⟩,K,wf⟩
 ·skip
  by_cases hlt:i<ms.length
  ·have hlt':i<xs.length:=by rw [<-A.len];exact hlt
   rw [GW hlt,GW hlt'];exact ((A.is i hlt hlt').keep (A.own i hlt hlt') K fun b _ _ hb'=>notw _ (EL hlt) b hb').1
  ·have hi2:i<ms.length+1:=by rw [DE] at hi;exact hi
   obtain rfl:i=ms.length:=by omega
   have ex:(xs ++ [x])[ms.length]=x:=by rw [HB (by rw [A.len];exact DD _)];simp [A.len]
   rw [ex,HB (DD _)];simp only [IM,List.getElem_cons_zero];exact XO.1
 ·by_cases hlt:i<ms.length
  ·have hlt':i<xs.length:=by rw [<-A.len];exact hlt
   rw [GW hlt,GW hlt'];exact ((A.is i hlt hlt').keep (A.own i hlt hlt') K fun b _ _ hb'=>notw _ (EL hlt) b hb').2
  ·have hi2:i<ms.length+1:=by rw [DE] at hi;exact hi
   obtain rfl:i=ms.length:=by omega
   have ex:(xs ++ [x])[ms.length]=x:=by rw [HB (by rw [A.len];exact DD _)];simp [A.len]
   rw [ex,HB (DD _)];simp only [IM,List.getElem_cons_zero];exact XO.2.weak hM
 ·rw [hb] at hb';obtain rfl:=H5 hb';rcases DU.1 hq with hq|hq
  ·obtain ⟨i,hi,rfl⟩:=FE.1 hq;have hi':i<xs.length:=by rw [<-A.len];exact hi
   exact (A.own i hi hi').bel.up (by omega)
  ·rw [EK.1 hq];exact O.bel.up (by omega)
theorem fs_135:Nat.ble 135 prog.funcs.size=true:=by kernel_rfl
theorem SV_lt : ∀ x∈SV,x<135:=by decide
theorem CV_yield {L:Nat} {args:List Value} {h:ai} {r:Value×ai} (hG:4<=h.n0) (e:roundA prog CV L args h=some r):CV (BS prog L) args h=some r:=by
 have e1:=EY fs_135;refine CC2_round (by rw [lD];exact hG) ?_ (CA ?_ _ _) e
 ·show SV.contains (prog.funcs.size+L)=false;generalize prog.funcs.size=n at e1;rw [<-Bool.not_eq_true,IS];intro hm;have:=SV_lt _ hm;omega
 ·show ¬(prog.funcs.size+L)=21;generalize prog.funcs.size=n at e1;omega
def nU (R:List av) (t:Nat):List (List av):=(List.range t).map fun i=>(R.drop (64*i)).take 64
theorem chkT_succ (R:List av) (t:Nat):nU R (t+1)=nU R t ++ [(R.drop (64*t)).take 64]:=by unfold nU;rw [IQ,FH,FR,HP]
set_option maxRecDepth 100000 in
set_option maxHeartbeats 1000000 in
theorem chunk_all {h1 h:ai} (hG:4<=h1.n0) (O1:aE h1 h) {c1 c2 mb:Nat} {w:Value} {R:List av} (hR:R.length<=100000) (rc:gC h1 w R) (nk:gx w) {m:cR} {x:AM} (X:ql h1 m x) (gm:h1.get mb=some (mC m)) (hnl:m.nl<=20000) (hnh:m.nh<=20000)
  (hcb:h1.next<h.next) (gc:h.get h1.next=some [.slice none 0 0]) (g1:h.get c1=some [w]) (g2:h.get c2=some [.int .i64 64]) (n1:h1.next<c1) (n2:h1.next<c2)
  {y0:Nat->Value} (x24:y0 24 = .func (.func 92) #[] #[ptr c1 0,ptr c2 0]) (x3:y0 3=ptr mb 0) (x6:y0 6=ptr h1.next 0) :
  ∃ h' v ms,codeA prog CV (ao f31 [1,1,1,1,1,0,1,0]) (aK 33 y0) h=some (.normal,aK 33 y0,h')/\aE h1 h'/\h'.get h1.next=some [v]/\wT h' (h.next+1) v ms ((nU R ((R.length+63)/64)).map fun l=>dQ x.lo x.hi l false):=by
 have hc0:=rng103;have oa:=rng103a;have ob:=rng103b;have hA : ∀ y g,codeA prog CV (rgA (ao f31 [1,1,1,1,1,0,1,0])) (aK 33 y) g=some (.normal,aK 33 (up y [(7,y 25)]),g):=fun y g=>(pn CV y g).trans rfl;have hB : ∀ y g,codeA prog CV (rgB (ao f31 [1,1,1,1,1,0,1,0])) (aK 33 y) g=fC CV y g:=fun y g=>po CV y g;generalize hca:rgA (ao f31 [1,1,1,1,1,0,1,0])=ca at *;generalize hcb':rgB (ao f31 [1,1,1,1,1,0,1,0])=cbd at *;have hGh:4<=h.n0:=by rw [O1.n0];exact hG
 have Lp0:=Ag.new h (aK 33 y0) [25] ca cbd;have k0:aE h (h.br (.obj (.loop .ready none (aK 33 y0) [25] ca cbd))):=az.allocO _ _ _;have h1n:=h.aO g1;have h2n:=h.aO g2;generalize hh1:h.br (.obj (.loop .ready none (aK 33 y0) [25] ca cbd))=h2 at *;have hn1:h2.next=h.next+1:=by rw [<-hh1];rfl
 have old1 : ∀ {g:ai},az h g (fun b=>b=h1.next\/h.next<=b)->aE h1 g:=fun K=>O1.also K (fun d hd q=>by rcases q with q|q<;>omega);have hd:MG m:=X.mg;obtain ⟨h3,j,e2,hj,⟨t,rfl,ht,K3,R3,hn3,v,ms,gv,A3,hml⟩⟩:=r152 (C:=CV) (fun args h r hg e=>jX is152 hg (by decide) (by decide) e) (h:=h2) (by rw [k0.n0];exact hGh) (L:=h.next) (c1:=c1) (c2:=c2) (w:=w) (R:=R) (by omega)
  (fun j g => ∃ t,j=64*t/\t<=(R.length+63)/64/\az h g (fun b=>b=h1.next\/h.next<=b)/\Ag g h.next (aK 33 y0) [25] ca cbd/\h2.next<=g.next /\ ∃ v ms,g.get h1.next=some [v]/\wT g (h.next+1) v ms ((nU R t).map fun l=>dQ x.lo x.hi l false)/\(v = .slice none 0 0 \/ ∃ b s n,v = .slice (some ⟨b,0,s⟩) n n))
  (fun j g ⟨t,_,_,K,_,_,_⟩=>by refine ⟨aW (K.getE g1 (fun q=>by rcases q with q|q<;>omega)) rfl (yQ nk),aW (K.getE g2 (fun q=>by rcases q with q|q<;>omega)) rfl rfl,rc.mono (old1 K),nk⟩)
  (fun j g v' hjl ⟨t,hjt,ht,K,R1,hn,v,ms,gv,A,hv⟩ rc' nk'=>by
   have Og:=old1 K;have G:4<=g.n0:=by rw [K.n0];exact hGh
   have ha:codeA prog CV ca (fo (aK 33 y0) ([25].zip [v'])) g=some (.normal,aK 33 (up (up y0 [(25,v')]) [(7,v')]),g):=by show codeA prog CV ca ((aK 33 y0).set 25 v') g=_;rw [qS,hA];rfl
   have R4':=R1;unfold Ag at R4';have kS:az g (g.setO h.next (.loop .busy none (aK 33 y0) [25] ca cbd)) (· = h.next):=Go.Abs.az.setO R4' rfl;have gS : ∀ b,(g.setO h.next (.loop .busy none (aK 33 y0) [25] ca cbd)).get b=g.get b:=fun b=>ai.ug R4' _ b;have gL:g.get h.next=none:=by unfold ai.get;rw [R4'];rfl
   generalize hg5:g.setO h.next (.loop .busy none (aK 33 y0) [25] ca cbd)=g5 at *;have G5:4<=g5.n0:=by rw [kS.n0];exact G
   have K5:az h g5 (fun b=>b=h1.next\/h.next<=b):=K.also kS (fun d hd q => .inr (by omega));have O5:=old1 K5;have hk5:=kS.next;have A5:wT g5 (h.next+1) v ms ((nU R t).map fun l=>dQ x.lo x.hi l false):=A.keep kS (fun b h1 _ q=>by have q:b=h.next:=q;omega)
   have gv5:g5.get h1.next=some [v]:=(gS _).trans gv;have rc5:gC g5 v' ((R.drop j).take 64):=by obtain ⟨hd',a,d,e,hn',ht',h0⟩:=rc';refine ⟨hd',a,d,e,hn',ht',fun hp => ?_⟩;obtain ⟨b,off,s,q,e',hk,hl,hcs⟩:=h0 hp;exact ⟨b,off,s,q,e',(gS _).trans hk,hl,hcs⟩
   obtain ⟨m',g6,e6,o6,X6,W6⟩:=r129 (h:=g5) G5 (X.old O5) rc5 nk' (by rw [DV];omega) false (by omega) (by omega);have e6:=jx (f:=61) rfl (by decide) e6;have hd6:MG m':=X6.mg;have e7:=B7 hd6 g6;have o6n:=o6.next;have A6:=A5.keep (o6.mono (B':=fun _=>False) fun _ _ h=>h) (fun _ _ _ h=>h);have hms:ms.length<=100000:=by rw [A.len,DY];unfold nU;rw [DY,IJ];omega
   have gl5 : ∀ b,iR v=some b->b<g5.next:=fun b hb=>(A5.sl.blk hb).2;obtain ⟨w8,g8,e8,A8,k8,hw8⟩:=A6.push (x:=dQ x.lo x.hi ((R.drop j).take 64) false) (by rw [o6.n0,K5.n0];exact Nat.le_succ_of_le h.n0_le_next) (by omega) hms X6 (M:=g5.next) (by omega) gl5 W6;have K68:az g5 g8 (fun b=>iR v=some b):=(o6.mono fun _ _ h=>h.elim).trans k8;have gv8:g8.get h1.next=some [v]:=K68.getE gv5 (fun q=>by have:=(A5.sl.blk q).1;omega)
   have cw:w8.cells = #[w8]/\w8.oneCell'=true:=by obtain ⟨b,s,n,rfl⟩:=hw8;exact ⟨rfl,rfl⟩
   obtain ⟨g9,e9,k9,q9,_,_⟩:=stored (o:=0) (v:=w8) gv8 (by rw [K68.n0,K5.n0,O1.n0];exact h1.n0_le_next) (Nat.succ_pos _) cw.1 cw.2;have l6:ld1 (ptr h1.next 0) g5=some (v,g5):=aW gv5 rfl (by rcases hv with rfl|⟨b,s,n,rfl⟩<;>rfl);have l6':ld1 (ptr h1.next 0) g6=some (v,g6):=aW (aE.get o6 gv5) rfl (by rcases hv with rfl|⟨b,s,n,rfl⟩<;>rfl);have M5:=qz hd (aE.get O5 gm);have ck:cq true (some (v,g6)) v=true:=by rcases hv with rfl|⟨b,s,n,rfl⟩<;>exact oV ..
   have eb:codeA prog CV cbd (aK 33 (up (up y0 [(25,v')]) [(7,v')])) g5=some (.normal,aK 33 (up (up (up y0 [(25,v')]) [(7,v')]) [(26,v),(27,mV m),(28,v'),(29,mV m'),(30,.slice (some ⟨g6.next,0,none⟩) 1 1),(31,w8)]),g9):=by rw [hB];unfold fC;have x3':up (up y0 [(25,v')]) [(7,v')] 3=ptr mb 0:=x3;have x6':up (up y0 [(25,v')]) [(7,v')] 6=ptr h1.next 0:=x6;have x7':up (up y0 [(25,v')]) [(7,v')] 7=v':=rfl;simp -implicitDefEqProofs only [x3', x6', x7', l6, M5.all, e6, aj];refine (GM (fun o=>af o _) e7).trans ?_;simp -implicitDefEqProofs only [e8, e9, l6', ck, D9, aj]
   have K59:az g5 g9 (fun b=>b=h1.next\/h.next<b):=by refine (K68.mono fun b _ hb => .inr ?_).trans (k9.mono fun b _ hb => .inl hb);have:=(A5.sl.blk hb).1;omega
   obtain ⟨g10,e10,R10,n10,m10,s10,b10⟩:=Ag.round (B:=fun b=>b=h1.next\/h.next<b) R1 rfl oa ob ha (az.refl g _) (by omega) (by rw [hg5];exact eb) (by rw [hg5];exact K59);have k910:=K59.next;have kf:az g9 g10 (· = h.next):=⟨by rw [m10,K59.n0,kS.n0],by omega,fun b hb hq=>b10 b hq⟩
   have K10:az g g10 (fun b=>b=h1.next\/h.next<=b):=by refine ⟨m10,by omega,fun b hb hq => ?_⟩;have q1 : ¬b=h1.next:=fun q=>hq (.inl q);have q2 : ¬h.next<=b:=fun q=>hq (.inr q);rw [b10 b (by omega),K59.getB b (by omega) (fun q=>by rcases q with q|q;exact q1 q;omega),kS.getB b (by omega) (by omega)]
   have A9:wT g9 (h.next+1) w8 (ms ++ [m']) (((nU R t).map fun l=>dQ x.lo x.hi l false) ++ [dQ x.lo x.hi ((R.drop j).take 64) false]):=A8.keep k9 (fun b hb1 _ q=>by have q:b=h1.next:=q;omega)
   have A10:=A9.keep kf (fun b hb1 _ q=>by have q:b=h.next:=q;omega)
   refine ⟨g10,CV_yield G e10,t+1,by omega,by omega,K.trans K10,R10,by omega,w8,ms ++ [m'],?_,?_,.inr hw8⟩
   ·rw [s10 h1.next,q9];rfl
   ·rw [chkT_succ,FH,FR,HP,<-hjt];exact A10)
  ⟨0,rfl,FN _,k0.mono (fun _ _ h=>h.elim),Lp0,DD _,.slice none 0 0,[],aE.get k0 gc,⟨dP.nil 116 h2 (h.next+1),rfl,fun i h=>absurd h (FP i),fun i h=>absurd h (FP i),fun b h=>by cases h⟩,.inl rfl⟩
 have hv:ev (aK 33 y0) (.tmp 24) = .func (.func 92) #[] #[ptr c1 0,ptr c2 0]:=(ev_mkF (by decide) y0).trans x24;have run:codeA prog CV (ao f31 [1,1,1,1,1,0,1,0]) (aK 33 y0) h=endLoopA h.next (aK 33 y0) h3:=by refine zZ (v := .tuple #[]) (h2:=h3) (ps := #[25]) (by rw [hca,hcb'];exact hc0) hv body152 ?_;rw [hca,hcb'];show CV 92 [.func (.yield h.next) #[] #[],ptr c1 0,ptr c2 0] (h.br (.obj (.loop .ready none (aK 33 y0) [25] ca cbd)))=_;rw [hh1];exact e2
 obtain ⟨h4,e4,k4,_⟩:=R3.fin (e0:=aK 33 y0);have ht2:t=(R.length+63)/64:=by omega
 subst ht2;refine ⟨h4,v,ms,run.trans e4,(old1 K3).also k4 (fun d hd q=>by have:=O1.next;omega),k4.getE gv (by omega),A3.keep k4 (fun b hb1 _ q=>by have q:b=h.next:=q;omega)⟩
theorem is15:cx prog 6 f6:=by constructor<;>kernel_rfl
theorem r26L {h:ai} (hG:4<=h.n0) {v:Value} {L:List av} (x:gC h v L) (hl:L.length<=1000000) : ∃ v' h',CW 8 [v] h=some (v',h')/\aE h h'/\jc h' h.next v' L:=by
 have o1:aE h (h.alloc []):=az.alloc _ _ _;have r0:jc (h.alloc []) h.next (.slice (some ⟨h.next,0,none⟩) 0 0) []:=⟨(fun _ h=>by cases h),h.next,none,rfl,by rw [ai.aN,DL rfl];rfl,DD _,.inl ⟨rfl,rfl⟩⟩
 obtain ⟨v',h',e,r,k,_⟩:=r0.pushL (x.mono o1) (by rw [o1.n0];exact h.n0_le_next) o1.next (by decide) hl;rw [List.nil_append] at r;have b0:dg 39 (.agg pg) 0 [] h=some (.slice (some ⟨h.next,0,none⟩) 0 0,h.alloc []):=rfl;refine ⟨v',h',aL is26 hG rfl ((t26_eq _ _ _).trans ?_),aE.bK o1 k (DD _),r⟩;unfold t26;simp -implicitDefEqProofs only [b0, e, aj]
theorem r15 {h:ai} (hG:4<=h.n0) {v:Value} {L:List av} (x:gC h v L) (vr : ∀ r∈L,dX r=true) (hl:L.length<=500000) :
  ∃ vb h',CV 6 [v] h=some (.tuple #[ptr vb 0,.int .i64 0],h')/\kj h' vb (aT [] L)/\aE h h'/\h.next<=vb:=by
 have e1:=jx (f:=19) rfl (by decide) (r33 hG);have o1:aE h (h.alloc [.slice none 0 0]):=az.alloc _ _ _;have i1:kj (h.alloc [.slice none 0 0]) h.next []:=⟨h.n0_le_next,⟨.slice none 0 0,by rw [ai.aN,DL rfl],⟨(fun _ h=>by cases h),none,0,rfl,fun _=>rfl,fu (P := []) (fun _ h=>by cases h),fun h=>absurd h (GH 0)⟩,.inl rfl⟩,(fun _ h=>by cases h),.nil⟩
 generalize h.alloc [.slice none 0 0]=h1 at *;obtain ⟨v2,h2,e2,o2,r2⟩:=r26L (h:=h1) (by rw [o1.n0];exact hG) (x.mono o1) (by omega);have e2:=jx (f:=8) rfl (by decide) e2;obtain ⟨h3,e3,i3,k3⟩:=r25 (i1.old o2) r2.rcs.rsl vr (by decide) hl;refine ⟨h.next,h3,jX is15 hG rfl (by decide) ((t15_eq _ _ _).trans ?_),i3,aE.bK (o1.trans o2) k3 (DD _),DD _⟩;unfold t15;simp -implicitDefEqProofs only [e1,mM,e2,e3,aj,ak]
theorem kY (A B:List av):(aT A B).length<=A.length+B.length:=by have h1:=zi (A++B);rw [DE] at h1;have h2:=FB (gK (dw (A++B))) (dw (A++B));show (rR _).length<=_;rw [(gH _).length_eq];omega
def Is (T P:List av):Prop := ∀ x,x∈T↔Nf P x
theorem gC.slB_lt {h:ai} {v:Value} {P:List av} {b:Nat} (x:gC h v P) (e:slB v=some b):b<h.next:=by
 obtain ⟨hd,a,d,rfl,hn,ht,h0⟩:=x;cases hP:P.length with
 |zero=>rw [hP] at e;cases a<;>cases e
 |succ n=>
  obtain ⟨b',off,s,q,rfl,hk,_⟩:=h0 (by omega);rw [hP] at e;cases e;exact h.aO hk
end Go.Proofs.YtdnahgfgoajmcaaGreatDoor
