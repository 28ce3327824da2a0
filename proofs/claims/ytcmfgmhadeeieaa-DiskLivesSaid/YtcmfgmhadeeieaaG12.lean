/-
  A part of the proof, spaces and names shortened by a program (a claim may hold 1,500,000 bytes).
  Conditions: as each theorem states.
-/
import Derived.Test.YtcmfgmhadeeieaaG11
namespace Go.Proofs.Ytcmfgmhadeeieaa
open Go Go.Abs
def aQ (n:Nat):Nat:=if n≤106 then 1 else (n-1)/106+1
theorem cost_nat (n:Nat):cost (n:Int)=(aQ n:Nat):=by
 unfold cost aQ
 by_cases h:n≤106
 ·rw [if_pos (by omega),if_pos h];rfl
 ·rw [if_neg (by omega),if_neg h];omega
theorem fm (n:Nat):1≤aQ n:=by unfold aQ;split<;>omega
theorem fj {n:Nat} (h:n≤21000):aQ n≤199:=by unfold aQ;split<;>omega
theorem costN_room (n:Nat):n≤106*aQ n:=by unfold aQ;split<;>omega
theorem costN_tight {n i:Nat} (h:i<aQ n):106*i≤n:=by unfold aQ at h;split at h<;>omega
def fR (gen at_ part parts:Nat) (data:List Nat):List Nat:=fN 8 gen++fN 4 at_++fN 2 part++fN 2 parts++fN 2 data.length++data
def cS (gen at_ part parts:Nat) (data:List Nat):List Nat:=gX (fR gen at_ part parts data)
theorem logBody_length (gen at_ part parts:Nat) (data:List Nat):(fR gen at_ part parts data).length=18+data.length:=by
 simp only [fR,List.length_append,bm]
def chunk (rec_:List Nat) (i:Nat):List Nat:=(rec_.drop (106*i)).take 106
theorem iR (rec_:List Nat) (i:Nat):(chunk rec_ i).length≤106:=List.length_take_le ..
def Dk.wr (ak gen at_ parts:Nat) (rec_:List Nat):Nat→Nat→Dk→Int×Dk
 | 0,_,D=>(0,D)
 |k+1,i,D=>
  if (D.write ((2+ak*D.ar+at_+i:Nat):Int) (cS gen (at_+i) i parts (chunk rec_ i))).1=0 then Dk.wr ak gen at_ parts rec_ k (i+1) (D.write ((2+ak*D.ar+at_+i:Nat):Int) (cS gen (at_+i) i parts (chunk rec_ i))).2
  else D.write ((2+ak*D.ar+at_+i:Nat):Int) (cS gen (at_+i) i parts (chunk rec_ i))
def Dk.bU (D:Dk) (ak gen at_:Nat) (rec_:List Nat):Int×Dk:=Dk.wr ak gen at_ (aQ rec_.length) rec_ (aQ rec_.length) 0 D
theorem dk_plain {h:ah} {d:Nat} {D:Dk} (x:bf h d D):dq h d:=⟨_,x.ie,by
 intro v hv
 simp only [Dk.ie,List.mem_cons,List.not_mem_nil,or_false] at hv
 rcases hv with rfl|rfl|rfl|rfl|rfl|rfl<;>rfl⟩
theorem cU.ne_d {h:ah} {j d d':Nat} {J:Jn} {D:Dk} (xj:cU h j d J) (x:bf h d' D):j≠d':=by
 rintro rfl
 have:=xj.get.symm.trans x.ie
 have:=congrArg List.length (Option.some.inj this)
 simp [Jn.cells,Dk.ie] at this
theorem cU.ne_bb {h:ah} {j d d':Nat} {J:Jn} {D:Dk} (xj:cU h j d J) (x:bf h d' D):j≠D.bb:=by
 intro he
 have h1:=xj.get
 rw [he,x.aW] at h1
 have h2:=Option.some.inj h1
 cases hi:D.aW with
 |nil=>rw [hi] at h2;simp [Jn.cells] at h2
 |cons a l=>rw [hi] at h2;simp [Jn.cells,ptr] at h2
abbrev dX (d bb:Nat) (h h':ah):Prop:=Kept h h' (fun c=>c=d∨c=bb)
theorem putDk_only {h:ah} {d:Nat} {D E:Dk} (x:bf h d D) (hb:E.bb=D.bb):dX d D.bb h (dh h d E):=
 ⟨rfl,Nat.le_refl _,fun c _ hc=>by rw [gI x hb,if_neg (fun e=>hc (.inr (e.trans hb))),if_neg (fun e=>hc (.inl e))]⟩
theorem X19:XX 19=s19:=rfl
theorem X15:XX 15=sCost:=rfl
theorem r19 {h:ah} {d:Nat} {D:Dk} (x:bf h d D) (i:Int) {a:Option Addr} {n c:Nat} {l:List Nat} (hl:av a n h=some l) (hg:cQ a n c=true) :
  CD 19 [ptr d 0,.int .i64 i,.slice a n c] h=some (.int .i64 (D.write i l).1,dh h d (D.write i l).2)∧bf (dh h d (D.write i l).2) d (D.write i l).2∧(D.write i l).2.bb=D.bb∧(D.write i l).2.n=D.n∧dX d D.bb h (dh h d (D.write i l).2):=by
 have o:=Dk.write_okd x i (aw hl).2.1
 exact ⟨eO (by rw [X19];exact s19_at x i hl hg),x.put o,o.bb,o.n,putDk_only x o.bb⟩
theorem r15 (n:Nat) (h:ah) (hn:n≤100000000):CD 15 [aq n] h=some (aq (aQ n),h):=by
 refine eO ?_
 rw [X15,show aq n=Value.int .i64 (n:Int) from rfl]
 unfold sCost
 have:eS (n:Int)=true:=by unfold eS;simp only [Bool.and_eq_true,decide_eq_true_eq];omega
 simp only [this,if_true,cost_nat]
section
variable {h0:ah} {d j:Nat} {D:Dk} {J:Jn} {ak gen at_ n c:Nat} {a:Option Addr} {rec_:List Nat} (x:bf h0 d D) (xj:cU h0 j d J) (h2:2≤D.n) (ha:ak≤1) (hg:gen<18446744073709551616) (hat:at_≤10000)
 (hs:av a n h0=some rec_) (hgd:cQ a n c=true) (hn:n≤21000) (hab : ∀ y,a=some y→0<n→y.block≠D.bb)
include x xj h2 ha hg hat hs hgd hn hab
def wrInv (h0:ah) (d j:Nat) (D:Dk) (ak gen at_ n c:Nat) (a:Option Addr) (rec_:List Nat) (k:Nat) (y:Nat→Value) (g:ah):Prop:=
 ∃ i E,y 0=ptr j 0∧y 1=aq ak∧y 2 = .int .u64 gen∧y 3=aq at_∧y 4 = .slice a n c∧y 11=aq (aQ n)∧y 19=aq (aQ n)∧y 20=aq i∧i+k=aQ n∧bf g d E∧E.bb=D.bb∧E.n=D.n∧dX d D.bb h0 g ∧
   Dk.wr ak gen at_ (aQ n) rec_ k i E=D.bU ak gen at_ rec_
def wrFin (h0:ah) (d:Nat) (D:Dk) (ak gen at_:Nat) (rec_:List Nat) (ex:Ex) (y:Nat→Value) (g:ah):Prop:=
 bf g d (D.bU ak gen at_ rec_).2∧(D.bU ak gen at_ rec_).2.bb=D.bb∧(D.bU ak gen at_ rec_).2.n=D.n∧dX d D.bb h0 g ∧
  ((ex = .exit 0∧(D.bU ak gen at_ rec_).1=0)∨(ex = .ret∧y 10 = .int .i64 (D.bU ak gen at_ rec_).1))
theorem wr_round : ∀ k y g,wrInv h0 d j D ak gen at_ n c a rec_ k y g→cY 77 (wrInv h0 d j D ak gen at_ n c a rec_) (wrFin h0 d D ak gen at_ rec_) k (t59l59_11010 CD y g):=by
 rintro k y g ⟨i,E,i0,i1,i2,i3,i4,i11,i19,i20,hik,xg,hEb,hEn,hk,hw⟩
 have hrl:=(aw hs).1
 have hcl:=fj hn
 have hsm:=x.small
 have hEar:E.ar=D.ar:=by unfold Dk.ar;rw [hEn]
 have har:D.ar=(D.n-2)/2:=rfl
 have hma:ak*D.ar≤D.ar:=by
  have:=Nat.mul_le_mul_right D.ar ha
  omega
 have jg:cU g j d J:=xj.aC hk (fun h=>h.elim (xj.ne_d x) (xj.ne_bb x))
 unfold t59l59_11010
 simp -implicitDefEqProofs only [i19,i20,fT,aj,af]
 by_cases hz:k=0
 ·subst hz
  have hii:i=aQ n:=by omega
  simp -implicitDefEqProofs only [decide_eq_false (show ¬i<aQ n by omega)]
  have he:D.bU ak gen at_ rec_=(0,E):=hw.symm
  refine cY.out 0 ⟨?_,?_,?_,hk,.inl ⟨rfl,?_⟩⟩
  ·rw [he];exact xg
  ·rw [he];exact hEb
  ·rw [he];exact hEn
  ·rw [he]
 ·obtain ⟨q,rfl⟩ : ∃ q,k=q+1:=⟨k-1,by omega⟩
  have hlt:i<aQ n:=by omega
  have htight:=costN_tight hlt
  have hsg:av a n g=some rec_:=by
   refine hk.bytes hs (fun y hy hn2 hb => ?_)
   rcases hb with hb|hb
   ·obtain ⟨kk,e1,e2⟩:=dk_plain x
    exact bytes_apart hs e1 e2 y hy hn2 hb
   ·exact hab y hy hn2 hb
  have hm1:bin Try.prog .mul 3 (aq i) (.int .i64 106)=some (aq (i*106)):=mul3 (b:=106) (by omega)
  have hm2:bin Try.prog .mul 3 (aq (i+1)) (.int .i64 106)=some (aq ((i+1)*106)):=mul3 (b:=106) (by omega)
  have hmn:dA false (.int .i64 (n:Int)) [aq ((i+1)*106)]=some (aq (min n ((i+1)*106))):=by
   simp only [dA,aq,if_true,Bool.false_eq_true,if_false]
   by_cases hc:(((i+1)*106:Nat):Int)<(n:Int)
   ·rw [if_pos (by simpa using hc),Nat.min_eq_right (by omega)]
   ·rw [if_neg (by simpa using hc),Nat.min_eq_left (by omega)]
  obtain ⟨a1,c1,s1,s2,s3⟩:=dP (vl:=some (aq (i*106))) (vh:=some (aq (min n ((i+1)*106)))) (lo:=i*106) (hi:=min n ((i+1)*106)) hgd hsg (by omega) (by omega)
   (by simp only [bZ,aq];rw [if_pos (by have:=fH hgd;omega),Int.toNat_natCast]) (by simp only [bZ,aq];rw [if_pos (by omega),Int.toNat_natCast])
  have hch:(rec_.drop (i*106)).take (min n ((i+1)*106)-i*106)=chunk rec_ i:=by
   unfold chunk
   rw [Nat.mul_comm 106 i]
   by_cases hc:n≤(i+1)*106
   ·rw [Nat.min_eq_left hc,List.take_of_length_le (by simp;omega),List.take_of_length_le (by simp;omega)]
   ·rw [Nat.min_eq_right (by omega),show (i+1)*106-i*106=106 by omega]
  rw [hch] at s2
  have hcn:=(aw s2).1
  have hc106:=iR rec_ i
  generalize hcm:min n ((i+1)*106)-i*106=m at *
  have ha1 : ∀ y,a1=some y→0<m→y.block<g.next:=by
   intro y hy hm
   subst hy
   obtain ⟨b',o',s',e,hb⟩:=eX s2 hm
   cases e;exact hb
  obtain ⟨g1,e1,W1,k1⟩:=r60 g (lim:=124) (by decide)
  have e1:CD 60 [.int .i64 124] g=_:=e1
  obtain ⟨g2,e2,W2,k2⟩:=r62 W1 (v:=gen) (by simp) hg
  obtain ⟨g3,e3,W3,k3⟩:=r61 W2 (v:=at_+i) (by simp [bm]) (by omega)
  obtain ⟨g4,e4,W4,k4⟩:=r91 W3 (v:=i) (by simp [bm]) (by omega)
  obtain ⟨g5,e5,W5,k5⟩:=r91 W4 (v:=aQ n) (by simp [bm]) (by omega)
  have k15:Abv g.next g g5:=(((k1.trans k2).trans k3).trans k4).trans k5
  have sm5:av a1 m g5=some (chunk rec_ i):=k15.bytes s2 (fun y hy hm=>by have:=ha1 y hy hm;omega)
  obtain ⟨g6,e6,W6,k6⟩:=r92 W5 (c:=c1) sm5 ha1 (by simp [bm];omega) (by omega)
  have k16:Abv g.next g g6:=k15.trans k6
  have hbody : []++fN 8 gen++fN 4 (at_+i)++fN 2 i++fN 2 (aQ n)++fN 2 m++chunk rec_ i=fR gen (at_+i) i (aQ n) (chunk rec_ i):=by
   unfold fR
   rw [hcn,List.nil_append]
  rw [hbody] at W6
  have hd6:bf g6 d E:=k16.dk xg (by have:=xg.lt;omega) (by have:=xg.blt;omega)
  have hj6:cU g6 j d J:=jg.aC k16 (by have:=jg.lt;omega)
  obtain ⟨B,g7,e7,s7,k7,hB⟩:=r64 W6 (by rw [logBody_length];omega)
  have hd7:bf g7 d E:=Old.dk k7 hd6
  have hj7:cU g7 j d J:=hj6.aC k7 (fun h=>h)
  have hidx:=hEar
  obtain ⟨e8,x8,b8,n8,k8⟩:=r19 hd7 ((2+ak*E.ar+at_+i:Nat):Int) (c:=128) s7 rfl
  have e8:CD 19 [ptr d 0,aq (2+ak*E.ar+at_+i),.slice (some ⟨B,0,none⟩) 128 128] g7=_:=e8
  have hlb:gX (fR gen (at_+i) i (aQ n) (chunk rec_ i))=cS gen (at_+i) i (aQ n) (chunk rec_ i):=rfl
  rw [hlb] at e8 x8 b8 n8 k8
  have hw2:Dk.wr ak gen at_ (aQ n) rec_ (q+1) i E=if (E.write ((2+ak*E.ar+at_+i:Nat):Int) (cS gen (at_+i) i (aQ n) (chunk rec_ i))).1=0 then Dk.wr ak gen at_ (aQ n) rec_ q (i+1) (E.write ((2+ak*E.ar+at_+i:Nat):Int) (cS gen (at_+i) i (aQ n) (chunk rec_ i))).2 else E.write ((2+ak*E.ar+at_+i:Nat):Int) (cS gen (at_+i) i (aQ n) (chunk rec_ i)):=rfl
  rw [hw2] at hw
  rw [hEb] at b8 k8
  have kall:dX d D.bb h0 (dh g7 d (E.write ((2+ak*E.ar+at_+i:Nat):Int) (cS gen (at_+i) i (aQ n) (chunk rec_ i))).2):=
   ((hk.bS k16 (fun c hc h=>by have:=hk.next;omega)).bS k7 (fun _ _ h=>h.elim)).trans k8
  generalize hRR:E.write ((2+ak*E.ar+at_+i:Nat):Int) (cS gen (at_+i) i (aQ n) (chunk rec_ i))=RR at *
  have h55:=r55 hd6 (by omega)
  have hmul:bin Try.prog .mul 3 (aq ak) (aq E.ar)=some (aq (ak*E.ar)):=mul3 (by rw [hEar];omega)
  have hadd1:bin Try.prog .add 3 (.int .i64 2) (aq (ak*E.ar))=some (aq (2+ak*E.ar)):=gY (a:=2) (by rw [hEar];omega)
  have hadd2:bin Try.prog .add 3 (aq (2+ak*E.ar)) (aq at_)=some (aq (2+ak*E.ar+at_)):=gY (by rw [hEar];omega)
  have hadd3:bin Try.prog .add 3 (aq (2+ak*E.ar+at_)) (aq i)=some (aq (2+ak*E.ar+at_+i)):=gY (by rw [hEar];omega)
  have cv32 : ∀ g,cvI .u32 (aq (at_+i)) g=some (.int .u32 ((at_+i:Nat):Int),g):=by
   intro g
   unfold aq
   rw [dg,wrap_u32 (by omega) (by omega)]
  have cv16 : ∀ (z:Nat),z<65536 → ∀ g,cvI .u16 (aq z) g=some (.int .u16 (z:Int),g):=by
   intro z hz g
   unfold aq
   rw [dg,wrap_u16 (by omega) (by omega)]
  have hv:veq (ptr d 0) (ptr d 0)=true:=by simp [ptr,veq]
  have ck6:=dJ (rfl:some (ptr d 0,g6)=some (ptr d 0,g6)) hv
  have ck7:=dJ (rfl:some (ptr d 0,g7)=some (ptr d 0,g7)) hv
  simp -implicitDefEqProofs only [decide_eq_true hlt,i0,i1,i2,i3,i4,i11,af,hm1,bO,ef (show i+1≤9223372036854775807 by omega),hm2,aj,hmn,s1,e1,e2,gY (show at_+i≤9223372036854775807 by omega),cv32,e3,cv16 i (by omega),e4,cv16 (aQ n) (by omega),e5,e6,
   aJ,ax,Nat.zero_add,hj6.l0,h55,hmul,hadd1,hadd2,hadd3,e7,hj7.l0,e8,ck6,ck7,Bool.and_true,dG]
  by_cases hc:RR.1=0
  ·rw [if_pos hc] at hw
   have hne:(RR.1 != 0)=false:=by rw [hc];rfl
   simp -implicitDefEqProofs only [hne,af]
   exact cY.next q (by omega) ⟨i+1,RR.2,i0,i1,i2,i3,i4,i11,i19,rfl,by omega,x8,b8,n8.trans hEn,kall,hw⟩
  ·rw [if_neg hc] at hw
   have hne:(RR.1 != 0)=true:=by rw [bne_iff_ne];exact hc
   simp -implicitDefEqProofs only [hne,af]
   refine cY.ret ⟨?_,?_,?_,kall,.inr ⟨rfl,?_⟩⟩
   ·rw [←hw];exact x8
   ·rw [←hw];exact b8
   ·rw [←hw];exact n8.trans hEn
   ·rw [←hw];rfl
theorem r59 : ∃ h',CD 59 [ptr j 0,aq ak,.int .u64 gen,aq at_,.slice a n c] h0=some (.int .i64 (D.bU ak gen at_ rec_).1,h')∧bf h' d (D.bU ak gen at_ rec_).2∧(D.bU ak gen at_ rec_).2.bb=D.bb∧(D.bU ak gen at_ rec_).2.n=D.n∧dX d D.bb h0 h':=by
 have hrl:=(aw hs).1
 have hcl:=fj hn
 have is59:cA Try.prog 59 Try.f59:=⟨by kernel_rfl,by kernel_rfl,by kernel_rfl,by kernel_rfl⟩
 have key : ∃ h',t59 CD (ptr j 0) (aq ak) (.int .u64 gen) (aq at_) (.slice a n c) h0=some (.int .i64 (D.bU ak gen at_ rec_).1,h')∧bf h' d (D.bU ak gen at_ rec_).2∧(D.bU ak gen at_ rec_).2.bb=D.bb∧(D.bU ak gen at_ rec_).2.n=D.n∧dX d D.bb h0 h':=by
  unfold t59
  simp -implicitDefEqProofs only [af,bO,aj]
  rw [show (Value.int .i64 (n:Int))=aq n from rfl]
  simp -implicitDefEqProofs only [r15 n h0 (by omega),af]
  refine cn (Q:=fun (o:Out) => ∃ h',o=some (.int .i64 (D.bU ak gen at_ rec_).1,h')∧bf h' d (D.bU ak gen at_ rec_).2∧(D.bU ak gen at_ rec_).2.bb=D.bb∧(D.bU ak gen at_ rec_).2.n=D.n∧dX d D.bb h0 h')
   (cg (t59l59_11010_eq CD) (wr_round x xj h2 ha hg hat hs hgd hn hab) (aQ n) (by have:rounds=18446744073709551616:=rfl;omega)
    ⟨0,D,rfl,rfl,rfl,rfl,rfl,rfl,rfl,rfl,Nat.zero_add _,x,rfl,rfl,Kept.refl _ _,by unfold Dk.bU;rw [hrl]⟩) ?_
  rintro ex y g ⟨f1,f2,f3,f4,⟨rfl,f5⟩|⟨rfl,f5⟩⟩
  ·refine ⟨g,?_,f1,f2,f3,f4⟩
   simp -implicitDefEqProofs only [bA,b59_4,if_true,t59k59_2_eq]
   unfold t59k59_2
   simp -implicitDefEqProofs only [af,f5]
  ·refine ⟨g,?_,f1,f2,f3,f4⟩
   show au Try.prog Try.f59.results.toList (aY 77 y) g=_
   rw [res_one (show Try.f59.results.toList = [.tmp 10] by kernel_rfl) (by decide),f5]
 obtain ⟨h',e,f⟩:=key
 exact ⟨h',aO is59 rfl ((t59_eq _ _ _ _ _ _ _).trans e),f⟩
end
end Go.Proofs.Ytcmfgmhadeeieaa

namespace Go.Proofs.Ytcmfgmhadeeieaa
open Go Go.Abs
structure iD (J:Jn) (D:Dk):Prop where
 slot:J.slot = -1∨J.slot=0∨J.slot=1
 ak:J.ak≤1
 gen:J.gen<18446744073709551616
 known:J.known<18446744073709551616
 ready:J.ready=true→J.fin≤D.ar∧0≤J.slot
def Jn.append (J:Jn) (D:Dk) (rec_:List Nat):Int×Dk×Jn:=
 if J.live D=false then (9,D,J) else
 if J.ready=false then (30,D,J) else
 if 20000<rec_.length then (3,D,J) else
 if J.free D<aQ rec_.length then (8,D,J) else
 if (D.bU J.ak J.gen J.fin rec_).1=0 then (0,(D.bU J.ak J.gen J.fin rec_).2,{ J with fin:=J.fin+aQ rec_.length })
 else ((D.bU J.ak J.gen J.fin rec_).1,(D.bU J.ak J.gen J.fin rec_).2,J)
theorem is27:cA Try.prog 27 Try.f27:=⟨by kernel_rfl,by kernel_rfl,by kernel_rfl,by kernel_rfl⟩
theorem gtr3k (n k:Nat):bin Try.prog .gtr 3 (aq n) (.int .i64 (k:Int))=some (.bool (decide (k<n))):=gtr3 n k
abbrev JdOnly (j d bb:Nat) (h h':ah):Prop:=Kept h h' (fun c=>c=j∨c=d∨c=bb)
theorem dX.jd {j d bb:Nat} {h h':ah} (k:dX d bb h h'):JdOnly j d bb h h':=Kept.mono k (fun c _ hc => .inr hc)
theorem Old.jd {j d bb:Nat} {h h':ah} (k:Old h h'):JdOnly j d bb h h':=Kept.mono k (fun c _ hc=>hc.elim)
theorem r27 {h:ah} {d j:Nat} {D:Dk} {J:Jn} (x:bf h d D) (xj:cU h j d J) (h2:2≤D.n) (ok:iD J D) {a:Option Addr} {n c:Nat} {rec_:List Nat}
  (hs:av a n h=some rec_) (hgd:cQ a n c=true) (hn:n≤100000000) (hab : ∀ y,a=some y→0<n→y.block≠D.bb) :
  ∃ v h',CD 27 [ptr j 0,.slice a n c] h=some (.tuple #[v,.int .i64 (J.append D rec_).1],h')∧bf h' d (J.append D rec_).2.1∧cU h' j d (J.append D rec_).2.2∧(J.append D rec_).2.1.bb=D.bb∧(J.append D rec_).2.1.n=D.n∧JdOnly j d D.bb h h' ∧
    v=aq (if (J.append D rec_).1=0 then J.fin else 0):=by
 have hrl:=(aw hs).1
 have hsm:=x.small
 have har:D.ar=(D.n-2)/2:=rfl
 have key : ∀ o:Out,t27 CD (ptr j 0) (.slice a n c) h=o → ∃ v h',o=some (.tuple #[v,.int .i64 (J.append D rec_).1],h')∧bf h' d (J.append D rec_).2.1∧cU h' j d (J.append D rec_).2.2∧(J.append D rec_).2.1.bb=D.bb∧(J.append D rec_).2.1.n=D.n∧JdOnly j d D.bb h h' ∧
   v=aq (if (J.append D rec_).1=0 then J.fin else 0):=by
  intro o ho
  subst ho
  unfold t27 Jn.append
  simp -implicitDefEqProofs only [af,r58 x xj,aj,dG]
  cases hl:J.live D with
  |false=>
   simp -implicitDefEqProofs only [Bool.false_eq_true,if_false,if_true,show ((9:Int) != 0)=true from rfl,af]
   exact ⟨_,h,rfl,x,xj,trivial,trivial,Kept.refl _ _,rfl⟩
  |true=>
   simp -implicitDefEqProofs only [if_true,bne_self_eq_false,af,aJ,aj,ax,Nat.zero_add,xj.l6,cC,show (true=false)=False from eq_false (by decide),if_false]
   cases hr:J.ready with
   |false=>
    simp -implicitDefEqProofs only [Bool.not_false,af,if_true]
    exact ⟨_,h,rfl,x,xj,trivial,trivial,Kept.refl _ _,rfl⟩
   |true=>
    obtain ⟨hfin,hslot⟩:=ok.ready hr
    simp -implicitDefEqProofs only [Bool.not_true,af,bO,aj,show (true=false)=False from eq_false (by decide),if_false]
    rw [show (Value.int .i64 (n:Int))=aq n from rfl]
    have hg:=gtr3k n 20000
    have hg:bin Try.prog .gtr 3 (aq n) (.int .i64 20000)=_:=hg
    simp -implicitDefEqProofs only [hg,aj,af,hrl]
    by_cases hlong:20000<n
    ·simp -implicitDefEqProofs only [decide_eq_true hlong,af,if_pos hlong]
     exact ⟨_,h,rfl,x,xj,trivial,trivial,Kept.refl _ _,rfl⟩
    ·simp -implicitDefEqProofs only [decide_eq_false hlong,if_neg hlong,r15 n h hn,af,r26 x xj h2 (fun _=>hfin),gtr3,aj]
     by_cases hfull:J.free D<aQ n
     ·simp -implicitDefEqProofs only [decide_eq_true hfull,af,if_pos hfull]
      exact ⟨_,h,rfl,x,xj,trivial,trivial,Kept.refl _ _,rfl⟩
     ·have hcn:=fj (n:=n) (by omega)
      obtain ⟨h1,e1,x1,b1,n1,k1⟩:=r59 x xj h2 ok.ak ok.gen (at_:=J.fin) (by omega) hs hgd (by omega) hab
      simp -implicitDefEqProofs only [decide_eq_false hfull,if_neg hfull,af,aJ,aj,ax,Nat.zero_add,xj.l7,xj.l3,xj.l4,e1,dG]
      have xj1:cU h1 j d J:=xj.aC k1 (fun h=>h.elim (xj.ne_d x) (xj.ne_bb x))
      by_cases hz:(D.bU J.ak J.gen J.fin rec_).1=0
      ·rw [if_pos hz]
       have hst:cf 1 (ptr j 7) (aq (J.fin+aQ n)) h1=some (undef,h1.set j (({ J with fin:=J.fin+aQ n }:Jn).cells d)):=dy xj1.get (by simp [Jn.cells]) xj1.n0 rfl rfl
       obtain ⟨k2,g2⟩:=eT (k':=({ J with fin:=J.fin+aQ n }:Jn).cells d) xj1.get xj1.n0
       have hne:((D.bU J.ak J.gen J.fin rec_).1 != 0)=false:=by rw [hz];rfl
       simp -implicitDefEqProofs only [hne,af,aJ,aj,ax,Nat.zero_add,xj1.l7,bO]
       simp -implicitDefEqProofs only [r15 n h1 hn,af,gY (show J.fin+aQ n≤9223372036854775807 by omega),aj,aJ,ax,Nat.zero_add,hst,xj1.l7,
        dJ (rfl:some (aq J.fin,h1)=some (aq J.fin,h1)) (show veq (aq J.fin) (aq J.fin)=true by simp [aq,veq]),Bool.and_true]
       have q:cU (h1.set j (({ J with fin:=J.fin+aQ n }:Jn).cells d)) j d { J with fin:=J.fin+aQ n }:=⟨g2,k2.n0▸xj1.n0,xj1.ak⟩
       simp only [hr] at q
       refine ⟨_,_,rfl,?_,by simpa only [hr] using q,b1,n1,(dX.jd k1).trans (k2.mono (fun c _ hc => .inl hc)),rfl⟩
       exact k2.dk x1 (fun h=>(xj1.ne_d x1) h.symm) (fun h=>(xj1.ne_bb x1) h.symm)
      ·rw [if_neg hz]
       have hne:((D.bU J.ak J.gen J.fin rec_).1 != 0)=true:=by rw [bne_iff_ne];exact hz
       simp -implicitDefEqProofs only [hne,af]
       refine ⟨_,_,rfl,x1,xj1,b1,n1,dX.jd k1,?_⟩
       rw [if_neg hz];rfl
 obtain ⟨v,h',e,f⟩:=key _ rfl
 exact ⟨v,h',aO is27 rfl ((t27_eq _ _ _ _).trans e),f⟩
end Go.Proofs.Ytcmfgmhadeeieaa

namespace Go.Proofs.Ytcmfgmhadeeieaa
open Go Go.Abs
theorem cU.st {h:ah} {j d:Nat} {J:Jn} (xj:cU h j d J) (i:Nat) (v:Value) (J':Jn) (hi:i<8) (hc:(J.cells d).set i v=J'.cells d) (hv:v.cells = #[v]) (h1:v.oneCell'=true) (ha:J'.ak≤1) :
  ∃ h',cf 1 (ptr j i) v h=some (undef,h')∧cU h' j d J'∧Kept h h' (fun c=>c=j)∧h'.next=h.next:=by
 have hst:=dy (o:=i) (v:=v) xj.get (by simp [Jn.cells];omega) xj.n0 hv h1
 obtain ⟨k,g⟩:=eT (k':=(J.cells d).set i v) xj.get xj.n0
 rw [hc] at hst k g
 exact ⟨_,hst,⟨g,k.n0▸xj.n0,ha⟩,k,rfl⟩
theorem mx64 (a b:Nat):dA true (.int .u64 (a:Int)) [.int .u64 (b:Int)]=some (.int .u64 ((max a b:Nat):Int)):=by
 simp only [dA,if_true]
 by_cases hc:(b:Int)>(a:Int)
 ·rw [if_pos (by simpa using hc),Nat.max_eq_right (by omega)]
 ·rw [if_neg (by simpa using hc),Nat.max_eq_left (by omega)]
theorem gtr58 (a b:Nat):bin Try.prog .gtr 58 (.int .u64 (a:Int)) (.int .u64 (b:Int))=some (.bool (decide (b<a))):=by
 rw [dM];exact congrArg (fun q=>some (Value.bool q)) (decide_eq_decide.2 (by omega))
def Jn.eZ (D:Dk) (s at_:Nat) (J:Jn):Jn:=if db at_ (D.jb s at_) then { J with known:=max J.known (bG (D.jb s at_)) } else J
def Jn.dx (D:Dk) (s:Nat):Nat→Nat→Jn→Jn
 | 0,_,J=>J
 |k+1,at_,J=>Jn.dx D s k (at_+1) (J.eZ D s at_)
section
variable {h0:ah} {d j s:Nat} {D:Dk} {J0:Jn} (x:bf h0 d D) (hj:cU h0 j d J0) (h2:2≤D.n) (hs:s≤1)
def seeInv (h0:ah) (d j s:Nat) (D:Dk) (J0:Jn) (x:Nat→Value) (k:Nat) (y:Nat→Value) (g:ah):Prop:=
 ∃ at_ J,y 0=ptr d 0∧y 6=ptr j 0∧y 7=aq s∧y 83=aq D.ar∧y 84=aq at_∧y 37=x 37∧y 2=x 2∧y 3=x 3∧y 4=x 4∧at_+k=D.ar∧cU g j d J∧Kept h0 g (fun c=>c=j)∧Jn.dx D s k at_ J=Jn.dx D s D.ar 0 J0
def seeFin (h0:ah) (d j s:Nat) (D:Dk) (J0:Jn) (x:Nat→Value) (ex:Ex) (y:Nat→Value) (g:ah):Prop:=
 ex = .exit 2∧y 0=ptr d 0∧y 6=ptr j 0∧y 37=x 37∧y 2=x 2∧y 3=x 3∧y 4=x 4∧cU g j d (Jn.dx D s D.ar 0 J0)∧Kept h0 g (fun c=>c=j)
include x hj h2 hs
theorem see_round (x0:Nat→Value) : ∀ k y g,seeInv h0 d j s D J0 x0 k y g→cY 131 (seeInv h0 d j s D J0 x0) (seeFin h0 d j s D J0 x0) k (eg CD y g):=by
 rintro k y g ⟨at_,J,i0,i6,i7,i83,i84,i37,i2,i3,i4,hk,hJ,hold,htar⟩
 have hsm:=x.small
 have har:D.ar=(D.n-2)/2:=rfl
 have hjd:=hj.ne_d x
 have hjb:=hj.ne_bb x
 have xg:bf g d D:=hold.dk x (fun h=>hjd h.symm) (fun h=>hjb h.symm)
 unfold eg
 simp -implicitDefEqProofs only [i84,i83,fT,aj,af]
 by_cases hz:k=0
 ·subst hz
  simp -implicitDefEqProofs only [decide_eq_false (show ¬at_<D.ar by omega)]
  exact cY.out 2 ⟨rfl,i0,i6,i37,i2,i3,i4,htar▸hJ,hold⟩
 ·obtain ⟨q,rfl⟩ : ∃ q,k=q+1:=⟨k-1,by omega⟩
  obtain ⟨a,n,c,g1,e1,e2,e3,e4,e5⟩:=r56 xg h2 hs (show at_<D.ar by omega)
  have hjbk:D.aX (2+s*D.ar+at_)=D.jb s at_:=rfl
  rw [hjbk] at e1 e2
  have g2p:(g1.alloc gE).get g1.next=some gE:=by rw [ah.aE,if_pos rfl]
  have n02:(g1.alloc gE).n0≤g1.next:=g1.aH
  generalize hcs:logC (bG (D.jb s at_)) (bz (D.jb s at_)) (aP (D.jb s at_)) (.slice a n c)=cs at e1
  have hst:cf 4 (ptr g1.next 0) (.agg cs.toArray) (g1.alloc gE)=some (undef,(g1.alloc gE).set g1.next cs):=by
   subst hcs;exact stN_whole g2p n02 rfl rfl rfl
  obtain ⟨k3,g3p⟩:=eT (k':=cs) g2p n02
  have k2:Old g1 (g1.alloc gE):=Kept.alloc g1 gE _
  have k13:Old g ((g1.alloc gE).set g1.next cs):=(e4.trans k2).bS k3 (fun c h1 h2=>by have:=e4.next;omega)
  have hlogz:g1.alloc [(.int .u64 0),(.int .i64 0),(.int .i64 0),(.slice none 0 0)]=g1.alloc gE:=rfl
  generalize hg3:(g1.alloc gE).set g1.next cs=g3 at *
  have l0:ba (ptr g1.next 0) g3=some (.int .u64 (bG (D.jb s at_)),g3):=by subst hcs;exact aN g3p rfl
  have hJ3:cU g3 j d J:=hJ.aC k13 (fun h=>h)
  have hold3:Kept h0 g3 (fun c=>c=j):=hold.bS k13 (fun _ _ h=>h.elim)
  have hx0 : ∀ a b:Value,aD (.tuple #[a,b]) 0=some a:=fun _ _=>rfl
  have hx1 : ∀ a b:Value,aD (.tuple #[a,b]) 1=some b:=fun _ _=>rfl
  simp -implicitDefEqProofs only [decide_eq_true (show at_<D.ar by omega),i0,i7,af,e1,hx0,hx1,aj,dB,Abs.newRow,hlogz,hst]
  have htar2:Jn.dx D s q (at_+1) (J.eZ D s at_)=Jn.dx D s D.ar 0 J0:=htar
  cases hc:db at_ (D.jb s at_) with
  |false=>
   simp -implicitDefEqProofs only [af,ef (show at_+1≤9223372036854775807 by omega),aj]
   have hsee:J.eZ D s at_=J:=by unfold Jn.eZ;rw [hc];rfl
   rw [hsee] at htar2
   exact cY.next q (by omega) ⟨at_+1,J,i0,i6,i7,i83,rfl,i37,i2,i3,i4,by omega,hJ3,hold3,htar2⟩
  |true=>
   have hsee:J.eZ D s at_={ J with known:=max J.known (bG (D.jb s at_)) }:=by unfold Jn.eZ;rw [hc];rfl
   obtain ⟨g4,f1,f2,f3,f4⟩:=hJ3.st 5 (.int .u64 ((max J.known (bG (D.jb s at_)):Nat):Int)) { J with known:=max J.known (bG (D.jb s at_)) } (by decide) rfl rfl rfl hJ.ak
   simp -implicitDefEqProofs only [i6,af,aJ,aj,ax,Nat.zero_add,hJ3.l5,l0,mx64,f1,ef (show at_+1≤9223372036854775807 by omega)]
   rw [hsee] at htar2
   exact cY.next q (by omega) ⟨at_+1,_,i0,i6,i7,i83,rfl,i37,i2,i3,i4,by omega,f2,hold3.trans f3,htar2⟩
theorem see_loop {y:Nat→Value} (i0:y 0=ptr d 0) (i6:y 6=ptr j 0) (i7:y 7=aq s) (i83:y 83=aq D.ar) (i84:y 84=aq 0) :
  Fin 131 (seeFin h0 d j s D J0 y) (iter (aI Try.prog CD (partOf Try.f21 [1,1,1,1,0,1,0,0,1,1,0,0,1,1,1,0,0])) rounds (aY 131 y) h0):=
 cg (t21l21_1111010011001110_eq CD) (see_round x hj h2 hs y) D.ar (by have:rounds=18446744073709551616:=rfl;have:=x.small;unfold Dk.ar;omega)
  ⟨0,J0,i0,i6,i7,i83,i84,rfl,rfl,rfl,rfl,Nat.zero_add _,hj,Kept.refl _ _,rfl⟩
end
def Jn.ct (D:Dk) (s:Nat) (J:Jn):Jn:=if J.slot<0∨J.gen<bc (D.aX s) then { J with slot:=s,gen:=bc (D.aX s),ak:=cW (D.aX s) } else J
def Jn.eE (D:Dk) (s:Nat) (J:Jn):Jn:=if bB (D.aX s) then { J.ct D s with known:=max J.known (bc (D.aX s)) } else J
def Jn.dV (D:Dk) (s:Nat) (J:Jn):Jn:=Jn.dx D s D.ar 0 (J.eE D s)
def Dk.jn0 (D:Dk) (aU:Int):Jn:={ aU:=aU,slot := -1,ak:=0,gen:=0,known:=0,ready:=false,fin:=0 }
def Dk.cz (D:Dk) (aU:Int):Jn:=((D.jn0 aU).dV D 0).dV D 1
theorem superArea_le {b:List Nat} (h:bB b=true):cW b≤1:=by
 unfold bB at h
 simp only [Bool.and_eq_true,decide_eq_true_eq] at h
 exact h.2
section
variable {h0:ah} {d j:Nat} {D:Dk} {J0:Jn} (x:bf h0 d D) (hj:cU h0 j d J0) (h2:2≤D.n)
def slotInv (h0:ah) (d j:Nat) (D:Dk) (J0:Jn) (k:Nat) (y:Nat→Value) (g:ah):Prop:=
 ∃ J,y 0=ptr d 0∧y 6=ptr j 0∧cU g j d J∧Kept h0 g (fun c=>c=j)∧((k=2∧y 37=aq 0∧J=J0)∨(k=1∧y 37=aq 1∧J=J0.dV D 0)∨(k=0∧y 37=aq 2∧J=(J0.dV D 0).dV D 1))
def slotFin (h0:ah) (d j:Nat) (D:Dk) (J0:Jn) (ex:Ex) (y:Nat→Value) (g:ah):Prop:=
 ex = .exit 0∧y 0=ptr d 0∧y 6=ptr j 0∧cU g j d ((J0.dV D 0).dV D 1)∧Kept h0 g (fun c=>c=j)
include x hj h2
theorem slot_tail {s k:Nat} (hs:s≤1) {y:Nat→Value} {g:ah} {J:Jn} (i0:y 0=ptr d 0) (i6:y 6=ptr j 0) (i7:y 7=aq s) (i83:y 83=aq D.ar) (i84:y 84=aq 0) (i37:y 37=aq s) (hJ:cU g j d J) (hold:Kept h0 g (fun c=>c=j))
  (hnext : ∀ y' g',y' 0=ptr d 0→y' 6=ptr j 0→y' 37=aq (s+1)→cU g' j d (Jn.dx D s D.ar 0 J)→Kept h0 g' (fun c=>c=j)→cY 131 (slotInv h0 d j D J0) (slotFin h0 d j D J0) k (some (.normal,aY 131 y',g'))) :
  cY 131 (slotInv h0 d j D J0) (slotFin h0 d j D J0) k (dD (iter (aI Try.prog CD (partOf Try.f21 [1,1,1,1,0,1,0,0,1,1,0,0,1,1,1,0,0])) rounds (aY 131 y) g) (fun e h=>some (Ex.ret,e,h)) (b21_25 CD)):=by
 have xg:bf g d D:=hold.dk x (fun h=>(hj.ne_d x) h.symm) (fun h=>(hj.ne_bb x) h.symm)
 refine cn (Q:=fun o=>cY 131 (slotInv h0 d j D J0) (slotFin h0 d j D J0) k o) (see_loop xg hJ h2 hs i0 i6 i7 i83 i84) ?_
 rintro ex y' g' ⟨rfl,f0,f6,f37,_,_,_,fJ,fk⟩
 simp -implicitDefEqProofs only [bA,b21_25,if_true,t21k21_16_eq]
 unfold t21k21_16
 rw [f37,i37]
 simp -implicitDefEqProofs only [ef (show s+1≤9223372036854775807 by omega),aj,af]
 exact hnext _ g' f0 f6 rfl fJ (hold.trans fk)
theorem slot_round : ∀ k y g,slotInv h0 d j D J0 k y g→cY 131 (slotInv h0 d j D J0) (slotFin h0 d j D J0) k (fq CD y g):=by
 rintro k y g ⟨J,i0,i6,hJ,hold,hcase⟩
 have hsm:=x.small
 have xg:bf g d D:=hold.dk x (fun h=>(hj.ne_d x) h.symm) (fun h=>(hj.ne_bb x) h.symm)
 have main : ∀ s,s≤1→y 37=aq s→(∀ y' g',y' 0=ptr d 0→y' 6=ptr j 0→y' 37=aq (s+1)→cU g' j d (J.dV D s)→Kept h0 g' (fun c=>c=j)→cY 131 (slotInv h0 d j D J0) (slotFin h0 d j D J0) k (some (.normal,aY 131 y',g'))) →
   cY 131 (slotInv h0 d j D J0) (slotFin h0 d j D J0) k (fq CD y g):=by
  intro s hs i37 hnext
  obtain ⟨g1,e1,o1⟩:=r54 xg (show s<D.n by omega)
  have hJ1:cU g1 j d J:=hJ.aC o1 (fun h=>h)
  have hold1:Kept h0 g1 (fun c=>c=j):=hold.bS o1 (fun _ _ h=>h.elim)
  have xg1:=Old.dk o1 xg
  have hx0 : ∀ a b c:Value,aD (.tuple #[a,b,c]) 0=some a:=fun _ _ _=>rfl
  have hx1 : ∀ a b c:Value,aD (.tuple #[a,b,c]) 1=some b:=fun _ _ _=>rfl
  have hx2 : ∀ a b c:Value,aD (.tuple #[a,b,c]) 2=some c:=fun _ _ _=>rfl
  have hlt:bin Try.prog .lss 3 (aq s) (.int .i64 2)=some (.bool true):=by
   have:=fT s 2
   rw [decide_eq_true (by omega)] at this
   exact this
  have hsee:J.dV D s=Jn.dx D s D.ar 0 (J.eE D s):=rfl
  unfold fq
  simp -implicitDefEqProofs only [i37,hlt,aj,af,i0,e1,hx0,hx1,hx2]
  cases hok:bB (D.aX s) with
  |false=>
   have hss:J.eE D s=J:=by unfold Jn.eE;rw [hok];rfl
   rw [hss] at hsee
   simp -implicitDefEqProofs only [af,r55 xg1 h2]
   exact slot_tail x hj h2 (s:=s) hs i0 i6 rfl rfl rfl i37 hJ1 hold1 (fun y' g' a1 a2 a3 a4 a5=>hnext y' g' a1 a2 a3 (hsee▸a4) a5)
  |true=>
   have hss:J.eE D s={ J.ct D s with known:=max J.known (bc (D.aX s)) }:=by unfold Jn.eE;rw [hok];rfl
   simp -implicitDefEqProofs only [af,i6,aJ,aj,ax,Nat.zero_add,hJ1.l2,bT,ay]
   by_cases hc:J.slot<0∨J.gen<bc (D.aX s)
   ·have htk:J.ct D s={ J with slot:=s,gen:=bc (D.aX s),ak:=cW (D.aX s) }:=by unfold Jn.ct;rw [if_pos hc]
    rw [htk] at hss
    obtain ⟨g2,a1,a2,a3,a4⟩:=hJ1.st 2 (aq s) { J with slot:=s } (by decide) rfl rfl rfl hJ.ak
    obtain ⟨g3,b1,b2,b3,b4⟩:=a2.st 4 (.int .u64 (bc (D.aX s))) { J with slot:=s,gen:=bc (D.aX s) } (by decide) rfl rfl rfl hJ.ak
    obtain ⟨g4,c1,c2,c3,c4⟩:=b2.st 3 (aq (cW (D.aX s))) { J with slot:=s,gen:=bc (D.aX s),ak:=cW (D.aX s) } (by decide) rfl rfl rfl (superArea_le hok)
    obtain ⟨g5,d1,d2,d3,d4⟩:=c2.st 5 (.int .u64 ((max J.known (bc (D.aX s)):Nat):Int)) { J with slot:=s,gen:=bc (D.aX s),ak:=cW (D.aX s),known:=max J.known (bc (D.aX s)) } (by decide) rfl rfl rfl (superArea_le hok)
    have hold5:Kept h0 g5 (fun c=>c=j):=(((hold1.trans a3).trans b3).trans c3).trans d3
    have xg5:bf g5 d D:=hold5.dk x (fun h=>(hj.ne_d x) h.symm) (fun h=>(hj.ne_bb x) h.symm)
    have hl5:ba (ptr j 5) g4=some (.int .u64 J.known,g4):=c2.l5
    have hfin:cY 131 (slotInv h0 d j D J0) (slotFin h0 d j D J0) k (dD (iter (aI Try.prog CD (partOf Try.f21 [1,1,1,1,0,1,0,0,1,1,0,0,1,1,1,0,0])) rounds (aY 131 y) g5) (fun e h=>some (Ex.ret,e,h)) (b21_25 CD))→True:=fun _=>trivial
    by_cases hc1:J.slot<0
    ·simp -implicitDefEqProofs only [hc1,decide_true,sf,aF,af,if_true,aJ,aj,ax,Nat.zero_add,a1,b1,c1,hl5,mx64,d1,r55 xg5 h2]
     exact slot_tail x hj h2 (s:=s) hs i0 i6 rfl rfl rfl i37 d2 hold5 (fun y' g' a1 a2 a3 a4 a5=>hnext y' g' a1 a2 a3 (hsee▸hss▸a4) a5)
    ·have hc2:J.gen<bc (D.aX s):=hc.resolve_left hc1
     simp -implicitDefEqProofs only [hc1,decide_false,beq_self_eq_true,aA,af,aJ,aj,ax,Nat.zero_add,hJ1.l4,gtr58,Bool.false_eq_true,if_false,hc2,decide_true,a1,b1,c1,hl5,mx64,d1,r55 xg5 h2]
     exact slot_tail x hj h2 (s:=s) hs i0 i6 rfl rfl rfl i37 d2 hold5 (fun y' g' a1 a2 a3 a4 a5=>hnext y' g' a1 a2 a3 (hsee▸hss▸a4) a5)
   ·have htk:J.ct D s=J:=by unfold Jn.ct;rw [if_neg hc]
    rw [htk] at hss
    have hc1 : ¬J.slot<0:=fun h=>hc (.inl h)
    have hc2 : ¬J.gen<bc (D.aX s):=fun h=>hc (.inr h)
    obtain ⟨g5,d1,d2,d3,d4⟩:=hJ1.st 5 (.int .u64 ((max J.known (bc (D.aX s)):Nat):Int)) { J with known:=max J.known (bc (D.aX s)) } (by decide) rfl rfl rfl hJ.ak
    have hold5:Kept h0 g5 (fun c=>c=j):=hold1.trans d3
    have xg5:bf g5 d D:=hold5.dk x (fun h=>(hj.ne_d x) h.symm) (fun h=>(hj.ne_bb x) h.symm)
    simp -implicitDefEqProofs only [hc1,decide_false,beq_self_eq_true,aA,af,aJ,aj,ax,Nat.zero_add,hJ1.l4,gtr58,Bool.false_eq_true,if_false,hc2,hJ1.l5,mx64,d1,r55 xg5 h2]
    exact slot_tail x hj h2 (s:=s) hs i0 i6 rfl rfl rfl i37 d2 hold5 (fun y' g' a1 a2 a3 a4 a5=>hnext y' g' a1 a2 a3 (hsee▸hss▸a4) a5)
 rcases hcase with ⟨rfl,i37,rfl⟩|⟨rfl,i37,rfl⟩|⟨rfl,i37,rfl⟩
 ·exact main 0 (by decide) i37 (fun y' g' a1 a2 a3 a4 a5=>cY.next 1 (by decide) ⟨_,a1,a2,a4,a5,.inr (.inl ⟨rfl,a3,rfl⟩)⟩)
 ·exact main 1 (by decide) i37 (fun y' g' a1 a2 a3 a4 a5=>cY.next 0 (by decide) ⟨_,a1,a2,a4,a5,.inr (.inr ⟨rfl,a3,rfl⟩)⟩)
 ·have hlt:bin Try.prog .lss 3 (aq 2) (.int .i64 2)=some (.bool false):=by
   have:=fT 2 2
   rw [decide_eq_false (by omega)] at this
   exact this
  unfold fq
  simp -implicitDefEqProofs only [i37,hlt,aj,af]
  exact cY.out 0 ⟨rfl,i0,i6,hJ,hold⟩
end
end Go.Proofs.Ytcmfgmhadeeieaa

namespace Go.Proofs.Ytcmfgmhadeeieaa
open Go Go.Abs
def EntAt (h:ah) (N:Nat) (cells:List Value) (i:Nat) (e:Nat×List Nat):Prop:=
 cells[2*i]? = some (aq e.1) ∧ ∃ a n c,cells[2*i+1]? = some (.slice a n c)∧av a n h=some e.2∧cQ a n c=true ∧ ∀ y,a=some y→0<n→N≤y.block
def dK (h:ah) (N:Nat) (cells:List Value) (dC:List (Nat×List Nat)):Prop:=cells.length=2*dC.length ∧ ∀ i e,dC[i]? = some e→EntAt h N cells i e
theorem dK.aC {h h':ah} {N:Nat} {cells:List Value} {dC:List (Nat×List Nat)} (E:dK h N cells dC) {B:Nat→Prop} (k:Kept h h' B) (hB : ∀ b,B b→dq h b):dK h' N cells dC:=by
 refine ⟨E.1,fun i e he => ?_⟩
 obtain ⟨h1,a,n,c,h2,h3,h4,h5⟩:=E.2 i e he
 exact ⟨h1,a,n,c,h2,k.ea hB h3,h4,h5⟩
theorem dK.nil (h:ah) (N:Nat):dK h N [] []:=⟨rfl,fun i e he=>by simp at he⟩
theorem dK.plain {h:ah} {N:Nat} {cells:List Value} {dC:List (Nat×List Nat)} (E:dK h N cells dC) : ∀ v∈cells,nat8 v=none:=by
 intro v hv
 obtain ⟨q,hq⟩:=List.getElem?_of_mem hv
 have hl:=(List.getElem?_eq_some_iff.1 hq).1
 rw [E.1] at hl
 have hi:q/2<dC.length:=by omega
 obtain ⟨h1,a,n,c,h2,_⟩:=E.2 (q/2) dC[q/2] (List.getElem?_eq_getElem hi)
 rcases Nat.mod_two_eq_zero_or_one q with h0|h0
 ·rw [show 2*(q/2)=q by omega,hq] at h1;cases h1;rfl
 ·rw [show 2*(q/2)+1=q by omega,hq] at h2;cases h2;rfl
theorem dK.snoc {h:ah} {N:Nat} {cells:List Value} {dC:List (Nat×List Nat)} (E:dK h N cells dC) {at_:Nat} {l:List Nat} {a:Option Addr} {n c:Nat} (hs:av a n h=some l) (hg:cQ a n c=true) (ha : ∀ y,a=some y→0<n→N≤y.block) :
  dK h N (cells ++ [aq at_,.slice a n c]) (dC ++ [(at_,l)]):=by
 refine ⟨by simp [E.1];omega,fun i e he => ?_⟩
 have hl:=E.1
 by_cases hi:i<dC.length
 ·rw [List.getElem?_append_left hi] at he
  obtain ⟨h1,a',n',c',h2,h3⟩:=E.2 i e he
  exact ⟨by rw [List.getElem?_append_left (by omega)];exact h1,a',n',c',by rw [List.getElem?_append_left (by omega)];exact h2,h3⟩
 ·rw [List.getElem?_append_right (by omega)] at he
  have:i=dC.length:=by
   have:=(List.getElem?_eq_some_iff.1 he).1
   simp at this;omega
  subst this
  rw [Nat.sub_self] at he
  cases he
  refine ⟨by rw [List.getElem?_append_right (by omega),hl,Nat.sub_self];rfl,a,n,c,?_,hs,hg,ha⟩
  rw [List.getElem?_append_right (by omega),hl,Nat.add_sub_cancel_left];rfl
def Dk.dC (D:Dk) (J:Jn):Nat→Nat→List (Nat×List Nat)
 | 0,_ => []
 |k+1,at_=>if at_<D.ar then if J.bg D at_ then (at_,D.data J.ak at_ (D.parts J.ak at_))::D.dC J k (at_+D.parts J.ak at_) else D.dC J k (at_+1) else []
theorem Dk.ents_end {D:Dk} {J:Jn} {at_:Nat} (h:D.ar≤at_) : ∀ k,D.dC J k at_ = []
 | 0=>rfl
 |k+1=>by unfold Dk.dC;rw [if_neg (by omega)]
theorem Jn.gu {J:Jn} {D:Dk} {at_:Nat} (hat:at_<D.ar):J.bg D at_=(decide (0≤J.slot)&&D.bg J.ak J.gen at_):=by
 unfold Jn.bg
 rw [Int.toNat_natCast,decide_eq_true (show (0:Int)≤(at_:Int) by omega),decide_eq_true (show (at_:Int)<(D.ar:Int) by omega),Bool.and_true,Bool.and_true]
theorem r57 {h:ah} {d j:Nat} {D:Dk} {J:Jn} (x:bf h d D) (xj:cU h j d J) (h2:2≤D.n) {at_:Nat} (hat:at_<D.ar) :
  (J.bg D at_=false ∧ ∃ h',CD 57 [ptr j 0,aq at_] h=some (.tuple #[.slice none 0 0,aq 0],h')∧Old h h') ∨
  (J.bg D at_=true ∧ ∃ v h',CD 57 [ptr j 0,aq at_] h=some (.tuple #[v,aq (D.parts J.ak at_)],h')∧Old h h'∧dr h' h.next v (D.data J.ak at_ (D.parts J.ak at_))):=by
 rw [Jn.gu hat]
 by_cases hs:0≤J.slot
 ·rw [decide_eq_true hs,Bool.true_and]
  exact r57_run x xj h2 hs hat
 ·rw [decide_eq_false hs,Bool.false_and]
  exact .inl ⟨rfl,h,r57_start x xj h2 at_ (.inl (by omega)),Kept.refl _ _⟩
section
variable {h0:ah} {d j:Nat} {D:Dk} {J:Jn} (x:bf h0 d D) (xj:cU h0 j d J) (h2:2≤D.n)
def entInv (h0:ah) (d j:Nat) (D:Dk) (J:Jn) (k:Nat) (y:Nat→Value) (g:ah):Prop:=
 ∃ at_ cells done,y 0=ptr d 0∧y 6=ptr j 0∧y 15=aq at_∧cw g h0.next 2 (y 14) done.length cells∧dK g h0.next cells done∧Old h0 g∧at_≤D.ar∧D.ar≤at_+k∧done++D.dC J k at_=D.dC J D.ar 0∧done.length≤at_
def entFin (h0:ah) (j:Nat) (D:Dk) (J:Jn) (ex:Ex) (y:Nat→Value) (g:ah):Prop:=
 ex = .exit 4∧y 6=ptr j 0 ∧ ∃ cells,cw g h0.next 2 (y 14) (D.dC J D.ar 0).length cells∧dK g h0.next cells (D.dC J D.ar 0)∧Old h0 g
include x xj h2
theorem ent_round : ∀ k y g,entInv h0 d j D J k y g→cY 131 (entInv h0 d j D J) (entFin h0 j D J) k (gO CD y g):=by
 rintro k y g ⟨at_,cells,done,i0,i6,i15,own,E,hold,hle,hk,hents,hdl⟩
 have hsm:=x.small
 have har:D.ar=(D.n-2)/2:=rfl
 have xg:=Old.dk hold x
 have jg:=xj.aC hold (fun h=>h)
 unfold gO
 simp -implicitDefEqProofs only [i15,i0,af,r55 xg h2,fT,aj]
 by_cases hlt:at_<D.ar
 ·obtain ⟨q,rfl⟩ : ∃ q,k=q+1:=⟨k-1,by omega⟩
  have hx0 : ∀ a b:Value,aD (.tuple #[a,b]) 0=some a:=fun _ _=>rfl
  have hx1 : ∀ a b:Value,aD (.tuple #[a,b]) 1=some b:=fun _ _=>rfl
  have hg0 : ∀ p:Nat,bin Try.prog .gtr 3 (aq p) (.int .i64 0)=some (.bool (decide (0<p))):=fun p=>gtr3 p 0
  have hents2:D.dC J (q+1) at_=if J.bg D at_ then (at_,D.data J.ak at_ (D.parts J.ak at_))::D.dC J q (at_+D.parts J.ak at_) else D.dC J q (at_+1):=by
   show (if at_<D.ar then _ else _)=_
   rw [if_pos hlt]
  rw [hents2] at hents
  rcases r57 xg jg h2 hlt with ⟨hst,g1,e1,o1⟩|⟨hst,v,g1,e1,o1,ob⟩
  ·rw [hst] at hents
   have hmx:dA true (aq 0) [.int .i64 1]=some (aq 1):=rfl
   simp -implicitDefEqProofs only [decide_eq_true hlt,i6,af,e1,hx0,hx1,aj,hg0,Nat.lt_irrefl,decide_false,hmx,gY (show at_+1≤9223372036854775807 by omega)]
   exact cY.next q (by omega) ⟨at_+1,cells,done,i0,i6,rfl,own.aC o1 (fun _ _ h=>h),E.aC o1 (fun _ h=>h.elim),hold.trans o1,by omega,by omega,hents,by omega⟩
  ·rw [hst,if_pos rfl] at hents
   have hpos:1≤D.parts J.ak at_∧at_+D.parts J.ak at_≤D.ar:=by
    rw [Jn.gu hlt,Bool.and_eq_true] at hst
    exact Dk.stands_pos hst.2
   generalize hp:D.parts J.ak at_=p at *
   generalize hdat:D.data J.ak at_ p=l at *
   obtain ⟨a,c,rfl,s1,s2,s3,s4⟩:=ob.bytes
   have hmx:dA true (aq p) [.int .i64 1]=some (aq p):=by
    simp only [dA,aq,if_true]
    rw [if_neg (by have:=hpos.1;simp;omega)]
   have hbl:fU [(.int .i64 0),(.slice none 0 0)] [(0,1,aq at_),(1,1,.slice a l.length c)]=some (.agg [aq at_,.slice a l.length c].toArray):=rfl
   have hbs:cX 2 (.agg #[(.int .i64 0),(.slice none 0 0)]) 1 [(0,.agg [aq at_,.slice a l.length c].toArray)] g1=some (.slice (some ⟨g1.next,0,none⟩) 1 1,g1.alloc [aq at_,.slice a l.length c]):=rfl
   have oA:Old g1 (g1.alloc [aq at_,.slice a l.length c]):=Kept.alloc _ _ _
   have gA:(g1.alloc [aq at_,.slice a l.length c]).get g1.next=some [aq at_,.slice a l.length c]:=by rw [ah.aE,if_pos rfl]
   have ownA:=(own.aC o1 (fun _ _ h=>h)).aC oA (fun _ _ h=>h)
   have EA:=(E.aC o1 (fun _ h=>h.elim)).aC oA (fun _ h=>h.elim)
   have holdA:Old h0 (g1.alloc [aq at_,.slice a l.length c]):=(hold.trans o1).trans oA
   have sA:=Old.bytes oA s1
   generalize hgA:g1.alloc [aq at_,.slice a l.length c]=gA1 at *
   have hfA:bW 2 1 (.slice (some ⟨g1.next,0,none⟩) 1 1) gA1=some [aq at_,.slice a l.length c]:=by
    simp only [bW,gA]
    rfl
   obtain ⟨v',g4,f1,f2,f3,f4⟩:=im (by_:=32) (x := .slice (some ⟨g1.next,0,none⟩) 1 1) (m:=1) ownA (by rw [holdA.n0];exact h0.aH) holdA.next (by decide) rfl hfA rfl rfl rfl (by omega) (by omega)
   have pl : ∀ b,cF (y 14)=some b∧gA1.get b=some cells→dq gA1 b:=fun b hb=>⟨cells,hb.2,EA.plain⟩
   have s5:=f3.ea pl sA
   have E5:=EA.aC f3 pl
   have hN:h0.next≤g.next:=hold.next
   simp -implicitDefEqProofs only [decide_eq_true hlt,i6,af,e1,hx0,hx1,aj,hg0,decide_eq_true (show 0<p by omega),hbl,hbs,f1,hmx,gY (show at_+p≤9223372036854775807 by omega)]
   refine cY.next q (by omega) ⟨at_+p,cells ++ [aq at_,.slice a l.length c],done ++ [(at_,l)],i0,i6,rfl,?_,E5.snoc s5 s2 (fun y hy _=>Nat.le_trans hN (s3 y hy)),?_,by omega,by omega,?_,?_⟩
   ·rw [List.length_append];exact f2
   ·exact holdA.bS f3 (fun c hc hb=>by have:=ownA.base hb.1;omega)
   ·rw [List.append_assoc];exact hents
   ·rw [List.length_append]
    show done.length+1≤_
    omega
 ·simp -implicitDefEqProofs only [decide_eq_false hlt]
  rw [D.ents_end (by omega) k,List.append_nil] at hents
  refine cY.out 4 ⟨rfl,i6,cells,?_,?_,hold⟩
  ·rw [←hents];exact own
  ·rw [←hents];exact E
end
def Dk.opened (D:Dk):Dk:={ D with aU:=IntKind.wrap .i64 (D.aU+1) }
theorem X53:XX 53=s53:=rfl
theorem is21:cA Try.prog 21 Try.f21:=⟨by kernel_rfl,by kernel_rfl,by kernel_rfl,by kernel_rfl⟩
def Dk.jn (D:Dk):Jn:=D.opened.cz D.opened.aU
def Dk.entries (D:Dk):List (Nat×List Nat):=D.opened.dC D.jn D.ar 0
theorem r21 {h:ah} {d:Nat} {D:Dk} (x:bf h d D) (h2:2≤D.n) (hd:D.down=false) :
  ∃ j v cells N h',CD 21 [ptr d 0] h=some (.tuple #[ptr j 0,v,.int .i64 0],h')∧bf h' d D.opened∧cU h' j d D.jn∧cw h' N 2 v D.entries.length cells∧dK h' N cells D.entries∧Kept h h' (fun c=>c=d)∧h.next≤j∧j<N∧N≤h'.next:=by
 have hf:D.fault 0=0:=by unfold Dk.fault;rw [hd,if_neg (by simp),if_neg (by omega)]
 have e53:CD 53 [ptr d 0,.int .i64 0] h=some (.int .i64 0,h):=eO (by rw [X53,s53_at 0 x,hf])
 have hst:=x.s5 (IntKind.wrap .i64 (D.aU+1))
 have x1:bf (h.set d D.opened.ie) d D.opened:=x.setHdr ⟨rfl,rfl,rfl⟩ x.after x.aC
 have hst:cf 1 (ptr d 5) (.int .i64 (IntKind.wrap .i64 (D.aU+1))) h=some (undef,h.set d D.opened.ie):=hst
 have k1:Kept h (h.set d D.opened.ie) (fun c=>c=d):=Kept.set x.dn x.ie (.inr rfl)
 have hn1:(h.set d D.opened.ie).next=h.next:=rfl
 have hdlt:=x.lt
 generalize hh1:h.set d D.opened.ie=h1 at *
 have hl5:ba (ptr d 5) h1=some (.int .i64 D.opened.aU,h1):=x1.l5
 have hbl:fU [(.pointer none),(.int .i64 0),(.int .i64 0),(.int .i64 0),(.int .u64 0),(.int .u64 0),(.bool false),(.int .i64 0)] [(0,1,ptr d 0),(1,1,.int .i64 D.opened.aU),(2,1,(.int .i64 (-1)))]=some (.agg ((D.opened.jn0 D.opened.aU).cells d).toArray):=rfl
 have hbox:=box_at h1 ((D.opened.jn0 D.opened.aU).cells d) rfl
 have oA:Old h1 (h1.alloc ((D.opened.jn0 D.opened.aU).cells d)):=Kept.alloc _ _ _
 have xA:=Old.dk oA x1
 have jA:cU (h1.alloc ((D.opened.jn0 D.opened.aU).cells d)) h1.next d (D.opened.jn0 D.opened.aU):=⟨by rw [ah.aE,if_pos rfl],h1.aH,by show (0:Nat)≤1;omega⟩
 have nA:(h1.alloc ((D.opened.jn0 D.opened.aU).cells d)).next=h1.next+1:=ah.aS ..
 have kA:Kept h (h1.alloc ((D.opened.jn0 D.opened.aU).cells d)) (fun c=>c=d):=k1.bS oA (fun _ _ h=>h.elim)
 have h2':2≤D.opened.n:=h2
 have hr:(131:Nat)<rounds:=by have:rounds=18446744073709551616:=rfl;omega
 generalize hhA:h1.alloc ((D.opened.jn0 D.opened.aU).cells d)=hA at *
 have key : ∀ o:Out,t21 CD (ptr d 0) h=o → ∃ v cells N h',o=some (.tuple #[ptr h1.next 0,v,.int .i64 0],h')∧bf h' d D.opened∧cU h' h1.next d D.jn∧cw h' N 2 v D.entries.length cells∧dK h' N cells D.entries∧Kept h h' (fun c=>c=d)∧h1.next<N∧N≤h'.next:=by
  intro o ho
  subst ho
  unfold t21
  simp -implicitDefEqProofs only [af,e53,aj,dG,bne_self_eq_false,aJ,ax,Nat.zero_add,x.l5,dL,hst,hl5,hbl,hbox]
  refine cn (Q:=fun (o:Out) => ∃ v cells N h',o=some (.tuple #[ptr h1.next 0,v,.int .i64 0],h')∧bf h' d D.opened∧cU h' h1.next d D.jn∧cw h' N 2 v D.entries.length cells∧dK h' N cells D.entries∧Kept h h' (fun c=>c=d)∧h1.next<N∧N≤h'.next)
   (cg (t21l21_1111010_eq CD) (slot_round xA jA h2') 2 (by omega) ⟨D.opened.jn0 D.opened.aU,rfl,rfl,jA,Kept.refl _ _,.inl ⟨rfl,rfl,rfl⟩⟩) ?_
  rintro ex y g ⟨rfl,f0,f6,fJ,fk⟩
  have xg:bf g d D.opened:=fk.dk xA (fun h=>(jA.ne_d xA) h.symm) (fun h=>(jA.ne_bb xA) h.symm)
  have kg:Kept h g (fun c=>c=d):=kA.bS fk (fun c hc he=>by omega)
  have hgn:h1.next<g.next:=by have:=fk.next;omega
  simp -implicitDefEqProofs only [bA,b21_9,if_true,t21k21_7_eq]
  unfold t21k21_7
  simp -implicitDefEqProofs only [af]
  refine cn (Q:=fun (o:Out) => ∃ v cells N h',o=some (.tuple #[ptr h1.next 0,v,.int .i64 0],h')∧bf h' d D.opened∧cU h' h1.next d D.jn∧cw h' N 2 v D.entries.length cells∧dK h' N cells D.entries∧Kept h h' (fun c=>c=d)∧h1.next<N∧N≤h'.next)
   (cg (t21l21_111111010_eq CD) (ent_round xg fJ h2') D.opened.ar (by have:rounds=18446744073709551616:=rfl;have:=xg.small;unfold Dk.ar;omega) ⟨0,[],[],f0,f6,rfl,cw.nil _ _ _,dK.nil _ _,Kept.refl _ _,Nat.zero_le _,by omega,rfl,Nat.le_refl _⟩) ?_
  rintro ex z g2 ⟨rfl,q6,cells,q1,q2,q3⟩
  refine ⟨z 14,cells,g.next,g2,?_,Old.dk q3 xg,fJ.aC q3 (fun h=>h),q1,q2,kg.bS q3 (fun _ _ h=>h.elim),hgn,q3.next⟩
  simp -implicitDefEqProofs only [bA,b21_13,if_true,t21k21_11_eq]
  unfold t21k21_11
  simp -implicitDefEqProofs only [af,q6]
 obtain ⟨v,cells,N,h',e,a1,a2,a3,a4,a5,a6,a7⟩:=key _ rfl
 exact ⟨h1.next,v,cells,N,h',aO is21 rfl ((t21_eq _ _ _).trans e),a1,a2,a3,a4,a5,by omega,a6,a7⟩
end Go.Proofs.Ytcmfgmhadeeieaa

namespace Go.Proofs.Ytcmfgmhadeeieaa
open Go Go.Abs
def RecsG (h:ah) (F:Nat→Prop) (v:Value) (vals:List (List Nat)):Prop:=
 ∃ a c,v = .slice a vals.length c ∧ ∀ i r,vals[i]? = some r → ∃ b off s k ai ni ci,a=some ⟨b,off,s⟩∧h.get b=some k ∧ ¬F b∧k[off+i]? = some (.slice ai ni ci)∧av ai ni h=some r∧cQ ai ni ci=true ∧ ∀ y,ai=some y→0<ni → ¬F y.block
theorem RecsG.aC {h h':ah} {F B:Nat→Prop} {v:Value} {vals:List (List Nat)} (R:RecsG h F v vals) (k:Kept h h' B) (hB : ∀ c,B c→F c∨h.next≤c):RecsG h' F v vals:=by
 obtain ⟨a,c,rfl,hR⟩:=R
 refine ⟨a,c,rfl,fun i r hi => ?_⟩
 obtain ⟨b,off,s,kk,ai,ni,ci,h1,h2,h3,h4,h5,h6,h7⟩:=hR i r hi
 refine ⟨b,off,s,kk,ai,ni,ci,h1,k.dp h2 (fun hb=>(hB b hb).elim h3 (fun h8=>by have:=h.aR h2;omega)),h3,h4,k.bytes h5 (fun y hy hn hb => ?_),h6,h7⟩
 rcases hB _ hb with h8|h8
 ·exact h7 y hy hn h8
 ·subst hy
  obtain ⟨b',o',s',e,hlt⟩:=eX h5 hn
  cases e
  have:h.next≤b':=h8
  omega
theorem RecsG.at {h:ah} {F:Nat→Prop} {v:Value} {vals:List (List Nat)} (R:RecsG h F v vals) {i:Nat} {r:List Nat} (hi:vals[i]? = some r) :
  ∃ p a n c,cd 1 v (aq i)=some p∧ba p h=some (.slice a n c,h)∧av a n h=some r∧cQ a n c=true∧(∀ y,a=some y→0<n → ¬F y.block)∧cH v=some (aq vals.length):=by
 obtain ⟨a,c,rfl,hR⟩:=R
 obtain ⟨b,off,s,kk,ai,ni,ci,rfl,h2,h3,h4,h5,h6,h7⟩:=hR i r hi
 have hl:=(List.getElem?_eq_some_iff.1 hi).1
 refine ⟨ptr b (off+i*1),ai,ni,ci,?_,?_,h5,h6,h7,rfl⟩
 ·unfold cd
  simp only [aq]
  rw [if_pos (by omega),Int.toNat_natCast]
 ·rw [Nat.mul_one];exact aN h2 h4
theorem RecsG.len {h:ah} {F:Nat→Prop} {v:Value} {vals:List (List Nat)} (R:RecsG h F v vals):cH v=some (aq vals.length):=by
 obtain ⟨a,c,rfl,hR⟩:=R
 rfl
def aG (vals:List (List Nat)):Nat:=(vals.map fun r=>aQ r.length).sum
theorem recsTot_take {vals:List (List Nat)} {i:Nat} {r:List Nat} (hi:vals[i]? = some r):aG (vals.take (i+1))=aG (vals.take i)+aQ r.length:=by
 unfold aG
 rw [List.take_add_one,hi]
 simp
theorem recsTot_le (vals:List (List Nat)) (i:Nat):aG (vals.take i)≤aG vals:=by
 have h:=congrArg aG (List.take_append_drop i vals)
 unfold aG at *
 rw [List.map_append,List.sum_append] at h
 omega
section
variable {h0:ah} {d j:Nat} {D:Dk} {J:Jn} {F:Nat→Prop} {v:Value} {vals:List (List Nat)} (x:bf h0 d D) (xj:cU h0 j d J) (h2:2≤D.n) (R:RecsG h0 F v vals) (hlen:vals.length≤100000)
def needInv (h0:ah) (j:Nat) (D:Dk) (v:Value) (vals:List (List Nat)) (k:Nat) (y:Nat→Value) (g:ah):Prop:=
 g=h0 ∧ ∃ i,i+k=vals.length∧y 0=ptr j 0∧y 1=v∧y 26=v∧y 27=aq vals.length∧y 28=aq i∧y 7=aq (min (aG (vals.take i)) 4096)∧y 8 = .bool (decide (D.ar<aG (vals.take i))) ∧ ∀ r∈vals.take i,r.length≤20000
def needFin (h0:ah) (j:Nat) (D:Dk) (v:Value) (vals:List (List Nat)) (ex:Ex) (y:Nat→Value) (g:ah):Prop:=
 g=h0∧((ex = .ret∧y 4 = .slice none 0 0∧y 5 = .int .i64 3 ∧ ∃ r∈vals,20000<r.length)∨(ex = .exit 0∧y 0=ptr j 0∧y 1=v∧y 8 = .bool (decide (D.ar<aG vals)) ∧ ∀ r∈vals,r.length≤20000))
include x xj h2 R hlen
theorem need_round : ∀ k y g,needInv h0 j D v vals k y g→cY 151 (needInv h0 j D v vals) (needFin h0 j D v vals) k (t23l23_111010 CD y g):=by
 rintro k y g ⟨rfl,i,hik,i0,i1,i26,i27,i28,i7,i8,hall⟩
 have hsm:=x.small
 have har:D.ar=(D.n-2)/2:=rfl
 unfold t23l23_111010
 simp -implicitDefEqProofs only [i28,i27,fT,aj,af]
 by_cases hz:k=0
 ·subst hz
  have hi:i=vals.length:=by omega
  subst hi
  rw [List.take_length] at i8 hall
  simp -implicitDefEqProofs only [Nat.lt_irrefl,decide_false]
  exact cY.out 0 ⟨rfl,.inr ⟨rfl,i0,i1,i8,hall⟩⟩
 ·obtain ⟨q,rfl⟩ : ∃ q,k=q+1:=⟨k-1,by omega⟩
  have hlt:i<vals.length:=by omega
  have hi:vals[i]? = some vals[i]:=List.getElem?_eq_getElem hlt
  generalize vals[i]=r at hi
  obtain ⟨p,a,n,c,e1,e2,e3,e4,e5,e6⟩:=R.at hi
  have hrl:=(aw e3).1
  have hg : ∀ z:Nat,bin Try.prog .gtr 3 (aq z) (.int .i64 20000)=some (.bool (decide (20000<z))):=fun z=>gtr3k z 20000
  simp -implicitDefEqProofs only [decide_eq_true hlt,i26,e1,e2,aj,af,bO]
  rw [show (Value.int .i64 (n:Int))=aq n from rfl]
  simp -implicitDefEqProofs only [hg,aj,af]
  by_cases hlong:20000<n
  ·simp -implicitDefEqProofs only [decide_eq_true hlong]
   exact cY.ret ⟨rfl,.inl ⟨rfl,rfl,rfl,r,List.mem_of_getElem? hi,by omega⟩⟩
  ·have hcl:=fj (n:=n) (by omega)
   have htk:=recsTot_take hi
   rw [hrl] at htk
   have hmn:dA false (aq (min (aG (vals.take i)) 4096+aQ n)) [.int .i64 4096]=some (aq (min (aG (vals.take (i+1))) 4096)):=by
    simp only [dA,aq,if_true,Bool.false_eq_true,if_false]
    by_cases hc:(4096:Int)<((min (aG (vals.take i)) 4096+aQ n:Nat):Int)
    ·rw [if_pos (by simpa using hc),Nat.min_eq_right (by omega)];rfl
    ·rw [if_neg (by simpa using hc)]
     exact congrArg (fun z:Nat=>some (Value.int .i64 (z:Int))) (by omega)
   simp -implicitDefEqProofs only [decide_eq_false hlong,i7,r15 n g (by omega),af,gY (show min (aG (vals.take i)) 4096+aQ n≤9223372036854775807 by omega),aj,hmn,i8,ay]
   have hall2 : ∀ r'∈vals.take (i+1),r'.length≤20000:=by
    intro r' hr'
    rw [List.take_add_one,hi] at hr'
    rcases List.mem_append.1 hr' with h|h
    ·exact hall r' h
    ·have:r'=r:=by simpa using h
     rw [this];omega
   by_cases hf:D.ar<aG (vals.take i)
   ·simp -implicitDefEqProofs only [decide_eq_true hf,sf,aF,af,if_true,ef (show i+1≤9223372036854775807 by omega),aj]
    refine cY.next q (by omega) ⟨rfl,i+1,by omega,i0,i1,i26,i27,rfl,rfl,?_,hall2⟩
    have:D.ar<aG (vals.take (i+1)):=by omega
    rw [decide_eq_true this];rfl
   ·have hgf:decide (D.ar<min (aG (vals.take (i+1))) 4096)=decide (D.ar<aG (vals.take (i+1))):=decide_eq_decide.2 (by omega)
    simp -implicitDefEqProofs only [decide_eq_false hf,beq_self_eq_true,aA,af,i0,aJ,aj,ax,Nat.zero_add,xj.l0,r55 x h2,gtr3,hgf,Bool.false_eq_true,if_false,ef (show i+1≤9223372036854775807 by omega)]
    exact cY.next q (by omega) ⟨rfl,i+1,by omega,i0,i1,i26,i27,rfl,rfl,rfl,hall2⟩
end
def Dk.bL (ak gen:Nat):List (List Nat)→Nat→Dk→List Nat→Int×Dk×Nat×List Nat
 | [],at_,D,ps=>(0,D,at_,ps)
 |r::rs,at_,D,ps=>if (D.bU ak gen at_ r).1=0 then Dk.bL ak gen rs (at_+aQ r.length) (D.bU ak gen at_ r).2 (ps ++ [at_]) else ((D.bU ak gen at_ r).1,(D.bU ak gen at_ r).2,at_,ps)
def rwF (j d:Nat) (D:Dk) (c:Nat):Prop:=c=j∨c=d∨c=D.bb
section
variable {h0:ah} {d j:Nat} {D:Dk} {J:Jn} {v:Value} {vals:List (List Nat)} {ak gen:Nat} {slot:Int} (x:bf h0 d D) (xj:cU h0 j d J) (h2:2≤D.n) (R:RecsG h0 (rwF j d D) v vals) (hlen:vals.length≤100000)
 (ha:ak≤1) (hg:gen<18446744073709551616) (htot:aG vals≤D.ar) (hall : ∀ r∈vals,r.length≤20000)
def rwInv (h0:ah) (N d j:Nat) (D:Dk) (v:Value) (vals:List (List Nat)) (ak gen:Nat) (slot:Int) (k:Nat) (y:Nat→Value) (g:ah):Prop:=
 ∃ i E ps,i+k=vals.length∧y 0=ptr j 0∧y 81=v∧y 82=aq vals.length∧y 83=aq i∧y 11=aq ak∧y 12 = .int .i64 slot∧y 13 = .int .u64 gen∧y 14=aq (aG (vals.take i))∧ps.length=i∧cw g N 1 (y 15) i (ps.map aq)∧bf g d E∧E.bb=D.bb∧E.n=D.n ∧
   dX d D.bb h0 g∧Dk.bL ak gen (vals.drop i) (aG (vals.take i)) E ps=Dk.bL ak gen vals 0 D []
def rwFin (h0:ah) (N d j:Nat) (D:Dk) (vals:List (List Nat)) (ak gen:Nat) (slot:Int) (ex:Ex) (y:Nat→Value) (g:ah):Prop:=
 bf g d (Dk.bL ak gen vals 0 D []).2.1∧(Dk.bL ak gen vals 0 D []).2.1.bb=D.bb∧(Dk.bL ak gen vals 0 D []).2.1.n=D.n∧dX d D.bb h0 g ∧
  ((ex = .ret∧y 4 = .slice none 0 0∧y 5 = .int .i64 (Dk.bL ak gen vals 0 D []).1∧(Dk.bL ak gen vals 0 D []).1≠0) ∨
   (ex = .exit 2∧y 0=ptr j 0∧y 11=aq ak∧y 12 = .int .i64 slot∧y 13 = .int .u64 gen∧(Dk.bL ak gen vals 0 D []).1=0∧(Dk.bL ak gen vals 0 D []).2.2.1=aG vals∧y 14=aq (aG vals)∧(Dk.bL ak gen vals 0 D []).2.2.2.length=vals.length ∧
    cw g N 1 (y 15) vals.length ((Dk.bL ak gen vals 0 D []).2.2.2.map aq)))
include x xj h2 R hlen ha hg htot hall
theorem rw_round : ∀ k y g,rwInv h0 h0.next d j D v vals ak gen slot k y g→cY 151 (rwInv h0 h0.next d j D v vals ak gen slot) (rwFin h0 h0.next d j D vals ak gen slot) k (fy CD y g):=by
 rintro k y g ⟨i,E,ps,hik,i0,i81,i82,i83,i11,i12,i13,i14,hps,own,xg,hEb,hEn,hk,hrw⟩
 have hsm:=x.small
 have hdl:=x.lt
 have hbl:=x.blt
 have har:D.ar=(D.n-2)/2:=rfl
 have jg:cU g j d J:=xj.aC hk (fun h=>h.elim (xj.ne_d x) (xj.ne_bb x))
 have Rg:RecsG g (rwF j d D) v vals:=R.aC hk (fun c hc => .inl (.inr hc))
 unfold fy
 simp -implicitDefEqProofs only [i83,i82,fT,aj,af]
 by_cases hz:k=0
 ·subst hz
  have hi:i=vals.length:=by omega
  subst hi
  rw [List.drop_length,List.take_length] at hrw
  rw [List.take_length] at i14
  have hrw:(0,E,aG vals,ps)=Dk.bL ak gen vals 0 D []:=hrw
  simp -implicitDefEqProofs only [Nat.lt_irrefl,decide_false]
  refine cY.out 2 ?_
  unfold rwFin
  rw [←hrw]
  exact ⟨xg,hEb,hEn,hk,.inr ⟨rfl,i0,i11,i12,i13,rfl,rfl,i14,hps,own⟩⟩
 ·obtain ⟨q,rfl⟩ : ∃ q,k=q+1:=⟨k-1,by omega⟩
  have hlt:i<vals.length:=by omega
  have hi:vals[i]? = some vals[i]:=List.getElem?_eq_getElem hlt
  have hdrop:vals.drop i=vals[i]::vals.drop (i+1):=(List.getElem_cons_drop hlt).symm
  have hr20:=hall vals[i] (List.getElem_mem hlt)
  rw [hdrop] at hrw
  generalize hrr:vals[i]=r at hi hrw hr20
  obtain ⟨p,a,n,c,e1,e2,e3,e4,e5,e6⟩:=Rg.at hi
  have hrl:=(aw e3).1
  have htk:=recsTot_take hi
  have htl:=recsTot_le vals (i+1)
  have hcl:=fj (n:=r.length) (by omega)
  obtain ⟨g1,f1,x1,b1,n1,k1⟩:=r59 xg jg (by omega) ha hg (at_:=aG (vals.take i)) (by omega) e3 e4 (by omega) (fun y hy hn hb=>e5 y hy hn (.inr (.inr (hb.trans hEb))))
  have hrw2:(if (E.bU ak gen (aG (vals.take i)) r).1=0 then Dk.bL ak gen (vals.drop (i+1)) (aG (vals.take i)+aQ r.length) (E.bU ak gen (aG (vals.take i)) r).2 (ps ++ [aG (vals.take i)]) else ((E.bU ak gen (aG (vals.take i)) r).1,(E.bU ak gen (aG (vals.take i)) r).2,aG (vals.take i),ps))=Dk.bL ak gen vals 0 D []:=hrw
  rw [hEb] at b1 k1
  have kk1:dX d D.bb h0 g1:=hk.trans k1
  generalize hA:aG (vals.take i)=A at *
  simp -implicitDefEqProofs only [decide_eq_true hlt,i81,e1,e2,aj,af,i0,i11,i13,i14,f1,dG]
  by_cases hz2:(E.bU ak gen A r).1=0
  ·rw [if_pos hz2] at hrw2
   have hne:((E.bU ak gen A r).1 != 0)=false:=by rw [hz2];rfl
   have own1:cw g1 h0.next 1 (y 15) i (ps.map aq):=own.aC k1 (fun b hb hc=>by
    have:=own.base hb
    rcases hc with hc|hc<;>omega)
   have oA:Old g1 (g1.alloc [aq A]):=Kept.alloc _ _ _
   have gA:(g1.alloc [aq A]).get g1.next=some [aq A]:=by rw [ah.aE,if_pos rfl]
   have hbs:cX 1 (.int .i64 0) 1 [(0,aq A)] g1=some (.slice (some ⟨g1.next,0,none⟩) 1 1,g1.alloc [aq A]):=rfl
   have own2:=own1.aC oA (fun _ _ h=>h)
   have x2:=Old.dk oA x1
   have kk2:dX d D.bb h0 (g1.alloc [aq A]):=kk1.bS oA (fun _ _ h=>h.elim)
   generalize hgA:g1.alloc [aq A]=g2 at *
   have hfA:bW 1 1 (.slice (some ⟨g1.next,0,none⟩) 1 1) g2=some [aq A]:=by
    simp only [bW,gA]
    rfl
   obtain ⟨v',g3,q1,q2,q3,q4⟩:=im (by_:=8) (x := .slice (some ⟨g1.next,0,none⟩) 1 1) (m:=1) own2 (by rw [kk2.n0];exact h0.aH) kk2.next (by decide) rfl hfA rfl rfl rfl (by omega) (by omega)
   have x3:bf g3 d (E.bU ak gen A r).2:=q3.dk x2 (fun h=>by have:=own2.base h.1;omega) (fun h=>by have:=own2.base h.1;rw [b1] at this;omega)
   have kk3:dX d D.bb h0 g3:=⟨q3.n0.trans kk2.n0,Nat.le_trans kk2.next q3.next,fun e he hc=>
    (q3.get e (Nat.lt_of_lt_of_le he kk2.next) (fun h=>by have:=own2.base h.1;omega)).trans (kk2.get e he hc)⟩
   rw [hrl] at htk hcl hrw2
   have hpl:(ps ++ [A]).length=i+1:=by simp [hps]
   have hmap:(ps ++ [A]).map aq=ps.map aq ++ [aq A]:=by simp
   simp -implicitDefEqProofs only [hne,af,hbs,q1,bO,aj]
   rw [show (Value.int .i64 (n:Int))=aq n from rfl]
   simp -implicitDefEqProofs only [r15 n g3 (by omega),af,gY (show A+aQ n≤9223372036854775807 by omega),ef (show i+1≤9223372036854775807 by omega),aj]
   refine cY.next q (by omega) ⟨i+1,_,ps ++ [A],by omega,i0,i81,i82,rfl,i11,i12,i13,?_,hpl,by rw [hmap];exact q2,x3,b1,n1.trans hEn,kk3,?_⟩
   ·show aq (A+aQ n)=_
    rw [htk]
   ·rw [htk];exact hrw2
  ·rw [if_neg hz2] at hrw2
   have hne:((E.bU ak gen A r).1 != 0)=true:=by rw [bne_iff_ne];exact hz2
   simp -implicitDefEqProofs only [hne,af]
   refine cY.ret ?_
   unfold rwFin
   rw [←hrw2]
   exact ⟨x1,b1,n1.trans hEn,kk1,.inl ⟨rfl,rfl,rfl,hz2⟩⟩
end
end Go.Proofs.Ytcmfgmhadeeieaa

namespace Go.Proofs.Ytcmfgmhadeeieaa
open Go Go.Abs
def dO (gen ak:Nat):List Nat:=fN 4 1398034252++fN 8 gen++fN 1 ak
def bV (gen ak:Nat):List Nat:=gX (dO gen ak)
def Jn.az (J:Jn):Nat:=if 0≤J.slot then 1-J.ak else 0
def Jn.a9 (J:Jn):Int:=if 0≤J.slot then 1-J.slot else 0
def Jn.rewrite (J:Jn) (D:Dk) (vals:List (List Nat)):Int×Dk×Jn×List Nat:=
 if J.live D=false then (9,D,J,[]) else
 if (vals.any fun r=>decide (20000<r.length))=true then (3,D,J,[]) else
 if D.ar<aG vals∨J.known=18446744073709551615 then (8,D,J,[]) else
 if (Dk.bL J.az (J.known+1) vals 0 D []).1=0 then
  if ((Dk.bL J.az (J.known+1) vals 0 D []).2.1.write J.a9 (bV (J.known+1) J.az)).1=0 then
   (0,((Dk.bL J.az (J.known+1) vals 0 D []).2.1.write J.a9 (bV (J.known+1) J.az)).2,
     { aU:=J.aU,slot:=J.a9,ak:=J.az,gen:=J.known+1,known:=J.known+1,ready:=true,fin:=aG vals },(Dk.bL J.az (J.known+1) vals 0 D []).2.2.2)
  else (((Dk.bL J.az (J.known+1) vals 0 D []).2.1.write J.a9 (bV (J.known+1) J.az)).1,((Dk.bL J.az (J.known+1) vals 0 D []).2.1.write J.a9 (bV (J.known+1) J.az)).2,J,[])
 else ((Dk.bL J.az (J.known+1) vals 0 D []).1,(Dk.bL J.az (J.known+1) vals 0 D []).2.1,J,[])
theorem Jn.gl (J:Jn):J.az≤1:=by unfold Jn.az;split<;>omega
def RwPost (h:ah) (d j:Nat) (D:Dk) (J:Jn) (vals:List (List Nat)) (o:Out):Prop:=
 ∃ v h',o=some (.tuple #[v,.int .i64 (J.rewrite D vals).1],h')∧bf h' d (J.rewrite D vals).2.1∧(J.rewrite D vals).2.1.bb=D.bb∧(J.rewrite D vals).2.1.n=D.n∧cU h' j d (J.rewrite D vals).2.2.1∧JdOnly j d D.bb h h' ∧
   cw h' h.next 1 v (J.rewrite D vals).2.2.2.length ((J.rewrite D vals).2.2.2.map aq)
theorem is23:cA Try.prog 23 Try.f23:=⟨by kernel_rfl,by kernel_rfl,by kernel_rfl,by kernel_rfl⟩
theorem results23:Try.f23.results.toList = [.tmp 4,.tmp 5]:=by kernel_rfl
theorem res23 (y:Nat→Value) (g:ah):au Try.prog Try.f23.results.toList (aY 151 y) g=some (.tuple #[y 4,y 5],g):=by
 have h4:(aY 151 y).getD 4 undef=y 4:=rfl
 have h5:(aY 151 y).getD 5 undef=y 5:=rfl
 rw [results23]
 simp only [au,List.mapM_cons,List.mapM_nil,dS,h4,h5]
 rfl
theorem cw.keepL {h h':ah} {N size:Nat} {v:Value} {len:Nat} {cells:List Value} (o:cw h N size v len cells) {B:Nat→Prop} (k:Kept h h' B) (hB : ∀ b,cF v=some b→b<h.next → ¬B b):cw h' N size v len cells:=by
 obtain ⟨h1,h2,h3,h4⟩:=o
 refine ⟨h1,h2,h3,?_⟩
 rcases h4 with h4|⟨b,s,rfl,h5,h6|⟨h6,h7⟩⟩
 ·exact .inl h4
 ·exact .inr ⟨b,s,rfl,h5,.inl h6⟩
 ·exact .inr ⟨b,s,rfl,h5,.inr ⟨h6,k.dp h7 (hB b rfl (h.aR h7))⟩⟩
section
variable {h:ah} {d j:Nat} {D:Dk} {J:Jn} {v:Value} {vals:List (List Nat)} (x:bf h d D) (xj:cU h j d J) (h2:2≤D.n) (ok:iD J D) (R:RecsG h (rwF j d D) v vals) (hlen:vals.length≤100000)
include x xj h2 ok R hlen
omit h2 ok R hlen in
theorem rw_end (hl:J.live D=true) (h20 : ∀ r∈vals,r.length≤20000) (htot:aG vals≤D.ar) (hkn:J.known<18446744073709551615) {y:Nat→Value} {g:ah} (i0:y 0=ptr j 0) (i11:y 11=aq J.az) (i12:y 12 = .int .i64 J.a9) (i13:y 13 = .int .u64 ((J.known+1:Nat):Int)) (i14:y 14=aq (aG vals))
  (hz:(Dk.bL J.az (J.known+1) vals 0 D []).1=0) (xg:bf g d (Dk.bL J.az (J.known+1) vals 0 D []).2.1) (hbb:(Dk.bL J.az (J.known+1) vals 0 D []).2.1.bb=D.bb) (hn:(Dk.bL J.az (J.known+1) vals 0 D []).2.1.n=D.n)
  (hk:dX d D.bb h g) (own:cw g h.next 1 (y 15) vals.length ((Dk.bL J.az (J.known+1) vals 0 D []).2.2.2.map aq)) (hpl:(Dk.bL J.az (J.known+1) vals 0 D []).2.2.2.length=vals.length):RwPost h d j D J vals (t23k23_16 CD y g):=by
 have hany:(vals.any fun r=>decide (20000<r.length))=false:=by
  rw [List.any_eq_false]
  intro r hr
  have:=h20 r hr
  simp;omega
 have hful : ¬(D.ar<aG vals∨J.known=18446744073709551615):=by omega
 have hrw:J.rewrite D vals=if ((Dk.bL J.az (J.known+1) vals 0 D []).2.1.write J.a9 (bV (J.known+1) J.az)).1=0 then
   (0,((Dk.bL J.az (J.known+1) vals 0 D []).2.1.write J.a9 (bV (J.known+1) J.az)).2,
     { aU:=J.aU,slot:=J.a9,ak:=J.az,gen:=J.known+1,known:=J.known+1,ready:=true,fin:=aG vals },(Dk.bL J.az (J.known+1) vals 0 D []).2.2.2)
  else (((Dk.bL J.az (J.known+1) vals 0 D []).2.1.write J.a9 (bV (J.known+1) J.az)).1,((Dk.bL J.az (J.known+1) vals 0 D []).2.1.write J.a9 (bV (J.known+1) J.az)).2,J,[]):=by
  unfold Jn.rewrite
  rw [hl,hany,if_neg (by decide),if_neg (by decide),if_neg hful,if_pos hz]
 have hsm:=x.small
 have hdl:=x.lt
 have hbl:=x.blt
 have hjl:=xj.lt
 have hNg:=hk.next
 have jg:cU g j d J:=xj.aC hk (fun h=>h.elim (xj.ne_d x) (xj.ne_bb x))
 have harea:=J.gl
 generalize hE:(Dk.bL J.az (J.known+1) vals 0 D []).2.1=E at *
 generalize hps:(Dk.bL J.az (J.known+1) vals 0 D []).2.2.2=ps at *
 obtain ⟨g1,e1,W1,k1⟩:=r60 g (lim:=124) (by decide)
 have e1:CD 60 [.int .i64 124] g=_:=e1
 obtain ⟨g2,e2,W2,k2⟩:=r61 W1 (v:=1398034252) (by simp) (by decide)
 have e2:CD 61 [ptr g.next 0,.int .u32 1398034252] g1=_:=e2
 obtain ⟨g3,e3,W3,k3⟩:=r62 W2 (v:=J.known+1) (by simp [bm]) (by omega)
 obtain ⟨g4,e4,W4,k4⟩:=r63 W3 (v:=J.az) (by simp [bm]) (by omega)
 have hbody : []++fN 4 1398034252++fN 8 (J.known+1)++fN 1 J.az=dO (J.known+1) J.az:=by
  unfold dO;rw [List.nil_append]
 rw [hbody] at W4
 have k14:Abv g.next g g4:=((k1.trans k2).trans k3).trans k4
 have j4:cU g4 j d J:=jg.aC k14 (by omega)
 have x4:bf g4 d E:=k14.dk xg (by omega) (by omega)
 obtain ⟨B,g5,e5,s5,k5,hB⟩:=r64 W4 (by simp [dO,bm])
 have j5:cU g5 j d J:=j4.aC k5 (fun h=>h)
 have x5:=Old.dk k5 x4
 obtain ⟨e6,x6,b6,n6,k6⟩:=r19 x5 J.a9 (c:=128) s5 rfl
 have hsb:gX (dO (J.known+1) J.az)=bV (J.known+1) J.az:=rfl
 rw [hsb] at e6 x6 b6 n6 k6
 rw [hbb] at b6 k6
 have hbase : ∀ b,cF (y 15)=some b→h.next≤b:=fun b hb=>own.base hb
 have own4:cw g4 h.next 1 (y 15) vals.length (ps.map aq):=own.keepL k14 (fun b hb hlt hc=>by omega)
 have own6:=(own4.aC k5 (fun _ _ h=>h)).aC k6 (fun b hb hc=>by
  have:=hbase b hb
  rcases hc with hc|hc<;>omega)
 have kk6:dX d D.bb h (dh g5 d (E.write J.a9 (bV (J.known+1) J.az)).2):=((hk.bS k14 (fun c hc h=>by omega)).bS k5 (fun _ _ h=>h.elim)).trans k6
 have j6:cU (dh g5 d (E.write J.a9 (bV (J.known+1) J.az)).2) j d J:=j5.aC k6 (fun h=>h.elim (xj.ne_d x) (xj.ne_bb x))
 generalize hg6:dh g5 d (E.write J.a9 (bV (J.known+1) J.az)).2=g6 at *
 generalize hWW:E.write J.a9 (bV (J.known+1) J.az)=WW at *
 have cv8:cvI .u8 (aq J.az) g3=some (.int .u8 (J.az:Int),g3):=by
  unfold aq
  rw [dg,wrap_u8 (by omega) (by omega)]
 have ck:=dJ (rfl:some (ptr d 0,g5)=some (ptr d 0,g5)) (show veq (ptr d 0) (ptr d 0)=true by simp [ptr,veq])
 unfold t23k23_16
 simp -implicitDefEqProofs only [af,e1,e2,i13,e3,i11,cv8,e4,i0,aJ,aj,ax,Nat.zero_add,j4.l0,i12,e5,e6,j5.l0,ck,Bool.and_true,dG]
 unfold RwPost
 by_cases hz2:WW.1=0
 ·rw [if_pos hz2] at hrw
  rw [hrw]
  have hne:(WW.1 != 0)=false:=by rw [hz2];rfl
  obtain ⟨q1,a1,b1,c1,d1⟩:=j6.st 2 (.int .i64 J.a9) { J with slot:=J.a9 } (by decide) rfl rfl rfl xj.ak
  obtain ⟨q2,a2,b2,c2,d2⟩:=b1.st 3 (aq J.az) { J with slot:=J.a9,ak:=J.az } (by decide) rfl rfl rfl harea
  obtain ⟨q3,a3,b3,c3,d3⟩:=b2.st 4 (.int .u64 ((J.known+1:Nat):Int)) { J with slot:=J.a9,ak:=J.az,gen:=J.known+1 } (by decide) rfl rfl rfl harea
  obtain ⟨q4,a4,b4,c4,d4⟩:=b3.st 5 (.int .u64 ((J.known+1:Nat):Int)) { J with slot:=J.a9,ak:=J.az,gen:=J.known+1,known:=J.known+1 } (by decide) rfl rfl rfl harea
  obtain ⟨q5,a5,b5,c5,d5⟩:=b4.st 6 (.bool true) { J with slot:=J.a9,ak:=J.az,gen:=J.known+1,known:=J.known+1,ready:=true } (by decide) rfl rfl rfl harea
  obtain ⟨q6,a6,b6',c6,d6⟩:=b5.st 7 (aq (aG vals)) { J with slot:=J.a9,ak:=J.az,gen:=J.known+1,known:=J.known+1,ready:=true,fin:=aG vals } (by decide) rfl rfl rfl harea
  have kj:Kept g6 q6 (fun c=>c=j):=((((c1.trans c2).trans c3).trans c4).trans c5).trans c6
  simp -implicitDefEqProofs only [hne,af,i0,i12,i11,i13,i14,aJ,aj,ax,Nat.zero_add,a1,a2,a3,a4,a5,a6]
  refine ⟨_,_,rfl,kj.dk x6 (fun h=>(j6.ne_d x6) h.symm) (fun h=>(j6.ne_bb x6) h.symm),b6,n6.trans hn,b6',(dX.jd kk6).trans (kj.mono (fun c _ hc => .inl hc)),?_⟩
  show cw q6 h.next 1 (y 15) ps.length (ps.map aq)
  rw [hpl]
  exact own6.aC kj (fun b hb hc=>by have:=hbase b hb;omega)
 ·rw [if_neg hz2] at hrw
  rw [hrw]
  have hne:(WW.1 != 0)=true:=by rw [bne_iff_ne];exact hz2
  simp -implicitDefEqProofs only [hne,af]
  exact ⟨_,_,rfl,x6,b6,n6.trans hn,j6,dX.jd kk6,cw.nil _ _ _⟩
theorem r23:RwPost h d j D J vals (CD 23 [ptr j 0,v] h):=by
 have key:RwPost h d j D J vals (t23 CD (ptr j 0) v h):=by
  have hdl:=x.lt
  have hbl:=x.blt
  have hjl:=xj.lt
  unfold t23
  simp -implicitDefEqProofs only [af,r58 x xj,aj,dG]
  cases hl:J.live D with
  |false=>
   have hrw:J.rewrite D vals=(9,D,J,[]):=by unfold Jn.rewrite;rw [if_pos hl]
   unfold RwPost
   rw [hrw]
   simp -implicitDefEqProofs only [Bool.false_eq_true,if_false,show ((9:Int) != 0)=true from rfl,af]
   exact ⟨_,h,rfl,x,trivial,trivial,xj,Kept.refl _ _,cw.nil _ _ _⟩
  |true=>
   simp -implicitDefEqProofs only [if_true,bne_self_eq_false,af,R.len,aj]
   refine cn (Q:=fun (o:Out)=>RwPost h d j D J vals o)
    (cg (t23l23_111010_eq CD) (need_round x xj h2 R hlen) vals.length (by have:rounds=18446744073709551616:=rfl;omega)
     ⟨rfl,0,Nat.zero_add _,rfl,rfl,rfl,rfl,rfl,rfl,by show Value.bool false=_;rw [List.take_zero,decide_eq_false (by show ¬D.ar<0;omega)],by simp⟩) ?_
   rintro ex y g ⟨rfl,⟨rfl,y4,y5,r,hr,hlong⟩|⟨rfl,i0,i1,i8,h20⟩⟩
   ·have hany:(vals.any fun r=>decide (20000<r.length))=true:=by
     rw [List.any_eq_true]
     exact ⟨r,hr,by simpa using hlong⟩
    have hrw:J.rewrite D vals=(3,D,J,[]):=by unfold Jn.rewrite;rw [hl,if_neg (by decide),if_pos hany]
    unfold RwPost
    rw [hrw]
    refine ⟨_,g,?_,x,rfl,rfl,xj,Kept.refl _ _,cw.nil _ _ _⟩
    show au Try.prog Try.f23.results.toList (aY 151 y) g=_
    rw [res23,y4,y5]
   ·have hany:(vals.any fun r=>decide (20000<r.length))=false:=by
     rw [List.any_eq_false]
     intro r hr
     have:=h20 r hr
     simp;omega
    simp -implicitDefEqProofs only [bA,b23_8,if_true,t23k23_6_eq]
    unfold t23k23_6
    simp -implicitDefEqProofs only [i8,af,ay]
    have full:D.ar<aG vals∨J.known=18446744073709551615→RwPost g d j D J vals (some (.tuple #[.slice none 0 0,.int .i64 8],g)):=by
     intro hf
     have hrw:J.rewrite D vals=(8,D,J,[]):=by unfold Jn.rewrite;rw [hl,hany,if_neg (by decide),if_neg (by decide),if_pos hf]
     unfold RwPost
     rw [hrw]
     exact ⟨_,g,rfl,x,rfl,rfl,xj,Kept.refl _ _,cw.nil _ _ _⟩
    by_cases hf:D.ar<aG vals
    ·simp -implicitDefEqProofs only [decide_eq_true hf,sf,aF,af,if_true]
     exact full (.inl hf)
    ·have hkeq:bin Try.prog .eql 58 (.int .u64 (J.known:Int)) (.int .u64 18446744073709551615)=some (.bool (J.known==18446744073709551615)):=by
      rw [eU]
      exact congrArg (fun q=>some (Value.bool q)) (int_beq J.known 18446744073709551615)
     simp -implicitDefEqProofs only [decide_eq_false hf,beq_self_eq_true,aA,af,i0,aJ,aj,ax,Nat.zero_add,xj.l5,hkeq,Bool.false_eq_true,if_false]
     by_cases hkm:J.known=18446744073709551615
     ·have:(J.known==18446744073709551615)=true:=by rw [hkm];rfl
      simp -implicitDefEqProofs only [this]
      exact full (.inr hkm)
     ·have hkf:(J.known==18446744073709551615)=false:=beq_eq_false_iff_ne.2 hkm
      have hkb:=ok.known
      have hkn:J.known<18446744073709551615:=by omega
      have hinc:bin Try.prog .add 58 (.int .u64 (J.known:Int)) (.int .u64 1)=some (.int .u64 ((J.known+1:Nat):Int)):=by
       rw [dL,eQ (by omega) (by omega),Int.natCast_add];rfl
      have oA:Old g (g.alloc []):=Kept.alloc _ _ _
      have xA:=Old.dk oA x
      have jA:=xj.aC oA (fun h=>h)
      have RA:RecsG (g.alloc []) (rwF j d D) v vals:=R.aC oA (fun _ h=>h.elim)
      have nA:(g.alloc []).next=g.next+1:=ah.aS ..
      have hbsl:cX 1 (.int .i64 0) 0 [] g=some (.slice (some ⟨g.next,0,none⟩) 0 0,g.alloc []):=rfl
      have run : ∀ z:Nat→Value,z 0=ptr j 0→z 81=v→z 82=aq vals.length→z 83=aq 0→z 11=aq J.az→z 12 = .int .i64 J.a9→z 13 = .int .u64 ((J.known+1:Nat):Int)→z 14=aq 0→z 15 = .slice (some ⟨g.next,0,none⟩) 0 0 →
        RwPost g d j D J vals (dD (iter (aI Try.prog CD (partOf Try.f23 [1,1,1,1,1,1,1,1,0,1,0,0])) rounds (aY 151 z) (g.alloc [])) (au Try.prog Try.f23.results.toList) (b23_18 CD)):=by
       intro z z0 z81 z82 z83 z11 z12 z13 z14 z15
       refine cn (Q:=fun (o:Out)=>RwPost g d j D J vals o)
        (cg (t23l23_11111111010_eq CD) (rw_round x xj h2 R hlen J.gl (by omega) (by omega) h20) vals.length (by have:rounds=18446744073709551616:=rfl;omega)
         ⟨0,D,[],Nat.zero_add _,z0,z81,z82,z83,z11,z12,z13,by rw [z14];rfl,rfl,by rw [z15];exact cw.empty _ (Nat.le_refl _),xA,rfl,rfl,Kept.alloc _ _ _,by rw [List.drop_zero];rfl⟩) ?_
       rintro ex w q ⟨p1,p2,p3,p4,⟨rfl,p5,p6,p7⟩|⟨rfl,p5,p6,p7,p8,p9,p10,p11,p12,p13⟩⟩
       ·have hrw:J.rewrite D vals=((Dk.bL J.az (J.known+1) vals 0 D []).1,(Dk.bL J.az (J.known+1) vals 0 D []).2.1,J,[]):=by
         unfold Jn.rewrite
         rw [hl,hany,if_neg (by decide),if_neg (by decide),if_neg (by omega),if_neg p7]
        unfold RwPost
        rw [hrw]
        refine ⟨_,q,?_,p1,p2,p3,xj.aC p4 (fun h=>h.elim (xj.ne_d x) (xj.ne_bb x)),dX.jd p4,cw.nil _ _ _⟩
        show au Try.prog Try.f23.results.toList (aY 151 w) q=_
        rw [res23,p5,p6]
       ·simp -implicitDefEqProofs only [bA,b23_18,if_true,t23k23_16_eq]
        exact rw_end x xj hl h20 (by omega) hkn p5 p6 p7 p8 p11 p9 p1 p2 p3 p4 p13 p12
      simp -implicitDefEqProofs only [hkf,af,i0,aJ,aj,ax,Nat.zero_add,xj.l5,hinc,xj.l2,eR]
      by_cases hsl:0≤J.slot
      ·have hna:J.az=1-J.ak:=by unfold Jn.az;rw [if_pos hsl]
       have hns:J.a9=1-J.slot:=by unfold Jn.a9;rw [if_pos hsl]
       have s1:bin Try.prog .sub 3 (.int .i64 1) (aq J.ak)=some (aq J.az):=by rw [hna];exact sub3 (a:=1) xj.ak (by omega)
       have s2:bin Try.prog .sub 3 (.int .i64 1) (.int .i64 J.slot)=some (.int .i64 J.a9):=by
        have:=ok.slot
        rw [gZ,bD (by omega) (by omega),hns]
       have hd:decide (J.slot≥0)=true:=decide_eq_true hsl
       simp -implicitDefEqProofs only [hd,af,i0,aJ,aj,ax,Nat.zero_add,xj.l3,xj.l2,s1,s2,hbsl,i1,R.len]
       exact run _ i0 rfl rfl rfl rfl rfl rfl rfl rfl
      ·have hna:J.az=0:=by unfold Jn.az;rw [if_neg hsl]
       have hns:J.a9=0:=by unfold Jn.a9;rw [if_neg hsl]
       have hd:decide (J.slot≥0)=false:=decide_eq_false hsl
       simp -implicitDefEqProofs only [hd,af,hbsl,i1,R.len,aj]
       exact run _ i0 rfl rfl rfl (by rw [hna];rfl) (by rw [hns];rfl) rfl rfl rfl
 unfold RwPost at key ⊢
 obtain ⟨pv,h',e,f⟩:=key
 exact ⟨pv,h',aO is23 rfl ((t23_eq _ _ _ _).trans e),f⟩
end
end Go.Proofs.Ytcmfgmhadeeieaa

namespace Go.Proofs.Ytcmfgmhadeeieaa
open Go Go.Abs
theorem be_cons (x:Nat) : ∀ l:List Nat,be (x::l)=x*256^l.length+be l:=by
 have key : ∀ (l:List Nat) (a:Nat),l.foldl (fun v x=>v*256+x) a=a*256^l.length+be l:=by
  intro l
  induction l with
  |nil=>intro a;simp [be]
  |cons y l ih=>
   intro a
   have e1:be (y::l)=l.foldl (fun v x=>v*256+x) (0*256+y):=rfl
   rw [List.foldl_cons,ih,e1,ih,List.length_cons,Nat.pow_succ,Nat.add_mul,Nat.zero_mul,Nat.zero_add,Nat.mul_assoc,Nat.mul_comm 256,Nat.add_assoc]
 intro l
 have e1:be (x::l)=l.foldl (fun v x=>v*256+x) (0*256+x):=rfl
 rw [e1,key,Nat.zero_mul,Nat.zero_add]
theorem be_beB : ∀ n v,be (fN n v)=v%256^n
 | 0,v=>by simp [fN,be,Nat.mod_one]
 |n+1,v=>by
  rw [fN,be_cons,bm,be_beB n v,Nat.mod_pow_succ,Nat.mul_comm,Nat.add_comm]
theorem gQ {n v:Nat} (h:v<256^n):be (fN n v)=v:=by rw [be_beB,Nat.mod_eq_of_lt h]
theorem field {A F X:List Nat} {n m:Nat} (hA:A.length=n) (hF:F.length=m):((A++(F++X)).drop n).take m=F:=by
 rw [List.drop_left' hA,List.take_left' hF]
theorem right_seal {l:List Nat} (hb : ∀ x∈l,x<256):right (gX l)=true:=by
 have hb2 : ∀ x∈l++List.replicate (124-l.length) 0,x<256:=by
  intro x hx
  rcases List.mem_append.1 hx with hx|hx
  ·exact hb x hx
  ·rw [List.eq_of_mem_replicate hx];decide
 have hc:=crcN_lt hb2
 unfold right gX
 rw [List.take_left' (bm 4 _),List.drop_left' (bm 4 _),gQ (by omega)]
 exact beq_self_eq_true _
section
variable {gen at_ part parts:Nat} {data:List Nat} (hg:gen<18446744073709551616) (hat:at_<4294967296) (hp:part<65536) (hps:parts<65536) (hd:data.length≤106) (hb : ∀ x∈data,x<256)
theorem logBody_byte (hb : ∀ x∈data,x<256) : ∀ x∈fR gen at_ part parts data,x<256:=by
 intro x hx
 simp only [fR,List.mem_append] at hx
 rcases hx with ((((hx|hx)|hx)|hx)|hx)|hx
 ·exact gW _ _ x hx
 ·exact gW _ _ x hx
 ·exact gW _ _ x hx
 ·exact gW _ _ x hx
 ·exact gW _ _ x hx
 ·exact hb x hx
theorem gH (gen at_ part parts:Nat) (data:List Nat) : ∃ C Z:List Nat,C.length=4∧cS gen at_ part parts data=C++(fN 8 gen++(fN 4 at_++(fN 2 part++(fN 2 parts++(fN 2 data.length++(data++Z)))))):=by
 refine ⟨fN 4 (crcN (fR gen at_ part parts data++List.replicate (124-(fR gen at_ part parts data).length) 0)),List.replicate (124-(fR gen at_ part parts data).length) 0,bm 4 _,?_⟩
 simp only [cS,gX,fR,List.append_assoc]
theorem logBlk_length (hd:data.length≤106):(cS gen at_ part parts data).length=128:=sealB_length (by rw [logBody_length];omega)
theorem right_log (hb : ∀ x∈data,x<256):right (cS gen at_ part parts data)=true:=right_seal (logBody_byte hb)
include hg in
theorem logGen_log:bG (cS gen at_ part parts data)=gen:=by
 obtain ⟨C,Z,hC,e⟩:=gH gen at_ part parts data
 unfold bG
 rw [e,field hC (bm 8 _),gQ (by omega)]
include hat in
theorem logPlace_log:iM (cS gen at_ part parts data)=at_:=by
 obtain ⟨C,Z,hC,e⟩:=gH gen at_ part parts data
 unfold iM
 rw [e,←List.append_assoc,field (by rw [List.length_append,hC,bm]) (bm 4 _),gQ (by omega)]
include hp in
theorem logPart_log:bz (cS gen at_ part parts data)=part:=by
 obtain ⟨C,Z,hC,e⟩:=gH gen at_ part parts data
 unfold bz
 rw [e,←List.append_assoc,←List.append_assoc,field (by simp only [List.length_append,hC,bm]) (bm 2 _),gQ (by omega)]
include hps in
theorem iH:aP (cS gen at_ part parts data)=parts:=by
 obtain ⟨C,Z,hC,e⟩:=gH gen at_ part parts data
 unfold aP
 rw [e,←List.append_assoc,←List.append_assoc,←List.append_assoc,field (by simp only [List.length_append,hC,bm]) (bm 2 _),gQ (by omega)]
include hd in
theorem logSize_log:cx (cS gen at_ part parts data)=data.length:=by
 obtain ⟨C,Z,hC,e⟩:=gH gen at_ part parts data
 unfold cx
 rw [e,←List.append_assoc,←List.append_assoc,←List.append_assoc,←List.append_assoc,field (by simp only [List.length_append,hC,bm]) (bm 2 _),gQ (by omega)]
include hd in
theorem logData_log:logData (cS gen at_ part parts data)=data:=by
 have hs:=logSize_log (gen:=gen) (at_:=at_) (part:=part) (parts:=parts) hd
 obtain ⟨C,Z,hC,e⟩:=gH gen at_ part parts data
 unfold logData
 rw [hs,if_pos hd,e,←List.append_assoc,←List.append_assoc,←List.append_assoc,←List.append_assoc,←List.append_assoc,field (by simp only [List.length_append,hC,bm]) rfl]
include hat hp hps hd hb in
theorem logOk_log (at2:Nat) (h1:1≤parts) (h2:part<parts):db at2 (cS gen at_ part parts data)=(at_==at2):=by
 unfold db
 rw [right_log hb,logPlace_log hat,iH hps,logPart_log hp,logSize_log hd,decide_eq_true h1,decide_eq_true h2,decide_eq_true hd]
 simp
end
theorem superBody_byte (gen ak:Nat) : ∀ x∈dO gen ak,x<256:=by
 intro x hx
 simp only [dO,List.mem_append] at hx
 rcases hx with (hx|hx)|hx
 ·exact gW _ _ x hx
 ·exact gW _ _ x hx
 ·exact gW _ _ x hx
theorem superBlk_length (gen ak:Nat):(bV gen ak).length=128:=sealB_length (by simp [dO,bm])
theorem superBlk_parts (gen ak:Nat) : ∃ C Z:List Nat,C.length=4∧bV gen ak=C++(fN 4 1398034252++(fN 8 gen++(fN 1 ak++Z))):=by
 refine ⟨fN 4 (crcN (dO gen ak++List.replicate (124-(dO gen ak).length) 0)),List.replicate (124-(dO gen ak).length) 0,bm 4 _,?_⟩
 simp only [bV,gX,dO,List.append_assoc]
theorem superGen_super {gen ak:Nat} (hg:gen<18446744073709551616):bc (bV gen ak)=gen:=by
 obtain ⟨C,Z,hC,e⟩:=superBlk_parts gen ak
 unfold bc
 rw [e,←List.append_assoc,field (by simp only [List.length_append,hC,bm]) (bm 8 _),gQ (by omega)]
theorem superArea_super {gen ak:Nat} (ha:ak≤1):cW (bV gen ak)=ak:=by
 obtain ⟨C,Z,hC,e⟩:=superBlk_parts gen ak
 unfold cW
 rw [e,←List.append_assoc,←List.append_assoc,field (by simp only [List.length_append,hC,bm]) (bm 1 _),gQ (by omega)]
theorem superOk_super {gen ak:Nat} (ha:ak≤1):bB (bV gen ak)=true:=by
 have h1:=superArea_super (gen:=gen) ha
 obtain ⟨C,Z,hC,e⟩:=superBlk_parts gen ak
 unfold bB
 rw [show right (bV gen ak)=true from right_seal (superBody_byte gen ak),h1,decide_eq_true ha,e,field hC (bm 4 _),gQ (by decide)]
 rfl
theorem right_zero:right (List.replicate 128 0)=false:=by kernel_rfl
theorem iW:bB (List.replicate 128 0)=false:=by unfold bB;rw [right_zero];rfl
theorem logOk_zero (at_:Nat):db at_ (List.replicate 128 0)=false:=by unfold db;rw [right_zero];rfl
theorem chunks (r:List Nat):(List.range (aQ r.length)).flatMap (chunk r)=r:=by
 have key : ∀ k,(List.range k).flatMap (chunk r)=r.take (106*k):=by
  intro k
  induction k with
  |zero=>simp
  |succ k ih=>
   rw [List.range_succ,List.flatMap_append,ih]
   simp only [List.flatMap_cons,List.flatMap_nil,List.append_nil,chunk]
   rw [Nat.mul_succ,List.take_add]
 rw [key,List.take_of_length_le (costN_room _)]
def Dk.dY (D:Dk) (ak gen at_:Nat) (r:List Nat):Prop := ∀ i,i<aQ r.length→D.jb ak (at_+i)=cS gen (at_+i) i (aQ r.length) (chunk r i)
theorem chunk_byte {r:List Nat} (hb : ∀ x∈r,x<256) (i:Nat) : ∀ x∈chunk r i,x<256:=fun x hx=>hb x (List.mem_of_mem_drop (List.mem_of_mem_take hx))
theorem Dk.placed_stands {D:Dk} {ak gen at_:Nat} {r:List Nat} (p:D.dY ak gen at_ r) (hg:gen<18446744073709551616) (hr:r.length≤20000) (hb : ∀ x∈r,x<256) (hfit:at_+aQ r.length≤D.ar) (har:D.ar≤4096) :
  D.bg ak gen at_=true∧D.parts ak at_=aQ r.length∧D.data ak at_ (aQ r.length)=r:=by
 have hc:=fj (n:=r.length) (by omega)
 have hp:=fm r.length
 have h0:=p 0 (by omega)
 have hparts:D.parts ak at_=aQ r.length:=by
  unfold Dk.parts
  rw [Nat.add_zero] at h0
  rw [h0,iH (by omega)]
 refine ⟨?_,hparts,?_⟩
 ·unfold Dk.bg
  rw [hparts,decide_eq_true hfit,decide_eq_true hp,Bool.true_and,Bool.true_and,List.all_eq_true]
  intro i hi
  have hi:=List.mem_range.1 hi
  unfold Dk.part
  have hcl:=iR r i
  rw [p i hi,logOk_log (by omega) (by omega) (by omega) hcl (chunk_byte hb i) _ hp hi,logGen_log hg,logPart_log (by omega),iH (by omega)]
  simp
 ·unfold Dk.data
  have:(List.range (aQ r.length)).flatMap (fun i=>logData (D.jb ak (at_+i)))=(List.range (aQ r.length)).flatMap (chunk r):=by
   have hcong : ∀ (l:List Nat) (f g:Nat→List Nat),(∀ i∈l,f i=g i)→l.flatMap f=l.flatMap g:=by
    intro l f g
    induction l with
    |nil=>intro _;rfl
    |cons a l ih=>
     intro h
     rw [List.flatMap_cons,List.flatMap_cons,h a List.mem_cons_self,ih (fun i hi=>h i (List.mem_cons_of_mem _ hi))]
   refine hcong _ _ _ (fun i hi => ?_)
   rw [p i (List.mem_range.1 hi),logData_log (iR r i)]
  rw [this,chunks]
structure Alike (D E:Dk):Prop where
 bb:E.bb=D.bb
 n:E.n=D.n
 down:E.down=D.down
 ca:E.ca=D.ca
 aU:E.aU=D.aU
 len:E.aW.length=D.aW.length
theorem Alike.refl (D:Dk):Alike D D:=⟨rfl,rfl,rfl,rfl,rfl,rfl⟩
theorem Alike.trans {A B C:Dk} (a:Alike A B) (b:Alike B C):Alike A C:=⟨b.bb.trans a.bb,b.n.trans a.n,b.down.trans a.down,b.ca.trans a.ca,b.aU.trans a.aU,b.len.trans a.len⟩
theorem Alike.ar {D E:Dk} (a:Alike D E):E.ar=D.ar:=by unfold Dk.ar;rw [a.n]
theorem write_up {D:Dk} (hlen:D.aW.length=128*D.n) (hd:D.down=false) (ha:D.ca=false) {i:Nat} (hi:i<D.n) {l:List Nat} (hl:l.length=128) :
  D.write (i:Int) l=(0,D.lay (i:Int) l)∧Alike D (D.lay (i:Int) l) ∧ ∀ k,k<D.n→(D.lay (i:Int) l).aX k=if k=i then l else D.aX k:=by
 refine ⟨?_,⟨rfl,rfl,rfl,rfl,rfl,?_⟩,?_⟩
 ·have hf:D.fault (i:Int)=0:=by
   unfold Dk.fault
   rw [hd,if_neg (by simp),if_neg (by omega)]
  unfold Dk.write
  rw [if_pos hf,if_pos hl,ha,if_neg (by simp)]
 ·unfold Dk.lay
  exact eP (by rw [Int.toNat_natCast];omega)
 ·intro k hk
  unfold Dk.lay Dk.aX
  simp only [Int.toNat_natCast]
  apply List.ext_getElem?
  intro q
  by_cases hq:q<128
  ·rw [List.getElem?_take,if_pos hq,List.getElem?_drop,eu (by omega)]
   by_cases hki:k=i
   ·subst hki
    rw [if_pos rfl,if_pos (by omega),Nat.add_sub_cancel_left]
   ·rw [if_neg hki,if_neg (by omega),List.getElem?_take,if_pos hq,List.getElem?_drop]
  ·rw [List.getElem?_take,if_neg hq]
   split
   ·rw [List.getElem?_eq_none (by omega)]
   ·rw [List.getElem?_take,if_neg hq]
end Go.Proofs.Ytcmfgmhadeeieaa

namespace Go.Proofs.Ytcmfgmhadeeieaa
open Go Go.Abs
structure Up (D:Dk):Prop where
 len:D.aW.length=128*D.n
 down:D.down=false
 ca:D.ca=false
theorem Up.alike {D E:Dk} (u:Up D) (a:Alike D E):Up E:=⟨by rw [a.len,a.n,u.len],a.down.trans u.down,a.ca.trans u.ca⟩
theorem Dk.fA (D:Dk) {ak:Nat} (ha:ak≤1) (h1:1≤D.ar):2+ak*D.ar+D.ar≤D.n:=by
 have har:D.ar=(D.n-2)/2:=rfl
 have hm:ak*D.ar≤D.ar:=by
  have:=Nat.mul_le_mul_right D.ar ha
  omega
 omega
theorem wr_up (ak gen at_ parts:Nat) (r:List Nat) : ∀ (k i:Nat) (D:Dk),Up D→2+ak*D.ar+at_+i+k≤D.n →
  ∃ E,Dk.wr ak gen at_ parts r k i D=(0,E)∧Alike D E ∧ ∀ b,b<D.n→E.aX b=if 2+ak*D.ar+at_+i≤b∧b<2+ak*D.ar+at_+i+k then cS gen (b-(2+ak*D.ar)) (b-(2+ak*D.ar+at_)) parts (chunk r (b-(2+ak*D.ar+at_))) else D.aX b
 | 0,i,D,_,_=>⟨D,rfl,.refl D,fun b _=>by rw [if_neg (by omega)]⟩
 |k+1,i,D,u,h=>by
  obtain ⟨w1,w2,w3⟩:=write_up u.len u.down u.ca (i:=2+ak*D.ar+at_+i) (by omega) (l:=cS gen (at_+i) i parts (chunk r i)) (logBlk_length (iR r i))
  obtain ⟨E,e1,e2,e3⟩:=wr_up ak gen at_ parts r k (i+1) _ (u.alike w2) (by rw [w2.ar,w2.n];omega)
  refine ⟨E,?_,w2.trans e2,?_⟩
  ·rw [Dk.wr,w1,if_pos rfl]
   exact e1
  ·intro b hb
   rw [e3 b (by rw [w2.n];exact hb),w2.ar,w3 b hb]
   generalize ak*D.ar=q
   by_cases hbi:b=2+q+at_+i
   ·subst hbi
    rw [if_neg (by omega),if_pos rfl,if_pos (by omega),show 2+q+at_+i-(2+q)=at_+i by omega,show 2+q+at_+i-(2+q+at_)=i by omega]
   ·rw [if_neg hbi]
    by_cases hin:2+q+at_+i≤b∧b<2+q+at_+i+(k+1)
    ·rw [if_pos hin,if_pos (by omega)]
    ·rw [if_neg hin,if_neg (by omega)]
theorem wrRec_up {D:Dk} (u:Up D) {ak gen at_:Nat} {r:List Nat} (ha:ak≤1) (hfit:at_+aQ r.length≤D.ar) :
  ∃ E,D.bU ak gen at_ r=(0,E)∧Alike D E∧E.dY ak gen at_ r ∧ ∀ b,b<D.n→(b<2+ak*D.ar+at_∨2+ak*D.ar+at_+aQ r.length≤b)→E.aX b=D.aX b:=by
 have hp:=fm r.length
 have hin:=D.fA ha (by omega)
 obtain ⟨E,e1,e2,e3⟩:=wr_up ak gen at_ (aQ r.length) r (aQ r.length) 0 D u (by omega)
 refine ⟨E,e1,e2,?_,?_⟩
 ·intro i hi
  unfold Dk.jb
  rw [e2.ar,e3 _ (by omega)]
  generalize ak*D.ar=q at *
  rw [if_pos (by omega),show 2+q+(at_+i)-(2+q)=at_+i by omega,show 2+q+(at_+i)-(2+q+at_)=i by omega]
 ·intro b hb ho
  rw [e3 b hb,if_neg (by omega)]
def ee:List (List Nat)→Nat→List (Nat×List Nat)
 | [],_ => []
 |r::rs,at_=>(at_,r)::ee rs (at_+aQ r.length)
theorem cO (r:List Nat) (rs:List (List Nat)):aG (r::rs)=aQ r.length+aG rs:=by simp [aG]
theorem fw:aG []=0:=rfl
theorem recsTot_append (a b:List (List Nat)):aG (a++b)=aG a+aG b:=by simp [aG]
theorem layR_append : ∀ (a b:List (List Nat)) (at_:Nat),ee (a++b) at_=ee a at_++ee b (at_+aG a)
 | [],b,at_=>rfl
 |r::rs,b,at_=>by
  rw [List.cons_append,ee,layR_append rs b,ee,cO,Nat.add_assoc];rfl
theorem layR_snd : ∀ (a:List (List Nat)) (at_:Nat),(ee a at_).map (·.2)=a
 | [],_=>rfl
 |r::rs,at_=>by rw [ee,List.map_cons,layR_snd rs]
theorem iy : ∀ (a:List (List Nat)) (at_:Nat) (e:Nat×List Nat),e∈ee a at_→at_≤e.1∧e.1+aQ e.2.length≤at_+aG a∧e.2∈a
 | [],_,e,h=>by simp [ee] at h
 |r::rs,at_,e,h=>by
  rw [ee,List.mem_cons] at h
  rw [cO]
  rcases h with rfl|h
  ·exact ⟨Nat.le_refl _,by show at_+aQ r.length≤_;omega,List.mem_cons_self⟩
  ·have:=iy rs _ e h
   exact ⟨by omega,by omega,List.mem_cons_of_mem _ this.2.2⟩
theorem Dk.dY.aC {D E:Dk} {ak gen at_:Nat} {r:List Nat} (p:D.dY ak gen at_ r) (har:E.ar=D.ar) (h : ∀ i,i<aQ r.length→E.aX (2+ak*D.ar+(at_+i))=D.aX (2+ak*D.ar+(at_+i))):E.dY ak gen at_ r:=by
 intro i hi
 have:=p i hi
 unfold Dk.jb at this ⊢
 rw [har,h i hi,this]
theorem rwAll_up {ak gen:Nat} (ha:ak≤1) : ∀ (vals:List (List Nat)) (at_:Nat) (D:Dk) (ps:List Nat),Up D→at_+aG vals≤D.ar →
  ∃ E,Dk.bL ak gen vals at_ D ps=(0,E,at_+aG vals,ps++(ee vals at_).map (·.1))∧Alike D E∧(∀ e∈ee vals at_,E.dY ak gen e.1 e.2) ∧
    ∀ b,b<D.n→(b<2+ak*D.ar+at_∨2+ak*D.ar+at_+aG vals≤b)→E.aX b=D.aX b
 | [],at_,D,ps,_,_=>⟨D,by simp [Dk.bL,ee,fw],.refl D,by simp [ee],fun _ _ _=>rfl⟩
 |r::rs,at_,D,ps,u,hfit=>by
  rw [cO] at hfit
  obtain ⟨E,e1,e2,e3,e4⟩:=wrRec_up u (gen:=gen) (at_:=at_) (r:=r) ha (by omega)
  obtain ⟨F,f1,f2,f3,f4⟩:=rwAll_up (gen:=gen) ha rs (at_+aQ r.length) E (ps ++ [at_]) (u.alike e2) (by rw [e2.ar];omega)
  have hp:=fm r.length
  have hin:=D.fA ha (by omega)
  rw [e2.ar,e2.n] at f4
  refine ⟨F,?_,e2.trans f2,?_,?_⟩
  ·rw [Dk.bL,e1,if_pos rfl,f1,cO,ee,List.map_cons,List.append_assoc,Nat.add_assoc];rfl
  ·intro e he
   rw [ee,List.mem_cons] at he
   rcases he with rfl|he
   ·refine e3.aC f2.ar (fun i hi => ?_)
    have hi:i<aQ r.length:=hi
    rw [e2.ar]
    exact f4 _ (by omega) (.inl (by omega))
   ·exact f3 e he
  ·intro b hb ho
   rw [cO] at ho
   rw [f4 b hb (by omega),e4 b hb (by omega)]
def Dk.noB (D:Dk) (ak gen at_:Nat):Prop:=db at_ (D.jb ak at_)=false∨bG (D.jb ak at_)≠gen∨bz (D.jb ak at_)≠0
theorem Dk.noB.bg {D:Dk} {ak gen at_:Nat} (h:D.noB ak gen at_):D.bg ak gen at_=false:=by
 refine Dk.iw (i:=0) (by omega) ?_
 unfold Dk.part
 rw [Nat.add_zero]
 rcases h with h|h|h
 ·rw [h];rfl
 ·rw [beq_eq_false_iff_ne.2 h];simp
 ·rw [beq_eq_false_iff_ne.2 h];simp
theorem ents_skip {D:Dk} {J:Jn} : ∀ (m at_ k:Nat),(∀ i,i<m→at_+i<D.ar→D.bg J.ak J.gen (at_+i)=false)→D.ar≤at_+k → ∃ k',D.ar≤at_+m+k'∧D.dC J k at_=D.dC J k' (at_+m)
 | 0,at_,k,_,hk=>⟨k,hk,rfl⟩
 |m+1,at_,k,h,hk=>by
  by_cases hat:at_<D.ar
  ·obtain ⟨k0,rfl⟩ : ∃ k0,k=k0+1:=⟨k-1,by omega⟩
   have hs:J.bg D at_=false:=by
    rw [Jn.gu hat]
    have:=h 0 (by omega) hat
    rw [Nat.add_zero] at this
    rw [this,Bool.and_false]
   obtain ⟨k',h1,h2⟩:=ents_skip (D:=D) (J:=J) m (at_+1) k0 (fun i hi hai=>by have:=h (i+1) (by omega) (by omega);rw [show at_+1+i=at_+(i+1) by omega];exact this) (by omega)
   refine ⟨k',by omega,?_⟩
   rw [Dk.dC,if_pos hat,hs,if_neg (by decide),h2,show at_+1+m=at_+(m+1) by omega]
  ·exact ⟨0,by omega,by rw [Dk.ents_end (by omega),Dk.ents_end (by omega)]⟩
theorem ents_lay {D:Dk} {J:Jn} (hs:0≤J.slot) (hg:J.gen<18446744073709551616) (har:D.ar≤4096) (bad:Nat×List Nat→Bool) : ∀ (aT:List (List Nat)) (at_ k:Nat),(∀ r∈aT,r.length≤20000 ∧ ∀ x∈r,x<256)→at_+aG aT≤D.ar→D.ar≤at_+k →
  (∀ e∈ee aT at_,bad e=false→D.dY J.ak J.gen e.1 e.2)→(∀ e∈ee aT at_,bad e=true → ∀ i,i<aQ e.2.length→D.bg J.ak J.gen (e.1+i)=false)→(∀ p,at_+aG aT≤p→p<D.ar→D.bg J.ak J.gen p=false) →
  D.dC J k at_=(ee aT at_).filter fun e => !bad e
 | [],at_,k,hr,hf,hk,h1,h2,h3=>by
   obtain ⟨k',_,e2⟩:=ents_skip (J:=J) (D.ar-at_) at_ k (fun i hi _=>h3 _ (by rw [fw];omega) (by omega)) hk
   rw [e2,Dk.ents_end (by omega)];rfl
 |r::rs,at_,k,hr,hf,hk,h1,h2,h3=>by
  rw [cO] at hf h3
  have hp:=fm r.length
  obtain ⟨hr1,hr2⟩:=hr r List.mem_cons_self
  have ih : ∀ k',D.ar≤at_+aQ r.length+k'→D.dC J k' (at_+aQ r.length)=(ee rs (at_+aQ r.length)).filter fun e => !bad e:=fun k' hk'=>
   ents_lay hs hg har bad rs _ k' (fun r' h'=>hr r' (List.mem_cons_of_mem _ h')) (by omega) hk' (fun e he=>h1 e (by rw [ee];exact List.mem_cons_of_mem _ he)) (fun e he=>h2 e (by rw [ee];exact List.mem_cons_of_mem _ he)) (fun p hp1 hp2=>h3 p (by omega) hp2)
  have hm:(at_,r)∈ee (r::rs) at_:=by rw [ee];exact List.mem_cons_self
  cases hb:bad (at_,r) with
  |true=>
   obtain ⟨k',e1,e2⟩:=ents_skip (J:=J) (aQ r.length) at_ k (fun i hi _=>h2 _ hm hb i hi) hk
   rw [e2,ih k' e1,ee,List.filter_cons,hb];rfl
  |false=>
   obtain ⟨k0,rfl⟩ : ∃ k0,k=k0+1:=⟨k-1,by omega⟩
   obtain ⟨s1,s2,s3⟩:=Dk.placed_stands (h1 _ hm hb) hg hr1 hr2 (by show at_+aQ r.length≤_;omega) har
   have hst:J.bg D at_=true:=by rw [Jn.gu (by omega),show D.bg J.ak J.gen at_=true from s1,decide_eq_true hs];rfl
   have s2:D.parts J.ak at_=aQ r.length:=s2
   have s3:D.data J.ak at_ (aQ r.length)=r:=s3
   rw [Dk.dC,if_pos (by omega),hst,if_pos rfl,s2,s3,ih k0 (by omega),ee,List.filter_cons,hb];rfl
end Go.Proofs.Ytcmfgmhadeeieaa

namespace Go.Proofs.Ytcmfgmhadeeieaa
open Go Go.Abs
def Jn.un (J:Jn):Jn:={ J with known:=0 }
theorem Jn.seeLog_un (D:Dk) (s at_:Nat) (J:Jn):(J.eZ D s at_).un=J.un:=by unfold Jn.eZ;split<;>rfl
theorem Jn.seeLogs_un (D:Dk) (s:Nat) : ∀ k at_ J,(Jn.dx D s k at_ J).un=J.un
 | 0,_,_=>rfl
 |k+1,at_,J=>by rw [Jn.dx,Jn.seeLogs_un D s k,Jn.seeLog_un]
theorem Jn.takeSuper_un (D:Dk) (s:Nat) (J:Jn):(J.ct D s).un=J.un.ct D s:=by
 have h1:J.un.slot=J.slot:=rfl
 have h2:J.un.gen=J.gen:=rfl
 unfold Jn.ct
 rw [h1,h2]
 split<;>rfl
theorem Jn.seeSlot_un (D:Dk) (s:Nat) (J:Jn):(J.dV D s).un=if bB (D.aX s)=true then J.un.ct D s else J.un:=by
 unfold Jn.dV
 rw [Jn.seeLogs_un]
 unfold Jn.eE
 split
 ·exact Jn.takeSuper_un D s J
 ·rfl
theorem Dk.openJ_un (D:Dk) (t:Int):(D.cz t).un=if bB (D.aX 1)=true then (if bB (D.aX 0)=true then (D.jn0 t).ct D 0 else D.jn0 t).ct D 1 else if bB (D.aX 0)=true then (D.jn0 t).ct D 0 else D.jn0 t:=by
 unfold Dk.cz
 rw [Jn.seeSlot_un,Jn.seeSlot_un];rfl
theorem Dk.jn0_take (D:Dk) (t:Int) (s:Nat):(D.jn0 t).ct D s={ aU:=t,slot:=s,ak:=cW (D.aX s),gen:=bc (D.aX s),known:=0,ready:=false,fin:=0 }:=by
 unfold Jn.ct
 rw [if_pos (.inl (show (-1:Int)<0 by decide))]
 rfl
structure Sup (D:Dk) (slot ak gen:Nat):Prop where
 s:slot≤1
 ok:bB (D.aX slot)=true
 g:bc (D.aX slot)=gen
 a:cW (D.aX slot)=ak
 other:bB (D.aX (1-slot))=true→bc (D.aX (1-slot))<gen
theorem Sup.cz {D:Dk} {slot ak gen:Nat} (p:Sup D slot ak gen) (t:Int):(D.cz t).un={ aU:=t,slot:=slot,ak:=ak,gen:=gen,known:=0,ready:=false,fin:=0 }:=by
 obtain ⟨s,ok,g,a,other⟩:=p
 rw [Dk.openJ_un]
 obtain rfl|rfl:slot=0∨slot=1:=by omega
 ·have other:bB (D.aX 1)=true→bc (D.aX 1)<gen:=other
  rw [if_pos ok,Dk.jn0_take,g,a]
  split
  ·rename_i h1
   have:=other h1
   unfold Jn.ct
   rw [if_neg]
   show ¬(((0:Nat):Int)<0∨gen<bc (D.aX 1))
   omega
  ·rfl
 ·have other:bB (D.aX 0)=true→bc (D.aX 0)<gen:=other
  rw [if_pos ok]
  split
  ·rename_i h0
   have:=other h0
   rw [Dk.jn0_take]
   unfold Jn.ct
   rw [if_pos (.inr (by show bc (D.aX 0)<bc (D.aX 1);omega)),g,a]
  ·rw [Dk.jn0_take,g,a]
theorem Dk.openJ_none {D:Dk} (h0:bB (D.aX 0)=false) (h1:bB (D.aX 1)=false) (t:Int):(D.cz t).un=D.jn0 t:=by
 rw [Dk.openJ_un,h0,h1];rfl
structure fI (D:Dk) (B:Nat):Prop where
 logs : ∀ s,s≤1 → ∀ p,p<D.ar→db p (D.jb s p)=true→bG (D.jb s p)≤B
 sups : ∀ s,s≤1→bB (D.aX s)=true→bc (D.aX s)≤B
theorem Jn.seeLogs_known (D:Dk) (s:Nat) : ∀ k at_ J,J.known≤(Jn.dx D s k at_ J).known∧(∀ p,at_≤p→p<at_+k→db p (D.jb s p)=true→bG (D.jb s p)≤(Jn.dx D s k at_ J).known) ∧
  ∀ B,J.known≤B→(∀ p,at_≤p→p<at_+k→db p (D.jb s p)=true→bG (D.jb s p)≤B)→(Jn.dx D s k at_ J).known≤B
 | 0,at_,J=>⟨Nat.le_refl _,fun p h1 h2=>by omega,fun _ h _=>h⟩
 |k+1,at_,J=>by
  obtain ⟨i1,i2,i3⟩:=Jn.seeLogs_known D s k (at_+1) (J.eZ D s at_)
  have hj:(J.eZ D s at_).known=if db at_ (D.jb s at_)=true then max J.known (bG (D.jb s at_)) else J.known:=by
   unfold Jn.eZ
   split<;>rfl
  refine ⟨?_,?_,?_⟩
  ·show J.known≤(Jn.dx D s k (at_+1) (J.eZ D s at_)).known
   refine Nat.le_trans ?_ i1
   rw [hj]
   split<;>omega
  ·intro p h1 h2 h3
   show _≤(Jn.dx D s k (at_+1) (J.eZ D s at_)).known
   by_cases hp:p=at_
   ·subst hp
    refine Nat.le_trans ?_ i1
    rw [hj,if_pos h3]
    omega
   ·exact i2 p (by omega) (by omega) h3
  ·intro B h1 h2
   refine i3 B ?_ (fun p h3 h4=>h2 p (by omega) (by omega))
   rw [hj]
   split
   ·rename_i h
    have:=h2 at_ (by omega) (by omega) h
    omega
   ·exact h1
theorem Jn.seeSlot_known (D:Dk) (s:Nat) (J:Jn):J.known≤(J.dV D s).known∧(∀ p,p<D.ar→db p (D.jb s p)=true→bG (D.jb s p)≤(J.dV D s).known)∧(bB (D.aX s)=true→bc (D.aX s)≤(J.dV D s).known) ∧
  ∀ B,J.known≤B→(∀ p,p<D.ar→db p (D.jb s p)=true→bG (D.jb s p)≤B)→(bB (D.aX s)=true→bc (D.aX s)≤B)→(J.dV D s).known≤B:=by
 obtain ⟨i1,i2,i3⟩:=Jn.seeLogs_known D s D.ar 0 (J.eE D s)
 have hj:(J.eE D s).known=if bB (D.aX s)=true then max J.known (bc (D.aX s)) else J.known:=by
  unfold Jn.eE
  split<;>rfl
 refine ⟨?_,fun p h1 h2=>i2 p (by omega) (by omega) h2,?_,?_⟩
 ·refine Nat.le_trans ?_ i1
  rw [hj]
  split<;>omega
 ·intro h
  refine Nat.le_trans ?_ i1
  rw [hj,if_pos h]
  omega
 ·intro B h1 h2 h3
  refine i3 B ?_ (fun p _ h5=>h2 p (by omega))
  rw [hj]
  split
  ·rename_i h
   have:=h3 h
   omega
  ·exact h1
theorem Dk.openJ_knows (D:Dk) (t:Int):fI D (D.cz t).known:=by
 obtain ⟨a1,a2,a3,a4⟩:=Jn.seeSlot_known D 0 (D.jn0 t)
 obtain ⟨b1,b2,b3,b4⟩:=Jn.seeSlot_known D 1 ((D.jn0 t).dV D 0)
 refine ⟨?_,?_⟩
 ·intro s hs p hp h
  obtain rfl|rfl:s=0∨s=1:=by omega
  ·exact Nat.le_trans (a2 p hp h) b1
  ·exact b2 p hp h
 ·intro s hs h
  obtain rfl|rfl:s=0∨s=1:=by omega
  ·exact Nat.le_trans (a3 h) b1
  ·exact b3 h
theorem fI.cz {D:Dk} {B:Nat} (k:fI D B) (t:Int):(D.cz t).known≤B:=by
 obtain ⟨a1,a2,a3,a4⟩:=Jn.seeSlot_known D 0 (D.jn0 t)
 obtain ⟨b1,b2,b3,b4⟩:=Jn.seeSlot_known D 1 ((D.jn0 t).dV D 0)
 exact b4 B (a4 B (Nat.zero_le B) (k.logs 0 (by omega)) (k.sups 0 (by omega))) (k.logs 1 (by omega)) (k.sups 1 (by omega))
theorem fI.mono {D:Dk} {B C:Nat} (k:fI D B) (h:B≤C):fI D C:=⟨fun s h1 p h2 h3=>Nat.le_trans (k.logs s h1 p h2 h3) h,fun s h1 h2=>Nat.le_trans (k.sups s h1 h2) h⟩
def Fresh (D:Dk):Prop := ∀ b,b<D.n→D.aX b=List.replicate 128 0
theorem Fresh.gv {D:Dk} (f:Fresh D) (h4:4≤D.n):fI D 0:=by
 refine ⟨fun s hs p hp h => ?_,fun s hs h => ?_⟩
 ·have hin:=D.fA hs (by omega)
  unfold Dk.jb at h
  rw [f _ (by omega),logOk_zero] at h
  cases h
 ·rw [f _ (by omega),iW] at h
  cases h
theorem Fresh.cz {D:Dk} (f:Fresh D) (h4:4≤D.n) (t:Int):D.cz t=D.jn0 t:=by
 have h1:(D.cz t).un=D.jn0 t:=Dk.openJ_none (by rw [f _ (by omega),iW]) (by rw [f _ (by omega),iW]) t
 have h2:(D.cz t).known=0:=by
  have:=(f.gv h4).cz t
  omega
 have h3:D.cz t={ (D.cz t).un with known:=(D.cz t).known }:=rfl
 rw [h3,h1,h2];rfl
theorem Fresh.dC {D:Dk} (J:Jn) (f:Fresh D) (h4:4≤D.n) (ha:J.ak≤1):D.dC J D.ar 0 = []:=by
 obtain ⟨k',_,e2⟩:=ents_skip (D:=D) (J:=J) D.ar 0 D.ar (fun i hi _=>Dk.noB.bg (.inl (by
  have hin:=D.fA ha (by omega)
  unfold Dk.jb
  rw [f _ (by omega),logOk_zero]))) (by omega)
 rw [e2,Dk.ents_end (by omega)]
structure Has (D:Dk) (ak gen:Nat) (aT:List (List Nat)):Prop where
 a:ak≤1
 g:gen<18446744073709551616
 ok : ∀ r∈aT,r.length≤20000 ∧ ∀ x∈r,x<256
 fit:aG aT≤D.ar
 dY : ∀ e∈ee aT 0,D.dY ak gen e.1 e.2
 rest : ∀ p,aG aT≤p→p<D.ar→D.noB ak gen p
theorem Has.dC {D:Dk} {J:Jn} {aT:List (List Nat)} (H:Has D J.ak J.gen aT) (hs:0≤J.slot) (har:D.ar≤4096):D.dC J D.ar 0=ee aT 0:=by
 rw [ents_lay hs H.g har (fun _=>false) aT 0 D.ar H.ok (by have:=H.fit;omega) (by omega) (fun e he _=>H.dY e he) (fun _ _ h=>by cases h) (fun p h1 h2=>(H.rest p (by omega) h2).bg)]
 simp
theorem Has.at {D:Dk} {J:Jn} {aT:List (List Nat)} (H:Has D J.ak J.gen aT) (hs:0≤J.slot) (har:D.ar≤4096) {e:Nat×List Nat} (he:e∈ee aT 0) :
  e.1<D.ar∧J.bg D e.1=true∧D.parts J.ak e.1=aQ e.2.length∧D.data J.ak e.1 (aQ e.2.length)=e.2:=by
 obtain ⟨b1,b2,b3⟩:=iy _ _ _ he
 have hfit:=H.fit
 have hp:=fm e.2.length
 obtain ⟨k1,k2⟩:=H.ok _ b3
 obtain ⟨s1,s2,s3⟩:=Dk.placed_stands (H.dY e he) H.g k1 k2 (by omega) har
 exact ⟨by omega,by rw [Jn.gu (by omega),s1,decide_eq_true hs];rfl,s2,s3⟩
theorem Has.aC {D E:Dk} {ak gen:Nat} {aT:List (List Nat)} (H:Has D ak gen aT) (har:E.ar=D.ar) (h : ∀ p,p<D.ar→E.aX (2+ak*D.ar+p)=D.aX (2+ak*D.ar+p)):Has E ak gen aT:=by
 refine ⟨H.a,H.g,H.ok,har▸H.fit,fun e he => ?_,fun p h1 h2 => ?_⟩
 ·have hb:=iy _ _ _ he
  have:=H.fit
  exact (H.dY e he).aC har (fun i hi=>h _ (by omega))
 ·have hr:=H.rest p h1 (har▸h2)
  unfold Dk.noB Dk.jb at hr ⊢
  rw [har,h p (har▸h2)]
  exact hr
theorem Has.append {D:Dk} {J:Jn} {aT:List (List Nat)} (H:Has D J.ak J.gen aT) (u:Up D) (hl:J.live D=true) (hr:J.ready=true) (hfin:J.fin=aG aT) {r:List Nat} (h20:r.length≤20000) (hb : ∀ x∈r,x<256) (hfit:aG aT+aQ r.length≤D.ar) :
  ∃ E,J.append D r=(0,E,{ J with fin:=J.fin+aQ r.length })∧Alike D E∧Has E J.ak J.gen (aT ++ [r]) ∧ ∀ b,b<2→E.aX b=D.aX b:=by
 obtain ⟨E,e1,e2,e3,e4⟩:=wrRec_up u (gen:=J.gen) (at_:=J.fin) (r:=r) H.a (by omega)
 have hp:=fm r.length
 have hin:=D.fA H.a (by omega)
 have htot:aG (aT ++ [r])=aG aT+aQ r.length:=by rw [recsTot_append,cO,fw];omega
 have hfree:J.free D=D.ar-J.fin:=by unfold Jn.free;rw [hl,hr];rfl
 refine ⟨E,?_,e2,⟨H.a,H.g,?_,by rw [htot,e2.ar];exact hfit,?_,?_⟩,fun b hb=>e4 b (by omega) (by omega)⟩
 ·unfold Jn.append
  rw [if_neg (by rw [hl];decide),if_neg (by rw [hr];decide),if_neg (by omega),if_neg (by omega),e1,if_pos rfl]
 ·intro q hq
  rcases List.mem_append.1 hq with hq|hq
  ·exact H.ok q hq
  ·rw [List.mem_singleton] at hq
   subst hq
   exact ⟨h20,hb⟩
 ·intro e he
  rw [layR_append,Nat.zero_add] at he
  rcases List.mem_append.1 he with he|he
  ·have hbd:=iy _ _ _ he
   exact (H.dY e he).aC e2.ar (fun i hi=>e4 _ (by omega) (by omega))
  ·rw [ee,ee,List.mem_singleton] at he
   subst he
   rw [←hfin]
   exact e3
 ·intro p h1 h2
  rw [htot] at h1
  rw [e2.ar] at h2
  have hrs:=H.rest p (by omega) h2
  unfold Dk.noB Dk.jb at hrs ⊢
  rw [e2.ar,e4 _ (by omega) (by omega)]
  exact hrs
theorem rewrite_up {J:Jn} {D:Dk} {vals:List (List Nat)} (u:Up D) (h4:4≤D.n) (hl:J.live D=true) (hv : ∀ r∈vals,r.length≤20000 ∧ ∀ x∈r,x<256) (hfit:aG vals≤D.ar) (hk:J.known<18446744073709551615) (ok:iD J D) (kn:fI D J.known) :
  ∃ E s,J.a9=((s:Nat):Int)∧J.rewrite D vals=(0,E,{ aU:=J.aU,slot:=J.a9,ak:=J.az,gen:=J.known+1,known:=J.known+1,ready:=true,fin:=aG vals },(ee vals 0).map (·.1))∧Alike D E ∧
    Has E J.az (J.known+1) vals∧Sup E s J.az (J.known+1)∧fI E (J.known+1)∧(∀ b,b<D.n→b≠s→(b<2+J.az*D.ar∨2+J.az*D.ar+aG vals≤b)→E.aX b=D.aX b):=by
 have hna:=J.gl
 have har:D.ar=(D.n-2)/2:=rfl
 have hin:=D.fA hna (by omega)
 obtain ⟨E,e1,e2,e3,e4⟩:=rwAll_up (gen:=J.known+1) hna vals 0 D [] u (by omega)
 obtain ⟨s,hs,hs1⟩ : ∃ s:Nat,J.a9=(s:Int)∧s≤1:=by
  unfold Jn.a9
  rcases ok.slot with h|h|h<;>rw [h]
  ·exact ⟨0,rfl,by omega⟩
  ·exact ⟨1,rfl,by omega⟩
  ·exact ⟨0,rfl,by omega⟩
 have u2:=u.alike e2
 obtain ⟨w1,w2,w3⟩:=write_up u2.len u2.down u2.ca (i:=s) (by rw [e2.n];omega) (superBlk_length (J.known+1) J.az)
 have a2:=e2.trans w2
 rw [e2.n] at w3
 have fr : ∀ b,b<D.n→b≠s→(b<2+J.az*D.ar∨2+J.az*D.ar+aG vals≤b)→(E.lay (s:Int) (bV (J.known+1) J.az)).aX b=D.aX b:=by
  intro b h1 h2 h3
  rw [w3 b h1,if_neg h2,e4 b h1 (by omega)]
 have hss:(E.lay (s:Int) (bV (J.known+1) J.az)).aX s=bV (J.known+1) J.az:=by rw [w3 s (by omega),if_pos rfl]
 have hpl : ∀ e∈ee vals 0,(E.lay (s:Int) (bV (J.known+1) J.az)).dY J.az (J.known+1) e.1 e.2:=by
  intro e he
  have hb:=iy _ _ _ he
  exact (e3 e he).aC w2.ar (fun i hi=>by rw [e2.ar,w3 _ (by omega),if_neg (by omega)])
 generalize E.lay (s:Int) (bV (J.known+1) J.az)=F at *
 refine ⟨F,s,hs,?_,a2,?_,?_,?_,fr⟩
 ·unfold Jn.rewrite
  have hany:(vals.any fun r=>decide (20000<r.length))=false:=by
   rw [List.any_eq_false]
   intro r hr
   have:=(hv r hr).1
   simp;omega
  rw [hl,hany,if_neg (by decide),if_neg (by decide),if_neg (by omega),e1,if_pos rfl,hs,w1,if_pos rfl]
  rfl
 ·refine ⟨hna,by omega,hv,by rw [a2.ar];exact hfit,hpl,?_⟩
  intro p h1 h2
  rw [a2.ar] at h2
  unfold Dk.noB Dk.jb
  rw [a2.ar,fr _ (by omega) (by omega) (by omega)]
  cases hlo:db p (D.aX (2+J.az*D.ar+p)) with
  |false=>exact .inl rfl
  |true=>
   have:=kn.logs J.az hna p h2 hlo
   unfold Dk.jb at this
   exact .inr (.inl (by omega))
 ·refine ⟨hs1,by rw [hss,superOk_super hna],by rw [hss,superGen_super (by omega)],by rw [hss,superArea_super hna],?_⟩
  rw [fr (1-s) (by omega) (by omega) (by omega)]
  intro h
  have:=kn.sups (1-s) (by omega) h
  omega
 ·refine ⟨?_,?_⟩
  ·intro t ht p hp h
   rw [a2.ar] at hp
   by_cases hin2:t=J.az∧p<aG vals
   ·obtain ⟨rfl,hp2⟩:=hin2
    have key : ∀ (rs:List (List Nat)) (at_:Nat),at_≤p→p<at_+aG rs → ∃ e∈ee rs at_,e.1≤p∧p<e.1+aQ e.2.length:=by
     intro rs
     induction rs with
     |nil=>intro at_ h1 h2;rw [fw] at h2;omega
     |cons r rs ih=>
      intro at_ h1 h2
      rw [cO] at h2
      by_cases hlt:p<at_+aQ r.length
      ·exact ⟨(at_,r),by rw [ee];exact List.mem_cons_self,h1,hlt⟩
      ·obtain ⟨e,he,h3⟩:=ih (at_+aQ r.length) (by omega) (by omega)
       exact ⟨e,by rw [ee];exact List.mem_cons_of_mem _ he,h3⟩
    obtain ⟨e,he,h1,h2⟩:=key vals 0 (by omega) (by omega)
    have:=hpl e he (p-e.1) (by omega)
    rw [show e.1+(p-e.1)=p by omega] at this
    rw [this,logGen_log (by omega)]
    omega
   ·have hta:t*D.ar+D.ar≤2*D.ar:=by
     have:=Nat.mul_le_mul_right D.ar ht
     omega
    have hout:F.aX (2+t*D.ar+p)=D.aX (2+t*D.ar+p):=by
     refine fr _ (by omega) (by omega) ?_
     by_cases hta:t=J.az
     ·subst hta
      exact .inr (by omega)
     ·obtain ⟨h1,h2⟩|⟨h1,h2⟩:(t=0∧J.az=1)∨(t=1∧J.az=0):=by omega
      ·rw [h1,h2];omega
      ·rw [h1,h2];omega
    unfold Dk.jb at h ⊢
    rw [a2.ar,hout] at h ⊢
    have:=kn.logs t ht p hp h
    unfold Dk.jb at this
    omega
  ·intro t ht h
   by_cases hts:t=s
   ·subst hts
    rw [hss,superGen_super (by omega)]
    exact Nat.le_refl _
   ·rw [fr t (by omega) hts (by omega)] at h ⊢
    have:=kn.sups t ht h
    omega
theorem Sup.jn {D:Dk} {slot ak gen:Nat} (p:Sup D slot ak gen):D.jn.slot=slot∧D.jn.ak=ak∧D.jn.gen=gen∧D.jn.ready=false∧D.jn.fin=0∧D.jn.aU=D.opened.aU:=by
 have p':Sup D.opened slot ak gen:=⟨p.s,p.ok,p.g,p.a,p.other⟩
 have h:=p'.cz D.opened.aU
 have h:D.jn.un=_:=h
 exact ⟨congrArg Jn.slot h,congrArg Jn.ak h,congrArg Jn.gen h,congrArg Jn.ready h,congrArg Jn.fin h,congrArg Jn.aU h⟩
theorem Fresh.jn {D:Dk} (f:Fresh D) (h4:4≤D.n):D.jn=D.opened.jn0 D.opened.aU:=by
 have f':Fresh D.opened:=f
 exact f'.cz h4 _
theorem Fresh.entries {D:Dk} (f:Fresh D) (h4:4≤D.n):D.entries = []:=by
 have f':Fresh D.opened:=f
 unfold Dk.entries
 rw [f.jn h4]
 exact f'.dC _ h4 (Nat.zero_le 1)
theorem Has.entries {D:Dk} {slot ak gen:Nat} {aT:List (List Nat)} (p:Sup D slot ak gen) (H:Has D ak gen aT) (har:D.ar≤4096):D.entries=ee aT 0:=by
 obtain ⟨q1,q2,q3,_⟩:=p.jn
 have H':Has D.opened D.jn.ak D.jn.gen aT:=by rw [q2,q3];exact ⟨H.a,H.g,H.ok,H.fit,H.dY,H.rest⟩
 exact H'.dC (by omega) har
end Go.Proofs.Ytcmfgmhadeeieaa

namespace Go.Proofs.Ytcmfgmhadeeieaa
open Go Go.Abs
structure Par (D U:Dk):Prop where
 aW:D.aW=U.aW
 n:D.n=U.n
 down:D.down=false
 up:Up U
theorem Par.aX {D U:Dk} (p:Par D U) (b:Nat):D.aX b=U.aX b:=by unfold Dk.aX;rw [p.aW]
theorem Par.ar {D U:Dk} (p:Par D U):D.ar=U.ar:=by unfold Dk.ar;rw [p.n]
theorem Par.len {D U:Dk} (p:Par D U):D.aW.length=128*D.n:=by rw [p.aW,p.n,p.up.len]
structure Cut (D E T:Dk) (lo c:Nat):Prop where
 n:T.n=D.n
 down:T.down=true
 len:T.aW.length=D.aW.length
 bJ : ∀ b,b<D.n→b<lo∨c<b→T.aX b=D.aX b
 new : ∀ b,b<D.n→lo≤b→b<c→T.aX b=E.aX b
theorem write_par {D U:Dk} (p:Par D U) {i:Nat} (hi:i<D.n) {l:List Nat} (hl:l.length=128) :
  (∃ E,D.write (i:Int) l=(0,E)∧Par E (U.lay (i:Int) l)∧E.aU=D.aU) ∨
  (∃ T,D.write (i:Int) l=(9,T)∧T.n=D.n∧T.down=true∧T.aW.length=D.aW.length ∧ ∀ b,b<D.n→b≠i→T.aX b=D.aX b):=by
 have hlen:=p.len
 have hil:i*128+128≤D.aW.length:=by rw [hlen];omega
 have hf:D.fault (i:Int)=0:=by
  unfold Dk.fault
  rw [p.down,if_neg (by simp),if_neg (by omega)]
 obtain ⟨w1,w2,w3⟩:=write_up p.up.len p.up.down p.up.ca (i:=i) (by rw [←p.n];exact hi) hl
 have hu:=p.up.alike w2
 have hw : ∀ a:Int,Par { D.lay (i:Int) l with after:=a } (U.lay (i:Int) l):=fun a=>⟨by show cJ D.aW _ l=cJ U.aW _ l;rw [p.aW],p.n,p.down,hu⟩
 unfold Dk.write
 rw [if_pos hf,if_pos hl]
 split
 ·split
  ·refine .inr ⟨_,rfl,?_,?_,?_,?_⟩
   ·unfold Dk.off;split<;>rfl
   ·unfold Dk.off;split
    ·assumption
    ·rfl
   ·rw [(Dk.fW _).aW]
    exact eP (by rw [Int.toNat_natCast,List.length_take];omega)
   ·intro b hb hbi
    unfold Dk.aX
    rw [(Dk.fW _).aW]
    show ((cJ D.aW ((i:Int).toNat*128) (l.take D.aC.toNat)).drop (b*128)).take 128=_
    rw [Int.toNat_natCast]
    apply List.ext_getElem?
    intro q
    by_cases hq:q<128
    ·rw [List.getElem?_take,if_pos hq,List.getElem?_drop,eu (by rw [List.length_take];omega),if_neg (by rw [List.length_take];omega),List.getElem?_take,if_pos hq,List.getElem?_drop]
    ·rw [List.getElem?_take,if_neg hq,List.getElem?_take,if_neg hq]
  ·exact .inl ⟨_,rfl,hw _,rfl⟩
 ·exact .inl ⟨_,rfl,hw D.after,rfl⟩
theorem wr_par (ak gen at_ parts:Nat) (r:List Nat) : ∀ (k i:Nat) (D U:Dk),Par D U→2+ak*D.ar+at_+i+k≤D.n →
  ∃ F,Dk.wr ak gen at_ parts r k i U=(0,F) ∧
    ((∃ E,Dk.wr ak gen at_ parts r k i D=(0,E)∧Par E F∧E.aU=D.aU) ∨
     (∃ T c,Dk.wr ak gen at_ parts r k i D=(9,T)∧Cut D F T (2+ak*D.ar+at_+i) c∧2+ak*D.ar+at_+i≤c∧c<2+ak*D.ar+at_+i+k))
 | 0,i,D,U,p,_=>⟨U,rfl,.inl ⟨D,rfl,p,rfl⟩⟩
 |k+1,i,D,U,p,h=>by
  have hla:(cS gen (at_+i) i parts (chunk r i)).length=128:=logBlk_length (iR r i)
  have har:=p.ar
  have hn:=p.n
  obtain ⟨w1,w2,w3⟩:=write_up p.up.len p.up.down p.up.ca (i:=2+ak*U.ar+at_+i) (by rw [←hn,←har];omega) hla
  have u1:=p.up.alike w2
  have hr1:2+ak*(U.lay ((2+ak*U.ar+at_+i:Nat):Int) (cS gen (at_+i) i parts (chunk r i))).ar+at_+(i+1)+k≤(U.lay ((2+ak*U.ar+at_+i:Nat):Int) (cS gen (at_+i) i parts (chunk r i))).n:=by
   rw [w2.ar,w2.n,←hn,←har];omega
  obtain ⟨F,f1,f2,f3⟩:=wr_up ak gen at_ parts r k (i+1) _ u1 hr1
  rw [w2.ar,w2.n] at f3
  have hF:Dk.wr ak gen at_ parts r (k+1) i U=(0,F):=by rw [Dk.wr,w1,if_pos rfl];exact f1
  refine ⟨F,hF,?_⟩
  have hb0:F.aX (2+ak*U.ar+at_+i)=cS gen (at_+i) i parts (chunk r i):=by
   rw [f3 _ (by rw [←hn,←har];omega),if_neg (by omega),w3 _ (by rw [←hn,←har];omega),if_pos rfl]
  rcases write_par p (i:=2+ak*D.ar+at_+i) (by omega) hla with ⟨E,e1,e2,e3⟩|⟨T,t1,t2,t3,t4,t5⟩
  ·rw [har] at e1 e2
   have hEn:E.n=D.n:=e2.n.trans (w2.n.trans hn.symm)
   have hEar:E.ar=D.ar:=by unfold Dk.ar;rw [hEn]
   obtain ⟨F',g1,g2⟩:=wr_par ak gen at_ parts r k (i+1) E _ e2 (by rw [hEar,hEn];omega)
   have hFF:F'=F:=by
    have:=g1.symm.trans f1
    exact (Prod.mk.inj this).2
   subst hFF
   have hEb : ∀ b,b<D.n→b≠2+ak*D.ar+at_+i→E.aX b=D.aX b:=by
    intro b hb hne
    rw [e2.aX,w3 b (by omega),if_neg (by rw [←har];omega),p.aX]
   have hE0:E.aX (2+ak*D.ar+at_+i)=F'.aX (2+ak*D.ar+at_+i):=by
    rw [e2.aX,har,hb0,w3 _ (by rw [←hn,←har];omega),if_pos rfl]
   rcases g2 with ⟨E2,a1,a2,a3⟩|⟨T,c,a1,a2,a3,a4⟩
   ·refine .inl ⟨E2,?_,a2,a3.trans e3⟩
    rw [Dk.wr,har,e1,if_pos rfl];exact a1
   ·rw [hEar] at a2 a3 a4
    refine .inr ⟨T,c,?_,⟨a2.n.trans hEn,a2.down,a2.len.trans (by rw [e2.len,hEn,p.len]),?_,?_⟩,by omega,by omega⟩
    ·rw [Dk.wr,har,e1,if_pos rfl];exact a1
    ·intro b hb ho
     rw [a2.bJ b (by omega) (by omega),hEb b hb (by omega)]
    ·intro b hb h1 h2
     by_cases hbe:b=2+ak*D.ar+at_+i
     ·subst hbe
      rw [a2.bJ _ (by omega) (by omega),hE0]
     ·exact a2.new b (by omega) (by omega) h2
  ·refine .inr ⟨T,2+ak*D.ar+at_+i,?_,⟨t2,t3,t4,fun b hb ho=>t5 b hb (by omega),fun b hb h1 h2=>by omega⟩,Nat.le_refl _,by omega⟩
   rw [Dk.wr,t1,if_neg (show ¬(9:Int)=0 by decide)]
theorem wrRec_par {D U:Dk} (p:Par D U) {ak gen at_:Nat} {r:List Nat} (ha:ak≤1) (hfit:at_+aQ r.length≤D.ar) :
  ∃ F,U.bU ak gen at_ r=(0,F)∧((∃ E,D.bU ak gen at_ r=(0,E)∧Par E F∧E.aU=D.aU) ∨
     (∃ T c,D.bU ak gen at_ r=(9,T)∧Cut D F T (2+ak*D.ar+at_) c∧2+ak*D.ar+at_≤c∧c<2+ak*D.ar+at_+aQ r.length)):=by
 have hp:=fm r.length
 have hin:=D.fA ha (by omega)
 exact wr_par ak gen at_ (aQ r.length) r (aQ r.length) 0 D U p (by omega)
theorem rwAll_par {ak gen:Nat} (ha:ak≤1) : ∀ (vals:List (List Nat)) (at_:Nat) (D U:Dk) (ps:List Nat),Par D U→at_+aG vals≤D.ar →
  ∃ F,Dk.bL ak gen vals at_ U ps=(0,F,at_+aG vals,ps++(ee vals at_).map (·.1)) ∧
    ((∃ E,Dk.bL ak gen vals at_ D ps=(0,E,at_+aG vals,ps++(ee vals at_).map (·.1))∧Par E F∧E.aU=D.aU) ∨
     (∃ c,(Dk.bL ak gen vals at_ D ps).1=9∧Cut D F (Dk.bL ak gen vals at_ D ps).2.1 (2+ak*D.ar+at_) c∧2+ak*D.ar+at_≤c∧c<2+ak*D.ar+at_+aG vals))
 | [],at_,D,U,ps,p,_=>⟨U,by simp [Dk.bL,ee,fw],.inl ⟨D,by simp [Dk.bL,ee,fw],p,rfl⟩⟩
 |r::rs,at_,D,U,ps,p,hfit=>by
  rw [cO] at hfit
  have hp:=fm r.length
  have hin:=D.fA ha (by omega)
  have har:=p.ar
  have hn:=p.n
  obtain ⟨F1,e1,e2,e3,e4⟩:=wrRec_up p.up (gen:=gen) (at_:=at_) (r:=r) ha (by rw [←har];omega)
  obtain ⟨F,f1,f2,f3,f4⟩:=rwAll_up (gen:=gen) ha rs (at_+aQ r.length) F1 (ps ++ [at_]) (p.up.alike e2) (by rw [e2.ar,←har];omega)
  rw [e2.ar,e2.n] at f4
  have hres : ∀ X:Dk,X.bU ak gen at_ r=(0,F1)→True:=fun _ _=>trivial
  have hF:Dk.bL ak gen (r::rs) at_ U ps=(0,F,at_+aG (r::rs),ps++(ee (r::rs) at_).map (·.1)):=by
   rw [Dk.bL,e1,if_pos rfl,f1,cO,ee,List.map_cons,List.append_assoc,Nat.add_assoc];rfl
  refine ⟨F,hF,?_⟩
  obtain ⟨F1',g1,g2⟩:=wrRec_par p (gen:=gen) (at_:=at_) (r:=r) ha (by omega)
  have hFF:F1'=F1:=(Prod.mk.inj (g1.symm.trans e1)).2
  subst hFF
  rcases g2 with ⟨E,a1,a2,a3⟩|⟨T,c,a1,a2,a3,a4⟩
  ·have hEn:E.n=D.n:=a2.n.trans (e2.n.trans hn.symm)
   have hEar:E.ar=D.ar:=by unfold Dk.ar;rw [hEn]
   have hEb : ∀ b,b<D.n→(b<2+ak*D.ar+at_∨2+ak*D.ar+at_+aQ r.length≤b)→E.aX b=D.aX b:=by
    intro b hb ho
    rw [a2.aX,e4 b (by omega) (by rw [←har];exact ho),p.aX]
   obtain ⟨F',k1,k2⟩:=rwAll_par (gen:=gen) ha rs (at_+aQ r.length) E F1' (ps ++ [at_]) a2 (by rw [hEar];omega)
   have hFF:F'=F:=(Prod.mk.inj (Prod.mk.inj (k1.symm.trans f1)).2).1
   subst hFF
   rw [hEar] at k2
   rcases k2 with ⟨E2,b1,b2,b3⟩|⟨c,b1,b2,b3,b4⟩
   ·refine .inl ⟨E2,?_,b2,b3.trans a3⟩
    rw [Dk.bL,a1,if_pos rfl,b1,cO,ee,List.map_cons,List.append_assoc,Nat.add_assoc];rfl
   ·have hR:Dk.bL ak gen (r::rs) at_ D ps=Dk.bL ak gen rs (at_+aQ r.length) E (ps ++ [at_]):=by rw [Dk.bL,a1,if_pos rfl]
    rw [hR,cO]
    refine .inr ⟨c,b1,⟨b2.n.trans hEn,b2.down,b2.len.trans (by rw [a2.len,hEn,p.len]),?_,?_⟩,by omega,by omega⟩
    ·intro b hb ho
     rw [b2.bJ b (by omega) (by omega),hEb b hb (by omega)]
    ·intro b hb h1 h2
     by_cases hbe:b<2+ak*D.ar+at_+aQ r.length
     ·rw [b2.bJ b (by omega) (by omega),a2.aX,f4 b (by omega) (by rw [←har];omega)]
     ·exact b2.new b (by omega) (by omega) h2
  ·have hR:Dk.bL ak gen (r::rs) at_ D ps=(9,T,at_,ps):=by rw [Dk.bL,a1,if_neg (show ¬(9:Int)=0 by decide)]
   rw [hR,cO]
   refine .inr ⟨c,rfl,⟨a2.n,a2.down,a2.len,a2.bJ,fun b hb h1 h2 => ?_⟩,a3,by omega⟩
   rw [a2.new b hb h1 h2,f4 b (by omega) (by rw [←har];omega)]
inductive RwCut (D F T:Dk) (s lo hi:Nat):Prop
 |log (c:Nat) (x:Cut D F T lo c) (h:lo≤c∧c<hi)
 |super (n:T.n=D.n) (down:T.down=true) (len:T.aW.length=D.aW.length) (h : ∀ b,b<D.n→b≠s→T.aX b=F.aX b)
theorem rewrite_par {J J':Jn} {D U:Dk} {vals:List (List Nat)} (p:Par D U) (h4:4≤D.n) (hl:J.live D=true) (hl':J'.live U=true) (h1:J'.slot=J.slot) (h2:J'.ak=J.ak) (h3:J'.known=J.known) (hv : ∀ r∈vals,r.length≤20000 ∧ ∀ x∈r,x<256)
  (hfit:aG vals≤D.ar) (hk:J.known<18446744073709551615) (ok:iD J' U) (kn:fI U J.known) :
  ∃ F s,J.a9=((s:Nat):Int)∧J'.rewrite U vals=(0,F,{ aU:=J'.aU,slot:=J.a9,ak:=J.az,gen:=J.known+1,known:=J.known+1,ready:=true,fin:=aG vals },(ee vals 0).map (·.1))∧Alike U F ∧
    Has F J.az (J.known+1) vals∧Sup F s J.az (J.known+1)∧fI F (J.known+1)∧(∀ b,b<D.n→b≠s→(b<2+J.az*D.ar∨2+J.az*D.ar+aG vals≤b)→F.aX b=U.aX b) ∧
    ((∃ E,J.rewrite D vals=(0,E,{ aU:=J.aU,slot:=J.a9,ak:=J.az,gen:=J.known+1,known:=J.known+1,ready:=true,fin:=aG vals },(ee vals 0).map (·.1))∧Par E F∧E.aU=D.aU) ∨
     (∃ T,J.rewrite D vals=(9,T,J,[])∧RwCut D F T s (2+J.az*D.ar) (2+J.az*D.ar+aG vals))):=by
 have har:=p.ar
 have hn:=p.n
 have e1:J'.az=J.az:=by unfold Jn.az;rw [h1,h2]
 have e2:J'.a9=J.a9:=by unfold Jn.a9;rw [h1]
 obtain ⟨F,s,r1,r2,r3,r4,r5,r6,r7⟩:=rewrite_up p.up (by omega) hl' hv (by rw [←har];exact hfit) (by rw [h3];exact hk) ok (by rw [h3];exact kn)
 rw [e1,e2,h3] at r2
 rw [e1,h3] at r4 r5
 rw [e1] at r7
 rw [h3] at r6
 rw [e2] at r1
 rw [←har,←hn] at r7
 have hs:=r5.s
 refine ⟨F,s,r1,r2,r3,r4,r5,r6,r7,?_⟩
 have hna:=J.gl
 have hD:D.ar=(D.n-2)/2:=rfl
 have hin:=D.fA hna (by omega)
 have hany:(vals.any fun r=>decide (20000<r.length))=false:=by
  rw [List.any_eq_false]
  intro r hr
  have:=(hv r hr).1
  simp;omega
 obtain ⟨F1,a1,a2⟩:=rwAll_par (gen:=J.known+1) hna vals 0 D U [] p (by omega)
 obtain ⟨F1',q1,q2,q3,q4⟩:=rwAll_up (gen:=J.known+1) hna vals 0 U [] p.up (by rw [←har];omega)
 have hFF:F1'=F1:=(Prod.mk.inj (Prod.mk.inj (q1.symm.trans a1)).2).1
 subst hFF
 have u1:=p.up.alike q2
 obtain ⟨w1,w2,w3⟩:=write_up u1.len u1.down u1.ca (i:=s) (by rw [q2.n,←hn];omega) (superBlk_length (J.known+1) J.az)
 have hFe:F=F1'.lay (s:Int) (bV (J.known+1) J.az):=by
  have hR:J'.rewrite U vals=(0,F1'.lay (s:Int) (bV (J.known+1) J.az),{ aU:=J'.aU,slot:=J.a9,ak:=J.az,gen:=J.known+1,known:=J.known+1,ready:=true,fin:=aG vals },[]++(ee vals 0).map (·.1)):=by
   unfold Jn.rewrite
   rw [e1,e2,h3,hl',hany,if_neg (by decide),if_neg (by decide),if_neg (by rw [←har];omega),a1,if_pos rfl,r1,w1,if_pos rfl]
  exact (Prod.mk.inj (Prod.mk.inj (r2.symm.trans hR)).2).1
 have hFb : ∀ b,b<D.n→b≠s→F.aX b=F1'.aX b:=fun b hb hne=>by rw [hFe,w3 b (by rw [q2.n];omega),if_neg hne]
 rcases a2 with ⟨E,b1,b2,b3⟩|⟨c,b1,b2,b3,b4⟩
 ·have hEn:E.n=D.n:=b2.n.trans (q2.n.trans hn.symm)
  rcases write_par b2 (i:=s) (by omega) (superBlk_length (J.known+1) J.az) with ⟨E2,c1,c2,c3⟩|⟨T,t1,t2,t3,t4,t5⟩
  ·refine .inl ⟨E2,?_,hFe▸c2,c3.trans b3⟩
   unfold Jn.rewrite
   rw [hl,hany,if_neg (by decide),if_neg (by decide),if_neg (by omega),b1,if_pos rfl,r1,c1,if_pos rfl]
   rfl
  ·refine .inr ⟨T,?_,.super (t2.trans hEn) t3 (t4.trans (by rw [b2.len,hEn,p.len])) fun b hb hne => ?_⟩
   ·unfold Jn.rewrite
    rw [hl,hany,if_neg (by decide),if_neg (by decide),if_neg (by omega),b1,if_pos rfl,r1,t1,if_neg (show ¬(9:Int)=0 by decide)]
   ·rw [t5 b (by omega) hne,b2.aX,hFb b hb hne]
 ·refine .inr ⟨_,?_,.log c (T:=(Dk.bL J.az (J.known+1) vals 0 D []).2.1) ⟨b2.n,b2.down,b2.len,fun b hb ho=>b2.bJ b hb (by omega),fun b hb l1 l2 => ?_⟩ (by omega)⟩
  ·unfold Jn.rewrite
   rw [hl,hany,if_neg (by decide),if_neg (by decide),if_neg (by omega),if_neg (by rw [b1];decide),b1]
  ·rw [b2.new b hb (by omega) l2,hFb b hb (by omega)]
theorem append_par {J J':Jn} {D U:Dk} {r:List Nat} (p:Par D U) (ha:J.ak≤1) (hl:J.live D=true) (hl':J'.live U=true) (h1:J'.ak=J.ak) (h2:J'.gen=J.gen) (h3:J'.fin=J.fin) (hr:J.ready=true) (hr':J'.ready=true) (hf:J.fin≤D.ar) :
  (20000<r.length∧J.append D r=(3,D,J)∧J'.append U r=(3,U,J'))∨(r.length≤20000∧D.ar<J.fin+aQ r.length∧J.append D r=(8,D,J)∧J'.append U r=(8,U,J')) ∨
  (r.length≤20000∧J.fin+aQ r.length≤D.ar ∧ ∃ F,J'.append U r=(0,F,{ J' with fin:=J.fin+aQ r.length })∧U.bU J.ak J.gen J.fin r=(0,F) ∧
    ((∃ E,J.append D r=(0,E,{ J with fin:=J.fin+aQ r.length })∧Par E F∧E.aU=D.aU) ∨
     (∃ T c,J.append D r=(9,T,J)∧Cut D F T (2+J.ak*D.ar+J.fin) c∧2+J.ak*D.ar+J.fin≤c∧c<2+J.ak*D.ar+J.fin+aQ r.length))):=by
 have har:=p.ar
 have hfree:J.free D=D.ar-J.fin:=by unfold Jn.free;rw [hl,hr];rfl
 have hfree':J'.free U=D.ar-J.fin:=by unfold Jn.free;rw [hl',hr',←har,h3];rfl
 by_cases c1:20000<r.length
 ·refine .inl ⟨c1,?_,?_⟩
  ·unfold Jn.append
   rw [hl,hr,if_neg (by decide),if_neg (by decide),if_pos c1]
  ·unfold Jn.append
   rw [hl',hr',if_neg (by decide),if_neg (by decide),if_pos c1]
 by_cases c2:D.ar<J.fin+aQ r.length
 ·refine .inr (.inl ⟨by omega,c2,?_,?_⟩)
  ·unfold Jn.append
   rw [hl,hr,if_neg (by decide),if_neg (by decide),if_neg c1,hfree,if_pos (by omega)]
  ·unfold Jn.append
   rw [hl',hr',if_neg (by decide),if_neg (by decide),if_neg c1,hfree',if_pos (by omega)]
 refine .inr (.inr ⟨by omega,by omega,?_⟩)
 obtain ⟨F,f1,f2⟩:=wrRec_par p (ak:=J.ak) (gen:=J.gen) (at_:=J.fin) (r:=r) ha (by omega)
 refine ⟨F,?_,f1,?_⟩
 ·unfold Jn.append
  rw [hl',hr',if_neg (by decide),if_neg (by decide),if_neg c1,hfree',if_neg (by omega),h1,h2,h3,f1,if_pos rfl]
 ·rcases f2 with ⟨E,e1,e2,e3⟩|⟨T,c,e1,e2,e3,e4⟩
  ·refine .inl ⟨E,?_,e2,e3⟩
   unfold Jn.append
   rw [hl,hr,if_neg (by decide),if_neg (by decide),if_neg c1,hfree,if_neg (by omega),e1,if_pos rfl]
  ·refine .inr ⟨T,c,?_,e2,e3,e4⟩
   unfold Jn.append
   rw [hl,hr,if_neg (by decide),if_neg (by decide),if_neg c1,hfree,if_neg (by omega),e1,if_neg (show ¬(9:Int)=0 by decide)]
end Go.Proofs.Ytcmfgmhadeeieaa

