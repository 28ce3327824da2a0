/-
  A part of the proof, spaces and names shortened by a program (a claim may hold 1,500,000 bytes).
  Conditions: as each theorem states.
-/
import Derived.Test.YtcmfgmhadeeieaaG13
namespace Go.Proofs.Ytcmfgmhadeeieaa
open Go Go.Abs
theorem is76:cA Try.prog 76 Try.f76:=⟨by kernel_rfl,by kernel_rfl,by kernel_rfl,by kernel_rfl⟩
theorem results76:Try.f76.results.toList = [.tmp 8,.tmp 9,.tmp 10]:=by kernel_rfl
theorem b76_exit (C:al) (e:Env) (h:ah):b76_12 C 0 e h=k76_10 C e h:=rfl
theorem new5 (q:ah):dB [(.bool false),(.int .u64 0),(.int .i64 0),(.int .i64 0),(.slice none 0 0)] q=some (ptr q.next 0,q.alloc gj):=rfl
section
variable {D:Dk} (hl:D.aW.length=128*D.n) (h4:4≤D.n) (hn:D.n≤4096)
include hl h4 hn
theorem r97c {h:ah} {F:Nat→Prop} {v:Value} {S:Rf} (x:cM h F v S) (hi:S.aW=D.aW) {ak at_:Nat} (ha:ak≤1) (hat:at_<D.ar) : ∃ a n c h1 h2,
  CD 97 [v,aq ak,aq at_] h=some (.agg (logL at_ (D.jb ak at_) (.slice a n c)).toArray,h1) ∧
  cf 5 (ptr h1.next 0) (.agg (logL at_ (D.jb ak at_) (.slice a n c)).toArray) (h1.alloc gj)=some (undef,h2) ∧
  h2.get h1.next=some (logL at_ (D.jb ak at_) (.slice a n c))∧Old h h2∧h.next≤h1.next∧h1.next<h2.next ∧
  av a n h2=some (if db at_ (D.jb ak at_)=true then logData (D.jb ak at_) else [])∧(∀ y,a=some y→h.next≤y.block):=by
 obtain ⟨a,n,c,h1,e,o,sb,g,f⟩:=r97 x hi hl h4 hn ha hat
 have oA:Old h1 (h1.alloc gj):=Kept.alloc _ _ _
 have gA:(h1.alloc gj).get h1.next=some gj:=by rw [ah.aE,if_pos rfl]
 have n0:(h1.alloc gj).n0≤h1.next:=h1.aH
 obtain ⟨u1,_,u3,u4⟩:=iK (n:=5) gA n0 rfl (logL_len at_ (D.jb ak at_) (.slice a n c)) (logL_one at_ _ a n c) (logL_hole at_ _ a n c)
 have hnx:=o.next
 refine ⟨a,n,c,h1,_,e,u1,u3,(o.trans oA).bS u4 (fun y hy e=>by omega),hnx,?_,?_,f⟩
 ·have:=u4.next
  rw [ah.aS] at this
  omega
 ·exact u4.ea (fun y hy=>by subst hy;exact ⟨_,gA,zero5_plain⟩) (Old.bytes oA sb)
omit hl h4 hn in
theorem logL_lds {g:ah} {f at_:Nat} {b:List Nat} {s:Value} (e:g.get f=some (logL at_ b s)):ba (ptr f 0) g=some (.bool (db at_ b),g) ∧
  (db at_ b=true→ba (ptr f 1) g=some (.int .u64 ((bG b:Nat):Int),g)∧ba (ptr f 2) g=some (aq (bz b),g)∧ba (ptr f 3) g=some (aq (aP b),g)∧(∀ a n c,s = .slice a n c→ba (ptr f 4) g=some (s,g))):=by
 unfold logL at e
 cases hk:db at_ b with
 |false=>
  rw [hk,if_neg (by decide)] at e
  exact ⟨aN e rfl,fun h=>(by cases h)⟩
 |true=>
  rw [hk,if_pos rfl] at e
  exact ⟨aN e rfl,fun _=>⟨aN e rfl,aN e rfl,aN e rfl,fun a n c hs=>(by subst hs;exact aN e rfl)⟩⟩
omit hl h4 hn in
def Box6 (g:ah) (b:Nat) (v:Value):Prop := ∃ k,g.get b=some k∧v = .agg k.toArray∧k.length=6∧Abs.cN k=true
omit hl h4 hn in
theorem Box6.ld {g:ah} {b:Nat} {v:Value} (x:Box6 g b v):ch 6 (ptr b 0) g=some (v,g):=by
 obtain ⟨k,e,rfl,e2,e3⟩:=x
 exact cZ e e2 e3
omit hl h4 hn in
theorem Box6.aC {g g':ah} {b:Nat} {v:Value} (x:Box6 g b v) {B:Nat→Prop} (k:Kept g g' B) (hb : ¬B b):Box6 g' b v:=by
 obtain ⟨q,e,e1⟩:=x
 exact ⟨q,k.dp e hb,e1⟩
omit hl h4 hn in
theorem Box6.lt {g:ah} {b:Nat} {v:Value} (x:Box6 g b v):b<g.next:=by
 obtain ⟨q,e,_⟩:=x
 exact g.aR e
def Fld (g:ah) (f i:Nat) (w:Value):Prop := ∃ k,g.get f=some k∧k[i]? = some w
omit hl h4 hn in
theorem Fld.ld {g:ah} {f i:Nat} {w:Value} (x:Fld g f i w) (hh:isHole w=false:=by rfl):ba (ptr f i) g=some (w,g):=by
 obtain ⟨k,e,e1⟩:=x
 exact aN e e1 hh
omit hl h4 hn in
theorem Fld.aC {g g':ah} {f i:Nat} {w:Value} (x:Fld g f i w) {B:Nat→Prop} (k:Kept g g' B) (hb : ¬B f):Fld g' f i w:=by
 obtain ⟨q,e,e1⟩:=x
 exact ⟨q,k.dp e hb,e1⟩
omit hl h4 hn in
theorem Fld.lt {g:ah} {f i:Nat} {w:Value} (x:Fld g f i w):f<g.next:=by
 obtain ⟨q,e,_⟩:=x
 exact g.aR e
section
variable {h0:ah} {F:Nat→Prop} {v:Value} {S:Rf} (x0:cM h0 F v S) (hi:S.aW=D.aW)
def stInv (h0:ah) (N bx f:Nat) (v:Value) (D:Dk) (ak gen at_ P:Nat) (k:Nat) (y:Nat→Value) (g:ah):Prop:=
 ∃ i,y 4=ptr bx 0∧y 1=aq ak∧y 2 = .int .u64 (gen:Int)∧y 3=aq at_∧y 11=ptr f 0∧Box6 g bx v∧Fld g f 3 (aq P)∧bx<N∧f<N∧N≤g.next∧g.n0≤N ∧
   y 13=aq i∧i≤P∧i+k=P∧dr g N (y 12) (D.data ak at_ i)∧Old h0 g∧h0.next≤N ∧ ∀ q,q<i→D.part ak gen at_ P q=true
def stFin (h0:ah) (N f:Nat) (D:Dk) (ak gen at_ P:Nat) (ex:Ex) (y:Nat→Value) (g:ah):Prop:=
 Old h0 g∧((ex = .ret∧y 8 = .slice none 0 0∧y 9 = .int .i64 0∧y 10 = .bool false ∧ ∃ i,i<P∧D.part ak gen at_ P i=false) ∨
  (ex = .exit 0∧y 11=ptr f 0∧Fld g f 3 (aq P)∧dr g N (y 12) (D.data ak at_ P) ∧ ∀ q,q<P→D.part ak gen at_ P q=true))
include x0 hi
theorem st_round {N bx f ak gen at_ P:Nat} (ha:ak≤1) (hP:at_+P≤D.ar) : ∀ k y g,stInv h0 N bx f v D ak gen at_ P k y g→cY 92 (stInv h0 N bx f v D ak gen at_ P) (stFin h0 N f D ak gen at_ P) k (hZ CD y g):=by
 rintro k y g ⟨i,i4,i1,i2,i3,i11,B6,F3,hbx,hf,hN,hn0,i13,hiP,hk,own,hold,h0N,hall⟩
 have har:D.ar=(D.n-2)/2:=rfl
 unfold hZ
 simp -implicitDefEqProofs only [i13,i11,ax,Nat.zero_add,F3.ld,fT,af,aj]
 by_cases hlt:i<P
 ·obtain ⟨a,n,c,q1,q2,e97,est,gq,o2,n1,n2,sb,fb⟩:=r97c hl h4 hn (x0.bJ hold) hi ha (show at_+i<D.ar by omega)
  have F32:=F3.aC o2 (fun h=>h)
  have B62:=B6.aC o2 (fun h=>h)
  have own2:=own.aC o2 (fun _ _ h=>h)
  have hold2:Old h0 q2:=hold.trans o2
  obtain ⟨l0,lrest⟩:=logL_lds gq
  have hq2:=o2.next
  simp -implicitDefEqProofs only [decide_eq_true hlt,i4,B6.ld,af,i1,i3,gY (show at_+i≤9223372036854775807 by omega),aj,e97,new5,est,ax,Nat.zero_add,l0,cC,ay,i2]
  have hpart:D.part ak gen at_ P i=(db (at_+i) (D.jb ak (at_+i))&&(bG (D.jb ak (at_+i))==gen)&&(bz (D.jb ak (at_+i))==i)&&(aP (D.jb ak (at_+i))==P)):=rfl
  cases hc1:db (at_+i) (D.jb ak (at_+i)) with
  |false=>
   simp -implicitDefEqProofs only [Bool.not_false,sf,aF,af,if_true,ay]
   exact cY.ret ⟨hold2,.inl ⟨rfl,rfl,rfl,rfl,i,hlt,by rw [hpart,hc1];rfl⟩⟩
  |true=>
   obtain ⟨l1,l2,l3,l4⟩:=lrest hc1
   have l4:=l4 a n c rfl
   rw [hc1,if_pos rfl] at sb
   simp -implicitDefEqProofs only [Bool.not_true,beq_self_eq_true,aA,af,aj,l1,bin58n,Bool.false_eq_true,if_false,ay]
   cases hc2:(bG (D.jb ak (at_+i))==gen) with
   |false=>
    simp -implicitDefEqProofs only [Bool.not_false,sf,aF,af,if_true,ay]
    exact cY.ret ⟨hold2,.inl ⟨rfl,rfl,rfl,rfl,i,hlt,by rw [hpart,hc1,hc2];rfl⟩⟩
   |true=>
    simp -implicitDefEqProofs only [Bool.not_true,beq_self_eq_true,aA,af,aj,l2,bin3n,Bool.false_eq_true,if_false,ay]
    cases hc3:(bz (D.jb ak (at_+i))==i) with
    |false=>
     simp -implicitDefEqProofs only [Bool.not_false,sf,aF,af,if_true,ay]
     exact cY.ret ⟨hold2,.inl ⟨rfl,rfl,rfl,rfl,i,hlt,by rw [hpart,hc1,hc2,hc3];rfl⟩⟩
    |true=>
     simp -implicitDefEqProofs only [Bool.not_true,beq_self_eq_true,aA,af,aj,ax,Nat.zero_add,l3,F32.ld,bin3n,Bool.false_eq_true,if_false,ay]
     cases hc4:(aP (D.jb ak (at_+i))==P) with
     |false=>
      simp -implicitDefEqProofs only [Bool.not_false]
      exact cY.ret ⟨hold2,.inl ⟨rfl,rfl,rfl,rfl,i,hlt,by rw [hpart,hc1,hc2,hc3,hc4];rfl⟩⟩
     |true=>
      have hlen:=D.data_length ak at_ i
      have hnn:n≤106:=by
       obtain ⟨h1,_,_⟩:=aw sb
       have h2:(logData (D.jb ak (at_+i))).length≤106:=by
        unfold logData
        split
        ·rw [List.length_take];omega
        ·simp
       omega
      obtain ⟨v',g4,f1,f2,f3,f4⟩:=dI (c:=c) own2 (by rw [o2.n0];exact hn0) (by omega) sb (by omega)
      rw [←D.data_succ] at f2
      have hbase : ∀ y0,cF (y 12)=some y0→N≤y0:=fun y0 hy0=>own2.own.base hy0
      have hold4:Old h0 g4:=hold2.bS f3 (fun c hc hb=>by have:=hbase c hb;omega)
      simp -implicitDefEqProofs only [Bool.not_true,ax,Nat.zero_add,aj,af,l4,f1,ef (show i+1≤9223372036854775807 by omega)]
      refine cY.next (k-1) (by omega) ⟨i+1,i4,i1,i2,i3,i11,B62.aC f3 (fun hb=>by have:=hbase bx hb;omega),F32.aC f3 (fun hb=>by have:=hbase f hb;omega),hbx,hf,by have:=f3.next;omega,by rw [f3.n0,o2.n0];exact hn0,rfl,by omega,by omega,f2,hold4,h0N,?_⟩
      intro q hq
      by_cases hqi:q=i
      ·subst hqi
       rw [hpart,hc1,hc2,hc3,hc4];rfl
      ·exact hall q (by omega)
 ·simp -implicitDefEqProofs only [decide_eq_false hlt]
  have hii:i=P:=by omega
  subst hii
  exact cY.out 0 ⟨hold,.inr ⟨rfl,i11,F3,own,hall⟩⟩
omit hl h4 hn x0 hi in
theorem st_false (y:Nat→Value) (g:ah) (h8:y 8 = .slice none 0 0) (h9:y 9 = .int .i64 0) (h10:y 10 = .bool false):au Try.prog Try.f76.results.toList (aY 92 y) g=some (.tuple #[.slice none 0 0,.int .i64 0,.bool false],g):=by
 have k8:(aY 92 y).getD 8 undef=y 8:=rfl
 have k9:(aY 92 y).getD 9 undef=y 9:=rfl
 have k10:(aY 92 y).getD 10 undef=y 10:=rfl
 rw [results76]
 simp only [au,List.mapM_cons,List.mapM_nil,dS,k8,k9,k10,h8,h9,h10]
 rfl
def Dk.at? (D:Dk) (ak gen:Nat) (at_:Int):Bool:=decide (0≤at_)&&decide (at_<(D.ar:Int))&&D.bg ak gen at_.toNat
set_option maxRecDepth 100000 in
theorem r76 {ak gen:Nat} {at_:Int} (ha:ak≤1) :
  (D.at? ak gen at_=false ∧ ∃ h',CD 76 [v,aq ak,.int .u64 (gen:Int),.int .i64 at_] h0=some (.tuple #[.slice none 0 0,.int .i64 0,.bool false],h')∧Old h0 h') ∨
  (D.at? ak gen at_=true ∧ ∃ w h',CD 76 [v,aq ak,.int .u64 (gen:Int),.int .i64 at_] h0=some (.tuple #[w,aq (D.parts ak at_.toNat),.bool true],h')∧Old h0 h'∧dr h' h0.next w (D.data ak at_.toNat (D.parts ak at_.toNat))):=by
 have x':=x0
 obtain ⟨a,c,g,rfl,b1,b2,b3,b4,_⟩:=dZ x0
 have hn0:=h0.aH
 have har:D.ar=(D.n-2)/2:=rfl
 have B6:Box6 g h0.next (.agg (S.cells (.slice a S.aW.length c)).toArray):=⟨_,b2,rfl,rfl,bH _ _ _ _⟩
 obtain ⟨g1,e46,o1⟩:=r46 (x'.bJ b3) hi hl h4 hn
 have e46:CD 46 [.agg (S.cells (.slice a S.aW.length c)).toArray] g=some (aq D.ar,g1):=e46
 have B61:=B6.aC o1 (fun h=>h)
 have hlss:bin Try.prog .lss 3 (.int .i64 at_) (.int .i64 0)=some (.bool (decide (at_<0))):=bT ..
 have hgeq:bin Try.prog .geq 3 (.int .i64 at_) (aq D.ar)=some (.bool (decide (at_≥(D.ar:Int)))):=eR ..
 have up76 : ∀ r,t76 CD (.agg (S.cells (.slice a S.aW.length c)).toArray) (aq ak) (.int .u64 (gen:Int)) (.int .i64 at_) h0=some r→CD 76 [.agg (S.cells (.slice a S.aW.length c)).toArray,aq ak,.int .u64 (gen:Int),.int .i64 at_] h0=some r:=fun r hr=>aO is76 rfl ((t76_eq _ _ _ _ _ _).trans hr)
 have no : ∀ {P:Prop},D.at? ak gen at_=false→(∃ h',t76 CD (.agg (S.cells (.slice a S.aW.length c)).toArray) (aq ak) (.int .u64 (gen:Int)) (.int .i64 at_) h0=some (.tuple #[.slice none 0 0,.int .i64 0,.bool false],h')∧Old h0 h')→(D.at? ak gen at_=false ∧ ∃ h',CD 76 [.agg (S.cells (.slice a S.aW.length c)).toArray,aq ak,.int .u64 (gen:Int),.int .i64 at_] h0=some (.tuple #[.slice none 0 0,.int .i64 0,.bool false],h')∧Old h0 h')∨P:=by
  rintro P hf ⟨h',e,o⟩
  exact .inl ⟨hf,h',up76 _ e,o⟩
 by_cases c1:at_<0
 ·refine no (by unfold Dk.at?;rw [decide_eq_false (by omega)];rfl) ⟨g,?_,b3⟩
  unfold t76
  simp -implicitDefEqProofs only [b1,af,hlss,aj,decide_eq_true c1,ay,sf,aF,if_true]
 by_cases c2:at_≥(D.ar:Int)
 ·refine no (by unfold Dk.at?;rw [decide_eq_false (show ¬at_<(D.ar:Int) by omega),Bool.and_false];rfl) ⟨g1,?_,b3.trans o1⟩
  unfold t76
  simp -implicitDefEqProofs only [b1,af,hlss,aj,decide_eq_false c1,ay,beq_self_eq_true,aA,B6.ld,e46,hgeq,decide_eq_true c2,Bool.false_eq_true,if_false]
 obtain ⟨m,rfl⟩ : ∃ m:Nat,at_=m:=⟨at_.toNat,by omega⟩
 have hm:m<D.ar:=by omega
 rw [Int.toNat_natCast]
 have hat:D.at? ak gen (m:Int)=D.bg ak gen m:=by
  unfold Dk.at?
  rw [decide_eq_true (show (0:Int)≤(m:Int) by omega),decide_eq_true (show (m:Int)<(D.ar:Int) by omega),Int.toNat_natCast];rfl
 rw [hat] at no ⊢
 obtain ⟨aa,n,cc,q1,q2,e97,est,gq,o2,n1,n2,sb,fb⟩:=r97c hl h4 hn ((x'.bJ b3).bJ o1) hi ha hm
 have e97:CD 97 [.agg (S.cells (.slice a S.aW.length c)).toArray,aq ak,.int .i64 (m:Int)] g1=some (.agg (logL m (D.jb ak m) (.slice aa n cc)).toArray,q1):=e97
 have B62:=B61.aC o2 (fun h=>h)
 have o02:=(b3.trans o1).trans o2
 obtain ⟨q3,e46b,o3⟩:=r46 (x'.bJ o02) hi hl h4 hn
 have e46b:CD 46 [.agg (S.cells (.slice a S.aW.length c)).toArray] q2=some (aq D.ar,q3):=e46b
 have o03:=o02.trans o3
 obtain ⟨l0,lrest⟩:=logL_lds gq
 have gq3:=Old.get o3 gq
 obtain ⟨l0',lrest'⟩:=logL_lds gq3
 have hsub:bin Try.prog .sub 3 (aq D.ar) (.int .i64 (m:Int))=some (aq (D.ar-m)):=sub3 (by omega) (by omega)
 have hp0 : ∀ P,D.part ak gen m P 0=(db m (D.jb ak m)&&(bG (D.jb ak m)==gen)&&(bz (D.jb ak m)==0)&&(aP (D.jb ak m)==P)):=fun P=>rfl
 have hPd:D.parts ak m=aP (D.jb ak m):=rfl
 have hne0 : ∀ p:Nat,bin Try.prog .neq 3 (aq p) (.int .i64 0)=some (.bool (!(p==0))):=fun p=>bin3n p 0
 have hfail:D.part ak gen m (D.parts ak m) 0=false→D.bg ak gen m=false:=fun hf=>Dk.iw (i:=0) (by omega) hf
 have ckt : ∀ o:Out,∀ w,cE false o w=true:=fun _ _=>rfl
 cases hc1:db m (D.jb ak m) with
 |false=>
  refine no (hfail (by rw [hp0,hc1];rfl)) ⟨q2,?_,o02⟩
  unfold t76
  simp -implicitDefEqProofs only [b1,af,hlss,aj,decide_eq_false c1,ay,beq_self_eq_true,aA,B6.ld,e46,hgeq,decide_eq_false c2,Bool.false_eq_true,if_false,B61.ld,e97,new5,est,ax,Nat.zero_add,l0,hc1,cC,Bool.not_false,sf,aF,if_true,ckt,Bool.and_true]
 |true=>
  obtain ⟨l1,l2,l3,_⟩:=lrest hc1
  obtain ⟨_,_,l3',_⟩:=lrest' hc1
  cases hc2:(bG (D.jb ak m)==gen) with
  |false=>
   refine no (hfail (by rw [hp0,hc1,hc2];rfl)) ⟨q2,?_,o02⟩
   unfold t76
   simp -implicitDefEqProofs only [b1,af,hlss,aj,decide_eq_false c1,ay,beq_self_eq_true,aA,B6.ld,e46,hgeq,decide_eq_false c2,Bool.false_eq_true,if_false,B61.ld,e97,new5,est,ax,Nat.zero_add,l0,hc1,cC,Bool.not_true,l1,bin58n,hc2,Bool.not_false,sf,aF,if_true,ckt,Bool.and_true]
  |true=>
   cases hc3:(bz (D.jb ak m)==0) with
   |false=>
    refine no (hfail (by rw [hp0,hc1,hc2,hc3];rfl)) ⟨q2,?_,o02⟩
    unfold t76
    simp -implicitDefEqProofs only [b1,af,hlss,aj,decide_eq_false c1,ay,beq_self_eq_true,aA,B6.ld,e46,hgeq,decide_eq_false c2,Bool.false_eq_true,if_false,B61.ld,e97,new5,est,ax,Nat.zero_add,l0,hc1,cC,Bool.not_true,l1,bin58n,hc2,l2,hne0,hc3,Bool.not_false,sf,aF,if_true,ckt,Bool.and_true]
   |true=>
    have ck3:cE true (some (aq (aP (D.jb ak m)),q3)) (aq (aP (D.jb ak m)))=true:=dJ rfl (by simp [aq,veq])
    by_cases c4:D.ar-m<aP (D.jb ak m)
    ·refine no (by unfold Dk.bg;rw [hPd,decide_eq_false (by omega)];rfl) ⟨q3,?_,o03⟩
     unfold t76
     simp -implicitDefEqProofs only [b1,af,hlss,aj,decide_eq_false c1,ay,beq_self_eq_true,aA,B6.ld,e46,hgeq,decide_eq_false c2,Bool.false_eq_true,if_false,B61.ld,e97,new5,est,ax,Nat.zero_add,l0,hc1,cC,Bool.not_true,l1,bin58n,hc2,l2,hne0,hc3,l3,B62.ld,e46b,hsub,gtr3,decide_eq_true c4,l3',ck3,Bool.and_true]
    ·have oA:Old q3 (q3.alloc []):=Kept.alloc _ _ _
     have nA:(q3.alloc []).next=q3.next+1:=ah.aS ..
     have hq2:=o1.next;have hq3:=o3.next
     have F3:Fld (q3.alloc []) q1.next 3 (aq (aP (D.jb ak m))):=by
      refine ⟨_,Old.get oA gq3,?_⟩
      unfold logL;rw [hc1,if_pos rfl];rfl
     have B6A:=(B62.aC o3 (fun h=>h)).aC oA (fun h=>h)
     have ownE:dr (q3.alloc []) q3.next (.slice (some ⟨q3.next,0,none⟩) 0 0) []:=⟨cw.empty _ (Nat.le_refl _),by simp⟩
     have key : ∀ o,t76 CD (.agg (S.cells (.slice a S.aW.length c)).toArray) (aq ak) (.int .u64 (gen:Int)) (.int .i64 (m:Int)) h0=o→(D.bg ak gen m=false ∧ ∃ h',o=some (.tuple #[.slice none 0 0,.int .i64 0,.bool false],h')∧Old h0 h') ∨
       (D.bg ak gen m=true ∧ ∃ w h',o=some (.tuple #[w,aq (D.parts ak m),.bool true],h')∧Old h0 h'∧dr h' h0.next w (D.data ak m (D.parts ak m))):=by
      intro o ho
      subst ho
      unfold t76
      simp -implicitDefEqProofs only [b1,af,hlss,aj,decide_eq_false c1,ay,beq_self_eq_true,aA,B6.ld,e46,hgeq,decide_eq_false c2,Bool.false_eq_true,if_false,B61.ld,e97,new5,est,ax,Nat.zero_add,l0,hc1,cC,Bool.not_true,l1,bin58n,hc2,l2,hne0,hc3,l3,B62.ld,e46b,hsub,gtr3,decide_eq_false c4,l3',ck3,Bool.and_true,bsl_bytes]
      refine cn (Q:=fun (o:Out)=>(D.bg ak gen m=false ∧ ∃ h',o=some (.tuple #[.slice none 0 0,.int .i64 0,.bool false],h')∧Old h0 h') ∨
       (D.bg ak gen m=true ∧ ∃ w h',o=some (.tuple #[w,aq (D.parts ak m),.bool true],h')∧Old h0 h'∧dr h' h0.next w (D.data ak m (D.parts ak m))))
       (cg (t76l76_11111010_eq CD) (st_round hl h4 hn x' hi (N:=q3.next) (bx:=h0.next) (f:=q1.next) (ak:=ak) (gen:=gen) (at_:=m) (P:=aP (D.jb ak m)) ha (by omega)) (aP (D.jb ak m)) (by have:rounds=18446744073709551616:=rfl;omega)
        ⟨0,rfl,rfl,rfl,rfl,rfl,B6A,F3,by omega,by omega,by omega,by rw [oA.n0,o03.n0];have:=o03.next;omega,rfl,by omega,by omega,ownE,o03.trans oA,o03.next,by omega⟩) ?_
      rintro ex y g4 ⟨hold,⟨rfl,y8,y9,bM,i,hiP,hpf⟩|⟨rfl,bY,F4,own,hall⟩⟩
      ·refine .inl ⟨Dk.iw (.inl (show i<D.parts ak m from hiP)) hpf,g4,st_false y g4 y8 y9 bM,hold⟩
      ·have hok:=hc1
       unfold db at hok
       simp only [Bool.and_eq_true,decide_eq_true_eq] at hok
       refine .inr ⟨?_,y 12,g4,?_,hold,?_⟩
       ·unfold Dk.bg
        rw [hPd,decide_eq_true (show m+aP (D.jb ak m)≤D.ar by omega),decide_eq_true hok.1.1.2]
        simp only [Bool.true_and,List.all_eq_true,List.mem_range]
        exact hall
       ·simp -implicitDefEqProofs only [bA,b76_exit,t76k76_10_eq]
        unfold t76k76_10
        simp -implicitDefEqProofs only [af,bY,ax,Nat.zero_add,aj,F4.ld,hPd]
       ·have:=o03.next
        exact ⟨⟨own.own.1,own.own.2.1,own.own.2.2.1,by
         rcases own.own.2.2.2 with h|⟨b,s,k1,k2,k3⟩
         ·exact .inl h
         ·exact .inr ⟨b,s,k1,by omega,k3⟩⟩,own.byte⟩
     rcases key _ rfl with ⟨k1,h',k2,k3⟩|⟨k1,w,h',k2,k3,k4⟩
     ·exact .inl ⟨k1,h',up76 _ k2,k3⟩
     ·exact .inr ⟨k1,w,h',up76 _ k2,k3,k4⟩
end
end
end Go.Proofs.Ytcmfgmhadeeieaa

namespace Go.Proofs.Ytcmfgmhadeeieaa
open Go Go.Abs
theorem is67:cA Try.prog 67 Try.f67:=⟨by kernel_rfl,by kernel_rfl,by kernel_rfl,by kernel_rfl⟩
theorem is66:cA Try.prog 66 Try.f66:=⟨by kernel_rfl,by kernel_rfl,by kernel_rfl,by kernel_rfl⟩
theorem b67_exit (C:al) (e:Env) (h:ah):b67_8 C 0 e h=k67_6 C e h:=rfl
theorem b66_exit (C:al) (e:Env) (h:ah):b66_4 C 0 e h=k66_2 C e h:=rfl
theorem b66_exit2 (C:al) (e:Env) (h:ah):b66_14 C 2 e h=k66_8 C e h:=rfl
theorem openJ_area (D:Dk) (t:Int):(D.cz t).ak≤1:=by
 have h:=openJ_act D t
 split at h
 ·rename_i hk
  simp only [Prod.mk.injEq] at h
  rw [h.2.2];exact superArea_le hk.1
 ·split at h
  ·rename_i hk
   simp only [Prod.mk.injEq] at h
   rw [h.2.2];exact superArea_le hk
  ·simp only [Prod.mk.injEq] at h
   rw [h.2.2];omega
theorem Dk.ents_neg {D:Dk} {J:Jn} (hs:J.slot<0) : ∀ k at_,D.dC J k at_ = []
 | 0,_=>rfl
 |k+1,at_=>by
  unfold Dk.dC
  by_cases hat:at_<D.ar
  ·rw [if_pos hat,Jn.gu hat,decide_eq_false (by omega),Bool.false_and,if_neg (by decide)]
   exact Dk.ents_neg hs k _
  ·rw [if_neg hat]
section
variable {D:Dk} (hl:D.aW.length=128*D.n) (h4:4≤D.n) (hn:D.n≤4096)
include hl h4 hn
section
variable {h0:ah} {F:Nat→Prop} {v:Value} {S:Rf} (x0:cM h0 F v S) (hi:S.aW=D.aW)
def enInv (h0:ah) (N bx f:Nat) (v:Value) (D:Dk) (J:Jn) (k:Nat) (y:Nat→Value) (g:ah):Prop:=
 ∃ at_ cells done,y 1=ptr bx 0∧y 4=ptr f 0∧y 6=aq at_∧Box6 g bx v∧Fld g f 2 (aq J.ak)∧Fld g f 1 (.int .u64 (J.gen:Int))∧bx<N∧f<N∧N≤g.next∧g.n0≤N ∧
   cw g N 2 (y 5) done.length cells∧dK g N cells done∧Old h0 g∧h0.next≤N∧at_≤D.ar∧D.ar≤at_+k∧done++D.dC J k at_=D.dC J D.ar 0∧done.length≤at_
def enFin (h0:ah) (N:Nat) (D:Dk) (J:Jn) (ex:Ex) (y:Nat→Value) (g:ah):Prop:=
 ex = .exit 0 ∧ ∃ cells,cw g N 2 (y 5) (D.dC J D.ar 0).length cells∧dK g N cells (D.dC J D.ar 0)∧Old h0 g
include x0 hi
theorem en_round {N bx f:Nat} {J:Jn} (ha:J.ak≤1) (hs:0≤J.slot) : ∀ k y g,enInv h0 N bx f v D J k y g→cY 48 (enInv h0 N bx f v D J) (enFin h0 N D J) k (iN CD y g):=by
 rintro k y g ⟨at_,cells,done,i1,i4,i6,B6,F2,F1,hbx,hf,hN,hn0,own,E,hold,h0N,hle,hk,hents,hdl⟩
 have har:D.ar=(D.n-2)/2:=rfl
 obtain ⟨g1,e46,o1⟩:=r46 (x0.bJ hold) hi hl h4 hn
 have B61:=B6.aC o1 (fun h=>h)
 have F21:=F2.aC o1 (fun h=>h)
 have F11:=F1.aC o1 (fun h=>h)
 unfold iN
 simp -implicitDefEqProofs only [i6,i1,B6.ld,e46,fT,af,aj]
 by_cases hlt:at_<D.ar
 ·obtain ⟨q,rfl⟩ : ∃ q,k=q+1:=⟨k-1,by omega⟩
  have hx0 : ∀ a b c:Value,aD (.tuple #[a,b,c]) 0=some a:=fun _ _ _=>rfl
  have hx1 : ∀ a b c:Value,aD (.tuple #[a,b,c]) 1=some b:=fun _ _ _=>rfl
  have hx2 : ∀ a b c:Value,aD (.tuple #[a,b,c]) 2=some c:=fun _ _ _=>rfl
  have hents2:D.dC J (q+1) at_=if J.bg D at_ then (at_,D.data J.ak at_ (D.parts J.ak at_))::D.dC J q (at_+D.parts J.ak at_) else D.dC J q (at_+1):=by
   show (if at_<D.ar then _ else _)=_
   rw [if_pos hlt]
  have hst:D.at? J.ak J.gen (at_:Int)=J.bg D at_:=by
   rw [Jn.gu hlt,decide_eq_true hs,Bool.true_and]
   unfold Dk.at?
   rw [decide_eq_true (show (0:Int)≤(at_:Int) by omega),decide_eq_true (show (at_:Int)<(D.ar:Int) by omega),Int.toNat_natCast];rfl
  have r:=r76 hl h4 hn ((x0.bJ hold).bJ o1) hi (ak:=J.ak) (gen:=J.gen) (at_:=(at_:Int)) ha
  rw [hents2] at hents
  rw [hst] at r
  rw [Int.toNat_natCast] at r
  have nx1:=o1.next
  rcases r with ⟨hs0,g2,e76,o2⟩|⟨hs1,w,g2,e76,o2,ob⟩
  ·rw [hs0] at hents
   have e76:CD 76 [v,aq J.ak,.int .u64 (J.gen:Int),aq at_] g1=some (.tuple #[.slice none 0 0,.int .i64 0,.bool false],g2):=e76
   have nx2:=o2.next
   simp -implicitDefEqProofs only [decide_eq_true hlt,B61.ld,i4,ax,Nat.zero_add,F21.ld,F11.ld,e76,hx0,hx1,hx2,aj,af,cC,Bool.not_false,ef (show at_+1≤9223372036854775807 by omega)]
   have o12:=o1.trans o2
   refine cY.next q (by omega) ⟨at_+1,cells,done,i1,i4,rfl,B6.aC o12 (fun h=>h),F2.aC o12 (fun h=>h),F1.aC o12 (fun h=>h),hbx,hf,by omega,by rw [o12.n0];exact hn0,own.aC o12 (fun _ _ h=>h),E.aC o12 (fun _ h=>h.elim),hold.trans o12,h0N,by omega,by omega,hents,by omega⟩
  ·rw [hs1,if_pos rfl] at hents
   have hpos:1≤D.parts J.ak at_∧at_+D.parts J.ak at_≤D.ar:=by
    rw [Jn.gu hlt,Bool.and_eq_true] at hs1
    exact Dk.stands_pos hs1.2
   have e76:CD 76 [v,aq J.ak,.int .u64 (J.gen:Int),aq at_] g1=some (.tuple #[w,aq (D.parts J.ak at_),.bool true],g2):=e76
   generalize hp:D.parts J.ak at_=p at *
   generalize hdat:D.data J.ak at_ p=l at *
   obtain ⟨a,c,rfl,s1,s2,s3,s4⟩:=ob.bytes
   have hbl:fU [(.int .i64 0),(.slice none 0 0)] [(0,1,aq at_),(1,1,.slice a l.length c)]=some (.agg [aq at_,.slice a l.length c].toArray):=rfl
   have hbs:cX 2 (.agg #[(.int .i64 0),(.slice none 0 0)]) 1 [(0,.agg [aq at_,.slice a l.length c].toArray)] g2=some (.slice (some ⟨g2.next,0,none⟩) 1 1,g2.alloc [aq at_,.slice a l.length c]):=rfl
   have oA:Old g2 (g2.alloc [aq at_,.slice a l.length c]):=Kept.alloc _ _ _
   have gA:(g2.alloc [aq at_,.slice a l.length c]).get g2.next=some [aq at_,.slice a l.length c]:=by rw [ah.aE,if_pos rfl]
   have oo:=(o1.trans o2).trans oA
   have ownA:=own.aC oo (fun _ _ h=>h)
   have EA:=E.aC oo (fun _ h=>h.elim)
   have holdA:Old h0 (g2.alloc [aq at_,.slice a l.length c]):=hold.trans oo
   have sA:=Old.bytes oA s1
   have nxo:=oo.next
   have B6A:=B6.aC oo (fun h=>h)
   have F2A:=F2.aC oo (fun h=>h)
   have F1A:=F1.aC oo (fun h=>h)
   generalize hgA:g2.alloc [aq at_,.slice a l.length c]=gA1 at *
   have hfA:bW 2 1 (.slice (some ⟨g2.next,0,none⟩) 1 1) gA1=some [aq at_,.slice a l.length c]:=by
    simp only [bW,gA]
    rfl
   obtain ⟨v',g4,f1,f2,f3,f4⟩:=im (by_:=32) (x := .slice (some ⟨g2.next,0,none⟩) 1 1) (m:=1) ownA (by rw [oo.n0];exact hn0) (by omega) (by decide) rfl hfA rfl rfl rfl (by omega) (by omega)
   have pl : ∀ b,cF (y 5)=some b∧gA1.get b=some cells→dq gA1 b:=fun b hb=>⟨cells,hb.2,EA.plain⟩
   have s5:=f3.ea pl sA
   have E5:=EA.aC f3 pl
   have hbase : ∀ b,cF (y 5)=some b∧gA1.get b=some cells→N≤b:=fun b hb=>ownA.base hb.1
   have nx4:=f3.next
   simp -implicitDefEqProofs only [decide_eq_true hlt,B61.ld,i4,ax,Nat.zero_add,F21.ld,F11.ld,e76,hx0,hx1,hx2,aj,af,cC,Bool.not_true,hbl,hbs,f1,gY (show at_+p≤9223372036854775807 by omega)]
   refine cY.next q (by omega) ⟨at_+p,cells ++ [aq at_,.slice a l.length c],done ++ [(at_,l)],i1,i4,rfl,B6A.aC f3 (fun hb=>by have:=hbase _ hb;omega),F2A.aC f3 (fun hb=>by have:=hbase _ hb;omega),F1A.aC f3 (fun hb=>by have:=hbase _ hb;omega),hbx,hf,by omega,by rw [f3.n0,oo.n0];exact hn0,?_,E5.snoc s5 s2 (fun y hy _=>by have:=s3 y hy;omega),?_,h0N,by omega,by omega,?_,?_⟩
   ·rw [List.length_append];exact f2
   ·exact holdA.bS f3 (fun c hc hb=>by have:=hbase c hb;omega)
   ·rw [List.append_assoc];exact hents
   ·rw [List.length_append]
    show done.length+1≤_
    omega
 ·simp -implicitDefEqProofs only [decide_eq_false hlt]
  rw [D.ents_end (by omega) k,List.append_nil] at hents
  refine cY.out 0 ⟨rfl,cells,?_,?_,hold.trans o1⟩
  ·rw [←hents];exact own.aC o1 (fun _ _ h=>h)
  ·rw [←hents];exact E.aC o1 (fun _ h=>h.elim)
set_option maxRecDepth 100000 in
theorem r67 (t:Int) : ∃ w cells h',CD 67 [v] h0=some (w,h')∧cw h' h0.next 2 w (D.dC (D.cz t) D.ar 0).length cells∧dK h' h0.next cells (D.dC (D.cz t) D.ar 0)∧Old h0 h':=by
 have x':=x0
 have har:D.ar=(D.n-2)/2:=rfl
 obtain ⟨a,c,g,rfl,b1,b2,b3,b4,_⟩:=dZ x0
 have hn0:=h0.aH
 have B6:Box6 g h0.next (.agg (S.cells (.slice a S.aW.length c)).toArray):=⟨_,b2,rfl,rfl,bH _ _ _ _⟩
 obtain ⟨ok,g1,e65,o1⟩:=r65 (x'.bJ b3) hi hl h4 hn t
 have ha:=openJ_area D t
 generalize D.cz t=J at *
 have e65:CD 65 [.agg (S.cells (.slice a S.aW.length c)).toArray] g=some (.tuple #[.int .i64 J.slot,.agg #[.bool ok,.int .u64 ((J.gen:Nat):Int),aq J.ak]],g1):=e65
 have hx0 : ∀ a b:Value,aD (.tuple #[a,b]) 0=some a:=fun _ _=>rfl
 have hx1 : ∀ a b:Value,aD (.tuple #[a,b]) 1=some b:=fun _ _=>rfl
 have hnew:dB [(.bool false),(.int .u64 0),(.int .i64 0)] g1=some (ptr g1.next 0,g1.alloc [(.bool false),(.int .u64 0),(.int .i64 0)]):=rfl
 have oz:Old g1 (g1.alloc [(.bool false),(.int .u64 0),(.int .i64 0)]):=Kept.alloc _ _ _
 have gz:(g1.alloc [(.bool false),(.int .u64 0),(.int .i64 0)]).get g1.next=some [(.bool false),(.int .u64 0),(.int .i64 0)]:=by rw [ah.aE,if_pos rfl]
 have nz:(g1.alloc [(.bool false),(.int .u64 0),(.int .i64 0)]).next=g1.next+1:=ah.aS ..
 generalize g1.alloc [(.bool false),(.int .u64 0),(.int .i64 0)]=q0 at *
 have o02:=(b3.trans o1).trans oz
 have nx1:=o1.next
 obtain ⟨u1,_,u3,u4⟩:=iK (n:=3) (k' := [.bool ok,.int .u64 ((J.gen:Nat):Int),aq J.ak]) gz (by rw [o02.n0];omega) rfl rfl rfl rfl
 have B61:=((B6.aC o1 (fun h=>h)).aC oz (fun h=>h)).aC u4 (fun e=>by omega)
 have F1:Fld (q0.set g1.next [.bool ok,.int .u64 ((J.gen:Nat):Int),aq J.ak]) g1.next 1 (.int .u64 (J.gen:Int)):=⟨_,u3,rfl⟩
 have F2:Fld (q0.set g1.next [.bool ok,.int .u64 ((J.gen:Nat):Int),aq J.ak]) g1.next 2 (aq J.ak):=⟨_,u3,rfl⟩
 have o03:Old h0 (q0.set g1.next [.bool ok,.int .u64 ((J.gen:Nat):Int),aq J.ak]):=o02.bS u4 (fun c hc e=>by omega)
 have nx3:=u4.next
 generalize q0.set g1.next [.bool ok,.int .u64 ((J.gen:Nat):Int),aq J.ak]=q1 at *
 have hbs:cX 2 (.agg #[(.int .i64 0),(.slice none 0 0)]) 0 [] q1=some (.slice (some ⟨q1.next,0,none⟩) 0 0,q1.alloc []):=rfl
 have oA:Old q1 (q1.alloc []):=Kept.alloc _ _ _
 have nA:(q1.alloc []).next=q1.next+1:=ah.aS ..
 have hlss:bin Try.prog .lss 3 (.int .i64 J.slot) (.int .i64 0)=some (.bool (decide (J.slot<0))):=bT ..
 have key : ∀ o,t67 CD (.agg (S.cells (.slice a S.aW.length c)).toArray) h0=o → ∃ w cells h',o=some (w,h')∧cw h' h0.next 2 w (D.dC J D.ar 0).length cells∧dK h' h0.next cells (D.dC J D.ar 0)∧Old h0 h':=by
  intro o ho
  subst ho
  unfold t67
  simp -implicitDefEqProofs only [b1,af,B6.ld,e65,hx0,hx1,aj,hnew,u1,hbs,hlss]
  by_cases hs:J.slot<0
  ·simp -implicitDefEqProofs only [decide_eq_true hs]
   refine ⟨_,[],_,rfl,?_,?_,o03.trans oA⟩
   ·rw [D.ents_neg hs];exact cw.empty _ (by omega)
   ·rw [D.ents_neg hs];exact dK.nil _ _
  ·simp -implicitDefEqProofs only [decide_eq_false hs]
   refine cn (Q:=fun (o:Out) => ∃ w cells h',o=some (w,h')∧cw h' h0.next 2 w (D.dC J D.ar 0).length cells∧dK h' h0.next cells (D.dC J D.ar 0)∧Old h0 h')
    (cg (t67l67_1111010_eq CD) (en_round hl h4 hn x' hi (N:=q1.next) (bx:=h0.next) (f:=g1.next) (J:=J) ha (by omega)) D.ar (by have:rounds=18446744073709551616:=rfl;omega)
     ⟨0,[],[],rfl,rfl,rfl,B61.aC oA (fun h=>h),F2.aC oA (fun h=>h),F1.aC oA (fun h=>h),by omega,by omega,by omega,by rw [oA.n0,o03.n0];omega,cw.empty _ (Nat.le_refl _),dK.nil _ _,o03.trans oA,by omega,by omega,by omega,rfl,Nat.le_refl _⟩) ?_
   rintro ex y g4 ⟨rfl,cells,own,E,hold⟩
   have hN:h0.next≤q1.next:=by omega
   refine ⟨y 5,cells,g4,?_,?_,?_,hold⟩
   ·simp -implicitDefEqProofs only [bA,b67_exit,t67k67_6_eq]
    unfold t67k67_6
    simp -implicitDefEqProofs only [af]
   ·refine ⟨own.1,own.2.1,own.2.2.1,?_⟩
    rcases own.2.2.2 with h|⟨b,s,k1,k2,k3⟩
    ·exact .inl h
    ·exact .inr ⟨b,s,k1,by omega,k3⟩
   ·refine ⟨E.1,fun i e he => ?_⟩
    obtain ⟨h1,a',n',c',h2,h3,h5,h6⟩:=E.2 i e he
    exact ⟨h1,a',n',c',h2,h3,h5,fun y hy hn=>Nat.le_trans hN (h6 y hy hn)⟩
 obtain ⟨w,cells,h',e,r⟩:=key _ rfl
 exact ⟨w,cells,h',aO is67 rfl ((t67_eq _ _ _).trans e),r⟩
end
end
end Go.Proofs.Ytcmfgmhadeeieaa

namespace Go.Proofs.Ytcmfgmhadeeieaa
open Go Go.Abs
section
variable {D:Dk} (hl:D.aW.length=128*D.n) (h4:4≤D.n) (hn:D.n≤4096)
include hl h4 hn
section
variable {h0:ah} {F:Nat→Prop} {v:Value} {S:Rf} (x0:cM h0 F v S) (hi:S.aW=D.aW)
def glInv (h0:ah) (bx s:Nat) (v:Value) (D:Dk) (T:Jn) (k:Nat) (y:Nat→Value) (g:ah):Prop:=
 ∃ at_ J,y 1=ptr bx 0∧y 4=aq s∧y 6=aq at_∧y 3 = .int .u64 ((Jn.known J:Nat):Int)∧Box6 g bx v∧at_+k=D.ar∧Old h0 g∧Jn.dx D s k at_ J=T
def glFin (h0:ah) (bx s:Nat) (v:Value) (T:Jn) (ex:Ex) (y:Nat→Value) (g:ah):Prop:=
 ex = .exit 2∧y 1=ptr bx 0∧y 4=aq s∧y 3 = .int .u64 ((Jn.known T:Nat):Int)∧Box6 g bx v∧Old h0 g
include x0 hi
theorem gl_round {bx s:Nat} {T:Jn} (hs:s≤1) : ∀ k y g,glInv h0 bx s v D T k y g→cY 46 (glInv h0 bx s v D T) (glFin h0 bx s v T) k (ff CD y g):=by
 rintro k y g ⟨at_,J,i1,i4,i6,i3,B6,hk,hold,htar⟩
 have har:D.ar=(D.n-2)/2:=rfl
 obtain ⟨g1,e46,o1⟩:=r46 (x0.bJ hold) hi hl h4 hn
 have B61:=B6.aC o1 (fun h=>h)
 unfold ff
 simp -implicitDefEqProofs only [i6,i1,B6.ld,e46,fT,af,aj]
 by_cases hz:k=0
 ·subst hz
  simp -implicitDefEqProofs only [decide_eq_false (show ¬at_<D.ar by omega)]
  have hT:J=T:=htar
  subst hT
  exact cY.out 2 ⟨rfl,i1,i4,i3,B61,hold.trans o1⟩
 ·obtain ⟨q,rfl⟩ : ∃ q,k=q+1:=⟨k-1,by omega⟩
  obtain ⟨a,n,c,q1,q2,e97,est,gq,o2,n1,n2,sb,fb⟩:=r97c hl h4 hn ((x0.bJ hold).bJ o1) hi hs (show at_<D.ar by omega)
  have o12:=o1.trans o2
  obtain ⟨l0,lrest⟩:=logL_lds gq
  have htar2:Jn.dx D s q (at_+1) (J.eZ D s at_)=T:=htar
  simp -implicitDefEqProofs only [decide_eq_true (show at_<D.ar by omega),B61.ld,i4,af,e97,new5,est,ax,Nat.zero_add,aj,l0,ay]
  cases hc:db at_ (D.jb s at_) with
  |false=>
   have hsee:J.eZ D s at_=J:=by unfold Jn.eZ;rw [hc];rfl
   rw [hsee] at htar2
   simp -implicitDefEqProofs only [fs,aF,af,Bool.false_eq_true,if_false,ef (show at_+1≤9223372036854775807 by omega),aj]
   exact cY.next q (by omega) ⟨at_+1,J,i1,i4,rfl,i3,B6.aC o12 (fun h=>h),by omega,hold.trans o12,htar2⟩
  |true=>
   have hsee:J.eZ D s at_={ J with known:=max J.known (bG (D.jb s at_)) }:=by unfold Jn.eZ;rw [hc];rfl
   obtain ⟨l1,_,_,_⟩:=lrest hc
   rw [hsee] at htar2
   simp -implicitDefEqProofs only [beq_self_eq_true,aA,af,if_true,aj,l1,i3,gtr58]
   by_cases hg:J.known<bG (D.jb s at_)
   ·simp -implicitDefEqProofs only [decide_eq_true hg,af,aj,ax,Nat.zero_add,l1,ef (show at_+1≤9223372036854775807 by omega)]
    exact cY.next q (by omega) ⟨at_+1,_,i1,i4,rfl,by show Value.int .u64 _=Value.int .u64 ((max J.known (bG (D.jb s at_)):Nat):Int);rw [Nat.max_eq_right (by omega)],B6.aC o12 (fun h=>h),by omega,hold.trans o12,htar2⟩
   ·simp -implicitDefEqProofs only [decide_eq_false hg,af,aj,ax,Nat.zero_add,ef (show at_+1≤9223372036854775807 by omega)]
    exact cY.next q (by omega) ⟨at_+1,_,i1,i4,rfl,by show y 3=Value.int .u64 ((max J.known (bG (D.jb s at_)):Nat):Int);rw [Nat.max_eq_left (by omega),i3],B6.aC o12 (fun h=>h),by omega,hold.trans o12,htar2⟩
def grInv (h0:ah) (bx:Nat) (v:Value) (D:Dk) (t:Int) (k:Nat) (y:Nat→Value) (g:ah):Prop:=
 ∃ s J,y 1=ptr bx 0∧y 4=aq s∧y 3 = .int .u64 ((Jn.known J:Nat):Int)∧Box6 g bx v∧s+k=2∧Old h0 g∧((s=0∧J=D.jn0 t)∨(s=1∧J=(D.jn0 t).dV D 0)∨(s=2∧J=D.cz t))
def grFin (h0:ah) (D:Dk) (t:Int) (ex:Ex) (y:Nat→Value) (g:ah):Prop:=
 ex = .exit 0∧y 3 = .int .u64 (((D.cz t).known:Nat):Int)∧Old h0 g
theorem gr_round {bx:Nat} (t:Int) : ∀ k y g,grInv h0 bx v D t k y g→cY 46 (grInv h0 bx v D t) (grFin h0 D t) k (t66l66_11010 CD y g):=by
 rintro k y g ⟨s,J,i1,i4,i3,B6,hk,hold,hcase⟩
 have har:D.ar=(D.n-2)/2:=rfl
 have hlt2:bin Try.prog .lss 3 (aq s) (.int .i64 2)=some (.bool (decide (s<2))):=fT s 2
 unfold t66l66_11010
 simp -implicitDefEqProofs only [i4,hlt2,af,aj]
 by_cases hs:s<2
 ·obtain ⟨g1,e96,o1⟩:=r96 (x0.bJ hold) hi hl h4 hn hs
  have hnew:dB [(.bool false),(.int .u64 0),(.int .i64 0)] g1=some (ptr g1.next 0,g1.alloc [(.bool false),(.int .u64 0),(.int .i64 0)]):=rfl
  have oz:Old g1 (g1.alloc [(.bool false),(.int .u64 0),(.int .i64 0)]):=Kept.alloc _ _ _
  have gz:(g1.alloc [(.bool false),(.int .u64 0),(.int .i64 0)]).get g1.next=some [(.bool false),(.int .u64 0),(.int .i64 0)]:=by rw [ah.aE,if_pos rfl]
  have n0:(g1.alloc [(.bool false),(.int .u64 0),(.int .i64 0)]).n0≤g1.next:=g1.aH
  generalize g1.alloc [(.bool false),(.int .u64 0),(.int .i64 0)]=q0 at *
  obtain ⟨u1,_,u3,u4⟩:=iK (n:=3) gz n0 rfl (eD (D.aX s)) (gh _) (ed _)
  have nx1:=o1.next
  have o2:Old g (q0.set g1.next (df (D.aX s))):=(o1.trans oz).bS u4 (fun c hc e=>by omega)
  generalize q0.set g1.next (df (D.aX s))=q1 at *
  have B61:=B6.aC o2 (fun h=>h)
  have hold1:=hold.trans o2
  have l0:ba (ptr g1.next 0) q1=some (.bool (bB (D.aX s)),q1):=aN u3 (by unfold df;split<;>simp_all) rfl
  have logs : ∀ (y':Nat→Value) (K:Jn),y' 1=ptr bx 0→y' 4=aq s→y' 6=aq 0→y' 3 = .int .u64 ((K.known:Nat):Int)→K=J.eE D s →
    cY 46 (grInv h0 bx v D t) (grFin h0 D t) k (dD (iter (aI Try.prog CD (partOf Try.f66 [1,1,0,1,0,0,1,0,0,1,1,0,0])) rounds (aY 46 y') q1) (fun e h=>some (Ex.ret,e,h)) (b66_14 CD)):=by
   intro y' K j1 j4 j6 j3 hK
   refine cn (Q:=fun o=>cY 46 (grInv h0 bx v D t) (grFin h0 D t) k o)
    (cg (t66l66_110100100110_eq CD) (gl_round hl h4 hn x0 hi (bx:=bx) (s:=s) (T:=Jn.dx D s D.ar 0 K) (by omega)) D.ar (by have:rounds=18446744073709551616:=rfl;omega)
     ⟨0,K,j1,j4,j6,j3,B61,by omega,hold1,rfl⟩) ?_
   rintro ex z g4 ⟨rfl,z1,z4,z3,Bz,hold4⟩
   simp -implicitDefEqProofs only [bA,b66_exit2,t66k66_8_eq]
   unfold t66k66_8
   simp -implicitDefEqProofs only [af,z4,ef (show s+1≤9223372036854775807 by omega),aj]
   refine cY.next (k-1) (by omega) ⟨s+1,Jn.dx D s D.ar 0 K,z1,rfl,z3,Bz,by omega,hold4,?_⟩
   rw [hK]
   rcases hcase with ⟨rfl,rfl⟩|⟨rfl,rfl⟩|⟨rfl,_⟩
   ·exact .inr (.inl ⟨rfl,rfl⟩)
   ·exact .inr (.inr ⟨rfl,rfl⟩)
   ·omega
  simp -implicitDefEqProofs only [decide_eq_true hs,i1,B6.ld,af,e96,hnew,u1,ax,Nat.zero_add,aj,l0,ay]
  have hJ:J.eE D s=if bB (D.aX s)=true then { J.ct D s with known:=max J.known (bc (D.aX s)) } else J:=rfl
  cases hc:bB (D.aX s) with
  |false=>
   rw [hc,if_neg (by decide)] at hJ
   simp -implicitDefEqProofs only [fs,aF,af,Bool.false_eq_true,if_false]
   exact logs _ J i1 i4 rfl i3 hJ.symm
  |true=>
   rw [hc,if_pos rfl] at hJ
   have l1:ba (ptr g1.next 1) q1=some (.int .u64 ((bc (D.aX s):Nat):Int),q1):=aN u3 (by unfold df;rw [hc];rfl) rfl
   simp -implicitDefEqProofs only [beq_self_eq_true,aA,af,if_true,aj,l1,i3,gtr58]
   by_cases hg:J.known<bc (D.aX s)
   ·simp -implicitDefEqProofs only [decide_eq_true hg,af,aj,ax,Nat.zero_add,l1]
    exact logs _ { J.ct D s with known:=max J.known (bc (D.aX s)) } i1 i4 rfl (by show Value.int .u64 _=Value.int .u64 ((max J.known (bc (D.aX s)):Nat):Int);rw [Nat.max_eq_right (by omega)]) hJ.symm
   ·simp -implicitDefEqProofs only [decide_eq_false hg,af,aj,ax,Nat.zero_add]
    exact logs _ { J.ct D s with known:=max J.known (bc (D.aX s)) } i1 i4 rfl (by show y 3=Value.int .u64 ((max J.known (bc (D.aX s)):Nat):Int);rw [Nat.max_eq_left (by omega),i3]) hJ.symm
 ·simp -implicitDefEqProofs only [decide_eq_false hs]
  rcases hcase with ⟨rfl,_⟩|⟨rfl,_⟩|⟨rfl,rfl⟩
  ·omega
  ·omega
  ·exact cY.out 0 ⟨rfl,i3,hold⟩
theorem r66 (t:Int) : ∃ h',CD 66 [v] h0=some (.int .u64 (((D.cz t).known:Nat):Int),h')∧Old h0 h':=by
 have x':=x0
 obtain ⟨a,c,g,rfl,b1,b2,b3,b4,_⟩:=dZ x0
 have B6:Box6 g h0.next (.agg (S.cells (.slice a S.aW.length c)).toArray):=⟨_,b2,rfl,rfl,bH _ _ _ _⟩
 have key : ∀ o,t66 CD (.agg (S.cells (.slice a S.aW.length c)).toArray) h0=o → ∃ h',o=some (.int .u64 (((D.cz t).known:Nat):Int),h')∧Old h0 h':=by
  intro o ho
  subst ho
  unfold t66
  simp -implicitDefEqProofs only [b1,af]
  refine cn (Q:=fun (o:Out) => ∃ h',o=some (.int .u64 (((D.cz t).known:Nat):Int),h')∧Old h0 h')
   (cg (t66l66_11010_eq CD) (gr_round hl h4 hn x' hi (bx:=h0.next) t) 2 (by have:rounds=18446744073709551616:=rfl;omega) ⟨0,D.jn0 t,rfl,rfl,rfl,B6,rfl,b3,.inl ⟨rfl,rfl⟩⟩) ?_
  rintro ex y g4 ⟨rfl,y3,hold⟩
  refine ⟨g4,?_,hold⟩
  simp -implicitDefEqProofs only [bA,b66_exit,t66k66_2_eq]
  unfold t66k66_2
  simp -implicitDefEqProofs only [af,y3]
 obtain ⟨h',e,o⟩:=key _ rfl
 exact ⟨h',aO is66 rfl ((t66_eq _ _ _).trans e),o⟩
end
end
end Go.Proofs.Ytcmfgmhadeeieaa

namespace Go.Proofs.Ytcmfgmhadeeieaa
open Go Go.Abs
theorem is38:cA Try.prog 38 Try.f38:=⟨by kernel_rfl,by kernel_rfl,by kernel_rfl,by kernel_rfl⟩
theorem results38:Try.f38.results.toList = [.cell 2 63,.cell 3 70,.tmp 4,.tmp 5]:=by kernel_rfl
theorem ld70 (v:Value) (h:ah):ld Try.prog 70 v h=ch 8 v h:=by
 unfold ld
 rw [show aggT Try.prog 70=some true by kernel_rfl,show ei Try.prog 70=some 8 by kernel_rfl]
def iT:dW := [(.int .i64 0),(.int .i64 0),(.int .u64 0),(.int .i64 0),(.int .u64 0),(.bool false),(.int .i64 0),(.bool false)]
def iU:dW := [(.int .i64 0),(.int .i64 0),(.int .u64 0),(.int .i64 0),(.int .u64 0),(.bool false),(.int .i64 0),(.bool true)]
def Jn.rc (J:Jn):dW := [.int .i64 J.aU,.int .i64 J.slot,.int .u64 (J.gen:Int),aq J.ak,.int .u64 (J.known:Int),.bool J.ready,aq J.fin,.bool false]
theorem new8 (q:ah):dB [(.int .i64 0),(.int .i64 0),(.int .u64 0),(.int .i64 0),(.int .u64 0),(.bool false),(.int .i64 0),(.bool false)] q=some (ptr q.next 0,q.alloc iT):=rfl
theorem new6 (q:ah):dB [(.slice none 0 0),(.bool false),(.bool false),(.int .i64 0),(.int .i64 0),(.int .i64 0)] q=some (ptr q.next 0,q.alloc cy):=rfl
theorem res_c4 {rs:List ResultVar} {n k1 t1 m1 k2 t2 m2 p q:Nat} (hr:rs = [.cell k1 t1,.cell k2 t2,.tmp p,.tmp q]) (h1:k1<n) (h2:k2<n) (hp:p<n) (hq:q<n) (l1 : ∀ v h,ld Try.prog t1 v h=ch m1 v h) (l2 : ∀ v h,ld Try.prog t2 v h=ch m2 v h) (x:Nat→Value) {h:ah} {v w:Value} (e1:ch m1 (x k1) h=some (v,h)) (e2:ch m2 (x k2) h=some (w,h)) :
  au Try.prog rs (aY n x) h=some (.tuple #[v,w,x p,x q],h):=by
 subst hr
 simp only [au,List.mapM_cons,List.mapM_nil,dS,mkF_at h1,mkF_at h2,mkF_at hp,mkF_at hq,l1,l2,e1,e2]
 rfl
theorem z6_plain {h:ah} {b:Nat} (g:h.get b=some cy):dq h b:=⟨_,g,by
 intro v hv
 simp only [cy,List.mem_cons,List.not_mem_nil,or_false] at hv
 rcases hv with rfl|rfl|rfl|rfl|rfl|rfl<;>rfl⟩
theorem takeSuper_rest (D:Dk) (s:Nat) (J:Jn):(J.ct D s).aU=J.aU∧(J.ct D s).ready=J.ready∧(J.ct D s).fin=J.fin:=by
 unfold Jn.ct
 split<;>exact ⟨rfl,rfl,rfl⟩
theorem openJ_rest (D:Dk) (t:Int):(D.cz t).aU=t∧(D.cz t).ready=false∧(D.cz t).fin=0:=by
 have h:(D.cz t).un=_:=D.openJ_un t
 have h1:(D.cz t).aU=(D.cz t).un.aU:=rfl
 have h2:(D.cz t).ready=(D.cz t).un.ready:=rfl
 have h3:(D.cz t).fin=(D.cz t).un.fin:=rfl
 rw [h1,h2,h3,h]
 have a:=takeSuper_rest D 0 (D.jn0 t)
 have b:=takeSuper_rest D 1 (D.jn0 t)
 have c:=takeSuper_rest D 1 ((D.jn0 t).ct D 0)
 have z:(D.jn0 t).aU=t∧(D.jn0 t).ready=false∧(D.jn0 t).fin=0:=⟨rfl,rfl,rfl⟩
 split<;>split<;>simp only [a,b,c,z,and_self]
theorem veq_cells (S:Rf) (a:Option Addr) (n c:Nat):veq (.agg (S.cells (.slice a n c)).toArray) (.agg (S.cells (.slice a n c)).toArray)=true:=by simp [veq,veqL,Rf.cells]
section
variable {h:ah} {F:Nat→Prop} {v:Value} {S:Rf} (x:cM h F v S)
include x
end
section
variable {D:Dk} (hl:D.aW.length=128*D.n) (h4:4≤D.n) (hn:D.n≤4096)
variable {h:ah} {F:Nat→Prop} {v:Value} {S:Rf} (x:cM h F v S)
include hl h4 hn x
set_option maxRecDepth 100000 in
theorem r38 (hi:S.aW=D.aW) (hd:S.down=false) (ht:S.aU=D.aU) : ∃ v' w cells h',CD 38 [v] h=some (.tuple #[v',.agg D.jn.rc.toArray,w,.int .i64 0],h')∧cM h' F v' { S with aU:=D.opened.aU } ∧
  cw h' h.next 2 w D.entries.length cells∧dK h' h.next cells D.entries∧Old h h':=by
 have x':=x
 obtain ⟨a,c,g,rfl,b1,b2,b3,b4,b5,b6,b7,b8,b9,c1,c2,c3⟩:=dZ x
 have hn0:=h.aH
 have oE:Old (g.alloc cy) ((g.alloc cy).alloc iT):=Kept.alloc _ _ _
 have g2:=Old.get oE b6
 have g3:((g.alloc cy).alloc iT).get (g.alloc cy).next=some iT:=by rw [ah.aE,if_pos rfl]
 have nE:((g.alloc cy).alloc iT).next=(g.alloc cy).next+1:=ah.aS ..
 have hb1:=Old.get oE b8
 have oo:=b7.trans oE
 have e8:=new8 (g.alloc cy)
 rw [b9] at g3 e8 nE
 have n3:((g.alloc cy).alloc iT).n0≤h.next:=by rw [oo.n0];exact hn0
 generalize (g.alloc cy).alloc iT=q at *
 have l1:ba (ptr h.next 1) q=some (.bool false,q):=aN hb1 (by rw [←hd];rfl) rfl
 have l5:ba (ptr h.next 5) q=some (.int .i64 D.aU,q):=aN hb1 (by rw [←ht];rfl) rfl
 have hadd:bin Try.prog .add 3 (.int .i64 D.aU) (.int .i64 1)=some (.int .i64 D.opened.aU):=dL ..
 generalize hS':({ S with aU:=D.opened.aU }:Rf)=S'
 have hc':(S.cells (.slice a S.aW.length c)).set 5 (.int .i64 D.opened.aU)=S'.cells (.slice a S.aW.length c):=by subst hS';rfl
 have hi':S'.aW=D.opened.aW:=by subst hS';exact hi
 have hil:S'.aW=S.aW:=by subst hS';rfl
 have est:cf 1 (ptr h.next 5) (.int .i64 D.opened.aU) q=some (undef,q.set h.next (S'.cells (.slice a S.aW.length c))):=by
  rw [←hc'];exact dy hb1 (by show 5<6;decide) n3 rfl rfl
 obtain ⟨k1,k2⟩:=eT (k':=S'.cells (.slice a S.aW.length c)) hb1 n3
 have oo1:=oo.bS k1 (fun y hy e=>by omega)
 have g21:=k1.dp g2 (by omega)
 have g31:=k1.dp g3 (by omega)
 have nk:=k1.next
 generalize q.set h.next (S'.cells (.slice a S.aW.length c))=q1 at *
 have xS : ∀ {z:ah},Old h z→cM z F (.agg (S'.cells (.slice a S.aW.length c)).toArray) S':=fun o=>cM.put (S:=S) c1 c2 c3 o hil
 have B6:Box6 q1 h.next (.agg (S'.cells (.slice a S.aW.length c)).toArray):=⟨_,k2,rfl,rfl,bH _ _ _ _⟩
 have F5:Fld q1 h.next 5 (.int .i64 D.opened.aU):=⟨_,k2,by subst hS';rfl⟩
 have hlo:D.opened.aW.length=128*D.opened.n:=hl
 have h4o:4≤D.opened.n:=h4
 have hno:D.opened.n≤4096:=hn
 obtain ⟨ok,p0,e65,o2⟩:=r65 (xS oo1) hi' hlo h4o hno D.opened.aU
 have hnew:dB [(.bool false),(.int .u64 0),(.int .i64 0)] p0=some (ptr p0.next 0,p0.alloc [(.bool false),(.int .u64 0),(.int .i64 0)]):=rfl
 have oz:Old p0 (p0.alloc [(.bool false),(.int .u64 0),(.int .i64 0)]):=Kept.alloc _ _ _
 have gz:(p0.alloc [(.bool false),(.int .u64 0),(.int .i64 0)]).get p0.next=some [(.bool false),(.int .u64 0),(.int .i64 0)]:=by rw [ah.aE,if_pos rfl]
 have nz:(p0.alloc [(.bool false),(.int .u64 0),(.int .i64 0)]).next=p0.next+1:=ah.aS ..
 generalize p0.alloc [(.bool false),(.int .u64 0),(.int .i64 0)]=p1 at *
 have nx2:=o2.next
 have o12:=o2.trans oz
 have ooz:=oo1.trans o12
 change CD 65 _ _=some (.tuple #[.int .i64 D.jn.slot,.agg #[.bool ok,.int .u64 ((D.jn.gen:Nat):Int),aq D.jn.ak]],p0) at e65
 obtain ⟨u1,_,u3,u4⟩:=iK (n:=3) (k' := [.bool ok,.int .u64 ((D.jn.gen:Nat):Int),aq D.jn.ak]) gz (by rw [ooz.n0];omega) rfl rfl rfl rfl
 have oo2:Old h (p1.set p0.next [.bool ok,.int .u64 ((D.jn.gen:Nat):Int),aq D.jn.ak]):=ooz.bS u4 (fun y hy e=>by omega)
 have G1:Fld (p1.set p0.next [.bool ok,.int .u64 ((D.jn.gen:Nat):Int),aq D.jn.ak]) p0.next 1 (.int .u64 ((D.jn.gen:Nat):Int)):=⟨_,u3,rfl⟩
 have G2:Fld (p1.set p0.next [.bool ok,.int .u64 ((D.jn.gen:Nat):Int),aq D.jn.ak]) p0.next 2 (aq D.jn.ak):=⟨_,u3,rfl⟩
 have B62:=(B6.aC o12 (fun h=>h)).aC u4 (fun e=>by omega)
 have F52:=(F5.aC o12 (fun h=>h)).aC u4 (fun e=>by omega)
 have g22:=u4.dp (Old.get o12 g21) (by omega)
 have g32:=u4.dp (Old.get o12 g31) (by omega)
 have nu:=u4.next
 generalize p1.set p0.next [.bool ok,.int .u64 ((D.jn.gen:Nat):Int),aq D.jn.ak]=p2 at *
 obtain ⟨p3,e66,o3⟩:=r66 hlo h4o hno (xS oo2) hi' D.opened.aU
 change CD 66 _ _=some (.int .u64 ((D.jn.known:Nat):Int),p3) at e66
 obtain ⟨w,cells,p4,e67,ow,E,o4⟩:=r67 hlo h4o hno (xS (oo2.trans o3)) hi' D.opened.aU
 change cw p4 p3.next 2 w D.entries.length cells at ow
 change dK p4 p3.next cells D.entries at E
 have B63:=B62.aC o3 (fun h=>h)
 have B64:=B63.aC o4 (fun h=>h)
 have F53:=F52.aC o3 (fun h=>h)
 have F54:=F53.aC o4 (fun h=>h)
 have G13:=G1.aC o3 (fun h=>h)
 have G14:=G13.aC o4 (fun h=>h)
 have G23:=G2.aC o3 (fun h=>h)
 have G24:=G23.aC o4 (fun h=>h)
 have g24:=Old.get (o3.trans o4) g22
 have g34:=Old.get (o3.trans o4) g32
 have oo4:=(oo2.trans o3).trans o4
 have nx3:=o3.next
 have nx4:=o4.next
 obtain ⟨s1,_,s3,s4⟩:=iK (n:=6) g24 (by rw [oo4.n0];omega) rfl (k':=S'.cells (.slice a S.aW.length c)) rfl (gK _ _ _ _) (bH _ _ _ _)
 have F55:=F54.aC s4 (fun e=>by omega)
 have G15:=G14.aC s4 (fun e=>by omega)
 have G25:=G24.aC s4 (fun e=>by omega)
 have g35:=s4.dp g34 (by omega)
 have ow5:=ow.aC s4 (fun b hb e=>by have:=ow.base hb;omega)
 have E5:=E.aC s4 (fun b e=>by subst e;exact z6_plain g24)
 have oo5:=oo4.bS s4 (fun y hy e=>by omega)
 generalize p4.set (h.next+1) (S'.cells (.slice a S.aW.length c))=p5 at *
 obtain ⟨t1,t2,t3,t4⟩:=iK (n:=8) g35 (by rw [oo5.n0];omega) rfl (k':=D.jn.rc) rfl rfl rfl
 have ow6:=ow5.aC t4 (fun b hb e=>by have:=ow5.base hb;omega)
 have E6:=E5.aC t4 (fun b e=>by
  subst e
  refine ⟨_,g35,?_⟩
  intro v hv
  simp only [iT,List.mem_cons,List.not_mem_nil,or_false] at hv
  rcases hv with rfl|rfl|rfl|rfl|rfl|rfl|rfl|rfl<;>rfl)
 have oo6:=oo5.bS t4 (fun y hy e=>by omega)
 have s35:=cZ (n:=6) (t4.dp s3 (by omega)) rfl (bH _ _ _ _)
 have e66:CD 66 [.agg (S'.cells (.slice a S.aW.length c)).toArray] p2=some (.int .u64 ((D.jn.known:Nat):Int),p3):=e66
 have e67:CD 67 [.agg (S'.cells (.slice a S.aW.length c)).toArray] p3=some (w,p4):=e67
 have e65:CD 65 [.agg (S'.cells (.slice a S.aW.length c)).toArray] q1=some (.tuple #[.int .i64 D.jn.slot,.agg [.bool ok,.int .u64 ((D.jn.gen:Nat):Int),aq D.jn.ak].toArray],p0):=e65
 have hx0 : ∀ a b:Value,aD (.tuple #[a,b]) 0=some a:=fun _ _=>rfl
 have hx1 : ∀ a b:Value,aD (.tuple #[a,b]) 1=some b:=fun _ _=>rfl
 have hbl:fU [(.int .i64 0),(.int .i64 0),(.int .u64 0),(.int .i64 0),(.int .u64 0),(.bool false),(.int .i64 0),(.bool false)] [(0,1,.int .i64 D.opened.aU),(1,1,.int .i64 D.jn.slot),(2,1,.int .u64 ((D.jn.gen:Nat):Int)),(3,1,aq D.jn.ak),(4,1,.int .u64 ((D.jn.known:Nat):Int))]=some (.agg D.jn.rc.toArray):=by
  obtain ⟨r1,r2,r3⟩:=openJ_rest D.opened D.opened.aU
  have:D.jn.rc = [.int .i64 D.opened.aU,.int .i64 D.jn.slot,.int .u64 ((D.jn.gen:Nat):Int),aq D.jn.ak,.int .u64 ((D.jn.known:Nat):Int),.bool false,.int .i64 0,.bool false]:=by
   unfold Jn.rc
   rw [show D.jn.aU=D.opened.aU from r1,show D.jn.ready=false from r2,show D.jn.fin=0 from r3]
   rfl
  rw [this]
  rfl
 have ck1 : ∀ z:ah,cE true (some (Value.agg (S'.cells (.slice a S.aW.length c)).toArray,z)) (.agg (S'.cells (.slice a S.aW.length c)).toArray)=true:=fun z=>dJ rfl (veq_cells _ _ _ _)
 have ck2 : ∀ (k:IntKind) (n:Int) (z:ah),cE true (some (Value.int k n,z)) (.int k n)=true:=fun k n z=>dJ rfl (by simp [veq])
 have ck3 : ∀ (n:Nat) (z:ah),cE true (some (aq n,z)) (aq n)=true:=fun n z=>ck2 _ _ _
 refine ⟨_,w,cells,_,aO is38 rfl ((t38_eq _ _ _).trans ?_),xS oo6,?_,?_,oo6⟩
 ·unfold t38
  simp -implicitDefEqProofs only [b1,newC6 b5,e8,af,ax,Nat.zero_add,aj,l1,l5,hadd,est,B6.ld,e65,hx0,hx1,hnew,u1,B62.ld,F52.ld,G1.ld,G2.ld,e66,hbl,B63.ld,e67,s1,t1,B64.ld,F53.ld,F54.ld,F55.ld,G13.ld,G14.ld,G15.ld,G23.ld,G24.ld,G25.ld,ck1,ck2,ck3,Bool.and_true]
  exact res_c4 (rs:=Try.f38.results.toList) (n:=34) results38 (by decide) (by decide) (by decide) (by decide) ld63 ld70 _ s35 t2
 ·refine ⟨ow6.1,ow6.2.1,ow6.2.2.1,?_⟩
  rcases ow6.2.2.2 with h|⟨b,s,k1,k2,k3⟩
  ·exact .inl h
  ·exact .inr ⟨b,s,k1,by omega,k3⟩
 ·refine ⟨E6.1,fun i e he => ?_⟩
  obtain ⟨h1,a',n',c',h2,h3,h5,h6⟩:=E6.2 i e he
  exact ⟨h1,a',n',c',h2,h3,h5,fun y hy hn=>by have:=h6 y hy hn;omega⟩
end
end Go.Proofs.Ytcmfgmhadeeieaa

namespace Go.Proofs.Ytcmfgmhadeeieaa
open Go Go.Abs
theorem is68:cA Try.prog 68 Try.f68:=⟨by kernel_rfl,by kernel_rfl,by kernel_rfl,by kernel_rfl⟩
theorem is73:cA Try.prog 73 Try.f73:=⟨by kernel_rfl,by kernel_rfl,by kernel_rfl,by kernel_rfl⟩
theorem is75:cA Try.prog 75 Try.f75:=⟨by kernel_rfl,by kernel_rfl,by kernel_rfl,by kernel_rfl⟩
theorem is45:cA Try.prog 45 Try.f45:=⟨by kernel_rfl,by kernel_rfl,by kernel_rfl,by kernel_rfl⟩
theorem iP (J:Jn):bK J.rc=true:=rfl
theorem fC (J:Jn):Abs.cN J.rc=true:=rfl
theorem dj_begin {h:ah} {F:Nat→Prop} {v:Value} {S:Rf} (x:cM h F v S) {k8:dW} (ho:bK k8=true) : ∃ a c g g2,v = .agg (S.cells (.slice a S.aW.length c)).toArray∧box v h=some (ptr h.next 0,g)∧box (.agg k8.toArray) g=some (ptr (h.next+1) 0,g2) ∧
  g2.get h.next=some (S.cells (.slice a S.aW.length c))∧g2.get (h.next+1)=some k8∧Old h g2∧g2.next=h.next+2:=by
 obtain ⟨a,c,g,hv,b1,b2,b3,b4,_⟩:=dZ x
 have oA:Old g (g.alloc k8):=Kept.alloc _ _ _
 refine ⟨a,c,g,g.alloc k8,hv,b1,by rw [box_at g k8 ho,b4],Old.get oA b2,by rw [ah.aE,if_pos b4.symm],b3.trans oA,by rw [ah.aS,b4]⟩
section
variable {h:ah} {F:Nat→Prop} {v:Value} {S:Rf} (x:cM h F v S) {D:Dk} (q:Eqd D S) {J:Jn}
include x q
theorem r68 (J:Jn) : ∃ h',CD 68 [v,.agg J.rc.toArray] h=some (.bool (J.live D),h')∧Old h h':=by
 obtain ⟨a,c,g,g2,rfl,b1,b2,b3,b4,b5,_⟩:=dj_begin x (iP J)
 have l1:ba (ptr h.next 1) g2=some (.bool D.down,g2):=aN b3 (by rw [←q.down];rfl) rfl
 have l5:ba (ptr h.next 5) g2=some (.int .i64 D.aU,g2):=aN b3 (by rw [←q.aU];rfl) rfl
 have m7:ba (ptr (h.next+1) 7) g2=some (.bool false,g2):=aN b4 rfl rfl
 have m0:ba (ptr (h.next+1) 0) g2=some (.int .i64 J.aU,g2):=aN b4 rfl rfl
 have he:bin Try.prog .eql 3 (.int .i64 D.aU) (.int .i64 J.aU)=some (.bool (D.aU==J.aU)):=eU ..
 refine ⟨g2,aO is68 rfl ((t68_eq _ _ _ _).trans ?_),b5⟩
 unfold t68 Jn.live
 simp -implicitDefEqProofs only [b1,b2,af,ax,Nat.zero_add,aj,l1,cC,ay]
 cases D.down with
 |true=>simp -implicitDefEqProofs only [Bool.not_true,fs,aF,af,ay,Bool.false_eq_true,if_false,Bool.false_and]
 |false=>simp -implicitDefEqProofs only [Bool.not_false,beq_self_eq_true,aA,af,ax,Nat.zero_add,aj,m7,cC,if_true,ay,l5,m0,he,Bool.true_and]
omit q in
theorem r68_miss : ∃ h',CD 68 [v,.agg iU.toArray] h=some (.bool false,h')∧Old h h':=by
 obtain ⟨a,c,g,g2,rfl,b1,b2,b3,b4,b5,_⟩:=dj_begin x (k8:=iU) rfl
 have l1:ba (ptr h.next 1) g2=some (.bool S.down,g2):=aN b3 rfl rfl
 have m7:ba (ptr (h.next+1) 7) g2=some (.bool true,g2):=aN b4 rfl rfl
 refine ⟨g2,aO is68 rfl ((t68_eq _ _ _ _).trans ?_),b5⟩
 unfold t68
 simp -implicitDefEqProofs only [b1,b2,af,ax,Nat.zero_add,aj,l1,cC,ay]
 cases S.down with
 |true=>simp -implicitDefEqProofs only [Bool.not_true,fs,aF,af,ay,Bool.false_eq_true,if_false]
 |false=>simp -implicitDefEqProofs only [Bool.not_false,Bool.not_true,beq_self_eq_true,aA,af,ax,Nat.zero_add,aj,m7,cC,if_true,ay,fs,aF,Bool.false_eq_true,if_false]
section
variable (hl:D.aW.length=128*D.n) (h4:4≤D.n) (hn:D.n≤4096)
include hl h4 hn
theorem r73 (hf:J.ready=true→J.fin≤D.ar) : ∃ h',CD 73 [v,.agg J.rc.toArray] h=some (aq (J.free D),h')∧Old h h':=by
 have x':=x
 obtain ⟨a,c,g,g2,rfl,b1,b2,b3,b4,b5,_⟩:=dj_begin x (iP J)
 have har:D.ar=(D.n-2)/2:=rfl
 obtain ⟨g3,e68,o3⟩:=r68 (x'.bJ b5) q J
 have l6:=gU b3 rfl (bH _ _ _ _)
 have l8:=cZ (n:=8) b4 rfl (fC J)
 have b33:=Old.get o3 b3
 have b43:=Old.get o3 b4
 have m5:ba (ptr (h.next+1) 5) g3=some (.bool J.ready,g3):=aN b43 rfl rfl
 obtain ⟨g4,e46,o4⟩:=r46 ((x'.bJ b5).bJ o3) q.aW hl h4 hn
 have l63:=gU b33 rfl (bH _ _ _ _)
 have m6:ba (ptr (h.next+1) 6) g4=some (aq J.fin,g4):=aN (Old.get o4 b43) rfl rfl
 have m63:ba (ptr (h.next+1) 6) g3=some (aq J.fin,g3):=aN b43 rfl rfl
 have ck:cE true (some (aq J.fin,g3)) (aq J.fin)=true:=dJ rfl (by simp [aq,veq])
 have key : ∃ h',t73 CD (.agg (S.cells (.slice a S.aW.length c)).toArray) (.agg J.rc.toArray) h=some (aq (J.free D),h')∧Old h h':=by
  unfold t73 Jn.free
  simp -implicitDefEqProofs only [b1,b2,af,l6,l8,e68,cC,aj,ay]
  cases J.live D with
  |false=>
   simp -implicitDefEqProofs only [Bool.not_false,sf,aF,af,if_true,Bool.false_and,Bool.false_eq_true,if_false]
   exact ⟨g3,rfl,b5.trans o3⟩
  |true=>
   simp -implicitDefEqProofs only [Bool.not_true,beq_self_eq_true,aA,af,ax,Nat.zero_add,aj,m5,cC,Bool.false_eq_true,if_false,Bool.true_and]
   cases hr:J.ready with
   |false=>exact ⟨g3,rfl,b5.trans o3⟩
   |true=>
    simp -implicitDefEqProofs only [Bool.not_true,af,l63,e46,ax,Nat.zero_add,aj,m6,m63,sub3 (hf hr) (show D.ar≤9223372036854775807 by omega),ck,Bool.and_true,if_true]
    exact ⟨g4,rfl,(b5.trans o3).trans o4⟩
 obtain ⟨h',e,o⟩:=key
 exact ⟨h',aO is73 rfl ((t73_eq _ _ _ _).trans e),o⟩
theorem r75 (ha:J.ak≤1) : ∃ h',CD 75 [v,.agg J.rc.toArray] h=some (aq (J.base D),h')∧Old h h':=by
 have x':=x
 obtain ⟨a,c,g,g2,rfl,b1,b2,b3,b4,b5,_⟩:=dj_begin x (iP J)
 have har:D.ar=(D.n-2)/2:=rfl
 have hm:J.ak*D.ar≤D.ar:=by
  have:=Nat.mul_le_mul_right D.ar ha
  omega
 obtain ⟨g3,e68,o3⟩:=r68 (x'.bJ b5) q J
 have l6:=gU b3 rfl (bH _ _ _ _)
 have l8:=cZ (n:=8) b4 rfl (fC J)
 have b33:=Old.get o3 b3
 have b43:=Old.get o3 b4
 have m1:ba (ptr (h.next+1) 1) g3=some (.int .i64 J.slot,g3):=aN b43 rfl rfl
 obtain ⟨g4,e46,o4⟩:=r46 ((x'.bJ b5).bJ o3) q.aW hl h4 hn
 have l63:=gU b33 rfl (bH _ _ _ _)
 have m3:ba (ptr (h.next+1) 3) g3=some (aq J.ak,g3):=aN b43 rfl rfl
 have m34:ba (ptr (h.next+1) 3) g4=some (aq J.ak,g4):=aN (Old.get o4 b43) rfl rfl
 have hlss:bin Try.prog .lss 3 (.int .i64 J.slot) (.int .i64 0)=some (.bool (decide (J.slot<0))):=bT ..
 have h21:bin Try.prog .add 3 (.int .i64 2) (aq (J.ak*D.ar))=some (aq (2+J.ak*D.ar)):=gY (a:=2) (by omega)
 have ck:cE true (some (aq J.ak,g4)) (aq J.ak)=true:=dJ rfl (by simp [aq,veq])
 have key : ∃ h',t75 CD (.agg (S.cells (.slice a S.aW.length c)).toArray) (.agg J.rc.toArray) h=some (aq (J.base D),h')∧Old h h':=by
  unfold t75 Jn.base
  simp -implicitDefEqProofs only [b1,b2,af,l6,l8,e68,cC,aj,ay]
  cases J.live D with
  |false=>
   simp -implicitDefEqProofs only [Bool.not_false,sf,aF,af,if_true,Bool.false_and,Bool.false_eq_true,if_false]
   exact ⟨g3,rfl,b5.trans o3⟩
  |true=>
   simp -implicitDefEqProofs only [Bool.not_true,beq_self_eq_true,aA,af,ax,Nat.zero_add,aj,m1,hlss,Bool.false_eq_true,if_false,Bool.true_and]
   by_cases c1:J.slot<0
   ·simp -implicitDefEqProofs only [decide_eq_true c1,decide_eq_false (show ¬0≤J.slot by omega),Bool.false_eq_true,if_false]
    exact ⟨g3,rfl,b5.trans o3⟩
   ·simp -implicitDefEqProofs only [decide_eq_false c1,decide_eq_true (show 0≤J.slot by omega),if_true,af,l63,e46,ax,Nat.zero_add,aj,m3,m34,mul3 (show J.ak*D.ar≤9223372036854775807 by omega),h21,ck,Bool.and_true]
    exact ⟨g4,rfl,(b5.trans o3).trans o4⟩
 obtain ⟨h',e,o⟩:=key
 exact ⟨h',aO is75 rfl ((t75_eq _ _ _ _).trans e),o⟩
def Jn.rd (J:Jn) (D:Dk) (at_:Int):Int:=if J.live D then (if J.bg D at_ then 0 else 6) else 9
theorem r45 {d j:Nat} (xd:bf h d D) (xj:cU h j d J) (hf:J.ready=true→J.fin≤D.ar) : ∃ h',CD 45 [.agg (ptr j 0::J.rc).toArray,v] h=some (.bool true,h')∧Old h h':=by
 have x':=x
 have oP:Old h (h.alloc (ptr j 0::J.rc)):=Kept.alloc _ _ _
 have gP:(h.alloc (ptr j 0::J.rc)).get h.next=some (ptr j 0::J.rc):=by rw [ah.aE,if_pos rfl]
 have bP:=box_at h (ptr j 0::J.rc) rfl
 have nP:(h.alloc (ptr j 0::J.rc)).next=h.next+1:=ah.aS ..
 generalize h.alloc (ptr j 0::J.rc)=q0 at *
 obtain ⟨a,c,g,rfl,b1,b2,b3,b4,_⟩:=dZ (x.bJ oP)
 rw [nP] at b1 b2
 have oo:=oP.trans b3
 have gP1:=Old.get b3 gP
 have l6:=gU b2 rfl (bH _ _ _ _)
 have l8 : ∀ {z:ah},z.get h.next=some (ptr j 0::J.rc)→ch 8 (ptr h.next 1) z=some (.agg J.rc.toArray,z):=fun e=>ldN_at (n:=8) (o:=1) e (by show 1+8≤9;omega) rfl
 have m0 : ∀ {z:ah},z.get h.next=some (ptr j 0::J.rc)→ba (ptr h.next 0) z=some (ptr j 0,z):=fun e=>aN e rfl rfl
 have m3 : ∀ {z:ah},z.get h.next=some (ptr j 0::J.rc)→ba (ptr h.next 3) z=some (.int .u64 (J.gen:Int),z):=fun e=>aN e rfl rfl
 obtain ⟨g1,e68,o1⟩:=r68 (x'.bJ oo) q J
 have o01:=oo.trans o1
 have P1:=Old.get o1 gP1
 have B1:=Old.get o1 b2
 have xd1:=Old.dk o01 xd
 have xj1:=xj.aC o01 (fun h=>h)
 have h2:2≤D.n:=by omega
 obtain ⟨g2,e46,o2⟩:=r46 (x'.bJ o01) q.aW hl h4 hn
 have o02:=o01.trans o2
 have P2:=Old.get o2 P1
 have B2:=Old.get o2 B1
 have xd2:=Old.dk o02 xd
 have xj2:=xj.aC o02 (fun h=>h)
 obtain ⟨g3,e73,o3⟩:=r73 (x'.bJ o02) q hl h4 hn hf
 have o03:=o02.trans o3
 have P3:=Old.get o3 P2
 have B3:=Old.get o3 B2
 have xd3:=Old.dk o03 xd
 have xj3:=xj.aC o03 (fun h=>h)
 obtain ⟨g4,e75,o4⟩:=r75 (x'.bJ o03) q hl h4 hn xj.ak
 have o04:=o03.trans o4
 have e34:=r34 xd1 xj1
 have e22:=r22 xd1 xj1 h2
 have e26:=r26 xd1 xj1 h2 hf
 have e74:=r74 xd1 xj1 h2
 have e26b:=r26 xd2 xj2 h2 hf
 have e74b:=r74 xd3 xj3 h2
 have q58 : ∀ a b:Nat,bin Try.prog .eql 58 (.int .u64 (a:Int)) (.int .u64 (b:Int))=some (.bool (a==b)):=fun a b=>by rw [eU,int_beq]
 have q580:bin Try.prog .eql 58 (.int .u64 ((0:Nat):Int)) (.int .u64 0)=some (.bool true):=q58 0 0
 have q30:bin Try.prog .eql 3 (aq 0) (.int .i64 0)=some (.bool true):=eql3 0 0
 have ck6 : ∀ z:ah,cE true (some (Value.agg (S.cells (.slice a S.aW.length c)).toArray,z)) (.agg (S.cells (.slice a S.aW.length c)).toArray)=true:=fun z=>dJ rfl (veq_cells _ _ _ _)
 have ck8 : ∀ z:ah,cE true (some (Value.agg J.rc.toArray,z)) (.agg J.rc.toArray)=true:=fun z=>dJ rfl (by simp [veq,veqL,Jn.rc,aq])
 have ck1 : ∀ z:ah,cE true (some (Value.int .u64 (J.gen:Int),z)) (.int .u64 (J.gen:Int))=true:=fun z=>dJ rfl (by simp [veq])
 have key : ∃ h',t45 CD (.agg (ptr j 0::J.rc).toArray) (.agg (S.cells (.slice a S.aW.length c)).toArray) h=some (.bool true,h')∧Old h h':=by
  unfold t45
  cases hL:J.live D with
  |false=>
   rw [hL] at e68 e34 e22
   have hF:J.free D=0:=by unfold Jn.free;rw [hL];rfl
   have hB:J.base D=0:=by unfold Jn.base;rw [hL];rfl
   rw [hF] at e26
   rw [hB] at e74
   simp -implicitDefEqProofs only [Bool.false_eq_true,if_false] at e34 e22
   simp -implicitDefEqProofs only [bP,b1,af,l6,ax,Nat.zero_add,aj,l8 gP1,e68,cC,Bool.not_false,m0 P1,e34,q580,ay,beq_self_eq_true,aA,e22,q30,if_true,e26,e74]
   exact ⟨g1,rfl,o01⟩
  |true=>
   rw [hL] at e68 e34 e22
   simp -implicitDefEqProofs only [if_true] at e34 e22
   simp -implicitDefEqProofs only [bP,b1,af,l6,ax,Nat.zero_add,aj,l8 gP1,e68,cC,Bool.not_true,m0 P1,e34,m3 P1,q58,ay,beq_self_eq_true,aA,e22,gU B1 rfl (bH _ _ _ _),e46,eql3,if_true,m0 P2,e26b,gU B2 rfl (bH _ _ _ _),l8 P2,e73,m0 P3,e74b,gU B3 rfl (bH _ _ _ _),l8 P3,e75,ck6,ck8,ck1,Bool.and_true]
   exact ⟨g4,rfl,o04⟩
 obtain ⟨h',e,o⟩:=key
 exact ⟨h',aO is45 rfl ((t45_eq _ _ _ _).trans e),o⟩
end
end
end Go.Proofs.Ytcmfgmhadeeieaa

namespace Go.Proofs.Ytcmfgmhadeeieaa
open Go Go.Abs
theorem is100:cA Try.prog 100 Try.f100:=⟨by kernel_rfl,by kernel_rfl,by kernel_rfl,by kernel_rfl⟩
theorem is101:cA Try.prog 101 Try.f101:=⟨by kernel_rfl,by kernel_rfl,by kernel_rfl,by kernel_rfl⟩
theorem is71:cA Try.prog 71 Try.f71:=⟨by kernel_rfl,by kernel_rfl,by kernel_rfl,by kernel_rfl⟩
theorem is98:cA Try.prog 98 Try.f98:=⟨by kernel_rfl,by kernel_rfl,by kernel_rfl,by kernel_rfl⟩
theorem b100_exit (C:al) (e:Env) (h:ah):b100_4 C 0 e h=k100_2 C e h:=rfl
theorem b101_exit (C:al) (e:Env) (h:ah):b101_2 C 0 e h=k101_1 C e h:=rfl
theorem dr.le {h:ah} {N M:Nat} {v:Value} {l:List Nat} (o:dr h M v l) (hN:N≤M):dr h N v l:=by
 refine ⟨⟨o.own.1,o.own.2.1,o.own.2.2.1,?_⟩,o.byte⟩
 rcases o.own.2.2.2 with h|⟨b,s,j1,j2,j3⟩
 ·exact .inl h
 ·exact .inr ⟨b,s,j1,by omega,j3⟩
theorem app_lit {g:ah} {N x:Nat} {v:Value} {l:List Nat} (o:dr g N v l) (h0:g.n0≤N) (hN:N≤g.next) (hx:x<256) (hl:l.length≤1000000) :
  ∃ v' g',bo 1 1 v (.slice (some ⟨g.next,0,none⟩) 1 1) (g.alloc [u8 x])=some (v',g')∧dr g' N v' (l ++ [x])∧Kept g g' (fun c=>cF v=some c):=by
 have ka:Old g (g.alloc [u8 x]):=Kept.alloc _ _ _
 obtain ⟨v',g',e1,e2,e3,_⟩:=dI (c:=1) (o.aC ka (fun _ _ h=>h)) (by rw [ka.n0];exact h0) (Nat.le_trans hN ka.next) (bytes1 g hx) (by omega)
 exact ⟨v',g',e1,e2,(ka.mono (fun _ _ h=>h.elim)).bS e3 (fun _ _ h=>h)⟩
theorem app_none {g:ah} {b n c:Nat} {l m:List Nat} {a:Option Addr} (hg:g.get b=some (l.map u8)) (hb : ∀ x∈l,x<256) (hm:av a n g=some m) (hn:0<n) (hl:l.length+n≤1000000) (hp:0<l.length) :
  ∃ v',bo 1 1 (.slice (some ⟨b,0,none⟩) l.length l.length) (.slice a n c) g=some (v',g.alloc ((l++m).map u8))∧dr (g.alloc ((l++m).map u8)) g.next v' (l++m):=by
 obtain ⟨hml,hmb,_⟩:=aw hm
 have hf:=firstA_of hm (Nat.le_refl n) (c:=c)
 rw [List.take_of_length_le (by omega)] at hf
 have hf2:bW 1 l.length (.slice (some ⟨b,0,none⟩) l.length l.length) g=some (l.map u8):=by
  have hs:av (some ⟨b,0,none⟩) l.length g=some l:=by
   rw [c9 (l:=l) hg (by omega) hb,List.drop_zero,List.take_of_length_le (Nat.le_refl _)]
  have:=firstA_of hs (Nat.le_refl l.length) (c:=l.length)
  rw [List.take_of_length_le (Nat.le_refl _)] at this
  exact this
 refine ⟨.slice (some ⟨g.next,0,some 1⟩) (l.length+n) (l.length+n),?_,⟨?_,fun x hx => ?_⟩⟩
 ·unfold bo
  simp only [lenA,hf]
  rw [if_neg (by simp only [one_u8,List.length_map];simp;omega),if_neg (by omega)]
  simp only [hf2]
  rw [if_neg (by simp)]
  rw [List.map_append]
 ·have hlen:(l++m).length=l.length+n:=by rw [List.length_append,hml]
  rw [hlen]
  refine ⟨by rw [List.length_map,hlen];omega,ic _,one_u8 _,.inr ⟨g.next,some 1,rfl,Nat.le_refl _,.inr ⟨rfl,by rw [ah.aE,if_pos rfl]⟩⟩⟩
 ·rcases List.mem_append.1 hx with h|h
  ·exact hb x h
  ·exact hmb x h
theorem r100 (h:ah) {n k:Nat} (h1:1≤k) (hk:k≤8) (hn:n<18446744073709551616) : ∃ v h',CD 100 [.int .u64 (n:Int),aq k] h=some (v,h')∧dr h' h.next v (fN k n)∧Old h h':=by
 have oA:Old h (h.alloc []):=Kept.alloc _ _ _
 have nA:(h.alloc []).next=h.next+1:=ah.aS ..
 have own0:dr (h.alloc []) h.next (.slice (some ⟨h.next,0,none⟩) 0 0) []:=⟨cw.empty _ (Nat.le_refl _),by simp⟩
 have hn0:=h.aH
 have hsub:bin Try.prog .sub 3 (aq k) (.int .i64 1)=some (.int .i64 ((k:Int)-1)):=by
  unfold aq
  rw [gZ,bD (by omega) (by omega)]
 have key : ∀ o,t100 CD (.int .u64 (n:Int)) (aq k) h=o → ∃ v h',o=some (v,h')∧dr h' h.next v (fN k n)∧Old h h':=by
  intro o ho
  subst ho
  unfold t100
  simp -implicitDefEqProofs only [af,bsl_bytes,hsub,aj]
  refine cn (n:=24) (fin:=fun ex y g=>ex = .exit 0∧dr g h.next (y 5) (fN k n)∧Old h g) (Q:=fun o:Out => ∃ v h',o=some (v,h')∧dr h' h.next v (fN k n)∧Old h h')
   (cg (t100l100_11010_eq CD) (Inv:=fun m y g=>m≤k∧y 0 = .int .u64 (n:Int)∧y 6 = .int .i64 ((m:Int)-1)∧Old h g ∧ ∃ cur,dr g h.next (y 5) cur∧cur++fN m n=fN k n) ?_ k (by have:rounds=18446744073709551616:=rfl;omega)
    ⟨Nat.le_refl _,rfl,rfl,oA,[],own0,rfl⟩) ?_
  ·rintro m y g ⟨hm,y0,y6,bJ,cur,own,hcur⟩
   have hclen:cur.length+m=k:=by
    have:=congrArg List.length hcur
    simpa [bm] using this
   unfold t100l100_11010
   simp -implicitDefEqProofs only [y6,af,eR,aj]
   by_cases hz:m=0
   ·subst hz
    have hd:decide ((((0:Nat):Int)-1)≥0)=false:=by decide
    simp -implicitDefEqProofs only [hd]
    have:cur=fN k n:=by simpa [fN] using hcur
    exact cY.out 0 ⟨rfl,this▸own,bJ⟩
   ·obtain ⟨q,rfl⟩ : ∃ q,m=q+1:=⟨m-1,by omega⟩
    have hd:decide ((((q+1:Nat):Int)-1)≥0)=true:=decide_eq_true (by omega)
    have hcu:IntKind.wrap .u64 (((q+1:Nat):Int)-1)=((q:Nat):Int):=by
     rw [eQ (by omega) (by omega)];omega
    have hm8:bin Try.prog .mul 149 (.int .u64 8) (.int .u64 ((q:Nat):Int))=some (.int .u64 ((8*q:Nat):Int)):=by
     rw [bin_mul,eQ (by omega) (by omega)]
     exact congrArg (fun z=>some (Value.int .u64 z)) (by omega)
    have hsh:bin Try.prog .shr 58 (.int .u64 (n:Int)) (.int .u64 ((8*q:Nat):Int))=some (.int .u64 ((n/256^q:Nat):Int)):=by
     rw [fu Try.prog 58 (k := .u64) (k' := .u64) (b:=8*q) (by show 8*q≤64;omega)]
     rw [show (2:Nat)^(8*q)=256^q by rw [Nat.pow_mul]]
    have hcv:IntKind.wrap .u8 ((n/256^q:Nat):Int)=((n/256^q%256:Nat):Int):=by
     rw [wrap_u8_mod];omega
    have hlt8:n/256^q%256<256:=Nat.mod_lt _ (by decide)
    generalize hx:n/256^q%256=x at *
    obtain ⟨v',g',e1,e2,e3⟩:=app_lit own (by rw [bJ.n0];exact hn0) bJ.next hlt8 (by omega)
    have hsub2:bin Try.prog .sub 3 (.int .i64 (((q+1:Nat):Int)-1)) (.int .i64 1)=some (.int .i64 ((q:Int)-1)):=by
     rw [gZ,bD (by omega) (by omega)]
     exact congrArg (fun z=>some (Value.int .i64 z)) (by omega)
    simp -implicitDefEqProofs only [hd,y0,af,aj,dg,hcu,hm8,hsh,hcv]
    rw [show (Value.int .u8 (x:Int))=u8 x from rfl,bsl1]
    simp -implicitDefEqProofs only [af,e1,hsub2,aj]
    refine cY.next q (by omega) ⟨by omega,y0,rfl,bJ.bS e3 (fun c hc hb=>by have:=own.own.base hb;omega),cur ++ [x],e2,?_⟩
    rw [←hcur,fN,hx,List.append_assoc];rfl
  ·rintro ex z g ⟨rfl,own,bJ⟩
   simp -implicitDefEqProofs only [bA,b100_exit,t100k100_2_eq]
   unfold t100k100_2
   exact ⟨_,g,rfl,own,bJ⟩
 obtain ⟨v,h',e,o⟩:=key _ rfl
 exact ⟨v,h',aO is100 rfl ((t100_eq _ _ _ _).trans e),o⟩
theorem r101 {h:ah} {N:Nat} {v:Value} {l:List Nat} (own:dr h N v l) (h0:h.n0≤N) (hN:N≤h.next) (hl:l.length≤124) : ∃ v' h',CD 101 [v] h=some (v',h')∧dr h' N v' (gX l)∧Kept h h' (fun c=>N≤c):=by
 have key : ∀ o,t101 CD v h=o → ∃ v' h',o=some (v',h')∧dr h' N v' (gX l)∧Kept h h' (fun c=>N≤c):=by
  intro o ho
  subst ho
  unfold t101
  simp -implicitDefEqProofs only [af]
  refine cn (n:=15) (fin:=fun ex y g=>ex = .exit 0∧dr g N (y 0) (l++List.replicate (124-l.length) 0)∧Kept h g (fun c=>N≤c)) (Q:=fun o:Out => ∃ v' h',o=some (v',h')∧dr h' N v' (gX l)∧Kept h h' (fun c=>N≤c))
   (cg (t101l101_100_eq CD) (Inv:=fun m y g => ∃ i,i+m=124-l.length∧dr g N (y 0) (l++List.replicate i 0)∧Kept h g (fun c=>N≤c)) ?_ (124-l.length) (by have:rounds=18446744073709551616:=rfl;omega)
    ⟨0,Nat.zero_add _,by rw [List.replicate_zero,List.append_nil];exact own,Kept.refl _ _⟩) ?_
  ·rintro m y g ⟨i,him,o,k⟩
   have hll:=o.own.len
   rw [List.length_append,List.length_replicate] at hll
   have hlss:bin Try.prog .lss 3 (aq (l.length+i)) (.int .i64 124)=some (.bool (decide (l.length+i<124))):=fT _ 124
   unfold t101l101_100
   simp -implicitDefEqProofs only [hll,af,aj,hlss]
   by_cases hz:l.length+i<124
   ·obtain ⟨v',g',e1,e2,e3⟩:=app_lit (x:=0) o (by rw [k.n0];exact h0) (Nat.le_trans hN k.next) (by decide) (by rw [List.length_append,List.length_replicate];omega)
    have hb0:cX 1 (.int .u8 0) 1 [(0,(.int .u8 0))] g=some (.slice (some ⟨g.next,0,none⟩) 1 1,g.alloc [u8 0]):=bsl1 g 0
    simp -implicitDefEqProofs only [decide_eq_true hz,af,hb0,e1]
    refine cY.next (m-1) (by omega) ⟨i+1,by omega,?_,k.bS e3 (fun c _ hb=>o.own.base hb)⟩
    rw [List.replicate_succ',←List.append_assoc]
    exact e2
   ·simp -implicitDefEqProofs only [decide_eq_false hz]
    have:i=124-l.length:=by omega
    subst this
    exact cY.out 0 ⟨rfl,o,k⟩
  ·rintro ex z g ⟨rfl,o,k⟩
   have hR:gX l=fN 4 (crcN (l++List.replicate (124-l.length) 0))++(l++List.replicate (124-l.length) 0):=rfl
   have hRl:(l++List.replicate (124-l.length) 0).length=124:=by rw [List.length_append,List.length_replicate];omega
   rw [hR]
   generalize l++List.replicate (124-l.length) 0=R at *
   obtain ⟨a,c,hz,s1,s2,s3,s4⟩:=o.bytes
   have e103:=r103 (c:=c) s1 (by omega)
   rw [←hz] at e103
   have hcr:crcN R<4294967296:=crcN_lt o.byte
   have hcv:cvI .u64 (u32 (crcN R)) g=some (.int .u64 ((crcN R:Nat):Int),g):=by
    rw [u32,dg,eQ (by omega) (by omega)]
   obtain ⟨w,g2,e100,ow,o2⟩:=r100 g (n:=crcN R) (k:=4) (by decide) (by decide) (by omega)
   have e100:CD 100 [.int .u64 ((crcN R:Nat):Int),.int .i64 4] g=some (w,g2):=e100
   obtain ⟨v',g3,f1,f2,f3,_⟩:=dI (c:=c) ow (by rw [o2.n0];exact g.aH) o2.next (Old.bytes o2 s1) (by rw [bm];omega)
   rw [←hz] at f1
   simp -implicitDefEqProofs only [bA,b101_exit,t101k101_1_eq]
   unfold t101k101_1
   simp -implicitDefEqProofs only [af,e103,hcv,e100,f1]
   have hgn:N≤g.next:=Nat.le_trans hN k.next
   exact ⟨_,g3,rfl,f2.le hgn,(k.bS o2 (fun _ _ h=>h.elim)).bS f3 (fun c _ hb=>by have:=ow.own.base hb;omega)⟩
 obtain ⟨v',h',e,o⟩:=key _ rfl
 exact ⟨v',h',aO is101 rfl ((t101_eq _ _ _).trans e),o⟩
theorem app_own {g:ah} {N:Nat} {v w:Value} {l m:List Nat} {M:Nat} (o:dr g N v l) (h0:g.n0≤N) (hN:N≤g.next) (p:dr g M w m) (hb:l.length+m.length≤1000000) :
  ∃ v' g',bo 1 1 v w g=some (v',g')∧dr g' N v' (l++m)∧Kept g g' (fun c=>cF v=some c):=by
 obtain ⟨a,c,hw,s1,_,_,_⟩:=p.bytes
 obtain ⟨v',g',e1,e2,e3,_⟩:=dI (c:=c) o h0 hN s1 (by omega)
 rw [←hw] at e1
 exact ⟨v',g',e1,e2,e3⟩
theorem r71 (h:ah) {gen ak:Nat} (hg:gen<18446744073709551616) (ha:ak≤1) : ∃ v h',CD 71 [.int .u64 (gen:Int),aq ak] h=some (v,h')∧dr h' h.next v (bV gen ak)∧Old h h':=by
 have hn0:=h.aH
 have hbs:cX 1 (.int .u8 0) 4 [(0,(.int .u8 83)),(1,(.int .u8 84)),(2,(.int .u8 79)),(3,(.int .u8 76))] h=some (.slice (some ⟨h.next,0,none⟩) 4 4,h.alloc ([83,84,79,76].map u8)):=rfl
 have oA:Old h (h.alloc ([83,84,79,76].map u8)):=Kept.alloc _ _ _
 have gA:(h.alloc ([83,84,79,76].map u8)).get h.next=some ([83,84,79,76].map u8):=by rw [ah.aE,if_pos rfl]
 have nA:(h.alloc ([83,84,79,76].map u8)).next=h.next+1:=ah.aS ..
 generalize h.alloc ([83,84,79,76].map u8)=q0 at *
 obtain ⟨w,q1,e100,ow,o1⟩:=r100 q0 (n:=gen) (k:=8) (by decide) (by decide) hg
 have e100:CD 100 [.int .u64 (gen:Int),.int .i64 8] q0=some (w,q1):=e100
 have gA1:=Old.get o1 gA
 obtain ⟨a,c,rfl,s1,s2,_,_⟩:=ow.bytes
 have n1:=o1.next
 obtain ⟨v1,f1,f2⟩:=app_none (c:=c) gA1 (by decide) s1 (by rw [bm];decide) (by rw [bm];decide) (by decide)
 have f1:bo 1 1 (.slice (some ⟨h.next,0,none⟩) 4 4) (.slice a (fN 8 gen).length c) q1=some (v1,q1.alloc (([83,84,79,76]++fN 8 gen).map u8)):=f1
 have o2:Old q1 (q1.alloc (([83,84,79,76]++fN 8 gen).map u8)):=Kept.alloc _ _ _
 have n2:=o2.next
 have n2':(q1.alloc (([83,84,79,76]++fN 8 gen).map u8)).next=q1.next+1:=ah.aS ..
 generalize q1.alloc (([83,84,79,76]++fN 8 gen).map u8)=q2 at *
 have o02:=(oA.trans o1).trans o2
 have hcv:IntKind.wrap .u8 ((ak:Nat):Int)=((ak:Nat):Int):=by rw [wrap_u8_mod];omega
 have hb0:cX 1 (.int .u8 0) 1 [(0,(.int .u8 (ak:Int)))] q2=some (.slice (some ⟨q2.next,0,none⟩) 1 1,q2.alloc [u8 ak]):=bsl1 q2 ak
 obtain ⟨v2,q3,f3,f4,f5⟩:=app_lit (x:=ak) f2 (by rw [o2.n0];exact q1.aH) n2 (by omega) (by rw [List.length_append,bm];decide)
 have hbody:dO gen ak = [83,84,79,76]++fN 8 gen ++ [ak]:=by
  unfold dO
  have h1:fN 4 1398034252 = [83,84,79,76]:=by decide
  have h2:fN 1 ak = [ak]:=by
   simp only [fN,Nat.pow_zero,Nat.div_one]
   rw [Nat.mod_eq_of_lt (by omega)]
  rw [h1,h2]
 rw [←hbody] at f4
 have hl:(dO gen ak).length≤124:=by rw [hbody];simp only [List.length_append,bm,List.length_cons,List.length_nil];decide
 have n3:=f5.next
 obtain ⟨v3,q4,e101,ow4,k4⟩:=r101 f4 (by rw [f5.n0,o2.n0];exact q1.aH) (by omega) hl
 have bJ:Old h q4:=(o02.bS f5 (fun c hc hb=>by have:=f2.own.base hb;omega)).bS k4 (fun c hc hb=>by omega)
 refine ⟨v3,q4,aO is71 rfl ((t71_eq _ _ _ _).trans ?_),dr.le ow4 (by omega),bJ⟩
 unfold t71
 simp -implicitDefEqProofs only [af,hbs,e100,f1,aq,dg,hcv,hb0,f3,e101]
theorem r98 {h:ah} {gen at_ part parts n c:Nat} {a:Option Addr} {data:List Nat} (hg:gen<18446744073709551616) (hat:at_<4294967296) (hp:part<65536) (hq:parts<65536) (hs:av a n h=some data) (hn:n≤106) :
  ∃ v h',CD 98 [.int .u64 (gen:Int),aq at_,aq part,aq parts,.slice a n c] h=some (v,h')∧dr h' h.next v (cS gen at_ part parts data)∧Old h h':=by
 have hn0:=h.aH
 have hdl:=(aw hs).1
 have cu : ∀ (m:Nat) (q:ah),m<4294967296→cvI .u64 (aq m) q=some (.int .u64 (m:Int),q):=fun m q hm=>by rw [aq,dg,eQ (by omega) (by omega)]
 have hll:cH (.slice a n c)=some (aq n):=rfl
 obtain ⟨w1,q1,e1,p1,o1⟩:=r100 h (n:=gen) (k:=8) (by decide) (by decide) hg
 obtain ⟨w2,q2,e2,p2,o2⟩:=r100 q1 (n:=at_) (k:=4) (by decide) (by decide) (by omega)
 have n1:=o1.next
 have n2:=o2.next
 obtain ⟨v2,g2,f2,r2,k2⟩:=app_own (p1.aC o2 (fun _ _ h=>h)) (by rw [o2.n0,o1.n0];exact hn0) (by omega) p2 (by rw [bm,bm];decide)
 have old2:Old h g2:=(o1.trans o2).bS k2 (fun c hc hb=>by have:=p1.own.base hb;omega)
 have m2:=old2.next
 obtain ⟨w3,q3,e3,p3,o3⟩:=r100 g2 (n:=part) (k:=2) (by decide) (by decide) (by omega)
 have n3:=o3.next
 obtain ⟨v3,g3,f3,r3,k3⟩:=app_own (r2.aC o3 (fun _ _ h=>h)) (by rw [o3.n0,old2.n0];exact hn0) (by omega) p3 (by simp only [List.length_append,bm];decide)
 have old3:Old h g3:=(old2.trans o3).bS k3 (fun c hc hb=>by have:=r2.own.base hb;omega)
 have m3:=old3.next
 obtain ⟨w4,q4,e4,p4,o4⟩:=r100 g3 (n:=parts) (k:=2) (by decide) (by decide) (by omega)
 have n4:=o4.next
 obtain ⟨v4,g4,f4,r4,k4⟩:=app_own (r3.aC o4 (fun _ _ h=>h)) (by rw [o4.n0,old3.n0];exact hn0) (by omega) p4 (by simp only [List.length_append,bm];decide)
 have old4:Old h g4:=(old3.trans o4).bS k4 (fun c hc hb=>by have:=r3.own.base hb;omega)
 have m4:=old4.next
 obtain ⟨w5,q5,e5,p5,o5⟩:=r100 g4 (n:=n) (k:=2) (by decide) (by decide) (by omega)
 have n5:=o5.next
 obtain ⟨v5,g5,f5,r5,k5⟩:=app_own (r4.aC o5 (fun _ _ h=>h)) (by rw [o5.n0,old4.n0];exact hn0) (by omega) p5 (by simp only [List.length_append,bm];decide)
 have old5:Old h g5:=(old4.trans o5).bS k5 (fun c hc hb=>by have:=r4.own.base hb;omega)
 have m5:=old5.next
 obtain ⟨v6,g6,f6,r6,k6,_⟩:=dI (c:=c) r5 (by rw [old5.n0];exact hn0) m5 (Old.bytes old5 hs) (by simp only [List.length_append,bm];omega)
 have old6:Old h g6:=old5.bS k6 (fun c hc hb=>by have:=r5.own.base hb;omega)
 have hbody:fN 8 gen++fN 4 at_++fN 2 part++fN 2 parts++fN 2 n++data=fR gen at_ part parts data:=by
  unfold fR;rw [hdl]
 rw [hbody] at r6
 obtain ⟨v7,g7,e7,r7,k7⟩:=r101 r6 (by rw [old6.n0];exact hn0) old6.next (by rw [logBody_length];omega)
 refine ⟨v7,g7,aO is98 rfl ((t98_eq _ _ _ _ _ _ _).trans ?_),r7,old6.bS k7 (fun c hc hb=>by omega)⟩
 have e1:CD 100 [.int .u64 (gen:Int),.int .i64 8] h=some (w1,q1):=e1
 have e2:CD 100 [.int .u64 (at_:Int),.int .i64 4] q1=some (w2,q2):=e2
 have e3:CD 100 [.int .u64 (part:Int),.int .i64 2] g2=some (w3,q3):=e3
 have e4:CD 100 [.int .u64 (parts:Int),.int .i64 2] g3=some (w4,q4):=e4
 have e5:CD 100 [.int .u64 (n:Int),.int .i64 2] g4=some (w5,q5):=e5
 unfold t98
 simp -implicitDefEqProofs only [af,e1,cu _ _ hat,e2,f2,cu _ _ (show part<4294967296 by omega),e3,f3,cu _ _ (show parts<4294967296 by omega),e4,f4,hll,aj,cu _ _ (show n<4294967296 by omega),e5,f5,f6,e7]
end Go.Proofs.Ytcmfgmhadeeieaa

namespace Go.Proofs.Ytcmfgmhadeeieaa
open Go Go.Abs
theorem is69:cA Try.prog 69 Try.f69:=⟨by kernel_rfl,by kernel_rfl,by kernel_rfl,by kernel_rfl⟩
theorem results69:Try.f69.results.toList = [.cell 10 63,.tmp 11]:=by kernel_rfl
theorem b69_exit (C:al) (e:Env) (h:ah):b69_4 C 0 e h=k69_2 C e h:=rfl
theorem X16:XX 16=sCost:=rfl
theorem r16 (n:Nat) (h:ah) (hn:n≤100000000):CD 16 [aq n] h=some (aq (aQ n),h):=by
 refine eO ?_
 rw [X16,show aq n=Value.int .i64 (n:Int) from rfl]
 unfold sCost
 have:eS (n:Int)=true:=by unfold eS;simp only [Bool.and_eq_true,decide_eq_true_eq];omega
 simp only [this,if_true,cost_nat]
theorem slR_Z {a:Option Addr} {n c lo hi:Nat} {h:ah} {l:List Nat} (g:goodZ a n c) (e:av a n h=some l) (h1:lo≤hi) (h2:hi≤n) :
  ∃ a' c',slR 1 (.slice a n c) (some (aq lo)) (some (aq hi)) none=some (.slice a' (hi-lo) c')∧av a' (hi-lo) h=some ((l.drop lo).take (hi-lo)):=by
 have good:cQ a n c=true → ∃ a' c',slR 1 (.slice a n c) (some (aq lo)) (some (aq hi)) none=some (.slice a' (hi-lo) c')∧av a' (hi-lo) h=some ((l.drop lo).take (hi-lo)):=by
  intro g
  have hcle:=fH g
  obtain ⟨a',c',s1,s2,_⟩:=dP (lo:=lo) (hi:=hi) (vl:=some (aq lo)) (vh:=some (aq hi)) g e h1 h2 (by
    unfold bZ
    simp only [aq]
    rw [if_pos (by omega),Int.toNat_natCast]) (by
    unfold bZ
    simp only [aq]
    rw [if_pos (by omega),Int.toNat_natCast])
  exact ⟨a',c',s1,s2⟩
 rcases g with g|⟨rfl,rfl,hsp⟩
 ·exact good g
 ·obtain rfl:hi=0:=by omega
  obtain rfl:lo=0:=by omega
  cases a with
  |none=>exact good rfl
  |some y=>
   obtain ⟨b,off,s⟩:=y
   have hs:s=some 0:=hsp _ rfl
   subst hs
   have hl:=(aw e).1
   have hl:l = []:=List.length_eq_zero_iff.1 hl
   subst hl
   exact ⟨some ⟨b,off,some 0⟩,0,rfl,e⟩
structure Dok (D:Dk):Prop where
 aW:D.aW.length=128*D.n
 four:4≤D.n
 small:D.n≤4096
 after:0≤D.after∧D.after≤9223372036854775807
theorem bf.dok {h:ah} {d:Nat} {D:Dk} (x:bf h d D) (h4:4≤D.n):Dok D:=⟨x.len,h4,x.small,x.after⟩
theorem Dok.off {D:Dk} (o:Dok D):Dok D.off∧D.off.n=D.n:=by
 unfold Dk.off
 split
 ·exact ⟨o,rfl⟩
 ·exact ⟨⟨o.aW,o.four,o.small,o.after⟩,rfl⟩
theorem Dok.lay {D:Dk} (o:Dok D) {i:Int} {l:List Nat} (h:i.toNat*128+l.length≤D.aW.length):Dok (D.lay i l)∧(D.lay i l).n=D.n:=by
 refine ⟨⟨?_,o.four,o.small,o.after⟩,rfl⟩
 show (cJ D.aW (i.toNat*128) l).length=128*D.n
 rw [eP h,o.aW]
theorem Dok.write {D:Dk} (o:Dok D) (i:Int) (l:List Nat):Dok (D.write i l).2∧(D.write i l).2.n=D.n:=by
 unfold Dk.write
 by_cases hf:D.fault i=0
 ·obtain ⟨hdn,hi1,hi2⟩:=Dk.gD hf
  have him:=o.aW
  have ha:=o.after
  rw [if_pos hf]
  by_cases hb:l.length=128
  ·rw [if_pos hb]
   have w1:=o.lay (i:=i) (l:=l) (by omega)
   cases D.ca with
   |false=>exact w1
   |true=>
    rw [if_pos rfl]
    by_cases hz:D.after=0
    ·rw [if_pos hz]
     have w2:=o.lay (i:=i) (l:=l.take D.aC.toNat) (by rw [List.length_take];omega)
     have w3:=w2.1.off
     exact ⟨w3.1,w3.2.trans w2.2⟩
    ·rw [if_neg hz]
     exact ⟨⟨w1.1.aW,o.four,o.small,by show 0≤D.after-1;omega,by show D.after-1≤_;omega⟩,rfl⟩
  ·rw [if_neg hb];exact ⟨o,rfl⟩
 ·rw [if_neg hf];exact ⟨o,rfl⟩
theorem cM.store {g:ah} {F:Nat→Prop} {v w:Value} {S T:Rf} {bx:Nat} {k:dW} (x:cM g F w T) (hg:g.get bx=some k) (hk:k.length=6) (hp : ∀ u∈k,nat8 u=none) (h0:g.n0≤bx) :
  ∃ g',cf 6 (ptr bx 0) w g=some (undef,g')∧Box6 g' bx w∧(∃ k',g'.get bx=some k'∧k'.length=6 ∧ ∀ u∈k',nat8 u=none)∧cM g' F w T∧Kept g g' (fun c=>c=bx):=by
 obtain ⟨a,c,rfl,y1,y2,y3⟩:=x
 obtain ⟨s1,_,s3,s4⟩:=iK (n:=6) hg h0 hk (k':=T.cells (.slice a T.aW.length c)) rfl (gK _ _ _ _) (bH _ _ _ _)
 refine ⟨_,s1,⟨_,s3,rfl,rfl,bH _ _ _ _⟩,⟨_,s3,rfl,?_⟩,⟨a,c,rfl,s4.ea (fun b e=>by subst e;exact ⟨_,hg,hp⟩) y1,y2,y3⟩,s4⟩
 intro v hv
 simp only [Rf.cells,List.mem_cons,List.not_mem_nil,or_false] at hv
 rcases hv with rfl|rfl|rfl|rfl|rfl|rfl<;>rfl
def Pl6 (g:ah) (bx:Nat):Prop := ∃ k',g.get bx=some k'∧k'.length=6 ∧ ∀ u∈k',nat8 u=none
theorem Pl6.aC {g g':ah} {bx:Nat} (p:Pl6 g bx) {B:Nat→Prop} (k:Kept g g' B) (hb : ¬B bx):Pl6 g' bx:=by
 obtain ⟨q,e,e1⟩:=p
 exact ⟨q,k.dp e hb,e1⟩
theorem Pl6.lt {g:ah} {bx:Nat} (p:Pl6 g bx):bx<g.next:=by
 obtain ⟨q,e,_⟩:=p
 exact g.aR e
theorem Pl6.store {g:ah} {F:Nat→Prop} {w:Value} {T:Rf} {bx:Nat} (p:Pl6 g bx) (x:cM g F w T) (h0:g.n0≤bx) :
  ∃ g',cf 6 (ptr bx 0) w g=some (undef,g')∧Box6 g' bx w∧Pl6 g' bx∧cM g' F w T∧Kept g g' (fun c=>c=bx)∧(∀ b,b=bx→dq g b):=by
 obtain ⟨k,hg,hk,hp⟩:=p
 obtain ⟨g',e1,e2,e3,e4,e5⟩:=cM.store (v:=w) (S:=T) x hg hk hp h0
 exact ⟨g',e1,e2,e3,e4,e5,fun b e=>by subst e;exact ⟨k,hg,hp⟩⟩
theorem z6_pl {g:ah} {bx:Nat} (e:g.get bx=some cy):Pl6 g bx:=by
 obtain ⟨k,h1,h2⟩:=z6_plain e
 rw [e] at h1
 cases h1
 exact ⟨_,e,rfl,h2⟩
theorem cells_pl {g:ah} {bx:Nat} {S:Rf} {a:Option Addr} {n c:Nat} (e:g.get bx=some (S.cells (.slice a n c))):Pl6 g bx:=by
 refine ⟨_,e,rfl,?_⟩
 intro v hv
 simp only [Rf.cells,List.mem_cons,List.not_mem_nil,or_false] at hv
 rcases hv with rfl|rfl|rfl|rfl|rfl|rfl<;>rfl
section
variable {h0:ah} {F:Nat→Prop} {D:Dk} {ak gen at_ n c:Nat} {a:Option Addr} {rec_:List Nat} (hF : ∀ b,F b→b<h0.next) (ha:ak≤1) (hg:gen<18446744073709551616) (hs:av a n h0=some rec_) (hgd:goodZ a n c) (hn:n≤20000) (hfit:at_+aQ n≤D.ar)
include hF ha hg hs hgd hn hfit
def wrI (h0:ah) (F:Nat→Prop) (D:Dk) (ak gen at_ n c:Nat) (a:Option Addr) (rec_:List Nat) (k:Nat) (y:Nat→Value) (g:ah):Prop:=
 ∃ i E S v,y 5=ptr h0.next 0∧y 10=ptr (h0.next+1) 0∧y 1=aq ak∧y 2 = .int .u64 (gen:Int)∧y 3=aq at_∧y 4 = .slice a n c∧y 12=aq (aQ n)∧y 13=aq i∧i+k=aQ n ∧
   Box6 g h0.next v∧Pl6 g h0.next∧Pl6 g (h0.next+1)∧cM g F v S∧Eqd E S∧Dok E∧E.n=D.n∧Old h0 g∧Dk.wr ak gen at_ (aQ n) rec_ k i E=D.bU ak gen at_ rec_
def wrF (h0:ah) (F:Nat→Prop) (D:Dk) (ak gen at_:Nat) (rec_:List Nat) (ex:Ex) (y:Nat→Value) (g:ah):Prop:=
 ∃ S v,cM g F v S∧Eqd (D.bU ak gen at_ rec_).2 S∧Dok (D.bU ak gen at_ rec_).2∧(D.bU ak gen at_ rec_).2.n=D.n∧Old h0 g ∧
   ((ex = .exit 0∧(D.bU ak gen at_ rec_).1=0∧Box6 g h0.next v∧Pl6 g (h0.next+1)∧y 5=ptr h0.next 0∧y 10=ptr (h0.next+1) 0)∨(ex = .ret∧y 11 = .int .i64 (D.bU ak gen at_ rec_).1∧Box6 g (h0.next+1) v∧y 10=ptr (h0.next+1) 0))
theorem wr2_round : ∀ k y g,wrI h0 F D ak gen at_ n c a rec_ k y g→cY 64 (wrI h0 F D ak gen at_ n c a rec_) (wrF h0 F D ak gen at_ rec_) k (t69l69_11010 CD y g):=by
 rintro k y g ⟨i,E,S,v,i5,i10,i1,i2,i3,i4,i12,i13,hik,B6,P6,P10,xr,q,dok,hEn,bJ,hwr⟩
 have hn0:=h0.aH
 have har:D.ar=(D.n-2)/2:=rfl
 have hEar:E.ar=D.ar:=by unfold Dk.ar;rw [hEn]
 have hsm:=dok.small
 have hrl:=(aw hs).1
 have hcl:=fj (show n≤21000 by omega)
 have hm:ak*D.ar≤D.ar:=by
  have:=Nat.mul_le_mul_right D.ar ha
  omega
 unfold t69l69_11010
 simp -implicitDefEqProofs only [i13,i12,fT,af,aj]
 by_cases hlt:i<aQ n
 ·obtain ⟨k',rfl⟩ : ∃ k',k=k'+1:=⟨k-1,by omega⟩
  have htight:=costN_tight hlt
  have piece : ∀ to,106*i≤to→to≤n→(to=106*(i+1)∨(to=n∧n<106*(i+1))) → ∃ a' c',slR 1 (.slice a n c) (some (aq (106*i))) (some (aq to)) none=some (.slice a' (to-106*i) c')∧av a' (to-106*i) h0=some (chunk rec_ i):=by
   intro to h1 h2 h3
   obtain ⟨a',c',s1,s2⟩:=slR_Z hgd hs h1 h2
   refine ⟨a',c',s1,?_⟩
   rw [s2]
   unfold chunk
   rcases h3 with h3|⟨h3,h4⟩
   ·rw [h3,show 106*(i+1)-106*i=106 by omega]
   ·rw [List.take_of_length_le (by rw [List.length_drop];omega),List.take_of_length_le (by rw [List.length_drop];omega)]
  obtain ⟨g1,e46,o1⟩:=r46 xr q.aW dok.aW dok.four dok.small
  rw [hEar] at e46
  have B61:=B6.aC o1 (fun h=>h)
  have hmul:bin Try.prog .mul 3 (aq ak) (aq D.ar)=some (aq (ak*D.ar)):=mul3 (by omega)
  have hadd1:bin Try.prog .add 3 (.int .i64 2) (aq (ak*D.ar))=some (aq (2+ak*D.ar)):=gY (a:=2) (by omega)
  have h106:bin Try.prog .mul 3 (.int .i64 106) (aq (i+1))=some (aq (106*(i+1))):=mul3 (a:=106) (by omega)
  have h106i:bin Try.prog .mul 3 (.int .i64 106) (aq i)=some (aq (106*i)):=mul3 (a:=106) (by omega)
  have hll:cH (.slice a n c)=some (aq n):=rfl
  have ck6 : ∀ z:ah,cE true (some (v,z)) v=true:=by
   intro z
   obtain ⟨a',c',hv,_⟩:=xr
   rw [hv]
   exact dJ rfl (veq_cells _ _ _ _)
  have hx0 : ∀ a b:Value,aD (.tuple #[a,b]) 0=some a:=fun _ _=>rfl
  have hx1 : ∀ a b:Value,aD (.tuple #[a,b]) 1=some b:=fun _ _=>rfl
  have step : ∀ (a':Option Addr) (m c':Nat),av a' m h0=some (chunk rec_ i)→m≤106 → ∃ w g2 v' g3 g4 S',CD 98 [.int .u64 (gen:Int),aq (at_+i),aq i,aq (aQ n),.slice a' m c'] g1=some (w,g2)∧ch 6 (ptr h0.next 0) g2=some (v,g2) ∧
    CD 70 [v,aq (2+ak*D.ar+at_+i),w] g2=some (.tuple #[v',.int .i64 (E.write ((2+ak*D.ar+at_+i:Nat):Int) (cS gen (at_+i) i (aQ n) (chunk rec_ i))).1],g3) ∧
    cf 6 (ptr h0.next 0) v' g3=some (undef,g4)∧Box6 g4 h0.next v'∧Pl6 g4 h0.next∧Pl6 g4 (h0.next+1)∧cM g4 F v' S'∧Eqd (E.write ((2+ak*D.ar+at_+i:Nat):Int) (cS gen (at_+i) i (aQ n) (chunk rec_ i))).2 S'∧Old h0 g4:=by
   intro a' m c' hs' hm106
   have old1:=bJ.trans o1
   obtain ⟨w,g2,e98,ow,o2⟩:=r98 (h:=g1) (gen:=gen) (at_:=at_+i) (part:=i) (parts:=aQ n) (c:=c') hg (by omega) (by omega) (by omega) (Old.bytes old1 hs') hm106
   obtain ⟨ab,cb,rfl,t1,t2,_,_⟩:=ow.bytes
   have old2:=old1.trans o2
   have hil:S.aW.length≤1000000:=by rw [q.aW,dok.aW];omega
   obtain ⟨v',g3,e70,xr3,o3⟩:=r70 (cb:=cb) ((xr.bJ o1).bJ o2) (fun b hb=>Nat.lt_of_lt_of_le (hF b hb) old2.next) hil q.kp ((2+ak*D.ar+at_+i:Nat):Int) t1
   obtain ⟨qe,qq⟩:=q.write dok.aW dok.after ((2+ak*D.ar+at_+i:Nat):Int) (cS gen (at_+i) i (aQ n) (chunk rec_ i))
   rw [qe] at e70
   have old3:=old2.trans o3
   have o123:=(o1.trans o2).trans o3
   obtain ⟨g4,s1,s2,s3,s4,s5,_⟩:=(P6.aC o123 (fun h=>h)).store xr3 (by rw [old3.n0];exact hn0)
   exact ⟨_,g2,v',g3,g4,_,e98,(B61.aC o2 (fun h=>h)).ld,e70,s1,s2,s3,(P10.aC o123 (fun h=>h)).aC s5 (by omega),s4,qq,old3.bS s5 (fun c hc e=>by omega)⟩
  have hwr':(if (E.write ((2+ak*D.ar+at_+i:Nat):Int) (cS gen (at_+i) i (aQ n) (chunk rec_ i))).1=0 then Dk.wr ak gen at_ (aQ n) rec_ k' (i+1) (E.write ((2+ak*D.ar+at_+i:Nat):Int) (cS gen (at_+i) i (aQ n) (chunk rec_ i))).2
    else E.write ((2+ak*D.ar+at_+i:Nat):Int) (cS gen (at_+i) i (aQ n) (chunk rec_ i)))=D.bU ak gen at_ rec_:=by
   rw [←hEar];exact hwr
  have dw:=dok.write ((2+ak*D.ar+at_+i:Nat):Int) (cS gen (at_+i) i (aQ n) (chunk rec_ i))
  generalize hW:E.write ((2+ak*D.ar+at_+i:Nat):Int) (cS gen (at_+i) i (aQ n) (chunk rec_ i))=W at *
  have hnz : ∀ e:Int,bin Try.prog .neq 28 (.int .i64 e) (.int .i64 0)=some (.bool (e != 0)):=dG
  have ends : ∀ (a':Option Addr) (m c':Nat),av a' m h0=some (chunk rec_ i)→m≤106→True:=fun _ _ _ _ _=>trivial
  by_cases hto:n<106*(i+1)
  ·obtain ⟨a',c',p1,p2⟩:=piece n htight (Nat.le_refl _) (.inr ⟨rfl,hto⟩)
   obtain ⟨w,g2,v',g3,g4,S',e98,l62,e70,s1,s2,s3,s4,xr4,q4,old4⟩:=step a' _ c' p2 (by omega)
   simp -implicitDefEqProofs only [decide_eq_true hlt,ef (show i+1≤9223372036854775807 by omega),h106,i4,hll,gtr3,decide_eq_true hto,af,aj,i5,B6.ld,i1,e46,hmul,hadd1,i3,gY (show 2+ak*D.ar+at_≤9223372036854775807 by omega),gY (show 2+ak*D.ar+at_+i≤9223372036854775807 by omega),gY (show at_+i≤9223372036854775807 by omega),i2,h106i,p1,e98,e70,hx0,hx1,s1,B61.ld,l62,ck6,Bool.and_true,hnz]
   by_cases hz:W.1=0
   ·rw [if_pos hz] at hwr'
    simp -implicitDefEqProofs only [hz,bne_self_eq_false,af,ef (show i+1≤9223372036854775807 by omega),aj]
    exact cY.next k' (by omega) ⟨i+1,W.2,S',v',i5,i10,i1,i2,i3,i4,i12,rfl,by omega,s2,s3,s4,xr4,q4,dw.1,dw.2.trans hEn,old4,hwr'⟩
   ·rw [if_neg hz] at hwr'
    have hne:(W.1 != 0)=true:=by simpa using hz
    obtain ⟨g5,t1,t2,t3,t4,t5,_⟩:=s4.store xr4 (by rw [old4.n0];omega)
    simp -implicitDefEqProofs only [hne,af,s2.ld,i10,t1]
    subst hwr'
    exact cY.ret ⟨S',v',t4,q4,dw.1,dw.2.trans hEn,old4.bS t5 (fun c hc e=>by omega),.inr ⟨rfl,rfl,t2,i10⟩⟩
  ·obtain ⟨a',c',p1,p2⟩:=piece (106*(i+1)) (by omega) (by omega) (.inl rfl)
   obtain ⟨w,g2,v',g3,g4,S',e98,l62,e70,s1,s2,s3,s4,xr4,q4,old4⟩:=step a' _ c' p2 (by omega)
   simp -implicitDefEqProofs only [decide_eq_true hlt,ef (show i+1≤9223372036854775807 by omega),h106,i4,hll,gtr3,decide_eq_false hto,af,aj,i5,B6.ld,i1,e46,hmul,hadd1,i3,gY (show 2+ak*D.ar+at_≤9223372036854775807 by omega),gY (show 2+ak*D.ar+at_+i≤9223372036854775807 by omega),gY (show at_+i≤9223372036854775807 by omega),i2,h106i,p1,e98,e70,hx0,hx1,s1,B61.ld,l62,ck6,Bool.and_true,hnz]
   by_cases hz:W.1=0
   ·rw [if_pos hz] at hwr'
    simp -implicitDefEqProofs only [hz,bne_self_eq_false,af,ef (show i+1≤9223372036854775807 by omega),aj]
    exact cY.next k' (by omega) ⟨i+1,W.2,S',v',i5,i10,i1,i2,i3,i4,i12,rfl,by omega,s2,s3,s4,xr4,q4,dw.1,dw.2.trans hEn,old4,hwr'⟩
   ·rw [if_neg hz] at hwr'
    have hne:(W.1 != 0)=true:=by simpa using hz
    obtain ⟨g5,t1,t2,t3,t4,t5,_⟩:=s4.store xr4 (by rw [old4.n0];omega)
    simp -implicitDefEqProofs only [hne,af,s2.ld,i10,t1]
    subst hwr'
    exact cY.ret ⟨S',v',t4,q4,dw.1,dw.2.trans hEn,old4.bS t5 (fun c hc e=>by omega),.inr ⟨rfl,rfl,t2,i10⟩⟩
 ·simp -implicitDefEqProofs only [decide_eq_false hlt]
  have hk0:k=0:=by omega
  subst hk0
  have hw:(0,E)=D.bU ak gen at_ rec_:=hwr
  unfold wrF
  rw [←hw]
  exact cY.out 0 ⟨S,v,xr,q,dok,hEn,bJ,.inl ⟨rfl,rfl,B6,P10,i5,i10⟩⟩
end
end Go.Proofs.Ytcmfgmhadeeieaa

namespace Go.Proofs.Ytcmfgmhadeeieaa
open Go Go.Abs
theorem is42:cA Try.prog 42 Try.f42:=⟨by kernel_rfl,by kernel_rfl,by kernel_rfl,by kernel_rfl⟩
theorem results42:Try.f42.results.toList = [.cell 6 63,.cell 7 70,.tmp 8,.tmp 9]:=by kernel_rfl
section
variable {h0:ah} {F:Nat→Prop} {D:Dk} {ak gen at_ n c:Nat} {a:Option Addr} {rec_:List Nat} (hF : ∀ b,F b→b<h0.next) (ha:ak≤1) (hg:gen<18446744073709551616) (hs:av a n h0=some rec_) (hgd:goodZ a n c) (hn:n≤20000) (hfit:at_+aQ n≤D.ar)
include hF ha hg hs hgd hn hfit
theorem r69 {v:Value} {S:Rf} (xr:cM h0 F v S) (q:Eqd D S) (dok:Dok D) : ∃ v' S' h',CD 69 [v,aq ak,.int .u64 (gen:Int),aq at_,.slice a n c] h0=some (.tuple #[v',.int .i64 (D.bU ak gen at_ rec_).1],h')∧cM h' F v' S'∧Eqd (D.bU ak gen at_ rec_).2 S'∧Dok (D.bU ak gen at_ rec_).2∧(D.bU ak gen at_ rec_).2.n=D.n∧Old h0 h':=by
 have hn0:=h0.aH
 have hrl:=(aw hs).1
 have hcl:=fj (show n≤21000 by omega)
 have x':=xr
 obtain ⟨ar,cr,g,rfl,b1,b2,b3,b4,b5,b6,b7,b8,b9,_⟩:=dZ xr
 have b5:=newC6 b5
 have hll:cH (.slice a n c)=some (aq n):=rfl
 have key : ∀ o,t69 CD (.agg (S.cells (.slice ar S.aW.length cr)).toArray) (aq ak) (.int .u64 (gen:Int)) (aq at_) (.slice a n c) h0=o → ∃ v' S' h',o=some (.tuple #[v',.int .i64 (D.bU ak gen at_ rec_).1],h')∧cM h' F v' S'∧Eqd (D.bU ak gen at_ rec_).2 S'∧Dok (D.bU ak gen at_ rec_).2∧(D.bU ak gen at_ rec_).2.n=D.n∧Old h0 h':=by
  intro o ho
  subst ho
  unfold t69
  simp -implicitDefEqProofs only [b1,b5,af,hll,aj,r16 n _ (show n≤100000000 by omega)]
  refine cn (Q:=fun o:Out => ∃ v' S' h',o=some (.tuple #[v',.int .i64 (D.bU ak gen at_ rec_).1],h')∧cM h' F v' S'∧Eqd (D.bU ak gen at_ rec_).2 S'∧Dok (D.bU ak gen at_ rec_).2∧(D.bU ak gen at_ rec_).2.n=D.n∧Old h0 h')
   (cg (t69l69_11010_eq CD) (wr2_round (D:=D) hF ha hg hs hgd hn hfit) (aQ n) (by have:rounds=18446744073709551616:=rfl;omega)
    ⟨0,D,S,_,rfl,rfl,rfl,rfl,rfl,rfl,rfl,rfl,Nat.zero_add _,⟨_,b8,rfl,rfl,bH _ _ _ _⟩,cells_pl b8,z6_pl b6,x'.bJ b7,q,dok,rfl,b7,by unfold Dk.bU;rw [hrl]⟩) ?_
  rintro ex y g4 ⟨S',v',xr4,q4,d4,n4,old4,⟨rfl,hz,B6,P10,y5,bM⟩|⟨rfl,bY,B10,bM⟩⟩
  ·obtain ⟨g5,t1,t2,t3,t4,t5,_⟩:=P10.store xr4 (by rw [old4.n0];omega)
   refine ⟨v',S',g5,?_,t4,q4,d4,n4,old4.bS t5 (fun c hc e=>by omega)⟩
   simp -implicitDefEqProofs only [bA,b69_exit,t69k69_2_eq]
   unfold t69k69_2
   simp -implicitDefEqProofs only [af,y5,B6.ld,bM,t1]
   rw [hz]
   refine iF (rs:=Try.f69.results.toList) (n:=64) results69 (by decide) (by decide) _ ?_
   show ch 6 (y 10) g5=_
   rw [bM];exact t2.ld
  ·refine ⟨v',S',g4,?_,xr4,q4,d4,n4,old4⟩
   have hr:au Try.prog Try.f69.results.toList (aY 64 y) g4=some (.tuple #[v',y 11],g4):=iF results69 (by decide) (by decide) y (by rw [bM];exact B10.ld)
   rw [bY] at hr
   rw [iG];exact hr
 obtain ⟨v',S',h',e,r⟩:=key _ rfl
 exact ⟨v',S',h',aO is69 rfl ((t69_eq _ _ _ _ _ _ _).trans e),r⟩
end
theorem gV (J:Jn) : ∀ u∈J.rc,nat8 u=none:=by
 intro v hv
 simp only [Jn.rc,List.mem_cons,List.not_mem_nil,or_false] at hv
 rcases hv with rfl|rfl|rfl|rfl|rfl|rfl|rfl|rfl<;>rfl
theorem zero8_plain : ∀ u∈iT,nat8 u=none:=by
 intro v hv
 simp only [iT,List.mem_cons,List.not_mem_nil,or_false] at hv
 rcases hv with rfl|rfl|rfl|rfl|rfl|rfl|rfl|rfl<;>rfl
theorem miss8_plain : ∀ u∈iU,nat8 u=none:=by
 intro v hv
 simp only [iU,List.mem_cons,List.not_mem_nil,or_false] at hv
 rcases hv with rfl|rfl|rfl|rfl|rfl|rfl|rfl|rfl<;>rfl
structure Dj (h g:ah) (F:Nat→Prop) (v:Value) (S:Rf) (k8:dW):Prop where
 box:Box6 g h.next v
 p6:Pl6 g h.next
 j:g.get (h.next+1)=some k8
 r6:Pl6 g (h.next+2)
 r8:g.get (h.next+3)=some iT
 xr:cM g F v S
 bJ:Old h g
theorem dj4 {h:ah} {F:Nat→Prop} {v:Value} {S:Rf} (x:cM h F v S) {k8:dW} (ho:bK k8=true) : ∃ g g2 g3 g4,box v h=some (ptr h.next 0,g)∧box (.agg k8.toArray) g=some (ptr (h.next+1) 0,g2) ∧
  dB [(.slice none 0 0),(.bool false),(.bool false),(.int .i64 0),(.int .i64 0),(.int .i64 0)] g2=some (ptr (h.next+2) 0,g3)∧dB [(.int .i64 0),(.int .i64 0),(.int .u64 0),(.int .i64 0),(.int .u64 0),(.bool false),(.int .i64 0),(.bool false)] g3=some (ptr (h.next+3) 0,g4)∧Dj h g4 F v S k8:=by
 obtain ⟨a,c,g,g2,rfl,b1,b2,b3,b4,b5,b6⟩:=dj_begin x ho
 have o3:Old g2 (g2.alloc cy):=Kept.alloc _ _ _
 have n3:(g2.alloc cy).next=g2.next+1:=ah.aS ..
 have o4:Old (g2.alloc cy) ((g2.alloc cy).alloc iT):=Kept.alloc _ _ _
 have e3:=new6 g2
 have e4:=new8 (g2.alloc cy)
 rw [b6] at e3
 rw [n3,b6] at e4
 have r6:(g2.alloc cy).get (h.next+2)=some cy:=by rw [ah.aE,if_pos b6.symm]
 have r8:((g2.alloc cy).alloc iT).get (h.next+3)=some iT:=by rw [ah.aE,if_pos (by rw [n3,b6])]
 have o34:=o3.trans o4
 have oo:=b5.trans o34
 have hb:=Old.get o34 b3
 exact ⟨g,g2,_,_,b1,b2,e3,e4,⟨_,hb,rfl,rfl,bH _ _ _ _⟩,cells_pl hb,Old.get o34 b4,z6_pl (Old.get o4 r6),r8,x.bJ oo,oo⟩
theorem Dj.fin {h g:ah} {F:Nat→Prop} {v:Value} {S:Rf} {k8:dW} (x:Dj h g F v S k8) (hl:k8.length=8) (ho:bK k8=true) (hh:Abs.cN k8=true) :
  ch 6 (ptr h.next 0) g=some (v,g)∧ch 8 (ptr (h.next+1) 0) g=some (.agg k8.toArray,g) ∧ ∃ g1 g2,cf 6 (ptr (h.next+2) 0) v g=some (undef,g1)∧ch 8 (ptr (h.next+1) 0) g1=some (.agg k8.toArray,g1)∧cf 8 (ptr (h.next+3) 0) (.agg k8.toArray) g1=some (undef,g2) ∧
   ch 6 (ptr (h.next+2) 0) g2=some (v,g2)∧ch 8 (ptr (h.next+3) 0) g2=some (.agg k8.toArray,g2)∧cM g2 F v S∧Old h g2∧Kept g g2 (fun c=>c=h.next+2∨c=h.next+3):=by
 have hn0:=h.aH
 obtain ⟨g1,s1,s2,s3,s4,s5,_⟩:=x.r6.store x.xr (by rw [x.bJ.n0];omega)
 have oo1:Old h g1:=x.bJ.bS s5 (fun c hc e=>by omega)
 have r8:=s5.dp x.r8 (by omega)
 have j1:=s5.dp x.j (by omega)
 obtain ⟨t1,t2,t3,t4⟩:=iK (n:=8) r8 (by rw [oo1.n0];omega) rfl hl ho hh
 refine ⟨x.box.ld,cZ x.j hl hh,g1,_,s1,cZ j1 hl hh,t1,(s2.aC t4 (by omega)).ld,t2,?_,oo1.bS t4 (fun c hc e=>by omega),(s5.mono (fun _ _ e => .inl e)).bS t4 (fun _ _ e => .inr e)⟩
 obtain ⟨a,c,rfl,y1,y2,y3⟩:=s4
 exact ⟨a,c,rfl,t4.ea (fun b e=>by subst e;exact ⟨_,r8,zero8_plain⟩) y1,y2,y3⟩
end Go.Proofs.Ytcmfgmhadeeieaa

namespace Go.Proofs.Ytcmfgmhadeeieaa
open Go Go.Abs
theorem Dj.aC {h g g':ah} {F:Nat→Prop} {v:Value} {S:Rf} {k8:dW} (x:Dj h g F v S k8) (o:Old g g'):Dj h g' F v S k8:=
 ⟨x.box.aC o (fun h=>h),x.p6.aC o (fun h=>h),Old.get o x.j,x.r6.aC o (fun h=>h),Old.get o x.r8,x.xr.bJ o,x.bJ.trans o⟩
theorem Dj.store {h g g1:ah} {F:Nat→Prop} {v w:Value} {S T:Rf} {k8:dW} (x:Dj h g F v S k8) (o:Old g g1) (y:cM g1 F w T) : ∃ g2,cf 6 (ptr h.next 0) w g1=some (undef,g2)∧Dj h g2 F w T k8∧Kept g1 g2 (fun c=>c=h.next):=by
 have hn0:=h.aH
 have oo:=x.bJ.trans o
 obtain ⟨g2,s1,s2,s3,s4,s5,_⟩:=(x.p6.aC o (fun h=>h)).store y (by rw [oo.n0];omega)
 exact ⟨g2,s1,⟨s2,s3,s5.dp (Old.get o x.j) (by omega),(x.r6.aC o (fun h=>h)).aC s5 (by omega),s5.dp (Old.get o x.r8) (by omega),s4,oo.bS s5 (fun c hc e=>by omega)⟩,s5⟩
theorem Dj.setJ {h g:ah} {F:Nat→Prop} {v u:Value} {S:Rf} {k8 k9:dW} {i:Nat} (x:Dj h g F v S k8) (hp : ∀ u∈k8,nat8 u=none) (hi:i<k8.length) (hs:k8.set i u=k9) (h1:u.cells = #[u]) (h2:u.oneCell'=true) :
  ∃ g2,cf 1 (ptr (h.next+1) i) u g=some (undef,g2)∧Dj h g2 F v S k9∧Kept g g2 (fun c=>c=h.next+1):=by
 have hn0:=h.aH
 subst hs
 have s:=dy (v:=u) x.j hi (by rw [x.bJ.n0];omega) h1 h2
 obtain ⟨k1,k2⟩:=eT (k':=k8.set i u) x.j (by rw [x.bJ.n0];omega)
 refine ⟨_,s,⟨x.box.aC k1 (by omega),x.p6.aC k1 (by omega),k2,x.r6.aC k1 (by omega),k1.dp x.r8 (by omega),?_,x.bJ.bS k1 (fun c hc e=>by omega)⟩,k1⟩
 obtain ⟨a,c,rfl,y1,y2,y3⟩:=x.xr
 exact ⟨a,c,rfl,k1.ea (fun b e=>by subst e;exact ⟨_,x.j,hp⟩) y1,y2,y3⟩
theorem ck_rc (J:Jn) (z:ah):cE true (some (Value.agg J.rc.toArray,z)) (.agg J.rc.toArray)=true:=dJ rfl (by simp [veq,veqL,Jn.rc,aq])
theorem ck_rf {h:ah} {F:Nat→Prop} {v:Value} {S:Rf} (x:cM h F v S) (z:ah):cE true (some (v,z)) v=true:=by
 obtain ⟨a,c,rfl,_⟩:=x
 exact dJ rfl (veq_cells _ _ _ _)
set_option maxRecDepth 100000 in
theorem r42 {h:ah} {F:Nat→Prop} {v:Value} {S:Rf} {D:Dk} {J:Jn} {a:Option Addr} {n c:Nat} {rec_:List Nat} (x:cM h F v S) (hF : ∀ b,F b→b<h.next) (q:Eqd D S) (dok:Dok D) (ok:iD J D) (hs:av a n h=some rec_) (hgd:goodZ a n c) (hn:n≤100000000) :
  ∃ v' S' h',CD 42 [v,.agg J.rc.toArray,.slice a n c] h=some (.tuple #[v',.agg (J.append D rec_).2.2.rc.toArray,aq (if (J.append D rec_).1=0 then J.fin else 0),.int .i64 (J.append D rec_).1],h')∧cM h' F v' S'∧Eqd (J.append D rec_).2.1 S'∧Old h h':=by
 obtain rfl:=(aw hs).1
 have har:D.ar=(D.n-2)/2:=rfl
 have hsm:=dok.small
 obtain ⟨g,g2,g3,g4,b1,b2,b3,b4,dj⟩:=dj4 x (iP J)
 have m7:ba (ptr (h.next+1) 7) g4=some (.bool false,g4):=aN dj.j rfl rfl
 have l6:=dj.box.ld
 have l8:=cZ (n:=8) dj.j rfl (fC J)
 obtain ⟨q1,e68,o1⟩:=r68 dj.xr q J
 have dj1:=dj.aC o1
 have hll:cH (.slice a rec_.length c)=some (aq rec_.length):=rfl
 have hg20:=gtr3k rec_.length 20000
 have hg20:bin Try.prog .gtr 3 (aq rec_.length) (.int .i64 20000)=some (.bool (decide (20000<rec_.length))):=hg20
 suffices key : ∃ v' S' h',t42 CD v (.agg J.rc.toArray) (.slice a rec_.length c) h=some (.tuple #[v',.agg (J.append D rec_).2.2.rc.toArray,aq (if (J.append D rec_).1=0 then J.fin else 0),.int .i64 (J.append D rec_).1],h')∧cM h' F v' S'∧Eqd (J.append D rec_).2.1 S'∧Old h h' by
  obtain ⟨v',S',h',e,r⟩:=key
  exact ⟨v',S',h',aO is42 rfl ((t42_eq _ _ _ _ _).trans e),r⟩
 unfold t42 Jn.append
 simp -implicitDefEqProofs only [b1,b2,b3,b4,af,ax,Nat.zero_add,aj,m7,l6,l8,e68,cC]
 obtain ⟨k6,k8,z1,z2,f1,f2,f3,f4,f5,f6,f7,_⟩:=dj1.fin rfl (iP J) (fC J)
 have fin : ∀ (e:Int) (y:Nat→Value),y 6=ptr (h.next+2) 0→y 7=ptr (h.next+3) 0→y 8 = .int .i64 0→y 9 = .int .i64 e→au Try.prog Try.f42.results.toList (aY 69 y) z2=some (.tuple #[v,.agg J.rc.toArray,.int .i64 0,.int .i64 e],z2):=by
  intro e y y6 y7 y8 y9
  have:=res_c4 results42 (n:=69) (by decide) (by decide) (by decide) (by decide) ld63 ld70 y (h:=z2) (v:=v) (w := .agg J.rc.toArray) (by rw [y6];exact f4) (by rw [y7];exact f5)
  rw [y8,y9] at this
  exact this
 cases hL:J.live D with
 |false=>
  simp -implicitDefEqProofs only [Bool.not_false,af,k6,k8,f1,f2,f3,ck_rc,Bool.and_true,if_true,show ((9:Int)=0)=False from eq_false (by decide),if_false]
  exact ⟨v,S,z2,fin 9 _ rfl rfl rfl rfl,f6,q,f7⟩
 |true=>
  have m5:ba (ptr (h.next+1) 5) q1=some (.bool J.ready,q1):=aN dj1.j rfl rfl
  simp -implicitDefEqProofs only [Bool.not_true,af,ax,Nat.zero_add,aj,m5,cC,show (true=false)=False from eq_false (by decide),if_false]
  cases hR:J.ready with
  |false=>
   simp -implicitDefEqProofs only [Bool.not_false,af,k6,k8,f1,f2,f3,ck_rc,Bool.and_true,if_true,show ((30:Int)=0)=False from eq_false (by decide),if_false]
   exact ⟨v,S,z2,fin 30 _ rfl rfl rfl rfl,f6,q,f7⟩
  |true=>
   obtain ⟨hfin,hslot⟩:=ok.ready hR
   simp -implicitDefEqProofs only [Bool.not_true,af,hll,aj,hg20,show (true=false)=False from eq_false (by decide),if_false]
   by_cases h20:20000<rec_.length
   ·simp -implicitDefEqProofs only [decide_eq_true h20,af,k6,k8,f1,f2,f3,ck_rc,Bool.and_true,if_pos h20,show ((3:Int)=0)=False from eq_false (by decide),if_false]
    exact ⟨v,S,z2,fin 3 _ rfl rfl rfl rfl,f6,q,f7⟩
   ·obtain ⟨q2,e73,o2⟩:=r73 dj1.xr q dok.aW dok.four dok.small (J:=J) (fun _=>hfin)
    have dj2:=dj1.aC o2
    have hfree:J.free D=D.ar-J.fin:=by unfold Jn.free;rw [hL,hR];rfl
    rw [hfree] at e73
    simp -implicitDefEqProofs only [decide_eq_false h20,r16 rec_.length _ hn,af,k6,k8,e73,aj,gtr3,ck_rf dj1.xr,ck_rc,Bool.and_true,if_neg h20,hfree]
    by_cases hroom:D.ar-J.fin<aQ rec_.length
    ·obtain ⟨k6,k8,z1,z2,f1,f2,f3,f4,f5,f6,f7,_⟩:=dj2.fin rfl (iP J) (fC J)
     have fin : ∀ (e:Int) (y:Nat→Value),y 6=ptr (h.next+2) 0→y 7=ptr (h.next+3) 0→y 8 = .int .i64 0→y 9 = .int .i64 e→au Try.prog Try.f42.results.toList (aY 69 y) z2=some (.tuple #[v,.agg J.rc.toArray,.int .i64 0,.int .i64 e],z2):=by
      intro e y y6 y7 y8 y9
      have:=res_c4 results42 (n:=69) (by decide) (by decide) (by decide) (by decide) ld63 ld70 y (h:=z2) (v:=v) (w := .agg J.rc.toArray) (by rw [y6];exact f4) (by rw [y7];exact f5)
      rw [y8,y9] at this
      exact this
     simp -implicitDefEqProofs only [decide_eq_true hroom,af,k6,k8,f1,f2,f3,ck_rc,Bool.and_true,if_pos hroom,show ((8:Int)=0)=False from eq_false (by decide),if_false]
     exact ⟨v,S,z2,fin 8 _ rfl rfl rfl rfl,f6,q,f7⟩
    ·have old2:=dj2.bJ
     obtain ⟨v',S',q3,e69,xr3,qq,dd,_,o3⟩:=r69 (h0:=q2) (F:=F) (D:=D) (ak:=J.ak) (gen:=J.gen) (at_:=J.fin) (c:=c) (fun b hb=>Nat.lt_of_lt_of_le (hF b hb) old2.next) ok.ak ok.gen (Old.bytes old2 hs) hgd (by omega) (by omega) dj2.xr q dok
     obtain ⟨q4,s4,dj4',_⟩:=dj2.store o3 xr3
     have l62:=dj2.box.ld
     have n6:ba (ptr (h.next+1) 6) q2=some (aq J.fin,q2):=aN dj2.j rfl rfl
     have n3:ba (ptr (h.next+1) 3) q2=some (aq J.ak,q2):=aN dj2.j rfl rfl
     have n2:ba (ptr (h.next+1) 2) q2=some (.int .u64 (J.gen:Int),q2):=aN dj2.j rfl rfl
     have hx0 : ∀ a b:Value,aD (.tuple #[a,b]) 0=some a:=fun _ _=>rfl
     have hx1 : ∀ a b:Value,aD (.tuple #[a,b]) 1=some b:=fun _ _=>rfl
     simp -implicitDefEqProofs only [decide_eq_false hroom,af,ax,Nat.zero_add,aj,n6,l62,n3,n2,e69,hx0,hx1,s4,dG,if_neg hroom]
     generalize hW:D.bU J.ak J.gen J.fin rec_=W at *
     by_cases hz:W.1=0
     ·have n64:ba (ptr (h.next+1) 6) q4=some (aq J.fin,q4):=aN dj4'.j rfl rfl
      obtain ⟨q5,t1,dj5,_⟩:=dj4'.setJ (i:=6) (u:=aq (J.fin+aQ rec_.length)) (k9:=({ J with fin:=J.fin+aQ rec_.length }:Jn).rc) (gV J) (by show 6<8;decide) rfl rfl rfl
      obtain ⟨k6,k8,z1,z2,f1,f2,f3,f4,f5,f6,f7,_⟩:=dj5.fin rfl (iP _) (fC _)
      have ckn : ∀ z:ah,cE true (some (aq J.fin,z)) (aq J.fin)=true:=fun z=>dJ rfl (by simp [aq,veq])
      have hcl:=fj (show rec_.length≤21000 by omega)
      simp -implicitDefEqProofs only [hz,bne_self_eq_false,af,ax,Nat.zero_add,aj,n64,hll,r16 rec_.length _ hn,gY (show J.fin+aQ rec_.length≤9223372036854775807 by omega),t1,ckn,k6,k8,f1,f2,f3,ck_rc,Bool.and_true,if_true]
      refine ⟨v',S',z2,?_,f6,qq,f7⟩
      rw [show ({ J with fin:=J.fin+aQ rec_.length }:Jn)={ aU:=J.aU,slot:=J.slot,ak:=J.ak,gen:=J.gen,known:=J.known,ready:=true,fin:=J.fin+aQ rec_.length } by rw [hR]] at f5
      exact res_c4 (rs:=Try.f42.results.toList) (n:=69) results42 (by decide) (by decide) (by decide) (by decide) ld63 ld70 _ f4 f5
     ·have hne:(W.1 != 0)=true:=by simpa using hz
      obtain ⟨k6,k8,z1,z2,f1,f2,f3,f4,f5,f6,f7,_⟩:=dj4'.fin rfl (iP J) (fC J)
      simp -implicitDefEqProofs only [hne,af,k6,k8,f1,f2,f3,ck_rc,Bool.and_true,hz,if_false]
      exact ⟨v',S',z2,res_c4 (rs:=Try.f42.results.toList) (n:=69) results42 (by decide) (by decide) (by decide) (by decide) ld63 ld70 _ f4 f5,f6,qq,f7⟩
end Go.Proofs.Ytcmfgmhadeeieaa

