/-
  A part of the proof, spaces and names shortened by a program (a claim may hold 1,500,000 bytes).
  Conditions: as each theorem states.
-/
import Derived.Test.YtdnahgfgoajmcaaGreatDoorG19
namespace Go.Proofs.YtdnahgfgoajmcaaGreatDoor
open Go Go.Abs Tryz
attribute [local congr] aq
def AE (r:ao):List UInt8:=(dx r).map UInt8.ofNat
def fp (a b:ao):Int:=Go.Lib.compareBytes (AE a) (AE b)
theorem BP {a:Option Addr} {n c:Nat} {h:ad} {l:List Nat} (e:av a n h=some l):bytesA (.slice a n c) h=some (l.map UInt8.ofNat):=by have hl:=(aK e).1;have hf:=hJ e (DF n) (c:=c);rw [D1 (by omega)] at hf;unfold bytesA;simp only [hf,Option.bind_some];exact pI
theorem is66:bP prog 51 f51:=by constructor<;>kernel_rfl
theorem is65:bP prog 50 f50:=by constructor<;>kernel_rfl
theorem r66 {h:ad} (hG:4<=h.n0) {a b:Option Addr} {n m c d:Nat} {x y:List Nat} (hx:av a n h=some x) (hy:av b m h=some y) :
  CW 51 [.slice a n c,.slice b m d] h=some (.int .i64 (Go.Lib.compareBytes (x.map UInt8.ofNat) (y.map UInt8.ofNat)),h):=by
 have e:CW 85 [.slice a n c,.slice b m d] h=some (.int .i64 (Go.Lib.compareBytes (x.map UInt8.ofNat) (y.map UInt8.ofNat)),h):=uk (by show cmpS [.slice a n c,.slice b m d] h=_;unfold cmpS;simp only [BP hx,BP hy])
 refine aD is66 hG rfl ((t66_eq _ _ _ _).trans ?_);unfold t66;simp -implicitDefEqProofs only [ae,e]
theorem r65 {h:ad} (hG:4<=h.n0) {a b:ao} (wa:a.Wf) (wb:b.Wf) : ∃ h',CW 50 [.agg (bL a).toArray,.agg (bL b).toArray] h=some (.int .i64 (fp a b),h')/\aA h h':=by
 obtain ⟨h1,b1,o1,g1,n1⟩:=cJ h wa;obtain ⟨h2,b2,o2,g2,n2⟩:=cJ h1 wb;have ca:=aM wa;have cb:=aM wb;have LA : ∀ g,aA h2 g->cx 39 (ptr h.next 0) g=some (.agg (bL a).toArray,g):=fun g o=>bc (aA.get o (o2.get g1)) ca.1 ca.2.1;have LB : ∀ g,aA h2 g->cx 39 (ptr h1.next 0) g=some (.agg (bL b).toArray,g):=fun g o=>bc (aA.get o g2) cb.1 cb.2.1;have G2:4<=h2.n0:=by rw [o2.n0,o1.n0];exact hG
 obtain ⟨p,c,h3,e3,s3,o3⟩:=r67 G2 wa;have G3:4<=h3.n0:=by rw [o3.n0];exact G2
 obtain ⟨q,d,h4,e4,s4,o4⟩:=r67 G3 wb;have G4:4<=h4.n0:=by rw [o4.n0];exact G3
 have e5:=r66 (c:=c) (d:=d) G4 (o4.bytes s3) s4;refine ⟨h4,aD is65 hG rfl ((t65_eq _ _ _ _).trans ?_),((o1.trans o2).trans o3).trans o4⟩;have ck:bF true (some (.agg (bL b).toArray,h2)) (.agg (bL b).toArray)=true:=qC _ _ (cA wb).kinds;unfold t65;simp -implicitDefEqProofs only [b1,b2,ae,LA h2 (az.refl _ _),e3,LB h3 o3,e4,e5,LB h2 (az.refl _ _),ck,FD];rfl
end Go.Proofs.YtdnahgfgoajmcaaGreatDoor
namespace Go.Proofs.YtdnahgfgoajmcaaGreatDoor
open Go Go.Abs Tryz
open Go.Lib (compareBytes)
theorem lE (x y:UInt8) (a b:List UInt8):compareBytes (x::a) (y::b)=if x.toNat<y.toNat then -1 else if y.toNat<x.toNat then 1 else compareBytes a b:=by
 conv=>lhs;unfold compareBytes
 simp only [IZ]
theorem CK : ∀ a:List UInt8,compareBytes a a=0
 | []=>rfl
 |x::a=>by rw [lE,DM (F9 _),DM (F9 _),CK a]
theorem tN : ∀ a b c:List UInt8,compareBytes a b<0->compareBytes b c<0->compareBytes a c<0
 | [],[],_,h,_=>absurd h (by decide)
 | [],_::_,[],_,h=>absurd h (by show ¬(1:Int)<0;decide)
 | [],_::_,_::_,_,_=>by show (-1:Int)<0;decide
 |_::_,[],_,h,_=>absurd h (by show ¬(1:Int)<0;decide)
 |_::_,_::_,[],_,h=>absurd h (by show ¬(1:Int)<0;decide)
 |x::a,y::b,z::c,h1,h2=>by
  rw [lE] at h1 h2 |-;by_cases e1:x.toNat<y.toNat
  ·by_cases e2:y.toNat<z.toNat
   ·rw [DL (by omega)];decide
   ·rw [DM e2] at h2;by_cases e3:z.toNat<y.toNat
    ·rw [DL e3] at h2;omega
    ·rw [DL (by omega)];decide
  ·rw [DM e1] at h1;by_cases e4:y.toNat<x.toNat
   ·rw [DL e4] at h1;omega
   ·rw [DM e4] at h1;by_cases e2:y.toNat<z.toNat
    ·rw [DL (by omega)];decide
    ·rw [DM e2] at h2;by_cases e3:z.toNat<y.toNat
     ·rw [DL e3] at h2;omega
     ·rw [DM e3] at h2;rw [DM (by omega),DM (by omega)];exact tN a b c h1 h2
theorem qz : ∀ a b c:List UInt8,¬compareBytes a b<0 -> ¬compareBytes b c<0 -> ¬compareBytes a c<0
 | [],[],[],_,_=>by decide
 | [],[],_::_,_,h=>absurd (by show (-1:Int)<0;decide) h
 | [],_::_,_,h,_=>absurd (by show (-1:Int)<0;decide) h
 |_::_,_,[],_,_=>by show ¬(1:Int)<0;decide
 |_::_,[],_::_,_,h=>absurd (by show (-1:Int)<0;decide) h
 |x::a,y::b,z::c,h1,h2=>by
  rw [lE] at h1 h2 |-;by_cases e1:x.toNat<y.toNat
  ·rw [DL e1] at h1;exact absurd (by decide) h1
  ·rw [DM e1] at h1;by_cases e2:y.toNat<z.toNat
   ·rw [DL e2] at h2;exact absurd (by decide) h2
   ·rw [DM e2] at h2;by_cases e4:y.toNat<x.toNat
    ·rw [DM (by omega),DL (by omega)];decide
    ·rw [DM e4] at h1;by_cases e3:z.toNat<y.toNat
     ·rw [DM (by omega),DL (by omega)];decide
     ·rw [DM e3] at h2;rw [DM (by omega),DM (by omega)];exact qz a b c h1 h2
theorem cb_eq : ∀ a b:List UInt8,compareBytes a b=0->a=b
 | [],[],_=>rfl
 | [],_::_,h=>absurd h (by show ¬(-1:Int)=0;decide)
 |_::_,[],h=>absurd h (by show ¬(1:Int)=0;decide)
 |x::a,y::b,h=>by
  rw [lE] at h;by_cases e1:x.toNat<y.toNat
  ·rw [DL e1] at h;omega
  ·rw [DM e1] at h;by_cases e2:y.toNat<x.toNat
   ·rw [DL e2] at h;omega
   ·rw [DM e2] at h;rw [cb_eq a b h,UInt8.toNat_inj.1 (show x.toNat=y.toNat by omega)]
abbrev mE:={ r:ao // r.Wf }
instance:Inhabited mE:=⟨⟨ao.z,ao.z_wf⟩⟩
def fa (x:mE):List Value:=bL x.1
def cfW (x y:mE):Int:=fp x.1 y.1
theorem swoW:Go.Sort.SWO (Go.Proofs.ltOf cfW) where
 irrefl x:=by unfold Go.Proofs.ltOf cfW fp;rw [CK];rfl
 trans x y z h1 h2:=by unfold Go.Proofs.ltOf cfW fp at *;simp only [DR] at *;exact tN _ _ _ h1 h2
 ntrans x y z h1 h2:=by unfold Go.Proofs.ltOf cfW fp at *;simp only [FM] at *;exact qz _ _ _ h1 h2
theorem encW_len (x:mE):(fa x).length=39:=(aM x.2).1
theorem encW_one (x:mE) : ∀ v∈fa x,v.oneCell'=true:=fun v hv=>by have:=(cA x.2).all.2.1;unfold aJ at this;rw [DT] at this;exact this v hv
end Go.Proofs.YtdnahgfgoajmcaaGreatDoor
namespace Go.Proofs.YtdnahgfgoajmcaaGreatDoor
open Go Go.Abs Tryz
open Go.Lib (compareBytes)
open Go.Sort (flatK size_flatK get_flatK)
noncomputable def vg (L:List mE):List mE:=(Go.Sort.pdq (Go.Proofs.ltOf cfW) L.toArray 0 L.length (Go.Lib.bitLen L.length) true true).toList
theorem yn (L:List mE):(vg L).Perm L/\(vg L).length=L.length /\ ∀ i j,i<j->(hj:j<L.length) -> ¬fp ((vg L)[j]!).1 ((vg L)[i]!).1<0:=by
 have hs:L.toArray.size=L.length:=FI ..;obtain ⟨⟨p1,p2,p3⟩,q⟩:=Go.Sort.pdq_sorts (Go.Proofs.ltOf cfW) swoW L.toArray 0 L.length (Go.Lib.bitLen L.length) true true (FN _) (by omega) (.inl rfl);refine ⟨?_,?_,?_⟩
 ·have e1 : ∀ d:Array mE,d.size=L.length->d.extract 0 L.length=d:=fun d hd=>by rw [<-hd];exact Array.extract_size ..
  rw [e1 _ (by omega),e1 _ hs] at p3;exact p3
 ·unfold vg;rw [Array.length_toList,p1,hs]
 ·intro i j hij hj;have:=q i j (FN _) hij hj;have h2 : ¬cfW ((Go.Sort.pdq (Go.Proofs.ltOf cfW) L.toArray 0 L.length (Go.Lib.bitLen L.length) true true)[j]!) ((Go.Sort.pdq (Go.Proofs.ltOf cfW) L.toArray 0 L.length (Go.Lib.bitLen L.length) true true)[i]!)<0:=of_decide_eq_false this;have e : ∀ (d:Array mE) (t:Nat),d.toList[t]! = d[t]! := fun d t=>by simp [List.getElem!_eq_getElem?_getD,Array.getElem!_eq_getD,Array.getD_eq_getD_getElem?]
  unfold vg;rw [e,e];exact h2
theorem Bo : ∀ (L:List mE),L.flatMap fa=bj (L.map (·.1))
 | []=>rfl
 |x::L=>by have:=Bo L;unfold bj at *;rw [E4,FL,E4,this];rfl
theorem xD (L:List mE) : ∀ p∈L.map (·.1),ao.Wf p:=fun p hp=>by obtain ⟨x,_,rfl⟩:=E2.1 hp;exact x.2
theorem qk (L:List mE):(L.flatMap fa).length=L.length*39:=by rw [Bo,cf (xD L),DS]
theorem yI (L:List mE):(flatK fa 39 L.toArray).toList=L.flatMap fa:=by
 have hs:L.toArray.size=L.length:=FI ..;refine FE fun t => ?_;by_cases ht:t<L.length*39
 ·have hj:t/39<L.length:=by omega
  have e1:(flatK fa 39 L.toArray).toList[t]? = some ((fa L.toArray[t/39]!)[t%39]!):=by
   have h1:t<(flatK fa 39 L.toArray).size:=by rw [size_flatK,hs];exact ht
   rw [HU,FX h1,<-getElem!_pos (flatK fa 39 L.toArray) t h1,get_flatK _ _ _ _ (by rw [hs];exact ht)]
  rw [e1,Bo];have g:=jW (xD L) (j:=t/39) (by rw [DS];exact hj);have e2:(bj (L.map (·.1)))[t]? = (bL ((L.map (·.1)).getD (t/39) ao.z))[t%39]? := by
   rw [<-g,FA,DL (GV _ (by decide)),FB]
   congr 1
   omega
  rw [e2];have e3:L.toArray[t/39]! = L[t/39]:=by rw [IK L.toArray (t/39) (by omega)];simp
  have e4:(L.map (·.1)).getD (t/39) ao.z=(L[t/39]).1:=by rw [DK,EF,DC hj];rfl
  rw [e3,e4];have hl:t%39<(fa L[t/39]).length:=by rw [encW_len];exact GV _ (by decide)
  rw [IK (fa L[t/39]) (t%39) hl];exact (DC hl).symm
 ·rw [EK (by rw [Array.length_toList,size_flatK,hs];omega),EK (by rw [qk];omega)]
theorem nH (L:List mE):bJ (L.flatMap fa)=true/\aJ (L.flatMap fa)=true:=by
 constructor
 ·unfold bJ;rw [DT];intro v hv;obtain ⟨x,_,hx⟩:=GQ.1 hv;have:=(cA x.2).all.2.2;unfold bJ at this;rw [DT] at this;exact this v hx
 ·unfold aJ;rw [DT];intro v hv;obtain ⟨x,_,hx⟩:=GQ.1 hv;exact encW_one x v hx
def SortOk (args:List Value) (h:ad) (b:Nat) (L:List mE):Prop:=
 (∃ s,args = [.slice (some ⟨b,0,s⟩) L.length L.length,.func (.func 50) #[] #[]]/\(s=none\/(s=some 39/\L ≠ [])))/\h.n0<=b/\h.get b=some (L.flatMap fa)/\L.length<1099511627776
open Classical in
noncomputable def s64 (args:List Value) (h:ad):aS:=
 if x : ∃ b L,SortOk args h b L then some (.tuple #[],h.set x.choose ((vg x.choose_spec.choose).flatMap fa)) else none
theorem ue {args:List Value} {h:ad} {r:Value×ad} (e:s64 args h=some r) : ∃ b L,SortOk args h b L/\r=(.tuple #[],h.set b ((vg L).flatMap fa)):=by
 unfold s64 at e;split at e
 ·rename_i x;cases e;exact ⟨_,_,x.choose_spec.choose_spec,rfl⟩
 ·cases e
theorem pdqL_len (L:List mE):(vg L).length=L.length:=(yn L).2.1
theorem enc_rel (μ:Mu) (x:mE):aG μ (.agg (fa x).toArray) (.agg (fa x).toArray):=by refine .agg rfl fun i a b ha hb => ?_;rw [ha] at hb;cases hb;have hf:=(cA x.2).all.2.2;unfold bJ at hf;rw [DT] at hf;exact .flat (hf a (EY (by rw [G1] at ha;exact ha)))
theorem cmp_plain (W:World) (hg:prog.globals.size<=W.heap.size) (x y:mE) :
  Calls prog 50 (#[.agg (fa x).toArray,.agg (fa y).toArray] ++ #[]) W fun e w'=>e = .returned (.int .i64 (cfW x y)) /\ ∃ q os',w'=Go.Sort.grow (W.drewN q) os':=by
 obtain ⟨h',e,_⟩:=r65 (h:=cB W (view W)) (by rw [<-kJ];exact hg) x.2 y.2;have hb : ∀ x:mE,bW W.heap.size (.agg (fa x).toArray)=true:=fun x=>by rw [iL];exact dV (cA x.2).all.2.2
 exact cC.call_plain (cC.of_CC ky yR is65) is65.fA is65.name (by kernel_rfl) [.agg (fa x).toArray,.agg (fa y).toArray] W hg (dH.2 (by
  intro v hv;simp only [FJ,F5,IL] at hv;rcases hv with rfl|rfl
  ·exact hb x
  ·exact hb y)) (.cons (enc_rel _ x) (.cons (enc_rel _ y) (.nil _))) _ rfl ⟨h',e⟩
theorem c64:cC prog 49 s64:=by
 refine ⟨?_,?_,?_,?_⟩
 ·exact EV (by kernel_rfl)
 ·intro args h v h' e;obtain ⟨b,L,_,e2⟩:=ue e;cases e2;exact ⟨DF _,rfl,rfl⟩
 ·intro args h v h' e hb hh;obtain ⟨b,L,⟨_,h0,hg,_⟩,e2⟩:=ue e;cases e2;refine ⟨rfl,?_⟩;exact hh.qT (x:=some (.cells _)) h0 (h.aO hg) (fun k hk=>by cases hk;exact dV (nH _).1) (fun o ho=>by cases ho)
 ·intro args h v h' e hba hbh hg μ w args' S hf r;obtain ⟨b,L,⟨⟨s,ha,hs⟩,h0,hgb,hsz⟩,e2⟩:=ue e;cases e2;subst ha;obtain ⟨Lc,arr,T,fr,m1,m2,m3,m4,m5,m6,m7,m8⟩:=S.new b _ h0 hgb;have hl:(L.flatMap fa).length=L.length*39:=qk L;have hd:(flatK fa 39 L.toArray).size=L.length*39:=by rw [size_flatK];simp
  have hin:Lc.off+L.length*39<=arr.size:=by rw [m4,<-hl,<-m2];exact m5
  have harr:((arr.toList.drop Lc.off).take Lc.len)=L.flatMap fa:=m8.bK (nH L).1;have hcell : ∀ j,j<L.length*39->arr[Lc.off+j]? = some (flatK fa 39 L.toArray)[j]! := by
   intro j hj;have e1:(L.flatMap fa)[j]? = some (flatK fa 39 L.toArray)[j]! := by rw [<-yI,HU,FX (by rw [hd];exact hj),IK _ j (by rw [hd];exact hj)]
   rw [<-harr,FA,DL (by rw [m2,hl];exact hj),FB,HU] at e1;exact e1
  have hW:Go.Sort.HoldsK fa 39 w Lc.blk Lc.off L.toArray:=by
   intro j hj;rw [hd] at hj;refine ⟨?_,?_⟩
   ·unfold World.cell?;rw [m3];exact hcell j hj
   ·unfold World.frozen?;rw [m3];obtain ⟨lo,hi⟩:=fr;show (decide (lo<=Lc.off+j)&&decide (Lc.off+j<hi))=false;rcases m6 with m6|m6
    ·have m6:lo=hi:=m6;simp only [HT,FM];omega
    ·have m6:arr.size<=lo:=m6;simp only [HT,FM];omega
  have hblk:Lc.blk<w.heap.size:=(DX.1 m3).1;have hlays:Go.Proofs.CmpLays prog 50 #[] fa 39 cfW Lc.blk Lc.off L.toArray.size w:=by intro m os dk _ x y;exact cmp_plain _ (D5 (D5 hg S.size) (Go.Proofs.size_sortWorldK_c ..)) x y
  have key : ∀ cap,Calls prog 49 #[.slice (some ⟨Lc.blk,Lc.off,none⟩) L.length cap,.func (.func 50) #[] #[]] w (mP μ h w (.tuple #[]) (h.set b ((vg L).flatMap fa))):=by
   intro cap;have q:=Go.Proofs.AnyQ.slices_SortFunc_eq sortL 39 (fun w=>by kernel_rfl) (fun w=>by kernel_rfl) fa encW_len encW_one cfW swoW 50 #[] Lc.blk Lc.off cap L.toArray w (Go.Proofs.enters_of is65.fA is65.name (Option.some_get is65.some_).symm) hlays hW hblk (by rw [FI];omega);rw [FI] at q;refine q.mono ?_;rintro e w' ⟨rfl,n,os,rfl⟩;have hp:(flatK fa 39 (Go.Sort.pdq (Go.Proofs.ltOf cfW) L.toArray 0 L.length (Go.Lib.bitLen L.length) true true)).toList=(vg L).flatMap fa:=by rw [<-yI];rfl
   have hs2:(flatK fa 39 (Go.Sort.pdq (Go.Proofs.ltOf cfW) L.toArray 0 L.length (Go.Lib.bitLen L.length) true true)).size=(L.flatMap fa).length:=by rw [<-Array.length_toList,hp,qk,qk,pdqL_len]
   obtain ⟨s1,s2⟩:=sim_sorted prog S h0 hgb hs2 (by rw [hp];exact DT.1 (nH _).1) (by rw [hp];exact (nH _).2) (n:=n) (os:=os) m1;rw [hp] at s1 s2;exact ⟨μ,_,rfl,s1,s2,.tuple rfl (by intro i x y hx;simp at hx)⟩
  have hfin : ∀ cap,Cy prog 49 #[.slice (some ⟨Lc.blk,Lc.off,none⟩) L.length cap,.func (.func 50) #[] #[]] w (mP μ h w (.tuple #[]) (h.set b ((vg L).flatMap fa))):=fun cap=>
   .inl ⟨f49,by kernel_rfl,by kernel_rfl,by kernel_rfl,key cap⟩
  obtain ⟨rl,rg⟩:=r
  match args',rl,rg with
  | [a',f'],_,rg=>
    have ra:=rg 0 _ _ rfl rfl;have rf:=rg 1 _ _ rfl rfl;have ef:f' = .func (.func 50) #[] #[]:=rf.bK rfl;subst ef;have ea : ∃ cap,a' = .slice (some ⟨Lc.blk,Lc.off,none⟩) L.length cap:=by
     generalize ev:Value.slice (some ⟨b,0,s⟩) L.length L.length=v at ra;cases ra with
     |flat hh=>subst ev;cases hh
     |slice hh=>cases ev;rw [m1] at hh;cases hh;exact ⟨_,rfl⟩
     |vq hh=>cases ev;rw [m1] at hh;cases hh;exact ⟨_,rfl⟩
     |iX hh=>
      injection ev with e1 e2 e3
      rcases hs with rfl|⟨_,hne⟩
      ·cases e1
      ·exact absurd (DU.1 e2) hne
     |yt=>
      injection ev with e1 e2 e3
      rcases hs with rfl|⟨_,hne⟩
      ·cases e1
      ·exact absurd (DU.1 e2) hne
     |_=>cases ev
    obtain ⟨cap,rfl⟩:=ea;exact hfin cap
end Go.Proofs.YtdnahgfgoajmcaaGreatDoor
namespace Go.Proofs.YtdnahgfgoajmcaaGreatDoor
open Go Go.Abs Tryz
open Go.Lib (compareBytes)
theorem map98:mapT prog 91=some (94,66):=by kernel_rfl
theorem zero58:jM prog 66=some (.agg (bL ao.z).toArray):=by kernel_rfl
abbrev tL (r:ao):Value := .agg (xm r).toArray
abbrev cY (r:ao):Value := .agg (bL r).toArray
theorem eqA_pl {a b:ao} (wa:a.Wf) (wb:b.Wf):eqA prog 94 (tL a) (tL b)=some (kU a b):=by
 obtain ⟨r,hr,hrun⟩:=tD (d:=9997) (cH wa.obj) (cH wb.obj);have l1:(aY a.obj).length=32:=by rw [DS];exact wa.obj.1
 have l2:(aY b.obj).length=32:=by rw [DS];exact wb.obj.1
 have hr':r=decide (a.obj=b.obj):=by
  by_cases e:a.obj=b.obj
  ·rw [DA e,hr.2 (by rw [e])]
  ·rw [DB e];cases r with
   |false=>rfl
   |true=>exact absurd (tv (hr.1 rfl)) e
 have hp:bT prog (Op.equalIn 10000 94 (.agg (xm a).toArray) (.agg (xm b).toArray))=some (kU a b):=by unfold xm;rw [tI (P:=prog) (d:=9999) Tryz.underlying94 (by kernel_rfl)];simp only [eqF];rw [DL (by decide),DL (by decide),DL (by decide)];rw [bZ (v := .int .u8 (a.kind:Int)) Tryz.underlying64 rfl,bZ (v := .int .u8 (b.kind:Int)) Tryz.underlying64 rfl,lG Tryz.underlying36 fY,lG Tryz.underlying36 fY,ur l1,ur l2];rw [bZ (v := .int .i64 a.aN) Tryz.underlying3 (at_at l1),bZ (v := .int .i64 b.aN) Tryz.underlying3 (at_at l2)];simp only [Option.bind_some,jV (d:=9998) Tryz.underlying64,jV (d:=9998) Tryz.underlying3,hrun,hr'];unfold kU;by_cases e1:a.kind=b.kind<;>by_cases e2:a.obj=b.obj<;>by_cases e3:a.aN=b.aN<;>simp [e1,e2,e3];all_goals omega
 unfold eqA;rw [DL (by rw [dy (kh wa).all.2.2,dy (kh wb).all.2.2];rfl)];exact hp
theorem gJ {a b:ao}:kU a b=true↔a.kind=b.kind/\a.obj=b.obj/\a.aN=b.aN:=by unfold kU;simp []
theorem atC_of {a b:ao} (h:kU a b=true):xm a=xm b:=by obtain ⟨h1,h2,h3⟩:=gJ.1 h;unfold xm;rw [h1,h2,h3]
theorem agg56:rH prog 64=some false:=by kernel_rfl
theorem agg3:rH prog 3=some false:=by kernel_rfl
theorem agg5:rH prog 5=some false:=by kernel_rfl
theorem siz35:cK prog 36=some 32:=by kernel_rfl
theorem siz56:cK prog 64=some 1:=by kernel_rfl
theorem siz3:cK prog 3=some 1:=by kernel_rfl
theorem siz5:cK prog 5=some 1:=by kernel_rfl
theorem key_ok {r:ao} (w:r.Wf):(keyOk prog 10000 94 (tL r)&&ground (tL r))=true:=by
 rw [show ground (tL r)=true from dy (kh w).all.2.2,DV];have l1:(aY r.obj).length=32:=by rw [DS];exact w.obj.1
 have hk : ∀ (n:Nat) (v:Value),keyOk prog (n+1) 64 v=true:=fun n v=>by unfold keyOk;simp only [Tryz.underlying64]
 have h3 : ∀ (n:Nat) (v:Value),keyOk prog (n+1) 3 v=true:=fun n v=>by unfold keyOk;simp only [Tryz.underlying3]
 have h5 : ∀ (n:Nat) (v:Value),keyOk prog (n+1) 5 v=true:=fun n v=>by unfold keyOk;simp only [Tryz.underlying5]
 have h35:keyOk prog 9999 36 (.agg (aY r.obj).toArray)=true:=by
  unfold keyOk;simp only [Tryz.underlying36,siz5];rw [DT];intro i hi;have hi:i<32:=by simpa using hi
  unfold jq;simp only [agg5,siz5,FT];rw [G1,DC (by omega)];exact h5 _ _
 have p1:jq prog 64 (xm r).toArray 0=some (.int .u8 (r.kind:Int)):=by unfold jq;simp only [agg56,siz56];rfl
 have p2:jq prog 36 (xm r).toArray 1=some (.agg (aY r.obj).toArray):=by unfold jq;simp only [lU,siz35];unfold xm;rw [ur l1]
 have p3:jq prog 3 (xm r).toArray 33=some (.int .i64 r.aN):=by unfold jq;simp only [agg3,siz3];unfold xm;exact at_at l1
 unfold keyOk;simp only [Tryz.underlying94,List.all_cons,List.all_nil,p1,p2,p3,hk,h35,h3,FD]
theorem bits_self {l:List Value} (h : ∀ v∈l,∃ k:Kd,k.has v):Instr.sameBits 10000 (.agg l.toArray) (.agg l.toArray)=true:=by
 show (l.toArray.size==l.toArray.size&&(l.zip l).all fun (x,y)=>Instr.sameBits 9999 x y)=true;rw [D4,EE,DT];rintro ⟨x,y⟩ hm;have hxy:x=y/\x∈l:=by obtain ⟨i,hi⟩:=H7.1 hm;rw [HX] at hi;have h1:=hi.1;have h2:=hi.2;simp only at h1 h2;rw [h1] at h2;cases h2;exact ⟨rfl,EY h1⟩
 obtain ⟨rfl,hx⟩:=hxy;obtain ⟨k,hk⟩:=h x hx;show Instr.sameBits 9999 x x=true;cases k with
 |u8=>obtain ⟨n,rfl,_⟩:=hk;simp [Instr.sameBits]
 |i k=>obtain ⟨n,rfl,_⟩:=hk;simp [Instr.sameBits]
 |b=>obtain ⟨t,rfl⟩:=hk;simp [Instr.sameBits]
def esOf:List ao->Nat->List (Value×Value×Nat)
 | [],_ => []
 |r::M,i=>(tL r,cY r,i)::esOf M (i+1)
theorem esOf_len : ∀ (M:List ao) (i:Nat),(esOf M i).length=M.length
 | [],_=>rfl
 |r::M,i=>by simp [esOf,esOf_len M]
theorem sR : ∀ (M:List ao) (i j:Nat) (hj:j<M.length),(esOf M i)[j]? = some (tL M[j],cY M[j],i+j)
 |r::M,i,0,_=>rfl
 |r::M,i,j+1,hj=>by
  show (esOf M (i+1))[j]? = _;rw [sR M (i+1) j (by simpa using hj)];simp only [List.getElem_cons_succ]
  congr 3
  omega
theorem esOf_app : ∀ (M N:List ao) (i:Nat),esOf (M++N) i=esOf M i++esOf N (i+M.length)
 | [],N,i=>by simp [esOf]
 |r::M,N,i=>by
  simp only [List.cons_append,esOf,esOf_app M N (i+1),List.length_cons]
  congr 3
  omega
def idx (r:ao):List ao->Option Nat
 | []=>none
 |x::M=>if kU r x=true then some 0 else (idx r M).map (· + 1)
def mG (r:ao) (M:List ao):Option ao:=M.find? (kU r)
theorem mY {r:ao} : ∀ {M:List ao} {i:Nat},idx r M=some i -> ∃ hi:i<M.length,kU r M[i]=true/\mG r M=some M[i]
 | [],i,h=>by cases h
 |x::M,i,h=>by
  unfold idx at h;by_cases e:kU r x=true
  ·rw [DL e] at h;cases h;exact ⟨by simp,e,by unfold mG;rw [List.find?_cons_of_pos e];rfl⟩
  ·rw [DM e] at h;cases hq:idx r M with
   |none=>rw [hq] at h;cases h
   |some j=>
    rw [hq] at h;cases h;obtain ⟨hj,h1,h2⟩:=mY hq;refine ⟨by simpa using hj,by simpa using h1,?_⟩;unfold mG at h2 |-;rw [IN e,h2];simp
theorem yz {r:ao} : ∀ {M:List ao},idx r M=none->mG r M=none
 | [],_=>rfl
 |x::M,h=>by
  unfold idx at h;by_cases e:kU r x=true
  ·rw [DL e] at h;cases h
  ·rw [DM e] at h;have h2:idx r M=none:=by
    cases hq:idx r M with
    |none=>rfl
    |some j=>rw [hq] at h;cases h
   unfold mG;rw [IN e];exact yz h2
theorem xk {r:ao} (w:r.Wf) : ∀ (M:List ao) (i j:Nat),(∀ x∈M,x.Wf)->findA prog 94 (tL r) (esOf M i) j=some ((idx r M).map fun k=>(j+k,cY (M.getD k ao.z)))
 | [],_,_,_=>rfl
 |x::M,i,j,h=>by
  unfold esOf findA idx;rw [eqA_pl w (h x ER)];cases e:kU r x with
  |true=>rfl
  |false=>
   simp only [DD,D3];rw [xk w M (i+1) (j+1) fun y hy=>h y (EM _ hy)];cases idx r M with
   |none=>rfl
   |some k=>
    simp only [Option.map_some,List.getD_cons_succ]
    congr 3
    omega
def jd (h:ad) (b:Nat) (M:List ao):Prop:=h.getB b=some (.obj (.map (esOf M 0) M.length)) /\ ∀ x∈M,x.Wf
theorem recG {r:ao} (w:r.Wf):ground (cY r)=true:=dy (cA w).all.2.2
theorem lk_true {h:ad} {b:Nat} {M:List ao} (m:jd h b M) {r:ao} (w:r.Wf) :
  lookupA prog 91 (.map (some b)) (tL r) true h=some (.tuple #[cY ((mG r M).getD ao.z),.bool (mG r M).isSome],h):=by
 unfold lookupA entriesA;simp only [map98,m.1,key_ok w,DY,xk w M 0 0 m.2,zero58];cases hq:idx r M with
 |none=>
  rw [yz hq];simp only [Option.map_none,recG ao.z_wf,DY];rfl
 |some i=>
  obtain ⟨hi,_,e⟩:=mY hq;rw [e];simp only [Option.map_some,DK,DC hi,Option.getD_some];rfl
theorem lk_false {h:ad} {b:Nat} {M:List ao} (m:jd h b M) {r:ao} (w:r.Wf) :
  lookupA prog 91 (.map (some b)) (tL r) false h=some (cY ((mG r M).getD ao.z),h):=by
 unfold lookupA entriesA;simp only [map98,m.1,key_ok w,DY,xk w M 0 0 m.2,zero58];cases hq:idx r M with
 |none=>
  rw [yz hq];simp only [Option.map_none,recG ao.z_wf,DY];rfl
 |some i=>
  obtain ⟨hi,_,e⟩:=mY hq;rw [e];simp only [Option.map_some,DK,DC hi,Option.getD_some];rfl
def putM (M:List ao) (r:ao):List ao:=match idx r M with|some i=>M.set i r|none=>M ++ [r]
theorem putM_wf {M:List ao} {r:ao} (h : ∀ x∈M,x.Wf) (w:r.Wf) : ∀ x∈putM M r,ao.Wf x:=by
 intro x hx;unfold putM at hx;split at hx
 ·rcases GL hx with h1|rfl
  ·exact h x h1
  ·exact w
 ·rcases D9.1 hx with h1|h1
  ·exact h x h1
  ·rw [EH.1 h1];exact w
theorem esOf_set : ∀ (M:List ao) (i j:Nat) (r:ao),j<M.length->esOf (M.set j r) i=(esOf M i).set j (tL r,cY r,i+j)
 |x::M,i,0,r,_=>rfl
 |x::M,i,j+1,r,hj=>by
  simp only [List.set_cons_succ,esOf];rw [esOf_set M (i+1) j r (by simpa using hj)]
  congr 4
  omega
theorem mu_spec {h:ad} {b:Nat} {M:List ao} (m:jd h b M) {r:ao} (w:r.Wf) :
  mapUpdateA prog 91 (.map (some b)) (tL r) (cY r) h=some (undef,h.setO b (.map (esOf (putM M r) 0) (putM M r).length)):=by
 unfold mapUpdateA;simp only [map98,m.1,key_ok w,DY,xk w M 0 0 m.2];unfold putM;cases hq:idx r M with
 |none=>
  simp only [Option.map_none];rw [esOf_app,DH];simp only [esOf,DG,List.length_cons,List.length_nil]
 |some i=>
  obtain ⟨hi,ha,_⟩:=mY hq;have hk:=atC_of ha;simp only [Option.map_some,DG,sR M 0 i hi];have hb:Instr.sameBits 10000 (tL M[i]) (tL r)=true:=by show Instr.sameBits 10000 (.agg (xm M[i]).toArray) (.agg (xm r).toArray)=true;rw [<-hk];exact bits_self (kh w).kinds
  rw [DL hb,esOf_set M 0 i r hi,HA];simp only [DG]
end Go.Proofs.YtdnahgfgoajmcaaGreatDoor
namespace Go.Proofs.YtdnahgfgoajmcaaGreatDoor
open Go Go.Abs Tryz
open Go.Lib (compareBytes)
attribute [local congr] aq
abbrev zrC:List Value:=kr
noncomputable abbrev YM:aj:=callL [(49,s64)]
theorem YM_sound:bp prog YM:=lC _ (by intro p hp;simp only [FJ,F5,IL] at hp;subst hp;exact c64)
noncomputable def CM:aj:=CC2 prog XX YM [28,47,48]
theorem CM_up {f:FuncId} {args:List Value} {h:ad} {r:Value×ad} (hS:([28,47,48]:List Nat).contains f=true) (e:CW f args h=some r):CM f args h=some r:=CC2_up hS (by
 have hf:f=28\/f=47\/f=48:=by simpa using hS
 rcases hf with rfl|rfl|rfl<;>rfl) e
theorem CM_sound:bp prog CM:=CC2_sound ky yR YM_sound
theorem CM_sort {args:List Value} {h:ad} {r:Value×ad} (e:s64 args h=some r):CM 49 args h=some r:=uT e
theorem az.setO {h:ad} {b:Nat} {k:BB} {o:fu} (hb:h.n0<=b) (hg:h.getB b=some k):az h (h.setO b o) (· = b):=
 ⟨rfl,DF _,fun _ _ hn=>ad.ep hb (h.lt_of_getB hg) _ hn⟩
theorem jd.mono {h h':ad} {b:Nat} {M:List ao} (m:jd h b M) (o:aA h h'):jd h' b M:=⟨az.obj o m.1 (fun h=>h),m.2⟩
def tk (M:List ao) (r:ao):Bool := !(mG r M).isSome||decide (oe r ((mG r M).getD ao.z)>0)
def dY (M:List ao) (r:ao):List ao:=if tk M r=true then putM M r else M
theorem qd {r x:ao} {M:List ao} (h:mG r M=some x):x∈M/\kU r x=true:=by unfold mG at h;exact ⟨List.mem_of_find?_eq_some h,List.find?_some h⟩
theorem Da {r:ao} {M:List ao} (h : ∀ x∈M,ao.Wf x):((mG r M).getD ao.z).Wf:=by
 cases e:mG r M with
 |none=>exact ao.z_wf
 |some x=>exact h x (qd e).1
theorem qj (h:ad) {r:ao} (w:r.Wf) : ∃ h1 h2,dB zrC h=some (ptr h.next 0,h1)/\eo 39 (ptr h.next 0) (cY r) h1=some (undef,h2)/\aA h h2/\h2.get h.next=some (bL r):=by obtain ⟨h1,z1,o1,g1,_⟩:=fresh zrC h;have c:=aM w;obtain ⟨h2,e2,k2,g2,_,_⟩:=aX (n:=39) (k':=bL r) g1 (by rw [o1.n0];exact h.n0_le_next) rfl c.1 (cA w).all.2.1;exact ⟨h1,h2,z1,e2,aA.bx o1 k2 (DF _),g2⟩
theorem setO_map {h:ad} {b:Nat} {M M':List ao} (hb:h.n0<=b) (m:jd h b M) (w : ∀ x∈M',ao.Wf x):jd (h.setO b (.map (esOf M' 0) M'.length)) b M':=by refine ⟨?_,w⟩;unfold ad.setO;rw [h.cP hb (h.lt_of_getB m.1),DL rfl]
set_option maxRecDepth 100000 in
theorem mrg_loop {h0 g0:ad} {v:Value} {L M:List ao} {mb:Nat} (hG:4<=h0.n0) (O:aA h0 g0) (hm:h0.next<=mb) (m:jd g0 mb M) (hv:jK h0 v L) (hl:L.length<=1000000) {x:Nat->Value} (x34:x 34=v) (x35:x 35=ak L.length) (x36:x 36=ak 0) (x5:x 5 = .map (some mb)) :
  Fin 103 (fun ex y g=>ex = .exit 2/\az g0 g (· = mb)/\jd g mb (L.foldl dY M)/\y 0=x 0/\y 5=x 5/\y 28=x 28/\y 29=x 29/\y 30=x 30) (iter (codeA prog CM (au f21 [1,1,1,1,0,1,0,0,1,1,0,0,1,1,0,0])) aB (aL 103 x) g0):=by
 refine bk (kY CM) (Inv:=fun k y g => ∃ i Mi,i+k=L.length/\y 34=v/\y 35=ak L.length/\y 36=ak i/\y 5 = .map (some mb)/\az g0 g (· = mb)/\jd g mb Mi/\(L.drop i).foldl dY Mi=L.foldl dY M/\y 0=x 0/\y 28=x 28/\y 29=x 29/\y 30=x 30) ?_ L.length (by have:aB=18446744073709551616:=rfl;omega) ⟨0,M,by omega,x34,x35,x36,x5,az.refl _ _,m,rfl,rfl,rfl,rfl,rfl⟩;rintro k y g ⟨i,Mi,hik,y34,y35,y36,y5,Kg,mg,hf,y0,y28,y29,y30⟩;have n0:g0.n0<=mb:=by rw [O.n0];exact D5 h0.n0_le_next hm
 have Og:aA h0 g:=O.also Kg (fun d hd q=>by omega);unfold fk;simp -implicitDefEqProofs only [y35,y36,eK,ae,af];by_cases hi:i<L.length
 ·obtain ⟨b,o,ix,wr,mr,lp⟩:=hv.at hi;have hd:L.drop i=L.getD i ao.z::L.drop (i+1):=by rw [EX hi,DK,DC hi];rfl
  rw [hd,List.foldl_cons] at hf;generalize L.getD i ao.z=r at *;have L1:=lp g Og;obtain ⟨h1,h2,e1,e2,o2,g2⟩:=qj g wr;have hn2:4<=h2.n0:=by rw [o2.n0,Og.n0];exact hG
  have la : ∀ q,aA h2 q->cx 39 (ptr g.next 0) q=some (cY r,q):=fun q oq=>bc (aA.get oq g2) (aM wr).1 (aM wr).2.1;obtain ⟨h3,e3,o3⟩:=r62 hn2 wr;have e3:=CM_up rfl e3;have m3:jd h3 mb Mi:=mg.mono (o2.trans o3);have wx:=Da (r:=r) mg.2;have e4:=lk_true m3 wr;obtain ⟨h5,h6,e5,e6,o6,g6⟩:=qj h3 wx;have hn6:4<=h6.n0:=by rw [o6.n0,o3.n0];exact hn2
  have O26:aA h2 h6:=o3.trans o6;have lb : ∀ q,aA h6 q->cx 39 (ptr h3.next 0) q=some (cY ((mG r Mi).getD ao.z),q):=fun q oq=>bc (aA.get oq g6) (aM wx).1 (aM wx).2.1;have x0:extractA (.tuple #[cY ((mG r Mi).getD ao.z),.bool (mG r Mi).isSome]) 0=some (cY ((mG r Mi).getD ao.z)):=rfl;have x1:extractA (.tuple #[cY ((mG r Mi).getD ao.z),.bool (mG r Mi).isSome]) 1=some (.bool (mG r Mi).isSome):=rfl;obtain ⟨h7,e7,o7⟩:=r63 hn6 wr wx;have e7:=CM_up rfl e7;have a36:aC prog .add 3 (ak i) (.int .i64 1)=some (ak (i+1)):=dh (by omega);have put : ∀ q,aA h6 q -> ∃ q2 q3,CM 47 [cY r] q=some (tL r,q2)/\aA q q2/\cx 39 (ptr g.next 0) q2=some (cY r,q2)/\mapUpdateA prog 91 (.map (some mb)) (tL r) (cY r) q2=some (undef,q3)/\az g0 q3 (· = mb)/\jd q3 mb (putM Mi r):=by
   intro q oq;have hnq:4<=q.n0:=by rw [oq.n0];exact hn6
   obtain ⟨q2,f1,f2⟩:=r62 hnq wr;have mq:jd q2 mb Mi:=m3.mono ((o6.trans oq).trans f2);have nq:q2.n0<=mb:=by rw [f2.n0,oq.n0,o6.n0,o3.n0,o2.n0,Kg.n0];exact n0
   refine ⟨q2,_,CM_up rfl f1,f2,la q2 ((O26.trans oq).trans f2),mu_spec mq wr,?_,setO_map nq mq (putM_wf mg.2 wr)⟩;have k1:az g0 q2 (· = mb):=Kg.also (((o2.trans O26).trans oq).trans f2) (fun _ _ q=>q.elim);exact k1.trans (az.setO nq mq.1)
  simp -implicitDefEqProofs only [DA hi,y34,y5,ix,L1,e1,e2,la h2 (az.refl _ _),e3,e4,x0,x1,e5,e6,aT,ae,af];cases hs:(mG r Mi).isSome with
  |false=>
   have hneed:tk Mi r=true:=by unfold tk;rw [hs];rfl
   have hms:dY Mi r=putM Mi r:=by unfold dY;rw [DL hneed]
   obtain ⟨q2,q3,p1,p2,p3,p4,p5,p6⟩:=put h6 (az.refl _ _);rw [hms] at hf;have ck : ∀ q,bF true (some (cY r,q)) (cY r)=true:=fun q=>qC _ _ (cA wr).kinds;simp -implicitDefEqProofs only [DN, show (aR (.bool true)==some false)=false from rfl, ax, DY, la h6 O26, p1, p3, p4, ck, FD, a36, ae, af];refine cR.next (k-1) (by omega) ⟨i+1,putM Mi r,by omega,y34,y35,rfl,y5,p5,p6,hf,y0,y28,y29,y30⟩
  |true=>
   have hneed:tk Mi r=decide (oe r ((mG r Mi).getD ao.z)>0):=by unfold tk;rw [hs];rfl
   simp -implicitDefEqProofs only [DP,show (aR (.bool false)==some false)=true from rfl,aw,la h6 O26,lb h6 (az.refl _ _),e7,bD,<-hneed,DD,D3,ae,af];cases hd2:tk Mi r with
   |true=>
    have hms:dY Mi r=putM Mi r:=by unfold dY;rw [DL hd2]
    obtain ⟨q2,q3,p1,p2,p3,p4,p5,p6⟩:=put h7 o7;rw [hms] at hf;have ck : ∀ q,bF true (some (cY r,q)) (cY r)=true:=fun q=>qC _ _ (cA wr).kinds;simp -implicitDefEqProofs only [la h7 (O26.trans o7), p1, p3, p4, ck, FD, a36, ae, af];exact cR.next (k-1) (by omega) ⟨i+1,putM Mi r,by omega,y34,y35,rfl,y5,p5,p6,hf,y0,y28,y29,y30⟩
   |false=>
    have hms:dY Mi r=Mi:=by unfold dY;rw [DM (by rw [hd2];exact HW)]
    rw [hms] at hf;simp -implicitDefEqProofs only [a36, ae, af];refine cR.next (k-1) (by omega) ⟨i+1,Mi,by omega,y34,y35,rfl,y5,?_,m3.mono (o6.trans o7),hf,y0,y28,y29,y30⟩;exact Kg.also ((o2.trans O26).trans o7) (fun _ _ q=>q.elim)
 ·have hiE:i=L.length:=by omega
  rw [hiE,I7,List.foldl_nil] at hf;subst hf;simp -implicitDefEqProofs only [DB hi];exact cR.out 2 ⟨rfl,Kg,mg,y0,y5.trans x5.symm,y28,y29,y30⟩
theorem two_at {g:ad} {sb:Nat} {a b:Value} (e:g.get sb=some [a,b]) (ha:dX a=false) (hb:dX b=false):ld1 (ptr sb 0) g=some (a,g)/\ld1 (ptr sb 1) g=some (b,g):=by exact ⟨aU e rfl ha,aU e rfl hb⟩
theorem b25_5e (C:aj) (i:Nat) (e:aW) (h:ad):b25_5 C i e h=if i=0 then some (Ex.normal,e,h) else some (Ex.exit i,e,h):=rfl
theorem b25_23e (C:aj) (e:aW) (h:ad):b25_23 C 2 e h=De C e h:=rfl
set_option maxRecDepth 100000 in
theorem mrg_lists {h0 g0:ad} {va vr:Value} {La Lr:List ao} {vb mb:Nat} (hG:4<=h0.n0) (O:aA h0 g0) (hm:h0.next<=mb) (m:jd g0 mb []) (ha:jK h0 va La) (hr:jK h0 vr Lr) (la:La.length<=1000000) (lr:Lr.length<=1000000)
  (gv:g0.get vb=some [va]) {x:Nat->Value} (x0:x 0=ptr vb 0) (x1:x 1=vr) (x5:x 5 = .map (some mb)) :
  ∃ y g,iI CM x g0=some (.normal,aL 103 y,g)/\aA h0 g/\g0.next<=g.next/\jd g mb ((La++Lr).foldl dY [])/\y 0=ptr vb 0/\y 5 = .map (some mb):=by
 obtain ⟨a,c,rfl⟩:=ha.1;obtain ⟨a',c',rfl⟩:=hr.1;have l1:ld1 (ptr vb 0) g0=some (.slice a La.length c,g0):=by unfold ld1 ptr;simp only [gv];rfl
 have o1:aA g0 (g0.alloc [.slice a La.length c,.slice a' Lr.length c']):=az.alloc _ _ _;have e2:cg 1 (.slice none 0 0) 2 [(0,.slice a La.length c),(1,.slice a' Lr.length c')] g0=some (.slice (some ⟨g0.next,0,none⟩) 2 2,g0.alloc [.slice a La.length c,.slice a' Lr.length c']):=rfl;have gs:(g0.alloc [.slice a La.length c,.slice a' Lr.length c']).get g0.next=some [.slice a La.length c,.slice a' Lr.length c']:=by rw [ad.aF,DL rfl]
 have hne:mb≠g0.next:=fun e=>by have:=g0.lt_of_getB m.1;omega
 have m2:=m.mono o1;generalize g0.alloc [.slice a La.length c,.slice a' Lr.length c']=g1 at *;have O1:=O.trans o1;have n0:g1.n0<=mb:=by rw [O1.n0];exact D5 h0.n0_le_next hm
 have key : ∃ o,iI CM x g0=o /\ ∃ y g,o=some (.normal,aL 103 y,g)/\aA h0 g/\g0.next<=g.next/\jd g mb ((La++Lr).foldl dY [])/\y 0=ptr vb 0/\y 5 = .map (some mb):=by
  refine ⟨_,rfl,?_⟩;unfold iI;have nc:nilCheckA (ptr vb 0)=some (ptr vb 0):=rfl;have ll:lenL (.slice (some ⟨g0.next,0,none⟩) 2 2)=some (ak 2):=rfl;simp -implicitDefEqProofs only [x0,x1,l1,e2,nc,ll,ay,DG,ae,af];refine bq (n:=103) (fin:=fun ex y g=>ex = .exit 0/\az g1 g (· = mb)/\jd g mb ((La++Lr).foldl dY [])/\y 0=ptr vb 0/\y 5 = .map (some mb)) (Q:=fun o => ∃ y g,o=some (Ex.normal,aL 103 y,g)/\aA h0 g/\g0.next<=g.next/\jd g mb ((La++Lr).foldl dY [])/\y 0=ptr vb 0/\y 5 = .map (some mb))
   (bk (um CM) (Inv:=fun k y g => ∃ i M,i+k=2/\y 28 = .slice (some ⟨g0.next,0,none⟩) 2 2/\y 29=ak 2/\y 30=ak i/\y 5 = .map (some mb)/\y 0=ptr vb 0/\az g1 g (· = mb)/\jd g mb M/\(if i=0 then M = [] else if i=1 then M=La.foldl dY [] else M=(La++Lr).foldl dY [])) ?_ 2 (by have:aB=18446744073709551616:=rfl;omega) ⟨0,[],rfl,rfl,rfl,rfl,x5,x0,az.refl _ _,m2,by simp⟩) ?_
  ·rintro k y g ⟨i,M,hik,y28,y29,y30,y5,y0,Kg,mg,hM⟩;have Og:aA h0 g:=O1.also Kg (fun d hd q=>by omega);have gsg:g.get g0.next=some [.slice a La.length c,.slice a' Lr.length c']:=Kg.getE gs (fun e=>hne e.symm);obtain ⟨t1,t2⟩:=two_at gsg rfl rfl;unfold kI;simp -implicitDefEqProofs only [y29,y30,eK,ae,af];rcases (show i=0\/i=1\/i=2 by omega) with rfl|rfl|rfl
   ·rw [DL rfl] at hM;subst hM;have ix:idxS 1 (.slice (some ⟨g0.next,0,none⟩) 2 2) (ak 0)=some (ptr g0.next 0):=rfl;simp -implicitDefEqProofs only [DA (show 0<2 by decide),y28,ix,t1,ha.len,ae,af];refine bq (mrg_loop hG Og hm mg ha la rfl rfl rfl y5) ?_;rintro ex z g3 ⟨rfl,K3,m3,z0,z5,z28,z29,z30⟩;simp -implicitDefEqProofs only [aV,b25_23e,uc];unfold qo;have z30':z 30=ak 0:=z30.trans y30;have a30:aC prog .add 3 (ak 0) (.int .i64 1)=some (ak 1):=dh (by omega);simp -implicitDefEqProofs only [z30',a30,ae,af];exact cR.next 1 (by omega) ⟨1,_,rfl,z28.trans y28,z29.trans y29,rfl,z5.trans y5,z0.trans y0,Kg.trans K3,m3,by simp⟩
   ·rw [DM (by decide),DL rfl] at hM;subst hM;have ix:idxS 1 (.slice (some ⟨g0.next,0,none⟩) 2 2) (ak 1)=some (ptr g0.next 1):=rfl;simp -implicitDefEqProofs only [DA (show 1<2 by decide),y28,ix,t2,hr.len,ae,af];refine bq (mrg_loop hG Og hm mg hr lr rfl rfl rfl y5) ?_;rintro ex z g3 ⟨rfl,K3,m3,z0,z5,z28,z29,z30⟩;simp -implicitDefEqProofs only [aV,b25_23e,uc];unfold qo;have z30':z 30=ak 1:=z30.trans y30;have a30:aC prog .add 3 (ak 1) (.int .i64 1)=some (ak 2):=dh (by omega);simp -implicitDefEqProofs only [z30',a30,ae,af];exact cR.next 0 (by omega) ⟨2,_,rfl,z28.trans y28,z29.trans y29,rfl,z5.trans y5,z0.trans y0,Kg.trans K3,m3,by simp [List.foldl_append]⟩
   ·rw [DM (by decide),DM (by decide)] at hM;subst hM;simp -implicitDefEqProofs only [DB (show ¬2<2 by decide)];exact cR.out 0 ⟨rfl,Kg,mg,y0,y5⟩
  ·rintro ex z g ⟨rfl,Kg,mg,z0,z5⟩;simp -implicitDefEqProofs only [aV,b25_5e,DY];exact ⟨z,g,rfl,O1.also Kg (fun d hd q=>by omega),D5 o1.next Kg.next,mg,z0,z5⟩
 obtain ⟨o,e,y,g,e',q⟩:=key;exact ⟨y,g,e.trans e',q⟩
def pL (n:Int):ao:={ ao.z with kind:=1,aN:=n }
def iB (o:List Nat):ao:={ ao.z with kind:=2,obj:=o }
theorem baseP_wf {n:Int} (h:I64 n):(pL n).Wf:={ ao.z_wf with kind:=by show 1<256;decide,aN:=h }
theorem graveP_wf {o:List Nat} (h:ic o):(iB o).Wf:={ ao.z_wf with kind:=by show 2<256;decide,obj:=h }
theorem bldP_base (n:Int):ei zat [(0,1,.int .u8 1),(33,1,.int .i64 n)]=some (tL (pL n)):=rfl
theorem bldP_grave {o:List Nat} (h:ic o):ei zat [(0,1,.int .u8 2),(1,32,.agg (aY o).toArray)]=some (tL (iB o)):=by have e:fillL zat [(0,1,.int .u8 2),(1,32,.agg (aY o).toArray)]=fillL ([.int .u8 2]++(aY z32 ++ [.int .i64 0])) [(1,32,.agg (aY o).toArray)]:=rfl;unfold ei;rw [e,jr (A := [.int .u8 2]) (B:=aY z32) (o:=1) (n:=32) rfl rfl rfl (by rw [DS];exact h.1)];rfl
def gf (M:List ao) (r:ao):Bool := !(decide (r.kind=3)&&((mG (iB r.obj) M).isSome||decide (r.gO<((mG (pL r.aN) M).getD ao.z).gO)))
def cy (h:ad) (N:Nat) (v:Value) (L:List ao):Prop:=(∀ r∈L,ao.Wf r) /\ ∃ b s,v = .slice (some ⟨b,0,s⟩) L.length L.length/\h.get b=some (bj L)/\N<=b/\((L = []/\s=none)\/(L ≠ []/\s=some 39))
def rlB:Value->Nat
 | .slice (some ⟨b,_,_⟩) _ _=>b
 |_=>0
theorem cy.blk {h:ad} {N:Nat} {v:Value} {L:List ao} (x:cy h N v L):N<=rlB v/\h.get (rlB v)=some (bj L):=by obtain ⟨hw,b,s,rfl,h1,h2,_⟩:=x;exact ⟨h2,h1⟩
theorem cy.old {h h':ad} {N:Nat} {v:Value} {L:List ao} (x:cy h N v L) (o:aA h h'):cy h' N v L:=by obtain ⟨hw,b,s,rfl,h1,h2⟩:=x;exact ⟨hw,b,s,rfl,aA.get o h1,h2⟩
theorem gx (A B:List ao):bj (A++B)=bj A++bj B:=by unfold bj;rw [HL]
theorem BC (r:ao):bj [r]=bL r:=by unfold bj;rw [E4,HO,EN]
theorem cy.push {h:ad} {N c:Nat} {v:Value} {L:List ao} {r:ao} (x:cy h N v L) (h0:h.n0<=N) (hN:N<=h.next) (w:r.Wf) (hl:L.length<=1000000) (hc:h.get c=some (bL r)) :
  ∃ v' h',appendA 39 88 v (.slice (some ⟨c,0,none⟩) 1 1) h=some (v',h')/\cy h' N v' (L ++ [r])/\az h h' (· = rlB v):=by
 obtain ⟨hw,b,s,rfl,g1,g2,g3⟩:=x;have cr:=aM w;have lc:=cf hw;have ok:=kR hw;have hw' : ∀ q∈L ++ [r],ao.Wf q:=fun q hq=>by
  rcases D9.1 hq with h1|h1
  ·exact hw q h1
  ·rw [EH.1 h1];exact w
 have lT:(L ++ [r]).length=L.length+1:=by rw [DH,List.length_singleton]
 have hne:L ++ [r] ≠ []:=by simp
 have hf:firstA 39 1 (.slice (some ⟨c,0,none⟩) 1 1) h=some (bL r):=by
  have e:((bL r).drop 0).take (1*39)=bL r:=by rw [EJ,D1 (by rw [cr.1];decide)]
  unfold firstA;simp only;rw [DM (by decide),hc];simp only;rw [e,DL ⟨by rw [cr.1];decide,cr.2.1⟩]
 have hcond:(!(aJ (bL r)) || !(decide ((L.length+1)*88<=140737488355328)) || !(decide (L.length+1<=4611686018427387904))||decide ((bL r).length≠1*39))=false:=by rw [cr.2.2,DA (by omega:(L.length+1)*88<=140737488355328),DA (by omega:L.length+1<=4611686018427387904),DB (by rw [cr.1];decide)];rfl
 have hfo:firstA 39 L.length (.slice (some ⟨b,0,s⟩) L.length L.length) h=some (bj L):=by
  unfold firstA;simp only;by_cases hz:L.length*39=0
  ·rw [DL hz];rw [DU.1 (by omega:L.length=0)];rfl
  ·have e:((bj L).drop 0).take (L.length*39)=bj L:=by rw [EJ,D1 (by omega)]
   rw [DM hz,g1];simp only;rw [e,DL ⟨by omega,ok.1⟩]
 have fin : ∀ g:ad,N<=g.next->cy (g.alloc (bj L++bL r)) N (.slice (some ⟨g.next,0,some 39⟩) (L.length+1) (L.length+1)) (L ++ [r]):=fun g hg=>
  ⟨hw',g.next,some 39,by rw [lT],by rw [ad.aF,DL rfl,gx,BC],hg,.inr ⟨hne,rfl⟩⟩
 rcases g3 with ⟨hn,rfl⟩|⟨hn,rfl⟩
 ·refine ⟨.slice (some ⟨h.next,0,some 39⟩) (L.length+1) (L.length+1),h.alloc (bj L++bL r),?_,fin h hN,az.alloc _ _ _⟩;unfold appendA;simp only [ie,hf];rw [DM (by rw [hcond];decide),DM (by omega)];simp only [hfo];rw [DM (by omega)]
 ·refine ⟨.slice (some ⟨h.next,0,some 39⟩) (L.length+1) (L.length+1),(h.kill b).alloc (bj L++bL r),?_,fin (h.kill b) hN,?_⟩
  ·unfold appendA;simp only [ie,hf];rw [DM (by rw [hcond];decide),DM (by omega)];simp only [hfo];rw [DM (by omega),DL (by rw [g1];simp;omega)]
  ·refine ⟨rfl,by simp,fun q hq hb => ?_⟩;rw [ad.cF,ad.gh,DM (by omega)];unfold ad.kill;rw [h.cP (by omega) (h.aO g1),DM (show ¬q=b from hb)]
theorem atld {h:ad} {b:Nat} {r:ao} (w:r.Wf) (g:h.get b=some (xm r)):ld1 (ptr b 0) h=some (.int .u8 (r.kind:Int),h)/\cx 32 (ptr b 1) h=some (.agg (aY r.obj).toArray,h)/\ld1 (ptr b 33) h=some (.int .i64 r.aN,h):=by
 have ho:(aY r.obj).length=32:=by rw [DS];exact w.obj.1
 refine ⟨aU g rfl rfl,?_,aU g ?_ rfl⟩
 ·exact xI g (A := [.int .u8 (r.kind:Int)]) (B:=aY r.obj) (C := [.int .i64 r.aN]) rfl rfl ho (cH w.obj).all.1
 ·have:=at_at (x := .int .u8 (r.kind:Int)) (y := .int .i64 r.aN) ho;rw [G1] at this;exact this
def ye (h:ad) (ib mb n:Nat) (seen:List Nat):Prop:=h.getB ib=some (.obj (.iter (some mb) n seen n))
theorem es_find : ∀ (M:List ao) (i s:Nat) (hs:s<M.length),(esOf M i).find? (fun e=>e.2.2==i+s)=some (tL M[s],cY M[s],i+s)
 |r::M,i,0,_=>by unfold esOf;rw [List.find?_cons_of_pos (by simp)];rfl
 |r::M,i,s+1,hs=>by unfold esOf;rw [IN (by simp)];have:=es_find M (i+1) s (by simpa using hs);rw [show i+1+s=i+(s+1) by omega] at this;rw [this];rfl
theorem entry_at {h:ad} {ib mb s:Nat} {M:List ao} {seen:List Nat} (m:jd h mb M) (it:ye h ib mb M.length (seen ++ [s])) (hs:s<M.length):entryA (ptr ib 0) h=some (.tuple #[tL M[s],cY M[s]],h):=by have e:=es_find M 0 s hs;rw [DG] at e;unfold entryA ptr;simp only [show h.getB ib=_ from it,List.getLast?_concat,m.1,DY,e,Option.map_some]
theorem xN {r:ao} (w:r.Wf) (q:ad):cg 39 (.agg gI) 1 [(0,cY r)] q=some (.slice (some ⟨q.next,0,none⟩) 1 1,q.alloc (bL r)):=by
 have e1:fillL zrC [(0*39,39,cY r)]=some (bL r):=by rw [jr (z:=zrC) (A := []) (B:=zrC) (C := []) (o:=0*39) (n:=39) (by simp) rfl rfl (aM w).1];simp [fillL]
 have e2:aJ ([(0,cY r)].flatMap fun x:Nat×Value=>x.2.cells.toList)=true:=by show aJ ((bL r).toArray.toList ++ [])=true;rw [EN];exact (cA w).all.2.1
 unfold cg;rw [e2];exact (FZ (fun o:Option (List Value)=>match o with|some cs=>some (Value.slice (some ⟨q.next,0,none⟩) 1 1,q.alloc cs)|none=>none) e1:_)
def After3 (M:List ao) (mb ib N:Nat) (x:Nat->Value) (g:ad) (L:List ao) (r:ao) (o:Option (Ex×aW×ad)):Prop:=
 ∃ y g',o=some (.normal,aL 103 y,g')/\y 0=x 0/\y 5 = .map (some mb)/\y 63=ptr ib 0/\cy g' N (y 12) (L++if gf M r=true then [r] else [])/\az g g' (· = rlB (x 12))
theorem u8_eq3 (n:Nat):((n:Int)==3)=decide (n=3):=by
 by_cases h:n=3
 ·subst h;rfl
 ·rw [DB h,II];omega
set_option maxRecDepth 100000 in
set_option maxHeartbeats 1000000 in
theorem mrg_entry {g:ad} {ib mb s N:Nat} {M L:List ao} {seen:List Nat} (hs:s<M.length) (m:jd g mb M) (it:ye g ib mb M.length (seen ++ [s])) {x:Nat->Value} (x5:x 5 = .map (some mb)) (x63:x 63=ptr ib 0) (x65:x 65 = .bool true)
  (rl:cy g N (x 12) L) (h0:g.n0<=N) (hN:N<=g.next) (hl:L.length<=1000000):After3 M mb ib N x g L M[s] (eY CM x g):=by
 have wr:M[s].Wf:=m.2 _ (EA hs);have e1:=entry_at m it hs;generalize M[s]=r at *;obtain ⟨h1,z1,o1,g1,n1⟩:=fresh zat g;obtain ⟨h2,z2,o2,g2,n2⟩:=fresh zrC h1;have ta:=kh wr;have cr:=aM wr;have nz:g.n0<=g.next:=g.n0_le_next;obtain ⟨h3,e3,k3,g3,_,_⟩:=aX (n:=34) (k':=xm r) (aA.get o2 g1) (by rw [o2.n0,o1.n0];exact nz) rfl (CT wr) ta.all.2.1;have g2':h3.get h1.next=some zrC:=k3.getE g2 (by omega);obtain ⟨h4,e4,k4,g4,_,_⟩:=aX (n:=39) (k':=bL r) g2' (by rw [k3.n0,o2.n0,o1.n0];omega) rfl cr.1 (cA wr).all.2.1;have g3':h4.get g.next=some (xm r):=k4.getE g3 (by omega);have O4:aA g h4:=aA.bx (aA.bx (o1.trans o2) k3 (DF _)) k4 (by omega);obtain ⟨a0,a1,a33⟩:=atld wr g3';have m4:=m.mono O4;have x0:extractA (.tuple #[tL r,cY r]) 0=some (tL r):=rfl;have x1:extractA (.tuple #[tL r,cY r]) 1=some (cY r):=rfl;have push : ∀ q,aA h4 q -> ∃ v' q',cx 39 (ptr h1.next 0) q=some (cY r,q)/\cg 39 (.agg gI) 1 [(0,cY r)] q=some (.slice (some ⟨q.next,0,none⟩) 1 1,q.alloc (bL r)) /\
   appendA 39 88 (x 12) (.slice (some ⟨q.next,0,none⟩) 1 1) (q.alloc (bL r))=some (v',q')/\cy q' N v' (L ++ [r])/\az g q' (· = rlB (x 12)):=by
  intro q oq;have oa:aA q (q.alloc (bL r)):=az.alloc _ _ _;have Oq:=O4.trans oq;have OO:=Oq.trans oa;obtain ⟨v',q',p1,p2,p5⟩:=(rl.old OO).push (r:=r) (c:=q.next) (by rw [OO.n0];exact h0) (D5 hN OO.next) wr hl (by rw [ad.aF,DL rfl]);exact ⟨v',q',bc (aA.get oq g4) cr.1 cr.2.1,xN wr q,p1,p2,(az.mono OO (fun _ _ h=>h.elim)).trans p5⟩
 unfold After3 eY;simp -implicitDefEqProofs only [x65,x63,e1,x0,x1,z1,z2,e3,e4,ay,DG,a0,bA,u8_eq3,ae,af];by_cases hk:r.kind=3
 ·obtain ⟨h5,h6,z5,e6,o6,g6⟩:=qj h4 (Da (r:=pL r.aN) m.2);have lb:=lk_false m4 (baseP_wf wr.aN);have m6:=m4.mono o6;have lg:=lk_true m6 (graveP_wf wr.obj);have y0:extractA (.tuple #[cY ((mG (iB r.obj) M).getD ao.z),.bool (mG (iB r.obj) M).isSome]) 0=some (cY ((mG (iB r.obj) M).getD ao.z)):=rfl;have y1:extractA (.tuple #[cY ((mG (iB r.obj) M).getD ao.z),.bool (mG (iB r.obj) M).isSome]) 1=some (.bool (mG (iB r.obj) M).isSome):=rfl;obtain ⟨h7,h8,z7,e8,o8,g8⟩:=qj h6 (Da (r:=iB r.obj) m.2);obtain ⟨_,b1,_⟩:=atld wr (aA.get o6 g3');have O8:=o6.trans o8;have l34:=(js wr (aA.get O8 g4)).l34;have l34b:=(js (Da (r:=pL r.aN) m.2) (aA.get o8 g6)).l34;simp -implicitDefEqProofs only [DA hk,a33,bldP_base,x5,lb,z5,e6,ay,b1,bldP_grave wr.obj,lg,y0,y1,z7,e8,ae,af];cases hg:(mG (iB r.obj) M).isSome with
  |true=>
   have kk:gf M r=false:=by unfold gf;rw [DA hk,hg];rfl
   simp -implicitDefEqProofs only [show (aR (.bool true)==some false)=false from rfl, ax, DY, kk, DD, D3, EN, ae];exact ⟨_,_,rfl,rfl,x5,x63,rl.old (O4.trans O8),az.mono (O4.trans O8) (fun _ _ h=>h.elim)⟩
  |false=>
   have kk:gf M r = !(decide (r.gO<((mG (pL r.aN) M).getD ao.z).gO)):=by unfold gf;rw [DA hk,hg];rfl
   simp -implicitDefEqProofs only [show (aR (.bool false)==some false)=true from rfl, aw, DG, l34, l34b, bG, Int.ofNat_lt, DD, D3, kk, ae, af];by_cases hi:r.gO<((mG (pL r.aN) M).getD ao.z).gO
   ·simp -implicitDefEqProofs only [DA hi,DP,DD,D3,EN];exact ⟨_,_,rfl,rfl,x5,x63,rl.old (O4.trans O8),az.mono (O4.trans O8) (fun _ _ h=>h.elim)⟩
   ·obtain ⟨v',q',p1,p2,p3,p4,p5⟩:=push h8 O8;simp -implicitDefEqProofs only [DB hi, DN, DY, p1, p2, p3, ae];exact ⟨_,_,rfl,rfl,x5,x63,p4,p5⟩
 ·have kk:gf M r=true:=by unfold gf;rw [DB hk];rfl
  obtain ⟨v',q',p1,p2,p3,p4,p5⟩:=push h4 (az.refl _ _);simp -implicitDefEqProofs only [DB hk, p1, p2, p3, kk, DY, ae];exact ⟨_,_,rfl,rfl,x5,x63,p4,p5⟩
end Go.Proofs.YtdnahgfgoajmcaaGreatDoor
namespace Go.Proofs.YtdnahgfgoajmcaaGreatDoor
open Go Go.Abs Tryz
open Go.Lib (compareBytes)
theorem pO : ∀ a b:List UInt8,compareBytes b a = - compareBytes a b
 | [],[]=>by rfl
 | [],_::_=>by rfl
 |_::_,[]=>by rfl
 |x::a,y::b=>by
  rw [lE,lE,pO a b];by_cases e1:x.toNat<y.toNat
  ·have e2 : ¬y.toNat<x.toNat:=by omega
   simp [e1,e2]
  ·by_cases e2:y.toNat<x.toNat
   ·simp [e1,e2]
   ·simp [e1,e2]
theorem rD {r:ao} (h:de r=true):(r.kind=1/\r=r.bN/\0<=r.aN/\r.aN<16/\1<=r.gO)\/(r.kind=2/\r=r.grave)\/(r.kind=3/\vz r=true/\0<=r.aN/\r.aN<16/\1<=r.gO):=by
 unfold de at h;split at h
 ·rename_i h1;have h1:(r.kind:Int)=1:=by simpa using h1
  have h1:r.kind=1:=by omega
  rw [DJ,DR] at h;unfold im at h;simp only [DJ,DR] at h;exact .inl ⟨h1,h.1,by omega,by omega,by omega⟩
 ·split at h
  ·rename_i h2;have h2:(r.kind:Int)=2:=by simpa using h2
   have h2:r.kind=2:=by omega
   exact .inr (.inl ⟨h2,of_decide_eq_true h⟩)
  ·split at h
   ·rename_i h3;have h3:(r.kind:Int)=3:=by simpa using h3
    have h3:r.kind=3:=by omega
    have h':=h;unfold vz im at h';simp only [DJ,DR] at h';exact .inr (.inr ⟨h3,h,by omega,by omega,by omega⟩)
   ·cases h
theorem vP {r:ao} (h:de r=true):0<=r.aN/\r.aN<16:=by
 rcases rD h with h|⟨_,h⟩|h
 ·exact ⟨h.2.2.1,h.2.2.2.1⟩
 ·have:r.aN=0:=by rw [h];rfl
  omega
 ·exact ⟨h.2.2.1,h.2.2.2.1⟩
theorem BE : ∀ {x y:List Nat},w9 x->w9 y->x.map UInt8.ofNat=y.map UInt8.ofNat->x=y
 | [],[],_,_,_=>rfl
 | [],_::_,_,_,h=>by simp at h
 |_::_,[],_,_,h=>by simp at h
 |a::x,b::y,hx,hy,h=>by
  simp only [FL,GD] at h;have ha:=hx a ER;have hb:=hy b ER;have e:a=b:=by have:=FZ UInt8.toNat h.1;simp only [UInt8.toNat_ofNat'] at this;omega
  rw [e,BE (fun z hz=>hx z (EM _ hz)) (fun z hz=>hy z (EM _ hz)) h.2]
theorem Bz {a b:ao} (wa:a.Wf) (wb:b.Wf) (va:de a=true) (vb:de b=true) (h:fp a b=0):kU a b=true:=by have e:=BE (kL wa) (kL wb) (cb_eq _ _ h);unfold dx at e;simp only [List.cons_append,List.nil_append,GD] at e;obtain ⟨e1,e2⟩:=e;obtain ⟨e2,e3⟩:=IM e2 (by rw [wa.obj.1,wb.obj.1]);have ha:=vP va;have hb:=vP vb;refine gJ.2 ⟨e1,e2,?_⟩;unfold i8 at e3;simp only [GD,JE] at e3;omega
theorem eO (a b:ao):kU a b=kU b a:=by rw [HZ,gJ,gJ];constructor<;>rintro ⟨h1,h2,h3⟩<;>exact ⟨h1.symm,h2.symm,h3.symm⟩
theorem atB_self (a:ao):kU a a=true:=gJ.2 ⟨rfl,rfl,rfl⟩
theorem iW {a b c:ao} (h1:kU a b=true) (h2:kU b c=true):kU a c=true:=by rw [gJ] at *;exact ⟨h1.1.trans h2.1,h1.2.1.trans h2.2.1,h1.2.2.trans h2.2.2⟩
def KS (L:List ao):Prop:=L.Pairwise fun a b=>fp a b<0
def jv (L:List ao):Prop:=L.Pairwise fun a b=>kU a b=false
def qE (L:List ao):Prop := ∀ r∈L,ao.Wf r/\de r=true
theorem KS.zn {A B:List ao} (ha:KS A) (hb:KS B) (h:A.Perm B):A=B:=
 h.eq_of_pairwise (fun a b _ _ h1 h2=>absurd h2 (by unfold fp at *;rw [pO] at h2;omega)) ha hb
theorem jv.perm {A B:List ao} (ha:jv A) (h:A.Perm B):jv B:=h.pairwise ha (fun {a b} h=>by rw [eO];exact h)
theorem jv.filter {A:List ao} (ha:jv A) (p:ao->Bool):jv (A.filter p):=JB p ha
theorem KS.of {L:List ao} (h:L.Pairwise fun a b => ¬fp b a<0) (d:jv L) (v:qE L):KS L:=by
 unfold KS jv at *;have:=List.Pairwise.and h d;refine List.Pairwise.imp_of_mem (R:=fun a b => ¬fp b a<0/\kU a b=false) (fun {a b} ha hb hh => ?_) this;have h2:fp b a = - fp a b:=pO _ _;have h3:fp a b≠0:=fun e=>by have:=Bz (v a ha).1 (v b hb).1 (v a ha).2 (v b hb).2 e;rw [this] at hh;exact absurd hh.2 (by decide)
 omega
def leK (a b:ao):Bool := !decide (fp b a<0)
def qY (L:List ao):List ao:=L.mergeSort leK
theorem fV (L:List ao):(qY L).Perm L:=List.mergeSort_perm L leK
theorem tG {L:List ao} (d:jv L) (v:qE L):KS (qY L):=by
 have hp:=fV L;refine KS.of ?_ (d.perm hp.symm) (fun r hr=>v r (hp.mem_iff.1 hr));have h:=List.pairwise_mergeSort (le:=leK) ?_ ?_ L
 ·refine List.Pairwise.imp (fun {a b} hh => ?_) h;unfold leK at hh;simpa using hh
 ·intro a b c h1 h2;unfold leK at *;simp only [FK,FM] at *;exact qz _ _ _ h2 h1
 ·intro a b;unfold leK;have:fp b a = - fp a b:=pO _ _;simp only [FH,FK,FM];omega
theorem sortR_uniq {A L:List ao} (d:jv L) (v:qE L) (hp:A.Perm L) (h:A.Pairwise fun a b => ¬fp b a<0):A=qY L:=
 KS.zn (KS.of h (d.perm hp.symm) fun r hr=>v r (hp.mem_iff.1 hr)) (tG d v) (hp.trans (fV L).symm)
end Go.Proofs.YtdnahgfgoajmcaaGreatDoor
namespace Go.Proofs.YtdnahgfgoajmcaaGreatDoor
open Go Go.Abs Tryz
open Go.Lib (compareBytes)
attribute [local congr] aq
theorem idx_at {r:ao} {M:List ao} {i j:Nat} (h:idx r M=some i) (hj:j<(M.set i r).length) (hj':j<M.length) (x:ao):kU (M.set i r)[j] x=kU M[j] x/\kU x (M.set i r)[j]=kU x M[j]:=by
 obtain ⟨hi,ha,_⟩:=mY h;rw [List.getElem_set];split
 ·rename_i e;subst e;have h1 : ∀ x,kU r x=kU M[i] x:=fun x=>by obtain ⟨e1,e2,e3⟩:=gJ.1 ha;unfold kU;rw [e1,e2,e3]
  exact ⟨h1 x,by rw [eO,h1,eO]⟩
 ·exact ⟨rfl,rfl⟩
theorem nY {r:ao} : ∀ {M:List ao},idx r M=none -> ∀ x∈M,kU r x=false
 | [],_,x,hx=>by cases hx
 |y::M,h,x,hx=>by
  unfold idx at h;by_cases e:kU r y=true
  ·rw [DL e] at h;cases h
  ·rw [DM e] at h;have h2:idx r M=none:=by
    cases hq:idx r M with
    |none=>rfl
    |some j=>rw [hq] at h;cases h
   rcases FJ.1 hx with rfl|hx
   ·simpa using e
   ·exact nY h2 x hx
theorem Bp {M:List ao} (d:jv M) (r:ao):jv (putM M r):=by
 unfold putM;cases h:idx r M with
 |none=>
  refine IE.2 ⟨d,by simp,fun a ha b hb => ?_⟩;rw [EH.1 hb,eO];exact nY h a ha
 |some i=>
  unfold jv at *;rw [G0] at *;intro j k hj hk hjk;have hj':j<M.length:=by simpa using hj
  have hk':k<M.length:=by simpa using hk
  rw [(idx_at h hj hj' _).1,(idx_at h hk hk' _).2];exact d j k hj' hk' hjk
theorem mstep_dist {M:List ao} (d:jv M) (r:ao):jv (dY M r):=by
 unfold dY;split
 ·exact Bp d r
 ·exact d
theorem putM_mem {M:List ao} {r x:ao} (h:x∈putM M r):x∈M\/x=r:=by
 unfold putM at h;split at h
 ·exact GL h
 ·rcases D9.1 h with h|h
  ·exact .inl h
  ·exact .inr (EH.1 h)
theorem mstep_vld {M:List ao} (v:qE M) {r:ao} (w:r.Wf/\de r=true):qE (dY M r):=by
 unfold dY;split
 ·intro x hx;rcases putM_mem hx with h|rfl
  ·exact v x h
  ·exact w
 ·exact v
def dz (L:List ao):List ao:=L.foldl dY []
theorem fold_ok : ∀ (L M:List ao),jv M->qE M->qE L->jv (L.foldl dY M)/\qE (L.foldl dY M)
 | [],_,d,v,_=>⟨d,v⟩
 |r::L,M,d,v,w=>fold_ok L (dY M r) (mstep_dist d r) (mstep_vld v (w r ER)) fun x hx=>w x (EM _ hx)
theorem BM {L:List ao} (v:qE L):jv (dz L)/\qE (dz L):=fold_ok L [] .nil (fun _ h=>by cases h) v
theorem putM_len (M:List ao) (r:ao):(putM M r).length<=M.length+1:=by
 unfold putM;split
 ·rw [HA];omega
 ·rw [DH];simp
theorem fold_len : ∀ (L M:List ao),(L.foldl dY M).length<=M.length+L.length
 | [],M=>DF _
 |r::L,M=>by
  have h1:=fold_len L (dY M r);have h2:(dY M r).length<=M.length+1:=by
   unfold dY;split
   ·exact putM_len M r
   ·omega
  rw [List.foldl_cons,List.length_cons];omega
theorem zy (L:List ao):(dz L).length<=L.length:=by have:=fold_len L [];rw [List.length_nil,DG] at this;exact this
def bB (A B:List ao):List ao:=let M:=dz (A++B);qY (M.filter (gf M))
theorem es_mem {M:List ao} {e:Value×Value×Nat} (h:e∈esOf M 0) : ∃ s,∃ hs:s<M.length,e=(tL M[s],cY M[s],s):=by
 obtain ⟨s,hs⟩:=H7.1 h;have hl:s<M.length:=by
  have:=(EP.1 hs).1
  rwa [esOf_len] at this
 rw [sR M 0 s hl] at hs;refine ⟨s,hl,?_⟩;cases hs;simp
theorem cands_spec (M:List ao) (seen:List Nat) : ∃ l,uW (esOf M 0) M.length seen M.length=some l /\ ∀ c∈l,(c=none /\ ∀ s<M.length,s∈seen) \/ ∃ s,∃ hs:s<M.length,s∉seen/\c=some (tL M[s],cY M[s],s):=by
 have h1:(!seen.isEmpty && !(esOf M 0).isEmpty&&(esOf M 0).all fun e=>decide (M.length<=e.2.2))=false:=by
  cases M with
  |nil=>simp [esOf]
  |cons r M=>simp [esOf]
 unfold uW;rw [DM (by rw [h1];decide)];refine ⟨_,rfl,?_⟩;intro c hc;rcases D9.1 hc with hc|hc
 ·refine .inl ?_;split at hc
  ·rename_i he;refine ⟨EH.1 hc,fun s hs => ?_⟩;rw [List.isEmpty_iff] at he;have hm:(tL M[s],cY M[s],s)∈esOf M 0:=by have:=sR M 0 s hs;rw [DG] at this;exact EY this
   have h2:(tL M[s],cY M[s],s)∉((esOf M 0).filter fun e => !seen.contains e.2.2).filter fun e=>decide (e.2.2<M.length):=by rw [he];exact F5
   rw [EW,EW] at h2;by_cases hh:s∈seen
   ·exact hh
   ·exact absurd ⟨⟨hm,by simpa using hh⟩,by simpa using hs⟩ h2
  ·cases hc
 ·obtain ⟨e,he,rfl⟩:=E2.1 hc;have hl:e∈(esOf M 0).filter fun e => !seen.contains e.2.2:=by
   rcases D9.1 he with he|he
   ·exact (EW.1 he).1
   ·exact (EW.1 he).1
  rw [EW] at hl;obtain ⟨s,hs,rfl⟩:=es_mem hl.1;exact .inr ⟨s,hs,by simpa using hl.2,rfl⟩
theorem seen_range {n:Nat} {seen:List Nat} (d:seen.Nodup) (h : ∀ s∈seen,s<n):seen.length<=n:=by
 have hp:(seen++(List.range n).filter fun s => !seen.contains s).Perm (List.range n):=by
  refine (IC ?_ List.nodup_range).2 fun a => ?_
  ·refine IS.2 ⟨d,JB _ List.nodup_range,fun a ha b hb e => ?_⟩;subst e;rw [EW] at hb;simp [ha] at hb
  ·rw [D9,EW,List.mem_range];constructor
   ·rintro (h1|⟨h1,_⟩)
    ·exact h a h1
    ·exact h1
   ·intro h1;by_cases h2:a∈seen
    ·exact .inl h2
    ·exact .inr ⟨h1,by simpa using h2⟩
 have:=hp.length_eq;rw [DH,GW] at this;omega
theorem seen_all {M:List ao} {seen:List Nat} (d:seen.Nodup) (h : ∀ s∈seen,s<M.length) (ha : ∀ s<M.length,s∈seen):(seen.map fun s=>M.getD s ao.z).Perm M:=by
 have hp:seen.Perm (List.range M.length):=(IC d List.nodup_range).2 fun a=>by rw [List.mem_range];exact ⟨h a,ha a⟩
 have e:(List.range M.length).map (fun s=>M.getD s ao.z)=M:=by
  refine FE fun t => ?_;rw [EF];by_cases ht:t<M.length
  ·rw [F1 ht,DC ht,Option.map_some,DK,DC ht];rfl
  ·rw [EK (by simpa using ht),EK (by omega)];rfl
 have:=hp.map fun s=>M.getD s ao.z
 rwa [e] at this
theorem seqW' {P:Program} {C:aj} {K:Ex->aW->ad->Prop} {a b:Code} {e:aW} {h:ad} (x:codeW P C (vR C) a e h fun x e' h'=>match x with | .normal=>codeW P C (vR C) b e' h' K|x=>K x e' h'):codeW P C (vR C) (.seq a b) e h K:=by simp only [codeW];exact x
theorem blockW {P:Program} {C:aj} {K:Ex->aW->ad->Prop} {i:Nat} {b:Code} {e:aW} {h:ad} (x:codeW P C (vR C) b e h fun x e' h'=>match x with | .exit j=>K (if j=i then .normal else .exit j) e' h'|x=>K x e' h'):codeW P C (vR C) (.block i b) e h K:=by simp only [codeW];exact x
noncomputable def opAt (p:List Nat) (i:Nat):Oper:=match au f21 p with | .region _ ops _=>ops.getD i default|_=>default
theorem reg19:au f21 [1,1,1,1,1,1,0,1,0,0] = .seq (.region 19 #[opAt [1,1,1,1,1,1,0,1,0,0,0] 0,opAt [1,1,1,1,1,1,0,1,0,0,0] 1] false) (au f21 [1,1,1,1,1,1,0,1,0,0,1]):=by kernel_rfl
theorem op1:(opAt [1,1,1,1,1,1,0,1,0,0,0] 0).op = .next (.tmp 63) false/\(opAt [1,1,1,1,1,1,0,1,0,0,0] 0).dst=some 64/\(opAt [1,1,1,1,1,1,0,1,0,0,0] 0).guard=none:=⟨by kernel_rfl,by kernel_rfl,by kernel_rfl⟩
theorem op2:(opAt [1,1,1,1,1,1,0,1,0,0,0] 1).op = .extract (.tmp 64) 0/\(opAt [1,1,1,1,1,1,0,1,0,0,0] 1).dst=some 65/\(opAt [1,1,1,1,1,1,0,1,0,0,0] 1).guard=none:=⟨by kernel_rfl,by kernel_rfl,by kernel_rfl⟩
theorem blk4:au f21 [1,1,1,1,1,1,0,1] = .block 4 (.loop (au f21 [1,1,1,1,1,1,0,1,0,0])):=by kernel_rfl
theorem ne_obj {h:ad} {b c:Nat} {k:iM} {o:fu} (g:h.get b=some k) (e:h.getB c=some (.obj o)):c≠b:=fun q=>by subst q;rw [h.bg g] at e;cases e
theorem cy.keep {h h':ad} {N:Nat} {v:Value} {L:List ao} (x:cy h N v L) {B:Nat->Prop} (k:az h h' B) (hB : ¬B (rlB v)):cy h' N v L:=by obtain ⟨hw,b,s,rfl,h1,h2⟩:=x;exact ⟨hw,b,s,rfl,k.getE h1 hB,h2⟩
theorem set_getO {h:ad} {b:Nat} {o:fu} {k:BB} (hb:h.n0<=b) (hg:h.getB b=some k):(h.setO b o).getB b=some (.obj o):=by unfold ad.setO;rw [h.cP hb (h.lt_of_getB hg),DL rfl]
theorem loop3W {h0 g0:ad} {M:List ao} {vb mb ib N:Nat} (O:aA h0 g0) (hN:h0.next=N) (m:jd g0 mb M) (_:N<=mb) (hib:N<=ib) (it:ye g0 ib mb M.length []) (hl:M.length<=1000000) {x:Nat->Value} (x0:x 0=ptr vb 0) (x5:x 5 = .map (some mb)) (x63:x 63=ptr ib 0) (rl:cy g0 N (x 12) [])
  {K:Ex->aW->ad->Prop} (hK : ∀ y g L,y 0=ptr vb 0->aA h0 g->g0.next<=g.next->cy g N (y 12) L->L.Perm (M.filter (gf M))->K .normal (aL 103 y) g) :
  codeW prog CM (vR CM) (au f21 [1,1,1,1,1,1,0,1]) (aL 103 x) g0 K:=by
 rw [blk4];refine blockW (loopW_inv (fun k e g => ∃ y seen,e=aL 103 y/\seen.length+k=M.length/\seen.Nodup/\(∀ s∈seen,s<M.length)/\y 0=ptr vb 0/\y 5 = .map (some mb)/\y 63=ptr ib 0/\jd g mb M/\ye g ib mb M.length seen/\aA h0 g/\g0.next<=g.next/\cy g N (y 12) ((seen.map fun s=>M.getD s ao.z).filter (gf M))) ?_ (fun e h K K'=>codeW_mono _) (k:=M.length) (by have:aB=18446744073709551616:=rfl;omega) ⟨x,[],rfl,by simp,List.nodup_nil,by simp,x0,x5,x63,m,it,O,DF _,rl⟩);rintro k e g ⟨y,seen,rfl,hk,nd,hs,y0,y5,y63,mg,ig,Og,hn,rg⟩;have n0g:g.n0<=N:=by rw [Og.n0,<-hN];exact h0.n0_le_next
 rw [reg19];obtain ⟨l,hl2,hc⟩:=cands_spec M seen;refine seqW' (Go.Abs.po op1.1 op1.2.1 op1.2.2 op2.1 op2.2.1 op2.2.2 (n:=103) (by decide) (by decide) (l:=l.map fun c=>stepTo ib mb M.length seen M.length c g) ?_ ?_)
 ·rw [y63];unfold nextsA ptr;simp only [show g.getB ib=_ from ig,mg.1,hl2,Option.map_some]
 ·rintro r hr;obtain ⟨c,hcm,rfl⟩:=E2.1 hr;rcases hc c hcm with ⟨rfl,hall⟩|⟨s,hsl,hsn,rfl⟩
  ·refine ⟨.bool false,rfl,?_⟩;refine tu _ (iQ CM _ _) ?_;exact hK _ g _ y0 Og hn rg ((seen_all nd hs hall).filter _)
  ·refine ⟨.bool true,rfl,?_⟩;show codeW prog CM (vR CM) _ (aL 103 (up y [(65,.bool true),(64,.tuple #[.bool true,tL M[s],cY M[s]])])) (g.setO ib (.iter (some mb) M.length (seen ++ [s]) M.length)) _;have nib:g.n0<=ib:=D5 n0g hib;have kS:=az.setO (o := .iter (some mb) M.length (seen ++ [s]) M.length) nib ig;have iS:ye (g.setO ib (.iter (some mb) M.length (seen ++ [s]) M.length)) ib mb M.length (seen ++ [s]):=set_getO nib ig;have hne:mb≠ib:=fun e=>by have h1:=mg.1;have h2:g.getB ib=_:=ig;rw [e,h2] at h1;cases h1
   have mS:jd (g.setO ib (.iter (some mb) M.length (seen ++ [s]) M.length)) mb M:=⟨kS.obj mg.1 hne,mg.2⟩
   have rS:=rg.keep kS (fun e=>ne_obj rg.blk.2 ig e.symm);have OS:aA h0 (g.setO ib (.iter (some mb) M.length (seen ++ [s]) M.length)):=Og.also kS (fun d hd q=>by omega);have nS:(g.setO ib (.iter (some mb) M.length (seen ++ [s]) M.length)).next=g.next:=rfl;generalize g.setO ib (.iter (some mb) M.length (seen ++ [s]) M.length)=gS at *;have hlen:((seen.map fun s=>M.getD s ao.z).filter (gf M)).length<=1000000:=by have h1:=EU (gf M) (seen.map fun s=>M.getD s ao.z);rw [DS] at h1;omega
   obtain ⟨z,g2,e2,z0,z5,z63,r2,k2⟩:=mrg_entry (x:=up y [(65,.bool true),(64,.tuple #[.bool true,tL M[s],cY M[s]])]) hsl mS iS y5 y63 rfl rS (by rw [OS.n0,<-hN];exact h0.n0_le_next) (by rw [<-hN];exact OS.next) hlen;refine tu _ ((iQ CM _ _).trans e2) ?_;have hnd:(seen ++ [s]).Nodup:=IS.2 ⟨nd,by simp,fun a ha b hb e=>by rw [EH.1 hb] at e;subst e;exact hsn ha⟩
   have hlt : ∀ t∈seen ++ [s],t<M.length:=fun t ht=>by
    rcases D9.1 ht with h|h
    ·exact hs t h
    ·rw [EH.1 h];exact hsl
   have hle:=seen_range hnd hlt;rw [DH,List.length_singleton] at hle;have rb:=rS.blk;refine ⟨k-1,by omega,z,seen ++ [s],rfl,by rw [DH,List.length_singleton];omega,hnd,hlt,z0.trans y0,z5,z63,⟨k2.obj mS.1 (ne_obj rb.2 mS.1),mS.2⟩,k2.obj iS (ne_obj rb.2 iS),OS.also k2 (fun d hd q => ?_),D5 (by rw [nS];exact hn) k2.next,?_⟩
   ·have:d=rlB (y 12):=q;have:=rb.1;omega
   ·rw [FG,GP];have e3:M.getD s ao.z=M[s]:=by rw [DK,DC hsl];rfl
    rw [FL,HH,e3];have e4 : [M[s]].filter (gf M)=if gf M M[s]=true then [M[s]] else []:=by rw [I6];rfl
    rw [e4];exact r2
theorem is61:bP prog 46 f46:=by constructor<;>kernel_rfl
theorem is25:bP prog 21 f21:=by constructor<;>kernel_rfl
theorem call61 (args:List Value) (h:ad):callA prog CW (.func (.func 46) #[] #[]) args h=CW 46 args h:=by have hf:=EV fs_124;unfold callA;simp only;generalize prog.funcs.size=n at *;rw [DL (show (46:Nat)<n by omega),List.nil_append,EN]
theorem r61 {h:ad} (hG:4<=h.n0) {r:ao} (w:r.Wf) : ∃ h',CW 46 [.agg (bL r).toArray] h=some (.bool (!(de r)),h')/\aA h h':=by obtain ⟨h1,b1,o1,g1,n1⟩:=cJ h w;have L1:=bc g1 (aM w).1 (aM w).2.1;obtain ⟨h2,e2,o2⟩:=r42 (h:=h1) (by rw [o1.n0];exact hG) w;refine ⟨h2,aD is61 hG rfl ((t61_eq _ _ _).trans ?_),o1.trans o2⟩;unfold t61;simp -implicitDefEqProofs only [b1,L1,e2,aT,ae,af]
theorem jK.zn {h:ad} {v:Value} {A B:List ao} (x:jK h v A) (y:jK h v B):A=B:=by
 obtain ⟨⟨a,c,rfl⟩,hA,hx⟩:=x;obtain ⟨⟨a',c',e⟩,hB,hy⟩:=y;injection e with e1 e2 e3
 refine List.ext_getElem e2 fun j h1 h2 => ?_;obtain ⟨b,o,p1,p2,p3⟩:=hx j h1;obtain ⟨b',o',q1,q2,q3⟩:=hy j h2;rw [p1] at q1;injection q1 with q1
 have hp:ptr b o=ptr b' o':=q1;have v1:=p3 h rfl;have v2:=q3 h rfl;rw [<-hp,v1] at v2;simp only [DE,DO,JE] at v2;have wa:=hA _ (EA h1);have wb:=hB _ (EA h2);rw [DK,DC h1,DK,DC h2] at v2;simp only [Option.getD_some, Value.agg.injEq] at v2;exact tE wa.obj.1 wb.obj.1 (FZ Array.toList v2)
structure yN (args:List Value) (h:ad) (vb:Nat) (va:Value) (La:List ao) (vr:Value) (Lr:List ao):Prop where
 args:args = [ptr vb 0,vr]
 n0:h.n0<=vb
 get:h.get vb=some [va]
 own:jK h va La
 new:jK h vr Lr
 vld:qE La
 la:La.length<=500000
 lr:Lr.length<=500000
def Cl (h:ad) (vb:Nat) (R:List ao):ad:=(h.set vb [.slice (some ⟨h.next,0,if R = [] then none else some 39⟩) R.length R.length]).alloc (bj R)
open Classical in
noncomputable def s25 (args:List Value) (h:ad):aS:=
 if x : ∃ vb va La vr Lr,yN args h vb va La vr Lr then
  if gz x.choose_spec.choose_spec.choose_spec.choose_spec.choose=true then some (.int .i64 2,h)
  else some (.int .i64 0,Cl h x.choose (bB x.choose_spec.choose_spec.choose x.choose_spec.choose_spec.choose_spec.choose_spec.choose))
 else none
theorem sU {args:List Value} {h:ad} {r:Value×ad} (e:s25 args h=some r) : ∃ vb va La vr Lr,yN args h vb va La vr Lr/\((gz Lr=true/\r=(.int .i64 2,h))\/(gz Lr=false/\r=(.int .i64 0,Cl h vb (bB La Lr)))):=by
 unfold s25 at e;split at e
 ·rename_i x;refine ⟨_,_,_,_,_,x.choose_spec.choose_spec.choose_spec.choose_spec.choose_spec,?_⟩;split at e
  ·rename_i hi;cases e;exact .inl ⟨hi,rfl⟩
  ·rename_i hi;cases e;exact .inr ⟨by simpa using hi,rfl⟩
 ·cases e
theorem s25_eq {args:List Value} {h:ad} {vb:Nat} {va vr:Value} {La Lr:List ao} (x:yN args h vb va La vr Lr):s25 args h=if gz Lr=true then some (.int .i64 2,h) else some (.int .i64 0,Cl h vb (bB La Lr)):=by
 have hx : ∃ vb va La vr Lr,yN args h vb va La vr Lr:=⟨_,_,_,_,_,x⟩
 have hs : ∃ r,s25 args h=some r:=by
  unfold s25;rw [dif_pos hx];split
  ·exact ⟨_,rfl⟩
  ·exact ⟨_,rfl⟩
 obtain ⟨r,hr⟩:=hs;obtain ⟨vb',va',La',vr',Lr',y,hy⟩:=sU hr;have e:=x.args.symm.trans y.args;simp only [GD,JE] at e;obtain ⟨e1,e2⟩:=e;have eb:vb'=vb:=by
  injection e1 with e1
  injection e1 with e1
  injection e1 with e1
  exact e1.symm
 subst eb e2;have ea:va'=va:=by have h1:=x.get;rw [y.get] at h1;simpa using h1
 subst ea;have eA:=x.own.zn y.own;have eR:=x.new.zn y.new;subst eA eR;rw [hr];rcases hy with ⟨h1,rfl⟩|⟨h1,rfl⟩
 ·rw [DL h1]
 ·rw [DM (by rw [h1];exact HW)]
theorem sq0:au f21 [] = .seq (au f21 [0]) (au f21 [1]):=by kernel_rfl
theorem sq1:au f21 [1] = .seq (au f21 [1,0]) (au f21 [1,1]):=by kernel_rfl
theorem sq2:au f21 [1,1] = .seq (au f21 [1,1,0]) (au f21 [1,1,1]):=by kernel_rfl
theorem sq3:au f21 [1,1,1] = .seq (au f21 [1,1,1,0]) (au f21 [1,1,1,1]):=by kernel_rfl
theorem sq4:au f21 [1,1,1,1] = .seq (au f21 [1,1,1,1,0]) (au f21 [1,1,1,1,1]):=by kernel_rfl
theorem sq5:au f21 [1,1,1,1,1] = .seq (au f21 [1,1,1,1,1,0]) (au f21 [1,1,1,1,1,1]):=by kernel_rfl
theorem sq6:au f21 [1,1,1,1,1,1] = .seq (au f21 [1,1,1,1,1,1,0]) (au f21 [1,1,1,1,1,1,1]):=by kernel_rfl
theorem sq7:au f21 [1,1,1,1,1,1,0] = .seq (au f21 [1,1,1,1,1,1,0,0]) (au f21 [1,1,1,1,1,1,0,1]):=by kernel_rfl
theorem bod25:f21.body=some (au f21 []):=by kernel_rfl
theorem env25 (a b:Value):([a,b]++List.replicate (f21.ntmps - [a,b].length) undef:aW)=aL 103 (bs [a,b]):=by kernel_rfl
theorem res25:f21.results.toList = [.tmp 4]:=by kernel_rfl
theorem kF (b:Nat):aC prog .eql 25 (ptr b 0) (.pointer none)=some (.bool false):=by kernel_rfl
theorem sort_list {h:ad} {N:Nat} {v:Value} {L:List ao} (x:cy h N v L) (h0:h.n0<=N) (hl:L.length<=1000000) (d:jv L) (vl:qE L) :
  ∃ h',CM 49 [v,.func (.func 50) #[] #[]] h=some (.tuple #[],h')/\h'.get (rlB v)=some (bj (qY L))/\az h h' (· = rlB v):=by
 obtain ⟨hw,b,s,rfl,g1,g2,g3⟩:=x;have hlw : ∃ LW:List mE,LW.map (·.1)=L:=by refine ⟨L.attach.map fun x=>⟨x.1,hw x.1 x.2⟩,?_⟩;rw [IA];exact List.attach_map_subtype_val L
 obtain ⟨LW,rfl⟩:=hlw;rw [DS] at hl |-;have hn0:h.n0<=b:=D5 h0 g2;have ok:SortOk [.slice (some ⟨b,0,s⟩) LW.length LW.length,.func (.func 50) #[] #[]] h b LW:=by
  refine ⟨⟨s,rfl,?_⟩,hn0,by rw [g1,Bo],by omega⟩;rcases g3 with ⟨_,rfl⟩|⟨hne,rfl⟩
  ·exact .inl rfl
  ·exact .inr ⟨rfl,fun e=>hne (by rw [e];rfl)⟩
 have hs : ∃ r,s64 [.slice (some ⟨b,0,s⟩) LW.length LW.length,.func (.func 50) #[] #[]] h=some r:=by unfold s64;rw [dif_pos ⟨b,LW,ok⟩];exact ⟨_,rfl⟩
 obtain ⟨r,hr⟩:=hs;obtain ⟨b',L',⟨⟨s',ea,_⟩,_,hg,_⟩,e2⟩:=ue hr;simp only [GD,Value.slice.injEq,DE,Addr.mk.injEq,true_and,JE] at ea;obtain ⟨⟨rfl,_⟩,elen,_⟩:=ea;have eL:L'.map (·.1)=LW.map (·.1):=by
  rw [g1,Bo] at hg;have hg:bj (LW.map (·.1))=bj (L'.map (·.1)):=by simpa using hg
  refine List.ext_getElem (by simp [elen]) fun j h1 h2 => ?_;have w1:=xD L';have w2:=xD LW;have q1:=jW w1 h1;have q2:=jW w2 h2;rw [hg,q1] at q2;rw [DK,DC h1,DK,DC h2] at q2;exact tE (w1 _ (EA h1)).obj.1 (w2 _ (EA h2)).obj.1 q2
 have hsrt:(vg L').map (·.1)=qY (LW.map (·.1)):=by obtain ⟨p1,p2,p3⟩:=yn L';refine sortR_uniq d vl (by rw [<-eL];exact p1.map _) ?_;rw [G0];intro i j hi hj hij;rw [DS] at hi hj;have:=p3 i j hij (by omega);rw [IK _ j hj,IK _ i hi] at this;simpa using this
 subst e2;refine ⟨_,CM_sort hr,?_,az.set hn0 g1 (.inr rfl)⟩;show (h.set b _).get b=_;rw [Bo,hsrt];unfold ad.set;rw [h.xM hn0 (h.aO g1),DL rfl];rfl
theorem jT (h:ad) (vb:Nat) (R:List ao):(Cl h vb R).next=h.next+1:=rfl
theorem qN {h:ad} {vb:Nat} {va:Value} (R:List ao) (n0:h.n0<=vb) (g:h.get vb=some [va]) (b:Nat) :
  (Cl h vb R).getB b=if b=h.next then some (.cells (bj R)) else if b=vb then some (.cells [.slice (some ⟨h.next,0,if R = [] then none else some 39⟩) R.length R.length]) else h.getB b:=by
 unfold Cl;rw [ad.cF,ad.next_set];by_cases e:b=h.next
 ·rw [DL e,DL e]
 ·rw [DM e,DM e];unfold ad.set;exact h.cP n0 (h.aO g) _ _
theorem qB {A B:List ao} (v:qE (A++B)):qE (bB A B)/\KS (bB A B):=by obtain ⟨d,w⟩:=BM v;have d2:=d.filter (gf (dz (A++B)));have w2:qE ((dz (A++B)).filter (gf (dz (A++B)))):=fun r hr=>w r (EW.1 hr).1;exact ⟨fun r hr=>w2 r ((fV _).mem_iff.1 hr),tG d2 w2⟩
theorem zO {R:List ao} (v : ∀ r∈R,ao.Wf r):bJ (bj R)=true:=by unfold bJ bj;rw [DT];intro x hx;obtain ⟨r,hr,hx⟩:=GQ.1 hx;have:=(cA (v r hr)).all.2.2;unfold bJ at this;rw [DT] at this;exact this x hx
theorem slice_bd (n b l:Nat) (s:Option Nat) (h:b<n):bW n (.slice (some ⟨b,0,s⟩) l l)=true:=by cases s<;>simp [bW,h]
theorem body25 {h:ad} {vb:Nat} {va vr:Value} {La Lr:List ao} (x:yN [ptr vb 0,vr] h vb va La vr Lr) (hG:4<=h.n0) (_:aI h) {K:Value->ad->Prop}
  (k2:gz Lr=true -> ∀ g,aA h g->K (.int .i64 2) g)
  (k0:gz Lr=false -> ∀ g B,h.next<=B->g.getB B=some (.cells (bj (bB La Lr)))->g.getB vb=some (.cells [.slice (some ⟨B,0,if bB La Lr = [] then none else some 39⟩) (bB La Lr).length (bB La Lr).length])->(∀ c,c<h.next->c≠vb->g.getB c=h.getB c)->K (.int .i64 0) g) :
  tj prog CM (vR CM) f21 [ptr vb 0,vr] h K:=by
 have hnn:=h.n0_le_next;unfold tj;rw [bod25];simp only;rw [env25,sq0];refine seqW (t25p25_0_eq CM _ _) ?_;rw [sq1];refine seqW ((Dj CM _ _).trans (by unfold vI;simp -implicitDefEqProofs only [show ∀ y,up (bs [ptr vb 0,vr]) [(4,y)] 0=ptr vb 0 from fun _=>rfl,kF,ae,af];rfl)) ?_
 rw [sq2];obtain ⟨h1,e60,o1⟩:=r60 (fv := .func (.func 46) #[] #[]) hG x.new (by have:=x.lr;omega) (fun r => !(de r)) (fun r _ w g o=>by rw [call61];exact r61 (by rw [o.n0];exact hG) w)
 have e60:=CM_up rfl e60;have e60:CM 28 [vr,.func (.func 46) #[] #[]] h=some (.bool (gz Lr),h1):=e60;cases hi:gz Lr with
 |true=>
  rw [hi] at e60;refine seqW_ret ((re CM _ _).trans (by unfold ou;simp -implicitDefEqProofs only [show ∀ (x:Nat->Value) l,up (up x l) [] 1=up x l 1 from fun _ _=>rfl,show ∀ y a b,up (up (bs [ptr vb 0,vr]) [(4,y)]) [(18,a),(19,b)] 1=vr from fun _ _ _=>rfl,e60,ae,af];rfl)) ?_
  refine ⟨.int .i64 2,h1,?_,k2 hi h1 o1⟩;rw [gu res25 (by decide)];rfl
 |false=>
  rw [hi] at e60;refine seqW ((re CM _ _).trans (by unfold ou;simp -implicitDefEqProofs only [show ∀ y a b, up (up (bs [ptr vb 0,vr]) [(4,y)]) [(18,a),(19,b)] 1=vr from fun _ _ _=>rfl, e60, ae];rfl)) ?_
  rw [sq3];have em:gD none prog 91 h1=some (.map (some h1.next),h1.bn (.obj (.map [] 0))):=rfl;refine seqW ((yx CM _ _).trans (by unfold pt;simp -implicitDefEqProofs only [em, ae];rfl)) ?_
  have o2:aA h (h1.bn (.obj (.map [] 0))):=o1.trans ⟨rfl,by simp,fun c hc _=>by rw [ad.bI,DM (by omega)]⟩;have m2:jd (h1.bn (.obj (.map [] 0))) h1.next []:=⟨by rw [ad.bI,DL rfl];rfl,fun _ h=>by cases h⟩
  have hmb:h.next<=h1.next:=o1.next;generalize hh2:h1.bn (.obj (.map [] 0))=h2 at *;generalize h1.next=mb at *;rw [sq4];obtain ⟨y3,h3,e3,o3,n3,m3,y30,y35⟩:=mrg_lists (x:=up (up (up (bs [ptr vb 0,vr]) [(4,.int .i64 0)]) [(18,ptr vb 0),(19,.bool false)]) [(20,vr),(21,.bool false)] |> fun z=>up z [(5,.map (some mb)),(22,.map (some mb))]) hG o2 hmb m2 x.own x.new (by have:=x.la;omega) (by have:=x.lr;omega) (aA.get o2 x.get) rfl rfl rfl;refine seqW ((wP CM _ _).trans e3) ?_;clear hh2;have vl:qE (La++Lr):=fun r hr=>by
   rcases D9.1 hr with h1|h1
   ·exact x.vld r h1
   ·exact ⟨x.new.2.1 r h1,nE hi r h1⟩
  obtain ⟨dM,wM⟩:=BM vl;have lM:=zy (La++Lr);rw [DH] at lM;have lA:=x.la;have lB:=x.lr;have m3:jd h3 mb (dz (La++Lr)):=m3;have eM:bB La Lr=qY ((dz (La++Lr)).filter (gf (dz (La++Lr)))):=rfl;generalize dz (La++Lr)=M at *;rw [sq5];have eb:cg 39 (.agg gI) 0 [] h3=some (.slice (some ⟨h3.next,0,none⟩) 0 0,h3.alloc []):=rfl;refine seqW ((uG CM _ _).trans (by unfold mw;simp -implicitDefEqProofs only [eb, ae];rfl)) ?_
  have o4:aA h3 (h3.alloc []):=az.alloc _ _ _;have m4:=m3.mono o4;have r4:cy (h3.alloc []) h.next (.slice (some ⟨h3.next,0,none⟩) 0 0) []:=⟨(fun _ h=>by cases h),h3.next,none,rfl,by rw [ad.aF,DL rfl];rfl,o3.next,.inl ⟨rfl,rfl⟩⟩
  have O4:=o3.trans o4;generalize h3.alloc []=h4 at *;generalize Value.slice (some ⟨h3.next,0,none⟩) 0 0=v4 at *;rw [sq6];refine seqW' ?_;rw [sq7];have er:rangeA prog 91 (.map (some mb)) h4=some (ptr h4.next 0,h4.bn (.obj (.iter (some mb) M.length [] M.length))):=by unfold rangeA;simp only [map98,m4.1]
  refine seqW ((rM CM _ _).trans (by unfold jE;simp -implicitDefEqProofs only [show up y3 [(12,v4),(61,v4)] 5=y3 5 from rfl, y35, er, ae];rfl)) ?_
  have o5:aA h4 (h4.bn (.obj (.iter (some mb) M.length [] M.length))):=⟨rfl,by simp,fun c hc _=>by rw [ad.bI,DM (by omega)]⟩
  have it:ye (h4.bn (.obj (.iter (some mb) M.length [] M.length))) h4.next mb M.length []:=by unfold ye;rw [ad.bI,DL rfl]
  have m5:=m4.mono o5;have r5:=r4.old o5;have O5:=O4.trans o5;have hib:h.next<=h4.next:=O4.next;generalize h4.bn (.obj (.iter (some mb) M.length [] M.length))=h5 at *;generalize h4.next=ib at *;refine loop3W (x:=up (up y3 [(12,v4),(61,v4)]) [(62,.map (some mb)),(63,ptr ib 0)]) (h0:=h) (N:=h.next) O5 rfl m5 hmb hib it (by omega) y30 y35 rfl r5 ?_;intro y g L z0 Og _ rg hp;have d2:=dM.filter (gf M);have w2:qE (M.filter (gf M)):=fun r hr=>wM r (EW.1 hr).1;have dL:jv L:=d2.perm hp.symm;have wL:qE L:=fun r hr=>w2 r (hp.mem_iff.1 hr);have esrt:qY L=bB La Lr:=by rw [eM];exact KS.zn (tG dL wL) (tG d2 w2) (((fV L).trans hp).trans (fV _).symm)
  have elen:(bB La Lr).length=L.length:=by rw [<-esrt];exact (fV L).length_eq
  have hlL:L.length<=1000000:=by have h1:=hp.length_eq;have h2:=EU (gf M) M;omega
  have n0g:g.n0<=h.next:=by rw [Og.n0];exact hnn
  obtain ⟨h6,e64,g6,k6⟩:=sort_list rg n0g hlL dL wL;have rb:=rg.blk;have vlt:vb<h.next:=h.aO x.get;have g6v:h6.get vb=some [va]:=k6.getE (aA.get Og x.get) (by omega);obtain ⟨_,B,s,ev,_,hB,hs⟩:=rg;have hrl:rlB (y 12)=B:=by rw [ev];rfl
  rw [hrl] at g6 k6 rb;have n6:h6.n0<=vb:=by rw [k6.n0,Og.n0];exact x.n0
  have est:eo 1 (ptr vb 0) (y 12) h6=some (undef,h6.set vb [y 12]):=xJ g6v (Nat.zero_lt_one) n6 (by rw [ev];rfl) (by rw [ev];rfl);have nc:nilCheckA (ptr vb 0)=some (ptr vb 0):=rfl;refine tu _ ((sW CM _ _).trans (by unfold kx;simp -implicitDefEqProofs only [e64,z0,nc,ay,DG,est,ae,af];rfl)) ?_
  refine ⟨.int .i64 0,h6.set vb [y 12],?_,?_⟩
  ·rw [gu res25 (by decide)];rfl
  ·have hne:B≠vb:=by omega
   have hs':s=if bB La Lr = [] then none else some 39:=by
    rcases hs with ⟨h1,h2⟩|⟨h1,h2⟩
    ·rw [DL (by rw [<-List.length_eq_zero_iff,elen,h1];rfl),h2]
    ·rw [DM (fun e=>h1 (by rw [<-List.length_eq_zero_iff,<-elen,e];rfl)),h2]
   refine k0 hi _ B hB ?_ ?_ ?_
   ·unfold ad.set;rw [h6.cP n6 (h6.aO g6v),DM hne,h6.bg g6,esrt]
   ·unfold ad.set;rw [h6.cP n6 (h6.aO g6v),DL rfl,ev,elen,hs']
   ·intro c hc hcv;unfold ad.set;rw [h6.cP n6 (h6.aO g6v),DM hcv,k6.getB c (ED hc Og.next) (by omega),Og.getB c hc (fun h=>h)]
theorem c25:cC prog 21 s25:=by
 refine cC.of_bodyW CM_sound (uy CM_sound) ky is25 ?_ ?_ ?_
 ·intro args h v h' e;obtain ⟨vb,va,La,vr,Lr,x,⟨_,e⟩|⟨_,e⟩⟩:=sU e
  ·cases e;exact bC.refl _
  ·cases e;exact ⟨by rw [jT];omega,rfl,rfl⟩
 ·intro args h v h' e _ hh;obtain ⟨vb,va,La,vr,Lr,x,⟨_,e⟩|⟨hi,e⟩⟩:=sU e
  ·cases e;exact ⟨rfl,hh⟩
  ·cases e;refine ⟨rfl,?_⟩;have vl:qE (La++Lr):=fun r hr=>by
    rcases D9.1 hr with h1|h1
    ·exact x.vld r h1
    ·exact ⟨x.new.2.1 r h1,nE hi r h1⟩
   have hw:=(qB vl).1;generalize bB La Lr=R at *;refine ⟨fun b k hk => ?_,fun b o ho => ?_⟩
   ·have hk:=ad.bg _ hk;rw [qN R x.n0 x.get] at hk;rw [jT];split at hk
    ·cases hk;exact dV (zO fun r hr=>(hw r hr).1)
    ·split at hk
     ·cases hk;simp only [cL,DV];exact slice_bd _ _ _ _ (by omega)
     ·exact bS (by omega) (hh b k (h.get_of_getB hk))
   ·rw [qN R x.n0 x.get] at ho;rw [jT];split at ho
    ·cases ho
    ·split at ho
     ·cases ho
     ·exact yH (by omega) (hh.obj b o ho)
 ·intro args h v h' e _ hh hg;obtain ⟨vb,va,La,vr,Lr,x,hc⟩:=sU e;have ea:=x.args;subst ea;have hG:4<=h.n0:=by rw [<-kJ];exact hg
  refine body25 x hG hh ?_ ?_
  ·intro hi g o;rcases hc with ⟨_,e⟩|⟨h1,_⟩
   ·cases e;exact ⟨id,Gc.none rfl hh fun b k h1 h2=>(o.getB b (h.lt_of_getB h2) (fun h=>h)).trans h2⟩
   ·rw [hi] at h1;cases h1
  ·intro hi g B hB gB gv go;rcases hc with ⟨h1,_⟩|⟨_,e⟩
   ·rw [hi] at h1;cases h1
   ·cases e;have vl:qE (La++Lr):=fun r hr=>by
     rcases D9.1 hr with h1|h1
     ·exact x.vld r h1
     ·exact ⟨x.new.2.1 r h1,nE hi r h1⟩
    have hw:=(qB vl).1;have vlt:=h.aO x.get;generalize bB La Lr=R at *;refine ⟨Ao h.next B,⟨fun b hb => ?_,fun b h1 h2 => ?_,fun b b' h1 h2 h3 h4 _ => ?_,rfl,fun b k h1 hk => ?_⟩⟩
    ·unfold Ao;rw [DM (by omega)]
    ·rw [jT] at h2;unfold Ao;rw [DL (by omega)];exact hB
    ·rw [jT] at h2 h4;omega
    ·rw [qN R x.n0 x.get] at hk;split at hk
     ·rename_i e;cases hk;have h2:Ao h.next B b=B:=by unfold Ao;rw [DL e]
      rw [h2,gB];show _=some (BB.cells (nQ _ _));rw [lz (n:=0) (fun b hb=>absurd hb (E0 b)) _ (dV (zO fun r hr=>(hw r hr).1))]
     ·rename_i e;have h2:Ao h.next B b=b:=by unfold Ao;rw [DM e]
      rw [h2];split at hk
      ·rename_i e2;cases hk;subst e2;rw [gv];show _=some (BB.cells [eI _ _]);have : ∀ s:Option Nat,eI (Ao h.next B) (.slice (some ⟨h.next,0,s⟩) R.length R.length) = .slice (some ⟨B,0,s⟩) R.length R.length:=fun s=>by cases s<;>simp [eI,Ao]
       rw [this]
      ·rename_i e2;have hlt:=h.lt_of_getB hk;rw [go b hlt e2,hk,renB_id (n:=h.next) (fun c hc=>by unfold Ao;rw [DM (by omega)]) (hh.bb hk)]
end Go.Proofs.YtdnahgfgoajmcaaGreatDoor
namespace Go.Proofs.YtdnahgfgoajmcaaGreatDoor
open Go Go.Abs Tryz
open Go.Lib (compareBytes)
open Go.ChangeShapes Go.WideShapes Go.ChangeAt Go.RowKit
section
theorem list_pick {α:Type} {n:Nat} {P:Nat->α->Prop} (h : ∀ i,i<n -> ∃ a,P i a) : ∃ l:List α,l.length=n /\ ∀ i (hi:i<l.length),P i l[i]:=by
 induction n with
 |zero=>exact ⟨[],rfl,fun i hi=>absurd hi (E0 i)⟩
 |succ n ih=>
  obtain ⟨l,hl,hp⟩:=ih fun i hi=>h i (by omega)
  obtain ⟨a,ha⟩:=h n (by omega);refine ⟨l ++ [a],by simp [hl],fun i hi => ?_⟩;rw [DH,List.length_singleton] at hi;by_cases h1:i<l.length
  ·rw [FP h1];exact hp i h1
  ·have h2:i=l.length:=by omega
   subst h2;rw [FW (DF _)];simp only [H4,List.getElem_cons_zero];rw [hl];exact ha
section
variable {H:Type} {enc:TypeId×Value->H} {W:World} {bN:Nat} {held:Bool}
end
end
end Go.Proofs.YtdnahgfgoajmcaaGreatDoor
namespace Go.Proofs.YtdnahgfgoajmcaaGreatDoor
open Go Go.Abs Tryz
open Go.Lib (compareBytes)
attribute [local congr] aq
theorem is33:bP prog 19 f19:=by constructor<;>kernel_rfl
theorem is57:bP prog 40 f40:=by constructor<;>kernel_rfl
theorem is23:bP prog 13 f13:=by constructor<;>kernel_rfl
theorem is19:bP prog 12 f12:=by constructor<;>kernel_rfl
theorem r33 {h:ad} (hG:4<=h.n0):CW 19 [] h=some (ptr h.next 0,h.alloc [.slice none 0 0]):=by have e1:ei [.slice none 0 0] []=some (.agg #[.slice none 0 0]):=rfl;have e2:box (.agg #[.slice none 0 0]) h=some (ptr h.next 0,h.alloc [.slice none 0 0]):=rfl;refine aD is33 hG rfl ((t33_eq _ _).trans ?_);unfold t33;simp -implicitDefEqProofs only [e1,e2,ae,af]
theorem nilS22 (c:Nat) (a:Addr) (n:Nat):aC prog .eql 22 (.slice (some a) n c) (.slice none 0 0)=some (.bool false):=by kernel_rfl
theorem nilT22:aC prog .eql 22 (.slice none 0 0) (.slice none 0 0)=some (.bool true):=by kernel_rfl
def dv (v:Value):Prop:=v = .slice none 0 0 \/ ∃ a n c,v = .slice (some a) n c/\n<=c /\ ∀ t,a.spot=some t->t=39
theorem r57 {h:ad} (hG:4<=h.n0) {v:Value} {L:List ao} (x:eD h v L) (hn:dv v) (hl:L.length<=1000000) : ∃ v' h',CW 40 [v] h=some (v',h')/\aA h h'/\jK h' v' L:=by
 rcases hn with rfl|⟨a,n,c,rfl,_⟩
 ·refine ⟨.slice none 0 0,h,aD is57 hG rfl ((Cf _ _ _).trans ?_),az.refl _ _,x.rsl⟩;unfold t57;simp -implicitDefEqProofs only [nilT22,ae,af]
 ·obtain ⟨v',h',e,o,r,g⟩:=app_recs x hl;have b0:cg 39 (.agg gI) 0 [] h=some (.slice (some ⟨h.next,0,none⟩) 0 0,h.alloc []):=rfl;refine ⟨v',h',aD is57 hG rfl ((Cf _ _ _).trans ?_),o,r⟩;unfold t57;simp -implicitDefEqProofs only [nilS22,b0,e,ae,af]
theorem r23 {h:ad} (hG:4<=h.n0) {vb:Nat} {va:Value} {L:List ao} (gv:h.get vb=some [va]) (x:eD h va L) (hn:dv va) (hl:L.length<=1000000) : ∃ v' h',CW 13 [ptr vb 0] h=some (v',h')/\aA h h'/\jK h' v' L:=by obtain ⟨v',h',e,o,r⟩:=r57 hG x hn hl;have l1:ld1 (ptr vb 0) h=some (va,h):=aU gv rfl (by rcases hn with rfl|⟨a,n,c,rfl,_⟩<;>rfl);have nc:nilCheckA (ptr vb 0)=some (ptr vb 0):=rfl;refine ⟨v',h',aD is23 hG rfl ((t23_eq _ _ _).trans ?_),o,r⟩;unfold t23;simp -implicitDefEqProofs only [kF,nc,ay,DG,l1,e,ae,af]
theorem nq58 {a b:ao} (wa:a.Wf) (wb:b.Wf):aC prog .neq 66 (cY a) (cY b)=some (.bool (!(decide (a=b)))):=by
 obtain ⟨r,h1,_,h3⟩:=eq58 _ _ (cA wa) (cA wb);have:r=decide (a=b):=by
  by_cases e:a=b
  ·rw [DA e,h1.2 (by rw [e])]
  ·rw [DB e];cases r with
   |false=>rfl
   |true=>exact absurd (tE wa.obj.1 wb.obj.1 (h1.1 rfl)) e
 rw [h3,this]
theorem nq3 (a b:Nat):aC prog .neq 3 (ak a) (ak b)=some (.bool (!(decide (a=b)))):=by
 rw [aZ]
 congr 2
 by_cases e:a=b
 ·subst e;simp
 ·have:(a:Int)≠b:=by omega
  simp [e,this]
theorem results19:f12.results.toList = [.tmp 4]:=by kernel_rfl
theorem b19_6e (C:aj) (e:aW) (h:ad):b19_6 C 0 e h=k19_4 C e h:=rfl
set_option maxRecDepth 100000 in
theorem r19 {h:ad} (hG:4<=h.n0) {v w:Value} {A B:List ao} (hv:jK h v A) (hw:jK h w B) (hl:A.length<=1000000):CW 12 [v,w] h=some (.bool (decide (A=B)),h):=by
 have la:=hv.len;have lb:=hw.len;refine aD is19 hG rfl ((t19_eq _ _ _ _).trans ?_);unfold t19;simp -implicitDefEqProofs only [la,lb,nq3,ae,af];by_cases e:A.length=B.length
 ·simp -implicitDefEqProofs only [DA e,DP];refine bq (n:=26) (fin:=fun ex y g=>g=h/\((ex = .exit 0/\A=B)\/(ex = .ret/\A≠B/\y 4 = .bool false))) (Q:=fun o:aS=>o=some (.bool (decide (A=B)),h))
   (bk (wW CW) (Inv:=fun k y g => ∃ i,i+k=A.length/\y 0=v/\y 1=w/\y 5=ak i/\g=h/\A.take i=B.take i) ?_ A.length (by have:aB=18446744073709551616:=rfl;omega) ⟨0,by omega,rfl,rfl,rfl,rfl,rfl⟩) ?_
  ·rintro k y g ⟨i,hik,y0,y1,y5,rfl,ht⟩;unfold oj;simp -implicitDefEqProofs only [y0,y5,la,eK,ae,af];by_cases hi:i<A.length
   ·have hi2:i<B.length:=by omega
    obtain ⟨b,o,ix,wr,mr,lp⟩:=hv.at hi;obtain ⟨b',o',ix',wr',mr',lp'⟩:=hw.at hi2;have eA:A.getD i ao.z=A[i]:=by rw [DK,DC hi];rfl
    have eB:B.getD i ao.z=B[i]:=by rw [DK,DC hi2];rfl
    have L1:=lp g (az.refl _ _);have L2:=lp' g (az.refl _ _);simp -implicitDefEqProofs only [DA hi, y1, ix, ix', L1, L2, nq58 wr wr', ae, af];by_cases hab:A.getD i ao.z=B.getD i ao.z
    ·have a5:aC prog .add 3 (ak i) (.int .i64 1)=some (ak (i+1)):=dh (by omega);simp -implicitDefEqProofs only [DA hab,DP,a5,ae,af];refine cR.next (k-1) (by omega) ⟨i+1,by omega,y0,y1,rfl,rfl,?_⟩;rw [ES hi,ES hi2,ht,<-eA,<-eB,hab]
    ·simp -implicitDefEqProofs only [DB hab, DN];refine cR.ret ⟨rfl,.inr ⟨rfl,fun q=>hab (by rw [q]),rfl⟩⟩
   ·have hiE:i=A.length:=by omega
    simp -implicitDefEqProofs only [DB hi];refine cR.out 0 ⟨rfl,.inl ⟨rfl,?_⟩⟩;rw [D1 (by omega),D1 (by omega)] at ht;exact ht
  ·rintro ex z g ⟨rfl,⟨rfl,q⟩|⟨rfl,q,z4⟩⟩
   ·simp -implicitDefEqProofs only [aV,b19_6e,t19k19_4_eq];unfold yd;rw [DA q];rfl
   ·rw [fq,cE,gu results19 (by decide),z4,DB q]
 ·simp -implicitDefEqProofs only [DB e, DN];rw [DB (fun q=>e (by rw [q]))]
theorem gtrN (a b:Nat):aC prog .gtr 3 (ak a) (ak b)=some (.bool (decide (b<a))):=by
 rw [bD]
 congr 2
 by_cases e:b<a
 ·rw [DA e,DA (by omega)]
 ·rw [DB e,DB (by omega)]
theorem jo (a:Nat) (n:Int) (b:Nat) (e:n=b):aC prog .gtr 3 (ak a) (.int .i64 n)=some (.bool (decide (b<a))):=by subst e;exact gtrN a b
theorem leq3 (a:Nat) (n:Int) (b:Nat) (e:n=b):aC prog .leq 3 (ak a) (.int .i64 n)=some (.bool (decide (a<=b))):=by
 subst e;rw [show aC prog .leq 3 (ak a) (.int .i64 (b:Int))=some (.bool (decide ((a:Int)<=b))) by rw [dZ];simp [jP]]
 congr 2
 by_cases e:a<=b
 ·rw [DA e,DA (by omega)]
 ·rw [DB e,DB (by omega)]
theorem u8_eqn (n k:Nat):((n:Int)==k)=decide (n=k):=by
 by_cases h:n=k
 ·subst h;simp
 ·rw [DB h,II];omega
theorem endN_n {α:Type} (e:aW) (h:ad) (n r:aW->ad->Option α) (x:Nat->aW->ad->Option α):endN (some (.normal,e,h)) n r x=n e h:=rfl
theorem zE {v:Value} (h:dv v):dX v=false:=by rcases h with rfl|⟨a,n,c,rfl,_⟩<;>rfl
theorem eqI (a b:Int):aC prog .eql 3 (.int .i64 a) (.int .i64 b)=some (.bool (decide (a=b))):=by rw [bA];rfl
end Go.Proofs.YtdnahgfgoajmcaaGreatDoor
namespace Go.Proofs.YtdnahgfgoajmcaaGreatDoor
open Go Go.Abs Tryz
open Go.Lib (compareBytes)
def lexI:List Int->List Int->Int
 |x::a,y::b=>if x<y then -1 else if y<x then 1 else lexI a b
 |_,_=>0
theorem lexI_neg : ∀ a b:List Int,lexI b a = - lexI a b
 | [],[]=>rfl
 | [],_::_=>rfl
 |_::_,[]=>rfl
 |x::a,y::b=>by
  unfold lexI;by_cases h1:x<y
  ·have h2 : ¬y<x:=by omega
   simp [h1,h2]
  ·by_cases h2:y<x
   ·simp [h1,h2]
   ·simp only [h1,h2,D3];exact lexI_neg a b
theorem zK : ∀ a b c:List Int,a.length=b.length->b.length=c.length->lexI a b<=0->lexI b c<=0->lexI a c<=0
 | [],_,_,_,_,_,_=>by unfold lexI;exact Int.le_refl _
 |x::a,[],_,h,_,_,_=>by cases h
 |x::a,y::b,[],_,h,_,_=>by cases h
 |x::a,y::b,z::c,l1,l2,h1,h2=>by
  unfold lexI at h1 h2 |-;by_cases e1:x<y
  ·by_cases e2:y<z
   ·rw [DL (by omega)];decide
   ·rw [DM e2] at h2;by_cases e3:z<y
    ·rw [DL e3] at h2;omega
    ·rw [DL (by omega)];decide
  ·rw [DM e1] at h1;by_cases e4:y<x
   ·rw [DL e4] at h1;omega
   ·rw [DM e4] at h1;by_cases e2:y<z
    ·rw [DL (by omega)];decide
    ·rw [DM e2] at h2;by_cases e3:z<y
     ·rw [DL e3] at h2;omega
     ·rw [DM e3] at h2;rw [DM (by omega),DM (by omega)];exact zK a b c (by simpa using l1) (by simpa using l2) h1 h2
theorem lexI_eq : ∀ a b:List Int,a.length=b.length->lexI a b=0->a=b
 | [],[],_,_=>rfl
 | [],_::_,h,_=>by cases h
 |_::_,[],h,_=>by cases h
 |x::a,y::b,l,h=>by
  unfold lexI at h;by_cases e1:x<y
  ·rw [DL e1] at h;omega
  ·rw [DM e1] at h;by_cases e2:y<x
   ·rw [DL e2] at h;omega
   ·rw [DM e2] at h;rw [lexI_eq a b (by simpa using l) h,show x=y by omega]
def Ay (r:ao):List Int := [r.gO,r.oG,if r.held then 1 else 0,r.k,r.n]
theorem pq (a b:ao):oe a b=lexI (Ay a) (Ay b):=by
 have key : ∀ (x y z:Int),(if fH x y=0 then z else fH x y)=if x<y then -1 else if y<x then 1 else z:=by
  intro x y z;unfold fH;by_cases h1:x<y
  ·simp [h1]
  ·by_cases h2:y<x
   ·simp [h1,h2]
   ·simp [h1,h2]
 have hh:(if a.held=b.held then (0:Int) else if a.held then 1 else -1)=fH (if a.held then 1 else 0) (if b.held then 1 else 0):=by unfold fH;cases a.held<;>cases b.held<;>simp
 unfold oe;rw [hh];unfold Ay;simp only [orL,key,lexI]
theorem te (a b:ao):oe b a = - oe a b:=by rw [pq,pq,lexI_neg]
theorem cmpR_trans {a b c:ao} (h1:oe a b<=0) (h2:oe b c<=0):oe a c<=0:=by rw [pq] at *;exact zK (Ay a) (Ay b) (Ay c) (by rfl) (by rfl) h1 h2
theorem cmpR_self (a:ao):oe a a=0:=by have:=te a a;omega
theorem cmpR_eq {a b:ao} (hp:kU a b=true) (h:oe a b=0):a=b:=by
 rw [pq] at h;have e:=lexI_eq (Ay a) (Ay b) (by rfl) h;unfold Ay at e;simp only [GD,JE] at e;obtain ⟨e1,e2,e3,e4,e5⟩:=e;obtain ⟨p1,p2,p3⟩:=gJ.1 hp;have e6:a.held=b.held:=by cases h1:a.held<;>cases h2:b.held<;>rw [h1,h2] at e3<;>first|rfl|(simp at e3)
 exact ao.ext p1 p2 p3 (by omega) (by omega) e6 e4 e5
theorem cmpR_inc {a b:ao} (h:oe a b<=0):a.gO<=b.gO:=by
 rw [pq] at h;unfold Ay lexI at h;by_cases h1:(a.gO:Int)<b.gO
 ·omega
 ·rw [DM h1] at h;by_cases h2:(b.gO:Int)<a.gO
  ·rw [DL h2] at h;omega
  ·omega
def Br (L:List ao) (x:ao):Prop:=x∈L /\ ∀ y∈L,kU x y=true->oe y x<=0
def Void (L:List ao) (x:ao):Prop:=x.kind=3/\((∃ y∈L,y.kind=2/\y.obj=x.obj) \/ ∃ y∈L,y.kind=1/\y.aN=x.aN/\x.gO<y.gO)
def Nf (L:List ao) (x:ao):Prop:=Br L x /\ ¬Void L x
structure MOf (P M:List ao):Prop where
 dist:jv M
 sub : ∀ x∈M,x∈P
 cov : ∀ y∈P,∃ z∈M,kU y z=true/\oe y z<=0
theorem jv.eq {M:List ao} (d:jv M) {x y:ao} (hx:x∈M) (hy:y∈M) (h:kU x y=true):x=y:=by
 unfold jv at d;rw [G0] at d;obtain ⟨i,hi,rfl⟩:=E5.1 hx;obtain ⟨j,hj,rfl⟩:=E5.1 hy;rcases Nat.lt_trichotomy i j with h1|h1|h1
 ·rw [d i j hi hj h1] at h;cases h
 ·subst h1;rfl
 ·rw [eO,d j i hj hi h1] at h;cases h
theorem MOf.mem {P M:List ao} (m:MOf P M) (x:ao):x∈M↔Br P x:=by
 constructor
 ·intro hx;refine ⟨m.sub x hx,fun y hy h => ?_⟩;obtain ⟨z,hz,h1,h2⟩:=m.cov y hy;have:x=z:=m.dist.eq hx hz (iW h h1);rw [this];exact h2
 ·rintro ⟨h1,h2⟩;obtain ⟨z,hz,h3,h4⟩:=m.cov x h1;have h5:=h2 z (m.sub z hz) h3;have h6:=te x z;have:x=z:=cmpR_eq h3 (by omega);rw [this];exact hz
theorem yy {r:ao} {M:List ao} (h:mG r M=none) : ∀ x∈M,kU r x=false:=by unfold mG at h;rw [List.find?_eq_none] at h;intro x hx;have:=h x hx;simpa using this
theorem zu {M:List ao} {r x:ao} (d:jv M):x∈putM M r↔(x∈M/\kU r x=false)\/x=r:=by
 unfold putM;cases h:idx r M with
 |none=>
  have hn:=nY h;rw [D9,EH];constructor
  ·rintro (h1|h1)
   ·exact .inl ⟨h1,hn x h1⟩
   ·exact .inr h1
  ·rintro (h1|h1)
   ·exact .inl h1.1
   ·exact .inr h1
 |some i=>
  obtain ⟨hi,ha,_⟩:=mY h;constructor
  ·intro hx;obtain ⟨j,hj,rfl⟩:=E5.1 hx;rw [List.getElem_set];split
   ·exact .inr rfl
   ·rename_i hne;have hj':j<M.length:=by simpa using hj
    refine .inl ⟨EA hj',?_⟩;cases e:kU r M[j] with
    |false=>rfl
    |true=>
     have hd:=d;unfold jv at hd;rw [G0] at hd;have h3:kU M[i] M[j]=true:=iW (by rw [eO];exact ha) e;rcases Nat.lt_or_gt_of_ne hne with h1|h1
     ·rw [hd i j hi hj' h1] at h3;cases h3
     ·rw [eO,hd j i hj' hi h1] at h3;cases h3
  ·rintro (⟨h1,h2⟩|rfl)
   ·obtain ⟨j,hj,rfl⟩:=E5.1 h1;have hne:i≠j:=fun e=>by subst e;rw [ha] at h2;cases h2
    exact E5.2 ⟨j,by simpa using hj,by show (M.set i r)[j]'_=M[j];rw [List.getElem_set,DM hne]⟩
   ·exact E5.2 ⟨i,by simpa using hi,by show (M.set i x)[i]'_=x;rw [List.getElem_set_self]⟩
theorem MOf.step {P M:List ao} (m:MOf P M) (r:ao):MOf (P ++ [r]) (dY M r):=by
 have hneg:=fun a b=>te a b;unfold dY;split
 ·rename_i hn;refine ⟨Bp m.dist r,fun x hx => ?_,fun y hy => ?_⟩
  ·rcases putM_mem hx with h|rfl
   ·exact I9 _ (m.sub x h)
   ·exact IY _ ER
  ·rcases D9.1 hy with h|h
   ·obtain ⟨z,hz,h1,h2⟩:=m.cov y h;cases e:kU r z with
    |false=>exact ⟨z,(zu m.dist).2 (.inl ⟨hz,e⟩),h1,h2⟩
    |true=>
     refine ⟨r,(zu m.dist).2 (.inr rfl),iW h1 (by rw [eO];exact e),?_⟩;cases hf:mG r M with
     |none=>rw [yy hf z hz] at e;cases e
     |some q=>
      have hq:=qd hf;have:q=z:=m.dist.eq hq.1 hz (iW (by rw [eO];exact hq.2) e);subst this;unfold tk at hn;rw [hf] at hn;simp only [Option.isSome_some,DP,Option.getD_some,EI,DR] at hn;have h5:=hneg r q;exact cmpR_trans h2 (by omega)
   ·rw [EH.1 h];exact ⟨r,(zu m.dist).2 (.inr rfl),atB_self r,by rw [cmpR_self];exact Int.le_refl _⟩
 ·rename_i hn;refine ⟨m.dist,fun x hx=>I9 _ (m.sub x hx),fun y hy => ?_⟩;rcases D9.1 hy with h|h
  ·exact m.cov y h
  ·rw [EH.1 h];cases hf:mG r M with
   |none=>exact absurd (by unfold tk;rw [hf];rfl) hn
   |some q=>
    have hq:=qd hf;refine ⟨q,hq.1,hq.2,?_⟩;unfold tk at hn;rw [hf] at hn;simp only [Option.isSome_some,DP,Option.getD_some,EI,DR] at hn;omega
theorem mof_fold : ∀ (L P M:List ao),MOf P M->MOf (P++L) (L.foldl dY M)
 | [],P,M,m=>by rw [EN];exact m
 |r::L,P,M,m=>by have:=mof_fold L (P ++ [r]) (dY M r) (m.step r);rw [EC] at this;exact this
theorem zx (L:List ao):MOf L (dz L):=by
 have:=mof_fold L [] [] ⟨.nil,(fun _ h=>by cases h),(fun _ h=>by cases h)⟩
 rwa [List.nil_append] at this
theorem newest_mem (L:List ao) (x:ao):x∈dz L↔Br L x:=(zx L).mem x
theorem keep_iff {L:List ao} (v:qE L) (x:ao):gf (dz L) x=true ↔ ¬Void L x:=by
 have m:=zx L;have hg:(mG (iB x.obj) (dz L)).isSome=true ↔ ∃ y∈L,y.kind=2/\y.obj=x.obj:=by
  constructor
  ·intro h;obtain ⟨q,hq⟩:=FQ.1 h;obtain ⟨h1,h2⟩:=qd hq;obtain ⟨e1,e2,_⟩:=gJ.1 h2;exact ⟨q,m.sub q h1,e1.symm,e2.symm⟩
  ·rintro ⟨y,hy,h1,h2⟩;obtain ⟨z,hz,h3,_⟩:=m.cov y hy;have hh:y.aN=0:=by
    rcases rD (v y hy).2 with h|h|h
    ·omega
    ·rw [h.2];rfl
    ·omega
   cases hf:mG (iB x.obj) (dz L) with
   |some q=>rfl
   |none=>
    have:=yy hf z hz;rw [show kU (iB x.obj) z=true from iW (b:=y) (gJ.2 ⟨h1.symm,h2.symm,hh.symm⟩) h3] at this;cases this
 have hb:x.gO<((mG (pL x.aN) (dz L)).getD ao.z).gO ↔ ∃ y∈L,y.kind=1/\y.aN=x.aN/\x.gO<y.gO:=by
  constructor
  ·intro h;cases hf:mG (pL x.aN) (dz L) with
   |none=>
    rw [hf] at h;exact absurd h (E0 _)
   |some q=>
    rw [hf] at h;obtain ⟨h1,h2⟩:=qd hf;obtain ⟨e1,_,e3⟩:=gJ.1 h2;exact ⟨q,m.sub q h1,e1.symm,e3.symm,h⟩
  ·rintro ⟨y,hy,h1,h2,h3⟩;obtain ⟨z,hz,h4,h5⟩:=m.cov y hy;have ho:y.obj=z32:=by
    rcases rD (v y hy).2 with h|h|h
    ·rw [h.2.1];rfl
    ·omega
    ·omega
   have h6:kU (pL x.aN) z=true:=iW (b:=y) (gJ.2 ⟨h1.symm,ho.symm,h2.symm⟩) h4;cases hf:mG (pL x.aN) (dz L) with
   |none=>rw [yy hf z hz] at h6;cases h6
   |some q=>
    obtain ⟨q1,q2⟩:=qd hf;have:q=z:=m.dist.eq q1 hz (iW (by rw [eO];exact q2) h6);subst this;have:=cmpR_inc h5;exact ED h3 this
 unfold gf Void;rw [FK,<-Bool.not_eq_true,DJ,FH,DR,DR,hg,hb]
theorem merged_mem {A B:List ao} (v:qE (A++B)) (x:ao):x∈bB A B↔Nf (A++B) x:=by show x∈qY _↔_;rw [(fV _).mem_iff,EW,newest_mem,keep_iff v];exact Iff.rfl
theorem KS.ext {A B:List ao} (ha:KS A) (hb:KS B) (h : ∀ x,x∈A↔x∈B):A=B:=by
 have nd : ∀ {L:List ao},KS L->L.Nodup:=fun {L} k=>by refine List.Pairwise.imp (fun {a b} hh e => ?_) k;subst e;have:fp a a=0:=Go.Proofs.YtdnahgfgoajmcaaGreatDoor.CK _;omega
 exact ha.zn hb ((IC (nd ha) (nd hb)).2 h)
end Go.Proofs.YtdnahgfgoajmcaaGreatDoor
namespace Go.Proofs.YtdnahgfgoajmcaaGreatDoor
open Go Go.Abs Tryz
open Go.Lib (compareBytes)
attribute [local congr] aq
noncomputable abbrev YV:aj:=callL [(21,s25)]
abbrev SV:List Nat := [5,7,15,35,12,18,32,39,13,14,8,63,25,19,23,20,41,42,33,40,34,28,27,30,61,64,65,66,67,68,10,11,38]
theorem YV_sound:bp prog YV:=lC _ (by intro p hp;simp only [FJ,F5,IL] at hp;subst hp;exact c25)
noncomputable def CV:aj:=CC2 prog XX YV SV
theorem Cm {f:FuncId} (hf:f≠21) (args:List Value) (h:ad):YV f args h=none:=by show (if f=21 then s25 args h else none)=none;rw [DM hf]
theorem iy {f:FuncId} {args:List Value} {h:ad} {r:Value×ad} (hS:SV.contains f=true) (hf:f≠21) (e:CW f args h=some r):CV f args h=some r:=CC2_up hS (Cm hf _ _) e
theorem iv {f:FuncId} {fn:Func} (i:bP prog f fn) {args:List Value} {h:ad} {r:Value×ad} (hg:4<=h.n0) (hS:SV.contains f=false) (hf:f≠21) (e:ba prog CV fn args h=some r):CV f args h=some r:=
 CC2_body i (by rw [kJ];exact hg) hS (Cm hf _ _) e
theorem ne_len {h:ad} {b c:Nat} {k:iM} {w:Value} (e:h.get b=some k) (hc:h.get c=some [w]) (hl:k.length≠1):b≠c:=fun q=>by subst q;rw [e] at hc;cases hc;exact hl rfl
theorem eD.keepC {h h':ad} {v w:Value} {P:List ao} {c:Nat} (x:eD h v P) (k:az h h' (· = c)) (hc:h.get c=some [w]):eD h' v P:=by obtain ⟨hd,a,d,rfl,hn,ht,h0⟩:=x;refine ⟨hd,a,d,rfl,hn,ht,fun hp => ?_⟩;obtain ⟨b,off,s,q,rfl,hk,hlen,hcs⟩:=h0 hp;rw [show gX.length=39 from rfl] at hlen;exact ⟨b,off,s,q,rfl,k.getE hk (ne_len hk hc (by omega)),by rw [show gX.length=39 from rfl];exact hlen,hcs⟩
structure zW (h:ad) (vb:Nat) (L:List ao):Prop where
 n0:h.n0<=vb
 ex : ∃ va,h.get vb=some [va]/\eD h va L/\dv va
 vld:qE L
 ks:KS L
theorem zW.cell {h:ad} {vb:Nat} {L:List ao} (x:zW h vb L) : ∃ w,h.get vb=some [w]:=by obtain ⟨va,h1,_⟩:=x.ex;exact ⟨va,h1⟩
theorem zW.old {h h':ad} {vb:Nat} {L:List ao} (x:zW h vb L) (o:aA h h'):zW h' vb L:=by obtain ⟨va,h1,h2,h3⟩:=x.ex;exact ⟨by rw [o.n0];exact x.n0,⟨va,aA.get o h1,h2.mono o,h3⟩,x.vld,x.ks⟩
theorem dJ {P:List ao} (hd : ∀ p∈P,ao.Wf p):uE gX P.length (bj P):=by refine ⟨cf hd,fun i hi => ?_⟩;rw [show gX.length=39 from rfl,jW hd hi];refine cA (hd _ ?_);rw [DK,DC hi];exact EA hi
theorem eD.xW {h:ad} {b n c:Nat} {s:Option Nat} {P:List ao} (hd : ∀ p∈P,ao.Wf p) (hn:n=P.length) (hg:h.get b=some (bj P)):eD h (.slice (some ⟨b,0,s⟩) n c) P:=by
 subst hn;have hl:=cf hd;refine ⟨hd,some ⟨b,0,s⟩,c,rfl,(fun h=>by cases h),dJ hd,fun _=>⟨b,0,s,bj P,rfl,hg,?_,?_⟩⟩
 ·rw [show gX.length=39 from rfl,hl,DG];exact DF _
 ·rw [show gX.length=39 from rfl,EJ,<-hl,E9]
theorem cy.zY {h:ad} {N:Nat} {v:Value} {L:List ao} (x:cy h N v L):eD h v L:=by obtain ⟨hw,b,s,rfl,h1,_⟩:=x;exact eD.xW hw rfl h1
theorem r25B {h:ad} {vb:Nat} {v:Value} {L R:List ao} (I:zW h vb L) (x:jK h v R) (vr : ∀ r∈R,de r=true) (hL:L.length<=500000) (hR:R.length<=500000) :
  ∃ h',CV 21 [ptr vb 0,v] h=some (.int .i64 0,h')/\zW h' vb (bB L R)/\az h h' (· = vb) /\ ∀ va b,h'.get vb=some [va]->slB va=some b->b=h.next:=by
 obtain ⟨va,gv,ra,na⟩:=I.ex;have ok:yN [ptr vb 0,v] h vb va L v R:=⟨rfl,I.n0,gv,ra.rsl,x,I.vld,hL,hR⟩
 have hi:gz R=false:=by unfold gz;rw [F7];intro r hr;rw [vr r hr];decide
 have e:=s25_eq ok;rw [DM (by rw [hi];exact HW)] at e;have vl:qE (L++R):=fun r hr=>by
  rcases D9.1 hr with h1|h1
  ·exact I.vld r h1
  ·exact ⟨x.2.1 r h1,vr r h1⟩
 obtain ⟨wv,wk⟩:=qB vl;generalize bB L R=M at *;have vlt:=h.aO gv;have gB:=qN (h:=h) M I.n0 gv;have k:az h (Cl h vb M) (· = vb):=⟨rfl,by rw [jT];omega,fun c hc hn=>by rw [gB,DM (by omega),DM hn]⟩
 have g1:(Cl h vb M).get vb=some [.slice (some ⟨h.next,0,if M = [] then none else some 39⟩) M.length M.length]:=ad.get_of_getB _ (by rw [gB,DM (by omega),DL rfl]);have g2:(Cl h vb M).get h.next=some (bj M):=ad.get_of_getB _ (by rw [gB,DL rfl]);refine ⟨_,uT e,⟨I.n0,⟨_,g1,eD.xW (fun r hr=>(wv r hr).1) rfl g2,.inr ⟨_,_,_,rfl,DF _,fun t e=>by
  have e:(if M = [] then none else some 39)=some t:=e;split at e
  ·cases e
  ·exact (HM e).symm⟩⟩,wv,wk⟩,k,fun va' b' e1 e2 => ?_⟩
 rw [g1] at e1;cases e1;cases hM:M.length with
 |zero=>rw [hM] at e2;cases e2
 |succ n=>rw [hM] at e2;cases e2;rfl
theorem r25 {h:ad} {vb:Nat} {v:Value} {L R:List ao} (I:zW h vb L) (x:jK h v R) (vr : ∀ r∈R,de r=true) (hL:L.length<=500000) (hR:R.length<=500000) :
  ∃ h',CV 21 [ptr vb 0,v] h=some (.int .i64 0,h')/\zW h' vb (bB L R)/\az h h' (· = vb):=by
 obtain ⟨h',e,i,k,_⟩:=r25B I x vr hL hR;exact ⟨h',e,i,k⟩
theorem eD.keepS {h h':ad} {v:Value} {P:List ao} {c:Nat} (x:eD h v P) (k:az h h' (· = c)) (hc:slB v≠some c):eD h' v P:=by
 obtain ⟨hd,a,d,rfl,hn,ht,h0⟩:=x;refine ⟨hd,a,d,rfl,hn,ht,fun hp => ?_⟩;obtain ⟨b,off,s,q,rfl,hk,hlen,hcs⟩:=h0 hp;refine ⟨b,off,s,q,rfl,k.getE hk (fun e=>hc ?_),hlen,hcs⟩;have e:b=c:=e;cases hP:P.length with
 |zero=>rw [hP] at hp;exact absurd hp (F9 0)
 |succ n=>rw [e];rfl
theorem cy.Bx {h:ad} {N:Nat} {v w:Value} {L P:List ao} (x:cy h N v L) (y:eD h w P) (h0:h.n0<=N) (hN:N<=h.next) (hl:L.length<=1000000) (hp:P.length<=1000000) :
  ∃ v' h',appendA 39 88 v w h=some (v',h')/\cy h' N v' (L++P)/\az h h' (· = rlB v)/\(rlB v'=rlB v\/rlB v'=h.next):=by
 obtain ⟨hw,b,s,rfl,g1,g2,g3⟩:=x;obtain ⟨hd,a,c,rfl,hn,ht,hy⟩:=y;by_cases hz:P.length=0
 ·have hP:P = []:=DU.1 hz;subst hP;refine ⟨.slice (some ⟨b,0,s⟩) L.length L.length,h,?_,by rw [EN];exact ⟨hw,b,s,rfl,g1,g2,g3⟩,az.refl _ _,.inl rfl⟩;have hf:firstA 39 0 (.slice a 0 c) h=some []:=by
   unfold firstA;cases a with
   |none=>rfl
   |some a=>obtain ⟨b',off,s'⟩:=a;rfl
  unfold appendA;simp only [List.length_nil,ie,hf];rw [DM (by simp [aJ];omega),DL (by omega),DL trivial]
 ·obtain ⟨b',off,s',k,rfl,hk,hlen,hcs⟩:=hy (by omega);rw [show gX.length=39 from rfl] at hlen hcs;have cr:=kR hd;have lp:=cf hd;have lc:=cf hw;have ok:=kR hw;have hw' : ∀ q∈L++P,ao.Wf q:=fun q hq=>by
   rcases D9.1 hq with h1|h1
   ·exact hw q h1
   ·exact hd q h1
  have lT:(L++P).length=L.length+P.length:=DH;have hne:L++P ≠ []:=fun e=>by have:=FZ List.length e;rw [lT,List.length_nil] at this;omega
  have hf:firstA 39 P.length (.slice (some ⟨b',off,s'⟩) P.length c) h=some (bj P):=by unfold firstA;simp only;rw [DM (by omega),hk];simp only;rw [hcs,DL ⟨hlen,cr.1⟩]
  have hcond:(!(aJ (bj P)) || !(decide ((L.length+P.length)*88<=140737488355328)) || !(decide (L.length+P.length<=4611686018427387904))||decide ((bj P).length≠P.length*39))=false:=by rw [cr.2,DA (by omega:(L.length+P.length)*88<=140737488355328),DA (by omega:L.length+P.length<=4611686018427387904),DB (by rw [lp];simp)];rfl
  have hfo:firstA 39 L.length (.slice (some ⟨b,0,s⟩) L.length L.length) h=some (bj L):=by
   unfold firstA;simp only;by_cases hz2:L.length*39=0
   ·rw [DL hz2];rw [DU.1 (by omega:L.length=0)];rfl
   ·have e:((bj L).drop 0).take (L.length*39)=bj L:=by rw [EJ,D1 (by omega)]
    rw [DM hz2,g1];simp only;rw [e,DL ⟨by omega,ok.1⟩]
  have fin : ∀ g:ad,N<=g.next->cy (g.alloc (bj L++bj P)) N (.slice (some ⟨g.next,0,some 39⟩) (L.length+P.length) (L.length+P.length)) (L++P):=fun g hg=>
   ⟨hw',g.next,some 39,by rw [lT],by rw [ad.aF,DL rfl,gx],hg,.inr ⟨hne,rfl⟩⟩
  rcases g3 with ⟨_,rfl⟩|⟨_,rfl⟩
  ·refine ⟨.slice (some ⟨h.next,0,some 39⟩) (L.length+P.length) (L.length+P.length),h.alloc (bj L++bj P),?_,fin h hN,az.alloc _ _ _,.inr rfl⟩;unfold appendA;simp only [ie,hf];rw [DM (by rw [hcond];decide),DM (by omega)];simp only [hfo];rw [DM (by omega)]
  ·refine ⟨.slice (some ⟨h.next,0,some 39⟩) (L.length+P.length) (L.length+P.length),(h.kill b).alloc (bj L++bj P),?_,fin (h.kill b) hN,?_,.inr rfl⟩
   ·unfold appendA;simp only [ie,hf];rw [DM (by rw [hcond];decide),DM (by omega)];simp only [hfo];rw [DM (by omega),DL (by rw [g1];simp;omega)]
   ·refine ⟨rfl,by simp,fun q hq hb => ?_⟩;rw [ad.cF,ad.gh,DM (by omega)];unfold ad.kill;rw [h.cP (by omega) (h.aO g1),DM (show ¬q=b from hb)]
theorem jK.rd {h:ad} {v:Value} {L:List ao} (x:jK h v L) {j:Nat} (hj:j<L.length) : ∃ b o,idxS 39 v (ak j)=some (ptr b o)/\L[j].Wf /\ ∀ g:ad,aA h g->cx 39 (ptr b o) g=some (cY L[j],g):=by
 obtain ⟨b,o,ix,wr,_,lp⟩:=x.at hj;have e:L.getD j ao.z=L[j]:=by rw [DK,DC hj];rfl
 rw [e] at wr lp;exact ⟨b,o,ix,wr,lp⟩
theorem yE {α:Type} {L:List α} {i:Nat} (hi:i<L.length) (p:α->Bool):(L.take (i+1)).any p=((L.take i).any p||p L[i]):=by rw [ES hi,List.any_append];simp
theorem bt:(aR (.bool true)==some true)=true:=rfl
theorem vU:(aR (.bool true)==some false)=false:=rfl
theorem bf:(aR (.bool false)==some false)=true:=rfl
theorem sP:(aR (.bool false)==some true)=false:=rfl
theorem bu:(aR undef==some false)=false:=rfl
theorem bu':(aR undef==some true)=false:=rfl
theorem eq56 (n:Nat):aC prog .eql 64 (.int .u8 (n:Int)) (.int .u8 3)=some (.bool (decide (n=3))):=by rw [bA,u8_eq3]
theorem chkJ (r:aS) (v:Value):bF false r v=true:=rfl
def gK:Value->Option Nat
 | .slice (some ⟨b,_,_⟩) _ _=>some b
 |_=>none
structure eZ (z:Nat) (h:ad) (N:Nat) (v:Value) (n:Nat) (cs:List Value):Prop where
 len:cs.length=n*z
 hol:Abs.noHoles cs=true
 one:aJ cs=true
 form:(n=0/\v = .slice none 0 0) \/ ∃ b s,v = .slice (some ⟨b,0,s⟩) n n/\h.get b=some cs/\N<=b/\((n=0/\s=none)\/(0<n/\s=some z))
theorem eZ.nil (z:Nat) (h:ad) (N:Nat):eZ z h N (.slice none 0 0) 0 []:=⟨by simp,rfl,rfl,.inl ⟨rfl,rfl⟩⟩
theorem eZ.old {z:Nat} {h h':ad} {N:Nat} {v:Value} {n:Nat} {cs:List Value} (x:eZ z h N v n cs) (o:aA h h'):eZ z h' N v n cs:=by
 refine ⟨x.len,x.hol,x.one,?_⟩;rcases x.form with f|⟨b,s,e,g,f⟩
 ·exact .inl f
 ·exact .inr ⟨b,s,e,aA.get o g,f⟩
theorem eZ.lenL {z:Nat} {h:ad} {N:Nat} {v:Value} {n:Nat} {cs:List Value} (x:eZ z h N v n cs):Abs.lenL v=some (ak n):=by rcases x.form with ⟨rfl,rfl⟩|⟨b,s,rfl,_⟩<;>rfl
theorem eZ.blk {z:Nat} {h:ad} {N:Nat} {v:Value} {n:Nat} {cs:List Value} (x:eZ z h N v n cs) {b:Nat} (e:gK v=some b):N<=b/\b<h.next:=by
 rcases x.form with ⟨_,rfl⟩|⟨b',s,rfl,g,hN,_⟩
 ·cases e
 ·cases e;exact ⟨hN,h.aO g⟩
theorem eZ.push {z oC:Nat} {h:ad} {N c:Nat} {v:Value} {n:Nat} {cs e:List Value} (x:eZ z h N v n cs) (hz:0<z) (hb:oC<=1000) (h0:h.n0<=N) (hN:N<=h.next) (hl:n<=1000000) (he:e.length=z) (ho:Abs.noHoles e=true) (h1:aJ e=true) (hc:h.get c=some e) :
  ∃ v' h',appendA z oC v (.slice (some ⟨c,0,none⟩) 1 1) h=some (v',h')/\eZ z h' N v' (n+1) (cs++e)/\az h h' (fun b=>gK v=some b):=by
 have hlen:=x.len;have hf:firstA z 1 (.slice (some ⟨c,0,none⟩) 1 1) h=some e:=by
  have e1:(e.drop 0).take (1*z)=e:=by rw [EJ,Nat.one_mul,D1 (by omega)]
  unfold firstA;simp only;rw [DM (by omega),hc];simp only;rw [e1,DL ⟨by omega,ho⟩]
 have hcond:(!(aJ e) || !(decide ((n+1)*oC<=140737488355328)) || !(decide (n+1<=4611686018427387904))||decide (e.length≠1*z))=false:=by have h5:(n+1)*oC<=1000001*1000:=Nat.mul_le_mul (by omega) hb;rw [h1,DA (by omega:(n+1)*oC<=140737488355328),DA (by omega:n+1<=4611686018427387904),DB (by omega)];rfl
 have hlen':(cs++e).length=(n+1)*z:=by rw [DH,hlen,he,GY,Nat.one_mul]
 have hol':Abs.noHoles (cs++e)=true:=by have h2:=x.hol;unfold Abs.noHoles at *;rw [E6,h2,ho];rfl
 have one':aJ (cs++e)=true:=by have h2:=x.one;unfold aJ at *;rw [E6,h2,h1];rfl
 have fin : ∀ g:ad,N<=g.next->eZ z (g.alloc (cs++e)) N (.slice (some ⟨g.next,0,some z⟩) (n+1) (n+1)) (n+1) (cs++e):=fun g hg=>
  ⟨hlen',hol',one',.inr ⟨g.next,some z,rfl,by rw [ad.aF,DL rfl],hg,.inr ⟨by omega,rfl⟩⟩⟩
 rcases x.form with ⟨rfl,rfl⟩|⟨b,s,rfl,g1,g2,g3⟩
 ·have hcs:cs = []:=GB (by rw [hlen,GK]);subst hcs;refine ⟨.slice (some ⟨h.next,0,some z⟩) 1 1,h.alloc ([]++e),?_,fin h hN,az.alloc _ _ _⟩;unfold appendA;simp only [ie,hf];rw [DM (by rw [hcond];decide),DM (by decide)];rfl
 ·have hfo:firstA z n (.slice (some ⟨b,0,s⟩) n n) h=some cs:=by
   unfold firstA;simp only;by_cases hz2:n*z=0
   ·rw [DL hz2,GB (by omega:cs.length=0)]
   ·have e2:(cs.drop 0).take (n*z)=cs:=by rw [EJ,D1 (by omega)]
    rw [DM hz2,g1];simp only;rw [e2,DL ⟨by omega,x.hol⟩]
  rcases g3 with ⟨_,rfl⟩|⟨_,rfl⟩
  ·refine ⟨.slice (some ⟨h.next,0,some z⟩) (n+1) (n+1),h.alloc (cs++e),?_,fin h hN,az.alloc _ _ _⟩;unfold appendA;simp only [ie,hf];rw [DM (by rw [hcond];decide),DM (by omega)];simp only [hfo];rw [DM (by omega)]
  ·refine ⟨.slice (some ⟨h.next,0,some z⟩) (n+1) (n+1),(h.kill b).alloc (cs++e),?_,fin (h.kill b) hN,?_⟩
   ·unfold appendA;simp only [ie,hf];rw [DM (by rw [hcond];decide),DM (by omega)];simp only [hfo];rw [DM (by omega),DL (by rw [g1];simp;omega)]
   ·refine ⟨rfl,by simp,fun q hq hb => ?_⟩;rw [ad.cF,ad.gh,DM (by omega)];unfold ad.kill;rw [h.cP (by omega) (h.aO g1),DM (fun e=>hb (by rw [e];rfl))]
theorem pD (n k:Nat) (m:Int) (e:m=k):aC prog .eql 64 (.int .u8 (n:Int)) (.int .u8 m)=some (.bool (decide (n=k))):=by subst e;rw [bA,u8_eqn]
theorem res_two {rs:List ResultVar} {n j k:Nat} (hr:rs = [.tmp j,.tmp k]) (hj:j<n) (hk:k<n) (x:Nat->Value) (h:ad):resultsA prog rs (aL n x) h=some (.tuple #[x j,x k],h):=by subst hr;simp only [resultsA,GO,List.mapM_nil,fj,mT hj,mT hk];rfl
theorem eZ.keep {z:Nat} {h h':ad} {N:Nat} {v:Value} {n:Nat} {cs:List Value} (x:eZ z h N v n cs) {B:Nat->Prop} (k:az h h' B) (hB : ∀ b,gK v=some b -> ¬B b):eZ z h' N v n cs:=by
 refine ⟨x.len,x.hol,x.one,?_⟩;rcases x.form with f|⟨b,s,rfl,g,f⟩
 ·exact .inl f
 ·exact .inr ⟨b,s,rfl,k.getE g (hB b rfl),f⟩
theorem eZ.wform {z:Nat} {h:ad} {N:Nat} {v:Value} {n:Nat} {cs:List Value} (x:eZ z h N v n cs):v = .slice none 0 0 \/ ∃ b s n,v = .slice (some ⟨b,0,s⟩) n n:=by
 rcases x.form with ⟨_,f⟩|⟨b,s,f,_⟩
 ·exact .inl f
 ·exact .inr ⟨b,s,n,f⟩
theorem nqD35 {a b:List Nat} (wa:ic a) (wb:ic b):aC prog .neq 36 (.agg (aY a).toArray) (.agg (aY b).toArray)=some (.bool (!(decide (a=b)))):=by
 obtain ⟨r,hr,hrun⟩:=tD (d:=9998) (cH wa) (cH wb);have hr':r=decide (a=b):=by
  by_cases e:a=b
  ·rw [DA e,hr.2 (by rw [e])]
  ·rw [DB e];cases r with
   |false=>rfl
   |true=>exact absurd (tv (hr.1 rfl)) e
 rw [<-hr'];exact (xg (by kernel_rfl) (dy (cH wa).all.2.2) (dy (cH wb).all.2.2) hrun).2
theorem eZ.weak {z:Nat} {h:ad} {N M:Nat} {v:Value} {n:Nat} {cs:List Value} (x:eZ z h N v n cs) (hm:M<=N):eZ z h M v n cs:=by
 refine ⟨x.len,x.hol,x.one,?_⟩;rcases x.form with f|⟨b,s,f1,f2,f3,f4⟩
 ·exact .inl f
 ·exact .inr ⟨b,s,f1,f2,D5 hm f3,f4⟩
theorem is111:bP prog 78 f78:=by constructor<;>kernel_rfl
theorem is112:bP prog 79 f79:=by constructor<;>kernel_rfl
theorem is56:bP prog 44 f44:=by constructor<;>kernel_rfl
theorem b111_3e (C:aj) (e:aW) (h:ad):b111_3 C 0 e h=k111_2 C e h:=rfl
theorem shr111 (i:Nat):aC prog .shr 120 (.int .u64 (i:Int)) (.int .u64 1)=some (.int .u64 ((i/2:Nat):Int)):=ez prog 120 (k := .u64) (k' := .u64) (b:=1) (by decide)
theorem add33 {i j:Nat} (h:i+j<=10000000):aC prog .add 3 (ak i) (ak j)=some (ak (i+j)):=by
 unfold ak;rw [lN,wrap_i64 (by omega) (by omega)]
 congr 2
theorem cvU {i:Nat} (h:i<=10000000) (g:ad):jC .u64 (ak i) g=some (.int .u64 (i:Int),g):=by
 unfold ak;rw [du]
 congr 3
 show ((i:Int)%18446744073709551616)=_;omega
theorem cvN {i:Nat} (h:i<=10000000) (g:ad):jC .i64 (.int .u64 (i:Int)) g=some (ak i,g):=by unfold ak;rw [du,wrap_i64 (by omega) (by omega)]
set_option maxRecDepth 100000 in
theorem r111 {h:ad} (hG:4<=h.n0) {fv:Value} {n:Nat} (hn:n<=1000000) (p:Nat->Bool) (hp : ∀ i,i<n -> ∀ g,aA h g -> ∃ g',callA prog CW fv [ak i] g=some (.bool (p i),g')/\aA g g') (mono : ∀ i j,i<=j->j<n->p i=true->p j=true) :
  ∃ k h',CW 78 [ak n,fv] h=some (ak k,h')/\aA h h'/\k<=n/\(∀ i,i<k->p i=false) /\ ∀ i,k<=i->i<n->p i=true:=by
 have key : ∃ q:aS,t111 CW (ak n) fv h=q /\ ∃ k h',q=some (ak k,h')/\aA h h'/\k<=n/\(∀ i,i<k->p i=false) /\ ∀ i,k<=i->i<n->p i=true:=by
  refine ⟨_,rfl,?_⟩;unfold t111;simp -implicitDefEqProofs only [ae];refine bq (n:=26) (fin:=fun ex y g=>ex = .exit 0/\aA h g /\ ∃ k,y 5=ak k/\k<=n/\(∀ i,i<k->p i=false) /\ ∀ i,k<=i->i<n->p i=true)
   (Q:=fun q:aS => ∃ k h',q=some (ak k,h')/\aA h h'/\k<=n/\(∀ i,i<k->p i=false) /\ ∀ i,k<=i->i<n->p i=true)
   (bk (vp CW) (Inv:=fun k y g => ∃ i j,i+k=j/\j<=n/\y 1=fv/\y 5=ak i/\y 6=ak j/\aA h g/\(∀ a,a<i->p a=false) /\ ∀ a,j<=a->a<n->p a=true) ?_ n (by have:aB=18446744073709551616:=rfl;omega) ⟨0,n,by omega,DF _,rfl,rfl,rfl,az.refl _ _,fun a h=>absurd h (E0 a),fun a h1 h2=>by omega⟩) ?_
  ·rintro k y g ⟨i,j,hij,hjn,y1,y5,y6,Og,lo,hi⟩;unfold mi;simp -implicitDefEqProofs only [y5,y6,eK,ae,af];by_cases h1:i<j
   ·have hm1:i<=(i+j)/2:=by omega
    have hm2:(i+j)/2<j:=by omega
    obtain ⟨g',e,o⟩:=hp ((i+j)/2) (by omega) g Og;simp -implicitDefEqProofs only [DA h1,add33 (show i+j<=10000000 by omega),cvU (show i+j<=10000000 by omega),shr111,cvN (show (i+j)/2<=10000000 by omega),y1,e,aT,ae,af];cases hpm:p ((i+j)/2) with
    |true=>
     simp -implicitDefEqProofs only [DP];exact cR.next ((i+j)/2-i) (by omega) ⟨i,(i+j)/2,by omega,by omega,y1,y5,rfl,Og.trans o,lo,fun a h2 h3=>mono _ _ h2 h3 hpm⟩
    |false=>
     have a5:aC prog .add 3 (ak ((i+j)/2)) (.int .i64 1)=some (ak ((i+j)/2+1)):=dh (by omega);simp -implicitDefEqProofs only [DN,a5,ae,af];refine cR.next (j-((i+j)/2+1)) (by omega) ⟨(i+j)/2+1,j,by omega,hjn,y1,rfl,y6,Og.trans o,fun a ha => ?_,hi⟩;cases hpa:p a with
     |false=>rfl
     |true=>
      have:=mono a ((i+j)/2) (by omega) (by omega) hpa;rw [hpm] at this;cases this
   ·simp -implicitDefEqProofs only [DB h1];refine cR.out 0 ⟨rfl,Og,i,y5,by omega,lo,fun a h2 h3=>hi a (by omega) h3⟩
  ·rintro ex z g ⟨rfl,Og,k,z5,q1,q2,q3⟩;simp -implicitDefEqProofs only [aV,b111_3e,Ab];unfold rW;rw [z5];exact ⟨k,g,rfl,Og,q1,q2,q3⟩
 obtain ⟨q,e,k,h',e',oo⟩:=key;exact ⟨k,h',aD is111 hG rfl ((t111_eq _ _ _ _).trans (e.trans e')),oo⟩
def jF (r:ao) (l:List Nat):Int:=compareBytes (AE r) (l.map UInt8.ofNat)
theorem ge0 (n:Int):aC prog .geq 3 (.int .i64 n) (.int .i64 0)=some (.bool (decide (0<=n))):=by rw [bH]
theorem iu (g:ad) (a:Option Addr) (n c:Nat):bF true (some (.slice a n c,g)) (.slice a n c)=true:=by show (!true||sN (.slice a n c) (.slice a n c))=true;simp [sN]
theorem r112 {h:ad} (hG:4<=h.n0) {c2 c3 vb:Nat} {va:Value} {R:List ao} {a:Option Addr} {n c:Nat} {l:List Nat} (g2:h.get c2=some [ptr vb 0]) (gv:h.get vb=some [va]) (RS:jK h va R) (g3:h.get c3=some [.slice a n c]) (hk:av a n h=some l) {i:Nat} (hi:i<R.length) :
  ∃ h',CW 79 [ak i,ptr c2 0,ptr c3 0] h=some (.bool (decide (0<=jF R[i] l)),h')/\aA h h':=by
 obtain ⟨b,o,ix,wr,ld⟩:=RS.rd hi;obtain ⟨p,d,h1,e1,s1,o1⟩:=r67 hG wr;have e2:=r66 (h:=h1) (c:=d) (d:=c) (by rw [o1.n0];exact hG) s1 (aA.bytes o1 hk);have l2 : ∀ g,aA h g->ld1 (ptr c2 0) g=some (ptr vb 0,g):=fun g og=>aU (aA.get og g2) rfl rfl;have lv : ∀ g,aA h g->ld1 (ptr vb 0) g=some (va,g):=fun g og=>aU (aA.get og gv) rfl (by obtain ⟨⟨a,c,rfl⟩,_⟩:=RS;rfl);have l3 : ∀ g,aA h g->ld1 (ptr c3 0) g=some (.slice a n c,g):=fun g og=>aU (aA.get og g3) rfl rfl;refine ⟨h1,aD is112 hG rfl ((t112_eq _ _ _ _ _).trans ?_),o1⟩;unfold t112;simp -implicitDefEqProofs only [l2 h (az.refl _ _),bR,ay,DG,lv h (az.refl _ _),ix,ld h (az.refl _ _),e1,l3 h1 o1,e2,ge0,l3 h (az.refl _ _),iu,DV,ae,af];rfl
theorem call112 (x y z:Value) (h:ad):callA prog CW (.func (.func 79) #[] #[y,z]) [x] h=CW 79 [x,y,z] h:=by have hf:=EV fs_124;unfold callA;simp only;generalize prog.funcs.size=n at *;rw [DL (show (79:Nat)<n by omega)];rfl
theorem box_ptr (b o:Nat) (h:ad):box (ptr b o) h=some (ptr h.next 0,h.alloc [ptr b o]):=rfl
theorem box_sl (a:Option Addr) (n c:Nat) (h:ad):box (.slice a n c) h=some (ptr h.next 0,h.alloc [.slice a n c]):=rfl
theorem ks_lt {R:List ao} (ks:KS R) {i j:Nat} (hij:i<j) (hj:j<R.length):fp R[i] R[j]<0:=by have h:=ks;unfold KS at h;rw [G0] at h;exact h i j (by omega) hj hij
theorem cmpB_mono {a b:ao} {l:List Nat} (h:fp a b<0) (h1:0<=jF a l):0<=jF b l:=by
 unfold jF fp at *;have h2:=pO (AE a) (l.map UInt8.ofNat);have h3:=pO (AE b) (l.map UInt8.ofNat);have h4:=pO (AE a) (AE b);have:=qz (l.map UInt8.ofNat);by_cases h5:compareBytes (AE b) (l.map UInt8.ofNat)<0
 ·have:=tN _ _ _ h h5;omega
 ·omega
theorem r56 {h:ad} (hG:4<=h.n0) {vb:Nat} {va:Value} {R:List ao} (gv:h.get vb=some [va]) (RS:jK h va R) (ks:KS R) (hR:R.length<=1000000) {a:Option Addr} {n c:Nat} {l:List Nat} (hk:av a n h=some l) :
  ∃ k h',CW 44 [ptr vb 0,.slice a n c] h=some (ak k,h')/\aA h h'/\k<=R.length/\(∀ i,(hi:i<R.length)->i<k->jF R[i] l<0) /\ ∀ i,(hi:i<R.length)->k<=i->0<=jF R[i] l:=by
 have o1:aA h (h.alloc [ptr vb 0]):=az.alloc _ _ _;have b1:=box_ptr vb 0 h;have g1:(h.alloc [ptr vb 0]).get h.next=some [ptr vb 0]:=by rw [ad.aF,DL rfl]
 have n1:(h.alloc [ptr vb 0]).next=h.next+1:=rfl;generalize h.alloc [ptr vb 0]=h1 at *;have o2:aA h1 (h1.alloc [.slice a n c]):=az.alloc _ _ _;have b2:=box_sl a n c h1;have g2:(h1.alloc [.slice a n c]).get h1.next=some [.slice a n c]:=by rw [ad.aF,DL rfl]
 generalize h1.alloc [.slice a n c]=h2 at *;have O2:=o1.trans o2;have g1':=aA.get o2 g1;have gv':=aA.get O2 gv;have hll:=RS.len;have lv:ld1 (ptr vb 0) h2=some (va,h2):=aU gv' rfl (by obtain ⟨⟨a,c,rfl⟩,_⟩:=RS;rfl);have l1:ld1 (ptr h.next 0) h2=some (ptr vb 0,h2):=aU g1' rfl rfl;have hG2:4<=h2.n0:=by rw [O2.n0];exact hG
 obtain ⟨k,h3,e3,o3,hk1,hk2,hk3⟩:=r111 (h:=h2) hG2 (fv := .func (.func 79) #[] #[ptr h.next 0,ptr h1.next 0]) (n:=R.length) hR (fun i=>decide (0<=jF (R.getD i ao.z) l))
  (fun i hi g og=>by obtain ⟨g',e,o⟩:=r112 (h:=g) (by rw [og.n0];exact hG2) (aA.get og g1') (aA.get og gv') ((RS.mono O2).mono og) (aA.get og g2) (aA.bytes (O2.trans og) hk) hi;refine ⟨g',?_,o⟩;rw [call112,e,DK,DC hi];rfl)
  (fun i j hij hj hp=>by
   rcases Nat.eq_or_lt_of_le hij with rfl|hlt
   ·exact hp
   ·have hi:i<R.length:=by omega
    simp only [DK,DC hi,DC hj,Option.getD_some,DR] at hp |-;exact cmpB_mono (ks_lt ks hlt hj) hp)
 refine ⟨k,h3,aD is56 hG rfl ((t56_eq _ _ _ _).trans ?_),O2.trans o3,hk1,fun i hi hik => ?_,fun i hi hik => ?_⟩
 ·unfold t56;simp -implicitDefEqProofs only [b1,b2,l1,bR,ay,DG,lv,hll,e3,ae,af]
 ·have:=hk2 i hik;simp only [DK,DC hi,Option.getD_some,FM] at this;omega
 ·have:=hk3 i hik hi;simp only [DK,DC hi,Option.getD_some,DR] at this;exact this
end Go.Proofs.YtdnahgfgoajmcaaGreatDoor
