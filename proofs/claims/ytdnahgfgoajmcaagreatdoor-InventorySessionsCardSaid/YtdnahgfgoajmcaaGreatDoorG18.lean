/-
  A part of the proof, spaces and names shortened by a program (a claim may hold 1,500,000 bytes).
  Conditions: as each theorem states.
-/
import Derived.Test.YtdnahgfgoajmcaaGreatDoorG17
namespace Go.Proofs.YtdnahgfgoajmcaaGreatDoor
open Go Go.Abs Tryz
attribute [local congr] aw
def xT (r:av):List UInt8:=(dI r).map UInt8.ofNat
def gN (a b:av):Int:=Go.Lib.compareBytes (xT a) (xT b)
theorem Bo {a:Option Addr} {n c:Nat} {h:ai} {l:List Nat} (e:ax a n h=some l):bytesA (.slice a n c) h=some (l.map UInt8.ofNat):=by have hl:=(aH e).1;have hf:=jN e (DD n) (c:=c);rw [DX (by omega)] at hf;unfold bytesA;simp only [hf,Option.bind_some];exact wP
theorem is66:cx prog 51 f51:=by constructor<;>kernel_rfl
theorem is65:cx prog 50 f50:=by constructor<;>kernel_rfl
theorem r66 {h:ai} (hG:4<=h.n0) {a b:Option Addr} {n m c d:Nat} {x y:List Nat} (hx:ax a n h=some x) (hy:ax b m h=some y) :
  CW 51 [.slice a n c,.slice b m d] h=some (.int .i64 (Go.Lib.compareBytes (x.map UInt8.ofNat) (y.map UInt8.ofNat)),h):=by
 have e:CW 85 [.slice a n c,.slice b m d] h=some (.int .i64 (Go.Lib.compareBytes (x.map UInt8.ofNat) (y.map UInt8.ofNat)),h):=tv (by show cmpS [.slice a n c,.slice b m d] h=_;unfold cmpS;simp only [Bo hx,Bo hy])
 refine aL is66 hG rfl ((t66_eq _ _ _ _).trans ?_);unfold t66;simp -implicitDefEqProofs only [aj,e]
theorem r65 {h:ai} (hG:4<=h.n0) {a b:av} (wa:a.Wf) (wb:b.Wf) : ∃ h',CW 50 [.agg (bW a).toArray,.agg (bW b).toArray] h=some (.int .i64 (gN a b),h')/\aE h h':=by
 obtain ⟨h1,b1,o1,g1,n1⟩:=dS h wa;obtain ⟨h2,b2,o2,g2,n2⟩:=dS h1 wb;have ca:=aQ wa;have cb:=aQ wb;have LA : ∀ g,aE h2 g->du 39 (ptr h.next 0) g=some (.agg (bW a).toArray,g):=fun g o=>bj (aE.get o (o2.get g1)) ca.1 ca.2.1;have LB : ∀ g,aE h2 g->du 39 (ptr h1.next 0) g=some (.agg (bW b).toArray,g):=fun g o=>bj (aE.get o g2) cb.1 cb.2.1;have G2:4<=h2.n0:=by rw [o2.n0,o1.n0];exact hG
 obtain ⟨p,c,h3,e3,s3,o3⟩:=r67 G2 wa;have G3:4<=h3.n0:=by rw [o3.n0];exact G2
 obtain ⟨q,d,h4,e4,s4,o4⟩:=r67 G3 wb;have G4:4<=h4.n0:=by rw [o4.n0];exact G3
 have e5:=r66 (c:=c) (d:=d) G4 (o4.bytes s3) s4;refine ⟨h4,aL is65 hG rfl ((t65_eq _ _ _ _).trans ?_),((o1.trans o2).trans o3).trans o4⟩;have ck:cq true (some (.agg (bW b).toArray,h2)) (.agg (bW b).toArray)=true:=CX _ _ (cZ wb).kinds;unfold t65;simp -implicitDefEqProofs only [b1,b2,aj,LA h2 (az.refl _ _),e3,LB h3 o3,e4,e5,LB h2 (az.refl _ _),ck,GK];rfl
end Go.Proofs.YtdnahgfgoajmcaaGreatDoor
namespace Go.Proofs.YtdnahgfgoajmcaaGreatDoor
open Go Go.Abs Tryz
open Go.Lib (compareBytes)
theorem oN (x y:UInt8) (a b:List UInt8):compareBytes (x::a) (y::b)=if x.toNat<y.toNat then -1 else if y.toNat<x.toNat then 1 else compareBytes a b:=by
 conv=>lhs;unfold compareBytes
 simp only [UInt8.lt_iff_toNat_lt]
theorem tu : ∀ a:List UInt8,compareBytes a a=0
 | []=>rfl
 |x::a=>by rw [oN,DM (GH _),DM (GH _),tu a]
theorem uk : ∀ a b c:List UInt8,compareBytes a b<0->compareBytes b c<0->compareBytes a c<0
 | [],[],_,h,_=>absurd h (by decide)
 | [],_::_,[],_,h=>absurd h (by show ¬(1:Int)<0;decide)
 | [],_::_,_::_,_,_=>by show (-1:Int)<0;decide
 |_::_,[],_,h,_=>absurd h (by show ¬(1:Int)<0;decide)
 |_::_,_::_,[],_,h=>absurd h (by show ¬(1:Int)<0;decide)
 |x::a,y::b,z::c,h1,h2=>by
  rw [oN] at h1 h2 |-;by_cases e1:x.toNat<y.toNat
  ·by_cases e2:y.toNat<z.toNat
   ·rw [DL (by omega)];decide
   ·rw [DM e2] at h2;by_cases e3:z.toNat<y.toNat
    ·rw [DL e3] at h2;omega
    ·rw [DL (by omega)];decide
  ·rw [DM e1] at h1;by_cases e4:y.toNat<x.toNat
   ·rw [DL e4] at h1;omega
   ·rw [DM e4] at h1;by_cases e2:y.toNat<z.toNat
    ·rw [DL (by omega)];decide
    ·rw [DM e2] at h2;by_cases e3:z.toNat<y.toNat
     ·rw [DL e3] at h2;omega
     ·rw [DM e3] at h2;rw [DM (by omega),DM (by omega)];exact uk a b c h1 h2
theorem kV : ∀ a b c:List UInt8,¬compareBytes a b<0 -> ¬compareBytes b c<0 -> ¬compareBytes a c<0
 | [],[],[],_,_=>by decide
 | [],[],_::_,_,h=>absurd (by show (-1:Int)<0;decide) h
 | [],_::_,_,h,_=>absurd (by show (-1:Int)<0;decide) h
 |_::_,_,[],_,_=>by show ¬(1:Int)<0;decide
 |_::_,[],_::_,_,h=>absurd (by show (-1:Int)<0;decide) h
 |x::a,y::b,z::c,h1,h2=>by
  rw [oN] at h1 h2 |-;by_cases e1:x.toNat<y.toNat
  ·rw [DL e1] at h1;exact absurd (by decide) h1
  ·rw [DM e1] at h1;by_cases e2:y.toNat<z.toNat
   ·rw [DL e2] at h2;exact absurd (by decide) h2
   ·rw [DM e2] at h2;by_cases e4:y.toNat<x.toNat
    ·rw [DM (by omega),DL (by omega)];decide
    ·rw [DM e4] at h1;by_cases e3:z.toNat<y.toNat
     ·rw [DM (by omega),DL (by omega)];decide
     ·rw [DM e3] at h2;rw [DM (by omega),DM (by omega)];exact kV a b c h1 h2
theorem cb_eq : ∀ a b:List UInt8,compareBytes a b=0->a=b
 | [],[],_=>rfl
 | [],_::_,h=>absurd h (by show ¬(-1:Int)=0;decide)
 |_::_,[],h=>absurd h (by show ¬(1:Int)=0;decide)
 |x::a,y::b,h=>by
  rw [oN] at h;by_cases e1:x.toNat<y.toNat
  ·rw [DL e1] at h;omega
  ·rw [DM e1] at h;by_cases e2:y.toNat<x.toNat
   ·rw [DL e2] at h;omega
   ·rw [DM e2] at h;rw [cb_eq a b h,UInt8.toNat_inj.1 (show x.toNat=y.toNat by omega)]
abbrev nt:={ r:av // r.Wf }
instance:Inhabited nt:=⟨⟨av.z,av.z_wf⟩⟩
def fH (x:nt):List Value:=bW x.1
def cfW (x y:nt):Int:=gN x.1 y.1
theorem swoW:Go.Sort.SWO (Go.Proofs.ltOf cfW) where
 irrefl x:=by unfold Go.Proofs.ltOf cfW gN;rw [tu];rfl
 trans x y z h1 h2:=by unfold Go.Proofs.ltOf cfW gN at *;simp only [DS] at *;exact uk _ _ _ h1 h2
 ntrans x y z h1 h2:=by unfold Go.Proofs.ltOf cfW gN at *;simp only [FX] at *;exact kV _ _ _ h1 h2
theorem encW_len (x:nt):(fH x).length=39:=(aQ x.2).1
theorem encW_one (x:nt) : ∀ v∈fH x,v.oneCell'=true:=fun v hv=>by have:=(cZ x.2).all.2.1;unfold aM at this;rw [DR] at this;exact this v hv
end Go.Proofs.YtdnahgfgoajmcaaGreatDoor
namespace Go.Proofs.YtdnahgfgoajmcaaGreatDoor
open Go Go.Abs Tryz
open Go.Lib (compareBytes)
open Go.Sort (flatK size_flatK get_flatK)
noncomputable def vo (L:List nt):List nt:=(Go.Sort.pdq (Go.Proofs.ltOf cfW) L.toArray 0 L.length (Go.Lib.bitLen L.length) true true).toList
theorem zC (L:List nt):(vo L).Perm L/\(vo L).length=L.length /\ ∀ i j,i<j->(hj:j<L.length) -> ¬gN ((vo L)[j]!).1 ((vo L)[i]!).1<0:=by
 have hs:L.toArray.size=L.length:=FT ..;obtain ⟨⟨p1,p2,p3⟩,q⟩:=Go.Sort.pdq_sorts (Go.Proofs.ltOf cfW) swoW L.toArray 0 L.length (Go.Lib.bitLen L.length) true true (FN _) (by omega) (.inl rfl);refine ⟨?_,?_,?_⟩
 ·have e1 : ∀ d:Array nt,d.size=L.length->d.extract 0 L.length=d:=fun d hd=>by rw [<-hd];exact Array.extract_size ..
  rw [e1 _ (by omega),e1 _ hs] at p3;exact p3
 ·unfold vo;rw [Array.length_toList,p1,hs]
 ·intro i j hij hj;have:=q i j (FN _) hij hj;have h2 : ¬cfW ((Go.Sort.pdq (Go.Proofs.ltOf cfW) L.toArray 0 L.length (Go.Lib.bitLen L.length) true true)[j]!) ((Go.Sort.pdq (Go.Proofs.ltOf cfW) L.toArray 0 L.length (Go.Lib.bitLen L.length) true true)[i]!)<0:=of_decide_eq_false this;have e : ∀ (d:Array nt) (t:Nat),d.toList[t]! = d[t]! := fun d t=>by simp [List.getElem!_eq_getElem?_getD,Array.getElem!_eq_getD,Array.getD_eq_getD_getElem?]
  unfold vo;rw [e,e];exact h2
theorem BX : ∀ (L:List nt),L.flatMap fH=bA (L.map (·.1))
 | []=>rfl
 |x::L=>by have:=BX L;unfold bA at *;rw [E6,FR,E6,this];rfl
theorem xB (L:List nt) : ∀ p∈L.map (·.1),av.Wf p:=fun p hp=>by obtain ⟨x,_,rfl⟩:=E0.1 hp;exact x.2
theorem rj (L:List nt):(L.flatMap fH).length=L.length*39:=by rw [BX,dE (xB L),DY]
theorem zJ (L:List nt):(flatK fH 39 L.toArray).toList=L.flatMap fH:=by
 have hs:L.toArray.size=L.length:=FT ..;refine FU fun t => ?_;by_cases ht:t<L.length*39
 ·have hj:t/39<L.length:=by omega
  have e1:(flatK fH 39 L.toArray).toList[t]? = some ((fH L.toArray[t/39]!)[t%39]!):=by
   have h1:t<(flatK fH 39 L.toArray).size:=by rw [size_flatK,hs];exact ht
   rw [IE,GD h1,<-getElem!_pos (flatK fH 39 L.toArray) t h1,get_flatK _ _ _ _ (by rw [hs];exact ht)]
  rw [e1,BX];have g:=kO (xB L) (j:=t/39) (by rw [DY];exact hj);have e2:(bA (L.map (·.1)))[t]? = (bW ((L.map (·.1)).getD (t/39) av.z))[t%39]? := by
   rw [<-g,FK,DL (HN _ (by decide)),FL]
   congr 1
   omega
  rw [e2];have e3:L.toArray[t/39]! = L[t/39]:=by rw [JF L.toArray (t/39) (by omega)];simp
  have e4:(L.map (·.1)).getD (t/39) av.z=(L[t/39]).1:=by rw [DJ,EN,DB hj];rfl
  rw [e3,e4];have hl:t%39<(fH L[t/39]).length:=by rw [encW_len];exact HN _ (by decide)
  rw [JF (fH L[t/39]) (t%39) hl];exact (DB hl).symm
 ·rw [ET (by rw [Array.length_toList,size_flatK,hs];omega),ET (by rw [rj];omega)]
theorem oY (L:List nt):bI (L.flatMap fH)=true/\aM (L.flatMap fH)=true:=by
 constructor
 ·unfold bI;rw [DR];intro v hv;obtain ⟨x,_,hx⟩:=HO.1 hv;have:=(cZ x.2).all.2.2;unfold bI at this;rw [DR] at this;exact this v hx
 ·unfold aM;rw [DR];intro v hv;obtain ⟨x,_,hx⟩:=HO.1 hv;exact encW_one x v hx
def SortOk (args:List Value) (h:ai) (b:Nat) (L:List nt):Prop:=
 (∃ s,args = [.slice (some ⟨b,0,s⟩) L.length L.length,.func (.func 50) #[] #[]]/\(s=none\/(s=some 39/\L ≠ [])))/\h.n0<=b/\h.get b=some (L.flatMap fH)/\L.length<1099511627776
open Classical in
noncomputable def s64 (args:List Value) (h:ai):bc:=
 if x : ∃ b L,SortOk args h b L then some (.tuple #[],h.set x.choose ((vo x.choose_spec.choose).flatMap fH)) else none
theorem tZ {args:List Value} {h:ai} {r:Value×ai} (e:s64 args h=some r) : ∃ b L,SortOk args h b L/\r=(.tuple #[],h.set b ((vo L).flatMap fH)):=by
 unfold s64 at e;split at e
 ·rename_i x;cases e;exact ⟨_,_,x.choose_spec.choose_spec,rfl⟩
 ·cases e
theorem pdqL_len (L:List nt):(vo L).length=L.length:=(zC L).2.1
theorem enc_rel (μ:Mu) (x:nt):aI μ (.agg (fH x).toArray) (.agg (fH x).toArray):=by refine .agg rfl fun i a b ha hb => ?_;rw [ha] at hb;cases hb;have hf:=(cZ x.2).all.2.2;unfold bI at hf;rw [DR] at hf;exact .flat (hf a (E3 (by rw [HU] at ha;exact ha)))
theorem cmp_plain (W:World) (hg:prog.globals.size<=W.heap.size) (x y:nt) :
  Calls prog 50 (#[.agg (fH x).toArray,.agg (fH y).toArray] ++ #[]) W fun e w'=>e = .returned (.int .i64 (cfW x y)) /\ ∃ q os',w'=Go.Sort.grow (W.drewN q) os':=by
 obtain ⟨h',e,_⟩:=r65 (h:=dx W (view W)) (by rw [<-lD];exact hg) x.2 y.2;have hb : ∀ x:nt,cz W.heap.size (.agg (fH x).toArray)=true:=fun x=>by rw [je];exact eD (cZ x.2).all.2.2
 exact cQ.call_plain (cQ.of_CC lZ yi is65) is65.fB is65.name (by kernel_rfl) [.agg (fH x).toArray,.agg (fH y).toArray] W hg (dY.2 (by
  intro v hv;simp only [FQ,GO,JG] at hv;rcases hv with rfl|rfl
  ·exact hb x
  ·exact hb y)) (.cons (enc_rel _ x) (.cons (enc_rel _ y) (.nil _))) _ rfl ⟨h',e⟩
theorem c64:cQ prog 49 s64:=by
 refine ⟨?_,?_,?_,?_⟩
 ·exact EY (by kernel_rfl)
 ·intro args h v h' e;obtain ⟨b,L,_,e2⟩:=tZ e;cases e2;exact ⟨DD _,rfl,rfl⟩
 ·intro args h v h' e hb hh;obtain ⟨b,L,⟨_,h0,hg,_⟩,e2⟩:=tZ e;cases e2;refine ⟨rfl,?_⟩;exact hh.rK (x:=some (.cells _)) h0 (h.aO hg) (fun k hk=>by cases hk;exact eD (oY _).1) (fun o ho=>by cases ho)
 ·intro args h v h' e hba hbh hg μ w args' S hf r;obtain ⟨b,L,⟨⟨s,ha,hs⟩,h0,hgb,hsz⟩,e2⟩:=tZ e;cases e2;subst ha;obtain ⟨Lc,arr,T,fr,m1,m2,m3,m4,m5,m6,m7,m8⟩:=S.new b _ h0 hgb;have hl:(L.flatMap fH).length=L.length*39:=rj L;have hd:(flatK fH 39 L.toArray).size=L.length*39:=by rw [size_flatK];simp
  have hin:Lc.off+L.length*39<=arr.size:=by rw [m4,<-hl,<-m2];exact m5
  have harr:((arr.toList.drop Lc.off).take Lc.len)=L.flatMap fH:=m8.bM (oY L).1;have hcell : ∀ j,j<L.length*39->arr[Lc.off+j]? = some (flatK fH 39 L.toArray)[j]! := by
   intro j hj;have e1:(L.flatMap fH)[j]? = some (flatK fH 39 L.toArray)[j]! := by rw [<-zJ,IE,GD (by rw [hd];exact hj),JF _ j (by rw [hd];exact hj)]
   rw [<-harr,FK,DL (by rw [m2,hl];exact hj),FL,IE] at e1;exact e1
  have hW:Go.Sort.HoldsK fH 39 w Lc.blk Lc.off L.toArray:=by
   intro j hj;rw [hd] at hj;refine ⟨?_,?_⟩
   ·unfold World.cell?;rw [m3];exact hcell j hj
   ·unfold World.frozen?;rw [m3];obtain ⟨lo,hi⟩:=fr;show (decide (lo<=Lc.off+j)&&decide (Lc.off+j<hi))=false;rcases m6 with m6|m6
    ·have m6:lo=hi:=m6;simp only [ID,FX];omega
    ·have m6:arr.size<=lo:=m6;simp only [ID,FX];omega
  have hblk:Lc.blk<w.heap.size:=(DT.1 m3).1;have hlays:Go.Proofs.CmpLays prog 50 #[] fH 39 cfW Lc.blk Lc.off L.toArray.size w:=by intro m os dk _ x y;exact cmp_plain _ (D7 (D7 hg S.size) (Go.Proofs.size_sortWorldK_c ..)) x y
  have key : ∀ cap,Calls prog 49 #[.slice (some ⟨Lc.blk,Lc.off,none⟩) L.length cap,.func (.func 50) #[] #[]] w (nN μ h w (.tuple #[]) (h.set b ((vo L).flatMap fH))):=by
   intro cap;have q:=Go.Proofs.AnyQ.slices_SortFunc_eq sortL 39 (fun w=>by kernel_rfl) (fun w=>by kernel_rfl) fH encW_len encW_one cfW swoW 50 #[] Lc.blk Lc.off cap L.toArray w (Go.Proofs.enters_of is65.fB is65.name (Option.some_get is65.some_).symm) hlays hW hblk (by rw [FT];omega);rw [FT] at q;refine q.mono ?_;rintro e w' ⟨rfl,n,os,rfl⟩;have hp:(flatK fH 39 (Go.Sort.pdq (Go.Proofs.ltOf cfW) L.toArray 0 L.length (Go.Lib.bitLen L.length) true true)).toList=(vo L).flatMap fH:=by rw [<-zJ];rfl
   have hs2:(flatK fH 39 (Go.Sort.pdq (Go.Proofs.ltOf cfW) L.toArray 0 L.length (Go.Lib.bitLen L.length) true true)).size=(L.flatMap fH).length:=by rw [<-Array.length_toList,hp,rj,rj,pdqL_len]
   obtain ⟨s1,s2⟩:=sim_sorted prog S h0 hgb hs2 (by rw [hp];exact DR.1 (oY _).1) (by rw [hp];exact (oY _).2) (n:=n) (os:=os) m1;rw [hp] at s1 s2;exact ⟨μ,_,rfl,s1,s2,.tuple rfl (by intro i x y hx;simp at hx)⟩
  have hfin : ∀ cap,CG prog 49 #[.slice (some ⟨Lc.blk,Lc.off,none⟩) L.length cap,.func (.func 50) #[] #[]] w (nN μ h w (.tuple #[]) (h.set b ((vo L).flatMap fH))):=fun cap=>
   .inl ⟨f49,by kernel_rfl,by kernel_rfl,by kernel_rfl,key cap⟩
  obtain ⟨rl,rg⟩:=r
  match args',rl,rg with
  | [a',f'],_,rg=>
    have ra:=rg 0 _ _ rfl rfl;have rf:=rg 1 _ _ rfl rfl;have ef:f' = .func (.func 50) #[] #[]:=rf.bM rfl;subst ef;have ea : ∃ cap,a' = .slice (some ⟨Lc.blk,Lc.off,none⟩) L.length cap:=by
     generalize ev:Value.slice (some ⟨b,0,s⟩) L.length L.length=v at ra;cases ra with
     |flat hh=>subst ev;cases hh
     |slice hh=>cases ev;rw [m1] at hh;cases hh;exact ⟨_,rfl⟩
     |vx hh=>cases ev;rw [m1] at hh;cases hh;exact ⟨_,rfl⟩
     |jD hh=>
      injection ev with e1 e2 e3
      rcases hs with rfl|⟨_,hne⟩
      ·cases e1
      ·exact absurd (DW.1 e2) hne
     |zu=>
      injection ev with e1 e2 e3
      rcases hs with rfl|⟨_,hne⟩
      ·cases e1
      ·exact absurd (DW.1 e2) hne
     |_=>cases ev
    obtain ⟨cap,rfl⟩:=ea;exact hfin cap
end Go.Proofs.YtdnahgfgoajmcaaGreatDoor
namespace Go.Proofs.YtdnahgfgoajmcaaGreatDoor
open Go Go.Abs Tryz
open Go.Lib (compareBytes)
theorem map98:mapT prog 91=some (94,66):=by kernel_rfl
theorem zero58:kF prog 66=some (.agg (bW av.z).toArray):=by kernel_rfl
abbrev uc (r:av):Value := .agg (xy r).toArray
abbrev dW (r:av):Value := .agg (bW r).toArray
theorem eqA_pl {a b:av} (wa:a.Wf) (wb:b.Wf):eqA prog 94 (uc a) (uc b)=some (nD a b):=by
 obtain ⟨r,hr,hrun⟩:=xA (d:=9997) (dK wa.obj) (dK wb.obj);have l1:(bn a.obj).length=32:=by rw [DY];exact wa.obj.1
 have l2:(bn b.obj).length=32:=by rw [DY];exact wb.obj.1
 have hr':r=decide (a.obj=b.obj):=by
  by_cases e:a.obj=b.obj
  ·rw [DC e,hr.2 (by rw [e])]
  ·rw [DF e];cases r with
   |false=>rfl
   |true=>exact absurd (xl (hr.1 rfl)) e
 have hp:cf prog (Op.equalIn 10000 94 (.agg (xy a).toArray) (.agg (xy b).toArray))=some (nD a b):=by unfold xy;rw [uF (P:=prog) (d:=9999) Tryz.underlying94 (by kernel_rfl)];simp only [eqF];rw [DL (by decide),DL (by decide),DL (by decide)];rw [cE (v := .int .u8 (a.kind:Int)) Tryz.underlying64 rfl,cE (v := .int .u8 (b.kind:Int)) Tryz.underlying64 rfl,mu Tryz.underlying36 fI,mu Tryz.underlying36 fI,ud l1,ud l2];rw [cE (v := .int .i64 a.aU) Tryz.underlying3 (at_at l1),cE (v := .int .i64 b.aU) Tryz.underlying3 (at_at l2)];simp only [Option.bind_some,kR (d:=9998) Tryz.underlying64,kR (d:=9998) Tryz.underlying3,hrun,hr'];unfold nD;by_cases e1:a.kind=b.kind<;>by_cases e2:a.obj=b.obj<;>by_cases e3:a.aU=b.aU<;>simp [e1,e2,e3];all_goals omega
 unfold eqA;rw [DL (by rw [eV (lV wa).all.2.2,eV (lV wb).all.2.2];rfl)];exact hp
theorem fJ {a b:av}:nD a b=true↔a.kind=b.kind/\a.obj=b.obj/\a.aU=b.aU:=by unfold nD;simp []
theorem atC_of {a b:av} (h:nD a b=true):xy a=xy b:=by obtain ⟨h1,h2,h3⟩:=fJ.1 h;unfold xy;rw [h1,h2,h3]
theorem agg56:su prog 64=some false:=by kernel_rfl
theorem agg3:su prog 3=some false:=by kernel_rfl
theorem agg5:su prog 5=some false:=by kernel_rfl
theorem siz35:cS prog 36=some 32:=by kernel_rfl
theorem siz56:cS prog 64=some 1:=by kernel_rfl
theorem siz3:cS prog 3=some 1:=by kernel_rfl
theorem siz5:cS prog 5=some 1:=by kernel_rfl
theorem key_ok {r:av} (w:r.Wf):(keyOk prog 10000 94 (uc r)&&ground (uc r))=true:=by
 rw [show ground (uc r)=true from eV (lV w).all.2.2,D9];have l1:(bn r.obj).length=32:=by rw [DY];exact w.obj.1
 have hk : ∀ (n:Nat) (v:Value),keyOk prog (n+1) 64 v=true:=fun n v=>by unfold keyOk;simp only [Tryz.underlying64]
 have h3 : ∀ (n:Nat) (v:Value),keyOk prog (n+1) 3 v=true:=fun n v=>by unfold keyOk;simp only [Tryz.underlying3]
 have h5 : ∀ (n:Nat) (v:Value),keyOk prog (n+1) 5 v=true:=fun n v=>by unfold keyOk;simp only [Tryz.underlying5]
 have h35:keyOk prog 9999 36 (.agg (bn r.obj).toArray)=true:=by
  unfold keyOk;simp only [Tryz.underlying36,siz5];rw [DR];intro i hi;have hi:i<32:=by simpa using hi
  unfold j9;simp only [agg5,siz5,GF];rw [HU,DB (by omega)];exact h5 _ _
 have p1:j9 prog 64 (xy r).toArray 0=some (.int .u8 (r.kind:Int)):=by unfold j9;simp only [agg56,siz56];rfl
 have p2:j9 prog 36 (xy r).toArray 1=some (.agg (bn r.obj).toArray):=by unfold j9;simp only [kD,siz35];unfold xy;rw [ud l1]
 have p3:j9 prog 3 (xy r).toArray 33=some (.int .i64 r.aU):=by unfold j9;simp only [agg3,siz3];unfold xy;exact at_at l1
 unfold keyOk;simp only [Tryz.underlying94,List.all_cons,List.all_nil,p1,p2,p3,hk,h35,h3,GK]
theorem bits_self {l:List Value} (h : ∀ v∈l,∃ k:Kd,k.has v):Instr.sameBits 10000 (.agg l.toArray) (.agg l.toArray)=true:=by
 show (l.toArray.size==l.toArray.size&&(l.zip l).all fun (x,y)=>Instr.sameBits 9999 x y)=true;rw [EC,EM,DR];rintro ⟨x,y⟩ hm;have hxy:x=y/\x∈l:=by obtain ⟨i,hi⟩:=IP.1 hm;rw [IG] at hi;have h1:=hi.1;have h2:=hi.2;simp only at h1 h2;rw [h1] at h2;cases h2;exact ⟨rfl,E3 h1⟩
 obtain ⟨rfl,hx⟩:=hxy;obtain ⟨k,hk⟩:=h x hx;show Instr.sameBits 9999 x x=true;cases k with
 |u8=>obtain ⟨n,rfl,_⟩:=hk;simp [Instr.sameBits]
 |i k=>obtain ⟨n,rfl,_⟩:=hk;simp [Instr.sameBits]
 |b=>obtain ⟨t,rfl⟩:=hk;simp [Instr.sameBits]
def esOf:List av->Nat->List (Value×Value×Nat)
 | [],_ => []
 |r::M,i=>(uc r,dW r,i)::esOf M (i+1)
theorem esOf_len : ∀ (M:List av) (i:Nat),(esOf M i).length=M.length
 | [],_=>rfl
 |r::M,i=>by simp [esOf,esOf_len M]
theorem tz : ∀ (M:List av) (i j:Nat) (hj:j<M.length),(esOf M i)[j]? = some (uc M[j],dW M[j],i+j)
 |r::M,i,0,_=>rfl
 |r::M,i,j+1,hj=>by
  show (esOf M (i+1))[j]? = _;rw [tz M (i+1) j (by simpa using hj)];simp only [List.getElem_cons_succ]
  congr 3
  omega
theorem esOf_app : ∀ (M N:List av) (i:Nat),esOf (M++N) i=esOf M i++esOf N (i+M.length)
 | [],N,i=>by simp [esOf]
 |r::M,N,i=>by
  simp only [List.cons_append,esOf,esOf_app M N (i+1),List.length_cons]
  congr 3
  omega
def idx (r:av):List av->Option Nat
 | []=>none
 |x::M=>if nD r x=true then some 0 else (idx r M).map (· + 1)
def nx (r:av) (M:List av):Option av:=M.find? (nD r)
theorem nR {r:av} : ∀ {M:List av} {i:Nat},idx r M=some i -> ∃ hi:i<M.length,nD r M[i]=true/\nx r M=some M[i]
 | [],i,h=>by cases h
 |x::M,i,h=>by
  unfold idx at h;by_cases e:nD r x=true
  ·rw [DL e] at h;cases h;exact ⟨by simp,e,by unfold nx;rw [List.find?_cons_of_pos e];rfl⟩
  ·rw [DM e] at h;cases hq:idx r M with
   |none=>rw [hq] at h;cases h
   |some j=>
    rw [hq] at h;cases h;obtain ⟨hj,h1,h2⟩:=nR hq;refine ⟨by simpa using hj,by simpa using h1,?_⟩;unfold nx at h2 |-;rw [JH e,h2];simp
theorem yF {r:av} : ∀ {M:List av},idx r M=none->nx r M=none
 | [],_=>rfl
 |x::M,h=>by
  unfold idx at h;by_cases e:nD r x=true
  ·rw [DL e] at h;cases h
  ·rw [DM e] at h;have h2:idx r M=none:=by
    cases hq:idx r M with
    |none=>rfl
    |some j=>rw [hq] at h;cases h
   unfold nx;rw [JH e];exact yF h2
theorem xk {r:av} (w:r.Wf) : ∀ (M:List av) (i j:Nat),(∀ x∈M,x.Wf)->findA prog 94 (uc r) (esOf M i) j=some ((idx r M).map fun k=>(j+k,dW (M.getD k av.z)))
 | [],_,_,_=>rfl
 |x::M,i,j,h=>by
  unfold esOf findA idx;rw [eqA_pl w (h x ED)];cases e:nD r x with
  |true=>rfl
  |false=>
   simp only [DG,EF];rw [xk w M (i+1) (j+1) fun y hy=>h y (EI _ hy)];cases idx r M with
   |none=>rfl
   |some k=>
    simp only [Option.map_some,List.getD_cons_succ]
    congr 3
    omega
def jG (h:ai) (b:Nat) (M:List av):Prop:=h.getB b=some (.obj (.map (esOf M 0) M.length)) /\ ∀ x∈M,x.Wf
theorem recG {r:av} (w:r.Wf):ground (dW r)=true:=eV (cZ w).all.2.2
theorem lk_true {h:ai} {b:Nat} {M:List av} (m:jG h b M) {r:av} (w:r.Wf) :
  lookupA prog 91 (.map (some b)) (uc r) true h=some (.tuple #[dW ((nx r M).getD av.z),.bool (nx r M).isSome],h):=by
 unfold lookupA entriesA;simp only [map98,m.1,key_ok w,EA,xk w M 0 0 m.2,zero58];cases hq:idx r M with
 |none=>
  rw [yF hq];simp only [Option.map_none,recG av.z_wf,EA];rfl
 |some i=>
  obtain ⟨hi,_,e⟩:=nR hq;rw [e];simp only [Option.map_some,DJ,DB hi,Option.getD_some];rfl
theorem lk_false {h:ai} {b:Nat} {M:List av} (m:jG h b M) {r:av} (w:r.Wf) :
  lookupA prog 91 (.map (some b)) (uc r) false h=some (dW ((nx r M).getD av.z),h):=by
 unfold lookupA entriesA;simp only [map98,m.1,key_ok w,EA,xk w M 0 0 m.2,zero58];cases hq:idx r M with
 |none=>
  rw [yF hq];simp only [Option.map_none,recG av.z_wf,EA];rfl
 |some i=>
  obtain ⟨hi,_,e⟩:=nR hq;rw [e];simp only [Option.map_some,DJ,DB hi,Option.getD_some];rfl
def putM (M:List av) (r:av):List av:=match idx r M with|some i=>M.set i r|none=>M ++ [r]
theorem putM_wf {M:List av} {r:av} (h : ∀ x∈M,x.Wf) (w:r.Wf) : ∀ x∈putM M r,av.Wf x:=by
 intro x hx;unfold putM at hx;split at hx
 ·rcases HF hx with h1|rfl
  ·exact h x h1
  ·exact w
 ·rcases DU.1 hx with h1|h1
  ·exact h x h1
  ·rw [EK.1 h1];exact w
theorem esOf_set : ∀ (M:List av) (i j:Nat) (r:av),j<M.length->esOf (M.set j r) i=(esOf M i).set j (uc r,dW r,i+j)
 |x::M,i,0,r,_=>rfl
 |x::M,i,j+1,r,hj=>by
  simp only [List.set_cons_succ,esOf];rw [esOf_set M (i+1) j r (by simpa using hj)]
  congr 4
  omega
theorem mu_spec {h:ai} {b:Nat} {M:List av} (m:jG h b M) {r:av} (w:r.Wf) :
  mapUpdateA prog 91 (.map (some b)) (uc r) (dW r) h=some (undef,h.setO b (.map (esOf (putM M r) 0) (putM M r).length)):=by
 unfold mapUpdateA;simp only [map98,m.1,key_ok w,EA,xk w M 0 0 m.2];unfold putM;cases hq:idx r M with
 |none=>
  simp only [Option.map_none];rw [esOf_app,DE];simp only [esOf,DH,List.length_cons,List.length_nil]
 |some i=>
  obtain ⟨hi,ha,_⟩:=nR hq;have hk:=atC_of ha;simp only [Option.map_some,DH,tz M 0 i hi];have hb:Instr.sameBits 10000 (uc M[i]) (uc r)=true:=by show Instr.sameBits 10000 (.agg (xy M[i]).toArray) (.agg (xy r).toArray)=true;rw [<-hk];exact bits_self (lV w).kinds
  rw [DL hb,esOf_set M 0 i r hi,H6];simp only [DH]
end Go.Proofs.YtdnahgfgoajmcaaGreatDoor
namespace Go.Proofs.YtdnahgfgoajmcaaGreatDoor
open Go Go.Abs Tryz
open Go.Lib (compareBytes)
attribute [local congr] aw
abbrev zrC:List Value:=mE
noncomputable abbrev YM:au:=callL [(49,s64)]
theorem YM_sound:bp prog YM:=mG _ (by intro p hp;simp only [FQ,GO,JG] at hp;subst hp;exact c64)
noncomputable def CM:au:=CC2 prog XX YM [28,47,48]
theorem CM_up {f:FuncId} {args:List Value} {h:ai} {r:Value×ai} (hS:([28,47,48]:List Nat).contains f=true) (e:CW f args h=some r):CM f args h=some r:=CC2_up hS (by
 have hf:f=28\/f=47\/f=48:=by simpa using hS
 rcases hf with rfl|rfl|rfl<;>rfl) e
theorem CM_sound:bp prog CM:=CC2_sound lZ yi YM_sound
theorem CM_sort {args:List Value} {h:ai} {r:Value×ai} (e:s64 args h=some r):CM 49 args h=some r:=BH e
theorem az.setO {h:ai} {b:Nat} {k:BB} {o:fN} (hb:h.n0<=b) (hg:h.getB b=some k):az h (h.setO b o) (· = b):=
 ⟨rfl,DD _,fun _ _ hn=>ai.eN hb (h.lt_of_getB hg) _ hn⟩
theorem jG.mono {h h':ai} {b:Nat} {M:List av} (m:jG h b M) (o:aE h h'):jG h' b M:=⟨az.obj o m.1 (fun h=>h),m.2⟩
def tU (M:List av) (r:av):Bool := !(nx r M).isSome||decide (pq r ((nx r M).getD av.z)>0)
def eG (M:List av) (r:av):List av:=if tU M r=true then putM M r else M
theorem qQ {r x:av} {M:List av} (h:nx r M=some x):x∈M/\nD r x=true:=by unfold nx at h;exact ⟨List.mem_of_find?_eq_some h,List.find?_some h⟩
theorem CI {r:av} {M:List av} (h : ∀ x∈M,av.Wf x):((nx r M).getD av.z).Wf:=by
 cases e:nx r M with
 |none=>exact av.z_wf
 |some x=>exact h x (qQ e).1
theorem tD (h:ai) {r:av} (w:r.Wf) : ∃ h1 h2,eH zrC h=some (ptr h.next 0,h1)/\eY 39 (ptr h.next 0) (dW r) h1=some (undef,h2)/\aE h h2/\h2.get h.next=some (bW r):=by obtain ⟨h1,z1,o1,g1,_⟩:=fresh zrC h;have c:=aQ w;obtain ⟨h2,e2,k2,g2,_,_⟩:=aY (n:=39) (k':=bW r) g1 (by rw [o1.n0];exact h.n0_le_next) rfl c.1 (cZ w).all.2.1;exact ⟨h1,h2,z1,e2,aE.bK o1 k2 (DD _),g2⟩
theorem setO_map {h:ai} {b:Nat} {M M':List av} (hb:h.n0<=b) (m:jG h b M) (w : ∀ x∈M',av.Wf x):jG (h.setO b (.map (esOf M' 0) M'.length)) b M':=by refine ⟨?_,w⟩;unfold ai.setO;rw [h.cT hb (h.lt_of_getB m.1),DL rfl]
set_option maxRecDepth 100000 in
theorem mrg_loop {h0 g0:ai} {v:Value} {L M:List av} {mb:Nat} (hG:4<=h0.n0) (O:aE h0 g0) (hm:h0.next<=mb) (m:jG g0 mb M) (hv:kz h0 v L) (hl:L.length<=1000000) {x:Nat->Value} (x34:x 34=v) (x35:x 35=aq L.length) (x36:x 36=aq 0) (x5:x 5 = .map (some mb)) :
  Fin 103 (fun ex y g=>ex = .exit 2/\az g0 g (· = mb)/\jG g mb (L.foldl eG M)/\y 0=x 0/\y 5=x 5/\y 28=x 28/\y 29=x 29/\y 30=x 30) (iter (codeA prog CM (ao f21 [1,1,1,1,0,1,0,0,1,1,0,0,1,1,0,0])) aD (aK 103 x) g0):=by
 refine bC (mj CM) (Inv:=fun k y g => ∃ i Mi,i+k=L.length/\y 34=v/\y 35=aq L.length/\y 36=aq i/\y 5 = .map (some mb)/\az g0 g (· = mb)/\jG g mb Mi/\(L.drop i).foldl eG Mi=L.foldl eG M/\y 0=x 0/\y 28=x 28/\y 29=x 29/\y 30=x 30) ?_ L.length (by have:aD=18446744073709551616:=rfl;omega) ⟨0,M,by omega,x34,x35,x36,x5,az.refl _ _,m,rfl,rfl,rfl,rfl,rfl⟩;rintro k y g ⟨i,Mi,hik,y34,y35,y36,y5,Kg,mg,hf,y0,y28,y29,y30⟩;have n0:g0.n0<=mb:=by rw [O.n0];exact D7 h0.n0_le_next hm
 have Og:aE h0 g:=O.also Kg (fun d hd q=>by omega);unfold fA;simp -implicitDefEqProofs only [y35,y36,ie,aj,ak];by_cases hi:i<L.length
 ·obtain ⟨b,o,ix,wr,mr,lp⟩:=hv.at hi;have hd:L.drop i=L.getD i av.z::L.drop (i+1):=by rw [E8 hi,DJ,DB hi];rfl
  rw [hd,List.foldl_cons] at hf;generalize L.getD i av.z=r at *;have L1:=lp g Og;obtain ⟨h1,h2,e1,e2,o2,g2⟩:=tD g wr;have hn2:4<=h2.n0:=by rw [o2.n0,Og.n0];exact hG
  have la : ∀ q,aE h2 q->du 39 (ptr g.next 0) q=some (dW r,q):=fun q oq=>bj (aE.get oq g2) (aQ wr).1 (aQ wr).2.1;obtain ⟨h3,e3,o3⟩:=r62 hn2 wr;have e3:=CM_up rfl e3;have m3:jG h3 mb Mi:=mg.mono (o2.trans o3);have wx:=CI (r:=r) mg.2;have e4:=lk_true m3 wr;obtain ⟨h5,h6,e5,e6,o6,g6⟩:=tD h3 wx;have hn6:4<=h6.n0:=by rw [o6.n0,o3.n0];exact hn2
  have O26:aE h2 h6:=o3.trans o6;have lb : ∀ q,aE h6 q->du 39 (ptr h3.next 0) q=some (dW ((nx r Mi).getD av.z),q):=fun q oq=>bj (aE.get oq g6) (aQ wx).1 (aQ wx).2.1;have x0:extractA (.tuple #[dW ((nx r Mi).getD av.z),.bool (nx r Mi).isSome]) 0=some (dW ((nx r Mi).getD av.z)):=rfl;have x1:extractA (.tuple #[dW ((nx r Mi).getD av.z),.bool (nx r Mi).isSome]) 1=some (.bool (nx r Mi).isSome):=rfl;obtain ⟨h7,e7,o7⟩:=r63 hn6 wr wx;have e7:=CM_up rfl e7;have a36:aF prog .add 3 (aq i) (.int .i64 1)=some (aq (i+1)):=dR (by omega);have put : ∀ q,aE h6 q -> ∃ q2 q3,CM 47 [dW r] q=some (uc r,q2)/\aE q q2/\du 39 (ptr g.next 0) q2=some (dW r,q2)/\mapUpdateA prog 91 (.map (some mb)) (uc r) (dW r) q2=some (undef,q3)/\az g0 q3 (· = mb)/\jG q3 mb (putM Mi r):=by
   intro q oq;have hnq:4<=q.n0:=by rw [oq.n0];exact hn6
   obtain ⟨q2,f1,f2⟩:=r62 hnq wr;have mq:jG q2 mb Mi:=m3.mono ((o6.trans oq).trans f2);have nq:q2.n0<=mb:=by rw [f2.n0,oq.n0,o6.n0,o3.n0,o2.n0,Kg.n0];exact n0
   refine ⟨q2,_,CM_up rfl f1,f2,la q2 ((O26.trans oq).trans f2),mu_spec mq wr,?_,setO_map nq mq (putM_wf mg.2 wr)⟩;have k1:az g0 q2 (· = mb):=Kg.also (((o2.trans O26).trans oq).trans f2) (fun _ _ q=>q.elim);exact k1.trans (az.setO nq mq.1)
  simp -implicitDefEqProofs only [DC hi,y34,y5,ix,L1,e1,e2,la h2 (az.refl _ _),e3,e4,x0,x1,e5,e6,aV,aj,ak];cases hs:(nx r Mi).isSome with
  |false=>
   have hneed:tU Mi r=true:=by unfold tU;rw [hs];rfl
   have hms:eG Mi r=putM Mi r:=by unfold eG;rw [DL hneed]
   obtain ⟨q2,q3,p1,p2,p3,p4,p5,p6⟩:=put h6 (az.refl _ _);rw [hms] at hf;have ck : ∀ q,cq true (some (dW r,q)) (dW r)=true:=fun q=>CX _ _ (cZ wr).kinds;simp -implicitDefEqProofs only [DO, show (cn (.bool true)==some false)=false from rfl, aG, EA, la h6 O26, p1, p3, p4, ck, GK, a36, aj, ak];refine dJ.next (k-1) (by omega) ⟨i+1,putM Mi r,by omega,y34,y35,rfl,y5,p5,p6,hf,y0,y28,y29,y30⟩
  |true=>
   have hneed:tU Mi r=decide (pq r ((nx r Mi).getD av.z)>0):=by unfold tU;rw [hs];rfl
   simp -implicitDefEqProofs only [DP,show (cn (.bool false)==some false)=true from rfl,aC,la h6 O26,lb h6 (az.refl _ _),e7,bJ,<-hneed,DG,EF,aj,ak];cases hd2:tU Mi r with
   |true=>
    have hms:eG Mi r=putM Mi r:=by unfold eG;rw [DL hd2]
    obtain ⟨q2,q3,p1,p2,p3,p4,p5,p6⟩:=put h7 o7;rw [hms] at hf;have ck : ∀ q,cq true (some (dW r,q)) (dW r)=true:=fun q=>CX _ _ (cZ wr).kinds;simp -implicitDefEqProofs only [la h7 (O26.trans o7), p1, p3, p4, ck, GK, a36, aj, ak];exact dJ.next (k-1) (by omega) ⟨i+1,putM Mi r,by omega,y34,y35,rfl,y5,p5,p6,hf,y0,y28,y29,y30⟩
   |false=>
    have hms:eG Mi r=Mi:=by unfold eG;rw [DM (by rw [hd2];exact HX)]
    rw [hms] at hf;simp -implicitDefEqProofs only [a36, aj, ak];refine dJ.next (k-1) (by omega) ⟨i+1,Mi,by omega,y34,y35,rfl,y5,?_,m3.mono (o6.trans o7),hf,y0,y28,y29,y30⟩;exact Kg.also ((o2.trans O26).trans o7) (fun _ _ q=>q.elim)
 ·have hiE:i=L.length:=by omega
  rw [hiE,JB,List.foldl_nil] at hf;subst hf;simp -implicitDefEqProofs only [DF hi];exact dJ.out 2 ⟨rfl,Kg,mg,y0,y5.trans x5.symm,y28,y29,y30⟩
theorem two_at {g:ai} {sb:Nat} {a b:Value} (e:g.get sb=some [a,b]) (ha:eK a=false) (hb:eK b=false):ld1 (ptr sb 0) g=some (a,g)/\ld1 (ptr sb 1) g=some (b,g):=by exact ⟨aW e rfl ha,aW e rfl hb⟩
theorem b25_5e (C:au) (i:Nat) (e:aX) (h:ai):b25_5 C i e h=if i=0 then some (Ex.normal,e,h) else some (Ex.exit i,e,h):=rfl
theorem b25_23e (C:au) (e:aX) (h:ai):b25_23 C 2 e h=B8 C e h:=rfl
set_option maxRecDepth 100000 in
theorem mrg_lists {h0 g0:ai} {va vr:Value} {La Lr:List av} {vb mb:Nat} (hG:4<=h0.n0) (O:aE h0 g0) (hm:h0.next<=mb) (m:jG g0 mb []) (ha:kz h0 va La) (hr:kz h0 vr Lr) (la:La.length<=1000000) (lr:Lr.length<=1000000)
  (gv:g0.get vb=some [va]) {x:Nat->Value} (x0:x 0=ptr vb 0) (x1:x 1=vr) (x5:x 5 = .map (some mb)) :
  ∃ y g,jg CM x g0=some (.normal,aK 103 y,g)/\aE h0 g/\g0.next<=g.next/\jG g mb ((La++Lr).foldl eG [])/\y 0=ptr vb 0/\y 5 = .map (some mb):=by
 obtain ⟨a,c,rfl⟩:=ha.1;obtain ⟨a',c',rfl⟩:=hr.1;have l1:ld1 (ptr vb 0) g0=some (.slice a La.length c,g0):=by unfold ld1 ptr;simp only [gv];rfl
 have o1:aE g0 (g0.alloc [.slice a La.length c,.slice a' Lr.length c']):=az.alloc _ _ _;have e2:dg 1 (.slice none 0 0) 2 [(0,.slice a La.length c),(1,.slice a' Lr.length c')] g0=some (.slice (some ⟨g0.next,0,none⟩) 2 2,g0.alloc [.slice a La.length c,.slice a' Lr.length c']):=rfl;have gs:(g0.alloc [.slice a La.length c,.slice a' Lr.length c']).get g0.next=some [.slice a La.length c,.slice a' Lr.length c']:=by rw [ai.aN,DL rfl]
 have hne:mb≠g0.next:=fun e=>by have:=g0.lt_of_getB m.1;omega
 have m2:=m.mono o1;generalize g0.alloc [.slice a La.length c,.slice a' Lr.length c']=g1 at *;have O1:=O.trans o1;have n0:g1.n0<=mb:=by rw [O1.n0];exact D7 h0.n0_le_next hm
 have key : ∃ o,jg CM x g0=o /\ ∃ y g,o=some (.normal,aK 103 y,g)/\aE h0 g/\g0.next<=g.next/\jG g mb ((La++Lr).foldl eG [])/\y 0=ptr vb 0/\y 5 = .map (some mb):=by
  refine ⟨_,rfl,?_⟩;unfold jg;have nc:nilCheckA (ptr vb 0)=some (ptr vb 0):=rfl;have ll:lenL (.slice (some ⟨g0.next,0,none⟩) 2 2)=some (aq 2):=rfl;simp -implicitDefEqProofs only [x0,x1,l1,e2,nc,ll,aB,DH,aj,ak];refine bH (n:=103) (fin:=fun ex y g=>ex = .exit 0/\az g1 g (· = mb)/\jG g mb ((La++Lr).foldl eG [])/\y 0=ptr vb 0/\y 5 = .map (some mb)) (Q:=fun o => ∃ y g,o=some (Ex.normal,aK 103 y,g)/\aE h0 g/\g0.next<=g.next/\jG g mb ((La++Lr).foldl eG [])/\y 0=ptr vb 0/\y 5 = .map (some mb))
   (bC (ue CM) (Inv:=fun k y g => ∃ i M,i+k=2/\y 28 = .slice (some ⟨g0.next,0,none⟩) 2 2/\y 29=aq 2/\y 30=aq i/\y 5 = .map (some mb)/\y 0=ptr vb 0/\az g1 g (· = mb)/\jG g mb M/\(if i=0 then M = [] else if i=1 then M=La.foldl eG [] else M=(La++Lr).foldl eG [])) ?_ 2 (by have:aD=18446744073709551616:=rfl;omega) ⟨0,[],rfl,rfl,rfl,rfl,x5,x0,az.refl _ _,m2,by simp⟩) ?_
  ·rintro k y g ⟨i,M,hik,y28,y29,y30,y5,y0,Kg,mg,hM⟩;have Og:aE h0 g:=O1.also Kg (fun d hd q=>by omega);have gsg:g.get g0.next=some [.slice a La.length c,.slice a' Lr.length c']:=Kg.getE gs (fun e=>hne e.symm);obtain ⟨t1,t2⟩:=two_at gsg rfl rfl;unfold lI;simp -implicitDefEqProofs only [y29,y30,ie,aj,ak];rcases (show i=0\/i=1\/i=2 by omega) with rfl|rfl|rfl
   ·rw [DL rfl] at hM;subst hM;have ix:idxS 1 (.slice (some ⟨g0.next,0,none⟩) 2 2) (aq 0)=some (ptr g0.next 0):=rfl;simp -implicitDefEqProofs only [DC (show 0<2 by decide),y28,ix,t1,ha.len,aj,ak];refine bH (mrg_loop hG Og hm mg ha la rfl rfl rfl y5) ?_;rintro ex z g3 ⟨rfl,K3,m3,z0,z5,z28,z29,z30⟩;simp -implicitDefEqProofs only [bk,b25_23e,ui];unfold qK;have z30':z 30=aq 0:=z30.trans y30;have a30:aF prog .add 3 (aq 0) (.int .i64 1)=some (aq 1):=dR (by omega);simp -implicitDefEqProofs only [z30',a30,aj,ak];exact dJ.next 1 (by omega) ⟨1,_,rfl,z28.trans y28,z29.trans y29,rfl,z5.trans y5,z0.trans y0,Kg.trans K3,m3,by simp⟩
   ·rw [DM (by decide),DL rfl] at hM;subst hM;have ix:idxS 1 (.slice (some ⟨g0.next,0,none⟩) 2 2) (aq 1)=some (ptr g0.next 1):=rfl;simp -implicitDefEqProofs only [DC (show 1<2 by decide),y28,ix,t2,hr.len,aj,ak];refine bH (mrg_loop hG Og hm mg hr lr rfl rfl rfl y5) ?_;rintro ex z g3 ⟨rfl,K3,m3,z0,z5,z28,z29,z30⟩;simp -implicitDefEqProofs only [bk,b25_23e,ui];unfold qK;have z30':z 30=aq 1:=z30.trans y30;have a30:aF prog .add 3 (aq 1) (.int .i64 1)=some (aq 2):=dR (by omega);simp -implicitDefEqProofs only [z30',a30,aj,ak];exact dJ.next 0 (by omega) ⟨2,_,rfl,z28.trans y28,z29.trans y29,rfl,z5.trans y5,z0.trans y0,Kg.trans K3,m3,by simp [List.foldl_append]⟩
   ·rw [DM (by decide),DM (by decide)] at hM;subst hM;simp -implicitDefEqProofs only [DF (show ¬2<2 by decide)];exact dJ.out 0 ⟨rfl,Kg,mg,y0,y5⟩
  ·rintro ex z g ⟨rfl,Kg,mg,z0,z5⟩;simp -implicitDefEqProofs only [bk,b25_5e,EA];exact ⟨z,g,rfl,O1.also Kg (fun d hd q=>by omega),D7 o1.next Kg.next,mg,z0,z5⟩
 obtain ⟨o,e,y,g,e',q⟩:=key;exact ⟨y,g,e.trans e',q⟩
def pA (n:Int):av:={ av.z with kind:=1,aU:=n }
def jh (o:List Nat):av:={ av.z with kind:=2,obj:=o }
theorem baseP_wf {n:Int} (h:I64 n):(pA n).Wf:={ av.z_wf with kind:=by show 1<256;decide,aU:=h }
theorem graveP_wf {o:List Nat} (h:js o):(jh o).Wf:={ av.z_wf with kind:=by show 2<256;decide,obj:=h }
theorem bldP_base (n:Int):fZ zat [(0,1,.int .u8 1),(33,1,.int .i64 n)]=some (uc (pA n)):=rfl
theorem bldP_grave {o:List Nat} (h:js o):fZ zat [(0,1,.int .u8 2),(1,32,.agg (bn o).toArray)]=some (uc (jh o)):=by have e:fillL zat [(0,1,.int .u8 2),(1,32,.agg (bn o).toArray)]=fillL ([.int .u8 2]++(bn z32 ++ [.int .i64 0])) [(1,32,.agg (bn o).toArray)]:=rfl;unfold fZ;rw [e,iq (A := [.int .u8 2]) (B:=bn z32) (o:=1) (n:=32) rfl rfl rfl (by rw [DY];exact h.1)];rfl
def gK (M:List av) (r:av):Bool := !(decide (r.kind=3)&&((nx (jh r.obj) M).isSome||decide (r.ja<((nx (pA r.aU) M).getD av.z).ja)))
def jc (h:ai) (N:Nat) (v:Value) (L:List av):Prop:=(∀ r∈L,av.Wf r) /\ ∃ b s,v = .slice (some ⟨b,0,s⟩) L.length L.length/\h.get b=some (bA L)/\N<=b/\((L = []/\s=none)\/(L ≠ []/\s=some 39))
def rlB:Value->Nat
 | .slice (some ⟨b,_,_⟩) _ _=>b
 |_=>0
theorem jc.blk {h:ai} {N:Nat} {v:Value} {L:List av} (x:jc h N v L):N<=rlB v/\h.get (rlB v)=some (bA L):=by obtain ⟨hw,b,s,rfl,h1,h2,_⟩:=x;exact ⟨h2,h1⟩
theorem jc.old {h h':ai} {N:Nat} {v:Value} {L:List av} (x:jc h N v L) (o:aE h h'):jc h' N v L:=by obtain ⟨hw,b,s,rfl,h1,h2⟩:=x;exact ⟨hw,b,s,rfl,aE.get o h1,h2⟩
theorem jF (A B:List av):bA (A++B)=bA A++bA B:=by unfold bA;rw [HR]
theorem BA (r:av):bA [r]=bW r:=by unfold bA;rw [E6,H8,EU]
theorem jc.push {h:ai} {N c:Nat} {v:Value} {L:List av} {r:av} (x:jc h N v L) (h0:h.n0<=N) (hN:N<=h.next) (w:r.Wf) (hl:L.length<=1000000) (hc:h.get c=some (bW r)) :
  ∃ v' h',appendA 39 88 v (.slice (some ⟨c,0,none⟩) 1 1) h=some (v',h')/\jc h' N v' (L ++ [r])/\az h h' (· = rlB v):=by
 obtain ⟨hw,b,s,rfl,g1,g2,g3⟩:=x;have cr:=aQ w;have lc:=dE hw;have ok:=lP hw;have hw' : ∀ q∈L ++ [r],av.Wf q:=fun q hq=>by
  rcases DU.1 hq with h1|h1
  ·exact hw q h1
  ·rw [EK.1 h1];exact w
 have lT:(L ++ [r]).length=L.length+1:=by rw [DE,List.length_singleton]
 have hne:L ++ [r] ≠ []:=by simp
 have hf:firstA 39 1 (.slice (some ⟨c,0,none⟩) 1 1) h=some (bW r):=by
  have e:((bW r).drop 0).take (1*39)=bW r:=by rw [EP,DX (by rw [cr.1];decide)]
  unfold firstA;simp only;rw [DM (by decide),hc];simp only;rw [e,DL ⟨by rw [cr.1];decide,cr.2.1⟩]
 have hcond:(!(aM (bW r)) || !(decide ((L.length+1)*88<=140737488355328)) || !(decide (L.length+1<=4611686018427387904))||decide ((bW r).length≠1*39))=false:=by rw [cr.2.2,DC (by omega:(L.length+1)*88<=140737488355328),DC (by omega:L.length+1<=4611686018427387904),DF (by rw [cr.1];decide)];rfl
 have hfo:firstA 39 L.length (.slice (some ⟨b,0,s⟩) L.length L.length) h=some (bA L):=by
  unfold firstA;simp only;by_cases hz:L.length*39=0
  ·rw [DL hz];rw [DW.1 (by omega:L.length=0)];rfl
  ·have e:((bA L).drop 0).take (L.length*39)=bA L:=by rw [EP,DX (by omega)]
   rw [DM hz,g1];simp only;rw [e,DL ⟨by omega,ok.1⟩]
 have fin : ∀ g:ai,N<=g.next->jc (g.alloc (bA L++bW r)) N (.slice (some ⟨g.next,0,some 39⟩) (L.length+1) (L.length+1)) (L ++ [r]):=fun g hg=>
  ⟨hw',g.next,some 39,by rw [lT],by rw [ai.aN,DL rfl,jF,BA],hg,.inr ⟨hne,rfl⟩⟩
 rcases g3 with ⟨hn,rfl⟩|⟨hn,rfl⟩
 ·refine ⟨.slice (some ⟨h.next,0,some 39⟩) (L.length+1) (L.length+1),h.alloc (bA L++bW r),?_,fin h hN,az.alloc _ _ _⟩;unfold appendA;simp only [ik,hf];rw [DM (by rw [hcond];decide),DM (by omega)];simp only [hfo];rw [DM (by omega)]
 ·refine ⟨.slice (some ⟨h.next,0,some 39⟩) (L.length+1) (L.length+1),(h.kill b).alloc (bA L++bW r),?_,fin (h.kill b) hN,?_⟩
  ·unfold appendA;simp only [ik,hf];rw [DM (by rw [hcond];decide),DM (by omega)];simp only [hfo];rw [DM (by omega),DL (by rw [g1];simp;omega)]
  ·refine ⟨rfl,by simp,fun q hq hb => ?_⟩;rw [ai.cN,ai.fU,DM (by omega)];unfold ai.kill;rw [h.cT (by omega) (h.aO g1),DM (show ¬q=b from hb)]
theorem atld {h:ai} {b:Nat} {r:av} (w:r.Wf) (g:h.get b=some (xy r)):ld1 (ptr b 0) h=some (.int .u8 (r.kind:Int),h)/\du 32 (ptr b 1) h=some (.agg (bn r.obj).toArray,h)/\ld1 (ptr b 33) h=some (.int .i64 r.aU,h):=by
 have ho:(bn r.obj).length=32:=by rw [DY];exact w.obj.1
 refine ⟨aW g rfl rfl,?_,aW g ?_ rfl⟩
 ·exact xJ g (A := [.int .u8 (r.kind:Int)]) (B:=bn r.obj) (C := [.int .i64 r.aU]) rfl rfl ho (dK w.obj).all.1
 ·have:=at_at (x := .int .u8 (r.kind:Int)) (y := .int .i64 r.aU) ho;rw [HU] at this;exact this
def yZ (h:ai) (ib mb n:Nat) (seen:List Nat):Prop:=h.getB ib=some (.obj (.iter (some mb) n seen n))
theorem es_find : ∀ (M:List av) (i s:Nat) (hs:s<M.length),(esOf M i).find? (fun e=>e.2.2==i+s)=some (uc M[s],dW M[s],i+s)
 |r::M,i,0,_=>by unfold esOf;rw [List.find?_cons_of_pos (by simp)];rfl
 |r::M,i,s+1,hs=>by unfold esOf;rw [JH (by simp)];have:=es_find M (i+1) s (by simpa using hs);rw [show i+1+s=i+(s+1) by omega] at this;rw [this];rfl
theorem entry_at {h:ai} {ib mb s:Nat} {M:List av} {seen:List Nat} (m:jG h mb M) (it:yZ h ib mb M.length (seen ++ [s])) (hs:s<M.length):entryA (ptr ib 0) h=some (.tuple #[uc M[s],dW M[s]],h):=by have e:=es_find M 0 s hs;rw [DH] at e;unfold entryA ptr;simp only [show h.getB ib=_ from it,List.getLast?_concat,m.1,EA,e,Option.map_some]
theorem bsl_rec {r:av} (w:r.Wf) (q:ai):dg 39 (.agg pg) 1 [(0,dW r)] q=some (.slice (some ⟨q.next,0,none⟩) 1 1,q.alloc (bW r)):=by
 have e1:fillL zrC [(0*39,39,dW r)]=some (bW r):=by rw [iq (z:=zrC) (A := []) (B:=zrC) (C := []) (o:=0*39) (n:=39) (by simp) rfl rfl (aQ w).1];simp [fillL]
 have e2:aM ([(0,dW r)].flatMap fun x:Nat×Value=>x.2.cells.toList)=true:=by show aM ((bW r).toArray.toList ++ [])=true;rw [EU];exact (cZ w).all.2.1
 unfold dg;rw [e2];exact (GM (fun o:Option (List Value)=>match o with|some cs=>some (Value.slice (some ⟨q.next,0,none⟩) 1 1,q.alloc cs)|none=>none) e1:_)
def After3 (M:List av) (mb ib N:Nat) (x:Nat->Value) (g:ai) (L:List av) (r:av) (o:Option (Ex×aX×ai)):Prop:=
 ∃ y g',o=some (.normal,aK 103 y,g')/\y 0=x 0/\y 5 = .map (some mb)/\y 63=ptr ib 0/\jc g' N (y 12) (L++if gK M r=true then [r] else [])/\az g g' (· = rlB (x 12))
theorem u8_eq3 (n:Nat):((n:Int)==3)=decide (n=3):=by
 by_cases h:n=3
 ·subst h;rfl
 ·rw [DF h,beq_eq_false_iff_ne];omega
set_option maxRecDepth 100000 in
set_option maxHeartbeats 1000000 in
theorem mrg_entry {g:ai} {ib mb s N:Nat} {M L:List av} {seen:List Nat} (hs:s<M.length) (m:jG g mb M) (it:yZ g ib mb M.length (seen ++ [s])) {x:Nat->Value} (x5:x 5 = .map (some mb)) (x63:x 63=ptr ib 0) (x65:x 65 = .bool true)
  (rl:jc g N (x 12) L) (h0:g.n0<=N) (hN:N<=g.next) (hl:L.length<=1000000):After3 M mb ib N x g L M[s] (fD CM x g):=by
 have wr:M[s].Wf:=m.2 _ (EL hs);have e1:=entry_at m it hs;generalize M[s]=r at *;obtain ⟨h1,z1,o1,g1,n1⟩:=fresh zat g;obtain ⟨h2,z2,o2,g2,n2⟩:=fresh zrC h1;have ta:=lV wr;have cr:=aQ wr;have nz:g.n0<=g.next:=g.n0_le_next;obtain ⟨h3,e3,k3,g3,_,_⟩:=aY (n:=34) (k':=xy r) (aE.get o2 g1) (by rw [o2.n0,o1.n0];exact nz) rfl (C1 wr) ta.all.2.1;have g2':h3.get h1.next=some zrC:=k3.getE g2 (by omega);obtain ⟨h4,e4,k4,g4,_,_⟩:=aY (n:=39) (k':=bW r) g2' (by rw [k3.n0,o2.n0,o1.n0];omega) rfl cr.1 (cZ wr).all.2.1;have g3':h4.get g.next=some (xy r):=k4.getE g3 (by omega);have O4:aE g h4:=aE.bK (aE.bK (o1.trans o2) k3 (DD _)) k4 (by omega);obtain ⟨a0,a1,a33⟩:=atld wr g3';have m4:=m.mono O4;have x0:extractA (.tuple #[uc r,dW r]) 0=some (uc r):=rfl;have x1:extractA (.tuple #[uc r,dW r]) 1=some (dW r):=rfl;have push : ∀ q,aE h4 q -> ∃ v' q',du 39 (ptr h1.next 0) q=some (dW r,q)/\dg 39 (.agg pg) 1 [(0,dW r)] q=some (.slice (some ⟨q.next,0,none⟩) 1 1,q.alloc (bW r)) /\
   appendA 39 88 (x 12) (.slice (some ⟨q.next,0,none⟩) 1 1) (q.alloc (bW r))=some (v',q')/\jc q' N v' (L ++ [r])/\az g q' (· = rlB (x 12)):=by
  intro q oq;have oa:aE q (q.alloc (bW r)):=az.alloc _ _ _;have Oq:=O4.trans oq;have OO:=Oq.trans oa;obtain ⟨v',q',p1,p2,p5⟩:=(rl.old OO).push (r:=r) (c:=q.next) (by rw [OO.n0];exact h0) (D7 hN OO.next) wr hl (by rw [ai.aN,DL rfl]);exact ⟨v',q',bj (aE.get oq g4) cr.1 cr.2.1,bsl_rec wr q,p1,p2,(az.mono OO (fun _ _ h=>h.elim)).trans p5⟩
 unfold After3 fD;simp -implicitDefEqProofs only [x65,x63,e1,x0,x1,z1,z2,e3,e4,aB,DH,a0,bF,u8_eq3,aj,ak];by_cases hk:r.kind=3
 ·obtain ⟨h5,h6,z5,e6,o6,g6⟩:=tD h4 (CI (r:=pA r.aU) m.2);have lb:=lk_false m4 (baseP_wf wr.aU);have m6:=m4.mono o6;have lg:=lk_true m6 (graveP_wf wr.obj);have y0:extractA (.tuple #[dW ((nx (jh r.obj) M).getD av.z),.bool (nx (jh r.obj) M).isSome]) 0=some (dW ((nx (jh r.obj) M).getD av.z)):=rfl;have y1:extractA (.tuple #[dW ((nx (jh r.obj) M).getD av.z),.bool (nx (jh r.obj) M).isSome]) 1=some (.bool (nx (jh r.obj) M).isSome):=rfl;obtain ⟨h7,h8,z7,e8,o8,g8⟩:=tD h6 (CI (r:=jh r.obj) m.2);obtain ⟨_,b1,_⟩:=atld wr (aE.get o6 g3');have O8:=o6.trans o8;have l34:=(mo wr (aE.get O8 g4)).l34;have l34b:=(mo (CI (r:=pA r.aU) m.2) (aE.get o8 g6)).l34;simp -implicitDefEqProofs only [DC hk,a33,bldP_base,x5,lb,z5,e6,aB,b1,bldP_grave wr.obj,lg,y0,y1,z7,e8,aj,ak];cases hg:(nx (jh r.obj) M).isSome with
  |true=>
   have kk:gK M r=false:=by unfold gK;rw [DC hk,hg];rfl
   simp -implicitDefEqProofs only [show (cn (.bool true)==some false)=false from rfl, aG, EA, kk, DG, EF, EU, aj];exact ⟨_,_,rfl,rfl,x5,x63,rl.old (O4.trans O8),az.mono (O4.trans O8) (fun _ _ h=>h.elim)⟩
  |false=>
   have kk:gK M r = !(decide (r.ja<((nx (pA r.aU) M).getD av.z).ja)):=by unfold gK;rw [DC hk,hg];rfl
   simp -implicitDefEqProofs only [show (cn (.bool false)==some false)=true from rfl, aC, DH, l34, l34b, bL, Int.ofNat_lt, DG, EF, kk, aj, ak];by_cases hi:r.ja<((nx (pA r.aU) M).getD av.z).ja
   ·simp -implicitDefEqProofs only [DC hi,DP,DG,EF,EU];exact ⟨_,_,rfl,rfl,x5,x63,rl.old (O4.trans O8),az.mono (O4.trans O8) (fun _ _ h=>h.elim)⟩
   ·obtain ⟨v',q',p1,p2,p3,p4,p5⟩:=push h8 O8;simp -implicitDefEqProofs only [DF hi, DO, EA, p1, p2, p3, aj];exact ⟨_,_,rfl,rfl,x5,x63,p4,p5⟩
 ·have kk:gK M r=true:=by unfold gK;rw [DF hk];rfl
  obtain ⟨v',q',p1,p2,p3,p4,p5⟩:=push h4 (az.refl _ _);simp -implicitDefEqProofs only [DF hk, p1, p2, p3, kk, EA, aj];exact ⟨_,_,rfl,rfl,x5,x63,p4,p5⟩
end Go.Proofs.YtdnahgfgoajmcaaGreatDoor
namespace Go.Proofs.YtdnahgfgoajmcaaGreatDoor
open Go Go.Abs Tryz
open Go.Lib (compareBytes)
theorem qy : ∀ a b:List UInt8,compareBytes b a = - compareBytes a b
 | [],[]=>by rfl
 | [],_::_=>by rfl
 |_::_,[]=>by rfl
 |x::a,y::b=>by
  rw [oN,oN,qy a b];by_cases e1:x.toNat<y.toNat
  ·have e2 : ¬y.toNat<x.toNat:=by omega
   simp [e1,e2]
  ·by_cases e2:y.toNat<x.toNat
   ·simp [e1,e2]
   ·simp [e1,e2]
theorem td {r:av} (h:dX r=true):(r.kind=1/\r=r.b9/\0<=r.aU/\r.aU<16/\1<=r.ja)\/(r.kind=2/\r=r.grave)\/(r.kind=3/\Ae r=true/\0<=r.aU/\r.aU<16/\1<=r.ja):=by
 unfold dX at h;split at h
 ·rename_i h1;have h1:(r.kind:Int)=1:=by simpa using h1
  have h1:r.kind=1:=by omega
  rw [DK,DS] at h;unfold kH at h;simp only [DK,DS] at h;exact .inl ⟨h1,h.1,by omega,by omega,by omega⟩
 ·split at h
  ·rename_i h2;have h2:(r.kind:Int)=2:=by simpa using h2
   have h2:r.kind=2:=by omega
   exact .inr (.inl ⟨h2,of_decide_eq_true h⟩)
  ·split at h
   ·rename_i h3;have h3:(r.kind:Int)=3:=by simpa using h3
    have h3:r.kind=3:=by omega
    have h':=h;unfold Ae kH at h';simp only [DK,DS] at h';exact .inr (.inr ⟨h3,h,by omega,by omega,by omega⟩)
   ·cases h
theorem wA {r:av} (h:dX r=true):0<=r.aU/\r.aU<16:=by
 rcases td h with h|⟨_,h⟩|h
 ·exact ⟨h.2.2.1,h.2.2.2.1⟩
 ·have:r.aU=0:=by rw [h];rfl
  omega
 ·exact ⟨h.2.2.1,h.2.2.2.1⟩
theorem Bn : ∀ {x y:List Nat},BK x->BK y->x.map UInt8.ofNat=y.map UInt8.ofNat->x=y
 | [],[],_,_,_=>rfl
 | [],_::_,_,_,h=>by simp at h
 |_::_,[],_,_,h=>by simp at h
 |a::x,b::y,hx,hy,h=>by
  simp only [FR,HJ] at h;have ha:=hx a ED;have hb:=hy b ED;have e:a=b:=by have:=GM UInt8.toNat h.1;simp only [UInt8.toNat_ofNat'] at this;omega
  rw [e,Bn (fun z hz=>hx z (EI _ hz)) (fun z hz=>hy z (EI _ hz)) h.2]
theorem key_place {a b:av} (wa:a.Wf) (wb:b.Wf) (va:dX a=true) (vb:dX b=true) (h:gN a b=0):nD a b=true:=by have e:=Bn (yN wa) (yN wb) (cb_eq _ _ h);unfold dI at e;simp only [List.cons_append,List.nil_append,HJ] at e;obtain ⟨e1,e2⟩:=e;obtain ⟨e2,e3⟩:=List.append_inj e2 (by rw [wa.obj.1,wb.obj.1]);have ha:=wA va;have hb:=wA vb;refine fJ.2 ⟨e1,e2,?_⟩;unfold i8 at e3;simp only [HJ,JW] at e3;omega
theorem iz (a b:av):nD a b=nD b a:=by rw [IT,fJ,fJ];constructor<;>rintro ⟨h1,h2,h3⟩<;>exact ⟨h1.symm,h2.symm,h3.symm⟩
theorem atB_self (a:av):nD a a=true:=fJ.2 ⟨rfl,rfl,rfl⟩
theorem hF {a b c:av} (h1:nD a b=true) (h2:nD b c=true):nD a c=true:=by rw [fJ] at *;exact ⟨h1.1.trans h2.1,h1.2.1.trans h2.2.1,h1.2.2.trans h2.2.2⟩
def KS (L:List av):Prop:=L.Pairwise fun a b=>gN a b<0
def kg (L:List av):Prop:=L.Pairwise fun a b=>nD a b=false
def mQ (L:List av):Prop := ∀ r∈L,av.Wf r/\dX r=true
theorem KS.yL {A B:List av} (ha:KS A) (hb:KS B) (h:A.Perm B):A=B:=
 h.eq_of_pairwise (fun a b _ _ h1 h2=>absurd h2 (by unfold gN at *;rw [qy] at h2;omega)) ha hb
theorem kg.perm {A B:List av} (ha:kg A) (h:A.Perm B):kg B:=h.pairwise ha (fun {a b} h=>by rw [iz];exact h)
theorem kg.filter {A:List av} (ha:kg A) (p:av->Bool):kg (A.filter p):=I8 p ha
theorem KS.of {L:List av} (h:L.Pairwise fun a b => ¬gN b a<0) (d:kg L) (v:mQ L):KS L:=by
 unfold KS kg at *;have:=List.Pairwise.and h d;refine List.Pairwise.imp_of_mem (R:=fun a b => ¬gN b a<0/\nD a b=false) (fun {a b} ha hb hh => ?_) this;have h2:gN b a = - gN a b:=qy _ _;have h3:gN a b≠0:=fun e=>by have:=key_place (v a ha).1 (v b hb).1 (v a ha).2 (v b hb).2 e;rw [this] at hh;exact absurd hh.2 (by decide)
 omega
def leK (a b:av):Bool := !decide (gN b a<0)
def rR (L:List av):List av:=L.mergeSort leK
theorem gH (L:List av):(rR L).Perm L:=List.mergeSort_perm L leK
theorem tR {L:List av} (d:kg L) (v:mQ L):KS (rR L):=by
 have hp:=gH L;refine KS.of ?_ (d.perm hp.symm) (fun r hr=>v r (hp.mem_iff.1 hr));have h:=List.pairwise_mergeSort (le:=leK) ?_ ?_ L
 ·refine List.Pairwise.imp (fun {a b} hh => ?_) h;unfold leK at hh;simpa using hh
 ·intro a b c h1 h2;unfold leK at *;simp only [FW,FX] at *;exact kV _ _ _ h2 h1
 ·intro a b;unfold leK;have:gN b a = - gN a b:=qy _ _;simp only [FY,FW,FX];omega
theorem sortR_uniq {A L:List av} (d:kg L) (v:mQ L) (hp:A.Perm L) (h:A.Pairwise fun a b => ¬gN b a<0):A=rR L:=
 KS.yL (KS.of h (d.perm hp.symm) fun r hr=>v r (hp.mem_iff.1 hr)) (tR d v) (hp.trans (gH L).symm)
end Go.Proofs.YtdnahgfgoajmcaaGreatDoor
namespace Go.Proofs.YtdnahgfgoajmcaaGreatDoor
open Go Go.Abs Tryz
open Go.Lib (compareBytes)
attribute [local congr] aw
theorem idx_at {r:av} {M:List av} {i j:Nat} (h:idx r M=some i) (hj:j<(M.set i r).length) (hj':j<M.length) (x:av):nD (M.set i r)[j] x=nD M[j] x/\nD x (M.set i r)[j]=nD x M[j]:=by
 obtain ⟨hi,ha,_⟩:=nR h;rw [List.getElem_set];split
 ·rename_i e;subst e;have h1 : ∀ x,nD r x=nD M[i] x:=fun x=>by obtain ⟨e1,e2,e3⟩:=fJ.1 ha;unfold nD;rw [e1,e2,e3]
  exact ⟨h1 x,by rw [iz,h1,iz]⟩
 ·exact ⟨rfl,rfl⟩
theorem oK {r:av} : ∀ {M:List av},idx r M=none -> ∀ x∈M,nD r x=false
 | [],_,x,hx=>by cases hx
 |y::M,h,x,hx=>by
  unfold idx at h;by_cases e:nD r y=true
  ·rw [DL e] at h;cases h
  ·rw [DM e] at h;have h2:idx r M=none:=by
    cases hq:idx r M with
    |none=>rfl
    |some j=>rw [hq] at h;cases h
   rcases FQ.1 hx with rfl|hx
   ·simpa using e
   ·exact oK h2 x hx
theorem Bi {M:List av} (d:kg M) (r:av):kg (putM M r):=by
 unfold putM;cases h:idx r M with
 |none=>
  refine List.pairwise_append.2 ⟨d,by simp,fun a ha b hb => ?_⟩;rw [EK.1 hb,iz];exact oK h a ha
 |some i=>
  unfold kg at *;rw [HE] at *;intro j k hj hk hjk;have hj':j<M.length:=by simpa using hj
  have hk':k<M.length:=by simpa using hk
  rw [(idx_at h hj hj' _).1,(idx_at h hk hk' _).2];exact d j k hj' hk' hjk
theorem mstep_dist {M:List av} (d:kg M) (r:av):kg (eG M r):=by
 unfold eG;split
 ·exact Bi d r
 ·exact d
theorem putM_mem {M:List av} {r x:av} (h:x∈putM M r):x∈M\/x=r:=by
 unfold putM at h;split at h
 ·exact HF h
 ·rcases DU.1 h with h|h
  ·exact .inl h
  ·exact .inr (EK.1 h)
theorem mstep_vld {M:List av} (v:mQ M) {r:av} (w:r.Wf/\dX r=true):mQ (eG M r):=by
 unfold eG;split
 ·intro x hx;rcases putM_mem hx with h|rfl
  ·exact v x h
  ·exact w
 ·exact v
def dw (L:List av):List av:=L.foldl eG []
theorem fold_ok : ∀ (L M:List av),kg M->mQ M->mQ L->kg (L.foldl eG M)/\mQ (L.foldl eG M)
 | [],_,d,v,_=>⟨d,v⟩
 |r::L,M,d,v,w=>fold_ok L (eG M r) (mstep_dist d r) (mstep_vld v (w r ED)) fun x hx=>w x (EI _ hx)
theorem By {L:List av} (v:mQ L):kg (dw L)/\mQ (dw L):=fold_ok L [] .nil (fun _ h=>by cases h) v
theorem putM_len (M:List av) (r:av):(putM M r).length<=M.length+1:=by
 unfold putM;split
 ·rw [H6];omega
 ·rw [DE];simp
theorem fold_len : ∀ (L M:List av),(L.foldl eG M).length<=M.length+L.length
 | [],M=>DD _
 |r::L,M=>by
  have h1:=fold_len L (eG M r);have h2:(eG M r).length<=M.length+1:=by
   unfold eG;split
   ·exact putM_len M r
   ·omega
  rw [List.foldl_cons,List.length_cons];omega
theorem zi (L:List av):(dw L).length<=L.length:=by have:=fold_len L [];rw [List.length_nil,DH] at this;exact this
def aT (A B:List av):List av:=let M:=dw (A++B);rR (M.filter (gK M))
theorem es_mem {M:List av} {e:Value×Value×Nat} (h:e∈esOf M 0) : ∃ s,∃ hs:s<M.length,e=(uc M[s],dW M[s],s):=by
 obtain ⟨s,hs⟩:=IP.1 h;have hl:s<M.length:=by
  have:=(EV.1 hs).1
  rwa [esOf_len] at this
 rw [tz M 0 s hl] at hs;refine ⟨s,hl,?_⟩;cases hs;simp
theorem cands_spec (M:List av) (seen:List Nat) : ∃ l,vM (esOf M 0) M.length seen M.length=some l /\ ∀ c∈l,(c=none /\ ∀ s<M.length,s∈seen) \/ ∃ s,∃ hs:s<M.length,s∉seen/\c=some (uc M[s],dW M[s],s):=by
 have h1:(!seen.isEmpty && !(esOf M 0).isEmpty&&(esOf M 0).all fun e=>decide (M.length<=e.2.2))=false:=by
  cases M with
  |nil=>simp [esOf]
  |cons r M=>simp [esOf]
 unfold vM;rw [DM (by rw [h1];decide)];refine ⟨_,rfl,?_⟩;intro c hc;rcases DU.1 hc with hc|hc
 ·refine .inl ?_;split at hc
  ·rename_i he;refine ⟨EK.1 hc,fun s hs => ?_⟩;rw [List.isEmpty_iff] at he;have hm:(uc M[s],dW M[s],s)∈esOf M 0:=by have:=tz M 0 s hs;rw [DH] at this;exact E3 this
   have h2:(uc M[s],dW M[s],s)∉((esOf M 0).filter fun e => !seen.contains e.2.2).filter fun e=>decide (e.2.2<M.length):=by rw [he];exact GO
   rw [EE,EE] at h2;by_cases hh:s∈seen
   ·exact hh
   ·exact absurd ⟨⟨hm,by simpa using hh⟩,by simpa using hs⟩ h2
  ·cases hc
 ·obtain ⟨e,he,rfl⟩:=E0.1 hc;have hl:e∈(esOf M 0).filter fun e => !seen.contains e.2.2:=by
   rcases DU.1 he with he|he
   ·exact (EE.1 he).1
   ·exact (EE.1 he).1
  rw [EE] at hl;obtain ⟨s,hs,rfl⟩:=es_mem hl.1;exact .inr ⟨s,hs,by simpa using hl.2,rfl⟩
theorem seen_range {n:Nat} {seen:List Nat} (d:seen.Nodup) (h : ∀ s∈seen,s<n):seen.length<=n:=by
 have hp:(seen++(List.range n).filter fun s => !seen.contains s).Perm (List.range n):=by
  refine (IY ?_ List.nodup_range).2 fun a => ?_
  ·refine JJ.2 ⟨d,I8 _ List.nodup_range,fun a ha b hb e => ?_⟩;subst e;rw [EE] at hb;simp [ha] at hb
  ·rw [DU,EE,JV];constructor
   ·rintro (h1|⟨h1,_⟩)
    ·exact h a h1
    ·exact h1
   ·intro h1;by_cases h2:a∈seen
    ·exact .inl h2
    ·exact .inr ⟨h1,by simpa using h2⟩
 have:=hp.length_eq;rw [DE,IJ] at this;omega
theorem seen_all {M:List av} {seen:List Nat} (d:seen.Nodup) (h : ∀ s∈seen,s<M.length) (ha : ∀ s<M.length,s∈seen):(seen.map fun s=>M.getD s av.z).Perm M:=by
 have hp:seen.Perm (List.range M.length):=(IY d List.nodup_range).2 fun a=>by rw [JV];exact ⟨h a,ha a⟩
 have e:(List.range M.length).map (fun s=>M.getD s av.z)=M:=by
  refine FU fun t => ?_;rw [EN];by_cases ht:t<M.length
  ·rw [GJ ht,DB ht,Option.map_some,DJ,DB ht];rfl
  ·rw [ET (by simpa using ht),ET (by omega)];rfl
 have:=hp.map fun s=>M.getD s av.z
 rwa [e] at this
theorem seqW' {P:Program} {C:au} {K:Ex->aX->ai->Prop} {a b:Code} {e:aX} {h:ai} (x:codeW P C (wD C) a e h fun x e' h'=>match x with | .normal=>codeW P C (wD C) b e' h' K|x=>K x e' h'):codeW P C (wD C) (.seq a b) e h K:=by simp only [codeW];exact x
theorem blockW {P:Program} {C:au} {K:Ex->aX->ai->Prop} {i:Nat} {b:Code} {e:aX} {h:ai} (x:codeW P C (wD C) b e h fun x e' h'=>match x with | .exit j=>K (if j=i then .normal else .exit j) e' h'|x=>K x e' h'):codeW P C (wD C) (.block i b) e h K:=by simp only [codeW];exact x
noncomputable def opAt (p:List Nat) (i:Nat):Oper:=match ao f21 p with | .region _ ops _=>ops.getD i default|_=>default
theorem reg19:ao f21 [1,1,1,1,1,1,0,1,0,0] = .seq (.region 19 #[opAt [1,1,1,1,1,1,0,1,0,0,0] 0,opAt [1,1,1,1,1,1,0,1,0,0,0] 1] false) (ao f21 [1,1,1,1,1,1,0,1,0,0,1]):=by kernel_rfl
theorem op1:(opAt [1,1,1,1,1,1,0,1,0,0,0] 0).op = .next (.tmp 63) false/\(opAt [1,1,1,1,1,1,0,1,0,0,0] 0).dst=some 64/\(opAt [1,1,1,1,1,1,0,1,0,0,0] 0).guard=none:=⟨by kernel_rfl,by kernel_rfl,by kernel_rfl⟩
theorem op2:(opAt [1,1,1,1,1,1,0,1,0,0,0] 1).op = .extract (.tmp 64) 0/\(opAt [1,1,1,1,1,1,0,1,0,0,0] 1).dst=some 65/\(opAt [1,1,1,1,1,1,0,1,0,0,0] 1).guard=none:=⟨by kernel_rfl,by kernel_rfl,by kernel_rfl⟩
theorem blk4:ao f21 [1,1,1,1,1,1,0,1] = .block 4 (.loop (ao f21 [1,1,1,1,1,1,0,1,0,0])):=by kernel_rfl
theorem ne_obj {h:ai} {b c:Nat} {k:ju} {o:fN} (g:h.get b=some k) (e:h.getB c=some (.obj o)):c≠b:=fun q=>by subst q;rw [h.bg g] at e;cases e
theorem jc.keep {h h':ai} {N:Nat} {v:Value} {L:List av} (x:jc h N v L) {B:Nat->Prop} (k:az h h' B) (hB : ¬B (rlB v)):jc h' N v L:=by obtain ⟨hw,b,s,rfl,h1,h2⟩:=x;exact ⟨hw,b,s,rfl,k.getE h1 hB,h2⟩
theorem set_getO {h:ai} {b:Nat} {o:fN} {k:BB} (hb:h.n0<=b) (hg:h.getB b=some k):(h.setO b o).getB b=some (.obj o):=by unfold ai.setO;rw [h.cT hb (h.lt_of_getB hg),DL rfl]
theorem loop3W {h0 g0:ai} {M:List av} {vb mb ib N:Nat} (O:aE h0 g0) (hN:h0.next=N) (m:jG g0 mb M) (_:N<=mb) (hib:N<=ib) (it:yZ g0 ib mb M.length []) (hl:M.length<=1000000) {x:Nat->Value} (x0:x 0=ptr vb 0) (x5:x 5 = .map (some mb)) (x63:x 63=ptr ib 0) (rl:jc g0 N (x 12) [])
  {K:Ex->aX->ai->Prop} (hK : ∀ y g L,y 0=ptr vb 0->aE h0 g->g0.next<=g.next->jc g N (y 12) L->L.Perm (M.filter (gK M))->K .normal (aK 103 y) g) :
  codeW prog CM (wD CM) (ao f21 [1,1,1,1,1,1,0,1]) (aK 103 x) g0 K:=by
 rw [blk4];refine blockW (loopW_inv (fun k e g => ∃ y seen,e=aK 103 y/\seen.length+k=M.length/\seen.Nodup/\(∀ s∈seen,s<M.length)/\y 0=ptr vb 0/\y 5 = .map (some mb)/\y 63=ptr ib 0/\jG g mb M/\yZ g ib mb M.length seen/\aE h0 g/\g0.next<=g.next/\jc g N (y 12) ((seen.map fun s=>M.getD s av.z).filter (gK M))) ?_ (fun e h K K'=>codeW_mono _) (k:=M.length) (by have:aD=18446744073709551616:=rfl;omega) ⟨x,[],rfl,by simp,List.nodup_nil,by simp,x0,x5,x63,m,it,O,DD _,rl⟩);rintro k e g ⟨y,seen,rfl,hk,nd,hs,y0,y5,y63,mg,ig,Og,hn,rg⟩;have n0g:g.n0<=N:=by rw [Og.n0,<-hN];exact h0.n0_le_next
 rw [reg19];obtain ⟨l,hl2,hc⟩:=cands_spec M seen;refine seqW' (Go.Abs.pU op1.1 op1.2.1 op1.2.2 op2.1 op2.2.1 op2.2.2 (n:=103) (by decide) (by decide) (l:=l.map fun c=>stepTo ib mb M.length seen M.length c g) ?_ ?_)
 ·rw [y63];unfold nextsA ptr;simp only [show g.getB ib=_ from ig,mg.1,hl2,Option.map_some]
 ·rintro r hr;obtain ⟨c,hcm,rfl⟩:=E0.1 hr;rcases hc c hcm with ⟨rfl,hall⟩|⟨s,hsl,hsn,rfl⟩
  ·refine ⟨.bool false,rfl,?_⟩;refine uD _ (jA CM _ _) ?_;exact hK _ g _ y0 Og hn rg ((seen_all nd hs hall).filter _)
  ·refine ⟨.bool true,rfl,?_⟩;show codeW prog CM (wD CM) _ (aK 103 (up y [(65,.bool true),(64,.tuple #[.bool true,uc M[s],dW M[s]])])) (g.setO ib (.iter (some mb) M.length (seen ++ [s]) M.length)) _;have nib:g.n0<=ib:=D7 n0g hib;have kS:=az.setO (o := .iter (some mb) M.length (seen ++ [s]) M.length) nib ig;have iS:yZ (g.setO ib (.iter (some mb) M.length (seen ++ [s]) M.length)) ib mb M.length (seen ++ [s]):=set_getO nib ig;have hne:mb≠ib:=fun e=>by have h1:=mg.1;have h2:g.getB ib=_:=ig;rw [e,h2] at h1;cases h1
   have mS:jG (g.setO ib (.iter (some mb) M.length (seen ++ [s]) M.length)) mb M:=⟨kS.obj mg.1 hne,mg.2⟩
   have rS:=rg.keep kS (fun e=>ne_obj rg.blk.2 ig e.symm);have OS:aE h0 (g.setO ib (.iter (some mb) M.length (seen ++ [s]) M.length)):=Og.also kS (fun d hd q=>by omega);have nS:(g.setO ib (.iter (some mb) M.length (seen ++ [s]) M.length)).next=g.next:=rfl;generalize g.setO ib (.iter (some mb) M.length (seen ++ [s]) M.length)=gS at *;have hlen:((seen.map fun s=>M.getD s av.z).filter (gK M)).length<=1000000:=by have h1:=FB (gK M) (seen.map fun s=>M.getD s av.z);rw [DY] at h1;omega
   obtain ⟨z,g2,e2,z0,z5,z63,r2,k2⟩:=mrg_entry (x:=up y [(65,.bool true),(64,.tuple #[.bool true,uc M[s],dW M[s]])]) hsl mS iS y5 y63 rfl rS (by rw [OS.n0,<-hN];exact h0.n0_le_next) (by rw [<-hN];exact OS.next) hlen;refine uD _ ((jA CM _ _).trans e2) ?_;have hnd:(seen ++ [s]).Nodup:=JJ.2 ⟨nd,by simp,fun a ha b hb e=>by rw [EK.1 hb] at e;subst e;exact hsn ha⟩
   have hlt : ∀ t∈seen ++ [s],t<M.length:=fun t ht=>by
    rcases DU.1 ht with h|h
    ·exact hs t h
    ·rw [EK.1 h];exact hsl
   have hle:=seen_range hnd hlt;rw [DE,List.length_singleton] at hle;have rb:=rS.blk;refine ⟨k-1,by omega,z,seen ++ [s],rfl,by rw [DE,List.length_singleton];omega,hnd,hlt,z0.trans y0,z5,z63,⟨k2.obj mS.1 (ne_obj rb.2 mS.1),mS.2⟩,k2.obj iS (ne_obj rb.2 iS),OS.also k2 (fun d hd q => ?_),D7 (by rw [nS];exact hn) k2.next,?_⟩
   ·have:d=rlB (y 12):=q;have:=rb.1;omega
   ·rw [FH,IB];have e3:M.getD s av.z=M[s]:=by rw [DJ,DB hsl];rfl
    rw [FR,HP,e3];have e4 : [M[s]].filter (gK M)=if gK M M[s]=true then [M[s]] else []:=by rw [List.filter_cons];rfl
    rw [e4];exact r2
theorem is61:cx prog 46 f46:=by constructor<;>kernel_rfl
theorem is25:cx prog 21 f21:=by constructor<;>kernel_rfl
theorem call61 (args:List Value) (h:ai):callA prog CW (.func (.func 46) #[] #[]) args h=CW 46 args h:=by have hf:=EY fs_124;unfold callA;simp only;generalize prog.funcs.size=n at *;rw [DL (show (46:Nat)<n by omega),List.nil_append,EU]
theorem r61 {h:ai} (hG:4<=h.n0) {r:av} (w:r.Wf) : ∃ h',CW 46 [.agg (bW r).toArray] h=some (.bool (!(dX r)),h')/\aE h h':=by obtain ⟨h1,b1,o1,g1,n1⟩:=dS h w;have L1:=bj g1 (aQ w).1 (aQ w).2.1;obtain ⟨h2,e2,o2⟩:=r42 (h:=h1) (by rw [o1.n0];exact hG) w;refine ⟨h2,aL is61 hG rfl ((t61_eq _ _ _).trans ?_),o1.trans o2⟩;unfold t61;simp -implicitDefEqProofs only [b1,L1,e2,aV,aj,ak]
theorem kz.yL {h:ai} {v:Value} {A B:List av} (x:kz h v A) (y:kz h v B):A=B:=by
 obtain ⟨⟨a,c,rfl⟩,hA,hx⟩:=x;obtain ⟨⟨a',c',e⟩,hB,hy⟩:=y;injection e with e1 e2 e3
 refine List.ext_getElem e2 fun j h1 h2 => ?_;obtain ⟨b,o,p1,p2,p3⟩:=hx j h1;obtain ⟨b',o',q1,q2,q3⟩:=hy j h2;rw [p1] at q1;injection q1 with q1
 have hp:ptr b o=ptr b' o':=q1;have v1:=p3 h rfl;have v2:=q3 h rfl;rw [<-hp,v1] at v2;simp only [DA,DN,JW] at v2;have wa:=hA _ (EL h1);have wb:=hB _ (EL h2);rw [DJ,DB h1,DJ,DB h2] at v2;simp only [Option.getD_some, Value.agg.injEq] at v2;exact tQ wa.obj.1 wb.obj.1 (GM Array.toList v2)
structure BG (args:List Value) (h:ai) (vb:Nat) (va:Value) (La:List av) (vr:Value) (Lr:List av):Prop where
 args:args = [ptr vb 0,vr]
 n0:h.n0<=vb
 get:h.get vb=some [va]
 own:kz h va La
 new:kz h vr Lr
 vld:mQ La
 la:La.length<=500000
 lr:Lr.length<=500000
def CH (h:ai) (vb:Nat) (R:List av):ai:=(h.set vb [.slice (some ⟨h.next,0,if R = [] then none else some 39⟩) R.length R.length]).alloc (bA R)
open Classical in
noncomputable def s25 (args:List Value) (h:ai):bc:=
 if x : ∃ vb va La vr Lr,BG args h vb va La vr Lr then
  if jj x.choose_spec.choose_spec.choose_spec.choose_spec.choose=true then some (.int .i64 2,h)
  else some (.int .i64 0,CH h x.choose (aT x.choose_spec.choose_spec.choose x.choose_spec.choose_spec.choose_spec.choose_spec.choose))
 else none
theorem uG {args:List Value} {h:ai} {r:Value×ai} (e:s25 args h=some r) : ∃ vb va La vr Lr,BG args h vb va La vr Lr/\((jj Lr=true/\r=(.int .i64 2,h))\/(jj Lr=false/\r=(.int .i64 0,CH h vb (aT La Lr)))):=by
 unfold s25 at e;split at e
 ·rename_i x;refine ⟨_,_,_,_,_,x.choose_spec.choose_spec.choose_spec.choose_spec.choose_spec,?_⟩;split at e
  ·rename_i hi;cases e;exact .inl ⟨hi,rfl⟩
  ·rename_i hi;cases e;exact .inr ⟨by simpa using hi,rfl⟩
 ·cases e
theorem s25_eq {args:List Value} {h:ai} {vb:Nat} {va vr:Value} {La Lr:List av} (x:BG args h vb va La vr Lr):s25 args h=if jj Lr=true then some (.int .i64 2,h) else some (.int .i64 0,CH h vb (aT La Lr)):=by
 have hx : ∃ vb va La vr Lr,BG args h vb va La vr Lr:=⟨_,_,_,_,_,x⟩
 have hs : ∃ r,s25 args h=some r:=by
  unfold s25;rw [dif_pos hx];split
  ·exact ⟨_,rfl⟩
  ·exact ⟨_,rfl⟩
 obtain ⟨r,hr⟩:=hs;obtain ⟨vb',va',La',vr',Lr',y,hy⟩:=uG hr;have e:=x.args.symm.trans y.args;simp only [HJ,JW] at e;obtain ⟨e1,e2⟩:=e;have eb:vb'=vb:=by
  injection e1 with e1
  injection e1 with e1
  injection e1 with e1
  exact e1.symm
 subst eb e2;have ea:va'=va:=by have h1:=x.get;rw [y.get] at h1;simpa using h1
 subst ea;have eA:=x.own.yL y.own;have eR:=x.new.yL y.new;subst eA eR;rw [hr];rcases hy with ⟨h1,rfl⟩|⟨h1,rfl⟩
 ·rw [DL h1]
 ·rw [DM (by rw [h1];exact HX)]
theorem sq0:ao f21 [] = .seq (ao f21 [0]) (ao f21 [1]):=by kernel_rfl
theorem sq1:ao f21 [1] = .seq (ao f21 [1,0]) (ao f21 [1,1]):=by kernel_rfl
theorem sq2:ao f21 [1,1] = .seq (ao f21 [1,1,0]) (ao f21 [1,1,1]):=by kernel_rfl
theorem sq3:ao f21 [1,1,1] = .seq (ao f21 [1,1,1,0]) (ao f21 [1,1,1,1]):=by kernel_rfl
theorem sq4:ao f21 [1,1,1,1] = .seq (ao f21 [1,1,1,1,0]) (ao f21 [1,1,1,1,1]):=by kernel_rfl
theorem sq5:ao f21 [1,1,1,1,1] = .seq (ao f21 [1,1,1,1,1,0]) (ao f21 [1,1,1,1,1,1]):=by kernel_rfl
theorem sq6:ao f21 [1,1,1,1,1,1] = .seq (ao f21 [1,1,1,1,1,1,0]) (ao f21 [1,1,1,1,1,1,1]):=by kernel_rfl
theorem sq7:ao f21 [1,1,1,1,1,1,0] = .seq (ao f21 [1,1,1,1,1,1,0,0]) (ao f21 [1,1,1,1,1,1,0,1]):=by kernel_rfl
theorem bod25:f21.body=some (ao f21 []):=by kernel_rfl
theorem env25 (a b:Value):([a,b]++List.replicate (f21.ntmps - [a,b].length) undef:aX)=aK 103 (bs [a,b]):=by kernel_rfl
theorem res25:f21.results.toList = [.tmp 4]:=by kernel_rfl
theorem mM (b:Nat):aF prog .eql 25 (ptr b 0) (.pointer none)=some (.bool false):=by kernel_rfl
theorem sort_list {h:ai} {N:Nat} {v:Value} {L:List av} (x:jc h N v L) (h0:h.n0<=N) (hl:L.length<=1000000) (d:kg L) (vl:mQ L) :
  ∃ h',CM 49 [v,.func (.func 50) #[] #[]] h=some (.tuple #[],h')/\h'.get (rlB v)=some (bA (rR L))/\az h h' (· = rlB v):=by
 obtain ⟨hw,b,s,rfl,g1,g2,g3⟩:=x;have hlw : ∃ LW:List nt,LW.map (·.1)=L:=by refine ⟨L.attach.map fun x=>⟨x.1,hw x.1 x.2⟩,?_⟩;rw [IU];exact List.attach_map_subtype_val L
 obtain ⟨LW,rfl⟩:=hlw;rw [DY] at hl |-;have hn0:h.n0<=b:=D7 h0 g2;have ok:SortOk [.slice (some ⟨b,0,s⟩) LW.length LW.length,.func (.func 50) #[] #[]] h b LW:=by
  refine ⟨⟨s,rfl,?_⟩,hn0,by rw [g1,BX],by omega⟩;rcases g3 with ⟨_,rfl⟩|⟨hne,rfl⟩
  ·exact .inl rfl
  ·exact .inr ⟨rfl,fun e=>hne (by rw [e];rfl)⟩
 have hs : ∃ r,s64 [.slice (some ⟨b,0,s⟩) LW.length LW.length,.func (.func 50) #[] #[]] h=some r:=by unfold s64;rw [dif_pos ⟨b,LW,ok⟩];exact ⟨_,rfl⟩
 obtain ⟨r,hr⟩:=hs;obtain ⟨b',L',⟨⟨s',ea,_⟩,_,hg,_⟩,e2⟩:=tZ hr;simp only [HJ,Value.slice.injEq,DA,Addr.mk.injEq,true_and,JW] at ea;obtain ⟨⟨rfl,_⟩,elen,_⟩:=ea;have eL:L'.map (·.1)=LW.map (·.1):=by
  rw [g1,BX] at hg;have hg:bA (LW.map (·.1))=bA (L'.map (·.1)):=by simpa using hg
  refine List.ext_getElem (by simp [elen]) fun j h1 h2 => ?_;have w1:=xB L';have w2:=xB LW;have q1:=kO w1 h1;have q2:=kO w2 h2;rw [hg,q1] at q2;rw [DJ,DB h1,DJ,DB h2] at q2;exact tQ (w1 _ (EL h1)).obj.1 (w2 _ (EL h2)).obj.1 q2
 have hsrt:(vo L').map (·.1)=rR (LW.map (·.1)):=by obtain ⟨p1,p2,p3⟩:=zC L';refine sortR_uniq d vl (by rw [<-eL];exact p1.map _) ?_;rw [HE];intro i j hi hj hij;rw [DY] at hi hj;have:=p3 i j hij (by omega);rw [JF _ j hj,JF _ i hi] at this;simpa using this
 subst e2;refine ⟨_,CM_sort hr,?_,az.set hn0 g1 (.inr rfl)⟩;show (h.set b _).get b=_;rw [BX,hsrt];unfold ai.set;rw [h.xF hn0 (h.aO g1),DL rfl];rfl
theorem kW (h:ai) (vb:Nat) (R:List av):(CH h vb R).next=h.next+1:=rfl
theorem rC {h:ai} {vb:Nat} {va:Value} (R:List av) (n0:h.n0<=vb) (g:h.get vb=some [va]) (b:Nat) :
  (CH h vb R).getB b=if b=h.next then some (.cells (bA R)) else if b=vb then some (.cells [.slice (some ⟨h.next,0,if R = [] then none else some 39⟩) R.length R.length]) else h.getB b:=by
 unfold CH;rw [ai.cN,ai.next_set];by_cases e:b=h.next
 ·rw [DL e,DL e]
 ·rw [DM e,DM e];unfold ai.set;exact h.cT n0 (h.aO g) _ _
theorem kX {A B:List av} (v:mQ (A++B)):mQ (aT A B)/\KS (aT A B):=by obtain ⟨d,w⟩:=By v;have d2:=d.filter (gK (dw (A++B)));have w2:mQ ((dw (A++B)).filter (gK (dw (A++B)))):=fun r hr=>w r (EE.1 hr).1;exact ⟨fun r hr=>w2 r ((gH _).mem_iff.1 hr),tR d2 w2⟩
theorem zj {R:List av} (v : ∀ r∈R,av.Wf r):bI (bA R)=true:=by unfold bI bA;rw [DR];intro x hx;obtain ⟨r,hr,hx⟩:=HO.1 hx;have:=(cZ (v r hr)).all.2.2;unfold bI at this;rw [DR] at this;exact this x hx
theorem slice_bd (n b l:Nat) (s:Option Nat) (h:b<n):cz n (.slice (some ⟨b,0,s⟩) l l)=true:=by cases s<;>simp [cz,h]
theorem body25 {h:ai} {vb:Nat} {va vr:Value} {La Lr:List av} (x:BG [ptr vb 0,vr] h vb va La vr Lr) (hG:4<=h.n0) (_:aJ h) {K:Value->ai->Prop}
  (k2:jj Lr=true -> ∀ g,aE h g->K (.int .i64 2) g)
  (k0:jj Lr=false -> ∀ g B,h.next<=B->g.getB B=some (.cells (bA (aT La Lr)))->g.getB vb=some (.cells [.slice (some ⟨B,0,if aT La Lr = [] then none else some 39⟩) (aT La Lr).length (aT La Lr).length])->(∀ c,c<h.next->c≠vb->g.getB c=h.getB c)->K (.int .i64 0) g) :
  uB prog CM (wD CM) f21 [ptr vb 0,vr] h K:=by
 have hnn:=h.n0_le_next;unfold uB;rw [bod25];simp only;rw [env25,sq0];refine seqW (t25p25_0_eq CM _ _) ?_;rw [sq1];refine seqW ((Dg CM _ _).trans (by unfold uY;simp -implicitDefEqProofs only [show ∀ y,up (bs [ptr vb 0,vr]) [(4,y)] 0=ptr vb 0 from fun _=>rfl,mM,aj,ak];rfl)) ?_
 rw [sq2];obtain ⟨h1,e60,o1⟩:=r60 (fv := .func (.func 46) #[] #[]) hG x.new (by have:=x.lr;omega) (fun r => !(dX r)) (fun r _ w g o=>by rw [call61];exact r61 (by rw [o.n0];exact hG) w)
 have e60:=CM_up rfl e60;have e60:CM 28 [vr,.func (.func 46) #[] #[]] h=some (.bool (jj Lr),h1):=e60;cases hi:jj Lr with
 |true=>
  rw [hi] at e60;refine seqW_ret ((rV CM _ _).trans (by unfold oS;simp -implicitDefEqProofs only [show ∀ (x:Nat->Value) l,up (up x l) [] 1=up x l 1 from fun _ _=>rfl,show ∀ y a b,up (up (bs [ptr vb 0,vr]) [(4,y)]) [(18,a),(19,b)] 1=vr from fun _ _ _=>rfl,e60,aj,ak];rfl)) ?_
  refine ⟨.int .i64 2,h1,?_,k2 hi h1 o1⟩;rw [iD res25 (by decide)];rfl
 |false=>
  rw [hi] at e60;refine seqW ((rV CM _ _).trans (by unfold oS;simp -implicitDefEqProofs only [show ∀ y a b,up (up (bs [ptr vb 0,vr]) [(4,y)]) [(18,a),(19,b)] 1=vr from fun _ _ _=>rfl,e60,aj,ak];rfl)) ?_
  rw [sq3];have em:iv none prog 91 h1=some (.map (some h1.next),h1.br (.obj (.map [] 0))):=rfl;refine seqW ((zw CM _ _).trans (by unfold pE;simp -implicitDefEqProofs only [em, aj];rfl)) ?_
  have o2:aE h (h1.br (.obj (.map [] 0))):=o1.trans ⟨rfl,by simp,fun c hc _=>by rw [ai.bO,DM (by omega)]⟩;have m2:jG (h1.br (.obj (.map [] 0))) h1.next []:=⟨by rw [ai.bO,DL rfl];rfl,fun _ h=>by cases h⟩
  have hmb:h.next<=h1.next:=o1.next;generalize hh2:h1.br (.obj (.map [] 0))=h2 at *;generalize h1.next=mb at *;rw [sq4];obtain ⟨y3,h3,e3,o3,n3,m3,y30,y35⟩:=mrg_lists (x:=up (up (up (bs [ptr vb 0,vr]) [(4,.int .i64 0)]) [(18,ptr vb 0),(19,.bool false)]) [(20,vr),(21,.bool false)] |> fun z=>up z [(5,.map (some mb)),(22,.map (some mb))]) hG o2 hmb m2 x.own x.new (by have:=x.la;omega) (by have:=x.lr;omega) (aE.get o2 x.get) rfl rfl rfl;refine seqW ((wV CM _ _).trans e3) ?_;clear hh2;have vl:mQ (La++Lr):=fun r hr=>by
   rcases DU.1 hr with h1|h1
   ·exact x.vld r h1
   ·exact ⟨x.new.2.1 r h1,oM hi r h1⟩
  obtain ⟨dM,wM⟩:=By vl;have lM:=zi (La++Lr);rw [DE] at lM;have lA:=x.la;have lB:=x.lr;have m3:jG h3 mb (dw (La++Lr)):=m3;have eM:aT La Lr=rR ((dw (La++Lr)).filter (gK (dw (La++Lr)))):=rfl;generalize dw (La++Lr)=M at *;rw [sq5];have eb:dg 39 (.agg pg) 0 [] h3=some (.slice (some ⟨h3.next,0,none⟩) 0 0,h3.alloc []):=rfl;refine seqW ((uX CM _ _).trans (by unfold ny;simp -implicitDefEqProofs only [eb, aj];rfl)) ?_
  have o4:aE h3 (h3.alloc []):=az.alloc _ _ _;have m4:=m3.mono o4;have r4:jc (h3.alloc []) h.next (.slice (some ⟨h3.next,0,none⟩) 0 0) []:=⟨(fun _ h=>by cases h),h3.next,none,rfl,by rw [ai.aN,DL rfl];rfl,o3.next,.inl ⟨rfl,rfl⟩⟩
  have O4:=o3.trans o4;generalize h3.alloc []=h4 at *;generalize Value.slice (some ⟨h3.next,0,none⟩) 0 0=v4 at *;rw [sq6];refine seqW' ?_;rw [sq7];have er:rangeA prog 91 (.map (some mb)) h4=some (ptr h4.next 0,h4.br (.obj (.iter (some mb) M.length [] M.length))):=by unfold rangeA;simp only [map98,m4.1]
  refine seqW ((tb CM _ _).trans (by unfold kq;simp -implicitDefEqProofs only [show up y3 [(12,v4),(61,v4)] 5=y3 5 from rfl, y35, er, aj];rfl)) ?_
  have o5:aE h4 (h4.br (.obj (.iter (some mb) M.length [] M.length))):=⟨rfl,by simp,fun c hc _=>by rw [ai.bO,DM (by omega)]⟩
  have it:yZ (h4.br (.obj (.iter (some mb) M.length [] M.length))) h4.next mb M.length []:=by unfold yZ;rw [ai.bO,DL rfl]
  have m5:=m4.mono o5;have r5:=r4.old o5;have O5:=O4.trans o5;have hib:h.next<=h4.next:=O4.next;generalize h4.br (.obj (.iter (some mb) M.length [] M.length))=h5 at *;generalize h4.next=ib at *;refine loop3W (x:=up (up y3 [(12,v4),(61,v4)]) [(62,.map (some mb)),(63,ptr ib 0)]) (h0:=h) (N:=h.next) O5 rfl m5 hmb hib it (by omega) y30 y35 rfl r5 ?_;intro y g L z0 Og _ rg hp;have d2:=dM.filter (gK M);have w2:mQ (M.filter (gK M)):=fun r hr=>wM r (EE.1 hr).1;have dL:kg L:=d2.perm hp.symm;have wL:mQ L:=fun r hr=>w2 r (hp.mem_iff.1 hr);have esrt:rR L=aT La Lr:=by rw [eM];exact KS.yL (tR dL wL) (tR d2 w2) (((gH L).trans hp).trans (gH _).symm)
  have elen:(aT La Lr).length=L.length:=by rw [<-esrt];exact (gH L).length_eq
  have hlL:L.length<=1000000:=by have h1:=hp.length_eq;have h2:=FB (gK M) M;omega
  have n0g:g.n0<=h.next:=by rw [Og.n0];exact hnn
  obtain ⟨h6,e64,g6,k6⟩:=sort_list rg n0g hlL dL wL;have rb:=rg.blk;have vlt:vb<h.next:=h.aO x.get;have g6v:h6.get vb=some [va]:=k6.getE (aE.get Og x.get) (by omega);obtain ⟨_,B,s,ev,_,hB,hs⟩:=rg;have hrl:rlB (y 12)=B:=by rw [ev];rfl
  rw [hrl] at g6 k6 rb;have n6:h6.n0<=vb:=by rw [k6.n0,Og.n0];exact x.n0
  have est:eY 1 (ptr vb 0) (y 12) h6=some (undef,h6.set vb [y 12]):=xx g6v (Nat.zero_lt_one) n6 (by rw [ev];rfl) (by rw [ev];rfl);have nc:nilCheckA (ptr vb 0)=some (ptr vb 0):=rfl;refine uD _ ((tW CM _ _).trans (by unfold kZ;simp -implicitDefEqProofs only [e64,z0,nc,aB,DH,est,aj,ak];rfl)) ?_
  refine ⟨.int .i64 0,h6.set vb [y 12],?_,?_⟩
  ·rw [iD res25 (by decide)];rfl
  ·have hne:B≠vb:=by omega
   have hs':s=if aT La Lr = [] then none else some 39:=by
    rcases hs with ⟨h1,h2⟩|⟨h1,h2⟩
    ·rw [DL (by rw [<-List.length_eq_zero_iff,elen,h1];rfl),h2]
    ·rw [DM (fun e=>h1 (by rw [<-List.length_eq_zero_iff,<-elen,e];rfl)),h2]
   refine k0 hi _ B hB ?_ ?_ ?_
   ·unfold ai.set;rw [h6.cT n6 (h6.aO g6v),DM hne,h6.bg g6,esrt]
   ·unfold ai.set;rw [h6.cT n6 (h6.aO g6v),DL rfl,ev,elen,hs']
   ·intro c hc hcv;unfold ai.set;rw [h6.cT n6 (h6.aO g6v),DM hcv,k6.getB c (EJ hc Og.next) (by omega),Og.getB c hc (fun h=>h)]
theorem c25:cQ prog 21 s25:=by
 refine cQ.of_bodyW CM_sound (vi CM_sound) lZ is25 ?_ ?_ ?_
 ·intro args h v h' e;obtain ⟨vb,va,La,vr,Lr,x,⟨_,e⟩|⟨_,e⟩⟩:=uG e
  ·cases e;exact bD.refl _
  ·cases e;exact ⟨by rw [kW];omega,rfl,rfl⟩
 ·intro args h v h' e _ hh;obtain ⟨vb,va,La,vr,Lr,x,⟨_,e⟩|⟨hi,e⟩⟩:=uG e
  ·cases e;exact ⟨rfl,hh⟩
  ·cases e;refine ⟨rfl,?_⟩;have vl:mQ (La++Lr):=fun r hr=>by
    rcases DU.1 hr with h1|h1
    ·exact x.vld r h1
    ·exact ⟨x.new.2.1 r h1,oM hi r h1⟩
   have hw:=(kX vl).1;generalize aT La Lr=R at *;refine ⟨fun b k hk => ?_,fun b o ho => ?_⟩
   ·have hk:=ai.bg _ hk;rw [rC R x.n0 x.get] at hk;rw [kW];split at hk
    ·cases hk;exact eD (zj fun r hr=>(hw r hr).1)
    ·split at hk
     ·cases hk;simp only [cW,D9];exact slice_bd _ _ _ _ (by omega)
     ·exact bZ (by omega) (hh b k (h.get_of_getB hk))
   ·rw [rC R x.n0 x.get] at ho;rw [kW];split at ho
    ·cases ho
    ·split at ho
     ·cases ho
     ·exact yh (by omega) (hh.obj b o ho)
 ·intro args h v h' e _ hh hg;obtain ⟨vb,va,La,vr,Lr,x,hc⟩:=uG e;have ea:=x.args;subst ea;have hG:4<=h.n0:=by rw [<-lD];exact hg
  refine body25 x hG hh ?_ ?_
  ·intro hi g o;rcases hc with ⟨_,e⟩|⟨h1,_⟩
   ·cases e;exact ⟨id,Gc.none rfl hh fun b k h1 h2=>(o.getB b (h.lt_of_getB h2) (fun h=>h)).trans h2⟩
   ·rw [hi] at h1;cases h1
  ·intro hi g B hB gB gv go;rcases hc with ⟨h1,_⟩|⟨_,e⟩
   ·rw [hi] at h1;cases h1
   ·cases e;have vl:mQ (La++Lr):=fun r hr=>by
     rcases DU.1 hr with h1|h1
     ·exact x.vld r h1
     ·exact ⟨x.new.2.1 r h1,oM hi r h1⟩
    have hw:=(kX vl).1;have vlt:=h.aO x.get;generalize aT La Lr=R at *;refine ⟨AY h.next B,⟨fun b hb => ?_,fun b h1 h2 => ?_,fun b b' h1 h2 h3 h4 _ => ?_,rfl,fun b k h1 hk => ?_⟩⟩
    ·unfold AY;rw [DM (by omega)]
    ·rw [kW] at h2;unfold AY;rw [DL (by omega)];exact hB
    ·rw [kW] at h2 h4;omega
    ·rw [rC R x.n0 x.get] at hk;split at hk
     ·rename_i e;cases hk;have h2:AY h.next B b=B:=by unfold AY;rw [DL e]
      rw [h2,gB];show _=some (BB.cells (oC _ _));rw [mD (n:=0) (fun b hb=>absurd hb (FP b)) _ (eD (zj fun r hr=>(hw r hr).1))]
     ·rename_i e;have h2:AY h.next B b=b:=by unfold AY;rw [DM e]
      rw [h2];split at hk
      ·rename_i e2;cases hk;subst e2;rw [gv];show _=some (BB.cells [eZ _ _]);have : ∀ s:Option Nat,eZ (AY h.next B) (.slice (some ⟨h.next,0,s⟩) R.length R.length) = .slice (some ⟨B,0,s⟩) R.length R.length:=fun s=>by cases s<;>simp [eZ,AY]
       rw [this]
      ·rename_i e2;have hlt:=h.lt_of_getB hk;rw [go b hlt e2,hk,renB_id (n:=h.next) (fun c hc=>by unfold AY;rw [DM (by omega)]) (hh.bb hk)]
end Go.Proofs.YtdnahgfgoajmcaaGreatDoor
namespace Go.Proofs.YtdnahgfgoajmcaaGreatDoor
open Go Go.Abs Tryz
open Go.Lib (compareBytes)
open Go.ChangeShapes Go.WideShapes Go.ChangeAt Go.RowKit
section
def LLS (h:ai) (v:Value) (Ls:List (List av)):Prop:=
 (∃ a c,v = .slice a Ls.length c) /\ ∀ i (hi:i<Ls.length),∃ b o w,idxS 1 v (aq i)=some (ptr b o)/\b<h.next/\(∀ g:ai,g.get b=h.get b->ld1 (ptr b o) g=some (w,g))/\gC h w Ls[i]
theorem LLS.len {h:ai} {v:Value} {Ls:List (List av)} (x:LLS h v Ls):lenL v=some (aq Ls.length):=by obtain ⟨⟨a,c,rfl⟩,_⟩:=x;rfl
def InS (h:ai) (v:Value) (ns:List Int):Prop:=
 (∃ a c,v = .slice a ns.length c) /\ ∀ i (hi:i<ns.length),I64 ns[i] /\ ∃ b o,idxS 1 v (aq i)=some (ptr b o)/\b<h.next /\ ∀ g:ai,g.get b=h.get b->ld1 (ptr b o) g=some (.int .i64 ns[i],g)
theorem flat_ints (l:List Int):(l.flatMap fun m:Int => [Value.int .i64 m])=l.map fun m => .int .i64 m:=by
 induction l with
 |nil=>rfl
 |cons a l ih=>rw [E6,ih,FR];rfl
section
variable {H:Type} {enc:TypeId×Value->H} {W:World} {b9:Nat} {held:Bool}
theorem reads_int3:pQ enc W b9 held 3 [.i .i64]:=rn Tryz.underlying3
theorem sl52 {fuel:Nat} {v:Value} {x:DataW H×List MemPlace} (h:DataW.trod enc prog W b9 (fun _=>true) held fuel 53 [v]=some x) :
  eK (clean W.heap.size v)=false /\ ∃ ns,InS (dx W (view W)) (clean W.heap.size v) ns:=by
 obtain ⟨h1,n,cs,S⟩:=sl_of Tryz.underlying53 (ks := [.i .i64]) (by kernel_rfl) (by decide) reads_int3 h;refine ⟨h1,?_⟩;obtain ⟨ns,hl,hcs,hw⟩:=B0 (f:=fun m:Int => [Value.int .i64 m]) (P:=I64) (fun xs hx=>by
  have hl:xs.length=1:=hx.1
  match xs,hl with
  | [u],_=>
    obtain ⟨_,q1,a,rfl,ha⟩:=hx.2 0 (.i .i64) rfl;exact ⟨a,by simpa using q1,pG.1 ha⟩) n cs S.typed
 subst hl;obtain ⟨a,c,e,hn,_,h0⟩:=S;refine ⟨ns,⟨a,c,e⟩,fun i hi=>⟨hw _ (EL hi),?_⟩⟩;obtain ⟨b,off,s,k,rfl,hk,hlen,hc⟩:=h0 (by omega);rw [show ([Kd.i .i64]:List Kd).length=1 from rfl] at hlen hc;have ek:k[off+i]? = some (.int .i64 ns[i]):=by
  have:cs[i]? = some (.int .i64 ns[i]):=by rw [hcs];rw [flat_ints,EN,DB hi];rfl
  rw [<-hc,FK,DL (by omega),FL] at this;exact this
 refine ⟨b,off+i,?_,ai.aO _ hk,fun g hg=>aW (hg.trans hk) ek rfl⟩;rw [e];unfold idxS aq;simp only;rw [DL (by omega),Int.toNat_natCast,GF]
end
end
end Go.Proofs.YtdnahgfgoajmcaaGreatDoor
namespace Go.Proofs.YtdnahgfgoajmcaaGreatDoor
open Go Go.Abs Tryz
open Go.Lib (compareBytes)
attribute [local congr] aw
theorem is33:cx prog 19 f19:=by constructor<;>kernel_rfl
theorem is57:cx prog 40 f40:=by constructor<;>kernel_rfl
theorem is23:cx prog 13 f13:=by constructor<;>kernel_rfl
theorem is19:cx prog 12 f12:=by constructor<;>kernel_rfl
theorem is24:cx prog 14 f14:=by constructor<;>kernel_rfl
theorem r33 {h:ai} (hG:4<=h.n0):CW 19 [] h=some (ptr h.next 0,h.alloc [.slice none 0 0]):=by have e1:fZ [.slice none 0 0] []=some (.agg #[.slice none 0 0]):=rfl;have e2:box (.agg #[.slice none 0 0]) h=some (ptr h.next 0,h.alloc [.slice none 0 0]):=rfl;refine aL is33 hG rfl ((t33_eq _ _).trans ?_);unfold t33;simp -implicitDefEqProofs only [e1,e2,aj,ak]
theorem nilS22 (c:Nat) (a:Addr) (n:Nat):aF prog .eql 22 (.slice (some a) n c) (.slice none 0 0)=some (.bool false):=by kernel_rfl
theorem nilT22:aF prog .eql 22 (.slice none 0 0) (.slice none 0 0)=some (.bool true):=by kernel_rfl
def gx (v:Value):Prop:=v = .slice none 0 0 \/ ∃ a n c,v = .slice (some a) n c/\n<=c /\ ∀ t,a.spot=some t->t=39
theorem r57 {h:ai} (hG:4<=h.n0) {v:Value} {L:List av} (x:gC h v L) (hn:gx v) (hl:L.length<=1000000) : ∃ v' h',CW 40 [v] h=some (v',h')/\aE h h'/\kz h' v' L:=by
 rcases hn with rfl|⟨a,n,c,rfl,_⟩
 ·refine ⟨.slice none 0 0,h,aL is57 hG rfl ((Cr _ _ _).trans ?_),az.refl _ _,x.rsl⟩;unfold t57;simp -implicitDefEqProofs only [nilT22,aj,ak]
 ·obtain ⟨v',h',e,o,r,g⟩:=app_recs x hl;have b0:dg 39 (.agg pg) 0 [] h=some (.slice (some ⟨h.next,0,none⟩) 0 0,h.alloc []):=rfl;refine ⟨v',h',aL is57 hG rfl ((Cr _ _ _).trans ?_),o,r⟩;unfold t57;simp -implicitDefEqProofs only [nilS22,b0,e,aj,ak]
theorem r23 {h:ai} (hG:4<=h.n0) {vb:Nat} {va:Value} {L:List av} (gv:h.get vb=some [va]) (x:gC h va L) (hn:gx va) (hl:L.length<=1000000) : ∃ v' h',CW 13 [ptr vb 0] h=some (v',h')/\aE h h'/\kz h' v' L:=by obtain ⟨v',h',e,o,r⟩:=r57 hG x hn hl;have l1:ld1 (ptr vb 0) h=some (va,h):=aW gv rfl (by rcases hn with rfl|⟨a,n,c,rfl,_⟩<;>rfl);have nc:nilCheckA (ptr vb 0)=some (ptr vb 0):=rfl;refine ⟨v',h',aL is23 hG rfl ((t23_eq _ _ _).trans ?_),o,r⟩;unfold t23;simp -implicitDefEqProofs only [mM,nc,aB,DH,l1,e,aj,ak]
theorem nq58 {a b:av} (wa:a.Wf) (wb:b.Wf):aF prog .neq 66 (dW a) (dW b)=some (.bool (!(decide (a=b)))):=by
 obtain ⟨r,h1,_,h3⟩:=eq58 _ _ (cZ wa) (cZ wb);have:r=decide (a=b):=by
  by_cases e:a=b
  ·rw [DC e,h1.2 (by rw [e])]
  ·rw [DF e];cases r with
   |false=>rfl
   |true=>exact absurd (tQ wa.obj.1 wb.obj.1 (h1.1 rfl)) e
 rw [h3,this]
theorem nq3 (a b:Nat):aF prog .neq 3 (aq a) (aq b)=some (.bool (!(decide (a=b)))):=by
 rw [bz]
 congr 2
 by_cases e:a=b
 ·subst e;simp
 ·have:(a:Int)≠b:=by omega
  simp [e,this]
theorem results19:f12.results.toList = [.tmp 4]:=by kernel_rfl
theorem b19_6e (C:au) (e:aX) (h:ai):b19_6 C 0 e h=k19_4 C e h:=rfl
set_option maxRecDepth 100000 in
theorem r19 {h:ai} (hG:4<=h.n0) {v w:Value} {A B:List av} (hv:kz h v A) (hw:kz h w B) (hl:A.length<=1000000):CW 12 [v,w] h=some (.bool (decide (A=B)),h):=by
 have la:=hv.len;have lb:=hw.len;refine aL is19 hG rfl ((t19_eq _ _ _ _).trans ?_);unfold t19;simp -implicitDefEqProofs only [la,lb,nq3,aj,ak];by_cases e:A.length=B.length
 ·simp -implicitDefEqProofs only [DC e,DP];refine bH (n:=26) (fin:=fun ex y g=>g=h/\((ex = .exit 0/\A=B)\/(ex = .ret/\A≠B/\y 4 = .bool false))) (Q:=fun o:bc=>o=some (.bool (decide (A=B)),h))
   (bC (xe CW) (Inv:=fun k y g => ∃ i,i+k=A.length/\y 0=v/\y 1=w/\y 5=aq i/\g=h/\A.take i=B.take i) ?_ A.length (by have:aD=18446744073709551616:=rfl;omega) ⟨0,by omega,rfl,rfl,rfl,rfl,rfl⟩) ?_
  ·rintro k y g ⟨i,hik,y0,y1,y5,rfl,ht⟩;unfold om;simp -implicitDefEqProofs only [y0,y5,la,ie,aj,ak];by_cases hi:i<A.length
   ·have hi2:i<B.length:=by omega
    obtain ⟨b,o,ix,wr,mr,lp⟩:=hv.at hi;obtain ⟨b',o',ix',wr',mr',lp'⟩:=hw.at hi2;have eA:A.getD i av.z=A[i]:=by rw [DJ,DB hi];rfl
    have eB:B.getD i av.z=B[i]:=by rw [DJ,DB hi2];rfl
    have L1:=lp g (az.refl _ _);have L2:=lp' g (az.refl _ _);simp -implicitDefEqProofs only [DC hi, y1, ix, ix', L1, L2, nq58 wr wr', aj, ak];by_cases hab:A.getD i av.z=B.getD i av.z
    ·have a5:aF prog .add 3 (aq i) (.int .i64 1)=some (aq (i+1)):=dR (by omega);simp -implicitDefEqProofs only [DC hab,DP,a5,aj,ak];refine dJ.next (k-1) (by omega) ⟨i+1,by omega,y0,y1,rfl,rfl,?_⟩;rw [FF hi,FF hi2,ht,<-eA,<-eB,hab]
    ·simp -implicitDefEqProofs only [DF hab, DO];refine dJ.ret ⟨rfl,.inr ⟨rfl,fun q=>hab (by rw [q]),rfl⟩⟩
   ·have hiE:i=A.length:=by omega
    simp -implicitDefEqProofs only [DF hi];refine dJ.out 0 ⟨rfl,.inl ⟨rfl,?_⟩⟩;rw [DX (by omega),DX (by omega)] at ht;exact ht
  ·rintro ex z g ⟨rfl,⟨rfl,q⟩|⟨rfl,q,z4⟩⟩
   ·simp -implicitDefEqProofs only [bk,b19_6e,t19k19_4_eq];unfold yX;rw [DC q];rfl
   ·rw [jd,dC,iD results19 (by decide),z4,DF q]
 ·simp -implicitDefEqProofs only [DF e, DO];rw [DF (fun q=>e (by rw [q]))]
def nJ (Ls:List (List av)):Bool:=decide (Ls.length<=40)&&(Ls.all fun L=>decide (L.length<=120)&&L.all dX)&&decide (Ls.flatten.length<=120)
theorem results24:f14.results.toList = [.tmp 2]:=by kernel_rfl
theorem b24_7e (C:au) (e:aX) (h:ai):b24_7 C 0 e h=k24_5 C e h:=rfl
theorem b24_18e (C:au) (e:aX) (h:ai):b24_18 C 2 e h=Ce C e h:=rfl
theorem gtrN (a b:Nat):aF prog .gtr 3 (aq a) (aq b)=some (.bool (decide (b<a))):=by
 rw [bJ]
 congr 2
 by_cases e:b<a
 ·rw [DC e,DC (by omega)]
 ·rw [DF e,DF (by omega)]
theorem zk (a:Nat) (n:Int) (b:Nat) (e:n=b):aF prog .gtr 3 (aq a) (.int .i64 n)=some (.bool (decide (b<a))):=by subst e;exact gtrN a b
theorem leq3 (a:Nat) (n:Int) (b:Nat) (e:n=b):aF prog .leq 3 (aq a) (.int .i64 n)=some (.bool (decide (a<=b))):=by
 subst e;rw [show aF prog .leq 3 (aq a) (.int .i64 (b:Int))=some (.bool (decide ((a:Int)<=b))) by rw [dy];simp [jw]]
 congr 2
 by_cases e:a<=b
 ·rw [DC e,DC (by omega)]
 ·rw [DF e,DF (by omega)]
set_option maxRecDepth 100000 in
theorem rr_loop {h0 h:ai} (hG:4<=h0.n0) (O:aE h0 h) {v:Value} {Ls:List (List av)} (hv:LLS h0 v Ls) {i:Nat} (hi:i<Ls.length) (hl:Ls[i].length<=1000000) {x:Nat->Value} (x0:x 0=v) (x4:x 4=aq i) (x5:x 5=aq 0) :
  Fin 48 (fun ex y g=>aE h0 g/\((ex = .exit 2/\Ls[i].all dX=true/\y 0=x 0/\y 3=x 3/\y 4=x 4)\/(ex = .ret/\Ls[i].all dX=false/\y 2 = .bool false))) (iter (codeA prog CW (ao f14 [1,1,1,0,1,0,0,1,0,0,1,1,1,0,0])) aD (aK 48 x) h):=by
 obtain ⟨b,o,w,ix,hb,hld,R⟩:=hv.2 i hi;have RS:=R.rsl;have rl:=RS.len;generalize Ls[i]=L at *;refine bC (nE CW) (Inv:=fun k y g => ∃ j,j+k=L.length/\y 0=v/\y 4=aq i/\y 5=aq j/\y 3=x 3/\aE h0 g/\L.all dX=(L.drop j).all dX) ?_ L.length (by have:aD=18446744073709551616:=rfl;omega) ⟨0,by omega,x0,x4,x5,rfl,O,by rw [EP]⟩;rintro k y g ⟨j,hjk,y0,y4,y5,y3,Og,ha⟩;have ld:ld1 (ptr b o) g=some (w,g):=hld g (az.get Og b hb (fun h=>h));unfold fY;simp -implicitDefEqProofs only [y0,y4,y5,ix,ld,rl,ie,aj,ak];by_cases hj:j<L.length
 ·obtain ⟨b',o',ix',wr,mr,lp⟩:=RS.at hj;have hd:L.drop j=L.getD j av.z::L.drop (j+1):=by rw [E8 hj,DJ,DB hj];rfl
  rw [hd,List.all_cons] at ha;generalize L.getD j av.z=r at *;have L1:=lp g Og;obtain ⟨g',e',o'⟩:=r42 (h:=g) (by rw [Og.n0];exact hG) wr;cases hr:dX r with
  |true=>
   rw [hr] at e' ha;rw [EM] at ha;have a5:aF prog .add 3 (aq j) (.int .i64 1)=some (aq (j+1)):=dR (by omega);simp -implicitDefEqProofs only [DC hj, ix', L1, e', aV, DP, a5, aj, ak];exact dJ.next (k-1) (by omega) ⟨j+1,by omega,y0,y4,rfl,y3,Og.trans o',ha⟩
  |false=>
   rw [hr] at e' ha;simp -implicitDefEqProofs only [DC hj, ix', L1, e', aV, DO, aj, ak];exact dJ.ret ⟨Og.trans o',.inr ⟨rfl,by rw [ha,EG],rfl⟩⟩
 ·have hjE:j=L.length:=by omega
  rw [hjE,JB] at ha;simp -implicitDefEqProofs only [DF hj];exact dJ.out 2 ⟨Og,.inl ⟨rfl,ha,y0.trans x0.symm,y3,y4.trans x4.symm⟩⟩
def Bc (Ls:List (List av)):Nat:=Ls.flatten.length
theorem Be {Ls:List (List av)} {i:Nat} (hi:i<Ls.length):Bc (Ls.take (i+1))=Bc (Ls.take i)+Ls[i].length:=by unfold Bc;rw [FF hi,List.flatten_append,DE];simp
theorem all_take {Ls:List (List av)} {i:Nat} (hi:i<Ls.length) (p:List av->Bool):(Ls.take (i+1)).all p=((Ls.take i).all p&&p Ls[i]):=by rw [FF hi,FI];simp
set_option maxRecDepth 100000 in
theorem r24 {h:ai} (hG:4<=h.n0) {v:Value} {Ls:List (List av)} (hv:LLS h v Ls) : ∃ h',CW 14 [v] h=some (.bool (nJ Ls),h')/\aE h h':=by
 have hll:=hv.len;have key : ∃ o:bc,t24 CW v h=o /\ ∃ h',o=some (.bool (nJ Ls),h')/\aE h h':=by
  refine ⟨_,rfl,?_⟩;unfold t24;simp -implicitDefEqProofs only [hll,zk Ls.length 40 40 rfl,aj,ak];by_cases h40:40<Ls.length
  ·simp -implicitDefEqProofs only [DC h40];refine ⟨h,?_,az.refl _ _⟩;unfold nJ;rw [DF (by omega : ¬Ls.length<=40)];rfl
  ·simp -implicitDefEqProofs only [DF h40];refine bH (n:=48) (fin:=fun ex y g=>aE h g/\((ex = .exit 0/\(Ls.all fun L=>decide (L.length<=120)&&L.all dX)=true/\y 3=aq (Bc Ls))\/(ex = .ret/\(Ls.all fun L=>decide (L.length<=120)&&L.all dX)=false/\y 2 = .bool false))) (Q:=fun o:bc => ∃ h',o=some (.bool (nJ Ls),h')/\aE h h')
    (bC (uV CW) (Inv:=fun k y g => ∃ i,i+k=Ls.length/\y 0=v/\y 3=aq (Bc (Ls.take i))/\y 4=aq i/\aE h g/\((Ls.take i).all fun L=>decide (L.length<=120)&&L.all dX)=true/\Bc (Ls.take i)<=i*120) ?_ Ls.length (by have:aD=18446744073709551616:=rfl;omega) ⟨0,by omega,rfl,rfl,rfl,az.refl _ _,by simp,by simp [Bc]⟩) ?_
   ·rintro k y g ⟨i,hik,y0,y3,y4,O,hall,hs⟩;unfold nG;simp -implicitDefEqProofs only [y0,y4,hll,ie,aj,ak];by_cases hi:i<Ls.length
    ·obtain ⟨b,o,w,ix,hb,hld,R⟩:=hv.2 i hi;have ld:ld1 (ptr b o) g=some (w,g):=hld g (az.get O b hb (fun h=>h));have rl:=R.rsl.len;simp -implicitDefEqProofs only [DC hi,ix,ld,rl,zk Ls[i].length 120 120 rfl,aj,ak];by_cases h120:120<Ls[i].length
     ·simp -implicitDefEqProofs only [DC h120];refine dJ.ret ⟨O,.inr ⟨rfl,?_,rfl⟩⟩;rw [List.all_eq_false];exact ⟨Ls[i],EL hi,by rw [DF (by omega : ¬Ls[i].length<=120),EG];exact HX⟩
     ·have a3:aF prog .add 3 (aq (Bc (Ls.take i))) (aq Ls[i].length)=some (aq (Bc (Ls.take (i+1)))):=by rw [Be hi];exact add3 (by omega)
      simp -implicitDefEqProofs only [DF h120, y3, a3, aj, ak];refine bH (rr_loop hG O hv hi (by omega) y0 y4 rfl) ?_;rintro ex z g2 ⟨O2,⟨rfl,ha,z0,z3,z4⟩|⟨rfl,ha,z2⟩⟩
      ·simp -implicitDefEqProofs only [bk,b24_18e,CE];unfold uK;have z4':z 4=aq i:=z4.trans y4;have a4:aF prog .add 3 (aq i) (.int .i64 1)=some (aq (i+1)):=dR (by omega);simp -implicitDefEqProofs only [z4',a4,aj,ak];refine dJ.next (k-1) (by omega) ⟨i+1,by omega,z0.trans y0,z3,rfl,O2,?_,?_⟩
       ·rw [all_take hi,hall,ha,DC (by omega:Ls[i].length<=120)];rfl
       ·rw [Be hi];omega
      ·rw [jd];refine dJ.ret ⟨O2,.inr ⟨rfl,?_,z2⟩⟩;rw [List.all_eq_false];exact ⟨Ls[i],EL hi,by rw [ha,ES];exact HX⟩
    ·have hiE:i=Ls.length:=by omega
     rw [hiE,GN] at hall y3;simp -implicitDefEqProofs only [DF hi];exact dJ.out 0 ⟨O,.inl ⟨rfl,hall,y3⟩⟩
   ·rintro ex z g ⟨O,⟨rfl,hall,z3⟩|⟨rfl,hall,z2⟩⟩
    ·simp -implicitDefEqProofs only [bk,b24_7e,t24k24_5_eq];unfold zy;simp -implicitDefEqProofs only [z3,leq3 (Bc Ls) 120 120 rfl,aj,ak];refine ⟨g,?_,O⟩;unfold nJ;rw [hall,DC (by omega:Ls.length<=40)];rfl
    ·rw [jd,dC,iD results24 (by decide),z2];refine ⟨g,?_,O⟩;unfold nJ;rw [hall,ES,EG]
 obtain ⟨o,e,h',e',q⟩:=key;exact ⟨h',aL is24 hG rfl ((t24_eq _ _ _).trans (e.trans e')),q⟩
theorem u8_eqn (n k:Nat):((n:Int)==k)=decide (n=k):=by
 by_cases h:n=k
 ·subst h;simp
 ·rw [DF h,beq_eq_false_iff_ne];omega
theorem endN_n {α:Type} (e:aX) (h:ai) (n r:aX->ai->Option α) (x:Nat->aX->ai->Option α):endN (some (.normal,e,h)) n r x=n e h:=rfl
theorem yQ {v:Value} (h:gx v):eK v=false:=by rcases h with rfl|⟨a,n,c,rfl,_⟩<;>rfl
theorem eqI (a b:Int):aF prog .eql 3 (.int .i64 a) (.int .i64 b)=some (.bool (decide (a=b))):=by rw [bF];rfl
end Go.Proofs.YtdnahgfgoajmcaaGreatDoor
namespace Go.Proofs.YtdnahgfgoajmcaaGreatDoor
open Go Go.Abs Tryz
open Go.Lib (compareBytes)
def lexI:List Int->List Int->Int
 |x::a,y::b=>if x<y then -1 else if y<x then 1 else lexI a b
 |_,_=>0
theorem lexI_neg : ∀ a b:List Int,lexI b a = - lexI a b
 | [],[]=>rfl
 | [],_::_=>rfl
 |_::_,[]=>rfl
 |x::a,y::b=>by
  unfold lexI;by_cases h1:x<y
  ·have h2 : ¬y<x:=by omega
   simp [h1,h2]
  ·by_cases h2:y<x
   ·simp [h1,h2]
   ·simp only [h1,h2,EF];exact lexI_neg a b
theorem yM : ∀ a b c:List Int,a.length=b.length->b.length=c.length->lexI a b<=0->lexI b c<=0->lexI a c<=0
 | [],_,_,_,_,_,_=>by unfold lexI;exact Int.le_refl _
 |x::a,[],_,h,_,_,_=>by cases h
 |x::a,y::b,[],_,h,_,_=>by cases h
 |x::a,y::b,z::c,l1,l2,h1,h2=>by
  unfold lexI at h1 h2 |-;by_cases e1:x<y
  ·by_cases e2:y<z
   ·rw [DL (by omega)];decide
   ·rw [DM e2] at h2;by_cases e3:z<y
    ·rw [DL e3] at h2;omega
    ·rw [DL (by omega)];decide
  ·rw [DM e1] at h1;by_cases e4:y<x
   ·rw [DL e4] at h1;omega
   ·rw [DM e4] at h1;by_cases e2:y<z
    ·rw [DL (by omega)];decide
    ·rw [DM e2] at h2;by_cases e3:z<y
     ·rw [DL e3] at h2;omega
     ·rw [DM e3] at h2;rw [DM (by omega),DM (by omega)];exact yM a b c (by simpa using l1) (by simpa using l2) h1 h2
theorem lexI_eq : ∀ a b:List Int,a.length=b.length->lexI a b=0->a=b
 | [],[],_,_=>rfl
 | [],_::_,h,_=>by cases h
 |_::_,[],h,_=>by cases h
 |x::a,y::b,l,h=>by
  unfold lexI at h;by_cases e1:x<y
  ·rw [DL e1] at h;omega
  ·rw [DM e1] at h;by_cases e2:y<x
   ·rw [DL e2] at h;omega
   ·rw [DM e2] at h;rw [lexI_eq a b (by simpa using l) h,show x=y by omega]
def AQ (r:av):List Int := [r.ja,r.qP,if r.held then 1 else 0,r.k,r.n]
theorem pT (a b:av):pq a b=lexI (AQ a) (AQ b):=by
 have key : ∀ (x y z:Int),(if iH x y=0 then z else iH x y)=if x<y then -1 else if y<x then 1 else z:=by
  intro x y z;unfold iH;by_cases h1:x<y
  ·simp [h1]
  ·by_cases h2:y<x
   ·simp [h1,h2]
   ·simp [h1,h2]
 have hh:(if a.held=b.held then (0:Int) else if a.held then 1 else -1)=iH (if a.held then 1 else 0) (if b.held then 1 else 0):=by unfold iH;cases a.held<;>cases b.held<;>simp
 unfold pq;rw [hh];unfold AQ;simp only [orL,key,lexI]
theorem tT (a b:av):pq b a = - pq a b:=by rw [pT,pT,lexI_neg]
theorem sM {a b c:av} (h1:pq a b<=0) (h2:pq b c<=0):pq a c<=0:=by rw [pT] at *;exact yM (AQ a) (AQ b) (AQ c) (by rfl) (by rfl) h1 h2
theorem cmpR_self (a:av):pq a a=0:=by have:=tT a a;omega
theorem cmpR_eq {a b:av} (hp:nD a b=true) (h:pq a b=0):a=b:=by
 rw [pT] at h;have e:=lexI_eq (AQ a) (AQ b) (by rfl) h;unfold AQ at e;simp only [HJ,JW] at e;obtain ⟨e1,e2,e3,e4,e5⟩:=e;obtain ⟨p1,p2,p3⟩:=fJ.1 hp;have e6:a.held=b.held:=by cases h1:a.held<;>cases h2:b.held<;>rw [h1,h2] at e3<;>first|rfl|(simp at e3)
 exact av.ext p1 p2 p3 (by omega) (by omega) e6 e4 e5
theorem zx {a b:av} (h:pq a b<=0):a.ja<=b.ja:=by
 rw [pT] at h;unfold AQ lexI at h;by_cases h1:(a.ja:Int)<b.ja
 ·omega
 ·rw [DM h1] at h;by_cases h2:(b.ja:Int)<a.ja
  ·rw [DL h2] at h;omega
  ·omega
def AV (L:List av) (x:av):Prop:=x∈L /\ ∀ y∈L,nD x y=true->pq y x<=0
def Void (L:List av) (x:av):Prop:=x.kind=3/\((∃ y∈L,y.kind=2/\y.obj=x.obj) \/ ∃ y∈L,y.kind=1/\y.aU=x.aU/\x.ja<y.ja)
def Nf (L:List av) (x:av):Prop:=AV L x /\ ¬Void L x
structure MOf (P M:List av):Prop where
 dist:kg M
 sub : ∀ x∈M,x∈P
 cov : ∀ y∈P,∃ z∈M,nD y z=true/\pq y z<=0
theorem kg.eq {M:List av} (d:kg M) {x y:av} (hx:x∈M) (hy:y∈M) (h:nD x y=true):x=y:=by
 unfold kg at d;rw [HE] at d;obtain ⟨i,hi,rfl⟩:=FE.1 hx;obtain ⟨j,hj,rfl⟩:=FE.1 hy;rcases Nat.lt_trichotomy i j with h1|h1|h1
 ·rw [d i j hi hj h1] at h;cases h
 ·subst h1;rfl
 ·rw [iz,d j i hj hi h1] at h;cases h
theorem MOf.mem {P M:List av} (m:MOf P M) (x:av):x∈M↔AV P x:=by
 constructor
 ·intro hx;refine ⟨m.sub x hx,fun y hy h => ?_⟩;obtain ⟨z,hz,h1,h2⟩:=m.cov y hy;have:x=z:=m.dist.eq hx hz (hF h h1);rw [this];exact h2
 ·rintro ⟨h1,h2⟩;obtain ⟨z,hz,h3,h4⟩:=m.cov x h1;have h5:=h2 z (m.sub z hz) h3;have h6:=tT x z;have:x=z:=cmpR_eq h3 (by omega);rw [this];exact hz
theorem yY {r:av} {M:List av} (h:nx r M=none) : ∀ x∈M,nD r x=false:=by unfold nx at h;rw [List.find?_eq_none] at h;intro x hx;have:=h x hx;simpa using this
theorem ym {M:List av} {r x:av} (d:kg M):x∈putM M r↔(x∈M/\nD r x=false)\/x=r:=by
 unfold putM;cases h:idx r M with
 |none=>
  have hn:=oK h;rw [DU,EK];constructor
  ·rintro (h1|h1)
   ·exact .inl ⟨h1,hn x h1⟩
   ·exact .inr h1
  ·rintro (h1|h1)
   ·exact .inl h1.1
   ·exact .inr h1
 |some i=>
  obtain ⟨hi,ha,_⟩:=nR h;constructor
  ·intro hx;obtain ⟨j,hj,rfl⟩:=FE.1 hx;rw [List.getElem_set];split
   ·exact .inr rfl
   ·rename_i hne;have hj':j<M.length:=by simpa using hj
    refine .inl ⟨EL hj',?_⟩;cases e:nD r M[j] with
    |false=>rfl
    |true=>
     have hd:=d;unfold kg at hd;rw [HE] at hd;have h3:nD M[i] M[j]=true:=hF (by rw [iz];exact ha) e;rcases Nat.lt_or_gt_of_ne hne with h1|h1
     ·rw [hd i j hi hj' h1] at h3;cases h3
     ·rw [iz,hd j i hj' hi h1] at h3;cases h3
  ·rintro (⟨h1,h2⟩|rfl)
   ·obtain ⟨j,hj,rfl⟩:=FE.1 h1;have hne:i≠j:=fun e=>by subst e;rw [ha] at h2;cases h2
    exact FE.2 ⟨j,by simpa using hj,by show (M.set i r)[j]'_=M[j];rw [List.getElem_set,DM hne]⟩
   ·exact FE.2 ⟨i,by simpa using hi,by show (M.set i x)[i]'_=x;rw [List.getElem_set_self]⟩
theorem MOf.step {P M:List av} (m:MOf P M) (r:av):MOf (P ++ [r]) (eG M r):=by
 have hneg:=fun a b=>tT a b;unfold eG;split
 ·rename_i hn;refine ⟨Bi m.dist r,fun x hx => ?_,fun y hy => ?_⟩
  ·rcases putM_mem hx with h|rfl
   ·exact FD _ (m.sub x h)
   ·exact EW _ ED
  ·rcases DU.1 hy with h|h
   ·obtain ⟨z,hz,h1,h2⟩:=m.cov y h;cases e:nD r z with
    |false=>exact ⟨z,(ym m.dist).2 (.inl ⟨hz,e⟩),h1,h2⟩
    |true=>
     refine ⟨r,(ym m.dist).2 (.inr rfl),hF h1 (by rw [iz];exact e),?_⟩;cases hf:nx r M with
     |none=>rw [yY hf z hz] at e;cases e
     |some q=>
      have hq:=qQ hf;have:q=z:=m.dist.eq hq.1 hz (hF (by rw [iz];exact hq.2) e);subst this;unfold tU at hn;rw [hf] at hn;simp only [Option.isSome_some,DP,Option.getD_some,EO,DS] at hn;have h5:=hneg r q;exact sM h2 (by omega)
   ·rw [EK.1 h];exact ⟨r,(ym m.dist).2 (.inr rfl),atB_self r,by rw [cmpR_self];exact Int.le_refl _⟩
 ·rename_i hn;refine ⟨m.dist,fun x hx=>FD _ (m.sub x hx),fun y hy => ?_⟩;rcases DU.1 hy with h|h
  ·exact m.cov y h
  ·rw [EK.1 h];cases hf:nx r M with
   |none=>exact absurd (by unfold tU;rw [hf];rfl) hn
   |some q=>
    have hq:=qQ hf;refine ⟨q,hq.1,hq.2,?_⟩;unfold tU at hn;rw [hf] at hn;simp only [Option.isSome_some,DP,Option.getD_some,EO,DS] at hn;omega
theorem mof_fold : ∀ (L P M:List av),MOf P M->MOf (P++L) (L.foldl eG M)
 | [],P,M,m=>by rw [EU];exact m
 |r::L,P,M,m=>by have:=mof_fold L (P ++ [r]) (eG M r) (m.step r);rw [ER] at this;exact this
theorem sw (L:List av):MOf L (dw L):=by
 have:=mof_fold L [] [] ⟨.nil,(fun _ h=>by cases h),(fun _ h=>by cases h)⟩
 rwa [List.nil_append] at this
theorem yq (L:List av) (x:av):x∈dw L↔AV L x:=(sw L).mem x
theorem keep_iff {L:List av} (v:mQ L) (x:av):gK (dw L) x=true ↔ ¬Void L x:=by
 have m:=sw L;have hg:(nx (jh x.obj) (dw L)).isSome=true ↔ ∃ y∈L,y.kind=2/\y.obj=x.obj:=by
  constructor
  ·intro h;obtain ⟨q,hq⟩:=FZ.1 h;obtain ⟨h1,h2⟩:=qQ hq;obtain ⟨e1,e2,_⟩:=fJ.1 h2;exact ⟨q,m.sub q h1,e1.symm,e2.symm⟩
  ·rintro ⟨y,hy,h1,h2⟩;obtain ⟨z,hz,h3,_⟩:=m.cov y hy;have hh:y.aU=0:=by
    rcases td (v y hy).2 with h|h|h
    ·omega
    ·rw [h.2];rfl
    ·omega
   cases hf:nx (jh x.obj) (dw L) with
   |some q=>rfl
   |none=>
    have:=yY hf z hz;rw [show nD (jh x.obj) z=true from hF (b:=y) (fJ.2 ⟨h1.symm,h2.symm,hh.symm⟩) h3] at this;cases this
 have hb:x.ja<((nx (pA x.aU) (dw L)).getD av.z).ja ↔ ∃ y∈L,y.kind=1/\y.aU=x.aU/\x.ja<y.ja:=by
  constructor
  ·intro h;cases hf:nx (pA x.aU) (dw L) with
   |none=>
    rw [hf] at h;exact absurd h (FP _)
   |some q=>
    rw [hf] at h;obtain ⟨h1,h2⟩:=qQ hf;obtain ⟨e1,_,e3⟩:=fJ.1 h2;exact ⟨q,m.sub q h1,e1.symm,e3.symm,h⟩
  ·rintro ⟨y,hy,h1,h2,h3⟩;obtain ⟨z,hz,h4,h5⟩:=m.cov y hy;have ho:y.obj=z32:=by
    rcases td (v y hy).2 with h|h|h
    ·rw [h.2.1];rfl
    ·omega
    ·omega
   have h6:nD (pA x.aU) z=true:=hF (b:=y) (fJ.2 ⟨h1.symm,ho.symm,h2.symm⟩) h4;cases hf:nx (pA x.aU) (dw L) with
   |none=>rw [yY hf z hz] at h6;cases h6
   |some q=>
    obtain ⟨q1,q2⟩:=qQ hf;have:q=z:=m.dist.eq q1 hz (hF (by rw [iz];exact q2) h6);subst this;have:=zx h5;exact EJ h3 this
 unfold gK Void;rw [FW,<-Bool.not_eq_true,DK,FY,DS,DS,hg,hb]
theorem jL {A B:List av} (v:mQ (A++B)) (x:av):x∈aT A B↔Nf (A++B) x:=by show x∈rR _↔_;rw [(gH _).mem_iff,EE,yq,keep_iff v];exact Iff.rfl
theorem KS.ext {A B:List av} (ha:KS A) (hb:KS B) (h : ∀ x,x∈A↔x∈B):A=B:=by
 have nd : ∀ {L:List av},KS L->L.Nodup:=fun {L} k=>by refine List.Pairwise.imp (fun {a b} hh e => ?_) k;subst e;have:gN a a=0:=Go.Proofs.YtdnahgfgoajmcaaGreatDoor.tu _;omega
 exact ha.yL hb ((IY (nd ha) (nd hb)).2 h)
theorem top_of {L:List av} {y:av} (hy:y∈L) : ∃ z,AV L z/\nD y z=true/\pq y z<=0:=by obtain ⟨z,hz,h1,h2⟩:=(sw L).cov y hy;exact ⟨z,(yq L z).1 hz,h1,h2⟩
theorem nf_nf {S L B:List av} (hS : ∀ x,x∈S↔Nf L x) (x:av):Nf (S++B) x↔Nf (L++B) x:=by
 have sub : ∀ y∈S,y∈L:=fun y hy=>((hS y).1 hy).1.1;have subA : ∀ y∈S++B,y∈L++B:=fun y hy=>by
  rcases DU.1 hy with h|h
  ·exact FD _ (sub y h)
  ·exact EW _ h
 have grv : ∀ y∈L,y.kind=2 -> ∃ z∈S,z.kind=2/\z.obj=y.obj:=fun y hy hk=>by obtain ⟨z,hz,h1,_⟩:=top_of hy;obtain ⟨e1,e2,_⟩:=fJ.1 h1;exact ⟨z,(hS z).2 ⟨hz,fun hv=>by have:=hv.1;omega⟩,by omega,e2.symm⟩
 have bas : ∀ y∈L,y.kind=1 -> ∃ z∈S,z.kind=1/\z.aU=y.aU/\y.ja<=z.ja:=fun y hy hk=>by obtain ⟨z,hz,h1,h2⟩:=top_of hy;obtain ⟨e1,_,e3⟩:=fJ.1 h1;exact ⟨z,(hS z).2 ⟨hz,fun hv=>by have:=hv.1;omega⟩,by omega,e3.symm,zx h2⟩
 have vd : ∀ {x:av},Void (L++B) x->Void (S++B) x:=fun {x} hv=>by
  refine ⟨hv.1,?_⟩;rcases hv.2 with ⟨y,hy,h1,h2⟩|⟨y,hy,h1,h2,h3⟩
  ·rcases DU.1 hy with h|h
   ·obtain ⟨z,hz,e1,e2⟩:=grv y h h1;exact .inl ⟨z,FD _ hz,e1,e2.trans h2⟩
   ·exact .inl ⟨y,EW _ h,h1,h2⟩
  ·rcases DU.1 hy with h|h
   ·obtain ⟨z,hz,e1,e2,e3⟩:=bas y h h1;exact .inr ⟨z,FD _ hz,e1,e2.trans h2,by omega⟩
   ·exact .inr ⟨y,EW _ h,h1,h2,h3⟩
 have vd' : ∀ {x:av},Void (S++B) x->Void (L++B) x:=fun {x} hv=>by
  refine ⟨hv.1,?_⟩;rcases hv.2 with ⟨y,hy,h⟩|⟨y,hy,h⟩
  ·exact .inl ⟨y,subA y hy,h⟩
  ·exact .inr ⟨y,subA y hy,h⟩
 constructor
 ·rintro ⟨⟨hx,ht⟩,hv⟩;refine ⟨⟨subA x hx,fun y hy hp => ?_⟩,fun h=>hv (vd h)⟩;rcases DU.1 hy with h|h
  ·
   obtain ⟨z,hz,h1,h2⟩:=top_of h;by_cases hzv:Void L z
   ·
    have hxz:=hF hp h1;by_cases hc:pq z x<=0
    ·exact sM h2 hc
    ·exfalso;have hn:=tT x z;have hinc:=zx (a:=x) (b:=z) (by omega);obtain ⟨e1,e2,e3⟩:=fJ.1 hxz;refine hv (vd ⟨by have:=hzv.1;omega,?_⟩);rcases hzv.2 with ⟨q,hq,g1,g2⟩|⟨q,hq,g1,g2,g3⟩
     ·exact .inl ⟨q,FD _ hq,g1,g2.trans e2.symm⟩
     ·exact .inr ⟨q,FD _ hq,g1,g2.trans e3.symm,by omega⟩
   ·have hzS:z∈S:=(hS z).2 ⟨hz,hzv⟩;exact sM h2 (ht z (FD _ hzS) (hF hp h1))
  ·exact ht y (EW _ h) hp
 ·rintro ⟨⟨hx,ht⟩,hv⟩;refine ⟨⟨?_,fun y hy hp=>ht y (subA y hy) hp⟩,fun h=>hv (vd' h)⟩;rcases DU.1 hx with h|h
  ·refine FD _ ((hS x).2 ⟨⟨h,fun y hy hp=>ht y (FD _ hy) hp⟩,fun h2=>hv ⟨h2.1,?_⟩⟩);rcases h2.2 with ⟨q,hq,g⟩|⟨q,hq,g⟩
   ·exact .inl ⟨q,FD _ hq,g⟩
   ·exact .inr ⟨q,FD _ hq,g⟩
  ·exact EW _ h
end Go.Proofs.YtdnahgfgoajmcaaGreatDoor
namespace Go.Proofs.YtdnahgfgoajmcaaGreatDoor
open Go Go.Abs Tryz
open Go.Lib (compareBytes)
attribute [local congr] aw
noncomputable abbrev YV:au:=callL [(21,s25)]
abbrev SV:List Nat := [5,7,15,35,12,18,32,39,13,14,8,63,25,19,23,20,41,42,33,40,34,28,27,30,61,64,65,66,67,68,10,11,38,16,17]
theorem YV_sound:bp prog YV:=mG _ (by intro p hp;simp only [FQ,GO,JG] at hp;subst hp;exact c25)
noncomputable def CV:au:=CC2 prog XX YV SV
theorem CA {f:FuncId} (hf:f≠21) (args:List Value) (h:ai):YV f args h=none:=by show (if f=21 then s25 args h else none)=none;rw [DM hf]
theorem jx {f:FuncId} {args:List Value} {h:ai} {r:Value×ai} (hS:SV.contains f=true) (hf:f≠21) (e:CW f args h=some r):CV f args h=some r:=CC2_up hS (CA hf _ _) e
theorem jX {f:FuncId} {fn:Func} (i:cx prog f fn) {args:List Value} {h:ai} {r:Value×ai} (hg:4<=h.n0) (hS:SV.contains f=false) (hf:f≠21) (e:bw prog CV fn args h=some r):CV f args h=some r:=
 CC2_body i (by rw [lD];exact hg) hS (CA hf _ _) e
theorem ne_len {h:ai} {b c:Nat} {k:ju} {w:Value} (e:h.get b=some k) (hc:h.get c=some [w]) (hl:k.length≠1):b≠c:=fun q=>by subst q;rw [e] at hc;cases hc;exact hl rfl
theorem gC.keepC {h h':ai} {v w:Value} {P:List av} {c:Nat} (x:gC h v P) (k:az h h' (· = c)) (hc:h.get c=some [w]):gC h' v P:=by obtain ⟨hd,a,d,rfl,hn,ht,h0⟩:=x;refine ⟨hd,a,d,rfl,hn,ht,fun hp => ?_⟩;obtain ⟨b,off,s,q,rfl,hk,hlen,hcs⟩:=h0 hp;rw [show jO.length=39 from rfl] at hlen;exact ⟨b,off,s,q,rfl,k.getE hk (ne_len hk hc (by omega)),by rw [show jO.length=39 from rfl];exact hlen,hcs⟩
structure kj (h:ai) (vb:Nat) (L:List av):Prop where
 n0:h.n0<=vb
 ex : ∃ va,h.get vb=some [va]/\gC h va L/\gx va
 vld:mQ L
 ks:KS L
theorem kj.cell {h:ai} {vb:Nat} {L:List av} (x:kj h vb L) : ∃ w,h.get vb=some [w]:=by obtain ⟨va,h1,_⟩:=x.ex;exact ⟨va,h1⟩
theorem kj.old {h h':ai} {vb:Nat} {L:List av} (x:kj h vb L) (o:aE h h'):kj h' vb L:=by obtain ⟨va,h1,h2,h3⟩:=x.ex;exact ⟨by rw [o.n0];exact x.n0,⟨va,aE.get o h1,h2.mono o,h3⟩,x.vld,x.ks⟩
theorem fu {P:List av} (hd : ∀ p∈P,av.Wf p):yE jO P.length (bA P):=by refine ⟨dE hd,fun i hi => ?_⟩;rw [show jO.length=39 from rfl,kO hd hi];refine cZ (hd _ ?_);rw [DJ,DB hi];exact EL hi
theorem gC.of_blk {h:ai} {b n c:Nat} {s:Option Nat} {P:List av} (hd : ∀ p∈P,av.Wf p) (hn:n=P.length) (hg:h.get b=some (bA P)):gC h (.slice (some ⟨b,0,s⟩) n c) P:=by
 subst hn;have hl:=dE hd;refine ⟨hd,some ⟨b,0,s⟩,c,rfl,(fun h=>by cases h),fu hd,fun _=>⟨b,0,s,bA P,rfl,hg,?_,?_⟩⟩
 ·rw [show jO.length=39 from rfl,hl,DH];exact DD _
 ·rw [show jO.length=39 from rfl,EP,<-hl,GN]
theorem jc.rcs {h:ai} {N:Nat} {v:Value} {L:List av} (x:jc h N v L):gC h v L:=by obtain ⟨hw,b,s,rfl,h1,_⟩:=x;exact gC.of_blk hw rfl h1
theorem r25B {h:ai} {vb:Nat} {v:Value} {L R:List av} (I:kj h vb L) (x:kz h v R) (vr : ∀ r∈R,dX r=true) (hL:L.length<=500000) (hR:R.length<=500000) :
  ∃ h',CV 21 [ptr vb 0,v] h=some (.int .i64 0,h')/\kj h' vb (aT L R)/\az h h' (· = vb) /\ ∀ va b,h'.get vb=some [va]->slB va=some b->b=h.next:=by
 obtain ⟨va,gv,ra,na⟩:=I.ex;have ok:BG [ptr vb 0,v] h vb va L v R:=⟨rfl,I.n0,gv,ra.rsl,x,I.vld,hL,hR⟩
 have hi:jj R=false:=by unfold jj;rw [H3];intro r hr;rw [vr r hr];decide
 have e:=s25_eq ok;rw [DM (by rw [hi];exact HX)] at e;have vl:mQ (L++R):=fun r hr=>by
  rcases DU.1 hr with h1|h1
  ·exact I.vld r h1
  ·exact ⟨x.2.1 r h1,vr r h1⟩
 obtain ⟨wv,wk⟩:=kX vl;generalize aT L R=M at *;have vlt:=h.aO gv;have gB:=rC (h:=h) M I.n0 gv;have k:az h (CH h vb M) (· = vb):=⟨rfl,by rw [kW];omega,fun c hc hn=>by rw [gB,DM (by omega),DM hn]⟩
 have g1:(CH h vb M).get vb=some [.slice (some ⟨h.next,0,if M = [] then none else some 39⟩) M.length M.length]:=ai.get_of_getB _ (by rw [gB,DM (by omega),DL rfl]);have g2:(CH h vb M).get h.next=some (bA M):=ai.get_of_getB _ (by rw [gB,DL rfl]);refine ⟨_,BH e,⟨I.n0,⟨_,g1,gC.of_blk (fun r hr=>(wv r hr).1) rfl g2,.inr ⟨_,_,_,rfl,DD _,fun t e=>by
  have e:(if M = [] then none else some 39)=some t:=e;split at e
  ·cases e
  ·exact (H5 e).symm⟩⟩,wv,wk⟩,k,fun va' b' e1 e2 => ?_⟩
 rw [g1] at e1;cases e1;cases hM:M.length with
 |zero=>rw [hM] at e2;cases e2
 |succ n=>rw [hM] at e2;cases e2;rfl
theorem r25 {h:ai} {vb:Nat} {v:Value} {L R:List av} (I:kj h vb L) (x:kz h v R) (vr : ∀ r∈R,dX r=true) (hL:L.length<=500000) (hR:R.length<=500000) :
  ∃ h',CV 21 [ptr vb 0,v] h=some (.int .i64 0,h')/\kj h' vb (aT L R)/\az h h' (· = vb):=by
 obtain ⟨h',e,i,k,_⟩:=r25B I x vr hL hR;exact ⟨h',e,i,k⟩
theorem gC.keepS {h h':ai} {v:Value} {P:List av} {c:Nat} (x:gC h v P) (k:az h h' (· = c)) (hc:slB v≠some c):gC h' v P:=by
 obtain ⟨hd,a,d,rfl,hn,ht,h0⟩:=x;refine ⟨hd,a,d,rfl,hn,ht,fun hp => ?_⟩;obtain ⟨b,off,s,q,rfl,hk,hlen,hcs⟩:=h0 hp;refine ⟨b,off,s,q,rfl,k.getE hk (fun e=>hc ?_),hlen,hcs⟩;have e:b=c:=e;cases hP:P.length with
 |zero=>rw [hP] at hp;exact absurd hp (GH 0)
 |succ n=>rw [e];rfl
theorem jc.pushL {h:ai} {N:Nat} {v w:Value} {L P:List av} (x:jc h N v L) (y:gC h w P) (h0:h.n0<=N) (hN:N<=h.next) (hl:L.length<=1000000) (hp:P.length<=1000000) :
  ∃ v' h',appendA 39 88 v w h=some (v',h')/\jc h' N v' (L++P)/\az h h' (· = rlB v)/\(rlB v'=rlB v\/rlB v'=h.next):=by
 obtain ⟨hw,b,s,rfl,g1,g2,g3⟩:=x;obtain ⟨hd,a,c,rfl,hn,ht,hy⟩:=y;by_cases hz:P.length=0
 ·have hP:P = []:=DW.1 hz;subst hP;refine ⟨.slice (some ⟨b,0,s⟩) L.length L.length,h,?_,by rw [EU];exact ⟨hw,b,s,rfl,g1,g2,g3⟩,az.refl _ _,.inl rfl⟩;have hf:firstA 39 0 (.slice a 0 c) h=some []:=by
   unfold firstA;cases a with
   |none=>rfl
   |some a=>obtain ⟨b',off,s'⟩:=a;rfl
  unfold appendA;simp only [List.length_nil,ik,hf];rw [DM (by simp [aM];omega),DL (by omega),DL trivial]
 ·obtain ⟨b',off,s',k,rfl,hk,hlen,hcs⟩:=hy (by omega);rw [show jO.length=39 from rfl] at hlen hcs;have cr:=lP hd;have lp:=dE hd;have lc:=dE hw;have ok:=lP hw;have hw' : ∀ q∈L++P,av.Wf q:=fun q hq=>by
   rcases DU.1 hq with h1|h1
   ·exact hw q h1
   ·exact hd q h1
  have lT:(L++P).length=L.length+P.length:=DE;have hne:L++P ≠ []:=fun e=>by have:=GM List.length e;rw [lT,List.length_nil] at this;omega
  have hf:firstA 39 P.length (.slice (some ⟨b',off,s'⟩) P.length c) h=some (bA P):=by unfold firstA;simp only;rw [DM (by omega),hk];simp only;rw [hcs,DL ⟨hlen,cr.1⟩]
  have hcond:(!(aM (bA P)) || !(decide ((L.length+P.length)*88<=140737488355328)) || !(decide (L.length+P.length<=4611686018427387904))||decide ((bA P).length≠P.length*39))=false:=by rw [cr.2,DC (by omega:(L.length+P.length)*88<=140737488355328),DC (by omega:L.length+P.length<=4611686018427387904),DF (by rw [lp];simp)];rfl
  have hfo:firstA 39 L.length (.slice (some ⟨b,0,s⟩) L.length L.length) h=some (bA L):=by
   unfold firstA;simp only;by_cases hz2:L.length*39=0
   ·rw [DL hz2];rw [DW.1 (by omega:L.length=0)];rfl
   ·have e:((bA L).drop 0).take (L.length*39)=bA L:=by rw [EP,DX (by omega)]
    rw [DM hz2,g1];simp only;rw [e,DL ⟨by omega,ok.1⟩]
  have fin : ∀ g:ai,N<=g.next->jc (g.alloc (bA L++bA P)) N (.slice (some ⟨g.next,0,some 39⟩) (L.length+P.length) (L.length+P.length)) (L++P):=fun g hg=>
   ⟨hw',g.next,some 39,by rw [lT],by rw [ai.aN,DL rfl,jF],hg,.inr ⟨hne,rfl⟩⟩
  rcases g3 with ⟨_,rfl⟩|⟨_,rfl⟩
  ·refine ⟨.slice (some ⟨h.next,0,some 39⟩) (L.length+P.length) (L.length+P.length),h.alloc (bA L++bA P),?_,fin h hN,az.alloc _ _ _,.inr rfl⟩;unfold appendA;simp only [ik,hf];rw [DM (by rw [hcond];decide),DM (by omega)];simp only [hfo];rw [DM (by omega)]
  ·refine ⟨.slice (some ⟨h.next,0,some 39⟩) (L.length+P.length) (L.length+P.length),(h.kill b).alloc (bA L++bA P),?_,fin (h.kill b) hN,?_,.inr rfl⟩
   ·unfold appendA;simp only [ik,hf];rw [DM (by rw [hcond];decide),DM (by omega)];simp only [hfo];rw [DM (by omega),DL (by rw [g1];simp;omega)]
   ·refine ⟨rfl,by simp,fun q hq hb => ?_⟩;rw [ai.cN,ai.fU,DM (by omega)];unfold ai.kill;rw [h.cT (by omega) (h.aO g1),DM (show ¬q=b from hb)]
theorem kz.rd {h:ai} {v:Value} {L:List av} (x:kz h v L) {j:Nat} (hj:j<L.length) : ∃ b o,idxS 39 v (aq j)=some (ptr b o)/\L[j].Wf /\ ∀ g:ai,aE h g->du 39 (ptr b o) g=some (dW L[j],g):=by
 obtain ⟨b,o,ix,wr,_,lp⟩:=x.at hj;have e:L.getD j av.z=L[j]:=by rw [DJ,DB hj];rfl
 rw [e] at wr lp;exact ⟨b,o,ix,wr,lp⟩
theorem any_take {α:Type} {L:List α} {i:Nat} (hi:i<L.length) (p:α->Bool):(L.take (i+1)).any p=((L.take i).any p||p L[i]):=by rw [FF hi,List.any_append];simp
theorem bt:(cn (.bool true)==some true)=true:=rfl
theorem bt':(cn (.bool true)==some false)=false:=rfl
theorem bf:(cn (.bool false)==some false)=true:=rfl
theorem bf':(cn (.bool false)==some true)=false:=rfl
theorem bu:(cn undef==some false)=false:=rfl
theorem bu':(cn undef==some true)=false:=rfl
theorem chkJ (r:bc) (v:Value):cq false r v=true:=rfl
def iR:Value->Option Nat
 | .slice (some ⟨b,_,_⟩) _ _=>some b
 |_=>none
structure dP (z:Nat) (h:ai) (N:Nat) (v:Value) (n:Nat) (cs:List Value):Prop where
 len:cs.length=n*z
 hol:Abs.noHoles cs=true
 one:aM cs=true
 form:(n=0/\v = .slice none 0 0) \/ ∃ b s,v = .slice (some ⟨b,0,s⟩) n n/\h.get b=some cs/\N<=b/\((n=0/\s=none)\/(0<n/\s=some z))
theorem dP.nil (z:Nat) (h:ai) (N:Nat):dP z h N (.slice none 0 0) 0 []:=⟨by simp,rfl,rfl,.inl ⟨rfl,rfl⟩⟩
theorem dP.old {z:Nat} {h h':ai} {N:Nat} {v:Value} {n:Nat} {cs:List Value} (x:dP z h N v n cs) (o:aE h h'):dP z h' N v n cs:=by
 refine ⟨x.len,x.hol,x.one,?_⟩;rcases x.form with f|⟨b,s,e,g,f⟩
 ·exact .inl f
 ·exact .inr ⟨b,s,e,aE.get o g,f⟩
theorem dP.lenL {z:Nat} {h:ai} {N:Nat} {v:Value} {n:Nat} {cs:List Value} (x:dP z h N v n cs):Abs.lenL v=some (aq n):=by rcases x.form with ⟨rfl,rfl⟩|⟨b,s,rfl,_⟩<;>rfl
theorem dP.blk {z:Nat} {h:ai} {N:Nat} {v:Value} {n:Nat} {cs:List Value} (x:dP z h N v n cs) {b:Nat} (e:iR v=some b):N<=b/\b<h.next:=by
 rcases x.form with ⟨_,rfl⟩|⟨b',s,rfl,g,hN,_⟩
 ·cases e
 ·cases e;exact ⟨hN,h.aO g⟩
theorem dP.push {z jt:Nat} {h:ai} {N c:Nat} {v:Value} {n:Nat} {cs e:List Value} (x:dP z h N v n cs) (hz:0<z) (hb:jt<=1000) (h0:h.n0<=N) (hN:N<=h.next) (hl:n<=1000000) (he:e.length=z) (ho:Abs.noHoles e=true) (h1:aM e=true) (hc:h.get c=some e) :
  ∃ v' h',appendA z jt v (.slice (some ⟨c,0,none⟩) 1 1) h=some (v',h')/\dP z h' N v' (n+1) (cs++e)/\az h h' (fun b=>iR v=some b):=by
 have hlen:=x.len;have hf:firstA z 1 (.slice (some ⟨c,0,none⟩) 1 1) h=some e:=by
  have e1:(e.drop 0).take (1*z)=e:=by rw [EP,JT,DX (by omega)]
  unfold firstA;simp only;rw [DM (by omega),hc];simp only;rw [e1,DL ⟨by omega,ho⟩]
 have hcond:(!(aM e) || !(decide ((n+1)*jt<=140737488355328)) || !(decide (n+1<=4611686018427387904))||decide (e.length≠1*z))=false:=by have h5:(n+1)*jt<=1000001*1000:=Nat.mul_le_mul (by omega) hb;rw [h1,DC (by omega:(n+1)*jt<=140737488355328),DC (by omega:n+1<=4611686018427387904),DF (by omega)];rfl
 have hlen':(cs++e).length=(n+1)*z:=by rw [DE,hlen,he,HM,JT]
 have hol':Abs.noHoles (cs++e)=true:=by have h2:=x.hol;unfold Abs.noHoles at *;rw [FI,h2,ho];rfl
 have one':aM (cs++e)=true:=by have h2:=x.one;unfold aM at *;rw [FI,h2,h1];rfl
 have fin : ∀ g:ai,N<=g.next->dP z (g.alloc (cs++e)) N (.slice (some ⟨g.next,0,some z⟩) (n+1) (n+1)) (n+1) (cs++e):=fun g hg=>
  ⟨hlen',hol',one',.inr ⟨g.next,some z,rfl,by rw [ai.aN,DL rfl],hg,.inr ⟨by omega,rfl⟩⟩⟩
 rcases x.form with ⟨rfl,rfl⟩|⟨b,s,rfl,g1,g2,g3⟩
 ·have hcs:cs = []:=FG (by rw [hlen,GI]);subst hcs;refine ⟨.slice (some ⟨h.next,0,some z⟩) 1 1,h.alloc ([]++e),?_,fin h hN,az.alloc _ _ _⟩;unfold appendA;simp only [ik,hf];rw [DM (by rw [hcond];decide),DM (by decide)];rfl
 ·have hfo:firstA z n (.slice (some ⟨b,0,s⟩) n n) h=some cs:=by
   unfold firstA;simp only;by_cases hz2:n*z=0
   ·rw [DL hz2,FG (by omega:cs.length=0)]
   ·have e2:(cs.drop 0).take (n*z)=cs:=by rw [EP,DX (by omega)]
    rw [DM hz2,g1];simp only;rw [e2,DL ⟨by omega,x.hol⟩]
  rcases g3 with ⟨_,rfl⟩|⟨_,rfl⟩
  ·refine ⟨.slice (some ⟨h.next,0,some z⟩) (n+1) (n+1),h.alloc (cs++e),?_,fin h hN,az.alloc _ _ _⟩;unfold appendA;simp only [ik,hf];rw [DM (by rw [hcond];decide),DM (by omega)];simp only [hfo];rw [DM (by omega)]
  ·refine ⟨.slice (some ⟨h.next,0,some z⟩) (n+1) (n+1),(h.kill b).alloc (cs++e),?_,fin (h.kill b) hN,?_⟩
   ·unfold appendA;simp only [ik,hf];rw [DM (by rw [hcond];decide),DM (by omega)];simp only [hfo];rw [DM (by omega),DL (by rw [g1];simp;omega)]
   ·refine ⟨rfl,by simp,fun q hq hb => ?_⟩;rw [ai.cN,ai.fU,DM (by omega)];unfold ai.kill;rw [h.cT (by omega) (h.aO g1),DM (fun e=>hb (by rw [e];rfl))]
theorem dP.keep {z:Nat} {h h':ai} {N:Nat} {v:Value} {n:Nat} {cs:List Value} (x:dP z h N v n cs) {B:Nat->Prop} (k:az h h' B) (hB : ∀ b,iR v=some b -> ¬B b):dP z h' N v n cs:=by
 refine ⟨x.len,x.hol,x.one,?_⟩;rcases x.form with f|⟨b,s,rfl,g,f⟩
 ·exact .inl f
 ·exact .inr ⟨b,s,rfl,k.getE g (hB b rfl),f⟩
theorem dP.wform {z:Nat} {h:ai} {N:Nat} {v:Value} {n:Nat} {cs:List Value} (x:dP z h N v n cs):v = .slice none 0 0 \/ ∃ b s n,v = .slice (some ⟨b,0,s⟩) n n:=by
 rcases x.form with ⟨_,f⟩|⟨b,s,f,_⟩
 ·exact .inl f
 ·exact .inr ⟨b,s,n,f⟩
theorem dP.weak {z:Nat} {h:ai} {N M:Nat} {v:Value} {n:Nat} {cs:List Value} (x:dP z h N v n cs) (hm:M<=N):dP z h M v n cs:=by
 refine ⟨x.len,x.hol,x.one,?_⟩;rcases x.form with f|⟨b,s,f1,f2,f3,f4⟩
 ·exact .inl f
 ·exact .inr ⟨b,s,f1,f2,D7 hm f3,f4⟩
end Go.Proofs.YtdnahgfgoajmcaaGreatDoor
