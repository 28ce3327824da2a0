/-
  A part of the proof, shortened by a program.
  Conditions: as each theorem states.
-/
import Derived.Test.YtdhpgacmgebjdaaGreatDoorG25
set_option linter.all false
namespace Go.Proofs.YtdhpgacmgebjdaaGreatDoor.W
open Go Go.Abs Tryz R
noncomputable section
section
attribute [local congr] ax
def exq0 (a b c d:Vl):extractA (.tuple #[a,b,c,d]) 0=some a:=rfl
def exq1 (a b c d:Vl):extractA (.tuple #[a,b,c,d]) 1=some b:=rfl
def exq2 (a b c d:Vl):extractA (.tuple #[a,b,c,d]) 2=some c:=rfl
def exq3 (a b c d:Vl):extractA (.tuple #[a,b,c,d]) 3=some d:=rfl
def xw (D:Dk) (J:Jn) (at_:Int):Option (List Nat):=if J.live D&&J.stands D at_ then some (D.data J.area at_.toNat (D.parts J.area at_.toNat)) else none
def kh (D:Dk) (J:Jn) (id:List Nat) (at_:Int):Option (dB×Nat×List Nat×List Nat):=
 match xw D J at_ with
 |some r=>match iD r with
  |some (m,ix,d)=>if j8 m=id then some (m,ix,d,r) else none
  |none=>none
 |none=>none
def rM {D:Dk} {J:Jn} {at_:Int} (h:J.stands D at_=true):0<=at_/\at_<D.ar/\D.stands J.area J.gen at_.toNat=true:=by unfold Jn.stands at h;simp only [DD,DR] at h;exact ⟨h.1.1.2,h.1.2,h.2⟩
def recAt_len {D:Dk} {J:Jn} {at_:Int} {r:List Nat} (h:xw D J at_=some r):r.length<=106*D.ar:=by
 unfold xw at h;split at h
 ·rename_i hc;rw [DD] at hc;cases h;obtain ⟨_,_,h3⟩:=rM hc.2;have h4:=Dk.r8 h3;have h5:=D.data_length J.area at_.toNat (D.parts J.area at_.toNat);have:=Nat.mul_le_mul_left 106 (show D.parts J.area at_.toNat<=D.ar by omega);omega
 ·cases h
def r128 {h:ae} {d j:Nat} {D:Dk} {J:Jn} (x:bC h d D) (xj:cA h j d J) (h2:2<=D.n) (at_:Int) :
  ∃ v e g,CD 128 [ptr j 0,.int .i64 at_] h=some (.tuple #[v,.int .i64 e],g)/\aK h g/\match xw D J at_ with
    |some r=>e=0/\jo g h.next v r
    |none=>e≠0/\v = .slice none 0 0:=by
 unfold xw;cases hl:J.live D with
 |false=>exact ⟨_,9,h,r128_dead x xj _ hl,au.refl _ _,by decide,rfl⟩
 |true=>
  cases hs:J.stands D at_ with
  |false=>
   obtain ⟨g,e,o⟩:=r128_no x xj h2 at_ hl hs;exact ⟨_,6,g,e,o,by decide,rfl⟩
  |true=>
   obtain ⟨h0,_,_⟩:=rM hs;obtain ⟨n,rfl⟩:=Int.eq_ofNat_of_zero_le h0;obtain ⟨v,g,e,o,ow⟩:=r128_yes x xj h2 (at_:=n) hl hs;exact ⟨v,0,g,e,o,rfl,ow⟩
def jo.bs {h:ae} {N:Nat} {v:Vl} {l:List Nat} (o:jo h N v l):BS h v l /\ ∀ a n c,v = .slice (some a) n c->N<=a.block:=by obtain ⟨a,c,rfl,s,g,hb,_⟩:=o.bytes;exact ⟨.of s (fun _=>g),fun b n c e=>by cases e;exact hb _ rfl⟩
def is65:bE prog 65 f65 := .of (by kernel_rfl)
def res65:f65.results.toList = [.cell 6 35,.cell 7 37,.tmp 8,.tmp 9]:=by kernel_rfl
def results65 {n:Nat} (hn:9<n) (x:Nat->Vl) {h:ae} {a b:Vl} (e2:bQ 37 (x 6) h=some (a,h)) (e3:bQ 2 (x 7) h=some (b,h)):resultsA prog f65.results.toList (aS n x) h=some (.tuple #[a,b,x 8,x 9],h):=by rw [res65];simp only [resultsA,FJ,List.mapM_nil,dy,di (show 6<n by omega),di (show 7<n by omega),di (show 8<n by omega),di hn,j9 oQ siz35,j9 agg37 siz37,e2,e3];rfl
def MPc (A B:List Vl):Prop:=A.length=37/\aM A=true/\Abs.noHoles A=true/\B.length=2/\aM B=true/\Abs.noHoles B=true
def RePost (h:ae) (o:aY) (r:Option (dB×Nat×List Nat×List Nat)):Prop:=
 ∃ g,aK h g/\match r with
   |none => ∃ A B v,o=some (.tuple #[.agg A.toArray,.agg B.toArray,v,.bool false],g)/\MPc A B
   |some (m,ix,d,rc) => ∃ v dv rv,o=some (.tuple #[mv m v,pv ix dv,rv,.bool true],g)/\fT g m v/\BS g dv d/\BS g rv rc/\(∀ b,zK v=some b->h.next<=b)/\(∀ a n c,dv = .slice (some a) n c->h.next<=a.block)/\(∀ a n c,rv = .slice (some a) n c->h.next<=a.block)
structure JP (h:ae) (s j d:Nat) (D:Dk) (J:Jn):Prop where
 l0 : ∃ k,h.get s=some k/\k[0]? = some (ptr j 0)
 dk:bC h d D
 jn:cA h j d J
 ok:oS J D
 n2:2<=D.n
def JP.kept {h g:ae} {s j d:Nat} {D:Dk} {J:Jn} (x:JP h s j d D J) {B:Nat->Prop} (o:au h g B) (h1 : ¬B s) (h2 : ¬B d) (h3 : ¬B D.bb) (h4 : ¬B j):JP g s j d D J:=by obtain ⟨k,a,b⟩:=x.l0;exact ⟨⟨k,o.getE a h1,b⟩,o.dk x.dk h2 h3,x.jn.keep o h4,x.ok,x.n2⟩
def JP.old {h g:ae} {s j d:Nat} {D:Dk} {J:Jn} (x:JP h s j d D J) (o:aK h g):JP g s j d D J:=x.kept o id id id id
def JP.ld {h:ae} {s j d:Nat} {D:Dk} {J:Jn} (x:JP h s j d D J):ld1 (ptr s 0) h=some (ptr j 0,h):=by obtain ⟨k,a,b⟩:=x.l0;exact aH a b rfl
def iA.jp {h:ae} {S:Ss} (x:iA h S):JP h S.s S.j S.d S.D S.J:=⟨⟨_,x.c,rfl⟩,x.dk,x.jn,x.ok,x.n2⟩
set_option maxRecDepth 100000 in
def r65 {Z:ah} (z:ZOk Z) {h:ae} (T:RT h) {s j d:Nat} {D:Dk} {J:Jn} (x:JP h s j d D J) (hs:D.ar<=190) {id:List Nat} (w:fO id) (y:It):RePost h (CV Z 65 [ptr s 0,kV id,oZ y] h) (kh D J id y.at_):=by
 obtain ⟨h1,b1,o1,g1,n1⟩:=dig_box w h;obtain ⟨h2,b2,o2,g2,n2⟩ : ∃ g,box (oZ y) h1=some (ptr h1.next 0,g)/\aK h1 g/\g.get h1.next=some (itC y)/\g.next=h1.next+1:=⟨_,lC h1 (itC y) rfl,au.alloc _ _ _,by rw [ae.aZ,DH rfl],rfl⟩
 obtain ⟨h3,z3,o3,g3,n3⟩:=fresh zM h2;obtain ⟨h4,z4,o4,g4,n4⟩:=fresh zP h3;have O4:=((o1.trans o2).trans o3).trans o4;have x4:=x.old O4;have T4:=T.old O4;have ly:ld1 (ptr h1.next 0) h4=some (.int .i64 y.at_,h4):=aH (aK.get (o3.trans o4) g2) rfl rfl;obtain ⟨v5,e5,h5,c5,o5,P5⟩:=r128 x4.dk x4.jn x.n2 y.at_;have c5:=jP z T4.n0 (by rfl) c5;have O5:=O4.trans o5;have T5:=T.old O5;have N0 : ∀ {g:ae},aK h g->g.n0=h.n0:=fun o=>o.n0;have hz:=h.n0_le_next;have m5:=o5.next;have G3:h5.get h2.next=some zM:=aK.get (o4.trans o5) g3;have G4:h5.get h3.next=some zP:=aK.get o5 g4;have vq : ∀ {B:List Vl},veqL B B=true->Abs.veq (.agg B.toArray) (.agg B.toArray)=true:=fun h=>h;cases hr:xw D J y.at_ with
 |none=>
  rw [hr] at P5;rw [show kh D J id y.at_=none by unfold kh;rw [hr]];obtain ⟨hne,rfl⟩:=P5;have hne:(e5 != 0)=true:=by rw [H4];exact hne
  obtain ⟨h6,t6,k6,g6,_,n6⟩:=aN (n:=37) (k':=zM) G3 (by rw [N0 O5];omega) rfl rfl rfl;have O6:aK h h6:=aK.bB O5 k6 (by omega);have G46:h6.get h3.next=some zP:=au.getE k6 G4 (by omega);obtain ⟨h7,t7,k7,g7,_,n7⟩:=aN (n:=2) (k':=zP) G46 (by rw [N0 O6];omega) rfl rfl rfl;have O7:aK h h7:=aK.bB O6 k7 (by omega);have L1:bQ 37 (ptr h2.next 0) h5=some (.agg zM.toArray,h5):=aP G3 rfl rfl;have L2:bQ 2 (ptr h3.next 0) h5=some (.agg zP.toArray,h5):=aP G4 rfl rfl;have C2:=dq (aP (n:=2) G46 rfl rfl) (vq (B:=zP) rfl);have L3:bQ 37 (ptr h2.next 0) h7=some (.agg zM.toArray,h7):=aP (au.getE k7 g6 (by omega)) rfl rfl;have L4:bQ 2 (ptr h3.next 0) h7=some (.agg zP.toArray,h7):=aP g7 rfl rfl;refine ⟨h7,O7,zM,zP,.slice none 0 0,bX z is65 rfl ((t65_eq _ _ _ _ _).trans ?_),rfl,rfl,rfl,rfl,rfl,rfl⟩;unfold t65;simp -implicitDefEqProofs only [b1,b2,z3,z4,av,aw,DC,x4.ld,ly,c5,jO,j7,jm,hne,L1,L2,t6,t7,C2,EJ,af,ak];refine results65 (n:=42) (by decide) _ ?_ ?_<;>assumption
 |some r=>
  rw [hr] at P5;obtain ⟨rfl,ow⟩:=P5;obtain ⟨bs5,nw5⟩:=ow.bs;have hlen:=recAt_len hr;obtain ⟨h6,o6,P6⟩:=r113 T5 bs5 (by have:=Nat.mul_le_mul_left 106 hs;omega);have O6:=O5.trans o6;have T6:=T.old O6;have m6:=o6.next;obtain ⟨h7,z7,o7,g7,n7⟩:=fresh (List.replicate 32 (.int .u8 0)) h6;have O7:=O6.trans o7;have go : ∀ (A B:List Vl) (q:List Nat) (b:Bool),MPc A B->fO q->CD 113 [v5] h5=some (.tuple #[.agg A.toArray,.agg B.toArray,kV q,.bool b],h6)->veqL B B=true ->
    ∃ g,aK h g/\CV Z 65 [ptr s 0,kV id,oZ y] h=some (.tuple #[.agg A.toArray,.agg B.toArray,v5,.bool (b&&decide (q=id))],g)/\au h6 g (fun c=>c<h4.next):=by
   intro A B q b hM wq c6 hvB;obtain ⟨A0,A1,A2,B0,B1,B2⟩:=hM;have c6:=jP z T5.n0 (by rfl) c6;have D0:=bu wq;have D1:=(bA q).2;have D2:=(bA q).1;obtain ⟨x8,s1,k1,a1,_,e1⟩:=aN (n:=37) (k':=A) (aK.get (o6.trans o7) G3) (by rw [N0 O7];omega) rfl A0 A1;have P1:aK h x8:=aK.bB O7 k1 (by omega);obtain ⟨y8,s2,k2,a2,_,e2⟩:=aN (n:=2) (k':=B) (au.getE k1 (aK.get (o6.trans o7) G4) (by omega)) (by rw [N0 P1];omega) rfl B0 B1;have P2:aK h y8:=aK.bB P1 k2 (by omega);obtain ⟨z8,s3,k3,a3,_,e3⟩:=aN (n:=32) (k':=bJ q) (au.getE k2 (au.getE k1 g7 (by omega)) (by omega)) (by rw [N0 P2];omega) rfl D0 D1;have P3:aK h z8:=aK.bB P2 k3 (by omega);have b3:z8.get h3.next=some B:=au.getE k3 a2 (by omega);have c3:z8.get h2.next=some A:=au.getE k3 (au.getE k2 a1 (by omega)) (by omega);obtain ⟨x9,s4,k4,a4,_,e4⟩:=aN (n:=37) (k':=A) c3 (by rw [N0 P3];omega) A0 A0 A1;have P4:aK h x9:=aK.bB P3 k4 (by omega);have b4:x9.get h3.next=some B:=au.getE k4 b3 (by omega);obtain ⟨y9,s5,k5,a5,_,e5⟩:=aN (n:=2) (k':=B) b4 (by rw [N0 P4];omega) B0 B0 B1;have P5:aK h y9:=aK.bB P4 k5 (by omega);have i1:h1.get h.next=some (bJ id):=g1;have i5:h7.get h.next=some (bJ id):=aK.get (((((o2.trans o3).trans o4).trans o5).trans o6).trans o7) g1;have i8:z8.get h.next=some (bJ id):=au.getE k3 (au.getE k2 (au.getE k1 i5 (by omega)) (by omega)) (by omega);have i9:x9.get h.next=some (bJ id):=au.getE k4 i8 (by omega);have i10:y9.get h.next=some (bJ id):=au.getE k5 i9 (by omega);have a9:x9.get h6.next=some (bJ q):=au.getE k4 a3 (by omega);have a10:y9.get h6.next=some (bJ q):=au.getE k5 a9 (by omega);have L1:bQ 37 (ptr h2.next 0) z8=some (.agg A.toArray,z8):=aP c3 A0 A2;have L2:bQ 2 (ptr h3.next 0) z8=some (.agg B.toArray,z8):=aP b3 B0 B2;have L3:bQ 32 (ptr h6.next 0) z8=some (kV q,z8):=aP a3 D0 D2;have L4:bQ 32 (ptr h.next 0) z8=some (kV id,z8):=aP i8 (bu w) (bA _).1;have vk : ∀ {d:List Nat},fO d->Abs.veq (kV d) (kV d)=true:=fun hd=>(bT hd).veq;have C1:=dq (aP (n:=2) b4 B0 B2) (vq hvB);have C2:=dq (aP (n:=32) a9 D0 D2) (vk wq);have C3:=dq (aP (n:=32) a10 D0 D2) (vk wq);have C4:=dq (aP (n:=32) i9 (bu w) (bA _).1) (vk w);have C5:=dq (aP (n:=32) i10 (bu w) (bA _).1) (vk w);have R1:bQ 37 (ptr h2.next 0) y9=some (.agg A.toArray,y9):=aP (au.getE k5 a4 (by omega)) A0 A2;have R2:bQ 2 (ptr h3.next 0) y9=some (.agg B.toArray,y9):=aP a5 B0 B2;have eD:=(eqD32 wq w).1;refine ⟨y9,P5,bX z is65 rfl ((t65_eq _ _ _ _ _).trans ?_),?_⟩
   ·unfold t65;cases b with
    |false=>
     simp -implicitDefEqProofs only [b1,b2,z3,z4,z7,av,aw,DC,x4.ld,ly,c5,c6,jO,j7,exq0,exq1,exq2,exq3,jm,n00,bft,s1,s2,s3,s4,s5,L1,L2,C1,aX,show ∀ o v,dW false o v=true from fun _ _=>rfl,DS,DB,E0,EJ,GW,af,ak];refine results65 (n:=42) (by decide) _ ?_ ?_<;>assumption
    |true=>
     simp -implicitDefEqProofs only [b1,b2,z3,z4,z7,av,aw,DC,x4.ld,ly,c5,c6,jO,j7,exq0,exq1,exq2,exq3,jm,n00,btt,s1,s2,s3,s4,s5,L1,L2,L3,L4,eD,C1,C2,C3,C4,C5,aD,EU,EJ,GW,DV,af,ak];refine results65 (n:=42) (by decide) _ ?_ ?_<;>assumption
   ·have K1:au h6 h7 (fun c=>c<h4.next):=o7.mono (fun _ _ q=>q.elim);have K2:=K1.trans (k1.mono (fun c _ q=>show c<h4.next by omega));have K3:=K2.trans (k2.mono (fun c _ q=>show c<h4.next by omega));have K4:=K3.also k3 (fun c hc q=>by omega);have K5:=K4.trans (k4.mono (fun c _ q=>show c<h4.next by omega));exact K5.trans (k5.mono (fun c _ q=>show c<h4.next by omega))
  have nz:h.next<=h5.next:=O5.next;cases hp:iD r with
  |none=>
   rw [hp] at P6;rw [show kh D J id y.at_=none by unfold kh;rw [hr];simp only [hp]];obtain ⟨g,og,eg,_⟩:=go zM zP z32 false ⟨rfl,rfl,rfl,rfl,rfl,rfl⟩ z32_d P6 rfl;exact ⟨g,og,zM,zP,v5,eg,rfl,rfl,rfl,rfl,rfl,rfl⟩
  |some p=>
   obtain ⟨m,ix,dd⟩:=p;rw [hp] at P6;obtain ⟨v,dv,e6,X,Bd,f1,f2⟩:=P6;have Bd':=Bd;obtain ⟨g,og,eg,kg⟩:=go (cR m v) [.int .i64 ix,dv] (j8 m) true ⟨X.ok.1,X.ok.2.2,X.ok.2.1,rfl,by simp [aM,Bd.cell.2.1,show (Value.int .i64 (ix:Int)).oneCell'=true from rfl],by simp [Abs.noHoles,Bd.cell.1,show bW (Value.int .i64 (ix:Int))=false from rfl]⟩ (u7 m) e6 (by have:=Bd.veq;show (Abs.veq (.int .i64 ix) (.int .i64 ix)&&(Abs.veq dv dv&&true))=true;rw [this];simp [Abs.veq])
   by_cases pU:j8 m=id
   ·rw [DN pU,EJ] at eg;rw [show kh D J id y.at_=some (m,ix,dd,r) by unfold kh;rw [hr];simp only [hp,pU,DV]];refine ⟨g,og,v,dv,v5,eg,⟨X.sl.keep kg (fun b hb q=>by have:=f1 b hb;omega),X.wf⟩,?_,?_,fun b hb=>by have:=f1 b hb;omega,fun a n c e=>by have:=f2 a n c e;omega,fun a n c e=>by have:=nw5 a n c e;omega⟩
    ·obtain ⟨a,c,rfl,sb,gs⟩:=Bd.ex;refine .of (kg.bytes sb fun y hy _ q => ?_) gs;subst hy;have:=f2 y _ _ rfl;omega
    ·obtain ⟨a,c,rfl,sb,gs⟩:=bs5.ex;refine .of (kg.bytes (aK.bytes o6 sb) fun y hy _ q => ?_) gs;subst hy;have:=nw5 y _ _ rfl;omega
   ·rw [DW pU,HR] at eg;rw [show kh D J id y.at_=none by unfold kh;rw [hr];simp only [hp,pU,DS]];exact ⟨g,og,cR m v,[.int .i64 ix,dv],v5,eg,X.ok.1,X.ok.2.2,X.ok.2.1,rfl,by simp [aM,Bd.cell.2.1,show (Value.int .i64 (ix:Int)).oneCell'=true from rfl],by simp [Abs.noHoles,Bd.cell.1,show bW (Value.int .i64 (ix:Int))=false from rfl]⟩
end
end
end Go.Proofs.YtdhpgacmgebjdaaGreatDoor.W
namespace Go.Proofs.YtdhpgacmgebjdaaGreatDoor.W
open Go Go.Abs R
noncomputable section
section
attribute [local congr] ax
def dg_at {g:ae} {v:Vl} {t:List (List Nat)} (x:nC g iT v t.length (t.flatMap bJ)) (hw : ∀ d∈t,fO d) {i:Nat} {m:List Nat} (hm:t[i]? = some m) : ∃ b q,idxS 32 v (aj i)=some (ptr b q)/\bQ 32 (ptr b q) g=some (kV m,g):=by have hi:i<t.length:=(DZ.1 hm).1;obtain ⟨b,q,kb,hb,a1,_,_,_,a2,_⟩:=x.at hi;have a2:bQ 32 (ptr b (q+i*32)) g=some (.agg (el 32 (t.flatMap bJ) i).toArray,g):=a2;rw [BZ hw hm] at a2;exact ⟨b,q+i*32,a1,a2⟩
def BS.good {h:ae} {v:Vl} {l:List Nat} (x:BS h v l) (hp:0<l.length) : ∃ a c,v = .slice a l.length c/\ao a l.length h=some l/\cw a l.length c=true:=by obtain ⟨a,c,e,s,g⟩:=x.ex;exact ⟨a,c,e,s,g hp⟩
structure pA (g:ae) (N:Nat) (F:Nat->Prop) (v:Vl) (vals:List (List Nat)) (cs:List Vl):Prop where
 own:cG g N 1 v vals.length cs \/ ∃ b,v = .slice (some ⟨b,0,none⟩) vals.length vals.length/\N<=b/\g.get b=some cs/\0<vals.length
 cl:cs.length=vals.length
 at_ : ∀ (i:Nat) (r:List Nat),vals[i]? = some r -> ∃ a n c,cs[i]? = some (Value.slice a n c)/\ao a n g=some r/\cw a n c=true /\ ∀ y,a=some y->0<n -> ¬F y.block
def cG.keepG {h h':ae} {N size:Nat} {v:Vl} {len:Nat} {cells:List Vl} (o:cG h N size v len cells) {B:Nat->Prop} (k:au h h' B) (hB : ∀ b,cF v=some b->h.get b=some cells -> ¬B b):cG h' N size v len cells:=by
 obtain ⟨h1,h2,h3,h4⟩:=o;refine ⟨h1,h2,h3,?_⟩;rcases h4 with h4|⟨b,s,rfl,h5,h6|⟨h6,h7⟩⟩
 ·exact .inl h4
 ·exact .inr ⟨b,s,rfl,h5,.inl h6⟩
 ·exact .inr ⟨b,s,rfl,h5,.inr ⟨h6,k.getE h7 (hB b rfl h7)⟩⟩
def pA.keep {g g':ae} {N:Nat} {F:Nat->Prop} {v:Vl} {vals:List (List Nat)} {cs:List Vl} (R:pA g N F v vals cs) {B:Nat->Prop} (k:au g g' B) (h1 : ∀ b,cF v=some b->g.get b=some cs -> ¬B b) (h2 : ∀ b,B b->(∃ o,g.getB b=some (.obj o))\/F b\/g.next<=b \/ ∃ kk,g.get b=some kk /\ ∀ v∈kk,nat8 v=none):pA g' N F v vals cs:=by
 refine ⟨?_,R.cl,fun i r hi => ?_⟩
 ·rcases R.own with o|⟨b,rfl,h3,h4,h5⟩
  ·exact .inl (o.keepG k h1)
  ·exact .inr ⟨b,rfl,h3,k.getE h4 (h1 b rfl h4),h5⟩
 obtain ⟨a,n,c,e1,e2,e3,e4⟩:=R.at_ i r hi;refine ⟨a,n,c,e1,k.bytes e2 fun y hy hn hb => ?_,e3,e4⟩;rcases h2 _ hb with ⟨o,ho⟩|hF|hN|⟨kk,h3,h4⟩
 ·obtain ⟨_,_,hat⟩:=ay e2;obtain ⟨b,off,s,kk,rfl,hk,_⟩:=hat hn;cases hy;have:=g.aJ hk;rw [ho] at this;cases this
 ·exact e4 y hy hn hF
 ·subst hy;obtain ⟨b',o',s',e,hlt⟩:=jF e2 hn;cases e;have:g.next<=b':=hN;omega
 ·exact dQ e2 h3 h4 y hy hn rfl
def pA.old {g g':ae} {N:Nat} {F:Nat->Prop} {v:Vl} {vals:List (List Nat)} {cs:List Vl} (R:pA g N F v vals cs) (k:aK g g'):pA g' N F v vals cs:=R.keep k (fun _ _ _ q=>q) (fun _ q=>q.elim)
def bslW (a:Option Addr) (n c:Nat) (g:ae):gK 1 (.slice none 0 0) 1 [(0,.slice a n c)] g=some (.slice (some ⟨g.next,0,none⟩) 1 1,g.alloc [.slice a n c]):=rfl
def pA.g {g:ae} {N:Nat} {F:Nat->Prop} {v:Vl} {vals:List (List Nat)} {cs:List Vl} (R:pA g N F v vals cs) (hF : ∀ b,N<=b->cF v=some b -> ¬F b):mc g F v vals:=by
 rcases R.own with ⟨h1,h2,h3,h4⟩|⟨b,rfl,h5,h7,h6⟩
 ·rcases h4 with ⟨rfl,h4⟩|⟨b,s,rfl,h5,⟨_,h6⟩|⟨h6,h7⟩⟩
  ·exact ⟨none,0,by rw [h4],fun i r hi=>by rw [EC.1 h4] at hi;cases hi⟩
  ·exact ⟨_,_,rfl,fun i r hi=>by rw [EC.1 h6] at hi;cases hi⟩
  ·refine ⟨_,_,rfl,fun i r hi => ?_⟩;obtain ⟨a,n,c,e1,e2,e3,e4⟩:=R.at_ i r hi;exact ⟨b,0,s,cs,a,n,c,rfl,h7,hF b h5 rfl,by rw [DC];exact e1,e2,e3,e4⟩
 ·refine ⟨_,_,rfl,fun i r hi => ?_⟩;obtain ⟨a,n,c,e1,e2,e3,e4⟩:=R.at_ i r hi;exact ⟨b,0,none,cs,a,n,c,rfl,h7,hF b h5 rfl,by rw [DC];exact e1,e2,e3,e4⟩
def ids_push {g:ae} {N:Nat} {v:Vl} {ids:List (List Nat)} {d:List Nat} (o:cG g N 32 v ids.length (ids.flatMap bJ)) (w:fO d) (h0:g.n0<=N) (hN:N<=g.next) (hl:ids.length<=100000) :
  ∃ v1 g1 v' g',gK 32 (.agg (List.replicate 32 (.int .u8 0)).toArray) 1 [(0,kV d)] g=some (v1,g1)/\appendA 32 32 v v1 g1=some (v',g')/\cG g' N 32 v' (ids ++ [d]).length ((ids ++ [d]).flatMap bJ)/\aK g g1/\au g1 g' (fun c=>cF v=some c/\g1.get c=some (ids.flatMap bJ))/\(v'=v\/cF v'=some g1.next)/\g.next<=g1.next:=by
 have hbs:=CP (n:=32) (z:=List.replicate 32 (.int .u8 0)) g rfl rfl (by decide) (by decide) (bu w) (bA d).2;have oa:aK g (g.alloc (bJ d)):=au.alloc _ _ _;have ga:(g.alloc (bJ d)).get g.next=some (bJ d):=by rw [ae.aZ,DH rfl]
 generalize g.alloc (bJ d)=g1 at *;have S:=slice1 (s:=none) ga (bT w);obtain ⟨v',g',e3,O3,k3,hv⟩:=iK (by_:=32) (o.keep oa (fun _ _ q=>q)) (by rw [oa.n0];exact h0) (D9 hN oa.next) (by decide) S.slice (S.first (by decide)) (bA d).2 (bA d).1 (by rw [bu w]) (by omega) (by omega);refine ⟨_,g1,v',g',hbs,e3,?_,oa,k3,hv,oa.next⟩;rw [GR,DO];simpa using O3
end
end
end Go.Proofs.YtdhpgacmgebjdaaGreatDoor.W
namespace Go.Proofs.YtdhpgacmgebjdaaGreatDoor.W
open Go Go.Abs Tryz
noncomputable section
section
variable (C:ah) (x:Nat->Vl) (x0 x1 x2 x3 x4 x5:Vl) (h:ae)
def k59_2 (C:ah) (e:aO) (h:ae):aY:=codeK prog C (aq f59 [1,1,1]) e h (resultsA prog f59.results.toList) (resultsA prog f59.results.toList) (fun _ _ _=>none)
def b59_4 (C:ah) (i:Nat) (e:aO) (h:ae):aY:=if i=0 then (k59_2 C) e h else (fun _ _ _=>none) i e h
def k59_6 (C:ah) (e:aO) (h:ae):aY:=codeK prog C (aq f59 [1,1,1,1,1]) e h (resultsA prog f59.results.toList) (resultsA prog f59.results.toList) (fun _ _ _=>none)
def b59_8 (C:ah) (i:Nat) (e:aO) (h:ae):aY:=if i=2 then (k59_6 C) e h else (fun _ _ _=>none) i e h
def k59_18 (C:ah) (e:aO) (h:ae):aY:=codeK prog C (aq f59 [1,1,1,1,1,1,1,1]) e h (resultsA prog f59.results.toList) (resultsA prog f59.results.toList) (fun _ _ _=>none)
def b59_20 (C:ah) (i:Nat) (e:aO) (h:ae):aY:=if i=4 then (k59_18 C) e h else (fun _ _ _=>none) i e h
def t59 (C:ah) (x0 x1 x2:Vl) (h:ae):aY:=
 aa (some ((.int .i64 0),h)) fun n h=>
 aa (some (x1,h)) fun a h=>
 aa (pu (nilCheckA a) h) fun b h=>
 aa (pu (aC b 0) h) fun c h=>
 aa (ld1 c h) fun d h=>
 aa (C 74 [d] h) fun f h=>
 aa (gK 1 (.slice none 0 0) 1 [(0,f)] h) fun g h=>
 aa (some (g,h)) fun o h=>
 aa (some (x1,h)) fun j h=>
 aa (pu (nilCheckA j) h) fun k h=>
 aa (pu (aC k 2) h) fun l h=>
 aa (ld1 l h) fun m h=>
 aa (C 80 [m] h) fun dU h=>
 aa (pu (cg dU) h) fun dI h=>
 aa (some ((.int .i64 0),h)) fun ee h=>
 dH (iter (codeA prog C (aq f59 [1,1,0,1,0,0])) az (aS 135 (up (bs [x0,x1,x2]) [(6,n),(7,o),(24,a),(25,b),(26,c),(27,d),(28,f),(29,g),(30,j),(31,k),(32,l),(33,m),(34,dU),(35,dI),(36,ee)])) h) (resultsA prog f59.results.toList) (b59_4 C)
def yM (C:ah) (x:Nat->Vl) (h:ae):aY:=
 aa (some ((.slice none 0 0),h)) fun f h=>
 aa (some ((x 1),h)) fun a h=>
 aa (pu (nilCheckA a) h) fun b h=>
 aa (pu (aC b 1) h) fun c h=>
 aa (ld1 c h) fun d h=>
 aa (C 64 [d] h) fun gP h=>
 aa (pu (cg gP) h) fun fU h=>
 aa (some ((.int .i64 0),h)) fun fD h=>
 dH (iter (codeA prog C (aq f59 [1,1,1,1,0,1,0,0])) az (aS 135 (up x [(10,f),(46,a),(47,b),(48,c),(49,d),(50,gP),(51,fU),(52,fD)])) h) (resultsA prog f59.results.toList) (b59_8 C)
def nX (C:ah) (x:Nat->Vl) (h:ae):Option (Ex×aO×ae):=
 aa (pu (aA prog .lss 3 (x 36) (x 35)) h) fun a h=>
 (match a with
 | .bool true=>
 aa (pu (idxS 32 (x 34) (x 36)) h) fun c h=>
 aa (bQ 32 c h) fun d h=>
 aa (cO (List.replicate 32 (.int .u8 0)) h) fun b h=>
 aa (bI 32 b d h) fun _ h=>
 aa (some ((x 7),h)) fun f h=>
 aa (bQ 32 b h) fun g h=>
 aa (C 76 [(.int .u8 4),g] h) fun j h=>
 aa (gK 1 (.slice none 0 0) 1 [(0,j)] h) fun k h=>
 aa (appendA 1 24 f k h) fun l h=>
 aa (some (l,h)) fun n h=>
 aa (pu (aA prog .add 3 (x 36) (.int .i64 1)) h) fun m h=>
 aa (some (m,h)) fun ee h=>
 some (.normal,(aS 135 (up x [(7,n),(9,b),(36,ee),(37,a),(38,c),(39,d),(40,f),(41,g),(42,j),(43,k),(44,l),(45,m)])),h)
 | .bool false=>
 some (.exit 0,(aS 135 (up x [(37,a)])),h)
 |_=>none)
def zr (C:ah) (x:Nat->Vl) (h:ae):aY:=
 aa (some ((x 0),h)) fun c h=>
 aa (pu (nilCheckA c) h) fun d h=>
 aa (pu (aC d 0) h) fun f h=>
 aa (ld1 f h) fun g h=>
 aa (some ((x 7),h)) fun j h=>
 aa (C 114 [g,j] h) fun k h=>
 aa (some (k,h)) fun a h=>
 aa (pu (extractA a 0) h) fun l h=>
 aa (pu (extractA a 1) h) fun m h=>
 aa (some (l,h)) fun q h=>
 aa (some (m,h)) fun b h=>
 aa (some (b,h)) fun n h=>
 aa (pu (aA prog .neq 25 n (.int .i64 0)) h) fun o h=>
 (match o with
 | .bool true=>
 aa (some (b,h)) fun r h=>
 aa (some (r,h)) fun s h=>
 some (s,h)
 | .bool false=>
 aa (some ((x 10),h)) fun p h=>
 aa (pu (cg p) h) fun oR h=>
 aa (some ((.int .i64 0),h)) fun rp h=>
 dH (iter (codeA prog C (aq f59 [1,1,1,1,1,1,1,0,1,0,0])) az (aS 135 (up x [(19,q),(20,b),(92,a),(93,c),(94,d),(95,f),(96,g),(97,j),(98,k),(99,l),(100,m),(101,n),(102,o),(104,p),(105,oR),(106,rp)])) h) (resultsA prog f59.results.toList) (b59_20 C)
 |_=>none)
def lu (C:ah) (x:Nat->Vl) (h:ae):Option (Ex×aO×ae):=
 aa (pu (aA prog .lss 3 (x 52) (x 51)) h) fun g h=>
 (match g with
 | .bool true=>
 aa (pu (idxS 32 (x 50) (x 52)) h) fun q h=>
 aa (bQ 32 q h) fun r h=>
 aa (cO (List.replicate 32 (.int .u8 0)) h) fun a h=>
 aa (bI 32 a r h) fun _ h=>
 aa (some ((x 2),h)) fun s h=>
 aa (some (s,h)) fun E h=>
 aa (some ((x 1),h)) fun t h=>
 aa (pu (nilCheckA t) h) fun u h=>
 aa (pu (aC u 1) h) fun v h=>
 aa (ld1 v h) fun w h=>
 aa (bQ 32 a h) fun y h=>
 aa (lookupA prog 123 w y false h) fun z h=>
 aa (cO [(.int .i64 0),(.int .i64 0),(.int .i64 0)] h) fun d h=>
 aa (bI 3 d z h) fun _ h=>
 aa (pu (aC d 0) h) fun A h=>
 aa (ld1 A h) fun B h=>
 aa (pu (aA prog .geq 3 B (.int .i64 0)) h) fun D h=>
 (match D with
 | .bool true=>
 aa (some ((x 0),h)) fun F h=>
 aa (bQ 32 a h) fun G h=>
 aa (bQ 3 d h) fun H h=>
 aa (C 65 [F,G,H] h) fun I h=>
 aa (some (I,h)) fun f h=>
 aa (pu (extractA f 0) h) fun J h=>
 aa (pu (extractA f 1) h) fun K h=>
 aa (pu (extractA f 2) h) fun L h=>
 aa (pu (extractA f 3) h) fun M h=>
 aa (cO dP h) fun N h=>
 aa (cO [(.int .i64 0),(.slice none 0 0)] h) fun O h=>
 aa (bI 37 N J h) fun _ h=>
 aa (bI 2 O K h) fun _ h=>
 aa (some (L,h)) fun P h=>
 aa (some (M,h)) fun Q h=>
 aa (some (Q,h)) fun R h=>
 aa (pu (unA .not R) h) fun S h=>
 (match S with
 | .bool true=>
 aa (some ((x 1),h)) fun V h=>
 aa (pu (nilCheckA V) h) fun W h=>
 aa (pu (aC W 1) h) fun X h=>
 aa (ld1 X h) fun Y h=>
 aa (bQ 32 a h) fun Z h=>
 aa (deleteA prog 123 Y Z h) fun _ h=>
 aa (pu (aA prog .add 3 (x 52) (.int .i64 1)) h) fun b h=>
 aa (some (b,h)) fun fD h=>
 some (.normal,(aS 135 (up x [(12,a),(13,E),(14,d),(15,N),(16,O),(17,P),(18,Q),(52,fD),(53,g),(54,q),(55,r),(56,s),(57,t),(58,u),(59,v),(60,w),(61,y),(62,z),(63,A),(64,B),(65,D),(66,f),(67,F),(68,G),(69,H),(70,I),(71,J),(72,K),(73,L),(74,M),(75,R),(76,S),(77,V),(78,W),(79,X),(80,Y),(81,Z),(91,b)])),h)
 | .bool false=>
 aa (some (P,h)) fun a0 h=>
 aa (some (a0,h)) fun a1 h=>
 let g34_0:=h
 aa (some ((x 7),g34_0)) fun j g34_1=>
 aa (some (a1,g34_1)) fun k g34_2=>
 aa (some ((x 10),g34_2)) fun l g34_3=>
 aa (bQ 32 a g34_3) fun c g34_4=>
 aa (gK 1 (.slice none 0 0) 1 [(0,k)] g34_4) fun m g34_5=>
 aa (appendA 1 24 j m g34_5) fun n g34_6=>
 aa (gK 32 (.agg (List.replicate 32 (.int .u8 0)).toArray) 1 [(0,c)] g34_6) fun o g34_7=>
 aa (appendA 32 32 l o g34_7) fun p g34_8=>
 aa (some (n,g34_8)) fun T g34_9=>
 aa (some (p,g34_9)) fun U g34_10=>
 (match (dW true (bQ 32 a g34_6) c&&true) with
 |true=>
 let h:=g34_10
 aa (pu (aA prog .add 3 (x 52) (.int .i64 1)) h) fun b h=>
 aa (some (b,h)) fun fD h=>
 some (.normal,(aS 135 (up x [(7,T),(10,U),(12,a),(13,a1),(14,d),(15,N),(16,O),(17,P),(18,Q),(52,fD),(53,g),(54,q),(55,r),(56,s),(57,t),(58,u),(59,v),(60,w),(61,y),(62,z),(63,A),(64,B),(65,D),(66,f),(67,F),(68,G),(69,H),(70,I),(71,J),(72,K),(73,L),(74,M),(75,R),(76,S),(82,a0),(83,j),(84,k),(85,m),(86,n),(87,l),(88,c),(89,o),(90,p),(91,b)])),h)
 |false=>none)
 |_=>none)
 | .bool false=>
 let g35_0:=h
 aa (some ((x 7),g35_0)) fun j g35_1=>
 aa (some (E,g35_1)) fun k g35_2=>
 aa (some ((x 10),g35_2)) fun l g35_3=>
 aa (bQ 32 a g35_3) fun c g35_4=>
 aa (gK 1 (.slice none 0 0) 1 [(0,k)] g35_4) fun m g35_5=>
 aa (appendA 1 24 j m g35_5) fun n g35_6=>
 aa (gK 32 (.agg (List.replicate 32 (.int .u8 0)).toArray) 1 [(0,c)] g35_6) fun o g35_7=>
 aa (appendA 32 32 l o g35_7) fun p g35_8=>
 aa (some (n,g35_8)) fun T g35_9=>
 aa (some (p,g35_9)) fun U g35_10=>
 (match (dW true (bQ 32 a g35_6) c&&true) with
 |true=>
 let h:=g35_10
 aa (pu (aA prog .add 3 (x 52) (.int .i64 1)) h) fun b h=>
 aa (some (b,h)) fun fD h=>
 some (.normal,(aS 135 (up x [(7,T),(10,U),(12,a),(13,E),(14,d),(52,fD),(53,g),(54,q),(55,r),(56,s),(57,t),(58,u),(59,v),(60,w),(61,y),(62,z),(63,A),(64,B),(65,D),(83,j),(84,k),(85,m),(86,n),(87,l),(88,c),(89,o),(90,p),(91,b)])),h)
 |false=>none)
 |_=>none)
 | .bool false=>
 some (.exit 2,(aS 135 (up x [(53,g)])),h)
 |_=>none)
def AO (C:ah) (x:Nat->Vl) (h:ae):aY:=
 aa (some ((.int .i64 0),h)) fun a h=>
 some (a,h)
def iZ (C:ah) (x:Nat->Vl) (h:ae):Option (Ex×aO×ae):=
 aa (pu (aA prog .lss 3 (x 106) (x 105)) h) fun c h=>
 (match c with
 | .bool true=>
 aa (some ((x 106),h)) fun d h=>
 aa (pu (idxS 32 (x 104) (x 106)) h) fun f h=>
 aa (bQ 32 f h) fun g h=>
 aa (cO (List.replicate 32 (.int .u8 0)) h) fun a h=>
 aa (some (d,h)) fun j h=>
 aa (bI 32 a g h) fun _ h=>
 aa (some ((x 1),h)) fun k h=>
 aa (pu (nilCheckA k) h) fun l h=>
 aa (pu (aC l 1) h) fun m h=>
 aa (ld1 m h) fun n h=>
 aa (bQ 32 a h) fun o h=>
 aa (lookupA prog 123 n o false h) fun p h=>
 aa (cO [(.int .i64 0),(.int .i64 0),(.int .i64 0)] h) fun b h=>
 aa (bI 3 b p h) fun _ h=>
 aa (some ((x 19),h)) fun q h=>
 aa (some ((x 19),h)) fun r h=>
 aa (pu (cg r) h) fun s h=>
 aa (some ((x 10),h)) fun t h=>
 aa (pu (cg t) h) fun u h=>
 aa (pu (aA prog .sub 3 s u) h) fun v h=>
 aa (some (j,h)) fun w h=>
 aa (pu (aA prog .add 3 v w) h) fun y h=>
 aa (pu (idxS 1 q y) h) fun z h=>
 aa (ld1 z h) fun A h=>
 aa (pu (aC b 0) h) fun B h=>
 aa (bI 1 B A h) fun _ h=>
 aa (some ((x 1),h)) fun D h=>
 aa (pu (nilCheckA D) h) fun E h=>
 aa (pu (aC E 1) h) fun F h=>
 aa (ld1 F h) fun G h=>
 aa (bQ 32 a h) fun H h=>
 aa (bQ 3 b h) fun I h=>
 aa (mapUpdateA prog 123 G H I h) fun _ h=>
 aa (pu (aA prog .add 3 (x 106) (.int .i64 1)) h) fun J h=>
 aa (some (J,h)) fun rp h=>
 some (.normal,(aS 135 (up x [(21,j),(22,a),(23,b),(106,rp),(107,c),(108,d),(109,f),(110,g),(111,k),(112,l),(113,m),(114,n),(115,o),(116,p),(117,q),(118,r),(119,s),(120,t),(121,u),(122,v),(123,w),(124,y),(125,z),(126,A),(127,B),(128,D),(129,E),(130,F),(131,G),(132,H),(133,I),(134,J)])),h)
 | .bool false=>
 some (.exit 4,(aS 135 (up x [(107,c)])),h)
 |_=>none)
def t59_eq:aV prog C f59 [x0,x1,x2] h=t59 C x0 x1 x2 h:=
 lkT (by kernel_rfl) (by kernel_rfl)
def t59k59_2_eq:k59_2 C (aS 135 x) h=yM C x h:=
 bg (T:=yM C) (fun x h=>by kernel_rfl) x h
def wJ:codeA prog C (aq f59 [1,1,0,1,0,0]) (aS 135 x) h=nX C x h:=
 aW (T:=nX C) (fun x h=>by kernel_rfl) x h
def t59k59_6_eq:k59_6 C (aS 135 x) h=zr C x h:=
 bg (T:=zr C) (fun x h=>by kernel_rfl) x h
def tK:codeA prog C (aq f59 [1,1,1,1,0,1,0,0]) (aS 135 x) h=lu C x h:=
 aW (T:=lu C) (fun x h=>by kernel_rfl) x h
def CN:k59_18 C (aS 135 x) h=AO C x h:=
 bg (T:=AO C) (fun x h=>by kernel_rfl) x h
def pP:codeA prog C (aq f59 [1,1,1,1,1,1,1,0,1,0,0]) (aS 135 x) h=iZ C x h:=
 aW (T:=iZ C) (fun x h=>by kernel_rfl) x h
end
end
end Go.Proofs.YtdhpgacmgebjdaaGreatDoor.W
namespace Go.Proofs.YtdhpgacmgebjdaaGreatDoor.W
open Go Go.Abs R
noncomputable section
section
attribute [local congr] ax
structure W1 (h0:ae) (F:Nat->Prop) (L:List (List Nat)) (v34 a0 a1 a2:Vl) (inc:Nat) (i:Nat) (y:Nat->Vl) (g:ae) (cs:List Vl):Prop where
 y0:y 0=a0
 y1:y 1=a1
 y2:y 2=a2
 dU:y 34=v34
 dI:y 35=aj L.length
 ee:y 36=aj i
 O:aK h0 g
 sl:nC g iT v34 L.length (L.flatMap bJ)
 R:pA g h0.next F (y 7) (fV inc::(L.take i).map (recI 4)) cs
 sep : ∀ b,zK v34=some b->cF (y 7)≠some b
end
section
attribute [local congr] ax
def kf {h:ae} {b c:Nat} {k:eh} {o:fF} (g:h.get b=some k) (e:h.getB c=some (.obj o)):b≠c:=fun q=>by subst q;rw [h.aJ g] at e;cases e
end
section
attribute [local congr] ax
def itRec (D:Dk) (J:Jn) (fr id:List Nat) (x:It):Option (List Nat):=if 0<=x.at_ then (kh D J id x.at_).map (fun q=>q.2.2.2) else some fr
def rwStep (D:Dk) (J:Jn) (fr:List Nat) (st:DM It×List (List Nat×List Nat)) (id:List Nat):DM It×List (List Nat×List Nat):=
 match itRec D J fr id ((st.1.get id).getD zI) with
 |some r=>(st.1,st.2 ++ [(id,r)])
 |none=>(st.1.del id,st.2)
structure W2 (h0:ae) (s j d tp o im:Nat) (D:Dk) (J:Jn) (fv:Vl) (fr:List Nat) (M0:DM It) (L vals0:List (List Nat)) (v50:Vl) (i:Nat) (y:Nat->Vl) (g:ae) (M:DM It) (kp:List (List Nat×List Nat)) (cs:List Vl):Prop where
 y0:y 0=ptr s 0
 y1:y 1=ptr tp o
 y2:y 2=fv
 gP:y 50=v50
 fU:y 51=aj L.length
 fD:y 52=aj i
 K:au h0 g (fun c=>c=im)
 it:ij oZ g im M
 st:(L.take i).foldl (rwStep D J fr) (M0,[])=(M,kp)
 sl:nC g iT v50 L.length (L.flatMap bJ)
 R:pA g h0.next (fun c=>rwF j d D c\/cF (y 10)=some c) (y 7) (vals0++kp.map (·.2)) cs
 o:cG g h0.next 32 (y 10) (kp.map (·.1)).length ((kp.map (·.1)).flatMap bJ)
 w : ∀ k∈kp.map (·.1),fO k
 kl:kp.length<=i
 s7 : ∀ b,zK v50=some b->cF (y 7)≠some b
 s10 : ∀ b,zK v50=some b->cF (y 10)≠some b
 sub : ∀ k x,M.get k=some x->M0.get k=some x
 l10 : ∀ b,cF (y 10)=some b->b<g.next
end
section
attribute [local congr] ax
def atStep (ps:List Nat) (cK:Nat) (M:DM It) (q:List Nat×Nat):DM It:=M.put q.1 { (M.get q.1).getD zI with at_:=(ps.getD (cK+q.2) 0:Nat) }
structure W3 (h0:ae) (tp o im:Nat) (ids:List (List Nat)) (ps:List Nat) (M0:DM It) (i:Nat) (y:Nat->Vl) (g:ae) (M:DM It):Prop where
 y1:y 1=ptr tp o
 oR:y 105=aj ids.length
 rp:y 106=aj i
 K:au h0 g (fun c=>c=im)
 it:ij oZ g im M
 st:(ids.zipIdx.take i).foldl (atStep ps (ps.length-ids.length)) M0=M
 sl:nC g iT (y 104) ids.length (ids.flatMap bJ)
 sl10:cg (y 10)=some (aj ids.length)
 o:cG g 0 1 (y 19) ps.length (ps.map aj)
def AT {g:ae} {N size:Nat} {v:Vl} {len:Nat} {cs:List Vl} (o:cG g N size v len cs):cg v=some (aj len):=by obtain ⟨_,_,_,h4⟩:=o;rcases h4 with ⟨rfl,rfl⟩|⟨b,s,rfl,_⟩<;>rfl
end
end
end Go.Proofs.YtdhpgacmgebjdaaGreatDoor.W
namespace Go.Proofs.YtdhpgacmgebjdaaGreatDoor.W
open Go Go.Abs Tryz R
noncomputable section
section
attribute [local congr] ax
structure TsAt (h:ae) (tp o inc im gm:Nat) (M0:DM It) (G:DM Unit):Prop where
 c : ∃ kt,h.get tp=some kt/\kt[o]? = some (.int .u64 (inc:Int))/\kt[o+1]? = some (.map (some im))/\kt[o+2]? = some (.map (some gm))
 it:ij oZ h im M0
 gr:ij grV h gm G
 im0:h.n0<=im
 gm0:h.n0<=gm
 ne:im≠gm
 inc:inc<18446744073709551616
def is59:bE prog 59 f59 := .of (by kernel_rfl)
def b59_4' (C:ah) (e:aO) (h:ae):b59_4 C 0 e h=k59_2 C e h:=rfl
def b59_8' (C:ah) (e:aO) (h:ae):b59_8 C 2 e h=k59_6 C e h:=rfl
def b59_20' (C:ah) (e:aO) (h:ae):b59_20 C 4 e h=k59_18 C e h:=rfl
def recN_pos (v:Nat):0<(fV v).length:=by unfold fV;simp [aQ]
end
end
end Go.Proofs.YtdhpgacmgebjdaaGreatDoor.W
namespace Go.Proofs.YtdhpgacmgebjdaaGreatDoor.W
open Go Go.Abs Tryz
noncomputable section
section
variable (C:ah) (x:Nat->Vl) (x0 x1 x2 x3 x4 x5:Vl) (h:ae)
def k14_12 (C:ah) (e:aO) (h:ae):aY:=codeK prog C (aq f14 [1,1,1,1,1,1,1]) e h (resultsA prog f14.results.toList) (resultsA prog f14.results.toList) (fun _ _ _=>none)
def b14_14 (C:ah) (i:Nat) (e:aO) (h:ae):aY:=if i=0 then (k14_12 C) e h else (fun _ _ _=>none) i e h
def t14 (C:ah) (x0 x1:Vl) (h:ae):aY:=
 aa (some ((.pointer none),h)) fun E h=>
 aa (some ((.int .i64 0),h)) fun F h=>
 aa (some (x0,h)) fun f h=>
 aa (pu (aA prog .eql 24 f (.pointer none)) h) fun g h=>
 (match g with
 | .bool true=>
 aa (some ((.pointer none),h)) fun a h=>
 aa (some ((.int .i64 1),h)) fun b h=>
 some (.tuple #[a,b],h)
 | .bool false=>
 aa (some (x1,h)) fun j h=>
 aa (pu (aA prog .lss 3 j (.int .i64 0)) h) fun k h=>
 (match k with
 | .bool true=>
 aa (some ((.pointer none),h)) fun a h=>
 aa (some ((.int .i64 2),h)) fun b h=>
 some (.tuple #[a,b],h)
 | .bool false=>
 aa (some (x0,h)) fun l h=>
 aa (C 57 [l] h) fun m h=>
 aa (some (m,h)) fun c h=>
 aa (pu (extractA c 0) h) fun n h=>
 aa (pu (extractA c 1) h) fun o h=>
 aa (pu (extractA c 2) h) fun p h=>
 aa (some (n,h)) fun q h=>
 aa (some (o,h)) fun r h=>
 aa (some (p,h)) fun d h=>
 aa (some (d,h)) fun s h=>
 aa (pu (aA prog .neq 25 s (.int .i64 0)) h) fun t h=>
 (match t with
 | .bool true=>
 aa (some (d,h)) fun G h=>
 aa (some ((.pointer none),h)) fun a h=>
 aa (some (G,h)) fun b h=>
 some (.tuple #[a,b],h)
 | .bool false=>
 aa (some (q,h)) fun u h=>
 aa (some (x1,h)) fun v h=>
 aa (dX none prog 123 h) fun w h=>
 aa (dX none prog 124 h) fun y h=>
 aa (pu (cN [(.int .u64 0),(.map none),(.map none)] [(1,1,w),(2,1,y)]) h) fun z h=>
 aa (pu (cN [(.pointer none),(.int .i64 0),(.int .u64 0),(.map none),(.map none),(.pointer none)] [(0,1,u),(1,1,v),(2,3,z)]) h) fun A h=>
 aa (box A h) fun B h=>
 aa (some (B,h)) fun H h=>
 aa (some (r,h)) fun D h=>
 aa (pu (cg D) h) fun dU h=>
 aa (some ((.int .i64 0),h)) fun dI h=>
 dH (iter (codeA prog C (aq f14 [1,1,1,1,1,1,0,1,0,0])) az (aS 69 (up (bs [x0,x1]) [(4,E),(5,F),(6,q),(7,r),(8,d),(9,H),(13,f),(14,g),(15,j),(16,k),(17,c),(18,l),(19,m),(20,n),(21,o),(22,p),(23,s),(24,t),(26,u),(27,v),(28,w),(29,y),(30,z),(31,A),(32,B),(33,D),(34,dU),(35,dI)])) h) (resultsA prog f14.results.toList) (b14_14 C)
 |_=>none)
 |_=>none)
 |_=>none)
def ve (C:ah) (x:Nat->Vl) (h:ae):aY:=
 aa (some ((x 9),h)) fun d h=>
 aa (pu (nilCheckA d) h) fun f h=>
 aa (pu (aC f 2) h) fun g h=>
 aa (pu (aC g 0) h) fun j h=>
 aa (ld1 j h) fun k h=>
 aa (pu (aA prog .eql 52 k (.int .u64 18446744073709551615)) h) fun gP h=>
 (match gP with
 | .bool true=>
 aa (some ((.pointer none),h)) fun a h=>
 aa (some ((.int .i64 8),h)) fun b h=>
 some (.tuple #[a,b],h)
 | .bool false=>
 aa (some ((x 9),h)) fun fU h=>
 aa (pu (nilCheckA fU) h) fun fD h=>
 aa (pu (aC fD 2) h) fun l h=>
 aa (pu (aC l 0) h) fun m h=>
 aa (ld1 m h) fun n h=>
 aa (pu (aA prog .add 52 n (.int .u64 1)) h) fun o h=>
 aa (pu (nilCheckA fU) h) fun p h=>
 aa (pu (aC p 2) h) fun q h=>
 aa (pu (aC q 0) h) fun r h=>
 aa (bI 1 r o h) fun _ h=>
 aa (some ((x 9),h)) fun s h=>
 aa (some ((x 9),h)) fun t h=>
 aa (pu (nilCheckA t) h) fun u h=>
 aa (pu (aC u 2) h) fun v h=>
 aa (C 59 [s,v,(.slice none 0 0)] h) fun w h=>
 aa (some (w,h)) fun c h=>
 aa (some (c,h)) fun y h=>
 aa (pu (aA prog .neq 25 y (.int .i64 0)) h) fun z h=>
 (match z with
 | .bool true=>
 aa (some (c,h)) fun A h=>
 aa (some ((.pointer none),h)) fun a h=>
 aa (some (A,h)) fun b h=>
 some (.tuple #[a,b],h)
 | .bool false=>
 aa (some ((x 9),h)) fun B h=>
 aa (some (B,h)) fun a h=>
 aa (some ((.int .i64 0),h)) fun b h=>
 some (.tuple #[a,b],h)
 |_=>none)
 |_=>none)
def jw (C:ah) (x:Nat->Vl) (h:ae):Option (Ex×aO×ae):=
 aa (pu (aA prog .lss 3 (x 35) (x 34)) h) fun ee h=>
 (match ee with
 | .bool true=>
 aa (pu (idxS 2 (x 33) (x 35)) h) fun b h=>
 aa (bQ 2 b h) fun c h=>
 aa (cO [(.int .i64 0),(.slice none 0 0)] h) fun a h=>
 aa (bI 2 a c h) fun _ h=>
 aa (some ((x 9),h)) fun d h=>
 aa (pu (nilCheckA d) h) fun f h=>
 aa (pu (aC f 2) h) fun g h=>
 aa (bQ 2 a h) fun j h=>
 aa (C 58 [g,j] h) fun l h=>
 aa (pu (aA prog .add 3 (x 35) (.int .i64 1)) h) fun k h=>
 aa (some (k,h)) fun dI h=>
 some (.normal,(aS 69 (up x [(11,a),(35,dI),(36,ee),(37,b),(38,c),(39,d),(40,f),(41,g),(42,j),(43,l),(44,k)])),h)
 | .bool false=>
 some (.exit 0,(aS 69 (up x [(36,ee)])),h)
 |_=>none)
def t14_eq:aV prog C f14 [x0,x1] h=t14 C x0 x1 h:=
 lkT (by kernel_rfl) (by kernel_rfl)
def Cn:k14_12 C (aS 69 x) h=ve C x h:=
 bg (T:=ve C) (fun x h=>by kernel_rfl) x h
def rC:codeA prog C (aq f14 [1,1,1,1,1,1,0,1,0,0]) (aS 69 x) h=jw C x h:=
 aW (T:=jw C) (fun x h=>by kernel_rfl) x h
def t19 (C:ah) (x0 x1:Vl) (h:ae):aY:=
 aa (box x1 h) fun c h=>
 aa (cO dP h) fun a h=>
 aa (cO [(.int .i64 0),(.slice none 0 0)] h) fun b h=>
 aa (some ((.int .i64 0),h)) fun a0 h=>
 aa (some (x0,h)) fun g h=>
 aa (C 60 [g] h) fun j h=>
 aa (some (j,h)) fun f h=>
 aa (some (f,h)) fun k h=>
 aa (pu (aA prog .neq 25 k (.int .i64 0)) h) fun l h=>
 (match l with
 | .bool true=>
 aa (pu (cN dP []) h) fun P h=>
 aa (pu (cN [(.int .i64 0),(.slice none 0 0)] []) h) fun Q h=>
 aa (some (f,h)) fun R h=>
 aa (bI 37 a P h) fun _ h=>
 aa (bI 2 b Q h) fun _ h=>
 aa (some (R,h)) fun d h=>
 resultsA prog f19.results.toList (aS 56 (up (bs [x0,x1]) [(3,c),(4,a),(5,b),(6,d),(7,f),(14,g),(15,j),(16,k),(17,l),(18,P),(19,Q),(20,R)])) h
 | .bool false=>
 aa (some (x0,h)) fun p h=>
 aa (pu (nilCheckA p) h) fun q h=>
 aa (pu (aC q 2) h) fun r h=>
 aa (pu (aC r 1) h) fun s h=>
 aa (ld1 s h) fun t h=>
 aa (bQ 32 c h) fun u h=>
 aa (lookupA prog 123 t u true h) fun v h=>
 aa (some (v,h)) fun m h=>
 aa (pu (extractA m 0) h) fun w h=>
 aa (pu (extractA m 1) h) fun y h=>
 aa (cO [(.int .i64 0),(.int .i64 0),(.int .i64 0)] h) fun n h=>
 aa (bI 3 n w h) fun _ h=>
 aa (some (y,h)) fun z h=>
 aa (some (z,h)) fun A h=>
 aa (pu (unA .not A) h) fun B h=>
 (match B with
 | .bool true=>
 aa (pu (cN dP []) h) fun S h=>
 aa (pu (cN [(.int .i64 0),(.slice none 0 0)] []) h) fun dU h=>
 aa (bI 37 a S h) fun _ h=>
 aa (bI 2 b dU h) fun _ h=>
 aa (some ((.int .i64 6),h)) fun d h=>
 resultsA prog f19.results.toList (aS 56 (up (bs [x0,x1]) [(3,c),(4,a),(5,b),(6,d),(7,f),(8,n),(9,z),(14,g),(15,j),(16,k),(17,l),(21,m),(22,p),(23,q),(24,r),(25,s),(26,t),(27,u),(28,v),(29,w),(30,y),(31,A),(32,B),(33,S),(34,dU)])) h
 | .bool false=>
 aa (some (x0,h)) fun ee h=>
 aa (bQ 32 c h) fun E h=>
 aa (bQ 3 n h) fun F h=>
 aa (C 65 [ee,E,F] h) fun G h=>
 aa (some (G,h)) fun dI h=>
 aa (pu (extractA dI 0) h) fun H h=>
 aa (pu (extractA dI 1) h) fun I h=>
 aa (pu (extractA dI 2) h) fun J h=>
 aa (pu (extractA dI 3) h) fun K h=>
 aa (cO dP h) fun D h=>
 aa (cO [(.int .i64 0),(.slice none 0 0)] h) fun o h=>
 aa (bI 37 D H h) fun _ h=>
 aa (bI 2 o I h) fun _ h=>
 aa (some (J,h)) fun T h=>
 aa (some (K,h)) fun L h=>
 aa (some (L,h)) fun M h=>
 aa (pu (unA .not M) h) fun N h=>
 (match N with
 | .bool true=>
 aa (some (x0,h)) fun U h=>
 aa (pu (nilCheckA U) h) fun V h=>
 aa (pu (aC V 2) h) fun W h=>
 aa (pu (aC W 1) h) fun X h=>
 aa (ld1 X h) fun gP h=>
 aa (bQ 32 c h) fun fU h=>
 aa (deleteA prog 123 gP fU h) fun _ h=>
 aa (pu (cN dP []) h) fun fD h=>
 aa (pu (cN [(.int .i64 0),(.slice none 0 0)] []) h) fun Y h=>
 aa (bI 37 a fD h) fun _ h=>
 aa (bI 2 b Y h) fun _ h=>
 aa (some ((.int .i64 42),h)) fun d h=>
 resultsA prog f19.results.toList (aS 56 (up (bs [x0,x1]) [(3,c),(4,a),(5,b),(6,d),(7,f),(8,n),(9,z),(10,D),(11,o),(12,T),(13,L),(14,g),(15,j),(16,k),(17,l),(21,m),(22,p),(23,q),(24,r),(25,s),(26,t),(27,u),(28,v),(29,w),(30,y),(31,A),(32,B),(35,dI),(36,ee),(37,E),(38,F),(39,G),(40,H),(41,I),(42,J),(43,K),(44,M),(45,N),(46,U),(47,V),(48,W),(49,X),(50,gP),(51,fU),(52,fD),(53,Y)])) h
 | .bool false=>
 let g15_0:=h
 aa (bQ 37 D g15_0) fun Z g15_1=>
 aa (bQ 2 o g15_1) fun O g15_2=>
 aa (bI 37 a Z g15_2) fun _ g15_3=>
 aa (bI 2 b O g15_3) fun _ g15_4=>
 aa (some ((.int .i64 0),g15_4)) fun d g15_5=>
 (match (dW true (bQ 2 o g15_3) O&&true) with
 |true=>
 let h:=g15_5
 resultsA prog f19.results.toList (aS 56 (up (bs [x0,x1]) [(3,c),(4,a),(5,b),(6,d),(7,f),(8,n),(9,z),(10,D),(11,o),(12,T),(13,L),(14,g),(15,j),(16,k),(17,l),(21,m),(22,p),(23,q),(24,r),(25,s),(26,t),(27,u),(28,v),(29,w),(30,y),(31,A),(32,B),(35,dI),(36,ee),(37,E),(38,F),(39,G),(40,H),(41,I),(42,J),(43,K),(44,M),(45,N),(54,Z),(55,O)])) h
 |false=>none)
 |_=>none)
 |_=>none)
 |_=>none)
def BE:aV prog C f19 [x0,x1] h=t19 C x0 x1 h:=
 lkT (by kernel_rfl) (by kernel_rfl)
end
end
end Go.Proofs.YtdhpgacmgebjdaaGreatDoor.W
namespace Go.Proofs.YtdhpgacmgebjdaaGreatDoor.W
open Go Go.Abs
noncomputable section
section
attribute [local congr] ax
def pa (h:ae) (n:Nat):ae:=(h.alloc ((Dk.new h n).img.map u8)).alloc (Dk.new h n).hdr
def new_is (h:ae) {n:Nat} (hn:n<=4096):bC (pa h n) (h.next+1) (Dk.new h n):=by
 have hn0:=h.n0_le_next;refine ⟨?_,?_,by simp [Dk.new],?_,?_,?_,?_,hn,by simp [Dk.new],by simp [Dk.new]⟩
 ·unfold pa;rw [ae.aZ,DH (by simp)]
 ·unfold pa;rw [ae.aZ,DL (by simp [Dk.new]),ae.aZ,show (Dk.new h n).bb=h.next from rfl,DH rfl]
 ·intro y hy;rw [show (Dk.new h n).img=List.replicate (128*n) 0 from rfl] at hy;rw [ES hy];decide
 ·show h.n0<=h.next+1;omega
 ·show h.n0<=h.next;omega
 ·show h.next+1≠h.next;omega
def new_kept (h:ae) (n:Nat) (B:Nat->Prop):au h (pa h n) B:=(au.alloc h _ B).trans (au.alloc _ _ B)
def zeros128 (n:Nat):dJ (List.replicate 128 (.int .u8 0)) n=(List.replicate (128*n) 0).map u8:=by
 unfold dJ;rw [List.map_replicate];induction n with
 |zero=>rfl
 |succ n ih=>
  rw [H2,GR,ih];simp only [FT,IF,GC,u8];rw [show ((0:Nat):Int)=0 from rfl,List.replicate_append_replicate]
  congr 1
def mk128 {h:ae} {n:Nat} (hn:n<=4096) :
  mkR 128 128 (.agg (List.replicate 128 (Value.int .u8 0)).toArray) (aj n) (aj n) h=some (newSlice h n,h.alloc ((List.replicate (128*n) 0).map u8)):=by
 have hc:(Value.agg (List.replicate 128 (Value.int .u8 0)).toArray).cells=(List.replicate 128 (Value.int .u8 0)).toArray:=rfl;unfold mkR;simp only [hc];rw [DH (by simp only [DD,DR,beq_iff_eq];refine ⟨⟨⟨⟨⟨⟨by omega,Int.le_refl _⟩,by omega⟩,by omega⟩,by simp [bD,flat]⟩,by simp⟩,by decide⟩)]
 rw [Int.toNat_natCast,zeros128];rfl
def t13_is (C:ah) {h:ae} {n:Nat} (h4:4<=n) (hn:n<=4096):t13 C (aj n) h=some (.tuple #[ptr (h.next+1) 0,.int .i64 0],pa h n):=by
 have e1 : ¬((n:Int)<4):=by omega
 have e2 : ¬((n:Int)>4096):=by omega
 have e3:cN [(.slice none 0 0),(.bool false),(.bool false),(.int .i64 0),(.int .i64 0),(.int .i64 0)] [(0,1,newSlice h n)]=some (.agg (Dk.new h n).hdr.toArray):=rfl;have e4:box (.agg (Dk.new h n).hdr.toArray) (h.alloc ((List.replicate (128*n) 0).map u8))=some (ptr (h.next+1) 0,pa h n):=rfl;unfold t13;simp -implicitDefEqProofs only [af,cx,ak,e1,FA,aR,DP,aD,dD,e2,DB,DS,mk128 hn,e3,e4]
def new_up (h:ae) (n:Nat):Up (Dk.new h n):=⟨by simp [Dk.new],rfl,rfl⟩
def new_fresh (h:ae) (n:Nat):lD (Dk.new h n):=by intro b hb;have hb:b<n:=hb;show ((List.replicate (128*n) 0).drop (b*128)).take 128=_;rw [List.drop_replicate,List.take_replicate,GN (by omega)]
def r13 (h:ae) {n:Nat} (h4:4<=n) (hn:n<=4096):CD 13 [aj n] h=some (.tuple #[ptr (h.next+1) 0,.int .i64 0],pa h n)/\bC (pa h n) (h.next+1) (Dk.new h n)/\aK h (pa h n):=by refine ⟨aI is13 rfl ((t13_eq _ _ _).trans ?_),new_is h (by omega),new_kept h n _⟩;exact t13_is CD h4 hn
end
end
end Go.Proofs.YtdhpgacmgebjdaaGreatDoor.W
namespace Go.Proofs.YtdhpgacmgebjdaaGreatDoor.W
open Go Go.Abs R
noncomputable section
section
attribute [local congr] ax
def ij.obj {α:Type} {V:α->Vl} {h:ae} {mb:Nat} {M:DM α} (m:ij V h mb M) : ∃ q,h.getB mb=some (.obj q):=by obtain ⟨es,ck,m1,_⟩:=m.ex;exact ⟨_,m1.get⟩
end
end
end Go.Proofs.YtdhpgacmgebjdaaGreatDoor.W
namespace Go.Proofs.YtdhpgacmgebjdaaGreatDoor.W
open Go Go.Abs
noncomputable section
section
attribute [local congr] ax
def Ay (D:Dk) (t:Int):((D.openJ t).slot,(D.openJ t).gen,(D.openJ t).area) =
  if cC (D.blk 1)=true/\(cC (D.blk 0)=false\/bR (D.blk 0)<bR (D.blk 1)) then (1,bR (D.blk 1),dC (D.blk 1))
  else if cC (D.blk 0)=true then (0,bR (D.blk 0),dC (D.blk 0)) else (-1,0,0):=by
 have h:(D.openJ t).un=_:=D.openJ_un t;have h1:(D.openJ t).slot=(D.openJ t).un.slot:=rfl;have h2:(D.openJ t).gen=(D.openJ t).un.gen:=rfl;have h3:(D.openJ t).area=(D.openJ t).un.area:=rfl;rw [h1,h2,h3,h];cases k1:cC (D.blk 1) with
 |false=>
  simp only [DB,DS,false_and];cases k0:cC (D.blk 0) with
  |false=>rfl
  |true=>rw [DH rfl,DH rfl,Dk.xI];rfl
 |true=>
  rw [DH rfl];cases k0:cC (D.blk 0) with
  |false=>rw [DL (by decide),DH ⟨rfl,.inl rfl⟩,Dk.xI];rfl
  |true=>
   rw [DH rfl,Dk.xI];by_cases hg:bR (D.blk 0)<bR (D.blk 1)
   ·rw [DH ⟨rfl,.inr hg⟩];unfold Jn.takeSuper;rw [DH (.inr hg)];rfl
   ·rw [DL (by rintro ⟨_,h|h⟩;cases h;exact hg h),DH rfl];unfold Jn.takeSuper;rw [DL (by rintro (h|h);exact absurd h (by show ¬(((0:Nat):Int)<0);decide);exact hg h)];rfl
def openJ_area (D:Dk) (t:Int):(D.openJ t).area<=1:=by
 have h:=Ay D t;split at h
 ·rename_i hk;simp only [DF] at h;rw [h.2.2];exact kO hk.1
 ·split at h
  ·rename_i hk;simp only [DF] at h;rw [h.2.2];exact kO hk
  ·simp only [DF] at h;rw [h.2.2];omega
def lA (D:Dk) (s:Nat) (J:Jn):(J.takeSuper D s).turn=J.turn/\(J.takeSuper D s).ready=J.ready/\(J.takeSuper D s).fin=J.fin:=by unfold Jn.takeSuper;split<;>exact ⟨rfl,rfl,rfl⟩
def openJ_rest (D:Dk) (t:Int):(D.openJ t).turn=t/\(D.openJ t).ready=false/\(D.openJ t).fin=0:=by
 have h:(D.openJ t).un=_:=D.openJ_un t;have h1:(D.openJ t).turn=(D.openJ t).un.turn:=rfl;have h2:(D.openJ t).ready=(D.openJ t).un.ready:=rfl;have h3:(D.openJ t).fin=(D.openJ t).un.fin:=rfl;rw [h1,h2,h3,h];have a:=lA D 0 (D.jn0 t);have b:=lA D 1 (D.jn0 t);have c:=lA D 1 ((D.jn0 t).takeSuper D 0);have z:(D.jn0 t).turn=t/\(D.jn0 t).ready=false/\(D.jn0 t).fin=0:=⟨rfl,rfl,rfl⟩
 split<;>split<;>simp only [a,b,c,z,and_self]
def oS.of_n {J:Jn} {D D':Dk} (k:oS J D) (h:D'.n=D.n):oS J D':=⟨k.slot,k.area,k.gen,k.known,fun hr=>by
 have:=k.ready hr;have har:D'.ar=D.ar:=by unfold Dk.ar;rw [h]
 rw [har];exact this⟩
def append_jok {J:Jn} {D:Dk} {r:List Nat} (ok:oS J D) (hn:(J.append D r).2.1.n=D.n):oS (J.append D r).2.2 (J.append D r).2.1:=by
 refine oS.of_n (D:=D) ?_ hn;unfold Jn.append;split
 ·exact ok
 split
 ·exact ok
 split
 ·exact ok
 split
 ·exact ok
 rename_i h1 h2 h3 h4;split
 ·refine ⟨ok.slot,ok.area,ok.gen,ok.known,fun hr => ?_⟩;have hr:J.ready=true:=hr;have:=ok.ready hr;have hl:J.live D=true:=by simpa using h1
  have hf:J.free D=D.ar-J.fin:=by unfold Jn.free;rw [hl,hr];rfl
  rw [hf] at h4;show J.fin+br r.length<=D.ar/\0<=J.slot;omega
 ·exact ok
def rewrite_jok {J:Jn} {D:Dk} {vals:List (List Nat)} (ok:oS J D) (hn:(J.rewrite D vals).2.1.n=D.n):oS (J.rewrite D vals).2.2.1 (J.rewrite D vals).2.1:=by
 refine oS.of_n (D:=D) ?_ hn;unfold Jn.rewrite;split
 ·exact ok
 split
 ·exact ok
 split
 ·exact ok
 rename_i h1 h2 h3;split
 ·split
  ·have hk:=ok.known;refine ⟨?_,J.newArea_le,by show J.known+1<_;omega,by show J.known+1<_;omega,fun _ => ?_⟩
   ·show J.newSlot = -1\/J.newSlot=0\/J.newSlot=1;have:=ok.slot;unfold Jn.newSlot;split<;>omega
   ·show aU vals<=D.ar/\0<=J.newSlot;refine ⟨by omega,?_⟩;have:=ok.slot;unfold Jn.newSlot;split<;>omega
  ·exact ok
 ·exact ok
def be8_lt {l:List Nat} (hl:l.length<=8) (hb : ∀ x∈l,x<256):be l<18446744073709551616:=by have h1:=qe _ l rfl hb;have h2:=H8 (n:=256) (by decide) hl;omega
def openJ_jok {D:Dk} (hb : ∀ y∈D.img,y<256) (t:Int):oS (D.openJ t) D:=by
 have hblk : ∀ i,∀ y∈D.blk i,y<256:=fun i y hy=>hb y (EO (D6 hy));have hsg : ∀ i,bR (D.blk i)<18446744073709551616:=fun i=>be8_lt (IG ..) (fun y hy=>hblk i y (EO (D6 hy)));have hlg : ∀ s p,cb (D.jb s p)<18446744073709551616:=fun s p=>be8_lt (IG ..) (fun y hy=>hblk _ y (EO (D6 hy)));have hk:(D.openJ t).known<=18446744073709551615:=AD.openJ ⟨fun s _ p _ _=>by have:=hlg s p;omega,fun s _ _=>by have:=hsg s;omega⟩ t;have h:=Ay D t;have hg:((D.openJ t).slot = -1\/(D.openJ t).slot=0\/(D.openJ t).slot=1)/\(D.openJ t).gen<18446744073709551616:=by
  split at h
  ·simp only [DF] at h;exact ⟨.inr (.inr h.1),by rw [h.2.1];exact hsg 1⟩
  ·split at h
   ·simp only [DF] at h;exact ⟨.inr (.inl h.1),by rw [h.2.1];exact hsg 0⟩
   ·simp only [DF] at h;exact ⟨.inl h.1,by rw [h.2.1];omega⟩
 exact ⟨hg.1,openJ_area D t,hg.2,by omega,fun hr=>by rw [(openJ_rest D t).2.1] at hr;cases hr⟩
end
end
end Go.Proofs.YtdhpgacmgebjdaaGreatDoor.W
namespace Go.Proofs.YtdhpgacmgebjdaaGreatDoor.W
open Go Go.Abs R
noncomputable section
section
attribute [local congr] ax
def ld2 {h:ae} {b o:Nat} {k:eh} {x y:Vl} (hg:h.get b=some k) (h1:k[o]? = some x) (h2:k[o+1]? = some y) (hx:bW x=false) (hy:bW y=false):bQ 2 (ptr b o) h=some (.agg #[x,y],h):=by
 obtain ⟨l1,e1⟩:=DZ.1 h1;obtain ⟨l2,e2⟩:=DZ.1 h2;have e:(k.drop o).take 2 = [x,y]:=by rw [H9 l1,H9 l2,e1,e2];rfl
 have:=BC (n:=2) (o:=o) hg (by omega) (by rw [e];simp [Abs.noHoles,hx,hy]);rw [e] at this;exact this
end
end
end Go.Proofs.YtdhpgacmgebjdaaGreatDoor.W
namespace Go.Proofs.YtdhpgacmgebjdaaGreatDoor.W
open Go Go.Abs Tryz R
noncomputable section
section
attribute [local congr] ax
def tZ (i:Nat) (d:List Nat):fO (bq i d):=tT _
attribute [local irreducible] ux bq
def is55:bE prog 55 f55 := .of (by kernel_rfl)
def b55_14' (C:ah) (e:aO) (h:ae):b55_14 C 0 e h=k55_12 C e h:=rfl
def r103' (h:ae):CV ZG 103 [.int .i64 1,.int .i64 2,.int .i64 2] h=some (.bool true,h):=bX cp is103 rfl ((Cw _ _ _ _ _).trans (by kernel_rfl))
abbrev lZ (dl:List Nat) (ps:List (List Nat)):dB:=⟨1,2,2,dl.length,ux dl,ps⟩
def Bv {dl:List Nat} {ps:List (List Nat)} (hl:dl.length<=8192) (w : ∀ x∈ps,fO x):(lZ dl ps).Wf:=
 ⟨(⟨by decide,by decide⟩:I64 1),(⟨by decide,by decide⟩:I64 2),(⟨by decide,by decide⟩:I64 2),(⟨by omega,by omega⟩ : -9223372036854775808<=(dl.length:Int)/\(dl.length:Int)<=9223372036854775807),sg _,w⟩
structure EM (pb mb rb i:Nat) (y:Nat->Vl):Prop where
 y10:y 10=ptr rb 0
 y13:y 13 = .slice (some ⟨pb,0,none⟩) 2 2
 y15:y 15=ptr mb 0
 y47:y 47 = .slice (some ⟨pb,0,none⟩) 2 2
 y48:y 48=aj 2
 y49:y 49=aj i
structure MG (g:ae) (mb:Nat) (dl:List Nat) (ps:List (List Nat)) (v:Vl):Prop where
 c:g.get mb=some (cR (lZ dl ps) v)
 o:cG g (mb+1) 32 v ps.length (ps.flatMap bJ)
 w : ∀ x∈ps,fO x
def MG.sl {g:ae} {mb:Nat} {dl:List Nat} {ps:List (List Nat)} {v:Vl} (x:MG g mb dl ps v):nC g iT v ps.length (ps.flatMap bJ):=lF (ks:=iT) x.o (dM (P:=fO) (fun a ha=>bT ha) _ x.w)
set_option maxRecDepth 100000 in
def mk_rd {g:ae} (T:RT g) {pb mb rb l i b:Nat} {d dl:List Nat} {kp:eh} {ps:List (List Nat)} {v:Vl} (hi:i<2) (hp:i=ps.length) (gp:g.get pb=some kp) (k1:kp[2*i]? = some (aj i)) (k2:kp[2*i+1]? = some (mQ b l)) (P:Pcs g b d l) (hl:l<=8192) (M:MG g mb dl ps v) (m0:g.n0<=mb) {x:Nat->Vl} (E:EM pb mb rb i x) :
  ∃ g' v' y,fj (CV ZG) x g=some (.normal,aS 66 y,g')/\EM pb mb rb (i+1) y/\au g g' (mb <= ·)/\MG g' mb dl (ps ++ [bq i d]) v':=by
 have hm:=g.aL M.c;have hld:=P.len;subst hld;have ls:aA prog .lss 3 (aj i) (aj 2)=some (.bool true):=by rw [gS,DN hi]
 have ix:idxS 2 (.slice (some ⟨pb,0,none⟩) 2 2) (aj i)=some (ptr pb (2*i)):=by unfold idxS;simp only [aj];rw [DH (by omega),Int.toNat_natCast,DC,II]
 have lp:bQ 2 (ptr pb (2*i)) g=some (pv i (mQ b d.length),g):=ld2 gp k1 k2 rfl rfl;obtain ⟨g1,z1,o1,q1,n1⟩:=fresh [(.int .i64 0),(.slice none 0 0)] g;obtain ⟨g2,t2,e2,q2,_,n2⟩:=aN (n:=2) (k' := [aj i,mQ b d.length]) q1 (by rw [o1.n0];exact g.n0_le_next) rfl rfl rfl;have O2:aK g g2:=aK.bB o1 e2 (DG _);have t2:bI 2 (ptr g.next 0) (pv i (mQ b d.length)) g1=some (undef,g2):=t2;have c2:=aK.get O2 M.c;have ob:fO (ux dl):=sg _;have hcell:=dZ M.sl;have l54:ld1 (ptr mb 36) g2=some (v,g2):=aH c2 (As ob.1) hcell.1;have l56:ld1 (ptr g.next 0) g2=some (aj i,g2):=aH q2 rfl;have l58:ld1 (ptr g.next 1) g2=some (mQ b d.length,g2):=aH q2 rfl;have P2:=P.old (B:=fun _=>False) O2 id;obtain ⟨g7,e7,o7⟩:=r70 (T.old O2) (ix:=i) (by omega) P2.bs (by omega);have e7:=jP cp (T.old O2).n0 (by rfl) e7;have e7:CV ZG 70 [aj i,mQ b d.length] g2=some (kV (bq i d),g7):=e7;have O7:=O2.trans o7;have wd:=tZ i d;obtain ⟨v1,g8,v',g9,e8,e9,O9,o8,k9,hv,nx⟩:=ids_push (M.o.keep O7 (fun _ _ q=>q)) wd (by rw [O7.n0];omega) (by have:=O7.next;omega) (by omega);have O8:=O7.trans o8;have c9:g9.get mb=some (cR (lZ dl ps) v):=k9.getE (aK.get O8 M.c) (fun q=>by have:=iz M.o q.1;omega);have w' : ∀ x∈ps ++ [bq i d],fO x:=fun x hx=>by
  rcases D8.1 hx with hx|hx
  ·exact M.w x hx
  ·rw [FB.1 hx];exact wd
 have hcell':=dZ (lF (ks:=iT) O9 (dM (P:=fO) (fun a ha=>bT ha) _ w'));have n9:g9.n0<=mb:=by rw [k9.n0,O8.n0];exact m0
 obtain ⟨g10,t10,k10,q10,_,_⟩:=dr (o:=36) (v:=v') c9 n9 (by rw [(gT (m:=lZ dl ps) ob.1 ⟨hcell.1,hcell.2.1⟩).1];decide) hcell'.2.2 hcell'.2.1;rw [mset36 (m:=lZ dl ps) ob.1] at q10;have ck:dW true (some (v,g7)) v=true:=dq rfl M.sl.veq;have l54':ld1 (ptr mb 36) g7=some (v,g7):=aH (aK.get O7 M.c) (As ob.1) hcell.1;have K:au g g10 (mb <= ·):=(O8.mono (fun _ _ q=>q.elim)).trans ((k9.mono (fun c _ q=>by have:=iz M.o q.1;omega)).trans (k10.mono (fun c _ q=>by subst q;exact DG _)));refine ⟨g10,v',up x [(17,ptr g.next 0),(49,aj (i+1)),(50,.bool true),(51,ptr pb (2*i)),(52,pv i (mQ b d.length)),(53,ptr mb 36),(54,v),(55,ptr g.next 0),(56,aj i),(57,ptr g.next 1),(58,mQ b d.length),(59,kV (bq i d)),(60,v1),(61,v'),(62,ptr mb 36),(63,aj (i+1))],?_,⟨E.y10,E.y13,E.y15,E.y47,E.y48,rfl⟩,K,⟨q10,O9.keep k10 (fun b hb q=>by have:=iz O9 hb;omega),w'⟩⟩;unfold fj;simp -implicitDefEqProofs only [E.y49,E.y48,ls,E.y47,ix,lp,z1,t2,E.y15,aw,DC,Nat.add_zero,l54,l56,l58,e7,e8,e9,t10,l54',ck,EJ,eW (show i+1<=9223372036854775807 by omega),af,ak]
end
section
attribute [local congr] ax
abbrev opK (j:Nat) (quota:Int) (inc im gm:Nat):eh := [ptr j 0,.int .i64 quota,.int .u64 (inc:Int),.map (some im),.map (some gm),.pointer none]
def is14:bE prog 14 f14 := .of (by kernel_rfl)
def b14_exit (C:ah) (e:aO) (h:ae):b14_14 C 0 e h=k14_12 C e h:=rfl
def nil24 (b o:Nat):aA prog .eql 24 (ptr b o) (.pointer none)=some (.bool false):=by kernel_rfl
def ex30 (a b c:Vl):extractA (.tuple #[a,b,c]) 0=some a:=rfl
def ex31 (a b c:Vl):extractA (.tuple #[a,b,c]) 1=some b:=rfl
def ex32 (a b c:Vl):extractA (.tuple #[a,b,c]) 2=some c:=rfl
end
section
attribute [local congr] ax
def yi.keptO {h g:ae} {cur:Vl} {cd:Option (List Nat)} (x:yi h cur cd) {B:Nat->Prop} (o:au h g B) (hB : ∀ b,B b -> ∃ q,h.getB b=some (.obj q)):yi g cur cd:=by
 rcases x with x|⟨b,id,h1,h2,h3,h4⟩
 ·exact .inl x
 ·exact .inr ⟨b,id,h1,h2,o.getE h3 (fun q=>by obtain ⟨oo,ho⟩:=hB b q;exact kf h3 ho rfl),h4⟩
def iA.items' {h g:ae} {S:Ss} (x:iA h S) (k:au h g (fun c=>c=S.im)) {M:DM It} (it:ij oZ g S.im M):iA g { S with items:=M }:=by
 obtain ⟨qo,hqo⟩:=x.it.obj;have hB : ∀ b,b=S.im -> ∃ q,h.getB b=some (.obj q):=fun b e=>by rw [e];exact ⟨qo,hqo⟩
 exact ⟨k.getE x.c (kf x.c hqo),by rw [k.n0];exact x.n0,k.dk x.dk (kf x.dk.hdr hqo) (kf x.dk.img hqo),x.jn.keep k (kf x.jn.get hqo),x.ok,x.n2,it,x.gr.kept k (fun q=>x.ne q.symm),by rw [k.n0];exact x.im0,by rw [k.n0];exact x.gm0,x.ne,x.sd,x.sb,x.sj,x.cu.keptO k hB,x.inc⟩
def is19:bE prog 19 f19 := .of (by kernel_rfl)
def res19:f19.results.toList = [.cell 4 35,.cell 5 37,.tmp 6]:=by kernel_rfl
def results19 {n:Nat} (hn:6<n) (x:Nat->Vl) {h:ae} {a b:Vl} (e2:bQ 37 (x 4) h=some (a,h)) (e3:bQ 2 (x 5) h=some (b,h)):resultsA prog f19.results.toList (aS n x) h=some (.tuple #[a,b,x 6],h):=by rw [res19];simp only [resultsA,FJ,List.mapM_nil,dy,di (show 4<n by omega),di (show 5<n by omega),di hn,j9 oQ siz35,j9 agg37 siz37,e2,e3];rfl
def BN (h:ae) (S:Ss) (id:List Nat) (o:aY):Prop:=
 if S.up=false then ∃ g,aK h g/\o=some (.tuple #[.agg zM.toArray,.agg zP.toArray,.int .i64 9],g)
 else match S.items.get id with
  |none => ∃ g,aK h g/\o=some (.tuple #[.agg zM.toArray,.agg zP.toArray,.int .i64 6],g)
  |some x=>match kh S.D S.J id x.at_ with
   |none => ∃ g,au h g (fun c=>c=S.im)/\iA g { S with items:=S.items.del id }/\o=some (.tuple #[.agg zM.toArray,.agg zP.toArray,.int .i64 42],g)
   |some (m,ix,d,_) => ∃ g v dv,aK h g/\o=some (.tuple #[mv m v,pv ix dv,.int .i64 0],g)/\fT g m v/\BS g dv d/\(∀ b,zK v=some b->h.next<=b)/\(∀ a n c,dv = .slice (some a) n c->h.next<=a.block)
set_option maxRecDepth 100000 in
def r19 {Z:ah} (z:ZOk Z) {h:ae} (T:RT h) {S:Ss} (x:iA h S) (har:S.D.ar<=190) {id:List Nat} (w:fO id):BN h S id (CV Z 19 [ptr S.s 0,kV id] h):=by
 obtain ⟨h1,b1,o1,g1,n1⟩:=dig_box w h;obtain ⟨h2,z2,o2,g2,n2⟩:=fresh zM h1;obtain ⟨h3,z3,o3,g3,n3⟩:=fresh zP h2;have O3:=(o1.trans o2).trans o3;have x3:=x.old O3;have T3:=T.old O3;have e1:=r60 z T3.n0 x3;have hz:=h.n0_le_next;have N0 : ∀ {g:ae},aK h g->g.n0=h.n0:=fun o=>o.n0;have bM:cN zM []=some (.agg zM.toArray):=rfl;have bP:cN zP []=some (.agg zP.toArray):=rfl;have zero : ∀ {g:ae} {k0 k1:eh},h3.n0=g.n0->g.get h1.next=some k0->g.get h2.next=some k1->k0.length=37->k1.length=2 -> ∃ ga gb,bI 37 (ptr h1.next 0) (.agg zM.toArray) g=some (undef,ga)/\bI 2 (ptr h2.next 0) (.agg zP.toArray) ga=some (undef,gb)/\au g gb (fun c=>c=h1.next\/c=h2.next)/\bQ 37 (ptr h1.next 0) gb=some (.agg zM.toArray,gb)/\bQ 2 (ptr h2.next 0) gb=some (.agg zP.toArray,gb):=by intro g k0 k1 hn a0 a1 l0 l1;obtain ⟨ga,t1,k1',q1,_,m1⟩:=aN (n:=37) (k':=zM) a0 (by rw [<-hn,N0 O3];omega) l0 rfl rfl;obtain ⟨gb,t2,k2',q2,_,m2⟩:=aN (n:=2) (k':=zP) (au.getE k1' a1 (by omega)) (by rw [k1'.n0,<-hn,N0 O3];omega) l1 rfl rfl;exact ⟨ga,gb,t1,t2,(k1'.mono (fun _ _ q => .inl q)).trans (k2'.mono (fun _ _ q => .inr q)),aP (au.getE k2' q1 (by omega)) rfl rfl,aP q2 rfl rfl⟩
 have G1:=aK.get o3 g2;unfold BN;cases hu:S.up with
 |false=>
  rw [DH rfl];rw [hu] at e1;simp -implicitDefEqProofs only [DB,DS] at e1;obtain ⟨ga,gb,t1,t2,kz,L1,L2⟩:=zero rfl G1 g3 rfl rfl;refine ⟨gb,O3.also kz (fun c hc q=>by rcases q with q|q<;>omega),bX z is19 rfl ((BE _ _ _ _).trans ?_)⟩;unfold t19;simp -implicitDefEqProofs only [b1,z2,z3,e1,jm,n90,bM,bP,t1,t2,af,ak];refine results19 (n:=56) (by decide) _ ?_ ?_<;>assumption
 |true=>
  rw [DL (by decide)];rw [hu] at e1;simp -implicitDefEqProofs only [DV] at e1;have i3:h3.get h.next=some (bJ id):=aK.get (o2.trans o3) g1;have l3:bQ 32 (ptr h.next 0) h3=some (kV id,h3):=aP i3 (bu w) (bA _).1;obtain ⟨lk,_⟩:=lkD x3.it oU zero136 (itG _) w;rw [getD_map] at lk;obtain ⟨h4,h5,z4,t5,o5,q5,n5⟩:=it_box ((S.items.get id).getD zI) h3;have O5:=O3.trans o5;have x5:=x.old O5;cases hm:S.items.get id with
  |none=>
   rw [hm] at lk t5 q5;obtain ⟨ga,gb,t1,t2,kz,L1,L2⟩:=zero o5.n0.symm (aK.get o5 G1) (aK.get o5 g3) rfl rfl;refine ⟨gb,O5.also kz (fun c hc q=>by rcases q with q|q<;>omega),bX z is19 rfl ((BE _ _ _ _).trans ?_)⟩;unfold t19;have lk:lookupA prog 123 (.map (some S.im)) (kV id) true h3=some (.tuple #[oZ zI,.bool false],h3):=lk;have t5:bI 3 (ptr h3.next 0) (oZ zI) h4=some (undef,h5):=t5;simp -implicitDefEqProofs only [b1,z2,z3,e1,jm,n00,av,aw,DC,Nat.reduceAdd,x3.l3,l3,lk,jO,j7,z4,t5,dt,EG,bM,bP,t1,t2,af,ak];refine results19 (n:=56) (by decide) _ ?_ ?_<;>assumption
  |some y=>
   rw [hm] at lk t5 q5;have lk:lookupA prog 123 (.map (some S.im)) (kV id) true h3=some (.tuple #[oZ y,.bool true],h3):=lk;have t5:bI 3 (ptr h3.next 0) (oZ y) h4=some (undef,h5):=t5;have q5:h5.get h3.next=some (itC y):=q5;have i5:=aK.get o5 i3;have l5:bQ 32 (ptr h.next 0) h5=some (kV id,h5):=aP i5 (bu w) (bA _).1;have ly:bQ 3 (ptr h3.next 0) h5=some (oZ y,h5):=aP q5 rfl rfl;obtain ⟨h6,o6,P6⟩:=r65 z (T.old O5) x5.jp har w y;obtain ⟨h7,z7,o7,g7,n7⟩:=fresh zM h6;obtain ⟨h8,z8,o8,g8,n8⟩:=fresh zP h7;have P8:=(o6.trans o7).trans o8;have m6:=o6.next;have m5:=o5.next;cases hr:kh S.D S.J id y.at_ with
   |none=>
    rw [hr] at P6;obtain ⟨A,B,v,e6,A0,A1,A2,B0,B1,B2⟩:=P6;obtain ⟨h9,t9,k9,g9,_,n9⟩:=aN (n:=37) (k':=A) (aK.get o8 g7) (by rw [(O5.trans P8).n0];omega) rfl A0 A1;have P9:aK h5 h9:=aK.bB P8 k9 (by omega);obtain ⟨h10,t10,k10,g10,_,n10⟩:=aN (n:=2) (k':=B) (au.getE k9 g8 (by omega)) (by rw [(O5.trans P9).n0];omega) rfl B0 B1;have P10:aK h5 h10:=aK.bB P9 k10 (by omega);have O10:=O5.trans P10;have x10:=x.old O10;have l10:bQ 32 (ptr h.next 0) h10=some (kV id,h10):=aP (aK.get P10 i5) (bu w) (bA _).1;obtain ⟨h11,e11,it11,k11,n11⟩:=deD x10.it x10.im0 oU w;obtain ⟨qo,hqo⟩:=x10.it.obj;have q1:h10.get h1.next=some zM:=aK.get P10 (aK.get o5 G1);have q2:h10.get h2.next=some zP:=aK.get P10 (aK.get o5 g3);obtain ⟨ga,gb,t1,t2,kz,L1,L2⟩:=zero (by rw [k11.n0,O10.n0,O3.n0]) (k11.getE q1 (kf q1 hqo)) (k11.getE q2 (kf q2 hqo)) rfl rfl;have iml:S.im<h.next:=by obtain ⟨q,hq⟩:=x.it.obj;exact h.lt_of_getB hq
    have Kg:au h gb (fun c=>c=S.im):=((O10.mono (fun _ _ q=>q.elim)).trans k11).also kz (fun c hc q=>by rcases q with q|q<;>omega);simp only [hr];refine ⟨gb,Kg,x.items' Kg ?_,bX z is19 rfl ((BE _ _ _ _).trans ?_)⟩
    ·exact it11.kept kz (fun q=>by rcases q with q|q<;>omega)
    ·unfold t19;simp -implicitDefEqProofs only [b1,z2,z3,e1,jm,n00,av,aw,DC,Nat.reduceAdd,x3.l3,l3,lk,jO,j7,z4,t5,dt,EK,EG,l5,ly,e6,exq0,exq1,exq2,exq3,z7,z8,t9,t10,x10.l3,l10,e11,bM,bP,t1,t2,af,ak];refine results19 (n:=56) (by decide) _ ?_ ?_<;>assumption
   |some p=>
    obtain ⟨m,ix,dd,rc⟩:=p;rw [hr] at P6;obtain ⟨v,dv,rv,e6,X,Bd,Br,f1,f2,f3⟩:=P6;have hB1:aM [Value.int .i64 ix,dv]=true:=by simp [aM,Bd.cell.2.1,show (Value.int .i64 (ix:Int)).oneCell'=true from rfl]
    have hB2:Abs.noHoles [Value.int .i64 ix,dv]=true:=by simp [Abs.noHoles,Bd.cell.1,show bW (Value.int .i64 (ix:Int))=false from rfl]
    obtain ⟨h9,t9,k9,g9,_,n9⟩:=aN (n:=37) (k':=cR m v) (aK.get o8 g7) (by rw [(O5.trans P8).n0];omega) rfl X.ok.1 X.ok.2.2;have P9:aK h5 h9:=aK.bB P8 k9 (by omega);obtain ⟨h10,t10,k10,g10,_,n10⟩:=aN (n:=2) (k' := [.int .i64 ix,dv]) (au.getE k9 g8 (by omega)) (by rw [(O5.trans P9).n0];omega) rfl rfl hB1;have P10:aK h5 h10:=aK.bB P9 k10 (by omega);have O10:=O5.trans P10;have Q69:aK h6 h10:=aK.bB (aK.bB (o7.trans o8) k9 (DG _)) k10 (by omega);have L1:bQ 37 (ptr h6.next 0) h10=some (mv m v,h10):=aP (au.getE k10 g9 (by omega)) X.ok.1 X.ok.2.1;have L2:bQ 2 (ptr h7.next 0) h10=some (pv ix dv,h10):=aP g10 rfl hB2;obtain ⟨h11,t11,k11,g11,_,n11⟩:=aN (n:=37) (k':=cR m v) (aK.get P10 (aK.get o5 G1)) (by rw [O10.n0];omega) rfl X.ok.1 X.ok.2.2;have O11:aK h h11:=aK.bB O10 k11 (by omega);obtain ⟨h12,t12,k12,g12,_,n12⟩:=aN (n:=2) (k' := [.int .i64 ix,dv]) (au.getE k11 (aK.get P10 (aK.get o5 g3)) (by omega)) (by rw [O11.n0];omega) rfl rfl hB1;have O12:aK h h12:=aK.bB O11 k12 (by omega);have vp:Abs.veq (pv ix dv) (pv ix dv)=true:=by show (Abs.veq (.int .i64 ix) (.int .i64 ix)&&(Abs.veq dv dv&&true))=true;rw [Bd.veq];simp [Abs.veq]
    have C1:=dq (aP (n:=2) (au.getE k11 g10 (by omega)) rfl hB2) vp;have R1:bQ 37 (ptr h1.next 0) h12=some (mv m v,h12):=aP (au.getE k12 g11 (by omega)) X.ok.1 X.ok.2.1;have R2:bQ 2 (ptr h2.next 0) h12=some (pv ix dv,h12):=aP g12 rfl hB2;have t9:bI 37 (ptr h6.next 0) (mv m v) h8=some (undef,h9):=t9;have t10:bI 2 (ptr h7.next 0) (pv ix dv) h9=some (undef,h10):=t10;have t11:bI 37 (ptr h1.next 0) (mv m v) h10=some (undef,h11):=t11;have t12:bI 2 (ptr h2.next 0) (pv ix dv) h11=some (undef,h12):=t12;simp only [hr];refine ⟨h12,v,dv,O12,bX z is19 rfl ((BE _ _ _ _).trans ?_),⟨((X.sl.old Q69).keep k11 (fun b hb q=>by have:=f1 b hb;omega)).keep k12 (fun b hb q=>by have:=f1 b hb;omega),X.wf⟩,?_,fun b hb=>by have:=f1 b hb;omega,fun a n c q=>by have:=f2 a n c q;omega⟩
    ·unfold t19;simp -implicitDefEqProofs only [b1,z2,z3,e1,jm,n00,av,aw,DC,Nat.reduceAdd,x3.l3,l3,lk,jO,j7,z4,t5,dt,EK,EG,l5,ly,e6,exq0,exq1,exq2,exq3,z7,z8,t9,t10,L1,L2,t11,t12,C1,EJ,af,ak];refine results19 (n:=56) (by decide) _ ?_ ?_<;>assumption
    ·obtain ⟨a,c,rfl,sb,gs⟩:=(Bd.old Q69).ex;refine .of (k12.bytes (k11.bytes sb fun y hy _ q => ?_) fun y hy _ q => ?_) gs
     ·subst hy;have:=f2 y _ _ rfl;omega
     ·subst hy;have:=f2 y _ _ rfl;omega
end
section
attribute [local congr] ax
attribute [local irreducible] ux bq
def res55:f55.results.toList = [.cell 10 35,.tmp 11,.tmp 12]:=by kernel_rfl
def results55 {n:Nat} (hn:12<n) (x:Nat->Vl) {h:ae} {a:Vl} (e:bQ 37 (x 10) h=some (a,h)):resultsA prog f55.results.toList (aS n x) h=some (.tuple #[a,x 11,x 12],h):=by rw [res55];simp only [resultsA,FJ,List.mapM_nil,dy,di (show 10<n by omega),di (show 11<n by omega),di hn,j9 oQ siz35,e];rfl
structure MkOk (h g:ae) (fb pb b0 b1:Nat) (dl d0 d1:List Nat) (v:Vl):Prop where
 k:au h g (· = fb)
 pn:h.next<=pb
 n0:h.next<=b0
 n1:h.next<=b1
 P:g.get pb=some (pcK (mQ b0 dl.length) (mQ b1 dl.length))
 p0:Pcs g b0 d0 dl.length
 p1:Pcs g b1 d1 dl.length
 M:fT g (lZ dl [bq 0 d0,bq 1 d1]) v
 vn : ∀ b,zK v=some b->h.next<=b/\b≠b0/\b≠b1/\b≠pb
 ne0:b0≠pb
 ne1:b1≠pb
 ne:b0≠b1
set_option maxRecDepth 100000 in
def r55 {h:ae} (T:RT h) {fb:Nat} (hf:h.get fb=some k0F) (f0:h.n0<=fb) {x4:Vl} {dl:List Nat} (B:BS h x4 dl) (hl:dl.length<=8192) (hne : ∀ a n c,x4 = .slice (some a) n c->0<n->a.block≠fb) :
  ∃ g pb b0 b1 d0 d1 v,CV ZG 55 [ptr fb 0,.int .i64 1,.int .i64 2,.int .i64 2,x4] h=some (.tuple #[mv (lZ dl [bq 0 d0,bq 1 d1]) v,.slice (some ⟨pb,0,none⟩) 2 2,.int .i64 0],g)/\MkOk h g fb pb b0 b1 dl d0 d1 v:=by
 have hn0:=h.n0_le_next;have hfl:=h.aL hf;obtain ⟨h1,z1,o1,q1,n1⟩:=fresh zM h;obtain ⟨h2,pb,b0,b1,d0,d1,e2,E2⟩:=r104 (T.old o1) (aK.get o1 hf) (by rw [o1.n0];exact f0) (B.old o1) hl;have K2:au h h2 (· = fb):=(o1.mono (fun _ _ q=>q.elim)).trans E2.k;have T2:RT h2:=T.kept K2 (fun b q=>by subst q;exact f0);have B2:BS h2 x4 dl:=by obtain ⟨a,c,rfl,s,gs⟩:=B.ex;exact .of (K2.bytes s (fun y hy hn q=>by subst hy;exact hne _ _ _ rfl hn q)) gs
 obtain ⟨h3,e3,o3⟩:=r67 T2 B2 (by omega);have e3:=jP cp T2.n0 (by rfl) e3;have ob:fO (ux dl):=sg _;obtain ⟨h4,z4,o4,q4,n4⟩:=fresh zM h3;have O4:aK h2 h4:=o3.trans o4;have cok:=gT (m:=lZ dl []) (v := .slice none 0 0) ob.1 ⟨rfl,rfl⟩;obtain ⟨h5,t5,k5,q5,_,n5⟩:=aN (n:=37) (k':=cR (lZ dl []) (.slice none 0 0)) q4 (by rw [O4.n0,K2.n0];have:=K2.next;have:=o3.next;omega) rfl cok.1 cok.2.2;have O5:aK h2 h5:=aK.bB O4 k5 o3.next;have M5:MG h5 h3.next dl [] (.slice none 0 0):=⟨q5,cG.nil _ _ _,fun x hx=>by cases hx⟩
 have T5:=T2.old O5;have lt2:=fun {b:Nat} {k:eh} (e:h2.get b=some k)=>h2.aL e;have l1:=lt2 E2.P;have l2:=lt2 E2.p0.c;have l3:=lt2 E2.p1.c;have m3:=o3.next;have N5 : ∀ {g:ae},au h5 g (h3.next <= ·)->g.n0=h.n0:=fun k=>by rw [k.n0,O5.n0,K2.n0]
 have hmb:h.n0<=h3.next:=by have:=K2.next;omega
 have up:=fun {g:ae} (k:au h5 g (h3.next <= ·))=>(show au h2 g (h3.next <= ·) from (O5.mono (fun _ _ q=>q.elim)).trans k)
 obtain ⟨x,hx⟩ : ∃ x:Nat->Vl,x=Go.Abs.up (bs [ptr fb 0,.int .i64 1,.int .i64 2,.int .i64 2,x4]) [(10,ptr h.next 0),(11,.slice none 0 0),(12,.int .i64 0),(13,.slice (some ⟨pb,0,none⟩) 2 2),(14,.int .i64 0),(15,ptr h3.next 0),(18,ptr fb 0),(19,.bool false),(21,.int .i64 1),(22,.int .i64 2),(23,.int .i64 2),(24,.bool true),(25,.bool false),(27,.tuple #[.slice (some ⟨pb,0,none⟩) 2 2,.int .i64 0]),(28,ptr fb 0),(29,.int .i64 1),(30,.int .i64 2),(31,x4),(32,.tuple #[.slice (some ⟨pb,0,none⟩) 2 2,.int .i64 0]),(33,.slice (some ⟨pb,0,none⟩) 2 2),(34,.int .i64 0),(35,.int .i64 0),(36,.bool false),(39,.int .i64 1),(40,.int .i64 2),(41,.int .i64 2),(42,x4),(43,aj dl.length),(44,x4),(45,kV (ux dl)),(46,mv (lZ dl []) (.slice none 0 0)),(47,.slice (some ⟨pb,0,none⟩) 2 2),(48,.int .i64 2),(49,.int .i64 0)]:=⟨_,rfl⟩
 have E5:EM pb h3.next h.next 0 x:=by subst hx;exact ⟨rfl,rfl,rfl,rfl,rfl,rfl⟩
 have key:Fin 66 (fun ex y g=>ex = .exit 0/\EM pb h3.next h.next 2 y/\au h5 g (h3.next <= ·) /\ ∃ v,MG g h3.next dl [bq 0 d0,bq 1 d1] v)
   (iter (codeA prog (CV ZG) (aq f55 [1,1,1,1,1,1,0,1,0,0])) az (aS 66 x) h5):=by
  refine bL (ry (CV ZG)) (Inv:=fun k y g=>au h5 g (h3.next <= ·)/\((k=2/\EM pb h3.next h.next 0 y /\ ∃ v,MG g h3.next dl [] v)\/(k=1/\EM pb h3.next h.next 1 y /\ ∃ v,MG g h3.next dl [bq 0 d0] v)\/(k=0/\EM pb h3.next h.next 2 y /\ ∃ v,MG g h3.next dl [bq 0 d0,bq 1 d1] v))) ?_ 2 (by have:az=18446744073709551616:=rfl;omega) ⟨au.refl _ _,.inl ⟨rfl,E5,_,M5⟩⟩;rintro k y g ⟨K,⟨rfl,E,v,M⟩|⟨rfl,E,v,M⟩|⟨rfl,E,v,M⟩⟩
  ·have Kg:=up K;obtain ⟨g',v',y',e,E',k',M'⟩:=mk_rd (T2.kept Kg (fun b q=>by have:=h2.n0_le_next;omega)) (i:=0) (by decide) rfl (Kg.getE E2.P (by omega)) rfl rfl (E2.p0.old Kg (by omega)) hl M (by rw [N5 K];exact hmb) E;rw [e];exact dE.next 1 (by omega) ⟨K.trans k',.inr (.inl ⟨rfl,E',v',M'⟩)⟩
  ·have Kg:=up K;obtain ⟨g',v',y',e,E',k',M'⟩:=mk_rd (T2.kept Kg (fun b q=>by have:=h2.n0_le_next;omega)) (i:=1) (by decide) rfl (Kg.getE E2.P (by omega)) rfl rfl (E2.p1.old Kg (by omega)) hl M (by rw [N5 K];exact hmb) E;rw [e];exact dE.next 0 (by omega) ⟨K.trans k',.inr (.inr ⟨rfl,E',v',M'⟩)⟩
  ·unfold fj;have ls:aA prog .lss 3 (aj 2) (aj 2)=some (.bool false):=by kernel_rfl
   simp -implicitDefEqProofs only [E.y49,E.y48,ls,af,ak];exact dE.out 0 ⟨rfl,⟨E.y10,E.y13,E.y15,E.y47,E.y48,E.y49⟩,K,v,M⟩
 obtain ⟨ex,y,g,e8,rfl,E,K,v,M⟩:=key;have Kg:=up K;have hcell:=dZ M.sl;have mok:=gT (m:=lZ dl [bq 0 d0,bq 1 d1]) ob.1 ⟨hcell.1,hcell.2.1⟩;have lm:bQ 37 (ptr h3.next 0) g=some (mv (lZ dl [bq 0 d0,bq 1 d1]) v,g):=aP M.c mok.1 mok.2.1;have q0:g.get h.next=some zM:=Kg.getE (E2.k.getE q1 (by omega)) (by have:=E2.k.next;omega);obtain ⟨g',tg,kg,qg,_,_⟩:=aN (n:=37) (k':=cR (lZ dl [bq 0 d0,bq 1 d1]) v) q0 (by rw [N5 K];exact hn0) rfl mok.1 mok.2.2;have tg:bI 37 (ptr h.next 0) (mv (lZ dl [bq 0 d0,bq 1 d1]) v) g=some (undef,g'):=tg;have lg:bQ 37 (ptr h.next 0) g'=some (mv (lZ dl [bq 0 d0,bq 1 d1]) v,g'):=aP qg mok.1 mok.2.1;have Kh:au h g (· = fb):=K2.also Kg (fun d hd q=>by have:=K2.next;omega);have Kh':au h g' (· = fb):=Kh.also kg (fun d hd q=>by omega);have nx:=E2.k.next;refine ⟨g',pb,b0,b1,d0,d1,v,bX cp is55 rfl ((t55_eq _ _ _ _ _ _ _).trans ?_),⟨Kh',by have:=E2.pn;omega,by have:=E2.n0;omega,by have:=E2.n1;omega,kg.getE (Kg.getE E2.P (by omega)) (by have:=E2.pn;omega),(E2.p0.old Kg (by omega)).old kg (by have:=E2.n0;omega),(E2.p1.old Kg (by omega)).old kg (by have:=E2.n1;omega),⟨M.sl.keep kg (fun b hb q=>by have:=qW M.o hb;omega),Bv hl M.w⟩,fun b hb => ?_,E2.ne0,E2.ne1,E2.ne⟩⟩
 ·unfold t55;have l2':cg (.slice (some ⟨pb,0,none⟩) 2 2)=some (.int .i64 2):=rfl;have bl:cN zM [(0,1,.int .i64 1),(1,1,.int .i64 2),(2,1,.int .i64 2),(3,1,aj dl.length),(4,32,kV (ux dl))]=some (mv (lZ dl []) (.slice none 0 0)):=by have hb:=bu ob;have e:jq zM [(0,1,.int .i64 1),(1,1,.int .i64 2),(2,1,.int .i64 2),(3,1,aj dl.length),(4,32,kV (ux dl))]=jq ([.int .i64 1,.int .i64 2,.int .i64 2,aj dl.length]++(List.replicate 32 (.int .u8 0) ++ [.slice none 0 0])) [(4,32,kV (ux dl))]:=rfl;unfold cN;rw [e,tX (A := [.int .i64 1,.int .i64 2,.int .i64 2,aj dl.length]) (B:=List.replicate 32 (.int .u8 0)) (C := [.slice none 0 0]) (B':=bJ (ux dl)) (o:=4) (n:=32) rfl rfl rfl hb];rfl
  have t5:bI 37 (ptr h3.next 0) (mv (lZ dl []) (.slice none 0 0)) h4=some (undef,h5):=t5;simp -implicitDefEqProofs only [z1,zt,r103',dt,EK,e2,jO,j7,jm,ED,B.len,e3,bl,z4,t5,l2',af,ak];rw [<-hx,e8];simp -implicitDefEqProofs only [bh,b55_14',Cv];unfold uU;simp -implicitDefEqProofs only [E.y15,lm,E.y13,E.y10,tg,af,ak];exact results55 (by decide) _ (by rw [<-E.y10] at lg;exact lg)
 ·have:=qW M.o hb;omega
end
section
attribute [local congr] ax
attribute [local irreducible] ux bq j8
def is56:bE prog 56 f56 := .of (by kernel_rfl)
def is15:bE prog 15 f15 := .of (by kernel_rfl)
def r56 (h:ae):CV ZG 56 [] h=some (ptr h.next 0,h.alloc k0F):=bX cp is56 rfl ((t56_eq _ _).trans (by kernel_rfl))
def own_b {h:ae} {x:Vl} {dl:List Nat} (B:BS h x dl) (hl:dl.length<=50000) : ∃ v g,appendA 1 1 (.slice (some ⟨h.next,0,none⟩) 0 0) x (h.alloc [])=some (v,g)/\aK h g/\jo g h.next v dl:=by have o1:aK h (h.alloc []):=au.alloc _ _ _;obtain ⟨a,c,rfl,s,_⟩:=(B.old o1).ex;obtain ⟨v,g,e,O,k,_⟩:=qu (N:=h.next) (c:=c) (show jo (h.alloc []) h.next (.slice (some ⟨h.next,0,none⟩) 0 0) [] from ⟨cG.empty _ (DG _),by simp⟩) h.n0_le_next (HH _) s (by simp;omega);exact ⟨v,g,e,o1.also k (fun d hd q=>by cases q;exact absurd hd (GZ _)),O⟩
abbrev Aq (id:List Nat) (m:dB) (v:Vl) (ix:Nat) (dv:Vl):eh:=(bJ id++cR m v)++([aj ix,dv] ++ [])
abbrev hdZ:eh:=zlit1
def agg39:sK prog 39=some true:=by kernel_rfl
def siz39:cQ prog 39=some 71:=by kernel_rfl
def res15:f15.results.toList = [.cell 4 39]:=by kernel_rfl
def hd_ok {id:List Nat} {m:dB} {v dv:Vl} {ix:Nat} (w:fO id) (ho:m.obj.length=32) (hv:bW v=false/\v.oneCell'=true) (hd:bW dv=false/\dv.oneCell'=true):(Aq id m v ix dv).length=71/\Abs.noHoles (Aq id m v ix dv)=true/\aM (Aq id m v ix dv)=true:=by obtain ⟨a1,a2,a3⟩:=gT ho hv;have i1:bW (aj ix)=false:=rfl;have i2:(aj ix).oneCell'=true:=rfl;refine ⟨by simp [a1,bu w],od (od (bA _).1 a2) (by simp [Abs.noHoles,i1,hd.1]),oJ (oJ (bA _).2 a3) (by simp [aM,i2,hd.2])⟩
def hd_ab {id:List Nat} {m:dB} {v:Vl} (w:fO id) (ho:m.obj.length=32) (hv:bW v=false/\v.oneCell'=true):(bJ id++cR m v).length=69:=by rw [DO,bu w,(gT ho hv).1]
def bld71 {id:List Nat} {m:dB} {v:Vl} (w:fO id) (ho:m.obj.length=32) (hv:bW v=false/\v.oneCell'=true):cN hdZ [(0,32,kV id),(32,37,mv m v)]=some (.agg (Aq id m v 0 (.slice none 0 0)).toArray):=by
 unfold cN;rw [tX (z:=hdZ) (A := []) (B := [(.int .u8 0),(.int .u8 0),(.int .u8 0),(.int .u8 0),(.int .u8 0),(.int .u8 0),(.int .u8 0),(.int .u8 0),(.int .u8 0),(.int .u8 0),(.int .u8 0),(.int .u8 0),(.int .u8 0),(.int .u8 0),(.int .u8 0),(.int .u8 0),(.int .u8 0),(.int .u8 0),(.int .u8 0),(.int .u8 0),(.int .u8 0),(.int .u8 0),(.int .u8 0),(.int .u8 0),(.int .u8 0),(.int .u8 0),(.int .u8 0),(.int .u8 0),(.int .u8 0),(.int .u8 0),(.int .u8 0),(.int .u8 0)]) (C:=zM ++ [Value.int .i64 0,.slice none 0 0]) (B':=bJ id) (o:=0) (n:=32) rfl rfl rfl (bu w),List.nil_append,
  tX (A:=bJ id) (B:=zM) (C := [Value.int .i64 0,.slice none 0 0]) (B':=cR m v) (o:=32) (n:=37) rfl (bu w) rfl (gT ho hv).1]
 show some _=some _;rw [<-List.append_assoc];rfl
section
variable {g:ae} {rb hb pb:Nat} {id:List Nat} {m:dB} {v:Vl}
def hd_end (w:fO id) (ho:m.obj.length=32) (hv:bW v=false/\v.oneCell'=true) {ix:Nat} {dv:Vl} (hd:bW dv=false/\dv.oneCell'=true) (gh:g.get hb=some (Aq id m v 0 (.slice none 0 0))) (h0:g.n0<=hb) {kr:eh} (gr:g.get rb=some kr) (kr0:kr.length=71) (r0:g.n0<=rb) (ne:rb≠hb) :
  ∃ g1 g2,bI 2 (ptr hb 69) (pv ix dv) g=some (undef,g1)/\bQ 71 (ptr hb 0) g1=some (.agg (Aq id m v ix dv).toArray,g1)/\bI 71 (ptr rb 0) (.agg (Aq id m v ix dv).toArray) g1=some (undef,g2)/\bQ 71 (ptr rb 0) g2=some (.agg (Aq id m v ix dv).toArray,g2)/\au g g2 (fun c=>c=hb\/c=rb):=by
 have ok:=hd_ok (ix:=ix) w ho hv hd;have i2:(aj ix).oneCell'=true:=rfl;obtain ⟨g1,e1,k1,q1,_,_⟩:=oh (o:=69) (n:=2) (B' := [aj ix,dv]) gh h0 (by rw [(hd_ok w ho hv ⟨rfl,rfl⟩).1];decide) rfl (by simp [aM,i2,hd.2]);rw [ot (A:=bJ id++cR m v) (B := [aj 0,.slice none 0 0]) (C := []) (B' := [aj ix,dv]) (hd_ab w ho hv) rfl rfl] at q1;obtain ⟨g2,e2,k2,q2,_,_⟩:=aN (n:=71) (k':=Aq id m v ix dv) (k1.getE gr ne) (by rw [k1.n0];exact r0) kr0 ok.1 ok.2.2;exact ⟨g1,g2,e1,aP q1 ok.1 ok.2.1,e2,aP q2 ok.1 ok.2.1,(k1.mono (fun _ _ q => .inl q)).trans (k2.mono (fun _ _ q => .inr q))⟩
end
end
section
attribute [local congr] ax
attribute [local irreducible] ux bq j8
abbrev cX (dl d0 d1:List Nat):dB:=lZ dl [bq 0 d0,bq 1 d1]
structure ObOk (h g:ae) (m:dB) (v:Vl) (b l:Nat) (d:List Nat):Prop where
 o:aK h g
 M:fT g m v
 vn : ∀ c,zK v=some c->h.next<=c
 p:Pcs g b d l
 bn:h.next<=b
def pcV_cell (b l:Nat):bW (mQ b l)=false/\(mQ b l).oneCell'=true:=⟨rfl,rfl⟩
def zc {dl d0 d1:List Nat} (hl:dl.length<=8192):iG (cX dl d0 d1)=false:=by
 show (!iX 1 2 2||decide ((dl.length:Int)<0)||decide ((dl.length:Int)>8192)||(((2:Nat):Int) != 2))=false;have e1:iX 1 2 2=true:=by kernel_rfl
 rw [e1,DW (by omega),DW (by omega)];rfl
set_option maxRecDepth 100000 in
def r15 {h:ae} (T:RT h) {x:Vl} {dl:List Nat} (B:BS h x dl) (hl:dl.length<=300) (s:Bool) :
  ∃ g v b d0 d1,CV ZG 15 [x,.bool s] h=some (.agg (Aq (j8 (cX dl d0 d1)) (cX dl d0 d1) v (if s then 1 else 0) (mQ b dl.length)).toArray,g)/\ObOk h g (cX dl d0 d1) v b dl.length (if s then d1 else d0):=by
 have hn0:=h.n0_le_next;obtain ⟨h1,z1,o1,q1,n1⟩:=fresh hdZ h;have e2:=r56 h1;have o2:aK h1 (h1.alloc k0F):=au.alloc _ _ _;have q2:(h1.alloc k0F).get h1.next=some k0F:=by rw [ae.aZ,DH rfl]
 have n2:(h1.alloc k0F).next=h1.next+1:=rfl;generalize h1.alloc k0F=h2 at *;have O2:=o1.trans o2;have z3:gK 1 (.int .u8 0) 0 [] h2=some (.slice (some ⟨h2.next,0,none⟩) 0 0,h2.alloc []):=rfl;obtain ⟨w,h4,e4,o4,W4⟩:=own_b (B.old O2) (by omega);have O4:=O2.trans o4;obtain ⟨bs4,wn⟩:=W4.bs;have f4:=aK.get o4 q2;obtain ⟨h5,pb,b0,b1,d0,d1,v,e5,M5⟩:=r55 (T.old O4) f4 (by rw [O4.n0];omega) bs4 (by omega) (fun a n c q _ hq=>by have:=wn a n c q;omega);have K5:au h2 h5 (· = h1.next):=(o4.mono (fun _ _ q=>q.elim)).trans M5.k;have O5:aK h h5:=(o1.trans o2).also K5 (fun d hd q=>by omega);have ob:fO (cX dl d0 d1).obj:=M5.M.wf.obj;have hv:bW v=false/\v.oneCell'=true:=⟨M5.M.cell.1,M5.M.cell.2.1⟩
 have mok:=M5.M.ok;obtain ⟨h6,z6,o6,q6,n6⟩:=fresh zM h5;obtain ⟨h7,t7,k7,q7,_,n7⟩:=aN (n:=37) (k':=cR (cX dl d0 d1) v) q6 (by rw [o6.n0];exact h5.n0_le_next) rfl mok.1 mok.2.2;have O7:aK h5 h7:=aK.bB o6 k7 (DG _);have l7:bQ 37 (ptr h5.next 0) h7=some (mv (cX dl d0 d1) v,h7):=aP q7 mok.1 mok.2.1;obtain ⟨h8,e8,o8⟩:=r24 (T.old (O5.trans O7)) (M5.M.old O7);have e8:=jP cp (T.old (O5.trans O7)).n0 (by rfl) e8;rw [zc (by omega)] at e8;have wi:=u7 (cX dl d0 d1);obtain ⟨h9,z9,o9,q9,n9⟩:=fresh (List.replicate 32 (.int .u8 0)) h8;obtain ⟨h10,t10,k10,q10,_,n10⟩:=aN (n:=32) (k':=bJ (j8 (cX dl d0 d1))) q9 (by rw [o9.n0];exact h8.n0_le_next) rfl (bu wi) (bA _).2;have O10:aK h8 h10:=aK.bB o9 k10 (DG _);have P10:aK h7 h10:=o8.trans O10;have l10a:bQ 32 (ptr h8.next 0) h10=some (kV (j8 (cX dl d0 d1)),h10):=aP q10 (bu wi) (bA _).1;have l10b:bQ 37 (ptr h5.next 0) h10=some (mv (cX dl d0 d1) v,h10):=aP (aK.get P10 q7) mok.1 mok.2.1;have bl:=bld71 (id:=j8 (cX dl d0 d1)) (m:=cX dl d0 d1) (v:=v) wi ob.1 hv;have ok0:=hd_ok (id:=j8 (cX dl d0 d1)) (m:=cX dl d0 d1) (v:=v) (ix:=0) (dv := .slice none 0 0) wi ob.1 hv ⟨rfl,rfl⟩;obtain ⟨h11,z11,o11,q11,n11⟩:=fresh hdZ h10;obtain ⟨h12,t12,k12,q12,_,n12⟩:=aN (n:=71) (k':=Aq (j8 (cX dl d0 d1)) (cX dl d0 d1) v 0 (.slice none 0 0)) q11 (by rw [o11.n0];exact h10.n0_le_next) rfl ok0.1 ok0.2.2;have O12:aK h10 h12:=aK.bB o11 k12 (DG _);have P12:aK h5 h12:=(O7.trans P10).trans O12;have R12:aK h h12:=O5.trans P12;have m5:=O5.next;have m10:=P10.next;have m7:=O7.next;have gp:=aK.get P12 M5.P;have gr:h12.get h.next=some hdZ:=aK.get P12 (K5.getE (aK.get o2 q1) (by omega));have fin : ∀ (ix:Nat) (b:Nat),∃ g1 g2,bI 2 (ptr h10.next 69) (pv ix (mQ b dl.length)) h12=some (undef,g1)/\bQ 71 (ptr h10.next 0) g1=some (.agg (Aq (j8 (cX dl d0 d1)) (cX dl d0 d1) v ix (mQ b dl.length)).toArray,g1)/\bI 71 (ptr h.next 0) (.agg (Aq (j8 (cX dl d0 d1)) (cX dl d0 d1) v ix (mQ b dl.length)).toArray) g1=some (undef,g2)/\bQ 71 (ptr h.next 0) g2=some (.agg (Aq (j8 (cX dl d0 d1)) (cX dl d0 d1) v ix (mQ b dl.length)).toArray,g2)/\au h12 g2 (fun c=>c=h10.next\/c=h.next):=fun ix b=>
  hd_end wi ob.1 hv (pcV_cell b dl.length) q12 (by rw [R12.n0];have:=h10.n0_le_next;omega) gr rfl (by rw [R12.n0];exact hn0) (by omega)
 have l2:cg (.slice (some ⟨pb,0,none⟩) 2 2)=some (.int .i64 2):=rfl;have e22:aA prog .eql 3 (.int .i64 2) (.int .i64 2)=some (.bool true):=by kernel_rfl
 have vp : ∀ c,zK v=some c->h5.next≠c:=fun c hc q=>by have:=M5.M.sl.lt hc;omega
 have mk : ∀ {g2:ae} {b:Nat} {d:List Nat},au h12 g2 (fun c=>c=h10.next\/c=h.next)->Pcs h5 b d dl.length->h4.next<=b->ObOk h g2 (cX dl d0 d1) v b dl.length d:=fun k p hb=>by have hb5:=h5.aL p.c;have m4:=o4.next;have m45:=M5.k.next;refine ⟨R12.also k (fun d hd q=>by omega),⟨(M5.M.sl.old P12).keep k (fun c hc q=>by have:=(M5.vn c hc).1;have:=M5.M.sl.lt hc;rcases q with q|q<;>omega),M5.M.wf⟩,fun c hc=>by have:=(M5.vn c hc).1;omega,(p.old (B:=fun _=>False) P12 id).old k (fun q=>by rcases q with q|q<;>omega),by omega⟩
 have t7:bI 37 (ptr h5.next 0) (mv (cX dl d0 d1) v) h6=some (undef,h7):=t7;have t10:bI 32 (ptr h8.next 0) (kV (j8 (cX dl d0 d1))) h9=some (undef,h10):=t10;have t12:bI 71 (ptr h10.next 0) (.agg (Aq (j8 (cX dl d0 d1)) (cX dl d0 d1) v 0 (.slice none 0 0)).toArray) h11=some (undef,h12):=t12;cases s with
 |true=>
  obtain ⟨g1,g2,s1,s2,s3,s4,k⟩:=fin 1 b1;have ix:idxS 2 (.slice (some ⟨pb,0,none⟩) 2 2) (.int .i64 1)=some (ptr pb 2):=rfl;have lp:bQ 2 (ptr pb 2) h12=some (pv 1 (mQ b1 dl.length),h12):=ld2 gp rfl rfl rfl rfl;have s1:bI 2 (ptr h10.next 69) (pv 1 (mQ b1 dl.length)) h12=some (undef,g1):=s1;refine ⟨g2,v,b1,d0,d1,bX cp is15 rfl ((t15_eq _ _ _ _).trans ?_),mk k M5.p1 M5.n1⟩;unfold t15;simp -implicitDefEqProofs only [z1,e2,z3,e4,e5,ex30,ex31,ex32,z6,t7,l7,e8,jO,j7,z9,t10,l10a,l10b,bl,z11,t12,l2,e22,aR,DP,aD,DV,ix,lp,aw,DC,s1,s2,s3,af,ak];refine nr (n:=46) res15 agg39 siz39 (by decide) _ ?_;exact s4
 |false=>
  obtain ⟨g1,g2,s1,s2,s3,s4,k⟩:=fin 0 b0;have ix:idxS 2 (.slice (some ⟨pb,0,none⟩) 2 2) (.int .i64 0)=some (ptr pb 0):=rfl;have lp:bQ 2 (ptr pb 0) h12=some (pv 0 (mQ b0 dl.length),h12):=ld2 gp rfl rfl rfl rfl;have s1:bI 2 (ptr h10.next 69) (pv 0 (mQ b0 dl.length)) h12=some (undef,g1):=s1;refine ⟨g2,v,b0,d0,d1,bX cp is15 rfl ((t15_eq _ _ _ _).trans ?_),mk k M5.p0 M5.n0⟩;unfold t15;simp -implicitDefEqProofs only [z1,e2,z3,e4,e5,ex30,ex31,ex32,z6,t7,l7,e8,jO,j7,z9,t10,l10a,l10b,bl,z11,t12,l2,e22,aR,DP,aD,DV,ix,lp,aw,DC,s1,s2,s3,af,ak];refine nr (n:=46) res15 agg39 siz39 (by decide) _ ?_;exact s4
end
section
attribute [local congr] ax
attribute [local irreducible] ux bq j8
def is16:bE prog 16 f16 := .of (by kernel_rfl)
def res16':f16.results.toList = [.cell 4 35,.cell 5 37]:=by kernel_rfl
def results16 {n:Nat} (hn:5<n) (x:Nat->Vl) {h:ae} {a b:Vl} (e1:bQ 37 (x 4) h=some (a,h)) (e2:bQ 2 (x 5) h=some (b,h)):resultsA prog f16.results.toList (aS n x) h=some (.tuple #[a,b],h):=by rw [res16'];simp only [resultsA,FJ,List.mapM_nil,dy,di (show 4<n by omega),di hn,j9 oQ siz35,j9 agg37 siz37,e1,e2];rfl
def own_m {h:ae} {m:dB} {v:Vl} (X:fT h m v) (hl:m.pieces.length<=300) (h1:0<m.pieces.length) : ∃ w g,appendA 32 32 (.slice (some ⟨h.next,0,none⟩) 0 0) v (h.alloc [])=some (w,g)/\aK h g/\cG g h.next 32 w m.pieces.length (m.pieces.flatMap bJ)/\h.next<g.next/\(∀ c,cF w=some c->c<g.next):=by
 have o1:aK h (h.alloc []):=au.alloc _ _ _;have S:=(X.old o1).sl;have ty:=S.typed.all;obtain ⟨w,g,e,O,k,_⟩:=iK (by_:=32) (cG.empty (h.alloc []) (N:=h.next) (size:=32) (DG _)) h.n0_le_next (HH _) (by decide) S.slice (S.first (by decide)) ty.2 ty.1 (by rw [S.cells];rfl) (by omega) (by omega);refine ⟨w,g,e,o1.also k (fun d hd q=>by have:=q.1;cases this;exact absurd hd (GZ _)),?_⟩;have O:cG g h.next 32 w m.pieces.length (m.pieces.flatMap bJ):=by simpa using O
 refine ⟨O,EX (Nat.lt_succ_self _) k.next,fun c hc => ?_⟩;obtain ⟨_,_,_,q⟩:=O;rcases q with ⟨_,q⟩|⟨b,s,rfl,_,⟨_,q⟩|⟨_,q⟩⟩
 ·omega
 ·omega
 ·cases hc;exact g.aL q
set_option maxRecDepth 100000 in
def r16 {Z:ah} (z:ZOk Z) {h:ae} {m:dB} {v:Vl} (X:fT h m v) (hm:m.pieces.length<=300) (hm0:0<m.pieces.length) {ix:Nat} {dv:Vl} {d:List Nat} (B:BS h dv d) (hd:d.length<=50000) :
  ∃ g v' dv',CV Z 16 [mv m v,pv ix dv] h=some (.tuple #[mv m v',pv ix dv'],g)/\aK h g /\ ∃ N1 N2,h.next<=N1/\N1<N2/\cG g N1 32 v' m.pieces.length (m.pieces.flatMap bJ)/\jo g N2 dv' d/\(∀ c,cF v'=some c->c<N2):=by
 obtain ⟨h1,b1,o1,q1,A1,X1,n1⟩:=X.box;obtain ⟨h2,b2,o2,q2,n2⟩:=pbox ix (B.old o1);obtain ⟨h3,z3,o3,q3,n3⟩:=fresh zM h2;obtain ⟨h4,z4,o4,q4,n4⟩:=fresh zP h3;have P4:aK h1 h4:=(o2.trans o3).trans o4;have X4:=X1.old P4;have z6:gK 32 (.agg (List.replicate 32 (.int .u8 0)).toArray) 0 [] h4=some (.slice (some ⟨h4.next,0,none⟩) 0 0,h4.alloc []):=rfl;have l8:ld1 (ptr h.next 36) (h4.alloc [])=some (v,h4.alloc []):=((X4.old (au.alloc _ _ _)).ld (aK.get (au.alloc h4 [] _) (aK.get P4 q1))).l36;obtain ⟨w,h6,e6,o6,W6,w6,wl⟩:=own_m X4 hm hm0;have P6:=P4.trans o6;have hn0:=h.n0_le_next;have N1 : ∀ {g:ae},aK h1 g->g.n0=h.n0:=fun o=>by rw [o.n0,o1.n0]
 have wc:=dZ (lF (ks:=iT) W6 (dM (P:=fO) (fun a ha=>bT ha) _ X.wf.pieces));have ob:=X.wf.obj.1;obtain ⟨h7,t7,k7,q7,_,n7⟩:=dr (o:=36) (v:=w) (aK.get P6 q1) (by rw [N1 P6];exact hn0) (by rw [X.ok.1];decide) wc.2.2 wc.2.1;rw [mset36 ob] at q7;have mok:=gT (m:=m) (v:=w) ob ⟨wc.1,wc.2.1⟩;have O7:aK h h7:=aK.bB (o1.trans P6) k7 (DG _);have z11:gK 1 (.int .u8 0) 0 [] h7=some (.slice (some ⟨h7.next,0,none⟩) 0 0,h7.alloc []):=rfl;have m6:=o6.next;have m4:=P4.next;have q27:h7.get h1.next=some [.int .i64 ix,dv]:=k7.getE (aK.get (((o3.trans o4)).trans o6) q2) (by omega);have B7:=B.old O7;have l13:ld1 (ptr h1.next 1) (h7.alloc [])=some (dv,h7.alloc []):=aH (aK.get (au.alloc h7 [] _) q27) rfl B7.cell.1;obtain ⟨u,h9,e9,o9,U9⟩:=own_b B7 hd;have uc:=U9.cell;obtain ⟨h10,t10,k10,q10,_,n10⟩:=dr (o:=1) (v:=u) (aK.get o9 q27) (by rw [o9.n0,k7.n0,N1 P6];have:=o1.next;omega) (by simp) uc.1 uc.2.1;have O9:=O7.trans o9;have m9:=o9.next;have O10:aK h h10:=aK.bB O9 k10 (by have:=o1.next;omega);have q10:h10.get h1.next=some [.int .i64 ix,u]:=q10;have gM:h10.get h.next=some (cR m w):=k10.getE (aK.get o9 q7) (by omega);have lM:bQ 37 (ptr h.next 0) h10=some (mv m w,h10):=aP gM mok.1 mok.2.1;have hu1:Abs.noHoles [Value.int .i64 ix,u]=true:=by simp [Abs.noHoles,uc.2.2,show bW (Value.int .i64 (ix:Int))=false from rfl]
 have hu2:aM [Value.int .i64 ix,u]=true:=by simp [aM,uc.2.1,show (Value.int .i64 (ix:Int)).oneCell'=true from rfl]
 have lP:bQ 2 (ptr h1.next 0) h10=some (pv ix u,h10):=aP q10 rfl hu1;have up10 : ∀ {b:Nat} {k:eh},h6.get b=some k->b≠h.next->b≠h1.next->h10.get b=some k:=fun e n1 n2=>k10.getE (aK.get o9 (k7.getE e n1)) n2;have g3:h10.get h2.next=some zM:=up10 (aK.get (o4.trans o6) q3) (by omega) (by omega);have g4:h10.get h3.next=some zP:=up10 (aK.get o6 q4) (by omega) (by omega);obtain ⟨h11,t11,k11,q11,_,n11⟩:=aN (n:=37) (k':=cR m w) g3 (by rw [O10.n0];omega) rfl mok.1 mok.2.2;obtain ⟨h12,t12,k12,q12,_,n12⟩:=aN (n:=2) (k' := [.int .i64 ix,u]) (k11.getE g4 (by omega)) (by rw [k11.n0,O10.n0];omega) rfl rfl hu2;have O12:aK h h12:=aK.bB (aK.bB O10 k11 (by omega)) k12 (by omega);have r1:bQ 37 (ptr h2.next 0) h12=some (mv m w,h12):=aP (k12.getE q11 (by omega)) mok.1 mok.2.1;have r2:bQ 2 (ptr h3.next 0) h12=some (pv ix u,h12):=aP q12 rfl hu1;have veu:veq (pv ix u) (pv ix u)=true:=by show (veq (.int .i64 ix) (.int .i64 ix)&&(veq u u&&true))=true;rw [U9.bs.1.veq];simp [Abs.veq]
 have ck:dW true (some (pv ix u,h11)) (pv ix u)=true:=dq rfl veu;have lP11:bQ 2 (ptr h1.next 0) h11=some (pv ix u,h11):=aP (k11.getE q10 (by omega)) rfl hu1;have K:au h9 h12 (fun c=>c=h1.next\/c=h2.next\/c=h3.next):=(k10.mono (fun _ _ q => .inl q)).trans ((k11.mono (fun _ _ q => .inr (.inl q))).trans (k12.mono (fun _ _ q => .inr (.inr q))));have wb:=fun {c:Nat} (hc:cF w=some c)=>iz W6 hc;have t11:bI 37 (ptr h2.next 0) (mv m w) h10=some (undef,h11):=t11;have t12:bI 2 (ptr h3.next 0) (pv ix u) h11=some (undef,h12):=t12;refine ⟨h12,w,u,bX z is16 rfl ((t16_eq _ _ _ _).trans ?_),O12,h4.next,h7.next,by have:=o1.next;omega,by omega,?_,U9.keep K (fun c hc q=>by have:=iz U9.own hc;rcases q with q|q|q<;>omega),fun c hc=>by have:=wl c hc;omega⟩
 ·unfold t16;simp -implicitDefEqProofs only [b1,b2,z3,z4,z6,aw,DC,l8,e6,t7,z11,l13,e9,t10,lM,lP,t11,lP11,t12,ck,EJ,af,ak];refine results16 (n:=18) (by decide) _ ?_ ?_<;>assumption
 ·refine ((W6.keep k7 (fun c hc q=>by have:=wb hc;omega)).keep o9 (fun _ _ q=>q)).keep K (fun c hc q=>by have:=wb hc;rcases q with q|q|q<;>omega)
end
end
end Go.Proofs.YtdhpgacmgebjdaaGreatDoor.W
namespace Go.Proofs.YtdhpgacmgebjdaaGreatDoor.W
open Go Go.Abs
noncomputable section
end
end Go.Proofs.YtdhpgacmgebjdaaGreatDoor.W
namespace Go.Proofs.YtdhpgacmgebjdaaGreatDoor.W
open Go Go.Abs R
noncomputable section
section
attribute [local irreducible] ux bq j8
def qR {F X:List Nat} {n:Nat} (h:F.length=n):Rd.take ⟨F++X,0⟩ n=(F,⟨X,0⟩):=by rw [Rd.CR rfl (by simp;omega)];simp only;rw [<-h,IC,List.drop_left]
def pe {n v:Nat} {X:List Nat} (h:v<256^n):Rd.fA ⟨ej n v++X,0⟩ n=(v,⟨X,0⟩):=by unfold Rd.fA;rw [qR (aQ _ _),fQ h]
def rd_text {T X:List Nat} (h:T.length<65536):Rd.text ⟨ej 2 T.length++(T++X),0⟩=(T,⟨X,0⟩):=by unfold Rd.text;rw [DH rfl,pe (by omega),qR rfl,DH rfl]
def pad_id {l:List Nat} (h:l.length=32):kq l=l:=by unfold kq;rw [h];exact GC _
def decM_enc {dl:List Nat} (p0 p1:List Nat) (h0:fO p0) (h1:fO p1) (hl:dl.length<=8192):gj (dF (lZ dl [p0,p1]))=(lZ dl [p0,p1],0):=by
 have e1:dF (lZ dl [p0,p1])=ej 2 19713++(ej 1 1++(ej 1 2++(ej 1 2++(ej 2 dl.length++(ux dl++(p0++(p1 ++ []))))))):=by
  have e2:i16 (dl.length:Int)=dl.length:=by unfold i16;omega
  show ej 2 19713++(ej 1 1++(ej 1 2++(ej 1 2++(ej 2 (i16 (dl.length:Int))++(ux dl++(p0++(p1 ++ [])))))))=_;rw [e2]
 have hs:(ux dl).length=32:=(sg dl).1;have hd:pHead (dF (lZ dl [p0,p1]))=(19713,1,2,2,dl.length,⟨ux dl++(p0++(p1 ++ [])),0⟩):=by rw [e1];unfold pHead;rw [pe (by omega)];simp only;rw [pe (by omega)];simp only;rw [pe (by omega)];simp only;rw [pe (by omega)];simp only;rw [pe (by omega)]
 unfold gj;rw [hd];simp only;rw [DL (by simp),DL (by simp)];have sz:iX ((1:Nat):Int) ((2:Nat):Int) ((2:Nat):Int)=true:=by kernel_rfl
 rw [DL (by rw [sz];simp;omega),qR hs];simp only;have pd:bF 2 ⟨p0++(p1 ++ []),0⟩=([p0,p1],⟨[],0⟩):=by simp only [bF];rw [qR h0.1];simp only;rw [qR h1.1,pad_id h0.1,pad_id h1.1]
 rw [pd];have fz:Rd.fin ⟨[],0⟩=0:=rfl;rw [DL (by rw [fz];decide),pad_id hs];rfl
def chk_obj {dl d0 d1:List Nat} (hl:dl.length<=8192) (s:Bool) (l:(if s then d1 else d0).length=dl.length):wA (cX dl d0 d1) (if s then 1 else 0:Nat) (if s then d1 else d0)=0:=by
 unfold wA;rw [zc hl];have e:rO (cX dl d0 d1).gk (cX dl d0 d1).gs=(dl.length:Int):=psize1 hl;have g2:(cX dl d0 d1).gt=2:=rfl;rw [e,g2,DL (by decide),DL (by cases s<;>simp),DL (by rw [l];simp)];cases s with
 |true=>exact DH rfl
 |false=>exact DH rfl
def piece_rec {dl d0 d1 d:List Nat} {ix:Nat} (hl:dl.length<=8192) (hix:ix<65536) (hc:wA (cX dl d0 d1) ix d=0):iD (fG (cX dl d0 d1) ix d)=some (cX dl d0 d1,ix,d):=by
 have hen:(dF (cX dl d0 d1)).length=103:=lI (Bv hl (by
  intro x hx;simp only [ER,ET,GX] at hx;rcases hx with rfl|rfl
  ·exact tZ _ _
  ·exact tZ _ _))
 have hK:pK (fG (cX dl d0 d1) ix d)=(2,⟨ej 2 ix++(ej 2 (dF (cX dl d0 d1)).length++(dF (cX dl d0 d1)++d)),0⟩):=by unfold pK fG;simp only [DY];exact pe (by decide)
 have hI:pI (fG (cX dl d0 d1) ix d)=(ix,⟨ej 2 (dF (cX dl d0 d1)).length++(dF (cX dl d0 d1)++d),0⟩):=by unfold pI;rw [hK];exact pe (by omega)
 have hT:pT (fG (cX dl d0 d1) ix d)=(dF (cX dl d0 d1),⟨d,0⟩):=by unfold pT;rw [hI];exact rd_text (by omega)
 have hD:pD (fG (cX dl d0 d1) ix d)=(d,⟨[],0⟩):=by unfold pD;rw [hT];have:=qR (F:=d) (X := []) rfl;rw [GC] at this;exact this
 unfold iD;rw [hK,hI,hT,hD,decM_enc _ _ (tZ _ _) (tZ _ _) hl];rw [DH ⟨rfl,rfl,rfl,hc⟩]
def objP_wf {dl d0 d1:List Nat} (hl:dl.length<=8192):(cX dl d0 d1).Wf:=Bv hl (by
 intro x hx;simp only [ER,ET,GX] at hx;rcases hx with rfl|rfl
 ·exact tZ _ _
 ·exact tZ _ _)
def rec_facts {dl d0 d1 d:List Nat} {ix:Nat} (hl:dl.length<=8192) (hb : ∀ x∈d,x<256):(fG (cX dl d0 d1) ix d).length=108+d.length /\ ∀ y∈fG (cX dl d0 d1) ix d,y<256:=by
 have hw:(cX dl d0 d1).Wf:=objP_wf hl;have hen:(dF (cX dl d0 d1)).length=103:=lI hw;have hs:=(sg dl).2;have p0:=(tZ 0 d0).2;have p1:=(tZ 1 d1).2;refine ⟨by unfold fG;simp only [DO,aQ,hen],fun y hy => ?_⟩;unfold fG at hy;simp only [D8] at hy;rcases hy with (((hy|hy)|hy)|hy)|hy
 ·exact dz _ _ y hy
 ·exact dz _ _ y hy
 ·exact dz _ _ y hy
 ·unfold dF at hy;simp only [D8,FT,IF,GC] at hy;rcases hy with hy|hy|hy|hy|hy|hy|hy|hy
  ·exact dz _ _ y hy
  ·exact dz _ _ y hy
  ·exact dz _ _ y hy
  ·exact dz _ _ y hy
  ·exact dz _ _ y hy
  ·exact hs y hy
  ·exact p0 y hy
  ·exact p1 y hy
 ·exact hb y hy
def read_back {D:Dk} {J:Jn} {recs:List (List Nat)} (H:Has D J.area J.gen recs) (hs:0<=J.slot) (har:D.ar<=4096) (hlv:J.live D=true) {dl d0 d1 d:List Nat} {ix at_:Nat} (hl:dl.length<=8192) (hix:ix<65536) (hc:wA (cX dl d0 d1) ix d=0) (he:(at_,fG (cX dl d0 d1) ix d)∈ju recs 0) :
  kh D J (j8 (cX dl d0 d1)) at_=some (cX dl d0 d1,ix,d,fG (cX dl d0 d1) ix d):=by
 obtain ⟨_,h2,h3,h4⟩:=H.at hs har he;have h2:J.stands D ((at_:Nat):Int)=true:=h2;unfold kh xw;rw [hlv,h2];have e:D.data J.area ((at_:Nat):Int).toNat (D.parts J.area ((at_:Nat):Int).toNat)=fG (cX dl d0 d1) ix d:=by rw [Int.toNat_natCast];have h3:D.parts J.area at_=_:=h3;rw [h3];exact h4
 rw [e];simp only [GW,DV,piece_rec hl hix hc]
end
section
attribute [local congr] ax
end
section
attribute [local congr] ax
end
end
end Go.Proofs.YtdhpgacmgebjdaaGreatDoor.W
namespace Go.Proofs.YtdhpgacmgebjdaaGreatDoor.W
open Go Go.Abs Tryz R
noncomputable section
section
attribute [local congr] ax
def is20:bE prog 20 f20 := .of (by kernel_rfl)
def b20_6' (C:ah) (e:aO) (h:ae):b20_6 C 0 e h=k20_4 C e h:=rfl
def neq3 (a:Int):aA prog .neq 3 (.int .i64 a) (.int .i64 a)=some (.bool false):=by rw [dj];simp
def ld_obj {h:ae} {b:Nat} {m:dB} {v:Vl} (w:fO m.obj) (g:h.get b=some (cR m v)):bQ 32 (ptr b 4) h=some (kV m.obj,h):=uv g (A := [.int .i64 m.gk,.int .i64 m.gn,.int .i64 m.gt,.int .i64 m.gs]) (B:=bJ m.obj) (C := [v]) rfl rfl (bu w) (bA _).1
set_option maxRecDepth 100000 in
def r20 {Z:ah} (z:ZOk Z) {h:ae} {m:dB} {v w:Vl} (X:fT h m v) (Y:fT h m w) (hm:m.pieces.length<=300) : ∃ g,CV Z 20 [mv m v,mv m w] h=some (.bool true,g)/\aK h g:=by
 obtain ⟨h1,b1,o1,q1,A1,X1,n1⟩:=X.box;obtain ⟨h2,b2,o2,q2,B2,Y2,n2⟩:=(Y.old o1).box;have X2:=X1.old o2;have A2:=X2.ld (aK.get o2 q1);have O2:=o1.trans o2;have ob:=X.wf.obj;have d1:=ld_obj ob (aK.get o2 q1);have d2:=ld_obj ob q2;have nD:aA prog .neq 32 (kV m.obj) (kV m.obj)=some (.bool false):=by have:=(eqD32 ob ob).2;simpa using this
 have key:Fin 66 (fun ex y g=>ex = .exit 0/\g=h2)
   (iter (codeA prog (CV Z) (aq f20 [1,1,0,1,0,0])) az (aS 66 (up (bs [mv m v,mv m w]) [(2,ptr h.next 0),(3,ptr h1.next 0),(4,.bool false),(5,.int .i64 0),(6,ptr h.next 0),(7,.int .i64 m.gk),(8,ptr h1.next 0),(9,.int .i64 m.gk),(10,.bool false),(11,.bool false),(12,ptr h.next 1),(13,.int .i64 m.gn),(14,ptr h1.next 1),(15,.int .i64 m.gn),(16,.bool false),(17,.bool false),(18,.bool false),(19,ptr h.next 2),(20,.int .i64 m.gt),(21,ptr h1.next 2),(22,.int .i64 m.gt),(23,.bool false),(24,.bool false),(25,.bool false),(26,ptr h.next 3),(27,.int .i64 m.gs),(28,ptr h1.next 3),(29,.int .i64 m.gs),(30,.bool false),(31,.bool false),(32,.bool false),(33,ptr h.next 4),(34,kV m.obj),(35,ptr h1.next 4),(36,kV m.obj),(37,.bool false),(38,.bool false),(39,.bool false),(40,ptr h.next 36),(41,v),(42,.int .i64 (m.pieces.length:Int)),(43,ptr h1.next 36),(44,w),(45,.int .i64 (m.pieces.length:Int)),(46,.bool false),(47,.bool false)])) h2):=by
  refine bL (wB (CV Z)) (Inv:=fun k y g => ∃ i,i+k=m.pieces.length/\y 2=ptr h.next 0/\y 3=ptr h1.next 0/\y 5=aj i/\g=h2) ?_ m.pieces.length (by have:az=18446744073709551616:=rfl;omega) ⟨0,DC _,rfl,rfl,rfl,rfl⟩;rintro k y g ⟨i,hik,y2,y3,y5,rfl⟩;have ll:cg v=some (aj m.pieces.length):=X2.len;unfold ov;by_cases hi:i<m.pieces.length
  ·obtain ⟨a,ha⟩ : ∃ a,m.pieces[i]? = some a:=⟨_,DE hi⟩
   have wa:=X.wf.pieces a (D7 ha);obtain ⟨p,q,e1,e2⟩:=dg_at X2.sl X.wf.pieces ha;obtain ⟨p',q',e1',e2'⟩:=dg_at Y2.sl X.wf.pieces ha;have nA:aA prog .neq 32 (kV a) (kV a)=some (.bool false):=by have:=(eqD32 wa wa).2;simpa using this
   simp -implicitDefEqProofs only [y5,y2,y3,aw,DC,A2.l36,B2.l36,ll,gS,DN hi,e1,e2,e1',e2',nA,eW (show i+1<=9223372036854775807 by omega),af,ak];exact dE.next (k-1) (by omega) ⟨i+1,by omega,y2,y3,rfl,rfl⟩
  ·simp -implicitDefEqProofs only [y5,y2,aw,DC,A2.l36,ll,gS,DW hi,af,ak];exact dE.out 0 ⟨rfl,rfl⟩
 obtain ⟨ex,y,g,e8,rfl,rfl⟩:=key;refine ⟨g,bX z is20 rfl ((t20_eq _ _ _ _).trans ?_),O2⟩;unfold t20;simp -implicitDefEqProofs only [b1,b2,aw,DC,A2.l0,A2.l1,A2.l2,A2.l3,A2.l36,B2.l0,B2.l1,B2.l2,B2.l3,B2.l36,neq3,aR,DP,aD,d1,d2,nD,X2.len,Y2.len,DB,DS,af,ak];rw [e8];simp -implicitDefEqProofs only [bh,b20_6',t20k20_4_eq];rfl
end
section
attribute [local congr] ax
def tq {Z:ah} {f:FuncId} {fn:Func} (i:bE prog f fn) {args:List Vl} {h:ae} {r:Vl×ae} (hz:Z f args h=none) (hS:SV.contains f=false) (e:aV prog (CV Z) fn args h=some r):CV Z f args h=some r:=by refine Cp i ?_ e;show over Z (only SV (CC prog XX)) f args h=none;unfold over only;rw [hz];simp only;rw [DL (by rw [hS];exact Bool.false_ne_true)]
def is37:bE prog 37 f37 := .of (by kernel_rfl)
def is62:bE prog 62 f62 := .of (by kernel_rfl)
def b37_7' (C:ah) (e:aO) (h:ae):b37_7 C 0 e h=k37_5 C e h:=rfl
def e25f (a:Int):aA prog .eql 25 (.int .i64 a) (.int .i64 0)=some (.bool (a==0)):=eQ ..
section
variable {h:ae} (hG:3<=h.n0) {S:Ss} (x:iA h S)
include hG x
def r37 (hu:S.up=true) (h0:S.items = []) : ∃ g,CV ZG 37 [ptr S.s 0] h=some (.int .i64 0,g)/\aK h g:=by
 have e1:=r60 cp hG x;rw [hu] at e1;simp -implicitDefEqProofs only [DV] at e1;have hit:=x.it;rw [h0] at hit;obtain ⟨es,ck,m1,m2⟩:=hit.ex;have he:es = []:=by
  cases es with
  |nil=>rfl
  |cons a l=>simp at m2
 subst he;have rA:rangeA prog 123 (.map (some S.im)) h=some (ptr h.next 0,h.ba (.obj (.iter (some S.im) ck [] ck))):=by unfold rangeA;rw [oU];simp only [m1.get]
 have o1:aK h (h.ba (.obj (.iter (some S.im) ck [] ck))):=au.allocO _ _ _;have g1:(h.ba (.obj (.iter (some S.im) ck [] ck))).getB h.next=some (.obj (.iter (some S.im) ck [] ck)):=by rw [ae.bK,DH rfl]
 generalize h.ba (.obj (.iter (some S.im) ck [] ck))=g at *;have mg:=au.obj o1 m1.get (fun q=>q);have nx:nextA (ptr h.next 0) false g=some (.tuple #[.bool false],g):=by unfold nextA nextsA ptr;simp only [g1,mg,DB,DS];rfl
 have xt:extractA (.tuple #[.bool false]) 0=some (.bool false):=rfl;have key:Fin 24 (fun ex y g'=>ex = .exit 0/\y 3 = .int .i64 0/\g'=g)
   (iter (codeA prog (CV ZG) (aq f37 [1,1,1,0,1,0,0])) az (aS 24 (up (bs [ptr S.s 0]) [(2,.int .i64 0),(3,.int .i64 0),(6,ptr S.s 0),(7,.int .i64 0),(8,.bool false),(9,ptr S.s 0),(10,ptr S.s 0),(11,ptr S.s 2),(12,ptr S.s 3),(13,.map (some S.im)),(14,ptr h.next 0)])) g):=by
  refine bL (uV (CV ZG)) (Inv:=fun k y g'=>k=0/\y 14=ptr h.next 0/\y 3 = .int .i64 0/\g'=g) ?_ 0 (by have:az=18446744073709551616:=rfl;omega) ⟨rfl,rfl,rfl,rfl⟩;rintro k y g' ⟨rfl,y14,y3,rfl⟩;unfold mO;simp -implicitDefEqProofs only [y14,nx,xt,af,ak];exact dE.out 0 ⟨rfl,y3,rfl⟩
 obtain ⟨ex,y,g',e8,rfl,y3,rfl⟩:=key;refine ⟨g',tq is37 rfl rfl ((t37_eq _ _ _).trans ?_),o1⟩;unfold t37;simp -implicitDefEqProofs only [e1,jm,n00,av,aw,DC,Nat.reduceAdd,x.l3,rA,af,ak];rw [e8];simp -implicitDefEqProofs only [bh,b37_7',t37k37_5_eq];unfold xO;simp -implicitDefEqProofs only [y3,af]
end
def iA.jd {h g:ae} {S:Ss} {E:Dk} {J:Jn} (x:iA h S) (k:yb S.j S.d S.D.bb h g) (xd:bC g S.d E) (xj:cA g S.j S.d J) (ok:oS J E) (hb:E.bb=S.D.bb) (hn:E.n=S.D.n) (hc:S.cur = .pointer none) (hcd:S.cd=none):iA g { S with D:=E,J:=J }:=by
 obtain ⟨qi,hqi⟩:=x.it.obj;obtain ⟨qg,hqg⟩:=x.gr.obj;have no : ∀ {b:Nat} {q:fF},h.getB b=some (.obj q) -> ¬(b=S.j\/b=S.d\/b=S.D.bb):=fun hq q=>by
  rcases q with rfl|rfl|rfl
  ·exact kf x.jn.get hq rfl
  ·exact kf x.dk.hdr hq rfl
  ·exact kf x.dk.img hq rfl
 exact ⟨k.getE x.c (fun q=>q.elim x.sj (fun q=>q.elim x.sd x.sb)),by rw [k.n0];exact x.n0,xd,xj,ok,by show 2<=E.n;rw [hn];exact x.n2,x.it.kept k (no hqi),x.gr.kept k (no hqg),by rw [k.n0];exact x.im0,by rw [k.n0];exact x.gm0,x.ne,x.sd,by show S.s≠E.bb;rw [hb];exact x.sb,x.sj,.inl ⟨hc,hcd⟩,x.inc⟩
def r63 {h:ae} {S:Ss} (x:iA h S) {pi pd:Nat} {id:List Nat} {y:It} (w:fO id) (gd:h.get pd=some (bJ id)) (gi:h.get pi=some (itC y)) :
  ∃ g,CV ZG 63 [ptr S.s 2,ptr pi 0,ptr pd 0] h=some (.tuple #[],g)/\au h g (· = S.im)/\ij oZ g S.im (S.items.put id y)/\g.next=h.next:=by
 obtain ⟨g,e,it,k,n⟩:=muD x.it x.im0 oU w y;refine ⟨g,bX cp is63 rfl ((t63_eq _ _ _ _ _).trans ?_),k,it,n⟩;have l32:bQ 32 (ptr pd 0) h=some (kV id,h):=aP gd (bu w) (bA _).1;have l3:bQ 3 (ptr pi 0) h=some (oZ y,h):=aP gi rfl rfl;unfold t63;simp -implicitDefEqProofs only [av,aw,Nat.reduceAdd,x.l3,l32,l3,e,af,ak]
def r62 {h:ae} (hG:3<=h.n0) {S:Ss} (x:iA h S) (hc:S.cur = .pointer none) (hcd:S.cd=none) {w:Vl} {r:List Nat} (bs:BS h w r) (hr:0<r.length) (hr2:r.length<=20000) (hab : ∀ a n c,w = .slice (some a) n c->a.block≠S.D.bb) (ha:(S.J.append S.D r).1=0)
  {pi pd:Nat} {id:List Nat} {y:It} (wd:fO id) (gd:h.get pd=some (bJ id)) (gi:h.get pi=some (itC y)) (n1:pi≠S.j/\pi≠S.d/\pi≠S.D.bb) (n2:pd≠S.j/\pd≠S.d/\pd≠S.D.bb) :
  ∃ g,CV ZG 62 [ptr S.s 0,w,.func (.func 63) #[] #[ptr pi 0,ptr pd 0]] h=some (.tuple #[aj S.J.fin,.int .i64 0],g)/\au h g (fun c=>c=S.j\/c=S.d\/c=S.D.bb\/c=S.im)/\iA g { S with D:=(S.J.append S.D r).2.1,J:=(S.J.append S.D r).2.2,items:=S.items.put id y }:=by
 obtain ⟨a,c,rfl,hs,hg⟩:=bs.ex;obtain ⟨v,h1,e1,xd,xj,hb,hn,k1,hv⟩:=r122 x.dk x.jn x.n2 x.ok (c:=c) hs (hg hr) (by omega) (fun y hy _=>by subst hy;exact hab _ _ _ rfl);have e1:=jP cp hG (by rfl) e1;rw [ha] at e1 hv;rw [DH rfl] at hv;subst hv;have ok:=append_jok x.ok hn;have x1:=x.jd k1 xd xj ok hb hn hc hcd;obtain ⟨g,e2,k2,it2,m2⟩:=r63 x1 wd (k1.getE gd (fun q=>q.elim n2.1 (fun q=>q.elim n2.2.1 n2.2.2))) (k1.getE gi (fun q=>q.elim n1.1 (fun q=>q.elim n1.2.1 n1.2.2)));refine ⟨g,tq is62 rfl rfl ((t62_eq _ _ _ _ _).trans ?_),(k1.mono (fun c _ q=>q.elim .inl (fun q=>q.elim (.inr ∘ .inl) (.inr ∘ .inr ∘ .inl)))).trans (k2.mono (fun c _ q => .inr (.inr (.inr q)))),x1.items' k2 it2⟩;have lt63:63<prog.funcs.size:=EH (by kernel_rfl);have e2:CV ZG 63 [ptr S.s 2,ptr pi 0,ptr pd 0] h1=some (.tuple #[],g):=e2;have ca:callA prog (CV ZG) (.func (.func 63) #[] #[ptr pi 0,ptr pd 0]) [ptr S.s 2] h1=some (.tuple #[],g):=by unfold callA;simp only;rw [DH lt63];exact e2
 unfold t62;simp -implicitDefEqProofs only [av,aw,DC,x.l0,e1,jO,j7,e25f,DP,ca,af,ak]
end
section
attribute [local congr] ax
attribute [local irreducible] ux bq j8 fG
def is17:bE prog 17 f17 := .of (by kernel_rfl)
def put_nil {α:Type} (k:List Nat) (a:α):DM.put ([]:DM α) k a = [(k,a)]:=rfl
def put_one {α:Type} (k:List Nat) (a b:α):DM.put ([(k,a)]:DM α) k b = [(k,b)]:=by unfold DM.put DM.ix;rw [DH rfl];rfl
set_option maxRecDepth 100000 in
def r17 {h:ae} (T:RT h) {S:Ss} (x:iA h S) (hu:S.up=true) (hit:S.items = []) (hgr:S.graves = []) (hc:S.cur = .pointer none) (hcd:S.cd=none) {m:dB} {v:Vl} (X:fT h m v) (vb:iG m=false) {ix:Nat} (hix:ix<65536) {dv:Vl} {d:List Nat} (B:BS h dv d) (hd:d.length<=8192) (hq:(d.length:Int)<=S.quota) (hq2:S.quota<=1000000) (hk:wA m ix d=0)
  (ha:(S.J.append S.D (fG m ix d)).1=0) (hr:0<(fG m ix d).length) (hr2:(fG m ix d).length<=20000) (hf:S.J.fin<=1000000) :
  ∃ g,CV ZG 17 [ptr S.s 0,mv m v,pv ix dv] h=some (.int .i64 0,g)/\au h g (fun c=>c=S.j\/c=S.d\/c=S.D.bb\/c=S.im) /\
    iA g { S with D:=(S.J.append S.D (fG m ix d)).2.1,J:=(S.J.append S.D (fG m ix d)).2.2,items := [(j8 m,⟨S.J.fin,(fG m ix d).length,d.length⟩)] }:=by
 have hn0:=h.n0_le_next;have lj:=x.jn.lt;have ld:=x.dk.lt;have lb:=x.dk.blt;have lm:S.im<h.next:=by obtain ⟨q,hq⟩:=x.it.obj;exact h.lt_of_getB hq
 have lg:S.gm<h.next:=by obtain ⟨q,hq⟩:=x.gr.obj;exact h.lt_of_getB hq
 obtain ⟨h1,b1,o1,q1,A1,X1,n1⟩:=X.box;obtain ⟨h2,b2,o2,q2,n2⟩:=pbox ix (B.old o1);have O2:=o1.trans o2;have T2:=T.old O2;have e3:=r60 cp T2.n0 (x.old O2);rw [hu] at e3;simp -implicitDefEqProofs only [DV] at e3;have X2:=X.old O2;have B2:=B.old O2;have A2:=X2.ld (aK.get o2 q1);have hB1:aM [Value.int .i64 (ix:Int),dv]=true:=by simp [aM,B.cell.2.1,show (Value.int .i64 (ix:Int)).oneCell'=true from rfl]
 have hB2:Abs.noHoles [Value.int .i64 (ix:Int),dv]=true:=by simp [Abs.noHoles,B.cell.1,show bW (Value.int .i64 (ix:Int))=false from rfl]
 have l23:bQ 2 (ptr h1.next 0) h2=some (pv ix dv,h2):=aP q2 rfl hB2;obtain ⟨h3,e4,o3⟩:=r25 T2 X2 (ix:=ix) (by omega) B2 (by omega);rw [hk] at e4;have e4:=jP cp T2.n0 (by rfl) e4;have O3:=O2.trans o3;have X3:=X.old O3;have A3:=X3.ld (aK.get (o2.trans o3) q1);obtain ⟨h4,e5,o4⟩:=r24 (T.old O3) X3;rw [vb] at e5;have e5:=jP cp (T.old O3).n0 (by rfl) e5;have O4:=O3.trans o4;have wi:=u7 m;obtain ⟨h5,z5,o5,q5,n5⟩:=fresh (List.replicate 32 (.int .u8 0)) h4;obtain ⟨h6,t6,k6,q6,_,n6⟩:=aN (n:=32) (k':=bJ (j8 m)) q5 (by rw [o5.n0];exact h4.n0_le_next) rfl (bu wi) (bA _).2;have o6:aK h4 h6:=aK.bB o5 k6 (DG _);have O6:=O4.trans o6;have x6:=x.old O6;have l38:bQ 32 (ptr h4.next 0) h6=some (kV (j8 m),h6):=aP q6 (bu wi) (bA _).1;have lkg:=(lkD x6.gr map124 zero4 rfl wi).2;rw [hgr] at lkg;have lkg:lookupA prog 124 (.map (some S.gm)) (kV (j8 m)) false h6=some (.bool false,h6):=lkg;have lki:=(lkD x6.it oU zero136 (itG _) wi).1;rw [hit] at lki;have lki:lookupA prog 123 (.map (some S.im)) (kV (j8 m)) true h6=some (.tuple #[oZ zI,.bool false],h6):=lki;obtain ⟨h7,h8,z7,t8,o8,q8,n8⟩:=it_box zI h6;have O8:=O6.trans o8;have x8:=x.old O8;have up8:aK h2 h8:=((o3.trans o4).trans o6).trans o8;have q28:=aK.get up8 q2;have l52:ld1 (ptr h1.next 1) h8=some (dv,h8):=aH q28 rfl B.cell.1;obtain ⟨h9,e9,o9⟩:=r37 (T.old O8).n0 x8 hu hit;have O9:=O8.trans o9;have B9:=B.old O9;have sub:aA prog .sub 3 (.int .i64 S.quota) (.int .i64 0)=some (.int .i64 S.quota):=by rw [gR,bf (by omega) (by omega)];simp
 have big:aA prog .gtr 3 (aj d.length) (.int .i64 S.quota)=some (.bool false):=by unfold aj;rw [dD,DW (by omega)]
 have ck1:dW true (ld1 (ptr h1.next 1) h9) dv=true:=dq (aH (aK.get o9 q28) rfl B.cell.1) B.veq;have ck2:dW true (some (aj d.length,h9)) (aj d.length)=true:=dq rfl (by simp [Abs.veq,aj]);have ck3:dW true (ld1 (ptr S.s 1) h9) (.int .i64 S.quota)=true:=dq ((x.old O9).l1) (by simp [Abs.veq]);have X9:=X.old O9;have A9:=X9.ld (aK.get (((o2.trans (o3.trans (o4.trans o6)))).trans (o8.trans o9)) q1);have l63:bQ 2 (ptr h1.next 0) h9=some (pv ix dv,h9):=aP (aK.get o9 q28) rfl hB2;obtain ⟨w,h10,e10,o10,ns⟩:=r61 X9 vb hix B9 hd;have e10:=jP cp (T.old O9).n0 (by rfl) e10;have O10:=O9.trans o10;have l68:ld1 (ptr h1.next 1) h10=some (dv,h10):=aH (aK.get (o9.trans o10) q28) rfl B.cell.1;generalize hR:fG m ix d=r at *;have y1:cN [(.int .i64 0),(.int .i64 0),(.int .i64 0)] [(0,1,.int .i64 (-1)),(1,1,aj r.length),(2,1,aj d.length)]=some (oZ ⟨-1,r.length,d.length⟩):=rfl;obtain ⟨h11,h12,z11,t12,o12,q12,n12⟩:=it_box ⟨-1,r.length,d.length⟩ h10;have O12:=O10.trans o12;have x12:=x.old O12;have m10:=O10.next;have m9:=O9.next;have m6:=((o8.trans o9).trans o10).next;have m4:=O4.next;have up46:aK h6 h12:=((o8.trans o9).trans o10).trans o12;have q612:=aK.get up46 q6;have bs12:=ns.bs.old o12;obtain ⟨g,e13,k13,x13⟩:=r62 (T.old O12).n0 x12 hc hcd bs12 hr hr2 (fun a n c q=>by have:=ns.new a n c q;omega) ha (id:=j8 m) (y:=⟨-1,r.length,d.length⟩) wi q612 q12 ⟨by omega,by omega,by omega⟩ ⟨by omega,by omega,by omega⟩;have qg:=k13.getE q12 (fun q=>by rcases q with q|q|q|q<;>omega);have q6g:=k13.getE q612 (fun q=>by rcases q with q|q|q|q<;>omega);obtain ⟨g1,t14,k14,q14,_,n14⟩:=dr (o:=0) (v:=aj S.J.fin) qg (by rw [k13.n0,O12.n0];omega) (show 0<3 by decide) rfl rfl;have q14:g1.get h10.next=some (itC ⟨S.J.fin,r.length,d.length⟩):=q14;have K1:au h g (fun c=>c=S.j\/c=S.d\/c=S.D.bb\/c=S.im):=(O12.mono (fun _ _ q=>q.elim)).trans k13;have K2:au h g1 (fun c=>c=S.j\/c=S.d\/c=S.D.bb\/c=S.im):=K1.also k14 (fun c hc q=>by omega);have oI:It->Prop:=fun _=>True;have x14:iA g1 { S with D:=(S.J.append S.D r).2.1,J:=(S.J.append S.D r).2.2,items:=S.items.put (j8 m) ⟨-1,r.length,d.length⟩ }:=by
  obtain ⟨qo,hqo⟩:=x13.it.obj;obtain ⟨qp,hqp⟩:=x13.gr.obj;have ls:S.s<h.next:=h.aL x.c;have lbE:(S.J.append S.D r).2.1.bb<h10.next:=by
   have hb:(S.J.append S.D r).2.1.bb=S.D.bb:=by obtain ⟨a,c,rfl,hs,hg⟩:=bs12.ex;obtain ⟨_,_,_,_,_,hb,_⟩:=r122 x12.dk x12.jn x12.n2 x12.ok (c:=c) hs (hg hr) (by omega) (fun y hy _=>by subst hy;have:=ns.new _ _ _ rfl;show y.block≠S.D.bb;omega);exact hb
   omega
  exact ⟨k14.getE x13.c (by show S.s≠_;omega),by rw [k14.n0];exact x13.n0,k14.dk x13.dk (by show S.d≠_;omega) (by show (S.J.append S.D r).2.1.bb≠_;omega),x13.jn.keep k14 (by show S.j≠_;omega),x13.ok,x13.n2,x13.it.kept k14 (by show S.im≠_;omega),x13.gr.kept k14 (by show S.gm≠_;omega),by rw [k14.n0];exact x13.im0,by rw [k14.n0];exact x13.gm0,x13.ne,x13.sd,x13.sb,x13.sj,.inl ⟨hc,hcd⟩,x13.inc⟩
 obtain ⟨g2,e15,it15,k15,n15⟩:=muD x14.it x14.im0 oU wi (⟨S.J.fin,r.length,d.length⟩:It);have x15:=x14.items' k15 it15;have hput:DM.put (DM.put S.items (j8 m) (⟨-1,r.length,d.length⟩:It)) (j8 m) ⟨S.J.fin,r.length,d.length⟩ = [(j8 m,⟨S.J.fin,r.length,d.length⟩)]:=by rw [hit,put_nil,put_one]
 have K3:au h g2 (fun c=>c=S.j\/c=S.d\/c=S.D.bb\/c=S.im):=K2.also k15 (fun c hc q => .inr (.inr (.inr q)));have l91:bQ 32 (ptr h4.next 0) g1=some (kV (j8 m),g1):=aP (k14.getE q6g (by omega)) (bu wi) (bA _).1;have l92:bQ 3 (ptr h10.next 0) g1=some (oZ ⟨S.J.fin,r.length,d.length⟩,g1):=aP q14 rfl rfl;have l90:ld1 (ptr S.s 3) g1=some (.map (some S.im),g1):=x14.l3;have ge:aA prog .geq 3 (aj S.J.fin) (.int .i64 0)=some (.bool true):=by unfold aj;rw [eO,DN (by omega)]
 refine ⟨g2,bX cp is17 rfl ((t17_eq _ _ _ _ _).trans ?_),K3,by rw [hput] at x15;exact x15⟩;have t6:bI 32 (ptr h4.next 0) (kV (j8 m)) h5=some (undef,h6):=t6;unfold t17;simp -implicitDefEqProofs only [b1,b2,e3,jm,n00,A2.all,l23,e4,A3.all,e5,jO,j7,z5,t6,av,aw,DC,Nat.add_zero,Nat.reduceAdd,x6.l4,x6.l3,l38,lkg,lki,z7,t8,l52,B.len,x8.l1,e9,sub,big,ck1,ck2,ck3,EJ,GW,A9.all,l63,e10,ns.bs.len,l68,y1,z11,t12,e13,e25f,DP,aR,aD,ge,DV,t14,l90,l91,l92,e15,ED,DB,DS,af,ak]
end
end
end Go.Proofs.YtdhpgacmgebjdaaGreatDoor.W
