/-
  A part of the proof, shortened by a program.
  Conditions: as each theorem states.
-/
import Derived.Test.YtdhpgacmgebjdaaGreatDoorG17
set_option linter.all false
namespace Go.Proofs.YtdhpgacmgebjdaaGreatDoor.W
open Go Go.Abs Tryz
noncomputable section
abbrev aK (h h':ae):Prop:=au h h' (fun _=>False)
def aK.get {h h':ae} (o:aK h h') {b:Nat} {k:eh} (e:h.get b=some k):h'.get b=some k:=(au.get o b (h.aL e) (fun h=>h)).trans e
def aK.bytes {h h':ae} (o:aK h h') {a:Option Addr} {n:Nat} {l:List Nat} (e:ao a n h=some l):ao a n h'=some l:=fM e fun _ _=>o.get
def aK.dk {h h':ae} (o:aK h h') {d:Nat} {D:Dk} (x:bC h d D):bC h' d D:=x.mono o.n0 (au.get o d x.lt (fun h=>h)) (au.get o D.bb x.blt (fun h=>h))
def eql22 (a:Option Addr) (n c:Nat):aA prog .eql 22 (.slice a n c) (.slice none 0 0)=some (.bool a.isNone):=by cases a<;>kernel_rfl
def r171 {a:Option Addr} {n c:Nat} {l:List Nat} {h:ae} (hl:ao a n h=some l) (hn:n<=21000) :
  ∃ a' c' h',CD 171 [.slice a n c] h=some (.slice a' n c',h')/\ao a' n h'=some l/\cw a' n c'=true/\aK h h'/\(∀ y,a'=some y->h.next<=y.block)/\(a'.isNone=a.isNone):=by
 cases a with
 |none=>
  have h0:n=0:=by
   obtain ⟨h1,_,h3⟩:=ay hl;by_cases hz:n=0
   ·exact hz
   ·obtain ⟨_,_,_,_,h4,_⟩:=h3 (by omega);cases h4
  subst h0;refine ⟨none,0,h,aI Bc rfl ((qQ _ _ _).trans ?_),hl,rfl,au.refl _ _,fun y hy=>by (cases hy),rfl⟩;unfold t171;simp -implicitDefEqProofs only [af,eql22,ak,Option.isNone_none]
 |some x=>
  have hl1:ao (some x) n (h.alloc [])=some l:=fM hl fun _ _ hc=>ae.iU hc _;obtain ⟨b,s,c',g',e1,e2,e3,e4,e5,e6,e7⟩:=tf (g:=h.alloc []) (E:=h.next) (c:=c) h.n0_le_next hl1 hn;refine ⟨some ⟨b,0,s⟩,c',g',aI Bc rfl ((qQ _ _ _).trans ?_),e2,e3,(au.alloc h [] _).trans ⟨e5,e6,fun d hd _=>e7 d hd⟩,?_,rfl⟩
  ·unfold t171;simp -implicitDefEqProofs only [af,eql22,ak,Option.isNone_some,AN,e1]
  ·intro y hy;cases hy;rcases e4 with e4|⟨e4,_⟩
   ·show h.next<=b;omega
   ·have:(h.alloc []).next=h.next+1:=by simp
    show h.next<=b;omega
def _root_.Go.Abs.au.bytes {h h':ae} {B:Nat->Prop} (k:au h h' B) {a:Option Addr} {n:Nat} {l:List Nat} (e:ao a n h=some l) (hb : ∀ y,a=some y->0<n -> ¬B y.block):ao a n h'=some l:=by
 by_cases h0:n=0
 ·subst h0;obtain ⟨hl,_,_⟩:=ay e;have:l = []:=EC.1 hl;subst this;cases a with
  |none=>rfl
  |some x=>unfold ao firstA;simp;rfl
 ·obtain ⟨_,_,h3⟩:=ay e;obtain ⟨b,off,s,c,rfl,hc,_⟩:=h3 (by omega);rw [nq (h:=h) (fun y hy=>by cases hy;exact k.get b (h.aL hc) (hb _ rfl (by omega)))];exact e
def _root_.Go.Abs.au.dk {h h':ae} {B:Nat->Prop} (k:au h h' B) {d:Nat} {D:Dk} (x:bC h d D) (h1 : ¬B d) (h2 : ¬B D.bb):bC h' d D:=x.mono k.n0 (k.get d x.lt h1) (k.get D.bb x.blt h2)
def dQ {h:ae} {a:Option Addr} {n:Nat} {l:List Nat} (e:ao a n h=some l) {r:Nat} {k:eh} (hk:h.get r=some k) (hv : ∀ v∈k,nat8 v=none) : ∀ y,a=some y->0<n->y.block≠r:=by
 intro y hy hn he;obtain ⟨_,hb,h3⟩:=ay e;obtain ⟨b,off,s,c,rfl,hc,hlen,hat⟩:=h3 hn;cases hy;have:b=r:=he;subst this;rw [hk] at hc;cases hc;have h4:=hat 0 hn;have h5:=hv _ (D7 h4);have h6:l.getD 0 0<256:=by
  rw [DK];cases hz:l[0]? with
  |none=>decide
  |some z=>exact hb z (D7 hz)
 have h7:nat8 (u8 (l.getD 0 0))=some (l.getD 0 0):=by show (if l.getD 0 0<256 then some (l.getD 0 0) else none)=some (l.getD 0 0);rw [DH h6]
 rw [h7] at h5;cases h5
structure IsR (h:ae) (r:Nat) (l:List Nat) (e:Int):Prop where
 ex : ∃ a n c,h.get r=some [.slice a n c,.int .i64 e]/\ao a n h=some l/\cw a n c=true
 n0:h.n0<=r
 len:l.length<=21000
def IsR.keep {h h':ae} {B:Nat->Prop} {r:Nat} {l:List Nat} {e:Int} (R:IsR h r l e) (k:aK h h'):IsR h' r l e:=by obtain ⟨a,n,c,h1,h2,h3⟩:=R.ex;exact ⟨⟨a,n,c,k.getE h1 (fun h=>h),k.bytes h2,h3⟩,k.n0▸R.n0,R.len⟩
def lC (h:ae) (cs:List Vl) (hc:aM cs=true):box (.agg cs.toArray) h=some (ptr h.next 0,h.alloc cs):=by have e:(Value.agg cs.toArray).cells=cs.toArray:=rfl;unfold box;rw [e,DH (by simpa using hc)];simp [Abs.newRow]
def r110 {a:Option Addr} {n c:Nat} {l:List Nat} {h:ae} (hl:ao a n h=some l) (hn:n<=21000) :
  ∃ r h',CD 110 [.slice a n c] h=some (ptr r 0,h')/\IsR h' r l 0/\aK h h'/\h.next<=r:=by
 obtain ⟨a',c',h1,e1,e2,e3,e4,e5,_⟩:=r171 (c:=c) hl hn;have hb:cN [(.slice none 0 0),(.int .i64 0)] [(0,1,.slice a' n c')]=some (.agg [.slice a' n c',.int .i64 0].toArray):=rfl;refine ⟨h1.next,h1.alloc [.slice a' n c',.int .i64 0],aI is110 rfl ((BY _ _ _).trans ?_),⟨⟨a',n,c',by rw [ae.aZ,DH rfl],(au.alloc h1 _ (fun _=>False)).bytes e2 (fun _ _ _ h=>h),e3⟩,?_,?_⟩,e4.trans (au.alloc h1 _ _),e4.next⟩
 ·unfold t110;simp -implicitDefEqProofs only [af,e1,hb,ak,lC h1 [.slice a' n c',.int .i64 0] rfl]
 ·exact h1.n0_le_next
 ·rw [(ay hl).1];exact hn
def eql210 (b o:Nat):aA prog .eql 210 (ptr b o) (.pointer none)=some (.bool false):=by kernel_rfl
def c7 (a:Int):aA prog .neq 25 (.int .i64 a) (.int .i64 0)=some (.bool (a != 0)):=dj ..
def ng (a:Option Addr) (n c:Nat) (e:Int) : ∀ v ∈ [Value.slice a n c,.int .i64 e],nat8 v=none:=by intro v hv;simp only [ER,ET,GX] at hv;rcases hv with rfl|rfl<;>rfl
def r209 {r:Nat} {l:List Nat} {h:ae} (R:IsR h r l 0) {n:Nat} (hn:n<=l.length) :
  ∃ a' c' h',CD 209 [ptr r 0,aj n] h=some (.slice a' n c',h')/\ao a' n h'=some (l.take n)/\cw a' n c'=true/\IsR h' r (l.drop n) 0/\au h h' (fun c=>c=r)/\h'.next=h.next:=by
 obtain ⟨a,m,c,h1,h2,h3⟩:=R.ex;have hm:=(ay h2).1;subst hm;have l0:ld1 (ptr r 0) h=some (.slice a l.length c,h):=aH h1 rfl;have l1:ld1 (ptr r 1) h=some (.int .i64 0,h):=aH h1 rfl;obtain ⟨a1,c1,e1,e2,e3⟩:=qP (vl:=none) (vh:=some (aj n)) (lo:=0) (hi:=n) h3 h2 (by omega) hn (by simp only [boundA,aj];rw [DH (by have:=mX h3;omega)];rfl) rfl;obtain ⟨a2,c2,f1,f2,f3⟩:=qP (vl:=some (aj n)) (vh:=none) (lo:=n) (hi:=l.length) h3 h2 hn (DG _) rfl (by simp only [boundA,aj];rw [DH (by omega)];rfl);have hst:bI 1 (ptr r 0) (.slice a2 (l.length-n) c2) h=some (undef,h.set r [.slice a2 (l.length-n) c2,.int .i64 0]):=dO h1 (by simp) R.n0 rfl rfl;have kp:au h (h.set r [.slice a2 (l.length-n) c2,.int .i64 0]) (fun c=>c=r):=au.set R.n0 h1 (.inr rfl);have hap:=fun {a:Option Addr} {n:Nat} {l:List Nat} (e:ao a n h=some l)=>dQ e h1 (ng _ _ _ _);rw [FO,Nat.sub_zero] at e2;rw [Nat.sub_zero] at e1 e3;rw [D3 (by simp)] at f2;refine ⟨a1,c1,h.set r [.slice a2 (l.length-n) c2,.int .i64 0],aI yE rfl ((oH _ _ _ _).trans ?_),kp.bytes e2 (hap e2),e3,⟨⟨a2,l.length-n,c2,ae.bO R.n0 h1 _,kp.bytes f2 (hap f2),f3⟩,R.n0,by have:=R.len;simp;omega⟩,kp,rfl⟩;have g1 : ¬((n:Int)<0):=by omega
 have g2 : ¬((n:Int)>(l.length:Int)):=by omega
 unfold t209;simp -implicitDefEqProofs only [af,eql210,ak,aR,DP,aD,av,aw,DC,l1,c7,ED,DB,DS,aj,cx,g1,FA,l0,cM,dD,g2];rw [show (Value.int .i64 (n:Int))=aj n from rfl,e1];simp -implicitDefEqProofs only [af,ak,l0,f1,hst]
def sE {r:Nat} {l:List Nat} {h:ae} (R:IsR h r l 0) {n:Nat} (hn:l.length<n) :
  ∃ h',CD 209 [ptr r 0,aj n] h=some (.slice none 0 0,h')/\IsR h' r l 4/\au h h' (fun c=>c=r)/\h'.next=h.next:=by
 obtain ⟨a,m,c,h1,h2,h3⟩:=R.ex;have hm:=(ay h2).1;subst hm;have l0:ld1 (ptr r 0) h=some (.slice a l.length c,h):=aH h1 rfl;have l1:ld1 (ptr r 1) h=some (.int .i64 0,h):=aH h1 rfl;have hst:bI 1 (ptr r 1) (.int .i64 4) h=some (undef,h.set r [.slice a l.length c,.int .i64 4]):=dO h1 (by simp) R.n0 rfl rfl;have kp:au h (h.set r [.slice a l.length c,.int .i64 4]) (fun c=>c=r):=au.set R.n0 h1 (.inr rfl);refine ⟨h.set r [.slice a l.length c,.int .i64 4],aI yE rfl ((oH _ _ _ _).trans ?_),⟨⟨a,l.length,c,ae.bO R.n0 h1 _,kp.bytes h2 (dQ h2 h1 (ng _ _ _ _)),h3⟩,R.n0,R.len⟩,kp,rfl⟩;have g1 : ¬((n:Int)<0):=by omega
 have g2:((n:Int)>(l.length:Int)):=by omega
 unfold t209;simp -implicitDefEqProofs only [af,eql210,ak,aR,DP,aD,av,aw,DC,l1,c7,ED,DB,DS,aj,cx,g1,FA,l0,cM,dD,g2,GQ,hst]
def r172 {r:Nat} {l:List Nat} {h:ae} (R:IsR h r l 0) {n:Nat} (hn:n<=l.length) (h8:n<=8) :
  ∃ h',CD 172 [ptr r 0,aj n] h=some (.int .u64 (be (l.take n)),h')/\IsR h' r (l.drop n) 0/\au h h' (fun c=>c=r)/\h'.next=h.next:=by
 obtain ⟨a,c,h1,e1,e2,e3,e4,e5,e6⟩:=r209 R hn;refine ⟨h1,aI is172 rfl ((wX _ _ _ _).trans ?_),e4,e5,e6⟩;exact CL e1 e2 h8
end
end Go.Proofs.YtdhpgacmgebjdaaGreatDoor.W
namespace Go.Proofs.YtdhpgacmgebjdaaGreatDoor.W
open Go Go.Abs
noncomputable section
def IsR.byte {h:ae} {r:Nat} {l:List Nat} {e:Int} (R:IsR h r l e) : ∀ x∈l,x<256:=by obtain ⟨a,n,c,_,h2,_⟩:=R.ex;exact (ay h2).2.1
def IsR.lt {h:ae} {r:Nat} {l:List Nat} {e:Int} (R:IsR h r l e):r<h.next:=by obtain ⟨a,n,c,h1,_,_⟩:=R.ex;exact h.aL h1
def sG {l:List Nat} (hb : ∀ x∈l,x<256) {n:Nat} (hn:n<=l.length):be (l.take n)<256^n:=qe n _ (by simp;omega) fun x hx=>hb x (D6 hx)
structure RdOk (h:ae) (r:Nat) (l:List Nat) (n:Nat) (h':ae):Prop where
 rd:IsR h' r (l.drop n) 0
 kept:au h h' (fun c=>c=r)
 next:h'.next=h.next
section
variable {r:Nat} {l:List Nat} {h:ae} (R:IsR h r l 0)
include R
def r167 (hn:4<=l.length) : ∃ h',CD 167 [ptr r 0] h=some (.int .u32 (be (l.take 4)),h')/\RdOk h r l 4 h':=by obtain ⟨h1,e1,e2,e3,e4⟩:=r172 R hn (by decide);refine ⟨h1,aI is167 rfl ((t167_eq _ _ _).trans ?_),e2,e3,e4⟩;have e1:CD 172 [ptr r 0,.int .i64 4] h=_:=e1;have hb:=sG R.byte hn;have hw:IntKind.wrap .u32 ((be (l.take 4):Nat):Int)=(be (l.take 4):Nat):=qn (by omega) (by omega);unfold t167;simp -implicitDefEqProofs only [af,e1,bY,hw]
def r112 (hn:8<=l.length) : ∃ h',CD 112 [ptr r 0] h=some (.int .u64 (be (l.take 8)),h')/\RdOk h r l 8 h':=by obtain ⟨h1,e1,e2,e3,e4⟩:=r172 R hn (by decide);refine ⟨h1,aI is112 rfl ((t112_eq _ _ _).trans ?_),e2,e3,e4⟩;have e1:CD 172 [ptr r 0,.int .i64 8] h=_:=e1;unfold t112;simp -implicitDefEqProofs only [af,e1]
def r111 (hn:1<=l.length) : ∃ h',CD 111 [ptr r 0] h=some (.int .u8 (be (l.take 1)),h')/\RdOk h r l 1 h':=by obtain ⟨h1,e1,e2,e3,e4⟩:=r172 R hn (by decide);refine ⟨h1,aI is111 rfl ((BF _ _ _).trans ?_),e2,e3,e4⟩;have e1:CD 172 [ptr r 0,.int .i64 1] h=_:=e1;have hb:=sG R.byte hn;have hw:IntKind.wrap .u8 ((be (l.take 1):Nat):Int)=(be (l.take 1):Nat):=tv (by omega) (by omega);unfold t111;simp -implicitDefEqProofs only [af,e1,bY,hw]
def r168 (hn:2<=l.length) : ∃ h',CD 168 [ptr r 0] h=some (.int .u16 (be (l.take 2)),h')/\RdOk h r l 2 h':=by obtain ⟨h1,e1,e2,e3,e4⟩:=r172 R hn (by decide);refine ⟨h1,aI is168 rfl ((BX _ _ _).trans ?_),e2,e3,e4⟩;have e1:CD 172 [ptr r 0,.int .i64 2] h=_:=e1;have hb:=sG R.byte hn;have hw:IntKind.wrap .u16 ((be (l.take 2):Nat):Int)=(be (l.take 2):Nat):=tw (by omega) (by omega);unfold t168;simp -implicitDefEqProofs only [af,e1,bY,hw]
def r169 {n:Nat} (hn:n<=l.length) : ∃ a' c' h',CD 169 [ptr r 0,aj n] h=some (.slice a' n c',h')/\ao a' n h'=some (l.take n)/\cw a' n c'=true/\IsR h' r (l.drop n) 0/\au h h' (fun c=>c=r) /\
  (∀ y,a'=some y->h.next<=y.block):=by
 obtain ⟨a,c,h1,e1,e2,e3,e4,e5,e6⟩:=r209 R hn;obtain ⟨a',c',h2,f1,f2,f3,f4,f5,_⟩:=r171 (c:=c) e2 (by have:=R.len;omega);refine ⟨a',c',h2,aI is169 rfl ((wW _ _ _ _).trans ?_),f2,f3,e4.keep (B:=fun _=>False) f4,e5.also f4 (fun _ _ h=>h.elim),fun y hy=>e6▸f5 y hy⟩;unfold t169;simp -implicitDefEqProofs only [af,e1,f1]
def r169_short {n:Nat} (hn:l.length<n) : ∃ h',CD 169 [ptr r 0,aj n] h=some (.slice none 0 0,h')/\IsR h' r l 4/\au h h' (fun c=>c=r):=by
 obtain ⟨h1,e1,e2,e3,e4⟩:=sE R hn;obtain ⟨a',c',h2,f1,f2,f3,f4,f5,f6⟩:=r171 (a:=none) (n:=0) (c:=0) (l := []) (h:=h1) rfl (by omega);have ha:a'=none:=by simpa using f6
 subst ha;have f1':CD 171 [.slice none 0 0] h1=some (.slice none 0 0,h1):=by refine aI Bc rfl ((qQ _ _ _).trans ?_);unfold t171;simp -implicitDefEqProofs only [af,eql22,ak,Option.isNone_none]
 refine ⟨h1,aI is169 rfl ((wW _ _ _ _).trans ?_),e2,e3⟩;unfold t169;simp -implicitDefEqProofs only [af,e1,f1']
end
def r170 {r:Nat} {l:List Nat} {h:ae} {e:Int} (R:IsR h r l e):CD 170 [ptr r 0] h=some (.int .i64 e,h):=by obtain ⟨a,n,c,h1,_,_⟩:=R.ex;have l1:ld1 (ptr r 1) h=some (.int .i64 e,h):=aH h1 rfl;refine aI is170 rfl ((Cf _ _ _).trans ?_);unfold t170;simp -implicitDefEqProofs only [af,eql210,ak,av,aw,DC,l1]
def Dk.blk (D:Dk) (i:Nat):List Nat:=(D.img.drop (i*128)).take 128
def Dk.rQ {h:ae} {d:Nat} {D:Dk} (x:bC h d D) {i:Nat} (hi:i<D.n):(D.blk i).length=128:=by have:=x.len;simp only [Dk.blk,E8,F9];omega
def Dk.yW {h:ae} {d:Nat} {D:Dk} (x:bC h d D) (i:Nat) : ∀ y∈D.blk i,y<256:=fun y hy=>x.byte y (EO (D6 hy))
def right (b:List Nat):Bool:=be (b.take 4)==tA (b.drop 4)
def oj (a b:Nat):((a:Int)==(b:Int))=(a==b):=by
 by_cases h:a=b
 ·subst h;rw [DP,DP]
 ·have h1 : ¬((a:Int)=(b:Int)):=by omega
  rw [GS.2 h1,GS.2 h]
def arr128_4 (b off:Nat):sliceArr 128 1 (ptr b off) (some (.int .i64 4)) none none=some (.slice (some ⟨b,off+4,none⟩) 124 124):=rfl
def r166 {d:Nat} {D:Dk} {h:ae} (x:bC h d D) {i:Nat} (hi:i<D.n) :
  ∃ r h',CD 166 [ptr d 0,aj i] h=some (.tuple #[ptr r 0,.bool (right (D.blk i))],h')/\IsR h' r ((D.blk i).drop 4) 0/\aK h h'/\h.next<=r:=by
 have hb:ao (some ⟨D.bb,i*128,none⟩) 128 h=some (D.blk i):=yk x hi;have hlen:=Dk.rQ x hi;obtain ⟨r,h1,e1,e2,e3,e4⟩:=r110 (c:=128) hb (by omega);obtain ⟨h2,f1,f2⟩:=r167 e2 (show 4<=(D.blk i).length by omega);have x2:bC h2 d D:=f2.kept.dk (e3.dk x) (by have:=x.lt;omega) (by have:=x.blt;omega);have hix:idxS 128 (.slice (some ⟨D.bb,0,none⟩) D.n D.n) (aj i)=some (ptr D.bb (i*128)):=by unfold idxS;simp only [aj];rw [DH (by omega),Int.toNat_natCast,DC]
 have hs:ao (some ⟨D.bb,i*128+4,none⟩) 124 h2=some ((D.blk i).drop 4):=by have:=fX (s':=none) (yk x2 hi) (lo:=4) (hi:=128) (by decide) (by decide);rw [this];exact FP some (D3 (by simp only [F9];unfold Dk.blk at hlen;omega))
 have hc:CD 208 [.slice (some ⟨D.bb,i*128+4,none⟩) 124 124] h2=some (u32 (tA ((D.blk i).drop 4)),h2):=by refine ui ?_;rw [X208];unfold s208;simp only [hs];rfl
 refine ⟨r,h2,aI is166 rfl ((t166_eq _ _ _ _).trans ?_),f2.rd,e3.also f2.kept (fun c h1 h2=>by omega),e4⟩;unfold t166;simp -implicitDefEqProofs only [af,ak,av,aw,DC,x.l0,hix,Cd,e1,f1,x2.l0,arr128_4,hc,u32,eQ,oj,right]
def bR (b:List Nat):Nat:=be ((b.drop 8).take 8)
def dC (b:List Nat):Nat:=be ((b.drop 16).take 1)
def cC (b:List Nat):Bool:=right b&&(be ((b.drop 4).take 4)==1398034252)&&decide (dC b<=1)
def r106 {d:Nat} {D:Dk} {h:ae} (x:bC h d D) {i:Nat} (hi:i<D.n) :
  ∃ h',CD 106 [ptr d 0,aj i] h=some (.tuple #[.int .u64 (bR (D.blk i)),aj (dC (D.blk i)),.bool (cC (D.blk i))],h')/\aK h h':=by
 have hlen:=Dk.rQ x hi;have hbb:=Dk.yW x i;obtain ⟨r,h1,e1,R1,o1,g1⟩:=r166 x hi;obtain ⟨h2,e2,R2⟩:=r167 R1 (by simp;omega);obtain ⟨h3,e3,R3⟩:=r112 R2.rd (by simp;omega);obtain ⟨h4,e4,R4⟩:=r111 R3.rd (by simp;omega);simp only [GG,Nat.reduceAdd] at e2 e3 e4;have ha:be (((D.blk i).drop 16).take 1)<256:=qe 1 _ (by simp;omega) fun y hy=>hbb y (EO (D6 hy));have hw:IntKind.wrap .i64 ((be (((D.blk i).drop 16).take 1):Nat):Int)=(be (((D.blk i).drop 16).take 1):Nat):=bf (by omega) (by omega);refine ⟨h4,aI is106 rfl ((t106_eq _ _ _ _).trans ?_),((o1.also R2.kept (fun c h1 h2=>by omega)).also R3.kept (fun c h1 h2=>by omega)).also R4.kept (fun c h1 h2=>by omega)⟩;have hx0 : ∀ a b:Vl,extractA (.tuple #[a,b]) 0=some a:=fun _ _=>rfl;have hx1 : ∀ a b:Vl,extractA (.tuple #[a,b]) 1=some b:=fun _ _=>rfl;have hm:((1398034252:Int))=((1398034252:Nat):Int):=rfl;unfold t106 cC bR dC;simp -implicitDefEqProofs only [af,e1,hx0,hx1,ak,e2,e3,e4,bY,hw,aR];cases right (D.blk i) with
 |false=>
  simp -implicitDefEqProofs only [fs,aX,af,DB,DS,aR,E0]
 |true=>
  simp -implicitDefEqProofs only [DP,aD,af,ak,eQ,DV,aR,EU,hm,oj];cases be (((D.blk i).drop 4).take 4)==1398034252 with
  |false=>simp -implicitDefEqProofs only [fs,aX,af,DB,DS,E0]
  |true=>
   simp -implicitDefEqProofs only [DP,aD,af,ak,nQ,DV,EU,aj];have:decide (((be (((D.blk i).drop 16).take 1):Nat):Int)<=1)=decide (be (((D.blk i).drop 16).take 1)<=1):=GH.2 (by omega);rw [this]
def Dk.ar (D:Dk):Nat:=(D.n-2)/2
def vO {d:Nat} {D:Dk} {h:ae} (x:bC h d D) (h2:2<=D.n):CD 107 [ptr d 0] h=some (aj D.ar,h):=by
 refine aI is107 rfl ((t107_eq _ _ _).trans ?_);have hs:=x.small;have w1:IntKind.wrap .i64 ((D.n:Int)-2)=((D.n-2:Nat):Int):=by rw [bf (by omega) (by omega)];omega
 have w2:IntKind.wrap .i64 (((D.n-2:Nat):Int).tdiv 2)=((D.ar:Nat):Int):=by
  have:((D.n-2:Nat):Int).tdiv 2=(((D.n-2)/2:Nat):Int):=by rw [Int.tdiv_eq_ediv_of_nonneg (by omega)];rfl
  rw [this,bf (by omega) (by omega)];rfl
 unfold t107;simp -implicitDefEqProofs only [af,ak,av,aw,DC,x.l0,cM,gR,w1,w8 _ _ _ _ _ (show (2:Int)≠0 by decide),w2]
end
end Go.Proofs.YtdhpgacmgebjdaaGreatDoor.W
namespace Go.Proofs.YtdhpgacmgebjdaaGreatDoor.W
open Go Go.Abs Tryz
noncomputable section
def AQ (h:ae) (b:Nat):Prop := ∃ k,h.get b=some k /\ ∀ v∈k,nat8 v=none
def _root_.Go.Abs.au.uJ {h h':ae} {B:Nat->Prop} (k:au h h' B) (hB : ∀ b,B b->AQ h b) {a:Option Addr} {n:Nat} {l:List Nat} (e:ao a n h=some l):ao a n h'=some l:=
 k.bytes e fun y hy hn hb=>by obtain ⟨c,h1,h2⟩:=hB _ hb;exact dQ e h1 h2 y hy hn rfl
def IsR.move {h h':ae} {B:Nat->Prop} {r:Nat} {l:List Nat} {e:Int} (R:IsR h r l e) (k:au h h' B) (hr : ¬B r) (hB : ∀ b,B b->AQ h b):IsR h' r l e:=by obtain ⟨a,n,c,h1,h2,h3⟩:=R.ex;exact ⟨⟨a,n,c,k.getE h1 hr,k.uJ hB h2,h3⟩,k.n0▸R.n0,R.len⟩
def mT {h:ae} {b:Nat} {k k':eh} (hk:h.get b=some k) (h0:h.n0<=b) {n:Nat} (hn:k.length=n) (hn':k'.length=n) (ho:aM k'=true):bI n (ptr b 0) (.agg k'.toArray) h=some (undef,h.set b k'):=by
 unfold bI ptr;have hc:(Value.agg k'.toArray).cells=k'.toArray:=rfl;simp only [hc,FR,hn',DV];unfold stL;simp only [hk];rw [DH (by simp [ho,h0,hn,hn'])];have:splice k 0 k'=k':=by simp [splice,hn,hn']
 simp [this]
def Bf {h:ae} {b:Nat} {k:eh} (hk:h.get b=some k) {n:Nat} (hn:k.length=n) (hh:Abs.noHoles k=true):bQ n (ptr b 0) h=some (.agg k.toArray,h):=by
 have e:(k.drop 0).take n=k:=by rw [FO,D3 (by omega)]
 rw [BC hk (by omega) (by rw [e];exact hh),e]
def gv {h:ae} {b:Nat} {k k':eh} (hk:h.get b=some k) (h0:h.n0<=b):au h (h.set b k') (fun c=>c=b)/\(h.set b k').get b=some k':=⟨au.set h0 hk (.inr rfl),ae.bO h0 hk _⟩
def cb (b:List Nat):Nat:=be ((b.drop 4).take 8)
def lR (b:List Nat):Nat:=be ((b.drop 12).take 4)
def bZ (b:List Nat):Nat:=be ((b.drop 16).take 2)
def bj (b:List Nat):Nat:=be ((b.drop 18).take 2)
def ei (b:List Nat):Nat:=be ((b.drop 20).take 2)
def gU (b:List Nat):List Nat:=if ei b<=106 then (b.drop 22).take (ei b) else []
def iN (at_:Nat) (b:List Nat):Bool:=right b&&(lR b==at_)&&decide (1<=bj b)&&decide (bZ b<bj b)&&decide (ei b<=106)
def results108:f108.results.toList = [.cell 6 205,.tmp 7]:=by kernel_rfl
def ld103 (v:Vl) (h:ae):ld prog 205 v h=bQ 4 v h:=by unfold ld;rw [show sK prog 205=some true by kernel_rfl,show cQ prog 205=some 4 by kernel_rfl]
def res108 (x:Nat->Vl) {h:ae} {v:Vl} (e:bQ 4 (x 6) h=some (v,h)):resultsA prog f108.results.toList (aS 70 x) h=some (.tuple #[v,x 7],h):=by have h6:(aS 70 x).getD 6 undef=x 6:=rfl;have h7:(aS 70 x).getD 7 undef=x 7:=rfl;rw [results108];simp only [resultsA,FJ,List.mapM_nil,dy,h6,h7,ld103,e];rfl
def ic:eh := [(.int .u64 0),(.int .i64 0),(.int .i64 0),(.slice none 0 0)]
def logC (g p q:Nat) (s:Vl):eh := [.int .u64 g,aj p,aj q,s]
def sq {h:ae} {b:Nat} {g p q:Int} {a:Option Addr} {n c:Nat} (e:h.get b=some [.int .u64 g,.int .i64 p,.int .i64 q,.slice a n c]):AQ h b:=⟨_,e,by intro v hv;simp only [ER,ET,GX] at hv;rcases hv with rfl|rfl|rfl|rfl<;>rfl⟩
def r108 {d:Nat} {D:Dk} {h:ae} (x:bC h d D) (h2:2<=D.n) {area at_:Nat} (ha:area<=1) (hat:at_<D.ar) :
  ∃ a n c h',CD 108 [ptr d 0,aj area,aj at_] h=some (.tuple #[.agg (logC (cb (D.blk (2+area*D.ar+at_))) (bZ (D.blk (2+area*D.ar+at_))) (bj (D.blk (2+area*D.ar+at_))) (.slice a n c)).toArray,.bool (iN at_ (D.blk (2+area*D.ar+at_)))],h') /\
    ao a n h'=some (gU (D.blk (2+area*D.ar+at_)))/\cw a n c=true/\aK h h'/\(∀ y,a=some y->h.next<=y.block):=by
 have hsm:=x.small;have har:D.ar=(D.n-2)/2:=rfl;have hm:area*D.ar<=D.ar:=by have:=GJ D.ar ha;omega
 have hi:2+area*D.ar+at_<D.n:=by rcases Nat.le_one_iff_eq_zero_or_eq_one.1 ha with rfl|rfl<;>omega
 have w1:IntKind.wrap .i64 ((area:Int)*(D.ar:Int))=((area*D.ar:Nat):Int):=by rw [<-Int.natCast_mul,bf (by omega) (by omega)]
 generalize hM:area*D.ar=M at *;generalize hI:2+M+at_=i at *;have w2:IntKind.wrap .i64 (2+(M:Int))=((2+M:Nat):Int):=by rw [bf (by omega) (by omega)];omega
 have w3:IntKind.wrap .i64 (((2+M:Nat):Int)+(at_:Int))=((i:Nat):Int):=by rw [bf (by omega) (by omega)];omega
 have kA:aK h (h.alloc ic):=au.alloc h ic _;have xA:=kA.dk x;have gA:(h.alloc ic).get h.next=some ic:=by rw [ae.aZ,DH rfl]
 have e55:=vO xA h2;obtain ⟨r,hB,eB,RB,oB,gB⟩:=r166 xA hi;have hlen:=Dk.rQ x hi;have hbb:=Dk.yW x i;generalize hb:D.blk i=b at *;have hA1:(h.alloc ic).next=h.next+1:=ae.jB ..;obtain ⟨hC,eC,RC⟩:=r112 RB (by simp;omega);have qB:=oB.getE gA (fun h=>h);have qC:=RC.kept.getE qB (by omega);have hp:h.next+1<=hC.next:=by rw [RC.next];have:=oB.next;omega
 have hrp:r<hC.next:=by have:=RC.rd.lt;exact this
 have kD:aK hC (hC.alloc ic):=au.alloc hC ic _;have pD:(hC.alloc ic).get hC.next=some ic:=by rw [ae.aZ,DH rfl]
 have qD:=kD.getE qC (fun h=>h);generalize hP:hC.next=p at *;have n0C:hC.n0<=p:=hP▸hC.n0_le_next;have RD:=RC.rd.keep (B:=fun _=>False) kD;have eG:bI 4 (ptr p 0) (.agg #[.int .u64 (be ((b.drop 4).take 8)),.int .i64 0,.int .i64 0,.slice none 0 0]) (hC.alloc ic)=some (undef,(hC.alloc ic).set p [.int .u64 (be ((b.drop 4).take 8)),.int .i64 0,.int .i64 0,.slice none 0 0]):=
  mT (k' := [.int .u64 (be ((b.drop 4).take 8)),.int .i64 0,.int .i64 0,.slice none 0 0]) pD n0C rfl rfl rfl
 obtain ⟨kE,pE⟩:=gv (k' := [.int .u64 (be ((b.drop 4).take 8)),.int .i64 0,.int .i64 0,.slice none 0 0]) pD n0C;have RE:=RD.move kE (by omega) (fun c hc=>by subst hc;exact sq pD);have qE:=kE.getE qD (by omega);generalize hHE:(hC.alloc ic).set p [.int .u64 (be ((b.drop 4).take 8)),.int .i64 0,.int .i64 0,.slice none 0 0]=hE at *;obtain ⟨hF,eF,RF⟩:=r167 RE (by simp;omega);obtain ⟨hG,eG2,RG⟩:=r168 RF.rd (by simp;omega);obtain ⟨hH,eH,RH⟩:=r168 RG.rd (by simp;omega);simp only [GG,Nat.reduceAdd] at eF eG2 eH RH;have kH:au hE hH (fun c=>c=r):=(RF.kept.trans RG.kept).trans RH.kept;have pH:=kH.getE pE (by omega);have qH:=kH.getE qE (by omega);have n0H:hH.n0<=p:=by rw [kH.n0,kE.n0];exact n0C
 have b16:=qe 2 ((b.drop 16).take 2) (by simp;omega) fun y hy=>hbb y (EO (D6 hy));have b18:=qe 2 ((b.drop 18).take 2) (by simp;omega) fun y hy=>hbb y (EO (D6 hy));have b20:=qe 2 ((b.drop 20).take 2) (by simp;omega) fun y hy=>hbb y (EO (D6 hy));have b12:=qe 4 ((b.drop 12).take 4) (by simp;omega) fun y hy=>hbb y (EO (D6 hy));have hg:be ((b.drop 4).take 8)=cb b:=rfl;have h12:be ((b.drop 12).take 4)=lR b:=rfl;have h16:be ((b.drop 16).take 2)=bZ b:=rfl;have h18:be ((b.drop 18).take 2)=bj b:=rfl;have h20:be ((b.drop 20).take 2)=ei b:=rfl;rw [h12] at eF b12;rw [h16] at eG2 b16;rw [h18] at eH b18;rw [hg] at eC eG pE pH;have v12:IntKind.wrap .i64 ((lR b:Nat):Int)=(lR b:Nat):=bf (by omega) (by omega);have v16:IntKind.wrap .i64 ((bZ b:Nat):Int)=(bZ b:Nat):=bf (by omega) (by omega);have v18:IntKind.wrap .i64 ((bj b:Nat):Int)=(bj b:Nat):=bf (by omega) (by omega);have v20:IntKind.wrap .i64 ((ei b:Nat):Int)=(ei b:Nat):=bf (by rw [<-h20];omega) (by rw [<-h20];omega);have eI:bI 1 (ptr p 1) (.int .i64 (bZ b)) hH=some (undef,hH.set p [.int .u64 (cb b),.int .i64 (bZ b),.int .i64 0,.slice none 0 0]):=dO pH (by simp) n0H rfl rfl;obtain ⟨kI,pI⟩:=gv (k' := [.int .u64 (cb b),.int .i64 (bZ b),.int .i64 0,.slice none 0 0]) pH n0H;have RI:=RH.rd.move kI (by omega) (fun c hc=>by subst hc;exact sq pH);have qI:=kI.getE qH (by omega);generalize hHI:hH.set p [.int .u64 (cb b),.int .i64 (bZ b),.int .i64 0,.slice none 0 0]=hI2 at *;have n0I:hI2.n0<=p:=by rw [kI.n0];exact n0H
 have eJ:bI 1 (ptr p 2) (.int .i64 (bj b)) hI2=some (undef,hI2.set p [.int .u64 (cb b),.int .i64 (bZ b),.int .i64 (bj b),.slice none 0 0]):=dO pI (by simp) n0I rfl rfl;obtain ⟨kJ,pJ⟩:=gv (k' := [.int .u64 (cb b),.int .i64 (bZ b),.int .i64 (bj b),.slice none 0 0]) pI n0I;have RJ:=RI.move kJ (by omega) (fun c hc=>by subst hc;exact sq pI);have qJ:=kJ.getE qI (by omega);generalize hHJ:hI2.set p [.int .u64 (cb b),.int .i64 (bZ b),.int .i64 (bj b),.slice none 0 0]=hJ at *;have n0J:hJ.n0<=p:=by rw [kJ.n0];exact n0I
 simp only [GG,Nat.reduceAdd] at RJ;obtain ⟨hK,eK,RK⟩:=r168 RJ (by simp;omega);rw [h20] at eK;have pK:=RK.kept.getE pJ (by omega);have qK:=RK.kept.getE qJ (by omega);have hraw : ∃ a n c hL,CD 169 [ptr r 0,aj (ei b)] hK=some (.slice a n c,hL)/\ao a n hL=some (gU b)/\cw a n c=true/\(∃ l,IsR hL r l (if ei b<=106 then 0 else 4))/\au hK hL (fun c=>c=r)/\(∀ y,a=some y->hK.next<=y.block):=by
  have hl22:(b.drop 22).length=106:=by simp;omega
  have RK2:=RK.rd;simp only [GG,Nat.reduceAdd] at RK2;by_cases hc:ei b<=106
  ·obtain ⟨a',c',h',f1,f2,f3,f4,f5,f6⟩:=r169 RK2 (n:=ei b) (by omega);refine ⟨a',_,c',h',f1,?_,f3,⟨_,by rw [DH hc];exact f4⟩,f5,f6⟩;rw [f2,gU,DH hc]
  ·obtain ⟨h',f1,f2,f3⟩:=r169_short RK2 (n:=ei b) (by omega);refine ⟨none,0,0,h',f1,?_,rfl,⟨_,by rw [DL hc];exact f2⟩,f3,fun y hy=>by cases hy⟩;rw [gU,DL hc];rfl
 obtain ⟨a,n,c,hL,eL,sL,gL,⟨l,RL⟩,kL,fL⟩:=hraw;have pL:=kL.getE pK (by omega);have qL:=kL.getE qK (by omega);have n0L:hL.n0<=p:=by rw [kL.n0,RK.kept.n0];exact n0J
 have eM:bI 1 (ptr p 3) (.slice a n c) hL=some (undef,hL.set p [.int .u64 (cb b),.int .i64 (bZ b),.int .i64 (bj b),.slice a n c]):=dO pL (by simp) n0L rfl rfl;obtain ⟨kM,pM⟩:=gv (k' := [.int .u64 (cb b),.int .i64 (bZ b),.int .i64 (bj b),.slice a n c]) pL n0L;have RM:=RL.move kM (by omega) (fun c hc=>by subst hc;exact sq pL);have sM:=kM.uJ (fun c hc=>by subst hc;exact sq pL) sL;have qM:=kM.getE qL (by omega);generalize hHM:hL.set p [.int .u64 (cb b),.int .i64 (bZ b),.int .i64 (bj b),.slice a n c]=hM2 at *;have e90:=r170 RM;have l1:ld1 (ptr p 1) hM2=some (.int .i64 (bZ b),hM2):=aH pM rfl;have l2:ld1 (ptr p 2) hM2=some (.int .i64 (bj b),hM2):=aH pM rfl;have lN:bQ 4 (ptr p 0) hM2=some (.agg #[.int .u64 (cb b),.int .i64 (bZ b),.int .i64 (bj b),.slice a n c],hM2):=Bf pM rfl rfl;have n0q:hM2.n0<=h.next:=by
  have e1:hM2.n0=h.n0:=by rw [kM.n0,kL.n0,RK.kept.n0,kJ.n0,kI.n0,kH.n0,kE.n0,kD.n0,RC.kept.n0,oB.n0,kA.n0]
  rw [e1];exact h.n0_le_next
 have eN:bI 4 (ptr h.next 0) (.agg #[.int .u64 (cb b),.int .i64 (bZ b),.int .i64 (bj b),.slice a n c]) hM2=some (undef,hM2.set h.next [.int .u64 (cb b),.int .i64 (bZ b),.int .i64 (bj b),.slice a n c]):=
  mT (k' := [.int .u64 (cb b),.int .i64 (bZ b),.int .i64 (bj b),.slice a n c]) qM n0q rfl rfl rfl
 obtain ⟨kN,qN⟩:=gv (k' := [.int .u64 (cb b),.int .i64 (bZ b),.int .i64 (bj b),.slice a n c]) qM n0q;have sN:=kN.uJ (fun c hc=>by subst hc;exact sq qM) sM;generalize hHN:hM2.set h.next [.int .u64 (cb b),.int .i64 (bZ b),.int .i64 (bj b),.slice a n c]=hN at *;have lq:bQ 4 (ptr h.next 0) hN=some (.agg #[.int .u64 (cb b),.int .i64 (bZ b),.int .i64 (bj b),.slice a n c],hN):=Bf qN rfl rfl;have hKn:h.next<=hK.next:=by have a1:=RK.kept.next;have a2:=kJ.next;have a3:=kI.next;have a4:=kH.next;have a5:=kE.next;have a6:=kD.next;omega
 refine ⟨a,n,c,hN,?_,sN,gL,?_,fun y hy=>D9 hKn (fL y hy)⟩
 ·refine aI is108 rfl ((t108_eq _ _ _ _ _).trans ?_);have hx0 : ∀ a b:Vl,extractA (.tuple #[a,b]) 0=some a:=fun _ _=>rfl;have hx1 : ∀ a b:Vl,extractA (.tuple #[a,b]) 1=some b:=fun _ _=>rfl;have hbld:cN [(.int .u64 0),(.int .i64 0),(.int .i64 0),(.slice none 0 0)] [(0,1,.int .u64 (cb b))]=some (.agg #[.int .u64 (cb b),.int .i64 0,.int .i64 0,.slice none 0 0]):=rfl;have i1:aj area = .int .i64 (area:Int):=rfl;have i2:aj D.ar = .int .i64 (D.ar:Int):=rfl;have i3:aj at_ = .int .i64 (at_:Int):=rfl;have i4:Value.int .i64 (i:Int)=aj i:=rfl;have i5:Value.int .i64 (ei b:Int)=aj (ei b):=rfl;have hz:h.alloc [(.int .u64 0),(.int .i64 0),(.int .i64 0),(.slice none 0 0)]=h.alloc ic:=rfl;have hz2:hC.alloc [(.int .u64 0),(.int .i64 0),(.int .i64 0),(.slice none 0 0)]=hC.alloc ic:=rfl;have c1:((bj b:Nat):Int)>=1↔1<=bj b:=by omega
  have c2:((bZ b:Nat):Int)<((bj b:Nat):Int)↔bZ b<bj b:=by omega
  have fin : ∀ (y:Nat->Vl) (v:Bool),y 6=ptr h.next 0->y 7 = .bool v->resultsA prog f108.results.toList (aS 70 y) hN=some (.tuple #[.agg (logC (cb b) (bZ b) (bj b) (.slice a n c)).toArray,.bool v],hN):=by intro y v h6 h7;rw [res108 y (by rw [h6];exact lq),h7];rfl
  unfold t108;simp -implicitDefEqProofs only [cO,Abs.newRow,hz,af,e55,i1,i2,i3,jM,w1,ak,eR,w2,w3,i4,eB,hx0,hx1,eC,hbld,hz2,hP,eG,eF,bY,v12,eG2,v16,eH,v18,aw,DC,eI,eJ,eK,v20,i5,eL,eM,aR];unfold iN;cases hc1:right b with
  |false=>
   simp -implicitDefEqProofs only [fs,aX,af,DB,DS,aR,E0,lN,eN];exact fin _ _ rfl rfl
  |true=>
   simp -implicitDefEqProofs only [DP,aD,af,ak,eQ,DV,aR,EU,oj];cases hc2:(lR b==at_) with
   |false=>
    simp -implicitDefEqProofs only [fs,aX,af,DB,DS,aR,E0,lN,eN];exact fin _ _ rfl rfl
   |true=>
    simp -implicitDefEqProofs only [DP,aD,af,ak,aw,DC,l2,eO,DV,aR,EU];rw [GH.2 c1];cases hc3:decide (1<=bj b) with
    |false=>
     simp -implicitDefEqProofs only [fs,aX,af,DB,DS,aR,E0,lN,eN];exact fin _ _ rfl rfl
    |true=>
     simp -implicitDefEqProofs only [DP,aD,af,ak,aw,DC,l1,l2,cx,DV,aR,EU];rw [GH.2 c2];cases hc4:decide (bZ b<bj b) with
     |false=>
      simp -implicitDefEqProofs only [fs,aX,af,DB,DS,aR,E0,lN,eN];exact fin _ _ rfl rfl
     |true=>
      simp -implicitDefEqProofs only [DP,aD,af,ak,e90,DV,aR,EU,bin28e,lN,eN];have hv:((if ei b<=106 then (0:Int) else 4)==0)=decide (ei b<=106):=by
       by_cases hc:ei b<=106
       ·rw [DH hc,DN hc];rfl
       ·rw [DL hc,DW hc];rfl
      rw [hv];exact fin _ _ rfl rfl
 ·have k1:aK h hC:=(kA.trans oB).also RC.kept (fun c h1 h2=>by omega);have k2:aK h hE:=(k1.trans kD).also kE (fun c h1 h2=>by omega);have k3:aK h hH:=k2.also kH (fun c h1 h2=>by omega);have k4:aK h hJ:=(k3.also kI (fun c h1 h2=>by omega)).also kJ (fun c h1 h2=>by omega);have k5:aK h hL:=(k4.also RK.kept (fun c h1 h2=>by omega)).also kL (fun c h1 h2=>by omega);exact (k5.also kM (fun c h1 h2=>by omega)).also kN (fun c h1 h2=>by omega)
def getB_kill {h:ae} {L:Nat} (h0:h.n0<=L) (hn:L<h.next) {c:Nat} (hc:c≠L):(h.kill L).getB c=h.getB c:=by unfold ae.kill;rw [ae.fc h h0 hn,DL hc]
def cF:Vl->Option Nat
 | .slice (some a) _ _=>some a.block
 |_=>none
def cG (h:ae) (N size:Nat) (v:Vl) (len:Nat) (cells:List Vl):Prop:=
 cells.length=len*size/\Abs.noHoles cells=true/\aM cells=true /\
 ((v = .slice none 0 0/\len=0) \/ ∃ b s,v = .slice (some ⟨b,0,s⟩) len len/\N<=b/\((s=none/\len=0)\/(s=some size/\h.get b=some cells)))
def cG.nil (h:ae) (N size:Nat):cG h N size (.slice none 0 0) 0 []:=⟨by simp,rfl,rfl,.inl ⟨rfl,rfl⟩⟩
def cG.empty (h:ae) {N size b:Nat} (hb:N<=b):cG h N size (.slice (some ⟨b,0,none⟩) 0 0) 0 []:=⟨by simp,rfl,rfl,.inr ⟨b,none,rfl,hb,.inl ⟨rfl,rfl⟩⟩⟩
def cG.keep {h h':ae} {N size:Nat} {v:Vl} {len:Nat} {cells:List Vl} (o:cG h N size v len cells) {B:Nat->Prop} (k:au h h' B) (hB : ∀ b,cF v=some b -> ¬B b):cG h' N size v len cells:=by
 obtain ⟨h1,h2,h3,h4⟩:=o;refine ⟨h1,h2,h3,?_⟩;rcases h4 with h4|⟨b,s,rfl,h5,h6|⟨h6,h7⟩⟩
 ·exact .inl h4
 ·exact .inr ⟨b,s,rfl,h5,.inl h6⟩
 ·exact .inr ⟨b,s,rfl,h5,.inr ⟨h6,k.getE h7 (hB b rfl)⟩⟩
def lB (a b:List Vl) (ha:Abs.noHoles a=true) (hb:Abs.noHoles b=true):Abs.noHoles (a++b)=true:=by unfold Abs.noHoles at *;rw [HI,ha,hb];rfl
def ke (a b:List Vl) (ha:aM a=true) (hb:aM b=true):aM (a++b)=true:=by unfold aM at *;rw [HI,ha,hb];rfl
def cG.cK {h:ae} {N size:Nat} {v:Vl} {len:Nat} {cells:List Vl} (o:cG h N size v len cells) {b:Nat} (hb:cF v=some b):N<=b:=by
 obtain ⟨_,_,_,⟨rfl,_⟩|⟨b',s,rfl,h5,_⟩⟩:=o
 ·cases hb
 ·cases hb;exact h5
def iK {h:ae} {N size by_ len m:Nat} {v x:Vl} {cells news:List Vl} (o:cG h N size v len cells) (h0:h.n0<=N) (hN:N<=h.next) (hs:0<size) (hx:uq x=some m) (hf:firstA size m x h=some news)
  (h1:aM news=true) (h2:Abs.noHoles news=true) (hl:news.length=m*size) (hb:(len+m)*by_<=140737488355328) (hc:len+m<=4611686018427387904) :
  ∃ v' h',appendA size by_ v x h=some (v',h')/\cG h' N size v' (len+m) (cells++news)/\au h h' (fun c=>cF v=some c/\h.get c=some cells)/\(v'=v\/cF v'=some h.next):=by
 have o':=o;obtain ⟨o1,o2,o3,o4⟩:=o;have hcond : ∀ len':Nat,len'=len->(!(aM news) || !(decide ((len'+m)*by_<=140737488355328)) || !(decide (len'+m<=4611686018427387904))||decide (news.length≠m*size))=false:=by rintro _ rfl;rw [h1,DN hb,DN hc,DW (by omega)];rfl
 by_cases hm:m=0
 ·subst hm;have hn:news = []:=EC.1 (by omega);subst hn;have ho:cG h N size v (len+0) (cells ++ []):=by rw [GC];exact o'
  refine ⟨v,h,?_,ho,au.refl _ _,.inl rfl⟩;rcases o4 with ⟨rfl,rfl⟩|⟨b,s,rfl,h5,h6⟩
  ·unfold appendA;simp only [hx,hf];rw [DL (by rw [hcond 0 rfl];decide),DH (by omega),DH trivial]
  ·unfold appendA;simp only [hx,hf];rw [DL (by rw [hcond len rfl];decide),DH (by omega),DH trivial]
 ·have fresh : ∀ cs:List Vl,cs = []->len=0->cG (h.alloc news) N size (.slice (some ⟨h.next,0,some size⟩) (len+m) (len+m)) (len+m) (cs++news):=by rintro _ rfl rfl;exact ⟨by simpa using hl,by simpa using h2,by simpa using h1,.inr ⟨h.next,_,rfl,hN,.inr ⟨rfl,by rw [ae.aZ,DH rfl];rfl⟩⟩⟩
  rcases o4 with ⟨rfl,rfl⟩|⟨b,s,rfl,h5,⟨rfl,rfl⟩|⟨rfl,h6⟩⟩
  ·have hce:cells = []:=EC.1 (by simpa using o1);refine ⟨_,_,?_,fresh cells hce rfl,au.alloc _ _ _,.inr rfl⟩;unfold appendA;simp only [hx,hf];rw [DL (by rw [hcond 0 rfl];decide),DL (by omega),DH trivial]
  ·have hce:cells = []:=EC.1 (by simpa using o1);refine ⟨_,_,?_,fresh cells hce rfl,au.alloc _ _ _,.inr rfl⟩;unfold appendA;simp only [hx,hf];have f0:firstA size 0 (.slice (some ⟨b,0,none⟩) 0 0) h=some []:=by simp [firstA]
   rw [DL (by rw [hcond 0 rfl];decide),DL (by omega)];simp only [f0];rw [DL (by simp)];rfl
  ·have hf2:firstA size len (.slice (some ⟨b,0,some size⟩) len len) h=some cells:=by
    simp only [firstA];by_cases hz:len*size=0
    ·rw [DH hz];have:cells = []:=EC.1 (by omega);rw [this]
    ·rw [DL hz];simp only [h6];have e:(cells.drop 0).take (len*size)=cells:=by rw [FO,D3 (by omega)]
     simp only [e];rw [DH ⟨by omega,o2⟩]
   have hlt:=h.aL h6;have hk : ∀ c,c<h.next->c≠b->((h.kill b).alloc (cells++news)).getB c=h.getB c:=by intro c hc hne;rw [ae.dg,DL (by rw [ae.ri];omega)];exact getB_kill (by omega) hlt hne
   refine ⟨.slice (some ⟨h.next,0,some size⟩) (len+m) (len+m),(h.kill b).alloc (cells++news),?_,⟨by rw [DO,o1,hl,HG],lB _ _ o2 h2,ke _ _ o3 h1,.inr ⟨h.next,_,rfl,hN,.inr ⟨rfl,?_⟩⟩⟩,⟨rfl,by simp,fun c hc hB=>hk c hc (fun e=>hB (by rw [e];exact ⟨rfl,h6⟩))⟩,.inr rfl⟩
   ·unfold appendA;simp only [hx,hf];rw [DL (by rw [hcond len rfl];decide),DL (by omega)];simp only [hf2];rw [DL (by simp [o1]),DH (by simp [h6];omega)]
   ·rw [ae.aZ,DH (by rw [ae.ri])]
structure jo (h:ae) (N:Nat) (v:Vl) (l:List Nat):Prop where
 own:cG h N 1 v l.length (l.map u8)
 byte : ∀ x∈l,x<256
def jo.nil (h:ae) (N:Nat):jo h N (.slice none 0 0) []:=⟨.nil h N 1,by simp⟩
def jo.keep {h h':ae} {N:Nat} {v:Vl} {l:List Nat} (o:jo h N v l) {B:Nat->Prop} (k:au h h' B) (hB : ∀ b,cF v=some b -> ¬B b):jo h' N v l:=⟨o.own.keep k hB,o.byte⟩
def jo.bytes {h:ae} {N:Nat} {v:Vl} {l:List Nat} (o:jo h N v l) : ∃ a c,v = .slice a l.length c/\ao a l.length h=some l/\cw a l.length c=true/\(∀ y,a=some y->N<=y.block)/\(∀ y,a=some y->cF v=some y.block):=by
 obtain ⟨⟨o1,o2,o3,o4⟩,ob⟩:=o;rcases o4 with ⟨rfl,h4⟩|⟨b,s,rfl,h5,⟨rfl,h4⟩|⟨rfl,h6⟩⟩
 ·have:l = []:=EC.1 h4;subst this;exact ⟨none,0,rfl,rfl,rfl,fun y hy=>(by cases hy),fun y hy=>(by cases hy)⟩
 ·have:l = []:=EC.1 h4;subst this;exact ⟨_,_,rfl,rfl,rfl,fun y hy=>(by cases hy;exact h5),fun y hy=>(by cases hy;rfl)⟩
 ·refine ⟨_,_,rfl,?_,?_,fun y hy=>by cases hy;exact h5,fun y hy=>by cases hy;rfl⟩
  ·have:=eT (off:=0) (n:=l.length) (s:=some 1) h6 (by omega) ob;rw [this,FO,D3 (DG _)]
  ·unfold cw;rw [FM (DG _)];rfl
def qu {h:ae} {N n c:Nat} {v:Vl} {l m:List Nat} {a:Option Addr} (o:jo h N v l) (h0:h.n0<=N) (hN:N<=h.next) (hm:ao a n h=some m) (hb:l.length+n<=100000000) :
  ∃ v' h',appendA 1 1 v (.slice a n c) h=some (v',h')/\jo h' N v' (l++m)/\au h h' (fun c=>cF v=some c)/\(v'=v\/cF v'=some h.next):=by
 obtain ⟨hl,hbt,_⟩:=ay hm;have hf:=mR hm (DG n) (c:=c);rw [D3 (by omega)] at hf;obtain ⟨v',h',e1,e2,e3,e4⟩:=iK (by_:=1) o.own h0 hN (by decide) (show uq (.slice a n c)=some n from rfl) hf (xp _) (iL _) (by simp [hl]) (by omega) (by omega);refine ⟨v',h',e1,⟨?_,?_⟩,e3.mono (fun c _ hc=>hc.1),e4⟩
 ·rw [DO,GA,hl];exact e2
 ·intro x hx;rcases D8.1 hx with hx|hx
  ·exact o.byte x hx
  ·exact hbt x hx
structure Jn where
 turn:Int
 slot:Int
 area:Nat
 gen:Nat
 known:Nat
 ready:Bool
 fin:Nat
def Jn.cells (J:Jn) (d:Nat):eh := [ptr d 0,.int .i64 J.turn,.int .i64 J.slot,aj J.area,.int .u64 J.gen,.int .u64 J.known,.bool J.ready,aj J.fin]
structure cA (h:ae) (j d:Nat) (J:Jn):Prop where
 get:h.get j=some (J.cells d)
 n0:h.n0<=j
 area:J.area<=1
def cA.keep {h h':ae} {j d:Nat} {J:Jn} (x:cA h j d J) {B:Nat->Prop} (k:au h h' B) (hB : ¬B j):cA h' j d J:=⟨k.getE x.get hB,k.n0▸x.n0,x.area⟩
def cA.lt {h:ae} {j d:Nat} {J:Jn} (x:cA h j d J):j<h.next:=h.aL x.get
section
variable {h:ae} {j d:Nat} {J:Jn} (x:cA h j d J)
include x
def cA.l0:ld1 (ptr j 0) h=some (ptr d 0,h):=aH x.get rfl
def cA.l1:ld1 (ptr j 1) h=some (.int .i64 J.turn,h):=aH x.get rfl
def cA.l2:ld1 (ptr j 2) h=some (.int .i64 J.slot,h):=aH x.get rfl
def cA.l3:ld1 (ptr j 3) h=some (aj J.area,h):=aH x.get rfl
def cA.l4:ld1 (ptr j 4) h=some (.int .u64 J.gen,h):=aH x.get rfl
def cA.l5:ld1 (ptr j 5) h=some (.int .u64 J.known,h):=aH x.get rfl
def cA.l6:ld1 (ptr j 6) h=some (.bool J.ready,h):=aH x.get rfl
def cA.l7:ld1 (ptr j 7) h=some (aj J.fin,h):=aH x.get rfl
end
def Dk.jb (D:Dk) (area at_:Nat):List Nat:=D.blk (2+area*D.ar+at_)
def Dk.part (D:Dk) (area gen at_ parts i:Nat):Bool:=iN (at_+i) (D.jb area (at_+i))&&(cb (D.jb area (at_+i))==gen)&&(bZ (D.jb area (at_+i))==i)&&(bj (D.jb area (at_+i))==parts)
def Dk.parts (D:Dk) (area at_:Nat):Nat:=bj (D.jb area at_)
def Dk.stands (D:Dk) (area gen at_:Nat):Bool:=decide (at_+D.parts area at_<=D.ar)&&decide (1<=D.parts area at_)&&(List.range (D.parts area at_)).all (D.part area gen at_ (D.parts area at_))
def Dk.data (D:Dk) (area at_ n:Nat):List Nat:=(List.range n).flatMap fun i=>gU (D.jb area (at_+i))
def Dk.data_succ (D:Dk) (area at_ n:Nat):D.data area at_ (n+1)=D.data area at_ n++gU (D.jb area (at_+n)):=by unfold Dk.data;rw [H2,GR];simp
def Dk.data_length (D:Dk) (area at_:Nat) : ∀ n,(D.data area at_ n).length<=106*n
 | 0=>by simp [Dk.data]
 |n+1=>by
  rw [D.data_succ,DO];have:=D.data_length area at_ n;have h2:(gU (D.jb area (at_+n))).length<=106:=by
   unfold gU;split
   ·rw [E8];omega
   ·simp
  omega
def Dk.not_stands {D:Dk} {area gen at_ i:Nat} (hi:i<D.parts area at_) (hp:D.part area gen at_ (D.parts area at_) i=false):D.stands area gen at_=false:=by
 unfold Dk.stands;have:(List.range (D.parts area at_)).all (D.part area gen at_ (D.parts area at_))=false:=by rw [List.all_eq_false];exact ⟨i,IM.2 hi,by rw [hp];simp⟩
 rw [this,HR]
def is109:bE prog 109 f109 := .of (by kernel_rfl)
def bin58n (a b:Nat):aA prog .neq 52 (.int .u64 (a:Int)) (.int .u64 (b:Int))=some (.bool (!(a==b))):=by rw [dj];show some (Value.bool (!((a:Int)==(b:Int))))=_;rw [oj]
def bin3n (a b:Nat):aA prog .neq 3 (aj a) (aj b)=some (.bool (!(a==b))):=by unfold aj;rw [dj];show some (Value.bool (!((a:Int)==(b:Int))))=_;rw [oj]
def int_lt (a b:Nat):decide ((a:Int)<(b:Int))=decide (a<b):=GH.2 (by omega)
def recFin (D:Dk) (J:Jn) (h0:ae) (at_:Nat) (ex:Ex) (y:Nat->Vl) (g:ae):Prop:=
 aK h0 g/\((ex = .ret/\y 4 = .slice none 0 0/\y 5 = .int .i64 0/\D.stands J.area J.gen at_=false) \/
  (ex = .exit 0/\D.stands J.area J.gen at_=true/\y 8=aj (D.parts J.area at_)/\jo g h0.next (y 7) (D.data J.area at_ (D.parts J.area at_))))
def recInv (D:Dk) (J:Jn) (h0:ae) (j at_:Nat) (k:Nat) (y:Nat->Vl) (g:ae):Prop:=
 ∃ i P,y 0=ptr j 0/\y 1=aj at_/\y 6=aj D.ar/\y 9=aj i/\y 8=aj P/\i<=P/\i+k=70000/\jo g h0.next (y 7) (D.data J.area at_ i)/\aK h0 g/\P<=65535 /\
   ((i=0/\P=1)\/(0<i/\P=D.parts J.area at_/\at_+i<=D.ar /\ ∀ q,q<i->D.part J.area J.gen at_ P q=true))
def gS (a b:Nat):aA prog .lss 3 (aj a) (aj b)=some (.bool (decide (a<b))):=by unfold aj;rw [cx,int_lt]
def geq3 (a b:Nat):aA prog .geq 3 (aj a) (aj b)=some (.bool (decide (b<=a))):=by unfold aj;rw [eO];exact FP (fun q=>some (Value.bool q)) (GH.2 (by omega))
def gtr3 (a b:Nat):aA prog .gtr 3 (aj a) (aj b)=some (.bool (decide (b<a))):=by unfold aj;rw [dD];exact FP (fun q=>some (Value.bool q)) (GH.2 (by omega))
def eql3 (a b:Nat):aA prog .eql 3 (aj a) (aj b)=some (.bool (a==b)):=by unfold aj;rw [eQ,oj]
def sn {a b:Nat} (h:a+b<=9223372036854775807):aA prog .add 3 (aj a) (aj b)=some (aj (a+b)):=by unfold aj;rw [eR,bf (by omega) (by omega),Int.natCast_add]
def sub3 {a b:Nat} (h:b<=a) (h2:a<=9223372036854775807):aA prog .sub 3 (aj a) (aj b)=some (aj (a-b)):=by unfold aj;rw [gR,bf (by omega) (by omega)];exact FP (fun q=>some (Value.int .i64 q)) (by omega)
def mul3 {a b:Nat} (h:a*b<=9223372036854775807):aA prog .mul 3 (aj a) (aj b)=some (aj (a*b)):=by unfold aj;rw [jM,<-Int.natCast_mul,bf (by omega) (by omega)]
def eql3z (a:Nat):aA prog .eql 3 (aj a) (.int .i64 0)=some (.bool (a==0)):=eql3 a 0
def eW {a:Nat} (h:a+1<=9223372036854775807):aA prog .add 3 (aj a) (.int .i64 1)=some (aj (a+1)):=sn h
def Dk.pF {D:Dk} {area gen at_ i:Nat} (hi:i<D.parts area at_\/D.parts area at_=0) (hp:D.part area gen at_ (D.parts area at_) i=false):D.stands area gen at_=false:=by
 rcases hi with hi|hi
 ·exact Dk.not_stands hi hp
 ·unfold Dk.stands;rw [hi];simp
def logParts_lt {h:ae} {d:Nat} {D:Dk} (x:bC h d D) (area at_:Nat):bj (D.jb area at_)<65536:=by have hb : ∀ y∈((D.jb area at_).drop 18).take 2,y<256:=fun y hy=>Dk.yW x _ y (EO (D6 hy));have hl:(((D.jb area at_).drop 18).take 2).length<=2:=IG ..;have:=qe _ _ rfl hb;have h2:=H8 (n:=256) (by decide) hl;unfold bj;omega
def rec_round {h0:ae} {d j at_:Nat} {D:Dk} {J:Jn} (x:bC h0 d D) (xj:cA h0 j d J) (h2:2<=D.n) (hat:at_<D.ar) :
  ∀ k y g,recInv D J h0 j at_ k y g->dE 89 (recInv D J h0 j at_) (recFin D J h0 at_) k (fS CD y g):=by
 rintro k y g ⟨i,P,i0,i1,i6,i9,i8,hiP,hk,ho,hold,hP,hcase⟩;have hsm:=x.small;have har:D.ar=(D.n-2)/2:=rfl;have xg:=aK.dk hold x;have jg:=xj.keep hold (fun h=>h);unfold fS;simp -implicitDefEqProofs only [i8,i9,gS,ak,af];by_cases hlt:i<P
 ·simp -implicitDefEqProofs only [DN hlt,i1,i6,i0,sn (show at_+i<=9223372036854775807 by omega),ak,af,geq3];by_cases hge:D.ar<=at_+i
  ·simp -implicitDefEqProofs only [DN hge,af];refine dE.ret ⟨hold,.inl ⟨rfl,rfl,rfl,?_⟩⟩;rcases hcase with ⟨rfl,_⟩|⟨_,rfl,_,_⟩
   ·omega
   ·unfold Dk.stands;rw [DW (show ¬at_+D.parts J.area at_<=D.ar by omega)];rfl
  ·obtain ⟨a,n,c,g1,e1,e2,e3,e4,e5⟩:=r108 xg h2 jg.area (show at_+i<D.ar by omega);have hjb:D.blk (2+J.area*D.ar+(at_+i))=D.jb J.area (at_+i):=rfl;rw [hjb] at e1 e2;have hpl:=logParts_lt x J.area (at_+i);have g2p:(g1.alloc ic).get g1.next=some ic:=by rw [ae.aZ,DH rfl]
   have n02:(g1.alloc ic).n0<=g1.next:=g1.n0_le_next;generalize hcs:logC (cb (D.jb J.area (at_+i))) (bZ (D.jb J.area (at_+i))) (bj (D.jb J.area (at_+i))) (.slice a n c)=cs at e1;have hst:bI 4 (ptr g1.next 0) (.agg cs.toArray) (g1.alloc ic)=some (undef,(g1.alloc ic).set g1.next cs):=by subst hcs;exact mT g2p n02 rfl rfl rfl
   obtain ⟨k3,g3p⟩:=gv (k':=cs) g2p n02;have k2:aK g1 (g1.alloc ic):=au.alloc g1 ic _;have k13:aK g ((g1.alloc ic).set g1.next cs):=(e4.trans k2).also k3 (fun c h1 h2=>by have:=e4.next;omega);have sB:=k3.uJ (fun c hc=>by subst hc;exact sq g2p) (aK.bytes k2 e2);have hlogz:g1.alloc [(.int .u64 0),(.int .i64 0),(.int .i64 0),(.slice none 0 0)]=g1.alloc ic:=rfl;generalize hg3:(g1.alloc ic).set g1.next cs=g3 at *;have l0:ld1 (ptr g1.next 0) g3=some (.int .u64 (cb (D.jb J.area (at_+i))),g3):=by subst hcs;exact aH g3p rfl
   have l1:ld1 (ptr g1.next 1) g3=some (aj (bZ (D.jb J.area (at_+i))),g3):=by subst hcs;exact aH g3p rfl
   have l2:ld1 (ptr g1.next 2) g3=some (aj (bj (D.jb J.area (at_+i))),g3):=by subst hcs;exact aH g3p rfl
   have l3:ld1 (ptr g1.next 3) g3=some (.slice a n c,g3):=by subst hcs;exact aH g3p rfl
   have hold3:aK h0 g3:=hold.trans k13;have jg3:=xj.keep hold3 (fun h=>h);have ho3:=ho.keep k13 (fun _ _ h=>h);have hlen:=D.data_length J.area at_ i;have hn:n<=106:=by
    obtain ⟨h1,_,_⟩:=ay sB;have h2:(gU (D.jb J.area (at_+i))).length<=106:=by
     unfold gU;split
     ·rw [E8];omega
     ·simp
    omega
   obtain ⟨v',g4,f1,f2,f3,f4⟩:=qu (c:=c) ho3 (by rw [hold3.n0];exact h0.n0_le_next) hold3.next sB (by omega);rw [<-D.data_succ] at f2;have hold4:aK h0 g4:=hold3.also f3 (fun c hc hb=>by
    obtain ⟨a1,c1,e6,_,_,e7,e8⟩:=ho3.bytes;rw [e6] at hb;cases a1 with
    |none=>cases hb
    |some y1=>
     have:=e7 y1 rfl;have hb:some y1.block=some c:=hb;cases hb;omega)
   have hx0 : ∀ a b:Vl,extractA (.tuple #[a,b]) 0=some a:=fun _ _=>rfl;have hx1 : ∀ a b:Vl,extractA (.tuple #[a,b]) 1=some b:=fun _ _=>rfl;simp -implicitDefEqProofs only [DW hge,av,ak,af,aw,DC,jg.l0,jg.l3,e1,hx0,hx1,cO,Abs.newRow,hlogz,hst,eql3z];by_cases hi0:i=0
   ·have hP':D.parts J.area at_=bj (D.jb J.area (at_+i)):=by rw [hi0];rfl
    have hfl:i<D.parts J.area at_\/D.parts J.area at_=0:=by omega
    have hfail:D.part J.area J.gen at_ (bj (D.jb J.area (at_+i))) i=false->D.stands J.area J.gen at_=false:=fun hf=>Dk.pF hfl (by rw [hP'];exact hf);have hbeq:(i==0)=true:=by simp [hi0]
    have hpp:(bj (D.jb J.area (at_+i))==bj (D.jb J.area (at_+i)))=true:=DP _;unfold Dk.part at hfail;rw [hpp,EJ] at hfail;simp -implicitDefEqProofs only [hbeq,l2,ak,af,dt,aR];cases hc1:iN (at_+i) (D.jb J.area (at_+i)) with
    |false=>
     simp -implicitDefEqProofs only [EG,sf,aX,af,DV,aR];exact dE.ret ⟨hold3,.inl ⟨rfl,rfl,rfl,hfail (by rw [hc1];rfl)⟩⟩
    |true=>
     simp -implicitDefEqProofs only [EK,DP,aD,af,ak,aw,DC,l0,jg3.l4,bin58n,av,DB,DS,aR];cases hc2:(cb (D.jb J.area (at_+i))==J.gen) with
     |false=>
      simp -implicitDefEqProofs only [EG,sf,aX,af,DV,aR];exact dE.ret ⟨hold3,.inl ⟨rfl,rfl,rfl,hfail (by rw [hc1,hc2];rfl)⟩⟩
     |true=>
      simp -implicitDefEqProofs only [EK,DP,aD,af,ak,aw,DC,l1,bin3n,DB,DS,aR];cases hc3:(bZ (D.jb J.area (at_+i))==i) with
      |false=>
       simp -implicitDefEqProofs only [EG,sf,aX,af,DV,aR];exact dE.ret ⟨hold3,.inl ⟨rfl,rfl,rfl,hfail (by rw [hc1,hc2,hc3];rfl)⟩⟩
      |true=>
       simp -implicitDefEqProofs only [EK,DP,aD,af,ak,l2,bin3n,DB,DS,l3,f1,eW (show i+1<=9223372036854775807 by omega)];have h1p:1<=bj (D.jb J.area (at_+i)):=by unfold iN at hc1;simp only [DD,DR] at hc1;exact hc1.1.1.2
       refine dE.next (k-1) (by omega) ⟨i+1,bj (D.jb J.area (at_+i)),i0,i1,i6,rfl,rfl,by omega,by omega,f2,hold4,by omega,.inr ⟨by omega,hP'.symm,by omega,?_⟩⟩;intro q hq;have:q=i:=by omega
       subst this;unfold Dk.part;rw [hc1,hc2,hc3,hpp];rfl
   ·rcases hcase with ⟨h,_⟩|⟨hi1,hPe,hati,hall⟩
    ·exact absurd h hi0
    have hfail:D.part J.area J.gen at_ P i=false->D.stands J.area J.gen at_=false:=fun hf=>Dk.pF (i:=i) (.inl (by omega)) (by rw [<-hPe];exact hf);have hbeq:(i==0)=false:=by simp [hi0]
    unfold Dk.part at hfail;simp -implicitDefEqProofs only [hbeq,ak,af,dt,aR];cases hc1:iN (at_+i) (D.jb J.area (at_+i)) with
    |false=>
     simp -implicitDefEqProofs only [EG,sf,aX,af,DV,aR];exact dE.ret ⟨hold3,.inl ⟨rfl,rfl,rfl,hfail (by rw [hc1];rfl)⟩⟩
    |true=>
     simp -implicitDefEqProofs only [EK,DP,aD,af,ak,aw,DC,l0,jg3.l4,bin58n,av,DB,DS,aR];cases hc2:(cb (D.jb J.area (at_+i))==J.gen) with
     |false=>
      simp -implicitDefEqProofs only [EG,sf,aX,af,DV,aR];exact dE.ret ⟨hold3,.inl ⟨rfl,rfl,rfl,hfail (by rw [hc1,hc2];rfl)⟩⟩
     |true=>
      simp -implicitDefEqProofs only [EK,DP,aD,af,ak,aw,DC,l1,bin3n,DB,DS,aR];cases hc3:(bZ (D.jb J.area (at_+i))==i) with
      |false=>
       simp -implicitDefEqProofs only [EG,sf,aX,af,DV,aR];exact dE.ret ⟨hold3,.inl ⟨rfl,rfl,rfl,hfail (by rw [hc1,hc2,hc3];rfl)⟩⟩
      |true=>
       simp -implicitDefEqProofs only [EK,DP,aD,af,ak,l2,bin3n,DB,DS];cases hc4:(bj (D.jb J.area (at_+i))==P) with
       |false=>
        simp -implicitDefEqProofs only [EG];exact dE.ret ⟨hold3,.inl ⟨rfl,rfl,rfl,hfail (by rw [hc1,hc2,hc3,hc4];rfl)⟩⟩
       |true=>
        simp -implicitDefEqProofs only [EK,aw,DC,ak,af,l3,f1,eW (show i+1<=9223372036854775807 by omega)];refine dE.next (k-1) (by omega) ⟨i+1,P,i0,i1,i6,rfl,i8,by omega,by omega,f2,hold4,hP,.inr ⟨by omega,hPe,by omega,?_⟩⟩;intro q hq;by_cases hqi:q=i
        ·subst hqi;unfold Dk.part;rw [hc1,hc2,hc3,hc4];rfl
        ·exact hall q (by omega)
 ·simp -implicitDefEqProofs only [DW hlt];have hii:i=P:=by omega
  rcases hcase with ⟨h,h'⟩|⟨hi1,hPe,hati,hall⟩
  ·omega
  ·refine dE.out 0 ⟨hold,.inr ⟨rfl,?_,?_,?_⟩⟩
   ·unfold Dk.stands;rw [<-hPe,DN (show at_+P<=D.ar by omega),DN (show 1<=P by omega)];simp only [EU,DQ,IM];exact fun q hq=>hall q (by omega)
   ·show y 8=_;rw [i8,hPe]
   ·show jo g h0.next (y 7) _;rw [<-hPe,<-hii];exact ho
def rec_loop {h0:ae} {d j at_:Nat} {D:Dk} {J:Jn} (x:bC h0 d D) (xj:cA h0 j d J) (h2:2<=D.n) (hat:at_<D.ar) {y:Nat->Vl} (i0:y 0=ptr j 0) (i1:y 1=aj at_) (i6:y 6=aj D.ar) (i9:y 9=aj 0) (i8:y 8=aj 1) (i7:y 7 = .slice none 0 0) :
  Fin 89 (recFin D J h0 at_) (iter (codeA prog CD (aq f109 [1,1,1,1,1,0,1,0,0])) az (aS 89 y) h0):=
 bL (oW CD) (rec_round x xj h2 hat) 70000 (by have:az=18446744073709551616:=rfl;omega)
  ⟨0,1,i0,i1,i6,i9,i8,by omega,rfl,by rw [i7];exact .nil _ _,au.refl _ _,by omega,.inl ⟨rfl,rfl⟩⟩
def zb {h:ae} {d j:Nat} {D:Dk} {J:Jn} (x:bC h d D) (xj:cA h j d J) (h2:2<=D.n) (at_:Int) (hout:J.slot<0\/at_<0\/(D.ar:Int)<=at_) :
  CD 109 [ptr j 0,.int .i64 at_] h=some (.tuple #[.slice none 0 0,.int .i64 0],h):=by
 refine aI is109 rfl ((t109_eq _ _ _ _).trans ?_);unfold t109;simp -implicitDefEqProofs only [af,av,ak,aw,DC,xj.l0,vO x h2,xj.l2,cx,aR];by_cases c1:J.slot<0
 ·simp -implicitDefEqProofs only [c1,GQ,sf,aX,af,DV,aR]
 ·simp -implicitDefEqProofs only [c1,FA,DP,aD,af,ak,cx,DB,DS,aR];by_cases c2:at_<0
  ·simp -implicitDefEqProofs only [c2,GQ,sf,aX,af,DV]
  ·have c3:at_>=(D.ar:Int):=by omega
   simp -implicitDefEqProofs only [c2,FA,DP,aD,af,ak,aj,eO,c3,GQ,DB,DS]
def xq {h:ae} {d j:Nat} {D:Dk} {J:Jn} (x:bC h d D) (xj:cA h j d J) (h2:2<=D.n) {at_:Nat} (hs:0<=J.slot) (hat:at_<D.ar) :
  (D.stands J.area J.gen at_=false /\ ∃ h',CD 109 [ptr j 0,aj at_] h=some (.tuple #[.slice none 0 0,.int .i64 0],h')/\aK h h') \/
  (D.stands J.area J.gen at_=true /\ ∃ v h',CD 109 [ptr j 0,aj at_] h=some (.tuple #[v,aj (D.parts J.area at_)],h')/\aK h h'/\jo h' h.next v (D.data J.area at_ (D.parts J.area at_))):=by
 have c1 : ¬J.slot<0:=by omega
 have c2 : ¬((at_:Int)<0):=by omega
 have c3 : ¬((at_:Int)>=(D.ar:Int)):=by omega
 have key : ∀ (o:aY),aV prog CD f109 [ptr j 0,aj at_] h=o->(D.stands J.area J.gen at_=false /\ ∃ h',o=some (.tuple #[.slice none 0 0,.int .i64 0],h')/\aK h h') \/
  (D.stands J.area J.gen at_=true /\ ∃ v h',o=some (.tuple #[v,aj (D.parts J.area at_)],h')/\aK h h'/\jo h' h.next v (D.data J.area at_ (D.parts J.area at_))):=by
  intro o ho;subst ho;rw [t109_eq];unfold t109;simp -implicitDefEqProofs only [af,av,ak,aw,DC,xj.l0,vO x h2,xj.l2,cx,aR,c1,c2,c3,FA,DP,aD,aj,eO,DB,DS];refine cH (Q:=fun (o:aY)=>(D.stands J.area J.gen at_=false /\ ∃ h',o=some (.tuple #[.slice none 0 0,.int .i64 0],h')/\aK h h') \/
   (D.stands J.area J.gen at_=true /\ ∃ v h',o=some (.tuple #[v,aj (D.parts J.area at_)],h')/\aK h h'/\jo h' h.next v (D.data J.area at_ (D.parts J.area at_)))) (rec_loop x xj h2 hat rfl rfl rfl rfl rfl rfl) ?_
  rintro ex y g ⟨hold,⟨rfl,y4,y5,hst⟩|⟨rfl,hst,y8,hown⟩⟩
  ·refine .inl ⟨hst,g,?_,hold⟩;have hr:f109.results.toList = [.tmp 4,.tmp 5]:=by kernel_rfl
   have h4:(aS 89 y).getD 4 undef=y 4:=rfl;have h5:(aS 89 y).getD 5 undef=y 5:=rfl;show resultsA prog f109.results.toList (aS 89 y) g=_;rw [hr];simp only [resultsA,FJ,List.mapM_nil,dy,h4,h5,y4,y5];rfl
  ·refine .inr ⟨hst,y 7,g,?_,hold,hown⟩;simp -implicitDefEqProofs only [bh,b109_9,DV,zH];unfold rW;simp -implicitDefEqProofs only [y8,af]
 rcases key _ rfl with ⟨h3,h',h4,h5⟩|⟨h3,v,h',h4,h5,h6⟩
 ·exact .inl ⟨h3,h',aI is109 rfl h4,h5⟩
 ·exact .inr ⟨h3,v,h',aI is109 rfl h4,h5,h6⟩
def Jn.live (J:Jn) (D:Dk):Bool := !D.down&&(D.turn==J.turn)
def eql119 (b o:Nat):aA prog .eql 119 (ptr b o) (.pointer none)=some (.bool false):=by kernel_rfl
def r132 {h:ae} {d j:Nat} {D:Dk} {J:Jn} (x:bC h d D) (xj:cA h j d J):CD 132 [ptr j 0] h=some (.int .i64 (if J.live D then 0 else 9),h):=by
 refine aI is132 rfl ((t132_eq _ _ _).trans ?_);unfold t132 Jn.live;simp -implicitDefEqProofs only [af,eql119,ak,av,aw,DC,xj.l0,x.l1,aR];cases D.down with
 |true=>rfl
 |false=>
  have hne:aA prog .neq 3 (.int .i64 D.turn) (.int .i64 J.turn)=some (.bool (D.turn != J.turn)):=dj ..;simp -implicitDefEqProofs only [DP,aD,af,ak,av,aw,DC,xj.l0,x.l5,xj.l1,hne,DB,DS,EG,EU,bne];cases (D.turn==J.turn)<;>rfl
def is128:bE prog 128 f128 := .of (by kernel_rfl)
def r115 {h:ae} {d j:Nat} {D:Dk} {J:Jn} (x:bC h d D) (xj:cA h j d J) (h2:2<=D.n):CD 115 [ptr j 0] h=some (aj (if J.live D then D.ar else 0),h):=by
 refine aI is115 rfl ((t115_eq _ _ _).trans ?_);unfold t115;simp -implicitDefEqProofs only [af,r132 x xj,ak,c7];cases J.live D with
 |true=>simp -implicitDefEqProofs only [DV,ED,af,av,ak,aw,DC,xj.l0,vO x h2]
 |false=>rfl
def Jn.free (J:Jn) (D:Dk):Nat:=if J.live D&&J.ready then D.ar-J.fin else 0
def dq {o:aY} {v:Vl} {q:ae} (h:o=some (v,q)) (hv:veq v v=true):dW true o v=true:=by unfold dW Abs.same;rw [h];simpa using hv
def r79 {h:ae} {d j:Nat} {D:Dk} {J:Jn} (x:bC h d D) (xj:cA h j d J) (h2:2<=D.n) (hf:J.ready=true->J.fin<=D.ar):CD 79 [ptr j 0] h=some (aj (J.free D),h):=by
 refine aI is79 rfl ((t79_eq _ _ _).trans ?_);have hsm:=x.small;have har:D.ar=(D.n-2)/2:=rfl;unfold t79 Jn.free;simp -implicitDefEqProofs only [af,r132 x xj,ak,c7,aR];cases J.live D with
 |false=>rfl
 |true=>
  simp -implicitDefEqProofs only [DV,ED,DP,aD,af,av,ak,aw,DC,xj.l6,dt,DB,DS,EU];cases hr:J.ready with
  |false=>rfl
  |true=>
   simp -implicitDefEqProofs only [EK,af,av,ak,aw,DC,xj.l0,vO x h2,xj.l7,sub3 (hf hr) (show D.ar<=9223372036854775807 by omega),dq (rfl:some (aj J.fin,h)=some (aj J.fin,h)) (show veq (aj J.fin) (aj J.fin)=true by simp [aj,veq]),EJ,DV]
def Jn.stands (J:Jn) (D:Dk) (at_:Int):Bool:=decide (0<=J.slot)&&decide (0<=at_)&&decide (at_<(D.ar:Int))&&D.stands J.area J.gen at_.toNat
def Dk.r8 {D:Dk} {area gen at_:Nat} (h:D.stands area gen at_=true):1<=D.parts area at_/\at_+D.parts area at_<=D.ar:=by unfold Dk.stands at h;simp only [DD,DR] at h;exact ⟨h.1.2,h.1.1⟩
def r128_dead {h:ae} {d j:Nat} {D:Dk} {J:Jn} (x:bC h d D) (xj:cA h j d J) (at_:Vl) (hl:J.live D=false):CD 128 [ptr j 0,at_] h=some (.tuple #[.slice none 0 0,.int .i64 9],h):=by refine aI is128 rfl ((BK _ _ _ _).trans ?_);unfold t128;simp -implicitDefEqProofs only [af,r132 x xj,hl,DB,DS,ak,c7,show ((9:Int) != 0)=true from rfl]
def r128_no {h:ae} {d j:Nat} {D:Dk} {J:Jn} (x:bC h d D) (xj:cA h j d J) (h2:2<=D.n) (at_:Int) (hl:J.live D=true) (hs:J.stands D at_=false) :
  ∃ h',CD 128 [ptr j 0,.int .i64 at_] h=some (.tuple #[.slice none 0 0,.int .i64 6],h')/\aK h h':=by
 have key : ∃ h',CD 109 [ptr j 0,.int .i64 at_] h=some (.tuple #[.slice none 0 0,.int .i64 0],h')/\aK h h':=by
  by_cases hout:J.slot<0\/at_<0\/(D.ar:Int)<=at_
  ·exact ⟨h,zb x xj h2 at_ hout,au.refl _ _⟩
  ·obtain ⟨m,rfl⟩ : ∃ m:Nat,at_=m:=⟨at_.toNat,by omega⟩
   rcases xq x xj h2 (at_:=m) (by omega) (by omega) with ⟨_,h',h3,h4⟩|⟨h3,_⟩
   ·exact ⟨h',h3,h4⟩
   ·unfold Jn.stands at hs;rw [Int.toNat_natCast,h3,DN (show 0<=J.slot by omega),DN (show (0:Int)<=(m:Int) by omega),DN (show (m:Int)<(D.ar:Int) by omega)] at hs;cases hs
 obtain ⟨h',h3,h4⟩:=key;refine ⟨h',aI is128 rfl ((BK _ _ _ _).trans ?_),h4⟩;have hx0 : ∀ a b:Vl,extractA (.tuple #[a,b]) 0=some a:=fun _ _=>rfl;have hx1 : ∀ a b:Vl,extractA (.tuple #[a,b]) 1=some b:=fun _ _=>rfl;have hz:aA prog .eql 3 (.int .i64 0) (.int .i64 0)=some (.bool true):=eql3z 0;unfold t128;simp -implicitDefEqProofs only [af,r132 x xj,hl,DV,ak,c7,ED,h3,hx0,hx1,hz]
def r128_yes {h:ae} {d j:Nat} {D:Dk} {J:Jn} (x:bC h d D) (xj:cA h j d J) (h2:2<=D.n) {at_:Nat} (hl:J.live D=true) (hs:J.stands D at_=true) :
  ∃ v h',CD 128 [ptr j 0,aj at_] h=some (.tuple #[v,.int .i64 0],h')/\aK h h'/\jo h' h.next v (D.data J.area at_ (D.parts J.area at_)):=by
 unfold Jn.stands at hs;simp only [DD,DR,Int.toNat_natCast] at hs;rcases xq x xj h2 (at_:=at_) (by omega) (by omega) with ⟨h3,_⟩|⟨_,v,h',h3,h4,h5⟩
 ·rw [h3] at hs;cases hs.2
 ·refine ⟨v,h',aI is128 rfl ((BK _ _ _ _).trans ?_),h4,h5⟩;have hx0 : ∀ a b:Vl,extractA (.tuple #[a,b]) 0=some a:=fun _ _=>rfl;have hx1 : ∀ a b:Vl,extractA (.tuple #[a,b]) 1=some b:=fun _ _=>rfl;have hp:=(Dk.r8 hs.2).1;have hz:(D.parts J.area at_==0)=false:=by rw [GS];omega
  unfold t128;simp -implicitDefEqProofs only [af,r132 x xj,hl,DV,ak,c7,ED,h3,hx0,hx1,eql3z,hz]
structure sY (h:ae) (N w lim:Nat) (l:List Nat):Prop where
 ex : ∃ v,h.get w=some [aj lim,.bool false,v]/\jo h N v l/\cF v≠some w
 n0:h.n0<=N
 Nw:N<=w
 small:lim<=100000
abbrev uG (N:Nat) (h h':ae):Prop:=au h h' (fun c=>N<=c)
def sY.lt {h:ae} {N w lim:Nat} {l:List Nat} (W:sY h N w lim l):w<h.next:=by obtain ⟨v,h1,_⟩:=W.ex;exact h.aL h1
def jo.nat8 {h:ae} {N:Nat} {v:Vl} {l:List Nat} (o:jo h N v l):nat8 v=none:=by obtain ⟨a,c,rfl,_⟩:=o.bytes;rfl
def jo.cell {h:ae} {N:Nat} {v:Vl} {l:List Nat} (o:jo h N v l):v.cells = #[v]/\v.oneCell'=true/\bW v=false:=by obtain ⟨a,c,rfl,_⟩:=o.bytes;exact ⟨rfl,rfl,rfl⟩
def tY {h:ae} {N w lim:Nat} {l m:List Nat} {a:Option Addr} {n c:Nat} (W:sY h N w lim l) (hm:ao a n h=some m) (hb:l.length+n<=100000) :
  ∃ v v' g g',ld1 (ptr w 2) h=some (v,h)/\appendA 1 1 v (.slice a n c) h=some (v',g)/\bI 1 (ptr w 2) v' g=some (undef,g')/\sY g' N w lim (l++m)/\uG N h g':=by
 obtain ⟨v,h1,h2,h3⟩:=W.ex;have hlt:=W.lt;have hNw:=W.Nw;obtain ⟨v',g,e1,e2,e3,e4⟩:=qu (c:=c) h2 W.n0 (by omega) hm (by omega);have hg:=e3.getE h1 h3;obtain ⟨c1,c2,c3⟩:=e2.cell;have n0g:g.n0<=w:=by rw [e3.n0];have:=W.n0;omega
 have hst:bI 1 (ptr w 2) v' g=some (undef,g.set w [aj lim,.bool false,v']):=dO hg (by simp) n0g c1 c2;obtain ⟨k2,k3⟩:=gv (k' := [aj lim,.bool false,v']) hg n0g;have hv':cF v'≠some w:=by
  rcases e4 with rfl|e4
  ·exact h3
  ·rw [e4];intro he;cases he;omega
 refine ⟨v,v',g,_,aH h1 rfl (h2.cell.2.2),e1,hst,⟨⟨v',k3,e2.keep k2 (fun b hb hc=>by subst hc;exact hv' hb),hv'⟩,?_,hNw,W.small⟩,?_⟩
 ·rw [k2.n0,e3.n0];exact W.n0
 ·refine (e3.mono (B':=fun c=>N<=c) ?_).trans (k2.mono (fun c _ hc=>by rw [hc];exact hNw));intro b _ hb;obtain ⟨a1,c4,rfl,_,_,h7,h8⟩:=h2.bytes;cases a1 with
  |none=>cases hb
  |some y=>
   have hb:some y.block=some b:=hb;cases hb;exact h7 y rfl
def r116 (h:ae) {lim:Nat} (hl:lim<=100000) : ∃ h',CD 116 [aj lim] h=some (ptr h.next 0,h')/\sY h' h.next h.next lim []/\uG h.next h h':=by
 have hmx:minmax true (.int .i64 0) [aj lim]=some (aj lim):=by
  simp only [minmax,aj,DV];by_cases h0:(lim:Int)>0
  ·rw [DH (by simpa using h0)]
  ·have:lim=0:=by omega
   subst this;rfl
 have hb:cN [(.int .i64 0),(.bool false),(.slice none 0 0)] [(0,1,aj lim)]=some (.agg [aj lim,.bool false,.slice none 0 0].toArray):=rfl;refine ⟨h.alloc [aj lim,.bool false,.slice none 0 0],aI is116 rfl ((t116_eq _ _ _).trans ?_),⟨⟨.slice none 0 0,by rw [ae.aZ,DH rfl],.nil _ _,by intro h;cases h⟩,h.n0_le_next,DG _,hl⟩,au.alloc _ _ _⟩;unfold t116;simp -implicitDefEqProofs only [af,hmx,ak,hb,lC h [aj lim,.bool false,.slice none 0 0] rfl]
def eql218 (b o:Nat):aA prog .eql 218 (ptr b o) (.pointer none)=some (.bool false):=by kernel_rfl
def r181 {h:ae} {N w lim:Nat} {l:List Nat} (W:sY h N w lim l) {n:Nat} (hn:l.length+n<=lim) : ∃ h',CD 181 [ptr w 0,aj n] h=some (.bool true,h')/\sY h' N w lim l/\au h h' (fun c=>c=w):=by
 obtain ⟨v,h1,h2,h3⟩:=W.ex;obtain ⟨a,c,hv,h4,h5,h6,h7⟩:=h2.bytes;have hNw:=W.Nw;have n0w:h.n0<=w:=by have:=W.n0;omega
 have l0:ld1 (ptr w 0) h=some (aj lim,h):=aH h1 rfl;have l1:ld1 (ptr w 1) h=some (.bool false,h):=aH h1 rfl;have l2:ld1 (ptr w 2) h=some (.slice a l.length c,h):=by rw [<-hv];exact aH h1 rfl (h2.cell.2.2)
 have hst:bI 1 (ptr w 1) (.bool false) h=some (undef,h.set w [aj lim,.bool false,v]):=dO h1 (by simp) n0w rfl rfl;obtain ⟨k2,k3⟩:=gv (k' := [aj lim,.bool false,v]) h1 n0w;have hsm:=W.small;have hd:(decide (lim-l.length<n))=false:=DW (by omega);refine ⟨_,aI is181 rfl ((t181_eq _ _ _ _).trans ?_),⟨⟨v,k3,h2.keep k2 (fun b hb hc=>by subst hc;exact h3 hb),h3⟩,k2.n0▸W.n0,hNw,hsm⟩,k2⟩;have l1':ld1 (ptr w 1) (h.set w [aj lim,.bool false,v])=some (.bool false,h.set w [aj lim,.bool false,v]):=aH k3 rfl;unfold t181;simp -implicitDefEqProofs only [af,eql218,ak,aR,DP,aD,av,aw,DC,l1,DB,DS,l0,l2,cM];rw [show (Value.int .i64 (l.length:Int))=aj l.length from rfl];simp -implicitDefEqProofs only [sub3 (show l.length<=lim by omega) (show lim<=9223372036854775807 by omega),ak,af,gtr3,hd,hst,av,aw,DC,l1',dt,EG]
def ej:Nat->Nat->List Nat
 | 0,_ => []
 |n+1,v=>(v/256^n%256)::ej n v
def aQ : ∀ n v,(ej n v).length=n
 | 0,_=>rfl
 |n+1,v=>by rw [ej,List.length_cons,aQ]
def dz : ∀ n v,∀ x∈ej n v,x<256
 |n+1,v,x,h=>by
  rw [ej] at h;rcases ER.1 h with rfl|h
  ·exact HW _ (by decide)
  ·exact dz n v x h
def is180:bE prog 180 f180 := .of (by kernel_rfl)
def bsl1 (h:ae) (x:Nat):gK 1 (.int .u8 0) 1 [(0,u8 x)] h=some (.slice (some ⟨h.next,0,none⟩) 1 1,h.alloc [u8 x]):=rfl
def bytes1 (h:ae) {x:Nat} (hx:x<256):ao (some ⟨h.next,0,none⟩) 1 (h.alloc [u8 x])=some [x]:=by have:=eT (h:=h.alloc [u8 x]) (b:=h.next) (off:=0) (n:=1) (s:=none) (l := [x]) (by rw [ae.aZ,DH rfl];rfl) (by simp) (by simpa using hx);rw [this];rfl
def sY.alloc {h:ae} {N w lim:Nat} {l:List Nat} (W:sY h N w lim l) (k:eh):sY (h.alloc k) N w lim l:=by obtain ⟨v,h1,h2,h3⟩:=W.ex;have ka:au h (h.alloc k) (fun _=>False):=au.alloc _ _ _;exact ⟨⟨v,ka.getE h1 (fun h=>h),h2.keep ka (fun _ _ h=>h),h3⟩,W.n0,W.Nw,W.small⟩
def r180 {h:ae} {N w lim:Nat} {l:List Nat} (W:sY h N w lim l) {v n:Nat} (h1n:1<=n) (hn:n<=8) (hfit:l.length+n<=lim) (hv:v<18446744073709551616) :
  ∃ h',CD 180 [ptr w 0,.int .u64 v,aj n] h=some (.tuple #[],h')/\sY h' N w lim (l++ej n v)/\uG N h h':=by
 obtain ⟨h1,e1,W1,k1⟩:=r181 W hfit;have k1:uG N h h1:=k1.mono (fun c _ hc=>by rw [hc];exact W.Nw);have hsm:=W.small;have key:Fin 30 (fun ex y g=>ex = .exit 0/\sY g N w lim (l++ej n v)/\uG N h g)
   (iter (codeA prog CD (aq f180 [1,0,1,0,0])) az (aS 30 (up (bs [ptr w 0,.int .u64 v,aj n]) [(6,aj (n-1)),(7,ptr w 0),(8,aj n),(9,.bool true),(10,aj n),(11,aj (n-1))])) h1):=by
  refine bL (uO CD) (Inv:=fun k y g=>k<=n/\y 0=ptr w 0/\y 1 = .int .u64 v/\y 6 = .int .i64 ((k:Int)-1)/\uG N h g /\ ∃ cur,sY g N w lim cur/\cur++ej k v=l++ej n v) ?_ n (by have:az=18446744073709551616:=rfl;omega)
   ⟨DG _,rfl,rfl,by show aj (n-1)=_;unfold aj;exact FP _ (by omega),k1,l,W1,rfl⟩
  rintro k y g ⟨hk,i0,i1,i6,hkept,cur,Wc,hcur⟩;have hclen:cur.length+k=l.length+n:=by have:=FP List.length hcur;simpa [aQ] using this
  unfold mJ;simp -implicitDefEqProofs only [i6,af,eO,ak];by_cases hz:k=0
  ·subst hz;have hd:decide ((((0:Nat):Int)-1)>=0)=false:=by decide
   simp -implicitDefEqProofs only [hd];refine dE.out 0 ⟨rfl,?_,hkept⟩;have:cur=l++ej n v:=by simpa [ej] using hcur
   rw [<-this];exact Wc
  ·obtain ⟨q,rfl⟩ : ∃ q,k=q+1:=⟨k-1,by omega⟩
   have hd:decide ((((q+1:Nat):Int)-1)>=0)=true:=DN (by omega);have hm8:aA prog .mul 3 (.int .i64 8) (.int .i64 (((q+1:Nat):Int)-1))=some (.int .i64 ((8*q:Nat):Int)):=by rw [jM,bf (by omega) (by omega)];exact FP (fun z=>some (Value.int .i64 z)) (by omega)
   have hsh:aA prog .shr 52 (.int .u64 (v:Int)) (.int .i64 ((8*q:Nat):Int))=some (.int .u64 ((v/256^q:Nat):Int)):=by rw [dG prog 52 (k := .u64) (k' := .i64) (b:=8*q) (by show 8*q<=64;omega)];rw [show (2:Nat)^(8*q)=256^q by rw [Nat.pow_mul]]
   have hcv:IntKind.wrap .u8 ((v/256^q:Nat):Int)=((v/256^q%256:Nat):Int):=by rw [fZ];omega
   have hlt8:v/256^q%256<256:=HW _ (by decide);generalize hx:v/256^q%256=x at *;obtain ⟨v1,v2,g1,g2,f1,f2,f3,f4,f5⟩:=tY (c:=1) (Wc.alloc [u8 x]) (bytes1 g hlt8) (by omega);have hl2:ld1 (ptr w 2) g=some (v1,g):=by obtain ⟨vv,q1,q2,q3⟩:=Wc.ex;have e1:ld1 (ptr w 2) g=some (vv,g):=aH q1 rfl (q2.cell.2.2);have e2:ld1 (ptr w 2) (g.alloc [u8 x])=some (vv,g.alloc [u8 x]):=aH (ae.iU q1 _) rfl (q2.cell.2.2);rw [e2] at f1;simp only [DA,DF,and_true] at f1;rw [<-f1];exact e1
   have hsub:aA prog .sub 3 (.int .i64 (((q+1:Nat):Int)-1)) (.int .i64 1)=some (.int .i64 ((q:Int)-1)):=by rw [gR,bf (by omega) (by omega)];exact FP (fun z=>some (Value.int .i64 z)) (by omega)
   simp -implicitDefEqProofs only [hd,i0,i1,af,ak,av,aw,DC,hl2,hm8,hsh,bY,hcv];rw [show (Value.int .u8 (x:Int))=u8 x from rfl,bsl1];simp -implicitDefEqProofs only [af,f2,ak,av,aw,DC,f3,hsub];refine dE.next q (by omega) ⟨by omega,i0,i1,rfl,?_,cur ++ [x],f4,?_⟩
   ·exact (hkept.trans (au.alloc g _ _)).trans f5
   ·rw [<-hcur,ej,hx,DY];rfl
 obtain ⟨ex,y,g,q1,rfl,q2,q3⟩:=key;refine ⟨g,aI is180 rfl ((t180_eq _ _ _ _ _).trans ?_),q2,q3⟩;unfold t180;have hs1:aA prog .sub 3 (aj n) (.int .i64 1)=some (aj (n-1)):=sub3 (b:=1) h1n (by omega);simp -implicitDefEqProofs only [af,e1,hs1,ak];rw [q1];simp -implicitDefEqProofs only [bh,b180_2,DV];have hr:f180.results.toList = []:=by kernel_rfl
 rw [hr];rfl
def is177:bE prog 177 f177 := .of (by kernel_rfl)
def is133:bE prog 133 f133 := .of (by kernel_rfl)
def is117:bE prog 117 f117 := .of (by kernel_rfl)
def is118:bE prog 118 f118 := .of (by kernel_rfl)
section
variable {h:ae} {N w lim:Nat} {l:List Nat} (W:sY h N w lim l)
include W
def r177 {v:Nat} (hfit:l.length+4<=lim) (hv:v<4294967296) : ∃ h',CD 177 [ptr w 0,.int .u32 v] h=some (.tuple #[],h')/\sY h' N w lim (l++ej 4 v)/\uG N h h':=by obtain ⟨h1,e1,e2,e3⟩:=r180 W (v:=v) (n:=4) (by decide) (by decide) hfit (by omega);have e1:CD 180 [ptr w 0,.int .u64 v,.int .i64 4] h=_:=e1;have hw:IntKind.wrap .u64 (v:Int)=(v:Int):=jk (by omega) (by omega);refine ⟨h1,aI is177 rfl ((t177_eq _ _ _ _).trans ?_),e2,e3⟩;unfold t177;simp -implicitDefEqProofs only [af,bY,hw,e1]
def r133 {v:Nat} (hfit:l.length+8<=lim) (hv:v<18446744073709551616) : ∃ h',CD 133 [ptr w 0,.int .u64 v] h=some (.tuple #[],h')/\sY h' N w lim (l++ej 8 v)/\uG N h h':=by obtain ⟨h1,e1,e2,e3⟩:=r180 W (v:=v) (n:=8) (by decide) (by decide) hfit (by omega);have e1:CD 180 [ptr w 0,.int .u64 v,.int .i64 8] h=_:=e1;refine ⟨h1,aI is133 rfl ((t133_eq _ _ _ _).trans ?_),e2,e3⟩;unfold t133;simp -implicitDefEqProofs only [af,e1]
def r117 {v:Nat} (hfit:l.length+1<=lim) (hv:v<256) : ∃ h',CD 117 [ptr w 0,.int .u8 v] h=some (.tuple #[],h')/\sY h' N w lim (l++ej 1 v)/\uG N h h':=by obtain ⟨h1,e1,e2,e3⟩:=r180 W (v:=v) (n:=1) (by decide) (by decide) hfit (by omega);have e1:CD 180 [ptr w 0,.int .u64 v,.int .i64 1] h=_:=e1;have hw:IntKind.wrap .u64 (v:Int)=(v:Int):=jk (by omega) (by omega);refine ⟨h1,aI is117 rfl ((t117_eq _ _ _ _).trans ?_),e2,e3⟩;unfold t117;simp -implicitDefEqProofs only [af,bY,hw,e1]
def r118 {v:Nat} (hfit:l.length+2<=lim) (hv:v<65536) : ∃ h',CD 118 [ptr w 0,.int .u16 v] h=some (.tuple #[],h')/\sY h' N w lim (l++ej 2 v)/\uG N h h':=by obtain ⟨h1,e1,e2,e3⟩:=r180 W (v:=v) (n:=2) (by decide) (by decide) hfit (by omega);have e1:CD 180 [ptr w 0,.int .u64 v,.int .i64 2] h=_:=e1;have hw:IntKind.wrap .u64 (v:Int)=(v:Int):=jk (by omega) (by omega);refine ⟨h1,aI is118 rfl ((t118_eq _ _ _ _).trans ?_),e2,e3⟩;unfold t118;simp -implicitDefEqProofs only [af,bY,hw,e1]
def sY.l2' {k:eh} {v:Vl} (e:ld1 (ptr w 2) (h.alloc k)=some (v,h.alloc k)):ld1 (ptr w 2) h=some (v,h):=by obtain ⟨vv,q1,q2,q3⟩:=W.ex;have e1:ld1 (ptr w 2) h=some (vv,h):=aH q1 rfl (q2.cell.2.2);have e2:ld1 (ptr w 2) (h.alloc k)=some (vv,h.alloc k):=aH (ae.iU q1 _) rfl (q2.cell.2.2);rw [e2] at e;simp only [DA,DF,and_true] at e;rw [<-e];exact e1
def r119 {a:Option Addr} {n c:Nat} {m:List Nat} (hm:ao a n h=some m) (ha : ∀ y,a=some y->0<n->y.block<N) (hfit:l.length+(n+2)<=lim) (hn:n<65536) :
  ∃ h',CD 119 [ptr w 0,.slice a n c] h=some (.tuple #[],h')/\sY h' N w lim (l++ej 2 n++m)/\uG N h h':=by
 obtain ⟨h1,e1,W1,k1⟩:=r181 W (n:=n+2) hfit;have k1:uG N h h1:=k1.mono (fun c _ hc=>by rw [hc];exact W.Nw);have hsm:=W.small;have c1:(65535:Int)=((65535:Nat):Int):=rfl;have hgt:aA prog .gtr 3 (aj n) (.int .i64 65535)=some (.bool false):=by have:=gtr3 n 65535;rw [DW (by omega)] at this;exact this
 have hadd:aA prog .add 3 (aj n) (.int .i64 2)=some (aj (n+2)):=sn (b:=2) (by omega);have hsh:aA prog .shr 3 (aj n) (.int .u64 8)=some (aj (n/256)):=dG prog 3 (k := .i64) (k' := .u64) (a:=n) (b:=8) (by decide);have hw1:IntKind.wrap .u8 ((n/256:Nat):Int)=((n/256:Nat):Int):=tv (by omega) (by omega);have hw2:IntKind.wrap .u8 ((n:Nat):Int)=((n%256:Nat):Int):=by rw [fZ];omega
 have hbs:gK 1 (.int .u8 0) 2 [(0,u8 (n/256)),(1,u8 (n%256))] h1=some (.slice (some ⟨h1.next,0,none⟩) 2 2,h1.alloc ([n/256,n%256].map u8)):=rfl;have hb2:ao (some ⟨h1.next,0,none⟩) 2 (h1.alloc ([n/256,n%256].map u8))=some [n/256,n%256]:=by
  have:=eT (h:=h1.alloc ([n/256,n%256].map u8)) (b:=h1.next) (off:=0) (n:=2) (s:=none) (l := [n/256,n%256]) (by rw [ae.aZ,DH rfl]) (by simp) (by intro x hx;simp only [ER,ET,GX] at hx;rcases hx with rfl|rfl<;>omega)
  rw [this];rfl
 obtain ⟨v1,v2,g1,g2,f1,f2,f3,f4,f5⟩:=tY (c:=2) (W1.alloc ([n/256,n%256].map u8)) hb2 (by omega);have hl2:=W1.l2' f1;have k2:uG N h g2:=(k1.trans (au.alloc h1 _ _)).trans f5;have hm2:ao a n g2=some m:=k2.bytes hm (fun y hy hn2=>by have:=ha y hy hn2;omega);obtain ⟨v3,v4,g3,g4,p1,p2,p3,p4,p5⟩:=tY (c:=c) f4 hm2 (by simp only [DO,List.length_cons,List.length_nil];omega);have hbe:ej 2 n = [n/256,n%256]:=by simp only [ej,Nat.pow_one,Nat.pow_zero,Nat.div_one];rw [FK (show n/256<256 by omega)]
 refine ⟨g4,aI is119 rfl ((t119_eq _ _ _ _).trans ?_),by rw [hbe];exact p4,k2.trans p5⟩;unfold t119;simp -implicitDefEqProofs only [af,eql218,ak,cM];rw [show (Value.int .i64 (n:Int))=aj n from rfl];simp -implicitDefEqProofs only [hgt,hadd,ak,af,e1,av,aw,DC,hl2,hsh];simp -implicitDefEqProofs only [aj,bY,hw1,hw2,af];rw [show (Value.int .u8 ((n/256:Nat):Int))=u8 (n/256) from rfl,show (Value.int .u8 ((n%256:Nat):Int))=u8 (n%256) from rfl,hbs];simp -implicitDefEqProofs only [af,f2,ak,av,aw,DC,f3,p1,p2,p3]
def r121 (hl:l.length<=21000) : ∃ a c h',CD 121 [ptr w 0] h=some (.tuple #[.slice a l.length c,.int .i64 0],h')/\ao a l.length h'=some l/\cw a l.length c=true/\aK h h'/\(∀ y,a=some y->h.next<=y.block):=by
 obtain ⟨v,h1,h2,h3⟩:=W.ex;obtain ⟨a,c,hv,h4,h5,h6,h7⟩:=h2.bytes;obtain ⟨a',c',h',e1,e2,e3,e4,e5,_⟩:=r171 (c:=c) h4 hl;have l1:ld1 (ptr w 1) h=some (.bool false,h):=aH h1 rfl;have l2:ld1 (ptr w 2) h=some (.slice a l.length c,h):=by rw [<-hv];exact aH h1 rfl (h2.cell.2.2)
 refine ⟨a',c',h',aI is121 rfl ((t121_eq _ _ _).trans ?_),e2,e3,e4,e5⟩;unfold t121;simp -implicitDefEqProofs only [af,eql218,ak,av,aw,DC,l1,l2,e1]
end
def jY (l:List Nat):List Nat:=ej 4 (tA (l++List.replicate (124-l.length) 0))++(l++List.replicate (124-l.length) 0)
def nZ {l:List Nat} (hl:l.length<=124):(jY l).length=128:=by simp only [jY,DO,aQ,GU];omega
def sealB_byte {l:List Nat} (hb : ∀ x∈l,x<256) : ∀ x∈jY l,x<256:=by
 intro x hx;simp only [jY,D8] at hx;rcases hx with hx|hx|hx
 ·exact dz _ _ x hx
 ·exact hb x hx
 ·rw [ES hx];decide
def crcN_lt {l:List Nat} (hb : ∀ x∈l,x<256):tA l<4294967296:=by unfold tA;exact GM (n:=32) (by decide) (nV l 4294967295 (by decide) hb)
def r179 {h:ae} {N w lim:Nat} {l:List Nat} (W:sY h N w lim l) (hl:l.length<=124) :
  ∃ B h',CD 179 [ptr w 0] h=some (.slice (some ⟨B,0,none⟩) 128 128,h')/\ao (some ⟨B,0,none⟩) 128 h'=some (jY l)/\aK h h'/\h.next<=B:=by
 obtain ⟨a,c,h1,e1,e2,e3,e4,e5⟩:=r121 W (by omega);have hb:=(ay e2).2.1;have hmk:=mk1 (h:=h1) (n:=128) (c:=128) (DG _) (by decide);have hg2:(h1.alloc ((List.replicate 128 0).map u8)).get h1.next=some ((List.replicate 128 0).map u8):=by rw [ae.aZ,DH rfl]
 have n02:(h1.alloc ((List.replicate 128 0).map u8)).n0<=h1.next:=h1.n0_le_next;have kA:aK h1 (h1.alloc ((List.replicate 128 0).map u8)):=au.alloc _ _ _;have s2:=aK.bytes kA e2;have oA:aK h (h1.alloc ((List.replicate 128 0).map u8)):=e4.trans kA;generalize hB:h1.next=B at *;generalize hh2:h1.alloc ((List.replicate 128 0).map u8)=h2 at *;have hB2:h.next<=B:=by rw [<-hB];exact e4.next
 have hmin:min l.length 124=l.length:=by omega
 obtain ⟨h3,q1,q2,q3,q4,q5⟩:=jz (b:=B) (off:=4) (dl:=124) (dc:=124) (s:=none) (c:=c) hg2 n02 s2 (by simp;omega);generalize hR:l++List.replicate (124-l.length) 0=R at *;have hRl:R.length=124:=by rw [<-hR];simp;omega
 have hRb : ∀ x∈R,x<256:=by
  intro x hx;rw [<-hR] at hx;rcases D8.1 hx with hx|hx
  ·exact hb x hx
  ·rw [ES hx];decide
 have hsp:dx (List.replicate 128 0) 4 (l.take (min l.length 124))=0::0::0::0::R:=by
  rw [hmin,HK];unfold dx;rw [<-hR,List.take_replicate,List.drop_replicate];show List.replicate 4 0++l++List.replicate (128-(4+l.length)) 0 = [0,0,0,0]++(l++List.replicate (124-l.length) 0)
  rw [DY,show 128-(4+l.length)=124-l.length by omega];rfl
 rw [hsp] at q4;have hs3:ao (some ⟨B,4,none⟩) 124 h3=some R:=by
  have:=eT (off:=4) (n:=124) (s:=none) q4 (by simp [hRl]) (by
   intro x hx;simp only [ER] at hx;rcases hx with rfl|rfl|rfl|rfl|hx
   ·decide
   ·decide
   ·decide
   ·decide
   ·exact hRb x hx)
  rw [this];exact FP some (D3 (by show R.length<=124;omega))
 have hcrc:CD 208 [.slice (some ⟨B,4,none⟩) 124 124] h3=some (u32 (tA R),h3):=by refine ui ?_;rw [X208];unfold s208;simp only [hs3];rfl
 have hcl:=crcN_lt hRb;have hseal:jY l=ej 4 (tA R)++R:=by unfold jY;rw [hR]
 generalize hC:tA R=cr at *;have n03:h3.n0<=B:=by rw [q2];exact n02
 have p0:=xa (v:=cr/16777216%256) (o:=0) q4 (by simp) n03;have g0:=ae.bO n03 q4 (((0::0::0::0::R).set 0 (cr/16777216%256)).map u8);generalize hh4:h3.set B (((0::0::0::0::R).set 0 (cr/16777216%256)).map u8)=h4 at *;have n04:h4.n0<=B:=by rw [<-hh4];exact n03
 have p1:=xa (v:=cr/65536%256) (o:=1) g0 (by simp) n04;have g1:=ae.bO n04 g0 ((((0::0::0::0::R).set 0 (cr/16777216%256)).set 1 (cr/65536%256)).map u8);generalize hh5:h4.set B ((((0::0::0::0::R).set 0 (cr/16777216%256)).set 1 (cr/65536%256)).map u8)=h5 at *;have n05:h5.n0<=B:=by rw [<-hh5];exact n04
 have p2:=xa (v:=cr/256%256) (o:=2) g1 (by simp) n05;have g2:=ae.bO n05 g1 (((((0::0::0::0::R).set 0 (cr/16777216%256)).set 1 (cr/65536%256)).set 2 (cr/256%256)).map u8);generalize hh6:h5.set B (((((0::0::0::0::R).set 0 (cr/16777216%256)).set 1 (cr/65536%256)).set 2 (cr/256%256)).map u8)=h6 at *;have n06:h6.n0<=B:=by rw [<-hh6];exact n05
 have p3:=xa (v:=cr%256) (o:=3) g2 (by simp) n06;have g3:=ae.bO n06 g2 ((((((0::0::0::0::R).set 0 (cr/16777216%256)).set 1 (cr/65536%256)).set 2 (cr/256%256)).set 3 (cr%256)).map u8);have hfin:((((0::0::0::0::R).set 0 (cr/16777216%256)).set 1 (cr/65536%256)).set 2 (cr/256%256)).set 3 (cr%256)=jY l:=by rw [hseal];simp only [ej,Nat.pow_zero,Nat.div_one];rfl
 rw [hfin] at p3 g3;have hslb:=sealB_byte hb;have hsll:=nZ hl;generalize hh7:h6.set B ((jY l).map u8)=h7 at *;refine ⟨B,h7,aI is179 rfl ((t179_eq _ _ _).trans ?_),?_,?_,hB2⟩
 ·have hx0 : ∀ a b:Vl,extractA (.tuple #[a,b]) 0=some a:=fun _ _=>rfl;have hx1 : ∀ a b:Vl,extractA (.tuple #[a,b]) 1=some b:=fun _ _=>rfl;have hmk':mkR 1 1 (.int .u8 0) (.int .i64 128) (.int .i64 128) h1=_:=hmk;have hsl:zR 1 (.slice (some ⟨B,0,none⟩) 128 128) (some (.int .i64 4)) none none=some (.slice (some ⟨B,4,none⟩) 124 124):=rfl;have s24:aA prog .shr 186 (u32 cr) (.int .u64 24)=some (u32 (cr/16777216)):=dG prog 186 (k := .u32) (k' := .u64) (a:=cr) (b:=24) (by decide);have s156:aA prog .shr 186 (u32 cr) (.int .u64 16)=some (u32 (cr/65536)):=dG prog 186 (k := .u32) (k' := .u64) (a:=cr) (b:=16) (by decide);have s8:aA prog .shr 186 (u32 cr) (.int .u64 8)=some (u32 (cr/256)):=dG prog 186 (k := .u32) (k' := .u64) (a:=cr) (b:=8) (by decide);have cv : ∀ (z:Nat) (g:ae),iQ .u8 (u32 z) g=some (u8 (z%256),g):=by intro z g;rw [show u32 z=Value.int .u32 (z:Int) from rfl,bY,fZ,show u8 (z%256)=Value.int .u8 ((z%256:Nat):Int) from rfl];exact FP (fun q=>some (Value.int .u8 q,g)) (by omega)
  have i0:idxS 1 (.slice (some ⟨B,0,none⟩) 128 128) (.int .i64 0)=some (ptr B 0):=rfl;have i1:idxS 1 (.slice (some ⟨B,0,none⟩) 128 128) (.int .i64 1)=some (ptr B 1):=rfl;have i2:idxS 1 (.slice (some ⟨B,0,none⟩) 128 128) (.int .i64 2)=some (ptr B 2):=rfl;have i3:idxS 1 (.slice (some ⟨B,0,none⟩) 128 128) (.int .i64 3)=some (ptr B 3):=rfl;unfold t179;simp -implicitDefEqProofs only [af,e1,hx0,hx1,ak,hmk',hsl,q1,hcrc,s24,s156,s8,cv,i0,i1,i2,i3,p0,p1,p2,p3]
 ·rw [eT (off:=0) (n:=128) (s:=none) g3 (by omega) hslb,FO,D3 (by omega)]
 ·refine ⟨?_,?_,?_⟩
  ·rw [<-hh7,<-hh6,<-hh5,<-hh4];exact q2.trans oA.n0
  ·rw [<-hh7,<-hh6,<-hh5,<-hh4];show h.next<=h3.next;rw [q3];exact oA.next
  ·intro e he _;have hne:e≠B:=by omega
   have l3:B<h3.next:=h3.aL q4;have l4:B<h4.next:=h4.aL g0;have l5:B<h5.next:=h5.aL g1;have l6:B<h6.next:=h6.aL g2;rw [<-hh7,ae.cj n06 l6 _ hne,<-hh6,ae.cj n05 l5 _ hne,<-hh5,ae.cj n04 l4 _ hne,<-hh4,ae.cj n03 l3 _ hne,q5 e hne];exact oA.getB e he (fun h=>h)
def br (n:Nat):Nat:=if n<=106 then 1 else (n-1)/106+1
def cost_nat (n:Nat):cost (n:Int)=(br n:Nat):=by
 unfold cost br;by_cases h:n<=106
 ·rw [DH (by omega),DH h];rfl
 ·rw [DL (by omega),DL h];omega
def nv (n:Nat):1<=br n:=by unfold br;split<;>omega
def mZ {n:Nat} (h:n<=21000):br n<=199:=by unfold br;split<;>omega
def costN_room (n:Nat):n<=106*br n:=by unfold br;split<;>omega
def costN_tight {n i:Nat} (h:i<br n):106*i<=n:=by unfold br at h;split at h<;>omega
def iC (gen at_ part parts:Nat) (data:List Nat):List Nat:=ej 8 gen++ej 4 at_++ej 2 part++ej 2 parts++ej 2 data.length++data
def ek (gen at_ part parts:Nat) (data:List Nat):List Nat:=jY (iC gen at_ part parts data)
def oV (gen at_ part parts:Nat) (data:List Nat):(iC gen at_ part parts data).length=18+data.length:=by simp only [iC,DO,aQ]
def fI (cm:List Nat) (i:Nat):List Nat:=(cm.drop (106*i)).take 106
def kQ (cm:List Nat) (i:Nat):(fI cm i).length<=106:=IG ..
def Dk.wr (area gen at_ parts:Nat) (cm:List Nat):Nat->Nat->Dk->Int×Dk
 | 0,_,D=>(0,D)
 |k+1,i,D=>
  if (D.write ((2+area*D.ar+at_+i:Nat):Int) (ek gen (at_+i) i parts (fI cm i))).1=0 then Dk.wr area gen at_ parts cm k (i+1) (D.write ((2+area*D.ar+at_+i:Nat):Int) (ek gen (at_+i) i parts (fI cm i))).2
  else D.write ((2+area*D.ar+at_+i:Nat):Int) (ek gen (at_+i) i parts (fI cm i))
def Dk.wrRec (D:Dk) (area gen at_:Nat) (cm:List Nat):Int×Dk:=Dk.wr area gen at_ (br cm.length) cm (br cm.length) 0 D
def dk_plain {h:ae} {d:Nat} {D:Dk} (x:bC h d D):AQ h d:=⟨_,x.hdr,by intro v hv;simp only [Dk.hdr,ER,ET,GX] at hv;rcases hv with rfl|rfl|rfl|rfl|rfl|rfl<;>rfl⟩
def cA.tt {h:ae} {j d d':Nat} {J:Jn} {D:Dk} (xj:cA h j d J) (x:bC h d' D):j≠d':=by rintro rfl;have:=xj.get.symm.trans x.hdr;have:=FP List.length (HT this);simp [Jn.cells,Dk.hdr] at this
def cA.me {h:ae} {j d d':Nat} {J:Jn} {D:Dk} (xj:cA h j d J) (x:bC h d' D):j≠D.bb:=by
 intro he;have h1:=xj.get;rw [he,x.img] at h1;have h2:=HT h1;cases hi:D.img with
 |nil=>rw [hi] at h2;simp [Jn.cells] at h2
 |cons a l=>rw [hi] at h2;simp [Jn.cells,ptr] at h2
def r178 {h:ae} {d:Nat} {D:Dk} (x:bC h d D) (i:Int) {a:Option Addr} {n c:Nat} {l:List Nat} (hl:ao a n h=some l) (hg:cw a n c=true) :
  ∃ g,CD 178 [ptr d 0,.int .i64 i,.slice a n c] h=some (.int .i64 (D.write i l).1,g)/\bC g d (D.write i l).2/\(D.write i l).2.bb=D.bb/\(D.write i l).2.n=D.n/\eV d D.bb h g:=by
 have o:=Dk.write_okd x i (ay hl).2.1;obtain ⟨g,e,w⟩:=r178' x i hl hg;exact ⟨g,e,w.is,o.bb,o.n,w.n0,by rw [w.next];exact DG _,fun c _ hc=>w.getB c (fun q=>hc (.inl q)) (fun q=>hc (.inr q))⟩
def r73' (n:Int) (h:ae) (hn : -9223372036854775808<=n/\n<=9223372036854775807):CD 73 [.int .i64 n] h=some (.int .i64 (cost n),h):=by
 refine aI is73 rfl ((t73_eq _ _ _).trans ?_);unfold t73 cost;simp -implicitDefEqProofs only [nQ,ak,af];by_cases h1:n<=106
 ·simp -implicitDefEqProofs only [h1,GQ,DV,af]
 ·simp -implicitDefEqProofs only [h1,FA,DS,gR,ak,af,w8,eR,ne_eq,Int.reduceEq,not_false_eq_true,not_true];rw [bf (x:=n-1) (by omega) (by omega),Int.tdiv_eq_ediv_of_nonneg (by omega),bf (x:=(n-1)/106) (by omega) (by omega),bf (by omega) (by omega)]
def r73 (n:Nat) (h:ae) (hn:n<=100000000):CD 73 [aj n] h=some (aj (br n),h):=by rw [show aj n=Value.int .i64 (n:Int) from rfl,r73' _ _ (by omega),cost_nat]
section
variable {h0:ae} {d j:Nat} {D:Dk} {J:Jn} {area gen at_ n c:Nat} {a:Option Addr} {cm:List Nat} (x:bC h0 d D) (xj:cA h0 j d J) (h2:2<=D.n) (ha:area<=1) (hg:gen<18446744073709551616) (hat:at_<=10000)
 (hs:ao a n h0=some cm) (hgd:cw a n c=true) (hn:n<=21000) (hab : ∀ y,a=some y->0<n->y.block≠D.bb)
include x xj h2 ha hg hat hs hgd hn hab
def wrInv (h0:ae) (d j:Nat) (D:Dk) (area gen at_ n c:Nat) (a:Option Addr) (cm:List Nat) (k:Nat) (y:Nat->Vl) (g:ae):Prop:=
 ∃ i E,y 0=ptr j 0/\y 1=aj area/\y 2 = .int .u64 gen/\y 3=aj at_/\y 4 = .slice a n c/\y 11=aj (br n)/\y 19=aj (br n)/\y 20=aj i/\i+k=br n/\bC g d E/\E.bb=D.bb/\E.n=D.n/\eV d D.bb h0 g /\
   Dk.wr area gen at_ (br n) cm k i E=D.wrRec area gen at_ cm
def wrFin (h0:ae) (d:Nat) (D:Dk) (area gen at_:Nat) (cm:List Nat) (ex:Ex) (y:Nat->Vl) (g:ae):Prop:=
 bC g d (D.wrRec area gen at_ cm).2/\(D.wrRec area gen at_ cm).2.bb=D.bb/\(D.wrRec area gen at_ cm).2.n=D.n/\eV d D.bb h0 g /\
  ((ex = .exit 0/\(D.wrRec area gen at_ cm).1=0)\/(ex = .ret/\y 10 = .int .i64 (D.wrRec area gen at_ cm).1))
def wr_round : ∀ k y g,wrInv h0 d j D area gen at_ n c a cm k y g->dE 77 (wrInv h0 d j D area gen at_ n c a cm) (wrFin h0 d D area gen at_ cm) k (iY CD y g):=by
 rintro k y g ⟨i,E,i0,i1,i2,i3,i4,i11,i19,i20,hik,xg,hEb,hEn,hk,hw⟩;have hrl:=(ay hs).1;have hcl:=mZ hn;have hsm:=x.small;have hEar:E.ar=D.ar:=by unfold Dk.ar;rw [hEn]
 have har:D.ar=(D.n-2)/2:=rfl;have hma:area*D.ar<=D.ar:=by have:=GJ D.ar ha;omega
 have jg:cA g j d J:=xj.keep hk (fun h=>h.elim (xj.tt x) (xj.me x));unfold iY;simp -implicitDefEqProofs only [i19,i20,gS,ak,af];by_cases hz:k=0
 ·subst hz;have hii:i=br n:=by omega
  simp -implicitDefEqProofs only [DW (show ¬i<br n by omega)];have he:D.wrRec area gen at_ cm=(0,E):=hw.symm;refine dE.out 0 ⟨?_,?_,?_,hk,.inl ⟨rfl,?_⟩⟩
  ·rw [he];exact xg
  ·rw [he];exact hEb
  ·rw [he];exact hEn
  ·rw [he]
 ·obtain ⟨q,rfl⟩ : ∃ q,k=q+1:=⟨k-1,by omega⟩
  have hlt:i<br n:=by omega
  have htight:=costN_tight hlt;have hsg:ao a n g=some cm:=by
   refine hk.bytes hs (fun y hy hn2 hb => ?_);rcases hb with hb|hb
   ·obtain ⟨kk,e1,e2⟩:=dk_plain x;exact dQ hs e1 e2 y hy hn2 hb
   ·exact hab y hy hn2 hb
  have hm1:aA prog .mul 3 (aj i) (.int .i64 106)=some (aj (i*106)):=mul3 (b:=106) (by omega);have hm2:aA prog .mul 3 (aj (i+1)) (.int .i64 106)=some (aj ((i+1)*106)):=mul3 (b:=106) (by omega);have hmn:minmax false (.int .i64 (n:Int)) [aj ((i+1)*106)]=some (aj (min n ((i+1)*106))):=by
   simp only [minmax,aj,DV,DB,DS];by_cases hc:(((i+1)*106:Nat):Int)<(n:Int)
   ·rw [DH (by simpa using hc),Nat.min_eq_right (by omega)]
   ·rw [DL (by simpa using hc),GN (by omega)]
  obtain ⟨a1,c1,s1,s2,s3⟩:=qP (vl:=some (aj (i*106))) (vh:=some (aj (min n ((i+1)*106)))) (lo:=i*106) (hi:=min n ((i+1)*106)) hgd hsg (by omega) (by omega)
   (by simp only [boundA,aj];rw [DH (by have:=mX hgd;omega),Int.toNat_natCast]) (by simp only [boundA,aj];rw [DH (by omega),Int.toNat_natCast])
  have hch:(cm.drop (i*106)).take (min n ((i+1)*106)-i*106)=fI cm i:=by
   unfold fI;rw [II 106 i];by_cases hc:n<=(i+1)*106
   ·rw [GN hc,D3 (by simp;omega),D3 (by simp;omega)]
   ·rw [Nat.min_eq_right (by omega),show (i+1)*106-i*106=106 by omega]
  rw [hch] at s2;have hcn:=(ay s2).1;have hc106:=kQ cm i;generalize hcm:min n ((i+1)*106)-i*106=m at *;have ha1 : ∀ y,a1=some y->0<m->y.block<g.next:=by intro y hy hm;subst hy;obtain ⟨b',o',s',e,hb⟩:=jF s2 hm;cases e;exact hb
  obtain ⟨g1,e1,W1,k1⟩:=r116 g (lim:=124) (by decide);have e1:CD 116 [.int .i64 124] g=_:=e1;obtain ⟨g2,e2,W2,k2⟩:=r133 W1 (v:=gen) (by simp) hg;obtain ⟨g3,e3,W3,k3⟩:=r177 W2 (v:=at_+i) (by simp [aQ]) (by omega);obtain ⟨g4,e4,W4,k4⟩:=r118 W3 (v:=i) (by simp [aQ]) (by omega);obtain ⟨g5,e5,W5,k5⟩:=r118 W4 (v:=br n) (by simp [aQ]) (by omega);have k15:uG g.next g g5:=(((k1.trans k2).trans k3).trans k4).trans k5;have sm5:ao a1 m g5=some (fI cm i):=k15.bytes s2 (fun y hy hm=>by have:=ha1 y hy hm;omega);obtain ⟨g6,e6,W6,k6⟩:=r119 W5 (c:=c1) sm5 ha1 (by simp [aQ];omega) (by omega);have k16:uG g.next g g6:=k15.trans k6;have hbody : []++ej 8 gen++ej 4 (at_+i)++ej 2 i++ej 2 (br n)++ej 2 m++fI cm i=iC gen (at_+i) i (br n) (fI cm i):=by unfold iC;rw [hcn,List.nil_append]
  rw [hbody] at W6;have hd6:bC g6 d E:=k16.dk xg (by have:=xg.lt;omega) (by have:=xg.blt;omega);have hj6:cA g6 j d J:=jg.keep k16 (by have:=jg.lt;omega);obtain ⟨B,g7,e7,s7,k7,hB⟩:=r179 W6 (by rw [oV];omega);have hd7:bC g7 d E:=aK.dk k7 hd6;have hj7:cA g7 j d J:=hj6.keep k7 (fun h=>h);have hidx:=hEar;obtain ⟨g8,e8,x8,b8,n8,k8⟩:=r178 hd7 ((2+area*E.ar+at_+i:Nat):Int) (c:=128) s7 rfl;have e8:CD 178 [ptr d 0,aj (2+area*E.ar+at_+i),.slice (some ⟨B,0,none⟩) 128 128] g7=_:=e8;have hlb:jY (iC gen (at_+i) i (br n) (fI cm i))=ek gen (at_+i) i (br n) (fI cm i):=rfl;rw [hlb] at e8 x8 b8 n8;have hw2:Dk.wr area gen at_ (br n) cm (q+1) i E=if (E.write ((2+area*E.ar+at_+i:Nat):Int) (ek gen (at_+i) i (br n) (fI cm i))).1=0 then Dk.wr area gen at_ (br n) cm q (i+1) (E.write ((2+area*E.ar+at_+i:Nat):Int) (ek gen (at_+i) i (br n) (fI cm i))).2 else E.write ((2+area*E.ar+at_+i:Nat):Int) (ek gen (at_+i) i (br n) (fI cm i)):=rfl
  rw [hw2] at hw;rw [hEb] at b8 k8;have kall:eV d D.bb h0 g8:=
   ((hk.also k16 (fun c hc h=>by have:=hk.next;omega)).also k7 (fun _ _ h=>h.elim)).trans k8
  generalize hRR:E.write ((2+area*E.ar+at_+i:Nat):Int) (ek gen (at_+i) i (br n) (fI cm i))=RR at *;have h55:=vO hd6 (by omega);have hmul:aA prog .mul 3 (aj area) (aj E.ar)=some (aj (area*E.ar)):=mul3 (by rw [hEar];omega);have hadd1:aA prog .add 3 (.int .i64 2) (aj (area*E.ar))=some (aj (2+area*E.ar)):=sn (a:=2) (by rw [hEar];omega);have hadd2:aA prog .add 3 (aj (2+area*E.ar)) (aj at_)=some (aj (2+area*E.ar+at_)):=sn (by rw [hEar];omega);have hadd3:aA prog .add 3 (aj (2+area*E.ar+at_)) (aj i)=some (aj (2+area*E.ar+at_+i)):=sn (by rw [hEar];omega);have cv32 : ∀ g,iQ .u32 (aj (at_+i)) g=some (.int .u32 ((at_+i:Nat):Int),g):=by intro g;unfold aj;rw [bY,qn (by omega) (by omega)]
  have cv16 : ∀ (z:Nat),z<65536 -> ∀ g,iQ .u16 (aj z) g=some (.int .u16 (z:Int),g):=by intro z hz g;unfold aj;rw [bY,tw (by omega) (by omega)]
  have hv:veq (ptr d 0) (ptr d 0)=true:=by simp [ptr,veq]
  have ck6:=dq (rfl:some (ptr d 0,g6)=some (ptr d 0,g6)) hv;have ck7:=dq (rfl:some (ptr d 0,g7)=some (ptr d 0,g7)) hv;simp -implicitDefEqProofs only [DN hlt,i0,i1,i2,i3,i4,i11,af,hm1,cM,eW (show i+1<=9223372036854775807 by omega),hm2,ak,hmn,s1,e1,e2,sn (show at_+i<=9223372036854775807 by omega),cv32,e3,cv16 i (by omega),e4,cv16 (br n) (by omega),e5,e6,
   av,aw,DC,hj6.l0,h55,hmul,hadd1,hadd2,hadd3,e7,hj7.l0,e8,ck6,ck7,EJ,c7]
  by_cases hc:RR.1=0
  ·rw [DH hc] at hw;have hne:(RR.1 != 0)=false:=by rw [hc];rfl
   simp -implicitDefEqProofs only [hne,af];exact dE.next q (by omega) ⟨i+1,RR.2,i0,i1,i2,i3,i4,i11,i19,rfl,by omega,x8,b8,n8.trans hEn,kall,hw⟩
  ·rw [DL hc] at hw;have hne:(RR.1 != 0)=true:=by rw [H4];exact hc
   simp -implicitDefEqProofs only [hne,af];refine dE.ret ⟨?_,?_,?_,kall,.inr ⟨rfl,?_⟩⟩
   ·rw [<-hw];exact x8
   ·rw [<-hw];exact b8
   ·rw [<-hw];exact n8.trans hEn
   ·rw [<-hw];rfl
def r176 : ∃ h',CD 176 [ptr j 0,aj area,.int .u64 gen,aj at_,.slice a n c] h0=some (.int .i64 (D.wrRec area gen at_ cm).1,h')/\bC h' d (D.wrRec area gen at_ cm).2/\(D.wrRec area gen at_ cm).2.bb=D.bb/\(D.wrRec area gen at_ cm).2.n=D.n/\eV d D.bb h0 h':=by
 have hrl:=(ay hs).1;have hcl:=mZ hn;have is176:bE prog 176 f176 := .of (by kernel_rfl);have key : ∃ h',t176 CD (ptr j 0) (aj area) (.int .u64 gen) (aj at_) (.slice a n c) h0=some (.int .i64 (D.wrRec area gen at_ cm).1,h')/\bC h' d (D.wrRec area gen at_ cm).2/\(D.wrRec area gen at_ cm).2.bb=D.bb/\(D.wrRec area gen at_ cm).2.n=D.n/\eV d D.bb h0 h':=by
  unfold t176;simp -implicitDefEqProofs only [af,cM,ak];rw [show (Value.int .i64 (n:Int))=aj n from rfl];simp -implicitDefEqProofs only [r73 n h0 (by omega),af];refine cH (Q:=fun (o:aY) => ∃ h',o=some (.int .i64 (D.wrRec area gen at_ cm).1,h')/\bC h' d (D.wrRec area gen at_ cm).2/\(D.wrRec area gen at_ cm).2.bb=D.bb/\(D.wrRec area gen at_ cm).2.n=D.n/\eV d D.bb h0 h')
   (bL (tj CD) (wr_round x xj h2 ha hg hat hs hgd hn hab) (br n) (by have:az=18446744073709551616:=rfl;omega)
    ⟨0,D,rfl,rfl,rfl,rfl,rfl,rfl,rfl,rfl,DC _,x,rfl,rfl,au.refl _ _,by unfold Dk.wrRec;rw [hrl]⟩) ?_
  rintro ex y g ⟨f1,f2,f3,f4,⟨rfl,f5⟩|⟨rfl,f5⟩⟩
  ·refine ⟨g,?_,f1,f2,f3,f4⟩;simp -implicitDefEqProofs only [bh,b176_4,DV,zX];unfold rZ;simp -implicitDefEqProofs only [af,f5]
  ·refine ⟨g,?_,f1,f2,f3,f4⟩;show resultsA prog f176.results.toList (aS 77 y) g=_;rw [res_one (show f176.results.toList = [.tmp 10] by kernel_rfl) (by decide),f5]
 obtain ⟨h',e,f⟩:=key;exact ⟨h',aI is176 rfl ((t176_eq _ _ _ _ _ _ _).trans e),f⟩
end
structure oS (J:Jn) (D:Dk):Prop where
 slot:J.slot = -1\/J.slot=0\/J.slot=1
 area:J.area<=1
 gen:J.gen<18446744073709551616
 known:J.known<18446744073709551616
 ready:J.ready=true->J.fin<=D.ar/\0<=J.slot
def Jn.append (J:Jn) (D:Dk) (cm:List Nat):Int×Dk×Jn:=
 if J.live D=false then (9,D,J) else
 if J.ready=false then (30,D,J) else
 if 20000<cm.length then (3,D,J) else
 if J.free D<br cm.length then (8,D,J) else
 if (D.wrRec J.area J.gen J.fin cm).1=0 then (0,(D.wrRec J.area J.gen J.fin cm).2,{ J with fin:=J.fin+br cm.length })
 else ((D.wrRec J.area J.gen J.fin cm).1,(D.wrRec J.area J.gen J.fin cm).2,J)
def is122:bE prog 122 f122 := .of (by kernel_rfl)
def gtr3k (n k:Nat):aA prog .gtr 3 (aj n) (.int .i64 (k:Int))=some (.bool (decide (k<n))):=gtr3 n k
abbrev yb (j d bb:Nat) (h h':ae):Prop:=au h h' (fun c=>c=j\/c=d\/c=bb)
def eV.jd {j d bb:Nat} {h h':ae} (k:eV d bb h h'):yb j d bb h h':=au.mono k (fun c _ hc => .inr hc)
def r122 {h:ae} {d j:Nat} {D:Dk} {J:Jn} (x:bC h d D) (xj:cA h j d J) (h2:2<=D.n) (ok:oS J D) {a:Option Addr} {n c:Nat} {cm:List Nat}
  (hs:ao a n h=some cm) (hgd:cw a n c=true) (hn:n<=100000000) (hab : ∀ y,a=some y->0<n->y.block≠D.bb) :
  ∃ v h',CD 122 [ptr j 0,.slice a n c] h=some (.tuple #[v,.int .i64 (J.append D cm).1],h')/\bC h' d (J.append D cm).2.1/\cA h' j d (J.append D cm).2.2/\(J.append D cm).2.1.bb=D.bb/\(J.append D cm).2.1.n=D.n/\yb j d D.bb h h' /\
    v=aj (if (J.append D cm).1=0 then J.fin else 0):=by
 have hrl:=(ay hs).1;have hsm:=x.small;have har:D.ar=(D.n-2)/2:=rfl;have key : ∀ o:aY,t122 CD (ptr j 0) (.slice a n c) h=o -> ∃ v h',o=some (.tuple #[v,.int .i64 (J.append D cm).1],h')/\bC h' d (J.append D cm).2.1/\cA h' j d (J.append D cm).2.2/\(J.append D cm).2.1.bb=D.bb/\(J.append D cm).2.1.n=D.n/\yb j d D.bb h h' /\
   v=aj (if (J.append D cm).1=0 then J.fin else 0):=by
  intro o ho;subst ho;unfold t122 Jn.append;simp -implicitDefEqProofs only [af,r132 x xj,ak,c7];cases hl:J.live D with
  |false=>
   simp -implicitDefEqProofs only [DB,DS,DV,show ((9:Int) != 0)=true from rfl,af];exact ⟨_,h,rfl,x,xj,trivial,trivial,au.refl _ _,rfl⟩
  |true=>
   simp -implicitDefEqProofs only [DV,ED,af,av,ak,aw,DC,xj.l6,dt,show (true=false)=False from eq_false (by decide),DS];cases hr:J.ready with
   |false=>
    simp -implicitDefEqProofs only [EG,af,DV];exact ⟨_,h,rfl,x,xj,trivial,trivial,au.refl _ _,rfl⟩
   |true=>
    obtain ⟨hfin,hslot⟩:=ok.ready hr;simp -implicitDefEqProofs only [EK,af,cM,ak,show (true=false)=False from eq_false (by decide),DS];rw [show (Value.int .i64 (n:Int))=aj n from rfl];have hg:=gtr3k n 20000;have hg:aA prog .gtr 3 (aj n) (.int .i64 20000)=_:=hg;simp -implicitDefEqProofs only [hg,ak,af,hrl];by_cases hlong:20000<n
    ·simp -implicitDefEqProofs only [DN hlong,af,DH hlong];exact ⟨_,h,rfl,x,xj,trivial,trivial,au.refl _ _,rfl⟩
    ·simp -implicitDefEqProofs only [DW hlong,DL hlong,r73 n h hn,af,r79 x xj h2 (fun _=>hfin),gtr3,ak];by_cases hfull:J.free D<br n
     ·simp -implicitDefEqProofs only [DN hfull,af,DH hfull];exact ⟨_,h,rfl,x,xj,trivial,trivial,au.refl _ _,rfl⟩
     ·have hcn:=mZ (n:=n) (by omega);obtain ⟨h1,e1,x1,b1,n1,k1⟩:=r176 x xj h2 ok.area ok.gen (at_:=J.fin) (by omega) hs hgd (by omega) hab;simp -implicitDefEqProofs only [DW hfull,DL hfull,af,av,ak,aw,DC,xj.l7,xj.l3,xj.l4,e1,c7];have xj1:cA h1 j d J:=xj.keep k1 (fun h=>h.elim (xj.tt x) (xj.me x));by_cases hz:(D.wrRec J.area J.gen J.fin cm).1=0
      ·rw [DH hz];have hst:bI 1 (ptr j 7) (aj (J.fin+br n)) h1=some (undef,h1.set j (({ J with fin:=J.fin+br n }:Jn).cells d)):=dO xj1.get (by simp [Jn.cells]) xj1.n0 rfl rfl;obtain ⟨k2,g2⟩:=gv (k':=({ J with fin:=J.fin+br n }:Jn).cells d) xj1.get xj1.n0;have hne:((D.wrRec J.area J.gen J.fin cm).1 != 0)=false:=by rw [hz];rfl
       simp -implicitDefEqProofs only [hne,af,av,ak,aw,DC,xj1.l7,cM];simp -implicitDefEqProofs only [r73 n h1 hn,af,sn (show J.fin+br n<=9223372036854775807 by omega),ak,av,aw,DC,hst,xj1.l7,
        dq (rfl:some (aj J.fin,h1)=some (aj J.fin,h1)) (show veq (aj J.fin) (aj J.fin)=true by simp [aj,veq]),EJ]
       have q:cA (h1.set j (({ J with fin:=J.fin+br n }:Jn).cells d)) j d { J with fin:=J.fin+br n }:=⟨g2,k2.n0▸xj1.n0,xj1.area⟩
       simp only [hr] at q;refine ⟨_,_,rfl,?_,by simpa only [hr] using q,b1,n1,(eV.jd k1).trans (k2.mono (fun c _ hc => .inl hc)),rfl⟩;exact k2.dk x1 (fun h=>(xj1.tt x1) h.symm) (fun h=>(xj1.me x1) h.symm)
      ·rw [DL hz];have hne:((D.wrRec J.area J.gen J.fin cm).1 != 0)=true:=by rw [H4];exact hz
       simp -implicitDefEqProofs only [hne,af];refine ⟨_,_,rfl,x1,xj1,b1,n1,eV.jd k1,?_⟩;rw [DL hz];rfl
 obtain ⟨v,h',e,f⟩:=key _ rfl;exact ⟨v,h',aI is122 rfl ((t122_eq _ _ _ _).trans e),f⟩
def cA.st {h:ae} {j d:Nat} {J:Jn} (xj:cA h j d J) (i:Nat) (v:Vl) (J':Jn) (hi:i<8) (hc:(J.cells d).set i v=J'.cells d) (hv:v.cells = #[v]) (h1:v.oneCell'=true) (ha:J'.area<=1) :
  ∃ h',bI 1 (ptr j i) v h=some (undef,h')/\cA h' j d J'/\au h h' (fun c=>c=j)/\h'.next=h.next:=by
 have hst:=dO (o:=i) (v:=v) xj.get (by simp [Jn.cells];omega) xj.n0 hv h1;obtain ⟨k,g⟩:=gv (k':=(J.cells d).set i v) xj.get xj.n0;rw [hc] at hst k g;exact ⟨_,hst,⟨g,k.n0▸xj.n0,ha⟩,k,rfl⟩
def mx64 (a b:Nat):minmax true (.int .u64 (a:Int)) [.int .u64 (b:Int)]=some (.int .u64 ((max a b:Nat):Int)):=by
 simp only [minmax,DV];by_cases hc:(b:Int)>(a:Int)
 ·rw [DH (by simpa using hc),Nat.max_eq_right (by omega)]
 ·rw [DL (by simpa using hc),Nat.max_eq_left (by omega)]
def gtr58 (a b:Nat):aA prog .gtr 52 (.int .u64 (a:Int)) (.int .u64 (b:Int))=some (.bool (decide (b<a))):=by rw [dD];exact FP (fun q=>some (Value.bool q)) (GH.2 (by omega))
def Jn.seeLog (D:Dk) (s at_:Nat) (J:Jn):Jn:=if iN at_ (D.jb s at_) then { J with known:=max J.known (cb (D.jb s at_)) } else J
def Jn.eY (D:Dk) (s:Nat):Nat->Nat->Jn->Jn
 | 0,_,J=>J
 |k+1,at_,J=>Jn.eY D s k (at_+1) (J.seeLog D s at_)
section
variable {h0:ae} {d j s:Nat} {D:Dk} {J0:Jn} (x:bC h0 d D) (hj:cA h0 j d J0) (h2:2<=D.n) (hs:s<=1)
def seeInv (h0:ae) (d j s:Nat) (D:Dk) (J0:Jn) (x:Nat->Vl) (k:Nat) (y:Nat->Vl) (g:ae):Prop:=
 ∃ at_ J,y 0=ptr d 0/\y 6=ptr j 0/\y 7=aj s/\y 83=aj D.ar/\y 84=aj at_/\y 37=x 37/\y 2=x 2/\y 3=x 3/\y 4=x 4/\at_+k=D.ar/\cA g j d J/\au h0 g (fun c=>c=j)/\Jn.eY D s k at_ J=Jn.eY D s D.ar 0 J0
def seeFin (h0:ae) (d j s:Nat) (D:Dk) (J0:Jn) (x:Nat->Vl) (ex:Ex) (y:Nat->Vl) (g:ae):Prop:=
 ex = .exit 2/\y 0=ptr d 0/\y 6=ptr j 0/\y 37=x 37/\y 2=x 2/\y 3=x 3/\y 4=x 4/\cA g j d (Jn.eY D s D.ar 0 J0)/\au h0 g (fun c=>c=j)
include x hj h2 hs
def see_round (x0:Nat->Vl) : ∀ k y g,seeInv h0 d j s D J0 x0 k y g->dE 131 (seeInv h0 d j s D J0 x0) (seeFin h0 d j s D J0 x0) k (dK CD y g):=by
 rintro k y g ⟨at_,J,i0,i6,i7,i83,i84,i37,i2,i3,i4,hk,hJ,hold,htar⟩;have hsm:=x.small;have har:D.ar=(D.n-2)/2:=rfl;have hjd:=hj.tt x;have hjb:=hj.me x;have xg:bC g d D:=hold.dk x (fun h=>hjd h.symm) (fun h=>hjb h.symm);unfold dK;simp -implicitDefEqProofs only [i84,i83,gS,ak,af];by_cases hz:k=0
 ·subst hz;simp -implicitDefEqProofs only [DW (show ¬at_<D.ar by omega)];exact dE.out 2 ⟨rfl,i0,i6,i37,i2,i3,i4,htar▸hJ,hold⟩
 ·obtain ⟨q,rfl⟩ : ∃ q,k=q+1:=⟨k-1,by omega⟩
  obtain ⟨a,n,c,g1,e1,e2,e3,e4,e5⟩:=r108 xg h2 hs (show at_<D.ar by omega);have hjbk:D.blk (2+s*D.ar+at_)=D.jb s at_:=rfl;rw [hjbk] at e1 e2;have g2p:(g1.alloc ic).get g1.next=some ic:=by rw [ae.aZ,DH rfl]
  have n02:(g1.alloc ic).n0<=g1.next:=g1.n0_le_next;generalize hcs:logC (cb (D.jb s at_)) (bZ (D.jb s at_)) (bj (D.jb s at_)) (.slice a n c)=cs at e1;have hst:bI 4 (ptr g1.next 0) (.agg cs.toArray) (g1.alloc ic)=some (undef,(g1.alloc ic).set g1.next cs):=by subst hcs;exact mT g2p n02 rfl rfl rfl
  obtain ⟨k3,g3p⟩:=gv (k':=cs) g2p n02;have k2:aK g1 (g1.alloc ic):=au.alloc g1 ic _;have k13:aK g ((g1.alloc ic).set g1.next cs):=(e4.trans k2).also k3 (fun c h1 h2=>by have:=e4.next;omega);have hlogz:g1.alloc [(.int .u64 0),(.int .i64 0),(.int .i64 0),(.slice none 0 0)]=g1.alloc ic:=rfl;generalize hg3:(g1.alloc ic).set g1.next cs=g3 at *;have l0:ld1 (ptr g1.next 0) g3=some (.int .u64 (cb (D.jb s at_)),g3):=by subst hcs;exact aH g3p rfl
  have hJ3:cA g3 j d J:=hJ.keep k13 (fun h=>h);have hold3:au h0 g3 (fun c=>c=j):=hold.also k13 (fun _ _ h=>h.elim);have hx0 : ∀ a b:Vl,extractA (.tuple #[a,b]) 0=some a:=fun _ _=>rfl;have hx1 : ∀ a b:Vl,extractA (.tuple #[a,b]) 1=some b:=fun _ _=>rfl;simp -implicitDefEqProofs only [DN (show at_<D.ar by omega),i0,i7,af,e1,hx0,hx1,ak,cO,Abs.newRow,hlogz,hst];have htar2:Jn.eY D s q (at_+1) (J.seeLog D s at_)=Jn.eY D s D.ar 0 J0:=htar;cases hc:iN at_ (D.jb s at_) with
  |false=>
   simp -implicitDefEqProofs only [af,eW (show at_+1<=9223372036854775807 by omega),ak];have hsee:J.seeLog D s at_=J:=by unfold Jn.seeLog;rw [hc];rfl
   rw [hsee] at htar2;exact dE.next q (by omega) ⟨at_+1,J,i0,i6,i7,i83,rfl,i37,i2,i3,i4,by omega,hJ3,hold3,htar2⟩
  |true=>
   have hsee:J.seeLog D s at_={ J with known:=max J.known (cb (D.jb s at_)) }:=by unfold Jn.seeLog;rw [hc];rfl
   obtain ⟨g4,f1,f2,f3,f4⟩:=hJ3.st 5 (.int .u64 ((max J.known (cb (D.jb s at_)):Nat):Int)) { J with known:=max J.known (cb (D.jb s at_)) } (by decide) rfl rfl rfl hJ.area;simp -implicitDefEqProofs only [i6,af,av,ak,aw,DC,hJ3.l5,l0,mx64,f1,eW (show at_+1<=9223372036854775807 by omega)];rw [hsee] at htar2;exact dE.next q (by omega) ⟨at_+1,_,i0,i6,i7,i83,rfl,i37,i2,i3,i4,by omega,f2,hold3.trans f3,htar2⟩
def see_loop {y:Nat->Vl} (i0:y 0=ptr d 0) (i6:y 6=ptr j 0) (i7:y 7=aj s) (i83:y 83=aj D.ar) (i84:y 84=aj 0) :
  Fin 131 (seeFin h0 d j s D J0 y) (iter (codeA prog CD (aq f57 [1,1,1,1,0,1,0,0,1,1,0,0,1,1,1,0,0])) az (aS 131 y) h0):=
 bL (lG CD) (see_round x hj h2 hs y) D.ar (by have:az=18446744073709551616:=rfl;have:=x.small;unfold Dk.ar;omega)
  ⟨0,J0,i0,i6,i7,i83,i84,rfl,rfl,rfl,rfl,DC _,hj,au.refl _ _,rfl⟩
end
def Jn.takeSuper (D:Dk) (s:Nat) (J:Jn):Jn:=if J.slot<0\/J.gen<bR (D.blk s) then { J with slot:=s,gen:=bR (D.blk s),area:=dC (D.blk s) } else J
def Jn.seeSuper (D:Dk) (s:Nat) (J:Jn):Jn:=if cC (D.blk s) then { J.takeSuper D s with known:=max J.known (bR (D.blk s)) } else J
def Jn.seeSlot (D:Dk) (s:Nat) (J:Jn):Jn:=Jn.eY D s D.ar 0 (J.seeSuper D s)
def Dk.jn0 (D:Dk) (turn:Int):Jn:={ turn:=turn,slot := -1,area:=0,gen:=0,known:=0,ready:=false,fin:=0 }
def Dk.openJ (D:Dk) (turn:Int):Jn:=((D.jn0 turn).seeSlot D 0).seeSlot D 1
def kO {b:List Nat} (h:cC b=true):dC b<=1:=by unfold cC at h;simp only [DD,DR] at h;exact h.2
section
variable {h0:ae} {d j:Nat} {D:Dk} {J0:Jn} (x:bC h0 d D) (hj:cA h0 j d J0) (h2:2<=D.n)
def mo (h0:ae) (d j:Nat) (D:Dk) (J0:Jn) (k:Nat) (y:Nat->Vl) (g:ae):Prop:=
 ∃ J,y 0=ptr d 0/\y 6=ptr j 0/\cA g j d J/\au h0 g (fun c=>c=j)/\((k=2/\y 37=aj 0/\J=J0)\/(k=1/\y 37=aj 1/\J=J0.seeSlot D 0)\/(k=0/\y 37=aj 2/\J=(J0.seeSlot D 0).seeSlot D 1))
def nG (h0:ae) (d j:Nat) (D:Dk) (J0:Jn) (ex:Ex) (y:Nat->Vl) (g:ae):Prop:=
 ex = .exit 0/\y 0=ptr d 0/\y 6=ptr j 0/\cA g j d ((J0.seeSlot D 0).seeSlot D 1)/\au h0 g (fun c=>c=j)
include x hj h2
def qX {s k:Nat} (hs:s<=1) {y:Nat->Vl} {g:ae} {J:Jn} (i0:y 0=ptr d 0) (i6:y 6=ptr j 0) (i7:y 7=aj s) (i83:y 83=aj D.ar) (i84:y 84=aj 0) (i37:y 37=aj s) (hJ:cA g j d J) (hold:au h0 g (fun c=>c=j))
  (hnext : ∀ y' g',y' 0=ptr d 0->y' 6=ptr j 0->y' 37=aj (s+1)->cA g' j d (Jn.eY D s D.ar 0 J)->au h0 g' (fun c=>c=j)->dE 131 (mo h0 d j D J0) (nG h0 d j D J0) k (some (.normal,aS 131 y',g'))) :
  dE 131 (mo h0 d j D J0) (nG h0 d j D J0) k (dH (iter (codeA prog CD (aq f57 [1,1,1,1,0,1,0,0,1,1,0,0,1,1,1,0,0])) az (aS 131 y) g) (fun e h=>some (Ex.ret,e,h)) (u0 CD)):=by
 have xg:bC g d D:=hold.dk x (fun h=>(hj.tt x) h.symm) (fun h=>(hj.me x) h.symm);refine cH (Q:=fun o=>dE 131 (mo h0 d j D J0) (nG h0 d j D J0) k o) (see_loop xg hJ h2 hs i0 i6 i7 i83 i84) ?_;rintro ex y' g' ⟨rfl,f0,f6,f37,_,_,_,fJ,fk⟩;simp -implicitDefEqProofs only [bh,u0,DV,Ck];unfold uz;rw [f37,i37];simp -implicitDefEqProofs only [eW (show s+1<=9223372036854775807 by omega),ak,af];exact hnext _ g' f0 f6 rfl fJ (hold.trans fk)
def slot_round : ∀ k y g,mo h0 d j D J0 k y g->dE 131 (mo h0 d j D J0) (nG h0 d j D J0) k (ff CD y g):=by
 rintro k y g ⟨J,i0,i6,hJ,hold,hcase⟩;have hsm:=x.small;have xg:bC g d D:=hold.dk x (fun h=>(hj.tt x) h.symm) (fun h=>(hj.me x) h.symm);have main : ∀ s,s<=1->y 37=aj s->(∀ y' g',y' 0=ptr d 0->y' 6=ptr j 0->y' 37=aj (s+1)->cA g' j d (J.seeSlot D s)->au h0 g' (fun c=>c=j)->dE 131 (mo h0 d j D J0) (nG h0 d j D J0) k (some (.normal,aS 131 y',g'))) ->
   dE 131 (mo h0 d j D J0) (nG h0 d j D J0) k (ff CD y g):=by
  intro s hs i37 hnext;obtain ⟨g1,e1,o1⟩:=r106 xg (show s<D.n by omega);have hJ1:cA g1 j d J:=hJ.keep o1 (fun h=>h);have hold1:au h0 g1 (fun c=>c=j):=hold.also o1 (fun _ _ h=>h.elim);have xg1:=aK.dk o1 xg;have hx0 : ∀ a b c:Vl,extractA (.tuple #[a,b,c]) 0=some a:=fun _ _ _=>rfl;have hx1 : ∀ a b c:Vl,extractA (.tuple #[a,b,c]) 1=some b:=fun _ _ _=>rfl;have hx2 : ∀ a b c:Vl,extractA (.tuple #[a,b,c]) 2=some c:=fun _ _ _=>rfl;have hlt:aA prog .lss 3 (aj s) (.int .i64 2)=some (.bool true):=by have:=gS s 2;rw [DN (by omega)] at this;exact this
  have hsee:J.seeSlot D s=Jn.eY D s D.ar 0 (J.seeSuper D s):=rfl;unfold ff;simp -implicitDefEqProofs only [i37,hlt,ak,af,i0,e1,hx0,hx1,hx2];cases hok:cC (D.blk s) with
  |false=>
   have hss:J.seeSuper D s=J:=by unfold Jn.seeSuper;rw [hok];rfl
   rw [hss] at hsee;simp -implicitDefEqProofs only [af,vO xg1 h2];exact qX x hj h2 (s:=s) hs i0 i6 rfl rfl rfl i37 hJ1 hold1 (fun y' g' a1 a2 a3 a4 a5=>hnext y' g' a1 a2 a3 (hsee▸a4) a5)
  |true=>
   have hss:J.seeSuper D s={ J.takeSuper D s with known:=max J.known (bR (D.blk s)) }:=by unfold Jn.seeSuper;rw [hok];rfl
   simp -implicitDefEqProofs only [af,i6,av,ak,aw,DC,hJ1.l2,cx,aR];by_cases hc:J.slot<0\/J.gen<bR (D.blk s)
   ·have htk:J.takeSuper D s={ J with slot:=s,gen:=bR (D.blk s),area:=dC (D.blk s) }:=by unfold Jn.takeSuper;rw [DH hc]
    rw [htk] at hss;obtain ⟨g2,a1,a2,a3,a4⟩:=hJ1.st 2 (aj s) { J with slot:=s } (by decide) rfl rfl rfl hJ.area;obtain ⟨g3,b1,b2,b3,b4⟩:=a2.st 4 (.int .u64 (bR (D.blk s))) { J with slot:=s,gen:=bR (D.blk s) } (by decide) rfl rfl rfl hJ.area;obtain ⟨g4,c1,c2,c3,c4⟩:=b2.st 3 (aj (dC (D.blk s))) { J with slot:=s,gen:=bR (D.blk s),area:=dC (D.blk s) } (by decide) rfl rfl rfl (kO hok);obtain ⟨g5,d1,d2,d3,d4⟩:=c2.st 5 (.int .u64 ((max J.known (bR (D.blk s)):Nat):Int)) { J with slot:=s,gen:=bR (D.blk s),area:=dC (D.blk s),known:=max J.known (bR (D.blk s)) } (by decide) rfl rfl rfl (kO hok);have hold5:au h0 g5 (fun c=>c=j):=(((hold1.trans a3).trans b3).trans c3).trans d3;have xg5:bC g5 d D:=hold5.dk x (fun h=>(hj.tt x) h.symm) (fun h=>(hj.me x) h.symm);have hl5:ld1 (ptr j 5) g4=some (.int .u64 J.known,g4):=c2.l5;have hfin:dE 131 (mo h0 d j D J0) (nG h0 d j D J0) k (dH (iter (codeA prog CD (aq f57 [1,1,1,1,0,1,0,0,1,1,0,0,1,1,1,0,0])) az (aS 131 y) g5) (fun e h=>some (Ex.ret,e,h)) (u0 CD))->True:=fun _=>trivial;by_cases hc1:J.slot<0
    ·simp -implicitDefEqProofs only [hc1,GQ,sf,aX,af,DV,av,ak,aw,DC,a1,b1,c1,hl5,mx64,d1,vO xg5 h2];exact qX x hj h2 (s:=s) hs i0 i6 rfl rfl rfl i37 d2 hold5 (fun y' g' a1 a2 a3 a4 a5=>hnext y' g' a1 a2 a3 (hsee▸hss▸a4) a5)
    ·have hc2:J.gen<bR (D.blk s):=hc.resolve_left hc1;simp -implicitDefEqProofs only [hc1,FA,DP,aD,af,av,ak,aw,DC,hJ1.l4,gtr58,DB,DS,hc2,GQ,a1,b1,c1,hl5,mx64,d1,vO xg5 h2];exact qX x hj h2 (s:=s) hs i0 i6 rfl rfl rfl i37 d2 hold5 (fun y' g' a1 a2 a3 a4 a5=>hnext y' g' a1 a2 a3 (hsee▸hss▸a4) a5)
   ·have htk:J.takeSuper D s=J:=by unfold Jn.takeSuper;rw [DL hc]
    rw [htk] at hss;have hc1 : ¬J.slot<0:=fun h=>hc (.inl h);have hc2 : ¬J.gen<bR (D.blk s):=fun h=>hc (.inr h);obtain ⟨g5,d1,d2,d3,d4⟩:=hJ1.st 5 (.int .u64 ((max J.known (bR (D.blk s)):Nat):Int)) { J with known:=max J.known (bR (D.blk s)) } (by decide) rfl rfl rfl hJ.area;have hold5:au h0 g5 (fun c=>c=j):=hold1.trans d3;have xg5:bC g5 d D:=hold5.dk x (fun h=>(hj.tt x) h.symm) (fun h=>(hj.me x) h.symm);simp -implicitDefEqProofs only [hc1,FA,DP,aD,af,av,ak,aw,DC,hJ1.l4,gtr58,DB,DS,hc2,hJ1.l5,mx64,d1,vO xg5 h2];exact qX x hj h2 (s:=s) hs i0 i6 rfl rfl rfl i37 d2 hold5 (fun y' g' a1 a2 a3 a4 a5=>hnext y' g' a1 a2 a3 (hsee▸hss▸a4) a5)
 rcases hcase with ⟨rfl,i37,rfl⟩|⟨rfl,i37,rfl⟩|⟨rfl,i37,rfl⟩
 ·exact main 0 (by decide) i37 (fun y' g' a1 a2 a3 a4 a5=>dE.next 1 (by decide) ⟨_,a1,a2,a4,a5,.inr (.inl ⟨rfl,a3,rfl⟩)⟩)
 ·exact main 1 (by decide) i37 (fun y' g' a1 a2 a3 a4 a5=>dE.next 0 (by decide) ⟨_,a1,a2,a4,a5,.inr (.inr ⟨rfl,a3,rfl⟩)⟩)
 ·have hlt:aA prog .lss 3 (aj 2) (.int .i64 2)=some (.bool false):=by have:=gS 2 2;rw [DW (by omega)] at this;exact this
  unfold ff;simp -implicitDefEqProofs only [i37,hlt,ak,af];exact dE.out 0 ⟨rfl,i0,i6,hJ,hold⟩
end
def EntAt (h:ae) (N:Nat) (cells:List Vl) (i:Nat) (e:Nat×List Nat):Prop:=
 cells[2*i]? = some (aj e.1) /\ ∃ a n c,cells[2*i+1]? = some (.slice a n c)/\ao a n h=some e.2/\cw a n c=true /\ ∀ y,a=some y->0<n->N<=y.block
def gJ (h:ae) (N:Nat) (cells:List Vl) (ents:List (Nat×List Nat)):Prop:=cells.length=2*ents.length /\ ∀ i e,ents[i]? = some e->EntAt h N cells i e
def gJ.keep {h h':ae} {N:Nat} {cells:List Vl} {ents:List (Nat×List Nat)} (E:gJ h N cells ents) {B:Nat->Prop} (k:au h h' B) (hB : ∀ b,B b->AQ h b):gJ h' N cells ents:=by refine ⟨E.1,fun i e he => ?_⟩;obtain ⟨h1,a,n,c,h2,h3,h4,h5⟩:=E.2 i e he;exact ⟨h1,a,n,c,h2,k.uJ hB h3,h4,h5⟩
def gJ.nil (h:ae) (N:Nat):gJ h N [] []:=⟨rfl,fun i e he=>by simp at he⟩
def gJ.plain {h:ae} {N:Nat} {cells:List Vl} {ents:List (Nat×List Nat)} (E:gJ h N cells ents) : ∀ v∈cells,nat8 v=none:=by
 intro v hv;obtain ⟨q,hq⟩:=H7 hv;have hl:=(DZ.1 hq).1;rw [E.1] at hl;have hi:q/2<ents.length:=by omega
 obtain ⟨h1,a,n,c,h2,_⟩:=E.2 (q/2) ents[q/2] (DE hi);rcases Nat.mod_two_eq_zero_or_one q with h0|h0
 ·rw [show 2*(q/2)=q by omega,hq] at h1;cases h1;rfl
 ·rw [show 2*(q/2)+1=q by omega,hq] at h2;cases h2;rfl
def gJ.snoc {h:ae} {N:Nat} {cells:List Vl} {ents:List (Nat×List Nat)} (E:gJ h N cells ents) {at_:Nat} {l:List Nat} {a:Option Addr} {n c:Nat} (hs:ao a n h=some l) (hg:cw a n c=true) (ha : ∀ y,a=some y->0<n->N<=y.block) :
  gJ h N (cells ++ [aj at_,.slice a n c]) (ents ++ [(at_,l)]):=by
 refine ⟨by simp [E.1];omega,fun i e he => ?_⟩;have hl:=E.1;by_cases hi:i<ents.length
 ·rw [EI hi] at he;obtain ⟨h1,a',n',c',h2,h3⟩:=E.2 i e he;exact ⟨by rw [EI (by omega)];exact h1,a',n',c',by rw [EI (by omega)];exact h2,h3⟩
 ·rw [DX (by omega)] at he;have:i=ents.length:=by have:=(DZ.1 he).1;simp at this;omega
  subst this;rw [HZ] at he;cases he;refine ⟨by rw [DX (by omega),hl,HZ];rfl,a,n,c,?_,hs,hg,ha⟩;rw [DX (by omega),hl,FY];rfl
def Dk.ents (D:Dk) (J:Jn):Nat->Nat->List (Nat×List Nat)
 | 0,_ => []
 |k+1,at_=>if at_<D.ar then if J.stands D at_ then (at_,D.data J.area at_ (D.parts J.area at_))::D.ents J k (at_+D.parts J.area at_) else D.ents J k (at_+1) else []
def Dk.ents_end {D:Dk} {J:Jn} {at_:Nat} (h:D.ar<=at_) : ∀ k,D.ents J k at_ = []
 | 0=>rfl
 |k+1=>by unfold Dk.ents;rw [DL (by omega)]
def Jn.nJ {J:Jn} {D:Dk} {at_:Nat} (hat:at_<D.ar):J.stands D at_=(decide (0<=J.slot)&&D.stands J.area J.gen at_):=by unfold Jn.stands;rw [Int.toNat_natCast,DN (show (0:Int)<=(at_:Int) by omega),DN (show (at_:Int)<(D.ar:Int) by omega),EJ,EJ]
def r109 {h:ae} {d j:Nat} {D:Dk} {J:Jn} (x:bC h d D) (xj:cA h j d J) (h2:2<=D.n) {at_:Nat} (hat:at_<D.ar) :
  (J.stands D at_=false /\ ∃ h',CD 109 [ptr j 0,aj at_] h=some (.tuple #[.slice none 0 0,aj 0],h')/\aK h h') \/
  (J.stands D at_=true /\ ∃ v h',CD 109 [ptr j 0,aj at_] h=some (.tuple #[v,aj (D.parts J.area at_)],h')/\aK h h'/\jo h' h.next v (D.data J.area at_ (D.parts J.area at_))):=by
 rw [Jn.nJ hat];by_cases hs:0<=J.slot
 ·rw [DN hs,EU];exact xq x xj h2 hs hat
 ·rw [DW hs,E0];exact .inl ⟨rfl,h,zb x xj h2 at_ (.inl (by omega)),au.refl _ _⟩
section
variable {h0:ae} {d j:Nat} {D:Dk} {J:Jn} (x:bC h0 d D) (xj:cA h0 j d J) (h2:2<=D.n)
def entInv (h0:ae) (d j:Nat) (D:Dk) (J:Jn) (k:Nat) (y:Nat->Vl) (g:ae):Prop:=
 ∃ at_ cells done,y 0=ptr d 0/\y 6=ptr j 0/\y 15=aj at_/\cG g h0.next 2 (y 14) done.length cells/\gJ g h0.next cells done/\aK h0 g/\at_<=D.ar/\D.ar<=at_+k/\done++D.ents J k at_=D.ents J D.ar 0/\done.length<=at_
def entFin (h0:ae) (j:Nat) (D:Dk) (J:Jn) (ex:Ex) (y:Nat->Vl) (g:ae):Prop:=
 ex = .exit 4/\y 6=ptr j 0 /\ ∃ cells,cG g h0.next 2 (y 14) (D.ents J D.ar 0).length cells/\gJ g h0.next cells (D.ents J D.ar 0)/\aK h0 g
include x xj h2
def ent_round : ∀ k y g,entInv h0 d j D J k y g->dE 131 (entInv h0 d j D J) (entFin h0 j D J) k (hZ CD y g):=by
 rintro k y g ⟨at_,cells,done,i0,i6,i15,own,E,hold,hle,hk,hents,hdl⟩;have hsm:=x.small;have har:D.ar=(D.n-2)/2:=rfl;have xg:=aK.dk hold x;have jg:=xj.keep hold (fun h=>h);unfold hZ;simp -implicitDefEqProofs only [i15,i0,af,vO xg h2,gS,ak];by_cases hlt:at_<D.ar
 ·obtain ⟨q,rfl⟩ : ∃ q,k=q+1:=⟨k-1,by omega⟩
  have hx0 : ∀ a b:Vl,extractA (.tuple #[a,b]) 0=some a:=fun _ _=>rfl;have hx1 : ∀ a b:Vl,extractA (.tuple #[a,b]) 1=some b:=fun _ _=>rfl;have hg0 : ∀ p:Nat,aA prog .gtr 3 (aj p) (.int .i64 0)=some (.bool (decide (0<p))):=fun p=>gtr3 p 0;have hents2:D.ents J (q+1) at_=if J.stands D at_ then (at_,D.data J.area at_ (D.parts J.area at_))::D.ents J q (at_+D.parts J.area at_) else D.ents J q (at_+1):=by show (if at_<D.ar then _ else _)=_;rw [DH hlt]
  rw [hents2] at hents;rcases r109 xg jg h2 hlt with ⟨hst,g1,e1,o1⟩|⟨hst,v,g1,e1,o1,ob⟩
  ·rw [hst] at hents;have hmx:minmax true (aj 0) [.int .i64 1]=some (aj 1):=rfl;simp -implicitDefEqProofs only [DN hlt,i6,af,e1,hx0,hx1,ak,hg0,GZ,FA,hmx,sn (show at_+1<=9223372036854775807 by omega)];exact dE.next q (by omega) ⟨at_+1,cells,done,i0,i6,rfl,own.keep o1 (fun _ _ h=>h),E.keep o1 (fun _ h=>h.elim),hold.trans o1,by omega,by omega,hents,by omega⟩
  ·rw [hst,DH rfl] at hents;have hpos:1<=D.parts J.area at_/\at_+D.parts J.area at_<=D.ar:=by rw [Jn.nJ hlt,DD] at hst;exact Dk.r8 hst.2
   generalize hp:D.parts J.area at_=p at *;generalize hdat:D.data J.area at_ p=l at *;obtain ⟨a,c,rfl,s1,s2,s3,s4⟩:=ob.bytes;have hmx:minmax true (aj p) [.int .i64 1]=some (aj p):=by simp only [minmax,aj,DV];rw [DL (by have:=hpos.1;simp;omega)]
   have hbl:cN [(.int .i64 0),(.slice none 0 0)] [(0,1,aj at_),(1,1,.slice a l.length c)]=some (.agg [aj at_,.slice a l.length c].toArray):=rfl;have hbs:gK 2 (.agg #[(.int .i64 0),(.slice none 0 0)]) 1 [(0,.agg [aj at_,.slice a l.length c].toArray)] g1=some (.slice (some ⟨g1.next,0,none⟩) 1 1,g1.alloc [aj at_,.slice a l.length c]):=rfl;have oA:aK g1 (g1.alloc [aj at_,.slice a l.length c]):=au.alloc _ _ _;have gA:(g1.alloc [aj at_,.slice a l.length c]).get g1.next=some [aj at_,.slice a l.length c]:=by rw [ae.aZ,DH rfl]
   have ownA:=(own.keep o1 (fun _ _ h=>h)).keep oA (fun _ _ h=>h);have EA:=(E.keep o1 (fun _ h=>h.elim)).keep oA (fun _ h=>h.elim);have holdA:aK h0 (g1.alloc [aj at_,.slice a l.length c]):=(hold.trans o1).trans oA;have sA:=aK.bytes oA s1;generalize hgA:g1.alloc [aj at_,.slice a l.length c]=gA1 at *;have hfA:firstA 2 1 (.slice (some ⟨g1.next,0,none⟩) 1 1) gA1=some [aj at_,.slice a l.length c]:=by simp only [firstA,gA];rfl
   obtain ⟨v',g4,f1,f2,f3,f4⟩:=iK (by_:=32) (x := .slice (some ⟨g1.next,0,none⟩) 1 1) (m:=1) ownA (by rw [holdA.n0];exact h0.n0_le_next) holdA.next (by decide) rfl hfA rfl rfl rfl (by omega) (by omega);have pl : ∀ b,cF (y 14)=some b/\gA1.get b=some cells->AQ gA1 b:=fun b hb=>⟨cells,hb.2,EA.plain⟩
   have s5:=f3.uJ pl sA;have E5:=EA.keep f3 pl;have hN:h0.next<=g.next:=hold.next;simp -implicitDefEqProofs only [DN hlt,i6,af,e1,hx0,hx1,ak,hg0,DN (show 0<p by omega),hbl,hbs,f1,hmx,sn (show at_+p<=9223372036854775807 by omega)];refine dE.next q (by omega) ⟨at_+p,cells ++ [aj at_,.slice a l.length c],done ++ [(at_,l)],i0,i6,rfl,?_,E5.snoc s5 s2 (fun y hy _=>D9 hN (s3 y hy)),?_,by omega,by omega,?_,?_⟩
   ·rw [DO];exact f2
   ·exact holdA.also f3 (fun c hc hb=>by have:=ownA.cK hb.1;omega)
   ·rw [DY];exact hents
   ·rw [DO];show done.length+1<=_;omega
 ·simp -implicitDefEqProofs only [DW hlt];rw [D.ents_end (by omega) k,GC] at hents;refine dE.out 4 ⟨rfl,i6,cells,?_,?_,hold⟩
  ·rw [<-hents];exact own
  ·rw [<-hents];exact E
end
def Dk.opened (D:Dk):Dk:={ D with turn:=IntKind.wrap .i64 (D.turn+1) }
def is57:bE prog 57 f57 := .of (by kernel_rfl)
def Dk.jn (D:Dk):Jn:=D.opened.openJ D.opened.turn
def Dk.entries (D:Dk):List (Nat×List Nat):=D.opened.ents D.jn D.ar 0
def r57 {h:ae} {d:Nat} {D:Dk} (x:bC h d D) (h2:2<=D.n) (hd:D.down=false) :
  ∃ j v cells N h',CD 57 [ptr d 0] h=some (.tuple #[ptr j 0,v,.int .i64 0],h')/\bC h' d D.opened/\cA h' j d D.jn/\cG h' N 2 v D.entries.length cells/\gJ h' N cells D.entries/\au h h' (fun c=>c=d)/\h.next<=j/\j<N/\N<=h'.next:=by
 have hf:D.fault 0=0:=by unfold Dk.fault;rw [hd,DL (by simp),DL (by omega)]
 have e53:CD 105 [ptr d 0,.int .i64 0] h=some (.int .i64 0,h):=by rw [r105 0 x,hf]
 have hst:=x.s5 (IntKind.wrap .i64 (D.turn+1));have x1:bC (h.set d D.opened.hdr) d D.opened:=x.setHdr ⟨rfl,rfl,rfl⟩ x.after x.keep;have hst:bI 1 (ptr d 5) (.int .i64 (IntKind.wrap .i64 (D.turn+1))) h=some (undef,h.set d D.opened.hdr):=hst;have k1:au h (h.set d D.opened.hdr) (fun c=>c=d):=au.set x.dn x.hdr (.inr rfl);have hn1:(h.set d D.opened.hdr).next=h.next:=rfl;have hdlt:=x.lt;generalize hh1:h.set d D.opened.hdr=h1 at *;have hl5:ld1 (ptr d 5) h1=some (.int .i64 D.opened.turn,h1):=x1.l5;have hbl:cN zlit3 [(0,1,ptr d 0),(1,1,.int .i64 D.opened.turn),(2,1,(.int .i64 (-1)))]=some (.agg ((D.opened.jn0 D.opened.turn).cells d).toArray):=rfl;have hbox:=lC h1 ((D.opened.jn0 D.opened.turn).cells d) rfl;have oA:aK h1 (h1.alloc ((D.opened.jn0 D.opened.turn).cells d)):=au.alloc _ _ _;have xA:=aK.dk oA x1;have jA:cA (h1.alloc ((D.opened.jn0 D.opened.turn).cells d)) h1.next d (D.opened.jn0 D.opened.turn):=⟨by rw [ae.aZ,DH rfl],h1.n0_le_next,by show (0:Nat)<=1;omega⟩
 have nA:(h1.alloc ((D.opened.jn0 D.opened.turn).cells d)).next=h1.next+1:=ae.jB ..;have kA:au h (h1.alloc ((D.opened.jn0 D.opened.turn).cells d)) (fun c=>c=d):=k1.also oA (fun _ _ h=>h.elim);have h2':2<=D.opened.n:=h2;have hr:(131:Nat)<az:=by have:az=18446744073709551616:=rfl;omega
 generalize hhA:h1.alloc ((D.opened.jn0 D.opened.turn).cells d)=hA at *;have key : ∀ o:aY,t57 CD (ptr d 0) h=o -> ∃ v cells N h',o=some (.tuple #[ptr h1.next 0,v,.int .i64 0],h')/\bC h' d D.opened/\cA h' h1.next d D.jn/\cG h' N 2 v D.entries.length cells/\gJ h' N cells D.entries/\au h h' (fun c=>c=d)/\h1.next<N/\N<=h'.next:=by
  intro o ho;subst ho;unfold t57;simp -implicitDefEqProofs only [af,e53,ak,c7,ED,av,aw,DC,x.l5,eR,hst,hl5,hbl,hbox];refine cH (Q:=fun (o:aY) => ∃ v cells N h',o=some (.tuple #[ptr h1.next 0,v,.int .i64 0],h')/\bC h' d D.opened/\cA h' h1.next d D.jn/\cG h' N 2 v D.entries.length cells/\gJ h' N cells D.entries/\au h h' (fun c=>c=d)/\h1.next<N/\N<=h'.next)
   (bL (tN CD) (slot_round xA jA h2') 2 (by omega) ⟨D.opened.jn0 D.opened.turn,rfl,rfl,jA,au.refl _ _,.inl ⟨rfl,rfl,rfl⟩⟩) ?_
  rintro ex y g ⟨rfl,f0,f6,fJ,fk⟩;have xg:bC g d D.opened:=fk.dk xA (fun h=>(jA.tt xA) h.symm) (fun h=>(jA.me xA) h.symm);have kg:au h g (fun c=>c=d):=kA.also fk (fun c hc he=>by omega);have hgn:h1.next<g.next:=by have:=fk.next;omega
  simp -implicitDefEqProofs only [bh,b57_9,DV,t57k57_7_eq];unfold yH;simp -implicitDefEqProofs only [af];refine cH (Q:=fun (o:aY) => ∃ v cells N h',o=some (.tuple #[ptr h1.next 0,v,.int .i64 0],h')/\bC h' d D.opened/\cA h' h1.next d D.jn/\cG h' N 2 v D.entries.length cells/\gJ h' N cells D.entries/\au h h' (fun c=>c=d)/\h1.next<N/\N<=h'.next)
   (bL (rn CD) (ent_round xg fJ h2') D.opened.ar (by have:az=18446744073709551616:=rfl;have:=xg.small;unfold Dk.ar;omega) ⟨0,[],[],f0,f6,rfl,cG.nil _ _ _,gJ.nil _ _,au.refl _ _,FL _,by omega,rfl,DG _⟩) ?_
  rintro ex z g2 ⟨rfl,q6,cells,q1,q2,q3⟩;refine ⟨z 14,cells,g.next,g2,?_,aK.dk q3 xg,fJ.keep q3 (fun h=>h),q1,q2,kg.also q3 (fun _ _ h=>h.elim),hgn,q3.next⟩;simp -implicitDefEqProofs only [bh,b57_13,DV,Cz];unfold uB;simp -implicitDefEqProofs only [af,q6]
 obtain ⟨v,cells,N,h',e,a1,a2,a3,a4,a5,a6,a7⟩:=key _ rfl;exact ⟨h1.next,v,cells,N,h',aI is57 rfl ((t57_eq _ _ _).trans e),a1,a2,a3,a4,a5,by omega,a6,a7⟩
end
end Go.Proofs.YtdhpgacmgebjdaaGreatDoor.W
