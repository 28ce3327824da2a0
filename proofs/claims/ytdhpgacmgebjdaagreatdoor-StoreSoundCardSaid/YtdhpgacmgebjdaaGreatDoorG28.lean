/-
  A part of the proof, shortened by a program.
  Conditions: as each theorem states.
-/
import Derived.Test.YtdhpgacmgebjdaaGreatDoorG27
import Derived.LaidLaws
import Derived.ProofKit
set_option linter.all false
namespace Go.Proofs.YtdhpgacmgebjdaaGreatDoor.W
open Go Go.Abs Tryz R
open Go.ChangeShapes Go.WideShapes Go.ChangeAt Go.RowKit
noncomputable section
def goodZ (a:Option Addr) (n c:Nat):Prop:=ct a n c=true\/(n=0/\c=0 /\ ∀ y,a=some y->y.spot=some 0)
def goodZ_spot {a:Addr} {n c:Nat} (h:n<=c) (hs:a.spot=none\/(c=0/\a.spot=some 0)):goodZ (some a) n c:=by
 rcases hs with hs|⟨rfl,hs⟩
 ·left;obtain ⟨b,off,s⟩:=a;have hs:s=none:=hs;subst hs;unfold ct;rw [FV h];rfl
 ·exact .inr ⟨by omega,rfl,fun y hy=>by cases hy;exact hs⟩
def B9 (h:ae) (v:Vl) (l:List Nat):Prop := ∃ a n c,v = .slice a n c/\aq a n h=some l/\n<=maxLen/\goodZ a n c
def cells5:prog.cellsOf 5=1:=by kernel_rfl
section
variable {H:Type} {enc:TypeId×Vl->H} {W:World} {base:Nat} {held:Bool}
def uZ {n:Nat} {v:Vl} (h:nice n v=true):clean n v=v:=by unfold clean;rw [DR h]
def tO {a:Addr} {len cap:Nat} (hlc:len<=cap) (hc:0<cap->a.spot=none/\a.block<W.heap.size) :
  cw (clean W.heap.size (.slice (some a) len cap))=false /\ ∃ a' ,clean W.heap.size (.slice (some a) len cap) = .slice (some a') len cap/\(0<cap->a'=a)/\(a'.spot=none\/(cap=0/\a'.spot=some 0)):=by
 obtain ⟨b,off,s⟩:=a;by_cases h0:0<cap
 ·obtain ⟨h1,h2⟩:=hc h0;have h1':s=none:=h1;have h2':b<W.heap.size:=h2;subst h1';have hn:nice W.heap.size (.slice (some ⟨b,off,none⟩) len cap)=true:=by simpa [nice] using h2'
  rw [uZ hn];exact ⟨rfl,_,rfl,fun _=>rfl,.inl rfl⟩
 ·obtain rfl:cap=0:=by omega
  obtain rfl:len=0:=by omega
  by_cases hn:nice W.heap.size (.slice (some ⟨b,off,s⟩) 0 0)=true
  ·rw [uZ hn];refine ⟨rfl,_,rfl,fun h=>absurd h h0,.inl ?_⟩;cases s with
   |none=>rfl
   |some s=>simp [nice,flat] at hn
  ·have:clean W.heap.size (.slice (some ⟨b,off,s⟩) 0 0) = .slice (some ⟨0,0,some 0⟩) 0 0:=by unfold clean;rw [DU hn];rfl
   rw [this];exact ⟨rfl,_,rfl,fun h=>absurd h h0,.inr ⟨rfl,rfl⟩⟩
def zm {h:ae} {b off len:Nat} {s:Option Nat} {k:eW} {l:List Nat} (hk:h.get b=some k) (hlen:l.length=len) (hb : ∀ x∈l,x<256) (hc : ∀ i,i<len->k[off+i]? = some (u8 (l.getD i 0))) :
  aq (some ⟨b,off,s⟩) len h=some l:=by
 unfold aq;rw [D4];refine ⟨l.map u8,?_,gf hb⟩;simp only [firstA,hk,FQ];by_cases h0:len=0
 ·subst h0;have:l = []:=EE.1 hlen;subst this;rfl
 ·have hcells:(k.drop off).take len=l.map u8:=by
   apply FA;intro i;rw [FJ,FH,EG];by_cases hi:i<len
   ·rw [DR hi,hc i hi,DV,DL (by omega)];rfl
   ·rw [DU hi,ER (by omega)];rfl
  have hl2:off+len<=k.length:=by have:=hc (len-1) (by omega);have:=(D9.1 this).1;omega
  rw [DU h0,DR ⟨hl2,by rw [hcells];exact fT _⟩,hcells]
def yb {fuel:Nat} {v:Vl} {x:DataW H×List MemPlace} (h:DataW.trod enc prog W base (fun _=>true) held fuel 22 [v]=some x) :
  cw (clean W.heap.size v)=false /\ ∃ l,B9 (dO W (view W)) (clean W.heap.size v) l:=by
 rcases open_ints Tryz.underlying22 Tryz.underlying5 cells5 h with ⟨h1,_⟩|⟨a,len,cap,zs,h1,_,hlc,hcm,hzl,_,hcell,hwf⟩
 ·cases h1;exact ⟨rfl,[],none,0,0,rfl,rfl,FB _,.inl rfl⟩
 ·cases h1;simp only [D8] at hzl;have hpos:0<cap->a.spot=none/\a.block<W.heap.size:=by intro h0;obtain ⟨e1,e2,_⟩:=qu (hcell 0 (by omega));exact ⟨e1,e2⟩
  obtain ⟨g1,a',g2,g3,g4⟩:=tO (W:=W) hlc hpos;refine ⟨g1,((zs.take len).map Int.toNat),a',len,cap,g2,?_,by omega,goodZ_spot hlc g4⟩;by_cases h0:0<cap
  ·have ha:=g3 h0;subst ha;obtain ⟨b,off,s⟩:=a';obtain ⟨e1,_⟩:=hpos h0;have e1':s=none:=e1;subst e1';have get : ∀ i,i<cap -> ∃ k,view W b=some k/\k[off+i]? = some (.int .u8 (zs.getD i 0)):=by intro i hi;have g:=hcell i (by omega);rw [Addr.add_lit] at g;obtain ⟨_,_,k,hk,hc⟩:=qu g;exact ⟨k,hk,hc⟩
   obtain ⟨k,hk,_⟩:=get 0 h0;refine zm (k:=k) (by rw [tN];exact hk) (by simp;omega) ?_ ?_
   ·intro y hy;obtain ⟨z,hz,rfl⟩:=EL.1 hy;obtain ⟨m,rfl,hm⟩:=u8_lit (hwf z (EH hz));simpa using hm
   ·intro i hi;obtain ⟨k',hk',hc⟩:=get i (by omega);rw [hk] at hk';cases hk';rw [hc];have hz:zs[i]? = some (zs.getD i 0):=by rw [DV,DL (by omega)];rfl
    obtain ⟨m,hm,_⟩:=u8_lit (hwf _ (EC hz));have e2:((zs.take len).map Int.toNat).getD i 0=m:=by rw [DV,EG,FJ,DR hi,hz];simp only [Option.map_some,Option.getD_some,hm,Int.toNat_natCast]
    rw [e2,hm]
  ·obtain rfl:len=0:=by omega
   rfl
def B9.bs {h:ae} {v:Vl} {l:List Nat} (x:B9 h v l):BS h v l:=by
 obtain ⟨a,n,c,rfl,s,_,g⟩:=x;refine .of s (fun hn => ?_);rcases g with g|⟨hz,_⟩
 ·exact g
 ·omega
def i64_of {cs:List Vl} {p fuel:Nat} {x:DataW H×List MemPlace} (h:DataW.trod enc prog W base (fun _=>true) held fuel 3 ((cs.drop p).take 1)=some x) : ∃ n:Int,cs[p]? = some (.int .i64 n):=by
 obtain ⟨n,e,_⟩:=DataW.trod_int Tryz.underlying3 h;exact ⟨n,by have:=E2 (fun l=>l[0]?) e;simpa [FJ] using this⟩
def u8_of {cs:List Vl} {p fuel:Nat} {x:DataW H×List MemPlace} (h:DataW.trod enc prog W base (fun _=>true) held fuel 5 ((cs.drop p).take 1)=some x) : ∃ m:Nat,cs[p]? = some (u8 m)/\m<256:=by
 obtain ⟨n,e,_,w⟩:=DataW.trod_int Tryz.underlying5 h;obtain ⟨m,rfl,hm⟩:=u8_lit w;exact ⟨m,by have:=E2 (fun l=>l[0]?) e;simpa [FJ] using this,hm⟩
def op_cells {cs:List Vl} {fuel:Nat} {x:DataW H×List MemPlace} (h:DataW.trod enc prog W base (fun _=>true) held fuel 54 cs=some x):cs.length=76 /\ ∃ N B:Int,∃ m:Nat,cs[1]? = some (.int .i64 N)/\cs[2]? = some (.int .i64 B)/\cs[75]? = some (u8 m)/\m<256:=by obtain ⟨_,_,_,_,hl,_⟩:=DataW.trod_struct Tryz.underlying54 h;obtain ⟨_,_,q1⟩:=fld Tryz.underlying54 h (i:=1) (z:=1) rfl (by kernel_rfl);obtain ⟨_,_,q2⟩:=fld Tryz.underlying54 h (i:=2) (z:=1) rfl (by kernel_rfl);obtain ⟨_,_,q7⟩:=fld Tryz.underlying54 h (i:=7) (z:=1) rfl (by kernel_rfl);obtain ⟨N,e1⟩:=i64_of q1;obtain ⟨B,e2⟩:=i64_of q2;obtain ⟨m,e3,hm⟩:=u8_of q7;exact ⟨hl.trans (by kernel_rfl),N,B,m,e1,e2,e3,hm⟩
def uY (n:Nat) (k:IntKind) (z:Int):clean n (.int k z) = .int k z:=by unfold clean;rw [DR (by rfl)]
def ops_of {fuel:Nat} {v:Vl} {x:DataW H×List MemPlace} (h:DataW.trod enc prog W base (fun _=>true) held fuel 49 [v]=some x) :
  cw (clean W.heap.size v)=false /\ ∃ n,OpsA (dO W (view W)) (clean W.heap.size v) n:=by
 have he:prog.cellsOf 54=76:=by kernel_rfl
 rcases DataW.trod_slice Tryz.underlying49 h with ⟨h1,_⟩|⟨a,len,cap,elems,rest,n,_,h1,_,_,hlc,hcm,hl,hel,hsp,_⟩
 ·cases h1;exact ⟨rfl,0,rfl,fun i hi=>absurd hi (H4 i)⟩
 ·cases h1;rw [he] at hel hsp;have hpos:0<cap->a.spot=none/\a.block<W.heap.size:=by
   intro h0;have key : ∃ cs,W.cells? base (a.add (0*76)) 76=some cs:=by
    by_cases hlen:0<len
    ·have:=hel 0 hlen;rw [DL (by omega),D4] at this;obtain ⟨cs,hc,_⟩:=this;exact ⟨cs,hc⟩
    ·have:=(hsp rfl).2 0 (by omega);rw [DL (by rw [(hsp rfl).1];omega),D4] at this;obtain ⟨cs,hc,_⟩:=this;obtain rfl:len=0:=by omega
     exact ⟨cs,hc⟩
   obtain ⟨cs,hc⟩:=key;obtain ⟨_,hlen,hcell⟩:=World.cells?_some hc;have g:=hcell 0 (by decide);obtain ⟨c0,hc0⟩ : ∃ c0,cs[0]? = some c0:=⟨cs[0],DL (by omega)⟩
   rw [hc0,HF] at g;have g:W.cell? a=some c0:=g;obtain ⟨e1,e2,_⟩:=qu g;exact ⟨e1,e2⟩
  obtain ⟨g1,a',g2,g3,_⟩:=tO (W:=W) hlc hpos;refine ⟨g1,len,by rw [g2];rfl,fun i hi => ?_⟩;have ha:=g3 (by omega);subst ha;have h2:=hel i hi;rw [DL (by omega),D4] at h2;obtain ⟨es,hc,ht⟩:=h2;obtain ⟨hl76,N,B,m,c1,c2,c3,hm⟩:=op_cells ht;obtain ⟨_,hlen,hcell⟩:=World.cells?_some hc;have vc : ∀ j w,j<76->es[j]? = some w->clean W.heap.size w=w -> ∃ k,view W a'.block=some k/\k[a'.off+i*76+j]? = some w:=by intro j w hj e hw;have g:=hcell j hj;rw [e] at g;obtain ⟨_,_,k,hk,hc2⟩:=qu g;rw [Bn,Bn] at hk;rw [add_off,add_off] at hc2;exact ⟨k,hk,by rw [hc2,hw]⟩
  obtain ⟨k,hk,d1⟩:=vc 1 _ (by decide) c1 (uY _ _ _);obtain ⟨k2,hk2,d2⟩:=vc 2 _ (by decide) c2 (uY _ _ _);obtain ⟨k3,hk3,d3⟩:=vc 75 _ (by decide) c3 (uY _ _ _);rw [hk] at hk2 hk3;cases hk2;cases hk3;refine ⟨a'.block,a'.off+i*76,k,N,B,m,?_,by rw [tN];exact hk,d1,d2,d3,hm⟩;rw [g2];obtain ⟨b,off,sp⟩:=a';unfold idxS;simp only [ak];rw [DR (by omega),Int.toNat_natCast]
end
abbrev soundS:List Vl->ae->ba:=CC prog (ZX noC) 4
def oE:bq prog 4 soundS:=bq.of_CC dZ (ZX_sound zF.nil) is4
def x7 {h:ae} (hn:3<=h.n0) (ht:h.get 1=some cH) {x0 x2:Vl} {l:List Nat} (b:B9 h x0 l) (q:Int) {n:Nat} (o:OpsA h x2 n) : ∃ h',soundS [x0,.int .i64 q,x2] h=some (.bool true,h'):=by obtain ⟨g,e⟩:=r4 zF.nil (Z:=noC) ⟨hn,ht⟩ b.bs (by omega) q o;exact ⟨g,CV_to zF.nil hn e⟩
end
end Go.Proofs.YtdhpgacmgebjdaaGreatDoor.W
