/-
  A part of the proof, shortened by a program.
  Conditions: as each theorem states.
-/
import Derived.Test.YtdhpgacmgebjdaaGreatDoorG27
import Derived.LaidLaws
import Derived.ProofKit
set_option linter.all false
namespace Go.Proofs.YtdhpgacmgebjdaaGreatDoor.W
open Go Go.Abs Tryz R
open Go.ChangeShapes Go.WideShapes Go.ChangeAt Go.RowKit
noncomputable section
def goodZ (a:Option Addr) (n c:Nat):Prop:=cw a n c=true\/(n=0/\c=0 /\ ∀ y,a=some y->y.spot=some 0)
def goodZ_spot {a:Addr} {n c:Nat} (h:n<=c) (hs:a.spot=none\/(c=0/\a.spot=some 0)):goodZ (some a) n c:=by
 rcases hs with hs|⟨rfl,hs⟩
 ·left;obtain ⟨b,off,s⟩:=a;have hs:s=none:=hs;subst hs;unfold cw;rw [FM h];rfl
 ·exact .inr ⟨by omega,rfl,fun y hy=>by cases hy;exact hs⟩
def BT (h:ae) (v:Vl) (l:List Nat):Prop := ∃ a n c,v = .slice a n c/\ao a n h=some l/\n<=maxLen/\goodZ a n c
def cells5:prog.cellsOf 5=1:=by kernel_rfl
section
variable {H:Type} {enc:TypeId×Vl->H} {W:World} {cK:Nat} {held:Bool}
def vK {n:Nat} {v:Vl} (h:nice n v=true):clean n v=v:=by unfold clean;rw [DH h]
def Cq {a:Addr} {len cap:Nat} (hlc:len<=cap) (hc:0<cap->a.spot=none/\a.block<W.heap.size) :
  bW (clean W.heap.size (.slice (some a) len cap))=false /\ ∃ a' ,clean W.heap.size (.slice (some a) len cap) = .slice (some a') len cap/\(0<cap->a'=a)/\(a'.spot=none\/(cap=0/\a'.spot=some 0)):=by
 obtain ⟨b,off,s⟩:=a;by_cases h0:0<cap
 ·obtain ⟨h1,h2⟩:=hc h0;have h1':s=none:=h1;have h2':b<W.heap.size:=h2;subst h1';have hn:nice W.heap.size (.slice (some ⟨b,off,none⟩) len cap)=true:=by simpa [nice] using h2'
  rw [vK hn];exact ⟨rfl,_,rfl,fun _=>rfl,.inl rfl⟩
 ·obtain rfl:cap=0:=by omega
  obtain rfl:len=0:=by omega
  by_cases hn:nice W.heap.size (.slice (some ⟨b,off,s⟩) 0 0)=true
  ·rw [vK hn];refine ⟨rfl,_,rfl,fun h=>absurd h h0,.inl ?_⟩;cases s with
   |none=>rfl
   |some s=>simp [nice,flat] at hn
  ·have:clean W.heap.size (.slice (some ⟨b,off,s⟩) 0 0) = .slice (some ⟨0,0,some 0⟩) 0 0:=by unfold clean;rw [DL hn];rfl
   rw [this];exact ⟨rfl,_,rfl,fun h=>absurd h h0,.inr ⟨rfl,rfl⟩⟩
def xZ {h:ae} {b off len:Nat} {s:Option Nat} {k:eh} {l:List Nat} (hk:h.get b=some k) (hlen:l.length=len) (hb : ∀ x∈l,x<256) (hc : ∀ i,i<len->k[off+i]? = some (u8 (l.getD i 0))) :
  ao (some ⟨b,off,s⟩) len h=some l:=by
 unfold ao;rw [DU];refine ⟨l.map u8,?_,gC hb⟩;simp only [firstA,hk,FG];by_cases h0:len=0
 ·subst h0;have:l = []:=EC.1 hlen;subst this;rfl
 ·have hcells:(k.drop off).take len=l.map u8:=by
   apply FC;intro i;rw [E7,EY,D4];by_cases hi:i<len
   ·rw [DH hi,hc i hi,DK,DE (by omega)];rfl
   ·rw [DL hi,EN (by omega)];rfl
  have hl2:off+len<=k.length:=by have:=hc (len-1) (by omega);have:=(DZ.1 this).1;omega
  rw [DL h0,DH ⟨hl2,by rw [hcells];exact iL _⟩,hcells]
def yN {fuel:Nat} {v:Vl} {x:DataW H×List MemPlace} (h:DataW.trod enc prog W cK (fun _=>true) held fuel 22 [v]=some x) :
  bW (clean W.heap.size v)=false /\ ∃ l,BT (fy W (view W)) (clean W.heap.size v) l:=by
 rcases open_ints Tryz.underlying22 Tryz.underlying5 cells5 h with ⟨h1,_⟩|⟨a,len,cap,zs,h1,_,hlc,hcm,hzl,_,hcell,hwf⟩
 ·cases h1;exact ⟨rfl,[],none,0,0,rfl,rfl,FL _,.inl rfl⟩
 ·cases h1;simp only [DV] at hzl;have hpos:0<cap->a.spot=none/\a.block<W.heap.size:=by intro h0;obtain ⟨e1,e2,_⟩:=Bj (hcell 0 (by omega));exact ⟨e1,e2⟩
  obtain ⟨g1,a',g2,g3,g4⟩:=Cq (W:=W) hlc hpos;refine ⟨g1,((zs.take len).map Int.toNat),a',len,cap,g2,?_,by omega,goodZ_spot hlc g4⟩;by_cases h0:0<cap
  ·have ha:=g3 h0;subst ha;obtain ⟨b,off,s⟩:=a';obtain ⟨e1,_⟩:=hpos h0;have e1':s=none:=e1;subst e1';have get : ∀ i,i<cap -> ∃ k,view W b=some k/\k[off+i]? = some (.int .u8 (zs.getD i 0)):=by intro i hi;have g:=hcell i (by omega);rw [Addr.add_lit] at g;obtain ⟨_,_,k,hk,hc⟩:=Bj g;exact ⟨k,hk,hc⟩
   obtain ⟨k,hk,_⟩:=get 0 h0;refine xZ (k:=k) (by rw [xn];exact hk) (by simp;omega) ?_ ?_
   ·intro y hy;obtain ⟨z,hz,rfl⟩:=EZ.1 hy;obtain ⟨m,rfl,hm⟩:=u8_lit (hwf z (D6 hz));simpa using hm
   ·intro i hi;obtain ⟨k',hk',hc⟩:=get i (by omega);rw [hk] at hk';cases hk';rw [hc];have hz:zs[i]? = some (zs.getD i 0):=by rw [DK,DE (by omega)];rfl
    obtain ⟨m,hm,_⟩:=u8_lit (hwf _ (D7 hz));have e2:((zs.take len).map Int.toNat).getD i 0=m:=by rw [DK,D4,E7,DH hi,hz];simp only [Option.map_some,Option.getD_some,hm,Int.toNat_natCast]
    rw [e2,hm]
  ·obtain rfl:len=0:=by omega
   rfl
def BT.bs {h:ae} {v:Vl} {l:List Nat} (x:BT h v l):BS h v l:=by
 obtain ⟨a,n,c,rfl,s,_,g⟩:=x;refine .of s (fun hn => ?_);rcases g with g|⟨hz,_⟩
 ·exact g
 ·omega
end
end
end Go.Proofs.YtdhpgacmgebjdaaGreatDoor.W
namespace Go.Proofs.YtdhpgacmgebjdaaGreatDoor.W
open Go Go.Abs Tryz R
noncomputable section
abbrev memS:List Vl->ae->aY:=CC prog (ZX ZG) 3
def tP:bU prog 3 memS:=bU.of_CC iE (ZX_sound cp) is3
def mem_call {h:ae} (hn:3<=h.n0) (ht:h.get 1=some cP) {x0:Vl} {l:List Nat} (b:BT h x0 l) (s:Bool) : ∃ h',memS [x0,.bool s] h=some (.bool true,h'):=by obtain ⟨g,e⟩:=r3 ⟨hn,ht⟩ b.bs s;exact ⟨g,CV_to cp hn e⟩
end
end Go.Proofs.YtdhpgacmgebjdaaGreatDoor.W
