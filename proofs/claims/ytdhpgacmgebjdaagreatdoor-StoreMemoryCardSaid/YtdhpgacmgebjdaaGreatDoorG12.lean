/-
  A part of the proof, shortened by a program.
  Conditions: as each theorem states.
-/
import Derived.Test.YtdhpgacmgebjdaaGreatDoorG11
set_option linter.all false
namespace Go.Proofs.YtdhpgacmgebjdaaGreatDoor
open Go Go.Abs Tryz
noncomputable section
def qj (c:Nat):Nat:=(c/2) ^^^ (0x82f63b78*(c%2))
def mD (i:Nat):Nat:=qj (qj (qj (qj i)))
def kG (tab:Nat->Nat) (r:Nat):Nat:=tab (r%16) ^^^ (r/16)
def mz (r x:Nat):Nat:=kG mD (kG mD (r ^^^ x))
def tA (l:List Nat):Nat:=4294967295 ^^^ l.foldl mz 4294967295
def nB {c:Nat} (h:c<4294967296):qj c<4294967296:=by
 unfold qj;have h1:c/2<2^32:=by omega
 have h2:0x82f63b78*(c%2)<2^32:=by omega
 exact GM h1 h2
def Bk {c:Nat} (h:c<4294967296):mD c<4294967296:=nB (nB (nB (nB h)))
def xW {tab:Nat->Nat} (ht : ∀ q,q<16->tab q<4294967296) {r:Nat} (h:r<4294967296):kG tab r<4294967296:=
 GM (n:=32) (ht _ (by omega)) (by omega)
def AI {r:Nat} (h:r<4294967296):kG mD r<4294967296:=xW (fun q hq=>Bk (by omega)) h
def crcStep_lt {r x:Nat} (h:r<4294967296) (hx:x<256):mz r x<4294967296:=
 AI (AI (GM (n:=32) h (by omega)))
def nV : ∀ (l:List Nat) (r:Nat),r<4294967296->(∀ x∈l,x<256)->l.foldl mz r<4294967296
 | [],r,h,_=>h
 |x::l,r,h,hx=>nV l _ (crcStep_lt h (hx x EW)) (fun y hy=>hx y (EL _ hy))
abbrev u32 (n:Nat):Vl := .int .u32 (n:Int)
abbrev u8 (n:Nat):Vl := .int .u8 (n:Int)
abbrev aj (n:Nat):Vl := .int .i64 (n:Int)
def Bu (c:Nat):Nat->Nat
 | 0=>c
 |i+1=>qj (Bu c i)
def xN {c:Nat} (hc:c<4294967296) : ∀ i,Bu c i<4294967296
 | 0=>hc
 |i+1=>nB (xN hc i)
section
variable (C:ah)
def crc_bit_ops {c:Nat} (hc:c<4294967296):aA prog .shr 186 (u32 c) (.int .u64 1)=some (u32 (c/2))/\aA prog .and 186 (u32 c) (.int .u32 1)=some (u32 (c%2)) /\
  aA prog .mul 186 (.int .u32 2197175160) (u32 (c%2))=some (u32 (2197175160*(c%2)))/\aA prog .xor 186 (u32 (c/2)) (u32 (2197175160*(c%2)))=some (u32 (qj c)):=by
 refine ⟨?_,?_,?_,?_⟩
 ·exact dG prog 186 (k := .u32) (k' := .u64) (a:=c) (b:=1) (by decide)
 ·have h1:=pg prog 186 (k := .u32) rfl (a:=c) (b:=1) hc (by decide);rw [Nat.and_one_is_mod] at h1;exact h1
 ·rw [jM,nN]
  congr 2
  omega
 ·exact iP prog 186 (k := .u32) rfl (a:=c/2) (b:=2197175160*(c%2)) (by show _<2^32;omega) (by show _<2^32;omega)
def crc_inner (x:Nat->Vl) (h:ae) (c:Nat) (hc:c<4294967296) (h5:x 5=u32 c) (h14:x 14 = .int .i64 0) :
  ∃ x',iter (codeA prog C (aq f208 [1,1,0,1,0,0,1,1,0,0,1,1,0,1,0,0])) az (aS 54 x) h=some (.exit 2,aS 54 x',h)/\x' 5=u32 (mD c) /\
    x' 0=x 0/\x' 3=x 3/\x' 4=x 4/\x' 9=x 9:=by
 obtain ⟨ex,x',h',h1,rfl,rfl,h2⟩:=tc (kK C)
  (Inv:=fun k y h1=>k<=4/\h1=h/\y 5=u32 (Bu c (4-k))/\y 14=aj (4-k)/\y 0=x 0/\y 3=x 3/\y 4=x 4/\y 9=x 9)
  (fin:=fun ex y h1=>ex = .exit 2/\h1=h/\y 5=u32 (mD c)/\y 0=x 0/\y 3=x 3/\y 4=x 4/\y 9=x 9)
  (by
   rintro k y _ ⟨hk,rfl,i5,i14,i0,i3,i4,i9⟩;obtain ⟨o1,o2,o3,o4⟩:=crc_bit_ops (xN hc (4-k));unfold eS;simp -implicitDefEqProofs only [i5,i14,aj,cx,ak,af];by_cases hz:k=0
   ·subst hz;refine ⟨_,_,_,rfl,.inr ⟨by simp,rfl,rfl,?_⟩⟩;simp -implicitDefEqProofs only [jj,mL,i5,i0,i3,i4,i9,Nat.reduceEqDiff,DS,and_true];rfl
   ·have hlt:((4-k:Nat):Int)<4:=by omega
    simp -implicitDefEqProofs only [DN hlt,o1,o2,o3,o4,ak,af,eR];refine ⟨_,_,_,rfl,.inl ⟨rfl,k-1,by omega,by omega,rfl,?_⟩⟩;simp -implicitDefEqProofs only [jj,mL,i0,i3,i4,i9,Nat.reduceEqDiff,DS,DV,and_true];refine ⟨?_,?_⟩
    ·have:4-(k-1)=(4-k)+1:=by omega
     rw [this];rfl
    ·rw [bf (by omega) (by omega)]
     congr 1
     omega)
  (k:=4) (by decide) ⟨by omega,rfl,h5,h14,rfl,rfl,rfl,rfl⟩
 exact ⟨x',h1,h2⟩
def ie (i:Nat):eh:=(List.range 16).map fun j=>u32 (if j<i then mD j else 0)
def jG (i:Nat):(ie i).length=16:=by simp [ie]
def vg {i j:Nat} (hj:j<16):(ie i)[j]? = some (u32 (if j<i then mD j else 0)):=by unfold ie;rw [D4,FZ hj];rfl
def tabBlk_set {i:Nat} (hi:i<16):(ie i).set i (u32 (mD i))=ie (i+1):=by
 apply FC;intro j;rw [FU,jG];by_cases hj:j<16
 ·rw [vg hj,vg hj];by_cases e:i=j
  ·subst e;simp [hi]
  ·rw [DL e];by_cases h2:j<i
   ·rw [DH h2,DH (by omega)]
   ·rw [DL h2,DL (by omega)]
 ·rw [EN (by rw [jG];omega),EN (by rw [jG];omega)];split
  ·omega
  ·rfl
def crc_table (x:Nat->Vl) (h:ae) (B:Nat) (hB:h.n0<=B) (hg:h.get B=some (ie 0)) (h3:x 3=ptr B 0) (h9:x 9 = .int .i64 0) :
  ∃ x' h',iter (codeA prog C (aq f208 [1,1,0,1,0,0])) az (aS 54 x) h=some (.exit 0,aS 54 x',h')/\x' 0=x 0/\x' 3=ptr B 0/\au h h' (· = B)/\h'.get B=some (ie 16):=by
 obtain ⟨ex,x',h',h1,rfl,h2⟩:=tc (te C)
  (Inv:=fun k y h1=>k<=16/\y 9=aj (16-k)/\y 0=x 0/\y 3=ptr B 0/\au h h1 (· = B)/\h1.get B=some (ie (16-k)))
  (fin:=fun ex y h1=>ex = .exit 0/\y 0=x 0/\y 3=ptr B 0/\au h h1 (· = B)/\h1.get B=some (ie 16))
  (by
   rintro k y h1 ⟨hk,i9,i0,i3,ik,ig⟩;unfold lO;simp -implicitDefEqProofs only [i9,aj,cx,ak,af];by_cases hz:k=0
   ·subst hz;refine ⟨_,_,_,rfl,.inr ⟨by simp,rfl,?_⟩⟩;simp -implicitDefEqProofs only [jj,mL,i0,i3,Nat.reduceEqDiff,DS,true_and];exact ⟨ik,ig⟩
   ·have hlt:((16-k:Nat):Int)<16:=by omega
    have hw:IntKind.wrap .u32 ((16-k:Nat):Int)=((16-k:Nat):Int):=qn (by omega) (by omega);simp -implicitDefEqProofs only [DN hlt,bY,af,hw];obtain ⟨z,hz1,z5,z0,z3,z4,z9⟩:=crc_inner C (up y [(4,.int .i64 ((16-k:Nat):Int)),(5,u32 (16-k)),(10,.bool true),(11,.int .i64 ((16-k:Nat):Int)),(12,.int .i64 ((16-k:Nat):Int)),(13,u32 (16-k)),(14,.int .i64 0)]) h1 (16-k) (by omega) rfl rfl;rw [hz1];simp -implicitDefEqProofs only [jj,mL,Nat.reduceEqDiff,DS,DV] at z0 z3 z4 z9;simp -implicitDefEqProofs only [bh,b208_17,DV,zw];have hlt2:(0:Int)<=((16-k:Nat):Int)/\((16-k:Nat):Int)<((16:Nat):Int):=by omega
    unfold qq;simp -implicitDefEqProofs only [z3,i3,z4,z5,idxA,hlt2,and_self,DV,aw,ak,af,DC,Int.toNat_natCast,FG];rw [dO ig (by rw [jG];omega) (by rw [ik.n0];exact hB) rfl rfl,tabBlk_set (by omega)];simp -implicitDefEqProofs only [af,xB];unfold pw;simp -implicitDefEqProofs only [jj,mL,Nat.reduceEqDiff,DS,DV,z9,i9,eR,ak,af];refine ⟨_,_,_,rfl,.inl ⟨rfl,k-1,by omega,by omega,?_⟩⟩;have hb:h1.n0<=B:=by rw [ik.n0];exact hB
    have e1:16-(k-1)=16-k+1:=by omega
    simp -implicitDefEqProofs only [jj,mL,Nat.reduceEqDiff,DS,DV,z0,i0,z3,i3,true_and,e1];refine ⟨?_,ik.trans (au.set hb ig (.inr rfl)),ae.bO hb ig _⟩;rw [bf (by omega) (by omega)]
    congr 1)
  (k:=16) (by decide) ⟨by omega,h9,rfl,h3,au.refl _ _,hg⟩
 exact ⟨x',h',h1,h2⟩
end
def iL : ∀ l:List Nat,noHoles (l.map u8)=true
 | []=>rfl
 |x::l=>by have:=iL l;simp only [noHoles,FD,List.all_cons] at this |-;rw [this];rfl
def tm (l:List Nat) (o n:Nat):noHoles (((l.map u8).drop o).take n)=true:=by rw [<-List.map_drop,<-List.map_take];exact iL _
def nat8:Vl->Option Nat
 | .int .u8 (.ofNat n)=>if n<256 then some n else none
 |_=>none
def nat8_eq {v:Vl} {n:Nat} (h:nat8 v=some n):v=u8 n/\n<256:=by
 unfold nat8 at h;split at h
 ·split at h
  ·cases h;exact ⟨rfl,by assumption⟩
  ·cases h
 ·cases h
def bytesOf:List Vl->Option (List Nat)
 | []=>some []
 |v::l=>match nat8 v,bytesOf l with
  |some n,some r=>some (n::r)
  |_,_=>none
def oE : ∀ {l:List Vl} {r:List Nat},bytesOf l=some r->l=r.map u8 /\ ∀ n∈r,n<256
 | [],r,h=>by cases h;exact ⟨rfl,by simp⟩
 |v::l,r,h=>by
  unfold bytesOf at h;split at h
  ·rename_i n r' h1 h2;cases h;obtain ⟨rfl,h3⟩:=nat8_eq h1;obtain ⟨rfl,h4⟩:=oE h2;refine ⟨rfl,fun m hm => ?_⟩;rcases ER.1 hm with rfl|hm
   ·exact h3
   ·exact h4 m hm
  ·cases h
def gC : ∀ {r:List Nat},(∀ n∈r,n<256)->bytesOf (r.map u8)=some r
 | [],_=>rfl
 |n::r,h=>by
  have h1:nat8 (u8 n)=some n:=by show (if n<256 then some n else none)=some n;rw [DH (h n EW)]
  simp -implicitDefEqProofs only [FD,bytesOf,h1,gC (r:=r) (fun m hm=>h m (EL _ hm))]
def ao (a:Option Addr) (n:Nat) (h:ae):Option (List Nat):=(firstA 1 n (.slice a n n) h).bind bytesOf
def ay {a:Option Addr} {n:Nat} {h:ae} {l:List Nat} (e:ao a n h=some l) :
  l.length=n/\(∀ m∈l,m<256)/\(0<n -> ∃ b off s k,a=some ⟨b,off,s⟩/\h.get b=some k/\off+n<=k.length /\ ∀ i,i<n->k[off+i]? = some (u8 (l.getD i 0))):=by
 unfold ao at e;rw [DU] at e;obtain ⟨cs,h1,h2⟩:=e;obtain ⟨rfl,h3⟩:=oE h2;unfold firstA at h1;split at h1
 ·split at h1
  ·rename_i hn;simp -implicitDefEqProofs only [DA] at h1;have:l = []:=by cases l with|nil=>rfl|cons=>simp at h1
   subst this;subst hn;exact ⟨rfl,h3,fun h=>absurd h (by omega)⟩
  ·cases h1
 ·rename_i b off s _ _ heq;split at h1
  ·rename_i hn;simp -implicitDefEqProofs only [DA] at h1;have:l = []:=by cases l with|nil=>rfl|cons=>simp at h1
   subst this;have:n=0:=by omega
   subst this;exact ⟨rfl,h3,fun h=>absurd h (by omega)⟩
  ·split at h1
   ·rename_i k hk;split at h1
    ·rename_i hl0;have hl:=hl0.1;rw [FG] at h1 hl;simp -implicitDefEqProofs only [DA] at h1;have hlen:l.length=n:=by have:=FP List.length h1;simp -implicitDefEqProofs only [EB,E8,F9] at this;omega
     refine ⟨hlen,h3,fun _=>⟨b,off,s,k,?_,hk,hl,?_⟩⟩
     ·cases heq;rfl
     ·intro i hi;have h4:=FP (·[i]?) h1;simp -implicitDefEqProofs only [E7,hi,DV,EY,D4] at h4;rw [h4,DK,DE (by omega)];rfl
    ·cases h1
   ·cases h1
 ·cases (show Value.slice a n n = .string _ by assumption)
 ·cases h1
def fM {a:Option Addr} {n:Nat} {h h':ae} {l:List Nat} (e:ao a n h=some l) (hm : ∀ b k,h.get b=some k->h'.get b=some k):ao a n h'=some l:=by
 unfold ao at e |-;rw [DU] at e |-;obtain ⟨cs,h1,h2⟩:=e;refine ⟨cs,?_,h2⟩;unfold firstA at h1 |-;split at h1
 ·exact h1
 ·split at h1
  ·rw [DH (by assumption)];exact h1
  ·rw [DL (by assumption)];split at h1
   ·rename_i k hk;rw [hm _ _ hk];exact h1
   ·cases h1
 ·cases (show Value.slice a n n = .string _ by assumption)
 ·cases h1
def s208:List Vl->ae->aY
 | [.slice a n c],h=>match ao a n h with
   |some l=>if n<9223372036854775807 then some (u32 (tA l),h) else none
   |none=>none
 |_,_=>none
def crc_mix (tab:Nat->Nat) (ht : ∀ q,q<16->tab q<4294967296) (r:Nat) (hr:r<4294967296):aA prog .and 186 (u32 r) (.int .u32 15)=some (u32 (r%16))/\aA prog .shr 186 (u32 r) (.int .u64 4)=some (u32 (r/16)) /\
  aA prog .xor 186 (u32 (tab (r%16))) (u32 (r/16))=some (u32 (kG tab r)):=by
 refine ⟨?_,?_,?_⟩
 ·have h1:=pg prog 186 (k := .u32) rfl (a:=r) (b:=15) hr (by decide);rw [show r &&& 15=r%16 from Nat.and_two_pow_sub_one_eq_mod r 4] at h1;exact h1
 ·exact dG prog 186 (k := .u32) (k' := .u64) (a:=r) (b:=4) (by decide)
 ·exact iP prog 186 (k := .u32) rfl (ht _ (by omega)) (by show _<2^32;omega)
section
variable (C:ah)
def crc_round (tab:Nat->Nat) (ht : ∀ q,q<16->tab q<4294967296) (y:Nat->Vl) (h:ae) (B:Nat) (blk:eh) (hg:h.get B=some blk) (hblk : ∀ q,q<16->blk[q]? = some (u32 (tab q)))
  (b off len c i V R:Nat) (s:Option Nat) (kb:eh) (hkb:h.get b=some kb) (hcell:kb[off+i]? = some (u8 V)) (hV:V<256) (hR:R<4294967296) (hi:i<len) (hlen:len<9223372036854775807)
  (i3:y 3=ptr B 0) (i6:y 6=u32 R) (i27:y 27 = .slice (some ⟨b,off,s⟩) len c) (i28:y 28=aj len) (i29:y 29=aj i) :
  ∃ y',fp C y h=some (.normal,aS 54 y',h)/\y' 3=y 3/\y' 6=u32 (kG tab (kG tab (R ^^^ V)))/\y' 27=y 27/\y' 28=y 28/\y' 29=aj (i+1):=by
 have hlt:(i:Int)<(len:Int):=by omega
 have hidx:(0:Int)<=(i:Int)/\(i:Int)<(len:Int):=by omega
 have hw:IntKind.wrap .u32 ((V:Nat):Int)=(V:Int):=qn (by omega) (by omega);have hx:=iP prog 186 (k := .u32) rfl (a:=R) (b:=V) hR (by show _<2^32;omega);have hr1:R ^^^ V<4294967296:=GM (n:=32) hR (by omega);generalize R ^^^ V=R1 at *;obtain ⟨a1,a2,a3⟩:=crc_mix tab ht _ hr1;have hr2:=xW ht hr1;generalize kG tab R1=R2 at *;obtain ⟨b1,b2,b3⟩:=crc_mix tab ht _ hr2;generalize kG tab R2=R3 at *;have hi1 : ∀ q:Nat,(0:Int)<=((q%16:Nat):Int)/\((q%16:Nat):Int)<((16:Nat):Int):=fun q=>by omega
 have hld : ∀ q:Nat,ld1 (ptr B (q%16)) h=some (u32 (tab (q%16)),h):=fun q=>aH hg (hblk _ (by omega));unfold fp;simp -implicitDefEqProofs only [i28,i29,aj,cx,ak,af,DN hlt,i27,idxS,hidx,and_self,DV,Int.toNat_natCast,FG,aH hkb hcell,bY,hw,i6,hx,a1,i3,idxA,hi1,aw,DC,hld,a2,a3,b1,b2,b3,eR];refine ⟨_,rfl,?_⟩;simp -implicitDefEqProofs only [jj,mL,Nat.reduceEqDiff,DS,DV,i3,i27,i28,true_and];rw [bf (by omega) (by omega)];rfl
def crc_bytes (x:Nat->Vl) (h:ae) (B:Nat) (a:Option Addr) (n c:Nat) (l:List Nat) (hg:h.get B=some (ie 16)) (hl:ao a n h=some l)
  (h3:x 3=ptr B 0) (h6:x 6=u32 4294967295) (h27:x 27 = .slice a n c) (h28:x 28=aj n) (h29:x 29 = .int .i64 0) (hn:n<az) (hn2:n<9223372036854775807) :
  ∃ x',iter (codeA prog C (aq f208 [1,1,1,1,0,1,0,0])) az (aS 54 x) h=some (.exit 4,aS 54 x',h)/\x' 6=u32 (l.foldl mz 4294967295):=by
 obtain ⟨hlen,hb,hat⟩:=ay hl;obtain ⟨ex,x',h',h1,rfl,rfl,h2⟩:=tc (rk C)
  (Inv:=fun k y h1=>k<=n/\h=h1/\y 3=ptr B 0/\y 6=u32 ((l.take (n-k)).foldl mz 4294967295)/\y 27 = .slice a n c/\y 28=aj n/\y 29=aj (n-k))
  (fin:=fun ex y h1=>ex = .exit 4/\h1=h/\y 6=u32 (l.foldl mz 4294967295))
  (by
   rintro k y _ ⟨hk,rfl,i3,i6,i27,i28,i29⟩;by_cases hz:k=0
   ·subst hz;unfold fp;simp -implicitDefEqProofs only [i28,i29,aj,cx,ak,af];simp -implicitDefEqProofs only [Nat.sub_zero,Int.lt_irrefl,FA];refine ⟨_,_,_,rfl,.inr ⟨by simp,rfl,rfl,?_⟩⟩;simp -implicitDefEqProofs only [jj,mL,Nat.reduceEqDiff,DS,i6,Nat.sub_zero];rw [D3 (by omega)]
   ·have e1:n-(k-1)=n-k+1:=by omega
    have hnk:n-k<n:=by omega
    have hlt2:n-k<l.length:=by omega
    obtain ⟨b,off,s,kb,rfl,hkb,hkl,hat2⟩:=hat (by omega);have hcell:=hat2 (n-k) hnk;clear hat hat2;have hr:((l.take (n-k)).foldl mz 4294967295)<4294967296:=nV _ _ (by omega) (fun m hm=>hb m (D6 hm));have hbv:l.getD (n-k) 0<256:=by rw [DK,DE hlt2];exact hb _ (GP _)
    obtain ⟨y',q1,q3,q6,q27,q28,q29⟩:=crc_round C mD (fun q hq=>Bk (by omega)) y h B (ie 16) hg (fun q hq=>by rw [vg hq,DH hq]) b off n c (n-k) _ _ s kb hkb hcell hbv hr hnk hn2 i3 i6 i27 i28 i29;refine ⟨_,_,_,q1,.inl ⟨rfl,k-1,by omega,by omega,rfl,q3.trans i3,?_,q27.trans i27,q28.trans i28,by rw [q29,e1]⟩⟩;rw [q6,e1,H5,List.foldl_append];have hV2:l[n-k]? = some (l.getD (n-k) 0):=by rw [DK,DE hlt2];rfl
    rw [hV2,Option.toList_some,List.foldl_cons,List.foldl_nil,mz])
  (k:=n) hn ⟨by omega,rfl,h3,by rw [h6,HZ,List.take_zero,List.foldl_nil],h27,h28,by rw [h29,HZ];rfl⟩
 exact ⟨x',h1,h2⟩
def BQ {k:IntKind} (hk:k.signed=false) {a b:Nat} (ha:a<2^k.bits) (hb:b<2^k.bits):oL .xor k (a:Int) (b:Int)=some (.int k ((a ^^^ b:Nat):Int)):=by simp -implicitDefEqProofs only [oL,jH,BitVec.toNat_xor,FV,FK ha,FK hb];rw [CF hk _ (GM ha hb)]
def unA_xor_u32 {r:Nat} (hr:r<4294967296):unA .xor (u32 r)=some (u32 (4294967295 ^^^ r)):=by
 have h0:4294967295<2^IntKind.bits .u32:=by show 4294967295<2^32;omega
 have h1:=BQ (k := .u32) rfl (a:=4294967295) (b:=r) h0 hr;have h2:IntKind.max .u32=((4294967295:Nat):Int):=by decide
 have h3:unA .xor (u32 r)=oL .xor .u32 (IntKind.max .u32) r:=rfl;rw [h3,h2];exact h1
def t208_is (a:Option Addr) (n c:Nat) (l:List Nat) (h:ae) (hl:ao a n h=some l) (hn:n<9223372036854775807) :
  ∃ h1,t208 C (.slice a n c) h=some (u32 (tA l),h1) /\ ∀ b k,h.getB b=some k->h1.getB b=some k:=by
 unfold t208;simp -implicitDefEqProofs only [cO,Abs.newRow,af];have hg0:(h.alloc (ie 0)).get h.next=some (ie 0):=by rw [ae.aZ,DH rfl]
 have hz:List.replicate 16 (Value.int IntKind.u32 0)=ie 0:=rfl;rw [hz];obtain ⟨x',h',h1,x0,x3,hk,hg⟩:=crc_table C (up (bs [.slice a n c]) [(2,.int .u32 0),(3,ptr h.next 0),(9,.int .i64 0)]) (h.alloc (ie 0)) h.next h.n0_le_next hg0 rfl rfl;rw [h1];have x0':x' 0 = .slice a n c:=x0;have hm : ∀ b k,h.getB b=some k->h'.getB b=some k:=by intro b k hb;have hlt:=h.lt_of_getB hb;rw [hk.getB b (by simp;omega) (by omega),ae.dg,DL (by omega)];exact hb
 simp -implicitDefEqProofs only [bh,b208_4,DV,zO];unfold sI;simp -implicitDefEqProofs only [x0',cM,ak,af];obtain ⟨z,hz1,z6⟩:=crc_bytes C (up x' [(6,.int .u32 4294967295),(27,.slice a n c),(28,.int .i64 n),(29,.int .i64 0)]) h' h.next a n c l hg (fM hl fun b k hb=>h'.get_of_getB (hm b _ (h.aJ hb)))
  (by simp -implicitDefEqProofs only [jj,mL,Nat.reduceEqDiff,DS,x3]) rfl rfl rfl rfl (by have:az=18446744073709551616:=rfl;omega) hn
 rw [hz1];simp -implicitDefEqProofs only [bh,b208_8,DV,zY];unfold sy;obtain ⟨_,hb,_⟩:=ay hl;refine ⟨h',?_,hm⟩;simp -implicitDefEqProofs only [z6,af,unA_xor_u32 (nV l 4294967295 (by omega) hb),ak,tA]
def mixed:prog.follows .mixedOrders=true:=by kernel_rfl
def is208:bE prog 208 f208 := .of (by kernel_rfl)
def c208:bU prog 208 s208:=by
 have key : ∀ args h v h',s208 args h=some (v,h') -> ∃ a n c l,args = [.slice a n c]/\ao a n h=some l/\n<9223372036854775807/\v=u32 (tA l)/\h'=h:=by
  intro args h v h' e;unfold s208 at e;split at e
  ·split at e
   ·rename_i l hl;split at e
    ·rename_i hn;cases e;exact ⟨_,_,_,l,rfl,hl,hn,rfl,rfl⟩
    ·cases e
   ·cases e
  ·cases e
 refine .xl (fx [] (by simp)) mixed is208 ?_ ?_
 ·intro args h v h' e;obtain ⟨a,n,c,l,rfl,hl,hn,rfl,rfl⟩:=key _ _ _ _ e;exact ⟨rfl,fun _=>rfl⟩
 ·intro args h v h' e _ _;obtain ⟨a,n,c,l,rfl,hl,hn,rfl,rfl⟩:=key _ _ _ _ e;obtain ⟨h1,h2,h3⟩:=t208_is (km []) a n c l _ hl hn;exact ⟨h1,(t208_eq _ _ _).trans h2,h3⟩
end
def iv:prog.globals.size=3:=by kernel_rfl
def _root_.Go.Abs.bU.weaker {P:Program} {f:FuncId} {s t:List Vl->ae->aY} (c:bU P f s) (h : ∀ args g r,t args g=some r->s args g=some r):bU P f t:=
 ⟨c.fn,fun _ _ _ _ e=>c.grow _ _ _ _ (h _ _ _ e),fun _ _ _ _ e=>c.bd _ _ _ _ (h _ _ _ e),fun _ _ _ _ e=>c.run _ _ _ _ (h _ _ _ e)⟩
abbrev X00:ah:=km [(208,s208)]
def X00_sound:bk prog X00:=fx _ (by intro p hp;simp only [ER,ET,GX] at hp;subst hp;exact c208)
abbrev CB:ah:=CC prog X00
def CB_body {f:FuncId} {fn:Func} (i:bE prog f fn) {args:List Vl} {h:ae} {r:Vl×ae} (hg:3<=h.n0) (hX:X00 f args h=none) (e:aV prog CB fn args h=some r):CB f args h=some r:=
 tS i (by rw [iv];exact hg) hX e
def cP:List Vl := [.int .u32 1116352408,.int .u32 1899447441,.int .u32 3049323471,.int .u32 3921009573,.int .u32 961987163,.int .u32 1508970993,.int .u32 2453635748,.int .u32 2870763221,.int .u32 3624381080,.int .u32 310598401,.int .u32 607225278,.int .u32 1426881987,.int .u32 1925078388,.int .u32 2162078206,.int .u32 2614888103,.int .u32 3248222580,.int .u32 3835390401,.int .u32 4022224774,.int .u32 264347078,.int .u32 604807628,.int .u32 770255983,.int .u32 1249150122,.int .u32 1555081692,.int .u32 1996064986,.int .u32 2554220882,.int .u32 2821834349,.int .u32 2952996808,.int .u32 3210313671,.int .u32 3336571891,.int .u32 3584528711,.int .u32 113926993,.int .u32 338241895,.int .u32 666307205,.int .u32 773529912,.int .u32 1294757372,.int .u32 1396182291,.int .u32 1695183700,.int .u32 1986661051,.int .u32 2177026350,.int .u32 2456956037,.int .u32 2730485921,.int .u32 2820302411,.int .u32 3259730800,.int .u32 3345764771,.int .u32 3516065817,.int .u32 3600352804,.int .u32 4094571909,.int .u32 275423344,.int .u32 430227734,.int .u32 506948616,.int .u32 659060556,.int .u32 883997877,.int .u32 958139571,.int .u32 1322822218,.int .u32 1537002063,.int .u32 1747873779,.int .u32 1955562222,.int .u32 2024104815,.int .u32 2227730452,.int .u32 2361852424,.int .u32 2428436474,.int .u32 2756734187,.int .u32 3204031479,.int .u32 3329325298]
section
variable (C:ah) (x:Nat->Vl) (x0 x1 x2 x3 x4 x5:Vl) (h:ae)
def t215 (C:ah) (x0 x1:Vl) (h:ae):aY:=
 aa (some ((.int .u32 0),h)) fun q h=>
 aa (some (x1,h)) fun b h=>
 aa (iQ .u64 b h) fun c h=>
 aa (pu (aA prog .and 237 c (.int .u64 31)) h) fun d h=>
 aa (some (d,h)) fun a h=>
 aa (some (x0,h)) fun f h=>
 aa (some (a,h)) fun g h=>
 aa (pu (aA prog .shl 186 f g) h) fun j h=>
 aa (some (x0,h)) fun k h=>
 aa (some (a,h)) fun l h=>
 aa (pu (aA prog .sub 237 (.int .u64 32) l) h) fun m h=>
 aa (pu (aA prog .shr 186 k m) h) fun n h=>
 aa (pu (aA prog .or 186 j n) h) fun o h=>
 aa (some (o,h)) fun p h=>
 some (p,h)
def t215_eq:aV prog C f215 [x0,x1] h=t215 C x0 x1 h:=
 lkT (by kernel_rfl) (by kernel_rfl)
def k187_1 (C:ah) (e:aO) (h:ae):aY:=codeK prog C (aq f187 [1,1]) e h (resultsA prog f187.results.toList) (resultsA prog f187.results.toList) (fun _ _ _=>none)
def b187_3 (C:ah) (i:Nat) (e:aO) (h:ae):aY:=if i=0 then (k187_1 C) e h else (fun _ _ _=>none) i e h
def k187_4 (C:ah) (e:aO) (h:ae):aY:=codeK prog C (aq f187 [1,1,1]) e h (resultsA prog f187.results.toList) (resultsA prog f187.results.toList) (fun _ _ _=>none)
def b187_6 (C:ah) (i:Nat) (e:aO) (h:ae):aY:=if i=2 then (k187_4 C) e h else (fun _ _ _=>none) i e h
def k187_14 (C:ah) (e:aO) (h:ae):aY:=codeK prog C (aq f187 [1,1,1,1,1,1]) e h (resultsA prog f187.results.toList) (resultsA prog f187.results.toList) (fun _ _ _=>none)
def b187_16 (C:ah) (i:Nat) (e:aO) (h:ae):aY:=if i=4 then (k187_14 C) e h else (fun _ _ _=>none) i e h
def b187_25 (C:ah) (i:Nat) (e:aO) (h:ae):aY:=if i=6 then (resultsA prog f187.results.toList) e h else (fun _ _ _=>none) i e h
def t187 (C:ah) (x0:Vl) (h:ae):aY:=
 aa (cO (List.replicate 64 (.int .u32 0)) h) fun a h=>
 aa (some ((.int .i64 0),h)) fun b h=>
 dH (iter (codeA prog C (aq f187 [1,0,1,0,0])) az (aS 241 (up (bs [x0]) [(2,a),(24,b)])) h) (resultsA prog f187.results.toList) (b187_3 C)
def si (C:ah) (x:Nat->Vl) (h:ae):aY:=
 aa (some ((.int .i64 16),h)) fun a h=>
 dH (iter (codeA prog C (aq f187 [1,1,0,1,0,0])) az (aS 241 (up x [(4,a)])) h) (resultsA prog f187.results.toList) (b187_6 C)
def mM (C:ah) (x:Nat->Vl) (h:ae):Option (Ex×aO×ae):=
 aa (pu (aA prog .lss 3 (x 24) (.int .i64 16)) h) fun b h=>
 (match b with
 | .bool true=>
 aa (some ((x 24),h)) fun c h=>
 aa (some (c,h)) fun a h=>
 aa (some (a,h)) fun d h=>
 aa (some ((x 0),h)) fun f h=>
 aa (some (a,h)) fun g h=>
 aa (pu (aA prog .mul 3 (.int .i64 4) g) h) fun j h=>
 aa (pu (nilCheckA f) h) fun k h=>
 aa (pu (aC k 8) h) fun l h=>
 aa (pu (idxA 64 1 l j) h) fun m h=>
 aa (ld1 m h) fun dU h=>
 aa (iQ .u32 dU h) fun dI h=>
 aa (pu (aA prog .shl 186 dI (.int .u64 24)) h) fun ee h=>
 aa (some ((x 0),h)) fun n h=>
 aa (some (a,h)) fun o h=>
 aa (pu (aA prog .mul 3 (.int .i64 4) o) h) fun p h=>
 aa (pu (aA prog .add 3 p (.int .i64 1)) h) fun q h=>
 aa (pu (nilCheckA n) h) fun r h=>
 aa (pu (aC r 8) h) fun s h=>
 aa (pu (idxA 64 1 s q) h) fun t h=>
 aa (ld1 t h) fun u h=>
 aa (iQ .u32 u h) fun v h=>
 aa (pu (aA prog .shl 186 v (.int .u64 16)) h) fun w h=>
 aa (pu (aA prog .or 186 ee w) h) fun y h=>
 aa (some ((x 0),h)) fun z h=>
 aa (some (a,h)) fun A h=>
 aa (pu (aA prog .mul 3 (.int .i64 4) A) h) fun gP h=>
 aa (pu (aA prog .add 3 gP (.int .i64 2)) h) fun fU h=>
 aa (pu (nilCheckA z) h) fun fD h=>
 aa (pu (aC fD 8) h) fun B h=>
 aa (pu (idxA 64 1 B fU) h) fun D h=>
 aa (ld1 D h) fun E h=>
 aa (iQ .u32 E h) fun F h=>
 aa (pu (aA prog .shl 186 F (.int .u64 8)) h) fun G h=>
 aa (pu (aA prog .or 186 y G) h) fun H h=>
 aa (some ((x 0),h)) fun I h=>
 aa (some (a,h)) fun J h=>
 aa (pu (aA prog .mul 3 (.int .i64 4) J) h) fun K h=>
 aa (pu (aA prog .add 3 K (.int .i64 3)) h) fun L h=>
 aa (pu (nilCheckA I) h) fun M h=>
 aa (pu (aC M 8) h) fun N h=>
 aa (pu (idxA 64 1 N L) h) fun O h=>
 aa (ld1 O h) fun P h=>
 aa (iQ .u32 P h) fun Q h=>
 aa (pu (aA prog .or 186 H Q) h) fun R h=>
 aa (pu (idxA 64 1 (x 2) d) h) fun S h=>
 aa (bI 1 S R h) fun _ h=>
 aa (pu (aA prog .add 3 (x 24) (.int .i64 1)) h) fun T h=>
 aa (some (T,h)) fun U h=>
 some (.normal,(aS 241 (up x [(3,a),(24,U),(25,b),(26,c),(27,d),(28,f),(29,g),(30,j),(31,k),(32,l),(33,m),(34,dU),(35,dI),(36,ee),(37,n),(38,o),(39,p),(40,q),(41,r),(42,s),(43,t),(44,u),(45,v),(46,w),(47,y),(48,z),(49,A),(50,gP),(51,fU),(52,fD),(53,B),(54,D),(55,E),(56,F),(57,G),(58,H),(59,I),(60,J),(61,K),(62,L),(63,M),(64,N),(65,O),(66,P),(67,Q),(68,R),(69,S),(70,T)])),h)
 | .bool false=>
 some (.exit 0,(aS 241 (up x [(25,b)])),h)
 |_=>none)
def rV (C:ah) (x:Nat->Vl) (h:ae):aY:=
 aa (some ((x 0),h)) fun a h=>
 aa (pu (nilCheckA a) h) fun b h=>
 aa (pu (aC b 0) h) fun c h=>
 aa (pu (idxA 8 1 c (.int .i64 0)) h) fun d h=>
 aa (ld1 d h) fun f h=>
 aa (some ((x 0),h)) fun g h=>
 aa (pu (nilCheckA g) h) fun j h=>
 aa (pu (aC j 0) h) fun k h=>
 aa (pu (idxA 8 1 k (.int .i64 1)) h) fun l h=>
 aa (ld1 l h) fun m h=>
 aa (some ((x 0),h)) fun n h=>
 aa (pu (nilCheckA n) h) fun o h=>
 aa (pu (aC o 0) h) fun p h=>
 aa (pu (idxA 8 1 p (.int .i64 2)) h) fun q h=>
 aa (ld1 q h) fun r h=>
 aa (some ((x 0),h)) fun s h=>
 aa (pu (nilCheckA s) h) fun t h=>
 aa (pu (aC t 0) h) fun u h=>
 aa (pu (idxA 8 1 u (.int .i64 3)) h) fun v h=>
 aa (ld1 v h) fun w h=>
 aa (some (f,h)) fun T h=>
 aa (some (m,h)) fun U h=>
 aa (some (r,h)) fun V h=>
 aa (some (w,h)) fun W h=>
 aa (some ((x 0),h)) fun y h=>
 aa (pu (nilCheckA y) h) fun z h=>
 aa (pu (aC z 0) h) fun A h=>
 aa (pu (idxA 8 1 A (.int .i64 4)) h) fun B h=>
 aa (ld1 B h) fun D h=>
 aa (some ((x 0),h)) fun E h=>
 aa (pu (nilCheckA E) h) fun F h=>
 aa (pu (aC F 0) h) fun G h=>
 aa (pu (idxA 8 1 G (.int .i64 5)) h) fun H h=>
 aa (ld1 H h) fun I h=>
 aa (some ((x 0),h)) fun J h=>
 aa (pu (nilCheckA J) h) fun K h=>
 aa (pu (aC K 0) h) fun L h=>
 aa (pu (idxA 8 1 L (.int .i64 6)) h) fun M h=>
 aa (ld1 M h) fun N h=>
 aa (some ((x 0),h)) fun O h=>
 aa (pu (nilCheckA O) h) fun P h=>
 aa (pu (aC P 0) h) fun Q h=>
 aa (pu (idxA 8 1 Q (.int .i64 7)) h) fun R h=>
 aa (ld1 R h) fun S h=>
 aa (some (D,h)) fun X h=>
 aa (some (I,h)) fun Y h=>
 aa (some (N,h)) fun Z h=>
 aa (some (S,h)) fun a0 h=>
 aa (some ((.int .i64 0),h)) fun a1 h=>
 dH (iter (codeA prog C (aq f187 [1,1,1,1,1,0,1,0,0])) az (aS 241 (up x [(9,T),(10,U),(11,V),(12,W),(13,X),(14,Y),(15,Z),(16,a0),(114,a),(115,b),(116,c),(117,d),(118,f),(119,g),(120,j),(121,k),(122,l),(123,m),(124,n),(125,o),(126,p),(127,q),(128,r),(129,s),(130,t),(131,u),(132,v),(133,w),(134,y),(135,z),(136,A),(137,B),(138,D),(139,E),(140,F),(141,G),(142,H),(143,I),(144,J),(145,K),(146,L),(147,M),(148,N),(149,O),(150,P),(151,Q),(152,R),(153,S),(154,a1)])) h) (resultsA prog f187.results.toList) (b187_16 C)
def kZ (C:ah) (x:Nat->Vl) (h:ae):Option (Ex×aO×ae):=
 aa (some ((x 4),h)) fun c h=>
 aa (pu (aA prog .lss 3 c (.int .i64 64)) h) fun d h=>
 (match d with
 | .bool true=>
 aa (some ((x 4),h)) fun f h=>
 aa (pu (aA prog .sub 3 f (.int .i64 15)) h) fun g h=>
 aa (pu (idxA 64 1 (x 2) g) h) fun j h=>
 aa (ld1 j h) fun k h=>
 aa (some ((x 4),h)) fun l h=>
 aa (pu (aA prog .sub 3 l (.int .i64 2)) h) fun m h=>
 aa (pu (idxA 64 1 (x 2) m) h) fun n h=>
 aa (ld1 n h) fun o h=>
 aa (some (k,h)) fun a h=>
 aa (some (o,h)) fun b h=>
 aa (some (a,h)) fun p h=>
 aa (C 215 [p,(.int .i64 (-7))] h) fun q h=>
 aa (some (a,h)) fun r h=>
 aa (C 215 [r,(.int .i64 (-18))] h) fun s h=>
 aa (pu (aA prog .xor 186 q s) h) fun t h=>
 aa (some (a,h)) fun u h=>
 aa (pu (aA prog .shr 186 u (.int .u64 3)) h) fun v h=>
 aa (pu (aA prog .xor 186 t v) h) fun w h=>
 aa (some (w,h)) fun y h=>
 aa (some (b,h)) fun z h=>
 aa (C 215 [z,(.int .i64 (-17))] h) fun A h=>
 aa (some (b,h)) fun B h=>
 aa (C 215 [B,(.int .i64 (-19))] h) fun D h=>
 aa (pu (aA prog .xor 186 A D) h) fun E h=>
 aa (some (b,h)) fun F h=>
 aa (pu (aA prog .shr 186 F (.int .u64 10)) h) fun G h=>
 aa (pu (aA prog .xor 186 E G) h) fun H h=>
 aa (some (H,h)) fun I h=>
 aa (some ((x 4),h)) fun J h=>
 aa (some ((x 4),h)) fun K h=>
 aa (pu (aA prog .sub 3 K (.int .i64 16)) h) fun L h=>
 aa (pu (idxA 64 1 (x 2) L) h) fun M h=>
 aa (ld1 M h) fun N h=>
 aa (some (y,h)) fun O h=>
 aa (pu (aA prog .add 186 N O) h) fun oR h=>
 aa (some ((x 4),h)) fun rp h=>
 aa (pu (aA prog .sub 3 rp (.int .i64 7)) h) fun P h=>
 aa (pu (idxA 64 1 (x 2) P) h) fun Q h=>
 aa (ld1 Q h) fun R h=>
 aa (pu (aA prog .add 186 oR R) h) fun S h=>
 aa (some (I,h)) fun T h=>
 aa (pu (aA prog .add 186 S T) h) fun U h=>
 aa (pu (idxA 64 1 (x 2) J) h) fun V h=>
 aa (bI 1 V U h) fun _ h=>
 aa (some ((x 4),h)) fun W h=>
 aa (pu (aA prog .add 3 W (.int .i64 1)) h) fun X h=>
 aa (some (X,h)) fun Y h=>
 some (.normal,(aS 241 (up x [(4,Y),(5,a),(6,b),(7,y),(8,I),(71,c),(72,d),(73,W),(74,X),(75,f),(76,g),(77,j),(78,k),(79,l),(80,m),(81,n),(82,o),(83,p),(84,q),(85,r),(86,s),(87,t),(88,u),(89,v),(90,w),(91,z),(92,A),(93,B),(94,D),(95,E),(96,F),(97,G),(98,H),(99,J),(100,K),(101,L),(102,M),(103,N),(104,O),(105,oR),(106,rp),(107,P),(108,Q),(109,R),(110,S),(111,T),(112,U),(113,V)])),h)
 | .bool false=>
 some (.exit 2,(aS 241 (up x [(71,c),(72,d)])),h)
 |_=>none)
def qx (C:ah) (x:Nat->Vl) (h:ae):aY:=
 aa (some ((x 9),h)) fun a h=>
 aa (some ((x 10),h)) fun b h=>
 aa (some ((x 11),h)) fun c h=>
 aa (some ((x 12),h)) fun d h=>
 aa (some ((x 13),h)) fun f h=>
 aa (some ((x 14),h)) fun g h=>
 aa (some ((x 15),h)) fun j h=>
 aa (some ((x 16),h)) fun k h=>
 aa (pu (cN (List.replicate 8 (.int .u32 0)) [(0,1,a),(1,1,b),(2,1,c),(3,1,d),(4,1,f),(5,1,g),(6,1,j),(7,1,k)]) h) fun l h=>
 aa (some ((.int .i64 0),h)) fun m h=>
 dH (iter (codeA prog C (aq f187 [1,1,1,1,1,1,1,0,0])) az (aS 241 (up x [(216,a),(217,b),(218,c),(219,d),(220,f),(221,g),(222,j),(223,k),(224,l),(225,m)])) h) (resultsA prog f187.results.toList) (b187_25 C)
def ja (C:ah) (x:Nat->Vl) (h:ae):Option (Ex×aO×ae):=
 aa (pu (aA prog .lss 3 (x 154) (.int .i64 64)) h) fun a h=>
 (match a with
 | .bool true=>
 aa (some ((x 154),h)) fun d h=>
 aa (some (d,h)) fun b h=>
 aa (some ((x 13),h)) fun f h=>
 aa (C 215 [f,(.int .i64 (-6))] h) fun g h=>
 aa (some ((x 13),h)) fun j h=>
 aa (C 215 [j,(.int .i64 (-11))] h) fun k h=>
 aa (pu (aA prog .xor 186 g k) h) fun l h=>
 aa (some ((x 13),h)) fun m h=>
 aa (C 215 [m,(.int .i64 (-25))] h) fun n h=>
 aa (pu (aA prog .xor 186 l n) h) fun o h=>
 aa (some (o,h)) fun p h=>
 aa (some ((x 16),h)) fun q h=>
 aa (some (p,h)) fun r h=>
 aa (pu (aA prog .add 186 q r) h) fun s h=>
 aa (some ((x 15),h)) fun t h=>
 aa (some ((x 13),h)) fun u h=>
 aa (some ((x 14),h)) fun v h=>
 aa (some ((x 15),h)) fun w h=>
 aa (pu (aA prog .xor 186 v w) h) fun y h=>
 aa (pu (aA prog .and 186 u y) h) fun z h=>
 aa (pu (aA prog .xor 186 t z) h) fun A h=>
 aa (pu (aA prog .add 186 s A) h) fun B h=>
 aa (some (b,h)) fun D h=>
 aa (pu (idxA 64 1 (ptr 1 0) D) h) fun E h=>
 aa (ld1 E h) fun F h=>
 aa (pu (aA prog .add 186 B F) h) fun G h=>
 aa (some (b,h)) fun H h=>
 aa (pu (idxA 64 1 (x 2) H) h) fun I h=>
 aa (ld1 I h) fun J h=>
 aa (pu (aA prog .add 186 G J) h) fun K h=>
 aa (some (K,h)) fun c h=>
 aa (some ((x 9),h)) fun L h=>
 aa (C 215 [L,(.int .i64 (-2))] h) fun M h=>
 aa (some ((x 9),h)) fun N h=>
 aa (C 215 [N,(.int .i64 (-13))] h) fun O h=>
 aa (pu (aA prog .xor 186 M O) h) fun P h=>
 aa (some ((x 9),h)) fun Q h=>
 aa (C 215 [Q,(.int .i64 (-22))] h) fun R h=>
 aa (pu (aA prog .xor 186 P R) h) fun S h=>
 aa (some (S,h)) fun T h=>
 aa (some (T,h)) fun U h=>
 aa (some ((x 9),h)) fun V h=>
 aa (some ((x 10),h)) fun W h=>
 aa (pu (aA prog .and 186 V W) h) fun X h=>
 aa (some ((x 11),h)) fun Y h=>
 aa (some ((x 9),h)) fun Z h=>
 aa (some ((x 10),h)) fun a0 h=>
 aa (pu (aA prog .or 186 Z a0) h) fun a1 h=>
 aa (pu (aA prog .and 186 Y a1) h) fun a2 h=>
 aa (pu (aA prog .or 186 X a2) h) fun a3 h=>
 aa (pu (aA prog .add 186 U a3) h) fun a4 h=>
 aa (some (a4,h)) fun a5 h=>
 aa (some ((x 15),h)) fun a6 h=>
 aa (some ((x 14),h)) fun a7 h=>
 aa (some ((x 13),h)) fun a8 h=>
 aa (some ((x 12),h)) fun a9 h=>
 aa (some (c,h)) fun b0 h=>
 aa (pu (aA prog .add 186 a9 b0) h) fun b1 h=>
 aa (some (a6,h)) fun b9 h=>
 aa (some (a7,h)) fun c0 h=>
 aa (some (a8,h)) fun c1 h=>
 aa (some (b1,h)) fun c2 h=>
 aa (some ((x 11),h)) fun b2 h=>
 aa (some ((x 10),h)) fun b3 h=>
 aa (some ((x 9),h)) fun b4 h=>
 aa (some (c,h)) fun b5 h=>
 aa (some (a5,h)) fun b6 h=>
 aa (pu (aA prog .add 186 b5 b6) h) fun b7 h=>
 aa (some (b2,h)) fun c3 h=>
 aa (some (b3,h)) fun c4 h=>
 aa (some (b4,h)) fun c5 h=>
 aa (some (b7,h)) fun c6 h=>
 aa (pu (aA prog .add 3 (x 154) (.int .i64 1)) h) fun b8 h=>
 aa (some (b8,h)) fun c7 h=>
 some (.normal,(aS 241 (up x [(9,c6),(10,c5),(11,c4),(12,c3),(13,c2),(14,c1),(15,c0),(16,b9),(17,b),(18,p),(19,c),(20,T),(21,a5),(154,c7),(155,a),(156,d),(157,f),(158,g),(159,j),(160,k),(161,l),(162,m),(163,n),(164,o),(165,q),(166,r),(167,s),(168,t),(169,u),(170,v),(171,w),(172,y),(173,z),(174,A),(175,B),(176,D),(177,E),(178,F),(179,G),(180,H),(181,I),(182,J),(183,K),(184,L),(185,M),(186,N),(187,O),(188,P),(189,Q),(190,R),(191,S),(192,U),(193,V),(194,W),(195,X),(196,Y),(197,Z),(198,a0),(199,a1),(200,a2),(201,a3),(202,a4),(203,a6),(204,a7),(205,a8),(206,a9),(207,b0),(208,b1),(209,b2),(210,b3),(211,b4),(212,b5),(213,b6),(214,b7),(215,b8)])),h)
 | .bool false=>
 some (.exit 4,(aS 241 (up x [(155,a)])),h)
 |_=>none)
def ji (C:ah) (x:Nat->Vl) (h:ae):Option (Ex×aO×ae):=
 aa (pu (aA prog .lss 3 (x 225) (.int .i64 8)) h) fun a h=>
 (match a with
 | .bool true=>
 aa (some ((x 225),h)) fun d h=>
 aa (pu (ixA1 8 1 (x 224) (x 225)) h) fun f h=>
 aa (some (d,h)) fun g h=>
 aa (some (f,h)) fun j h=>
 aa (some ((x 0),h)) fun b h=>
 aa (some (g,h)) fun c h=>
 aa (pu (nilCheckA b) h) fun k h=>
 aa (pu (aC k 0) h) fun l h=>
 aa (pu (idxA 8 1 l c) h) fun m h=>
 aa (ld1 m h) fun n h=>
 aa (some (j,h)) fun o h=>
 aa (pu (aA prog .add 186 n o) h) fun p h=>
 aa (pu (nilCheckA b) h) fun q h=>
 aa (pu (aC q 0) h) fun r h=>
 aa (pu (idxA 8 1 r c) h) fun s h=>
 aa (bI 1 s p h) fun _ h=>
 aa (pu (aA prog .add 3 (x 225) (.int .i64 1)) h) fun t h=>
 aa (some (t,h)) fun u h=>
 some (.normal,(aS 241 (up x [(22,g),(23,j),(225,u),(226,a),(227,d),(228,f),(229,b),(230,c),(231,k),(232,l),(233,m),(234,n),(235,o),(236,p),(237,q),(238,r),(239,s),(240,t)])),h)
 | .bool false=>
 some (.exit 6,(aS 241 (up x [(226,a)])),h)
 |_=>none)
def t187_eq:aV prog C f187 [x0] h=t187 C x0 h:=
 lkT (by kernel_rfl) (by kernel_rfl)
def Al:k187_1 C (aS 241 x) h=si C x h:=
 bg (T:=si C) (fun x h=>by kernel_rfl) x h
def uT:codeA prog C (aq f187 [1,0,1,0,0]) (aS 241 x) h=mM C x h:=
 aW (T:=mM C) (fun x h=>by kernel_rfl) x h
def zF:k187_4 C (aS 241 x) h=rV C x h:=
 bg (T:=rV C) (fun x h=>by kernel_rfl) x h
def uu:codeA prog C (aq f187 [1,1,0,1,0,0]) (aS 241 x) h=kZ C x h:=
 aW (T:=kZ C) (fun x h=>by kernel_rfl) x h
def xT:k187_14 C (aS 241 x) h=qx C x h:=
 bg (T:=qx C) (fun x h=>by kernel_rfl) x h
def qk:codeA prog C (aq f187 [1,1,1,1,1,0,1,0,0]) (aS 241 x) h=ja C x h:=
 aW (T:=ja C) (fun x h=>by kernel_rfl) x h
def qt:codeA prog C (aq f187 [1,1,1,1,1,1,1,0,0]) (aS 241 x) h=ji C x h:=
 aW (T:=ji C) (fun x h=>by kernel_rfl) x h
end
section
abbrev aK (h h':ae):Prop:=au h h' (fun _=>False)
def aK.get {h h':ae} (o:aK h h') {b:Nat} {k:eh} (e:h.get b=some k):h'.get b=some k:=(au.get o b (h.aL e) (fun h=>h)).trans e
def _root_.Go.Abs.ax {γ:Type} {o o':aY} {f:Vl->ae->Option γ} (h:o=o'):aa o f=aa o' f:=by rw [h]
attribute [local congr] ax
def newC_eq (cs:List Vl) (h:ae):cO cs h=some (ptr h.next 0,h.alloc cs):=rfl
def wY {A B B':List Vl} {i:Nat} {v:Vl} (j:Nat) (h:A.length+j=i) (e:B.set j v=B'):(A++B).set i v=A++B':=by subst h;rw [List.set_append_right _ _ (by omega),FY,e]
abbrev bJ (l:List Nat):List Vl:=l.map u8
def uH (l:List Nat):Prop := ∀ x∈l,x<256
def fresh (cs:List Vl) (h:ae) : ∃ h2,cO cs h=some (ptr h.next 0,h2)/\aK h h2/\h2.get h.next=some cs/\h2.next=h.next+1:=
 ⟨_,newC_eq _ _,au.alloc _ _ _,by rw [ae.aZ,DH rfl],rfl⟩
def dr {h:ae} {b o:Nat} {k:eh} {v:Vl} (g:h.get b=some k) (hn:h.n0<=b) (ho:o<k.length) (hc:v.cells = #[v]) (hv:v.oneCell'=true) : ∃ h2,bI 1 (ptr b o) v h=some (undef,h2)/\au h h2 (· = b)/\h2.get b=some (k.set o v)/\h2.n0<=b/\h2.next=h.next:=
 ⟨_,dO g ho hn hc hv,au.set hn g (.inr rfl),ae.bO hn g _,hn,rfl⟩
def aK.bB {a b c:ae} {d:Nat} (x:aK a b) (k:au b c (· = d)) (hd:a.next<=d):aK a c:=x.also k (fun e he q=>by omega)
def sn {a b:Nat} (h:a+b<=9223372036854775807):aA prog .add 3 (aj a) (.int .i64 (b:Int))=some (aj (a+b)):=by unfold aj;rw [eR,bf (by omega) (by omega),Int.natCast_add]
def eW {a:Nat} (h:a+1<=9223372036854775807):aA prog .add 3 (aj a) (.int .i64 1)=some (aj (a+1)):=sn h
def gS (a b:Nat):aA prog .lss 3 (aj a) (aj b)=some (.bool (decide (a<b))):=by
 rw [cx]
 congr 2
 by_cases e:a<b
 ·rw [DN e,DN (by omega)]
 ·rw [DW e,DW (by omega)]
def wv (x:BitVec 32):Vl := .int .u32 (x.toNat:Int)
section
variable {P:Program} {t:TypeId}
def w_add (x y:BitVec 32):aA P .add t (wv x) (wv y)=some (wv (x+y)):=by
 unfold wv;rw [eR,nN,BitVec.toNat_add]
 congr 3
def w_xor (x y:BitVec 32):aA P .xor t (wv x) (wv y)=some (wv (x ^^^ y)):=by unfold wv;rw [iP P t rfl x.isLt y.isLt,BitVec.toNat_xor]
def w_and (x y:BitVec 32):aA P .and t (wv x) (wv y)=some (wv (x &&& y)):=by unfold wv;rw [pg P t rfl x.isLt y.isLt,BitVec.toNat_and]
def w_or (x y:BitVec 32):aA P .or t (wv x) (wv y)=some (wv (x ||| y)):=by unfold wv;rw [x7 P t rfl x.isLt y.isLt,BitVec.toNat_or]
def w_shr (x:BitVec 32) {k:Nat} (hk:k<=32):aA P .shr t (wv x) (.int .u64 (k:Int))=some (wv (x >>> k)):=by unfold wv;rw [dG P t (by show k<=32;exact hk),HS,Nat.shiftRight_eq_div_pow]
def w_shl (x:BitVec 32) {k:Nat} (hk:k<=32):aA P .shl t (wv x) (.int .u64 (k:Int))=some (wv (x <<< k)):=by
 unfold wv;rw [ef];unfold iw;simp only;have hm:min ((k:Int)).toNat (IntKind.bits .u32)=k:=by rw [Int.toNat_natCast];exact GN hk
 rw [DL (by omega),hm,nN,HJ,Nat.shiftLeft_eq]
 congr 2
def Cg (n:Nat) (hn:n<256) (h:ae):iQ .u32 (u8 n) h=some (wv (BitVec.ofNat 32 n),h):=by unfold wv;rw [bY,qn (by omega) (by omega),FV,FK (by omega)]
end
def jt (x:BitVec 32) (n:Nat):BitVec 32:=(x <<< (32-n)) ||| (x >>> n)
def is215:bE prog 215 f215 := .of (by kernel_rfl)
def zQ {h:ae} (hG:3<=h.n0) (x:BitVec 32) {k:Nat} (hk:k<=32) {z:Int} (e:aA prog .and 237 (.int .u64 (IntKind.wrap .u64 z)) (.int .u64 31)=some (.int .u64 ((32-k:Nat):Int))):CB 215 [wv x,.int .i64 z] h=some (wv (jt x k),h):=by
 refine CB_body is215 hG rfl ((t215_eq _ _ _ _).trans ?_);unfold t215;have e2:aA prog .sub 237 (.int .u64 32) (.int .u64 ((32-k:Nat):Int))=some (.int .u64 ((k:Nat):Int)):=by rw [gR,show (32:Int)-((32-k:Nat):Int)=(k:Int) by omega,jk (by omega) (by omega)]
 simp -implicitDefEqProofs only [bY,e,e2,w_shl x (show 32-k<=32 by omega),w_shr x hk,w_or,af,ak];rfl
def w4 (a b c d:Nat):BitVec 32:=(BitVec.ofNat 32 a <<< 24) ||| (BitVec.ofNat 32 b <<< 16) ||| (BitVec.ofNat 32 c <<< 8) ||| BitVec.ofNat 32 d
def wAt (B:List Nat) (i:Nat):BitVec 32:=w4 (B.getD (4*i) 0) (B.getD (4*i+1) 0) (B.getD (4*i+2) 0) (B.getD (4*i+3) 0)
def vM (B:List Nat):List (BitVec 32):=(List.range 16).map (wAt B)
def s0w (x:BitVec 32):BitVec 32:=jt x 7 ^^^ jt x 18 ^^^ (x >>> 3)
def s1w (y:BitVec 32):BitVec 32:=jt y 17 ^^^ jt y 19 ^^^ (y >>> 10)
def vo (l:List (BitVec 32)):BitVec 32:=l.getD (l.length-16) 0+s0w (l.getD (l.length-15) 0)+l.getD (l.length-7) 0+s1w (l.getD (l.length-2) 0)
def kB:Nat->List (BitVec 32)->List (BitVec 32)
 | 0,l=>l
 |n+1,l=>kB n (l ++ [vo l])
abbrev AV (l:List (BitVec 32)):List Vl:=l.map wv
def ur (l:List (BitVec 32)):List Vl:=AV l++List.replicate (64-l.length) (.int .u32 0)
def wTab_len {l:List (BitVec 32)} (h:l.length<=64):(ur l).length=64:=by unfold ur;simp;omega
def wTab_set {l:List (BitVec 32)} {i:Nat} (hl:l.length=i) (hi:i<64) (x:BitVec 32):(ur l).set i (wv x)=ur (l ++ [x]):=by
 subst hl;unfold ur;have e:64-l.length=(64-(l.length+1))+1:=by omega
 rw [e,List.replicate_succ];rw [wY (A:=AV l) (B':=wv x::List.replicate (64-(l.length+1)) (.int .u32 0)) 0 (by simp) rfl];simp
def wTab_at {l:List (BitVec 32)} {i:Nat} (hi:i<l.length):(ur l)[i]? = some (wv (l.getD i 0)):=by unfold ur;rw [EI (by simpa using hi),D4,DK,DE hi];rfl
def cE (S:List (BitVec 32)) (B:List Nat) (n:Nat):List Vl:=AV S++(bJ B ++ [aj n])
def hash_byte {S:List (BitVec 32)} {B:List Nat} {n:Nat} (hS:S.length=8) {j:Nat} (hj:j<B.length):(cE S B n)[8+j]? = some (u8 (B.getD j 0)):=by unfold cE;rw [DX (by simp [hS]),EB,hS,FY,EI (by simpa using hj),D4,DK,DE hj];rfl
def oT {N b o i:Nat} (hi:i<N):idxA N 1 (ptr b o) (aj i)=some (ptr b (o+i)):=by unfold idxA;simp only [aj];rw [DH (by omega),Int.toNat_natCast,FG,aw]
def mul4 {i:Nat} (hi:i<1000):aA prog .mul 3 (.int .i64 4) (aj i)=some (aj (4*i)):=by unfold aj;rw [jM,show (4:Int)*(i:Int)=((4*i:Nat):Int) by omega,bf (by omega) (by omega)]
def addc {i c:Nat} (hi:i+c<100000):aA prog .add 3 (aj i) (.int .i64 (c:Int))=some (aj (i+c)):=by unfold aj;rw [eR,show (i:Int)+(c:Int)=((i+c:Nat):Int) by omega,bf (by omega) (by omega)]
def subc {i c:Nat} (hi:i<100000) (hc:c<=i):aA prog .sub 3 (aj i) (.int .i64 (c:Int))=some (aj (i-c)):=by unfold aj;rw [gR,show (i:Int)-(c:Int)=((i-c:Nat):Int) by omega,bf (by omega) (by omega)]
def uj {B:List Nat} (hB:uH B) {j:Nat} (hj:j<B.length):B.getD j 0<256:=by rw [DK,DE hj];exact hB _ (GP hj)
def cmp1 {h:ae} {p b:Nat} {S:List (BitVec 32)} {B:List Nat} {n:Nat} (hS:S.length=8) (hBl:B.length=64) (hB:uH B) (hp:h.get p=some (cE S B n)) (hb:h.n0<=b) (hpb:p≠b) (hw:h.get b=some (ur []))
  {x:Nat->Vl} (x0:x 0=ptr p 0) (x2:x 2=ptr b 0) (x24:x 24=aj 0) :
  Fin 241 (fun ex y g=>ex = .exit 0/\y 0=ptr p 0/\y 2=ptr b 0/\au h g (· = b)/\g.get b=some (ur (vM B))/\g.next=h.next) (iter (codeA prog CB (aq f187 [1,0,1,0,0])) az (aS 241 x) h):=by
 refine bL (uT CB) (Inv:=fun k y g => ∃ i,i+k=16/\y 0=ptr p 0/\y 2=ptr b 0/\y 24=aj i/\au h g (· = b)/\g.get b=some (ur ((List.range i).map (wAt B)))/\g.next=h.next) ?_ 16 (by have:az=18446744073709551616:=rfl;omega) ⟨0,DC _,x0,x2,x24,au.refl _ _,hw,rfl⟩;rintro k y g ⟨i,hik,y0,y2,y24,K,gw,gn⟩;unfold mM;have l16:aA prog .lss 3 (aj i) (.int .i64 16)=some (.bool (decide (i<16))):=gS i 16;simp -implicitDefEqProofs only [y24,l16,af,ak];by_cases hi:i<16
 ·have gp:g.get p=some (cE S B n):=au.getE K hp hpb;have lb : ∀ j,j<64->ld1 (ptr p (8+j)) g=some (u8 (B.getD j 0),g):=fun j hj=>aH gp (hash_byte hS (by omega)) rfl;have c0:=Cg _ (uj hB (j:=4*i) (by omega)) g;have c1:=Cg _ (uj hB (j:=4*i+1) (by omega)) g;have c2:=Cg _ (uj hB (j:=4*i+2) (by omega)) g;have c3:=Cg _ (uj hB (j:=4*i+3) (by omega)) g;have a1:aA prog .add 3 (aj (4*i)) (.int .i64 1)=some (aj (4*i+1)):=addc (c:=1) (by omega);have a2:aA prog .add 3 (aj (4*i)) (.int .i64 2)=some (aj (4*i+2)):=addc (c:=2) (by omega);have a3:aA prog .add 3 (aj (4*i)) (.int .i64 3)=some (aj (4*i+3)):=addc (c:=3) (by omega);have sh24 : ∀ x:BitVec 32,aA prog .shl 186 (wv x) (.int .u64 24)=some (wv (x <<< 24)):=fun x=>w_shl x (k:=24) (by decide);have sh16 : ∀ x:BitVec 32,aA prog .shl 186 (wv x) (.int .u64 16)=some (wv (x <<< 16)):=fun x=>w_shl x (k:=16) (by decide);have sh8 : ∀ x:BitVec 32,aA prog .shl 186 (wv x) (.int .u64 8)=some (wv (x <<< 8)):=fun x=>w_shl x (k:=8) (by decide);have ll:((List.range i).map (wAt B)).length=i:=by simp
  obtain ⟨g2,e2,k2,s2,_,m2⟩:=dr (o:=i) (v:=wv (wAt B i)) gw (by rw [K.n0];exact hb) (by rw [wTab_len (by omega)];omega) rfl rfl;have hw4:wv (BitVec.ofNat 32 (B.getD (4*i) 0) <<< 24 ||| BitVec.ofNat 32 (B.getD (4*i+1) 0) <<< 16 ||| BitVec.ofNat 32 (B.getD (4*i+2) 0) <<< 8 ||| BitVec.ofNat 32 (B.getD (4*i+3) 0))=wv (wAt B i):=rfl;have ix:idxA 64 1 (ptr b 0) (aj i)=some (ptr b i):=by rw [oT (by omega),DC]
  simp -implicitDefEqProofs only [DN hi,y0,y2,y24,mul4 (show i<1000 by omega),av,aw,DC,oT (show 4*i<64 by omega),oT (show 4*i+1<64 by omega),oT (show 4*i+2<64 by omega),oT (show 4*i+3<64 by omega),lb (4*i) (by omega),lb (4*i+1) (by omega),lb (4*i+2) (by omega),lb (4*i+3) (by omega),c0,c1,c2,c3,a1,a2,a3,sh24,sh16,sh8,w_or,hw4,ix,e2,eW (show i+1<=9223372036854775807 by omega),af,ak];refine dE.next (k-1) (by omega) ⟨i+1,by omega,y0,y2,rfl,K.trans k2,?_,m2.trans gn⟩;rw [s2,wTab_set ll (by omega),H2,GA];rfl
 ·have:i=16:=by omega
  subst this;simp -implicitDefEqProofs only [DW hi,af,ak];exact dE.out 0 ⟨rfl,y0,y2,K,gw,gn⟩
def and25:aA prog .and 237 (.int .u64 (IntKind.wrap .u64 (-7))) (.int .u64 31)=some (.int .u64 ((32-7:Nat):Int)):=by kernel_rfl
def rots {h:ae} (hG:3<=h.n0) (x:BitVec 32):CB 215 [wv x,.int .i64 (-7)] h=some (wv (jt x 7),h)/\CB 215 [wv x,.int .i64 (-18)] h=some (wv (jt x 18),h)/\CB 215 [wv x,.int .i64 (-17)] h=some (wv (jt x 17),h)/\CB 215 [wv x,.int .i64 (-19)] h=some (wv (jt x 19),h) /\
  CB 215 [wv x,.int .i64 (-6)] h=some (wv (jt x 6),h)/\CB 215 [wv x,.int .i64 (-11)] h=some (wv (jt x 11),h)/\CB 215 [wv x,.int .i64 (-25)] h=some (wv (jt x 25),h)/\CB 215 [wv x,.int .i64 (-2)] h=some (wv (jt x 2),h)/\CB 215 [wv x,.int .i64 (-13)] h=some (wv (jt x 13),h)/\CB 215 [wv x,.int .i64 (-22)] h=some (wv (jt x 22),h):=
 ⟨zQ hG x (by decide) and25,zQ hG x (k:=18) (by decide) (by kernel_rfl),zQ hG x (k:=17) (by decide) (by kernel_rfl),zQ hG x (k:=19) (by decide) (by kernel_rfl),zQ hG x (k:=6) (by decide) (by kernel_rfl),zQ hG x (k:=11) (by decide) (by kernel_rfl),zQ hG x (k:=25) (by decide) (by kernel_rfl),zQ hG x (k:=2) (by decide) (by kernel_rfl),zQ hG x (k:=13) (by decide) (by kernel_rfl),zQ hG x (k:=22) (by decide) (by kernel_rfl)⟩
def xH : ∀ (n:Nat) (l:List (BitVec 32)),(kB n l).length=l.length+n
 | 0,l=>rfl
 |n+1,l=>by rw [kB,xH n,DO];simp;omega
def AE : ∀ (n:Nat) (l:List (BitVec 32)),kB n l ++ [vo (kB n l)]=kB (n+1) l
 | 0,l=>rfl
 |n+1,l=>by rw [kB,AE n];rfl
def cmp2 {h:ae} (hG:3<=h.n0) {p b:Nat} {l:List (BitVec 32)} (hl:l.length=16) (hb:h.n0<=b) (hw:h.get b=some (ur l))
  {x:Nat->Vl} (x0:x 0=ptr p 0) (x2:x 2=ptr b 0) (x4:x 4=aj 16) :
  Fin 241 (fun ex y g=>ex = .exit 2/\y 0=ptr p 0/\y 2=ptr b 0/\au h g (· = b)/\g.get b=some (ur (kB 48 l))/\g.next=h.next) (iter (codeA prog CB (aq f187 [1,1,0,1,0,0])) az (aS 241 x) h):=by
 refine bL (uu CB) (Inv:=fun k y g => ∃ i,i+k=48/\y 0=ptr p 0/\y 2=ptr b 0/\y 4=aj (16+i)/\au h g (· = b)/\g.get b=some (ur (kB i l))/\g.next=h.next) ?_ 48 (by have:az=18446744073709551616:=rfl;omega) ⟨0,DC _,x0,x2,x4,au.refl _ _,hw,rfl⟩;rintro k y g ⟨i,hik,y0,y2,y4,K,gw,gn⟩;unfold kZ;have l64:aA prog .lss 3 (aj (16+i)) (.int .i64 64)=some (.bool (decide (16+i<64))):=gS (16+i) 64;simp -implicitDefEqProofs only [y4,l64,af,ak];by_cases hi:16+i<64
 ·have len:(kB i l).length=16+i:=by rw [xH,hl]
  have hg:3<=g.n0:=by rw [K.n0];exact hG
  have s15:aA prog .sub 3 (aj (16+i)) (.int .i64 15)=some (aj (16+i-15)):=subc (c:=15) (by omega) (by omega);have s2:aA prog .sub 3 (aj (16+i)) (.int .i64 2)=some (aj (16+i-2)):=subc (c:=2) (by omega) (by omega);have s16:aA prog .sub 3 (aj (16+i)) (.int .i64 16)=some (aj (16+i-16)):=subc (c:=16) (by omega) (by omega);have s7:aA prog .sub 3 (aj (16+i)) (.int .i64 7)=some (aj (16+i-7)):=subc (c:=7) (by omega) (by omega);have ix : ∀ j,j<64->idxA 64 1 (ptr b 0) (aj j)=some (ptr b j):=fun j hj=>by rw [oT hj,DC]
  have lw : ∀ j,j<16+i->ld1 (ptr b j) g=some (wv ((kB i l).getD j 0),g):=fun j hj=>aH gw (wTab_at (by omega)) rfl;generalize hX:(kB i l).getD (16+i-15) 0=X at *;generalize hY:(kB i l).getD (16+i-2) 0=Y at *;have lX:=lw (16+i-15) (by omega);have lY:=lw (16+i-2) (by omega);rw [hX] at lX;rw [hY] at lY;obtain ⟨rx7,rx18,_⟩:=rots hg X;obtain ⟨_,_,ry17,ry19,_⟩:=rots hg Y;have sh3 : ∀ x:BitVec 32,aA prog .shr 186 (wv x) (.int .u64 3)=some (wv (x >>> 3)):=fun x=>w_shr x (k:=3) (by decide);have sh10 : ∀ x:BitVec 32,aA prog .shr 186 (wv x) (.int .u64 10)=some (wv (x >>> 10)):=fun x=>w_shr x (k:=10) (by decide);have hN:wv ((kB i l).getD (16+i-16) 0+(jt X 7 ^^^ jt X 18 ^^^ X >>> 3)+(kB i l).getD (16+i-7) 0+(jt Y 17 ^^^ jt Y 19 ^^^ Y >>> 10))=wv (vo (kB i l)):=by unfold vo s0w s1w;rw [len,hX,hY]
  obtain ⟨g2,e2,k2,t2,_,m2⟩:=dr (o:=16+i) (v:=wv (vo (kB i l))) gw (by rw [K.n0];exact hb) (by rw [wTab_len (by omega)];omega) rfl rfl;simp -implicitDefEqProofs only [DN hi,y2,y4,s15,s2,s16,s7,ix (16+i-15) (by omega),ix (16+i-2) (by omega),ix (16+i-16) (by omega),ix (16+i-7) (by omega),ix (16+i) (by omega),lX,lY,lw (16+i-16) (by omega),lw (16+i-7) (by omega),rx7,rx18,ry17,ry19,w_xor,sh3,sh10,w_add,hN,e2,eW (show 16+i+1<=9223372036854775807 by omega),af,ak];refine dE.next (k-1) (by omega) ⟨i+1,by omega,y0,y2,rfl,K.trans k2,?_,m2.trans gn⟩;rw [t2,wTab_set len (by omega),AE]
 ·have:i=48:=by omega
  subst this;simp -implicitDefEqProofs only [DW hi,af,ak];exact dE.out 2 ⟨rfl,y0,y2,K,gw,gn⟩
def rkW:List (BitVec 32):=cP.map fun v=>match v with | .int _ n=>BitVec.ofInt 32 n|_=>0
def rkW_eq:AV rkW=cP:=by kernel_rfl
def CW:rkW.length=64:=by unfold rkW;rw [EB];kernel_rfl
structure St where
 a:BitVec 32
 b:BitVec 32
 c:BitVec 32
 d:BitVec 32
 e:BitVec 32
 f:BitVec 32
 g:BitVec 32
 i:BitVec 32
def St.l (s:St):List (BitVec 32) := [s.a,s.b,s.c,s.d,s.e,s.f,s.g,s.i]
def t1S (s:St) (k w:BitVec 32):BitVec 32:=s.i+(jt s.e 6 ^^^ jt s.e 11 ^^^ jt s.e 25)+(s.g ^^^ (s.e &&& (s.f ^^^ s.g)))+k+w
def t2S (s:St):BitVec 32:=(jt s.a 2 ^^^ jt s.a 13 ^^^ jt s.a 22)+((s.a &&& s.b) ||| (s.c &&& (s.a ||| s.b)))
def stepS (s:St) (k w:BitVec 32):St:=⟨t1S s k w+t2S s,s.a,s.b,s.c,s.d+t1S s k w,s.e,s.f,s.g⟩
def yR (W:List (BitVec 32)):Nat->St->St
 | 0,s=>s
 |n+1,s=>stepS (yR W n s) (rkW.getD n 0) (W.getD n 0)
structure StE (s:St) (y:Nat->Vl):Prop where
 a:y 9=wv s.a
 b:y 10=wv s.b
 c:y 11=wv s.c
 d:y 12=wv s.d
 e:y 13=wv s.e
 f:y 14=wv s.f
 g:y 15=wv s.g
 i:y 16=wv s.i
set_option maxRecDepth 100000 in
def cmp3 {h:ae} (hG:3<=h.n0) (hz:h.get 1=some cP) {p b:Nat} {W:List (BitVec 32)} (hl:W.length=64) (hw:h.get b=some (ur W)) {s:St}
  {x:Nat->Vl} (x0:x 0=ptr p 0) (x2:x 2=ptr b 0) (x154:x 154=aj 0) (xs:StE s x) :
  Fin 241 (fun ex y g=>ex = .exit 4/\y 0=ptr p 0/\StE (yR W 64 s) y/\g=h) (iter (codeA prog CB (aq f187 [1,1,1,1,1,0,1,0,0])) az (aS 241 x) h):=by
 refine bL (qk CB) (Inv:=fun k y g => ∃ i,i+k=64/\y 0=ptr p 0/\y 2=ptr b 0/\y 154=aj i/\StE (yR W i s) y/\g=h) ?_ 64 (by have:az=18446744073709551616:=rfl;omega) ⟨0,DC _,x0,x2,x154,xs,rfl⟩;rintro k y g ⟨i,hik,y0,y2,y154,Y,rfl⟩;unfold ja;have l64:aA prog .lss 3 (aj i) (.int .i64 64)=some (.bool (decide (i<64))):=gS i 64;simp -implicitDefEqProofs only [y154,l64,af,ak];by_cases hi:i<64
 ·have ix:idxA 64 1 (ptr b 0) (aj i)=some (ptr b i):=by rw [oT hi,DC]
  have ix3:idxA 64 1 (ptr 1 0) (aj i)=some (ptr 1 i):=by rw [oT hi,DC]
  have lw:ld1 (ptr b i) g=some (wv (W.getD i 0),g):=aH hw (wTab_at (by omega)) rfl;have lk:ld1 (ptr 1 i) g=some (wv (rkW.getD i 0),g):=aH hz (by rw [<-rkW_eq,D4,DK,DE (by rw [CW];exact hi)];rfl) rfl
  generalize hs:yR W i s=q at *;obtain ⟨_,_,_,_,re6,re11,re25,_⟩:=rots hG q.e;obtain ⟨_,_,_,_,_,_,_,ra2,ra13,ra22⟩:=rots hG q.a;simp -implicitDefEqProofs only [DN hi,y2,y154,Y.a,Y.b,Y.c,Y.d,Y.e,Y.f,Y.g,Y.i,ix,ix3,lw,lk,re6,re11,re25,ra2,ra13,ra22,w_xor,w_and,w_or,w_add,eW (show i+1<=9223372036854775807 by omega),af,ak];refine dE.next (k-1) (by omega) ⟨i+1,by omega,y0,y2,rfl,?_,rfl⟩;rw [yR,hs];exact ⟨rfl,rfl,rfl,rfl,rfl,rfl,rfl,rfl⟩
 ·have:i=64:=by omega
  subst this;simp -implicitDefEqProofs only [DW hi,af,ak];exact dE.out 4 ⟨rfl,y0,⟨Y.a,Y.b,Y.c,Y.d,Y.e,Y.f,Y.g,Y.i⟩,rfl⟩
def addS (l m:List (BitVec 32)):List (BitVec 32):=List.zipWith (· + ·) l m
def my (S:List (BitVec 32)) (B:List Nat):List (BitVec 32):=addS S (yR (kB 48 (vM B)) 64 ⟨S.getD 0 0,S.getD 1 0,S.getD 2 0,S.getD 3 0,S.getD 4 0,S.getD 5 0,S.getD 6 0,S.getD 7 0⟩).l
def Az {S:List (BitVec 32)} (h:S.length=8) : ∃ a b c d e f g i,S = [a,b,c,d,e,f,g,i]:=by
 match S,h with
 | [a,b,c,d,e,f,g,i],_=>exact ⟨a,b,c,d,e,f,g,i,rfl⟩
def mixS (S L:List (BitVec 32)) (i:Nat):List (BitVec 32):=(addS S L).take i++S.drop i
def mix_step {S L:List (BitVec 32)} (hS:S.length=8) (hL:L.length=8) {i:Nat} (hi:i<8):(mixS S L i).getD i 0=S.getD i 0/\(mixS S L i).set i (S.getD i 0+L.getD i 0)=mixS S L (i+1)/\(mixS S L i).length=8:=by
 obtain ⟨a,b,c,d,e,f,g,j,rfl⟩:=Az hS;obtain ⟨a',b',c',d',e',f',g',j',rfl⟩:=Az hL
 match i,hi with
 | 0,_=>exact ⟨rfl,rfl,rfl⟩
 | 1,_=>exact ⟨rfl,rfl,rfl⟩
 | 2,_=>exact ⟨rfl,rfl,rfl⟩
 | 3,_=>exact ⟨rfl,rfl,rfl⟩
 | 4,_=>exact ⟨rfl,rfl,rfl⟩
 | 5,_=>exact ⟨rfl,rfl,rfl⟩
 | 6,_=>exact ⟨rfl,rfl,rfl⟩
 | 7,_=>exact ⟨rfl,rfl,rfl⟩
def uD {S:List (BitVec 32)} {B:List Nat} {n j:Nat} (hj:j<S.length):(cE S B n)[j]? = some (wv (S.getD j 0)):=by unfold cE;rw [EI (by simpa using hj),D4,DK,DE hj];rfl
def hash_set {S:List (BitVec 32)} {B:List Nat} {n j:Nat} (hj:j<S.length) (x:BitVec 32):(cE S B n).set j (wv x)=cE (S.set j x) B n:=by unfold cE;rw [List.set_append_left _ _ (by simpa using hj)];show (S.map wv).set j (wv x)++_=(S.set j x).map wv++_;rw [HF]
def hash_len {S:List (BitVec 32)} {B:List Nat} {n:Nat}:(cE S B n).length=S.length+B.length+1:=by unfold cE;simp;omega
def cmp4 {h:ae} {p:Nat} {S L:List (BitVec 32)} {B:List Nat} {n:Nat} (hS:S.length=8) (hL:L.length=8) (hp:h.get p=some (cE S B n)) (hp0:h.n0<=p)
  {x:Nat->Vl} (x0:x 0=ptr p 0) (x224:x 224 = .agg (AV L).toArray) (x225:x 225=aj 0) :
  Fin 241 (fun ex _ g=>ex = .exit 6/\au h g (· = p)/\g.get p=some (cE (addS S L) B n)/\g.next=h.next) (iter (codeA prog CB (aq f187 [1,1,1,1,1,1,1,0,0])) az (aS 241 x) h):=by
 have hm0:mixS S L 0=S:=rfl;have hm8:mixS S L 8=addS S L:=by obtain ⟨a,b,c,d,e,f,g,j,rfl⟩:=Az hS;obtain ⟨a',b',c',d',e',f',g',j',rfl⟩:=Az hL;rfl
 refine bL (qt CB) (Inv:=fun k y g => ∃ i,i+k=8/\y 0=ptr p 0/\y 224 = .agg (AV L).toArray/\y 225=aj i/\au h g (· = p)/\g.get p=some (cE (mixS S L i) B n)/\g.next=h.next) ?_ 8 (by have:az=18446744073709551616:=rfl;omega) ⟨0,DC _,x0,x224,x225,au.refl _ _,by rw [hm0];exact hp,rfl⟩;rintro k y g ⟨i,hik,y0,y224,y225,K,gp,gn⟩;unfold ji;have l8:aA prog .lss 3 (aj i) (.int .i64 8)=some (.bool (decide (i<8))):=gS i 8;simp -implicitDefEqProofs only [y225,l8,af,ak];by_cases hi:i<8
 ·obtain ⟨m1,m2,m3⟩:=mix_step hS hL hi;have ix:idxA 8 1 (ptr p 0) (aj i)=some (ptr p i):=by rw [oT hi,DC]
  have ia:ixA1 8 1 (.agg (AV L).toArray) (aj i)=some (wv (L.getD i 0)):=by unfold ixA1;simp only [aj];rw [DH (by omega),Int.toNat_natCast,FG,List.getElem?_toArray,D4,DK,DE (by omega)];rfl
  have lp:ld1 (ptr p i) g=some (wv (S.getD i 0),g):=by rw [<-m1];exact aH gp (uD (by omega)) rfl
  obtain ⟨g2,e2,k2,t2,_,n2⟩:=dr (o:=i) (v:=wv (S.getD i 0+L.getD i 0)) gp (by rw [K.n0];exact hp0) (by rw [hash_len,m3];omega) rfl rfl;simp -implicitDefEqProofs only [DN hi,y0,y224,y225,ia,av,aw,DC,ix,lp,w_add,e2,eW (show i+1<=9223372036854775807 by omega),af,ak];refine dE.next (k-1) (by omega) ⟨i+1,by omega,y0,y224,rfl,K.trans k2,?_,n2.trans gn⟩;rw [t2,hash_set (by omega),m2]
 ·have:i=8:=by omega
  subst this;simp -implicitDefEqProofs only [DW hi,af,ak];rw [hm8] at gp;exact dE.out 6 ⟨rfl,K,gp,gn⟩
def is187:bE prog 187 f187 := .of (by kernel_rfl)
def results187:f187.results.toList = []:=by kernel_rfl
def bld8v (a b c d e f g i:Int):cN (List.replicate 8 (.int .u32 0)) [(0,1,.int .u32 a),(1,1,.int .u32 b),(2,1,.int .u32 c),(3,1,.int .u32 d),(4,1,.int .u32 e),(5,1,.int .u32 f),(6,1,.int .u32 g),(7,1,.int .u32 i)]=some (.agg ([Value.int .u32 a,.int .u32 b,.int .u32 c,.int .u32 d,.int .u32 e,.int .u32 f,.int .u32 g,.int .u32 i]).toArray):=by kernel_rfl
def bld8 (a b c d e f g i:BitVec 32):cN (List.replicate 8 (.int .u32 0)) [(0,1,wv a),(1,1,wv b),(2,1,wv c),(3,1,wv d),(4,1,wv e),(5,1,wv f),(6,1,wv g),(7,1,wv i)]=some (.agg (AV [a,b,c,d,e,f,g,i]).toArray):=bld8v _ _ _ _ _ _ _ _
set_option maxRecDepth 100000 in
def r187k {h:ae} (hG:3<=h.n0) (hz:h.get 1=some cP) {p:Nat} {S:List (BitVec 32)} {B:List Nat} {n:Nat} (hS:S.length=8) (hBl:B.length=64) (hB:uH B) (hp:h.get p=some (cE S B n)) (hp0:h.n0<=p) :
  ∃ h',aV prog CB f187 [ptr p 0] h=some (.tuple #[],h')/\au h h' (· = p)/\h'.get p=some (cE (my S B) B n):=by
 have hlt:=h.aL hp;obtain ⟨h1,z1,o1,g1,n1⟩:=fresh (List.replicate 64 (.int .u32 0)) h;have hb1:h1.n0<=h.next:=by rw [o1.n0];exact h.n0_le_next
 have hne:p≠h.next:=by omega
 have key : ∃ o:aY,t187 CB (ptr p 0) h=o /\ ∃ h',o=some (.tuple #[],h')/\au h h' (· = p)/\h'.get p=some (cE (my S B) B n):=by
  refine ⟨_,rfl,?_⟩;unfold t187;simp -implicitDefEqProofs only [z1,af,ak];refine cH (Q:=fun o:aY => ∃ h',o=some (.tuple #[],h')/\au h h' (· = p)/\h'.get p=some (cE (my S B) B n)) (cmp1 (p:=p) (b:=h.next) hS hBl hB (aK.get o1 hp) hb1 hne g1 rfl rfl rfl) ?_;rintro _ y g ⟨rfl,y0,y2,K2,G2,N2⟩;simp -implicitDefEqProofs only [bh,b187_3,DV,Al];unfold si;simp -implicitDefEqProofs only [af];have hg2:3<=g.n0:=by rw [K2.n0,o1.n0];exact hG
  refine cH (Q:=fun o:aY => ∃ h',o=some (.tuple #[],h')/\au h h' (· = p)/\h'.get p=some (cE (my S B) B n)) (cmp2 (p:=p) (b:=h.next) hg2 (l:=vM B) (by simp [vM]) (by rw [K2.n0];exact hb1) G2 y0 y2 rfl) ?_;rintro _ y' g3 ⟨rfl,y0',y2',K3,G3,N3⟩;simp -implicitDefEqProofs only [bh,b187_6,DV,zF];unfold rV;have O3:aK h g3:=(aK.bB o1 K2 (DG _)).also K3 (fun d hd e=>by omega);have hp3:=aK.get O3 hp;have lp : ∀ j,j<8->ld1 (ptr p j) g3=some (wv (S.getD j 0),g3):=fun j hj=>aH hp3 (uD (by omega)) rfl;have ix : ∀ j,j<8->idxA 8 1 (ptr p 0) (aj j)=some (ptr p j):=fun j hj=>by rw [oT hj,DC]
  have i0:idxA 8 1 (ptr p 0) (.int .i64 0)=some (ptr p 0):=ix 0 (by decide);have i1:idxA 8 1 (ptr p 0) (.int .i64 1)=some (ptr p 1):=ix 1 (by decide);have i2:idxA 8 1 (ptr p 0) (.int .i64 2)=some (ptr p 2):=ix 2 (by decide);have i3:idxA 8 1 (ptr p 0) (.int .i64 3)=some (ptr p 3):=ix 3 (by decide);have i4:idxA 8 1 (ptr p 0) (.int .i64 4)=some (ptr p 4):=ix 4 (by decide);have i5:idxA 8 1 (ptr p 0) (.int .i64 5)=some (ptr p 5):=ix 5 (by decide);have i6:idxA 8 1 (ptr p 0) (.int .i64 6)=some (ptr p 6):=ix 6 (by decide);have i7:idxA 8 1 (ptr p 0) (.int .i64 7)=some (ptr p 7):=ix 7 (by decide);simp -implicitDefEqProofs only [y0',av,aw,DC,i0,i1,i2,i3,i4,i5,i6,i7,lp 0 (by decide),lp 1 (by decide),lp 2 (by decide),lp 3 (by decide),lp 4 (by decide),lp 5 (by decide),lp 6 (by decide),lp 7 (by decide),af,ak];have hg3:3<=g3.n0:=by rw [O3.n0];exact hG
  refine cH (Q:=fun o:aY => ∃ h',o=some (.tuple #[],h')/\au h h' (· = p)/\h'.get p=some (cE (my S B) B n)) (cmp3 (p:=p) (b:=h.next) hg3 (aK.get O3 hz) (W:=kB 48 (vM B)) (by rw [xH];simp [vM]) G3 (s:=⟨S.getD 0 0,S.getD 1 0,S.getD 2 0,S.getD 3 0,S.getD 4 0,S.getD 5 0,S.getD 6 0,S.getD 7 0⟩) y0' y2' rfl ⟨rfl,rfl,rfl,rfl,rfl,rfl,rfl,rfl⟩) ?_;rintro _ y4 g4 ⟨rfl,y40,Y,rfl⟩;simp -implicitDefEqProofs only [bh,b187_16,DV,xT];unfold qx;simp -implicitDefEqProofs only [Y.a,Y.b,Y.c,Y.d,Y.e,Y.f,Y.g,Y.i,bld8,af,ak];refine cH (Q:=fun o:aY => ∃ h',o=some (.tuple #[],h')/\au h h' (· = p)/\h'.get p=some (cE (my S B) B n)) (cmp4 (p:=p) (S:=S) (L:=(yR (kB 48 (vM B)) 64 ⟨S.getD 0 0,S.getD 1 0,S.getD 2 0,S.getD 3 0,S.getD 4 0,S.getD 5 0,S.getD 6 0,S.getD 7 0⟩).l) hS rfl hp3 (by rw [O3.n0];exact hp0) y40 rfl rfl) ?_;rintro _ y5 g5 ⟨rfl,K5,G5,N5⟩;simp -implicitDefEqProofs only [bh,b187_25,DV];refine ⟨g5,?_,(O3.mono (fun _ _ h=>h.elim)).trans K5,G5⟩;rw [results187];rfl
 obtain ⟨o,e,h',e',k,g⟩:=key;exact ⟨h',(t187_eq _ _ _).trans (e.trans e'),k,g⟩
end
def xF (x:Nat):Nat:=Nat.mod x 4294967296
def rN (x n m:Nat):Nat:=Nat.lor (xF (Nat.shiftLeft x m)) (Nat.shiftRight x n)
def a32 (x y:Nat):Nat:=xF (Nat.add x y)
def jE (x:BitVec 32) (n:Nat):(jt x n).toNat=rN x.toNat n (32-n):=by unfold jt rN xF;rw [BitVec.toNat_or,HJ,HS];rfl
def jh (x y:BitVec 32):(x+y).toNat=a32 x.toNat y.toNat:=BitVec.toNat_add x y
def s0N (x:Nat):Nat:=Nat.xor (Nat.xor (rN x 7 25) (rN x 18 14)) (Nat.shiftRight x 3)
def s1N (x:Nat):Nat:=Nat.xor (Nat.xor (rN x 17 15) (rN x 19 13)) (Nat.shiftRight x 10)
def s0_nat (x:BitVec 32):(s0w x).toNat=s0N x.toNat:=by unfold s0w s0N;rw [BitVec.toNat_xor,BitVec.toNat_xor,jE,jE,HS];rfl
def s1_nat (x:BitVec 32):(s1w x).toNat=s1N x.toNat:=by unfold s1w s1N;rw [BitVec.toNat_xor,BitVec.toNat_xor,jE,jE,HS];rfl
def uw (l:List Nat):Nat:=List.rec (motive:=fun _=>Nat) 0 (fun a _ _=>a) l
def tlN (l:List Nat):List Nat:=List.rec (motive:=fun _=>List Nat) [] (fun _ t _=>t) l
def yP (n:Nat) (l:List Nat):List Nat:=Nat.rec (motive:=fun _=>List Nat) l (fun _ ih=>tlN ih) n
def tlN_eq (l:List Nat):tlN l=l.tail:=by cases l<;>rfl
def drN_eq : ∀ (n:Nat) (l:List Nat),yP n l=l.drop n
 | 0,l=>rfl
 |n+1,l=>by show tlN (yP n l)=_;rw [drN_eq n l,tlN_eq,List.tail_drop]
def hdN_eq (l:List Nat):uw l=l.getD 0 0:=by cases l<;>rfl
def vL (n:Nat) (l:List Nat):uw (yP n l)=l.getD n 0:=by rw [drN_eq,hdN_eq];simp [DK,EY]
def nextN (l:List Nat):Nat:=a32 (a32 (a32 (uw (yP 15 l)) (s0N (uw (yP 14 l)))) (uw (yP 6 l))) (s1N (uw (yP 1 l)))
def extN (n:Nat) (l:List Nat):List Nat:=Nat.rec (motive:=fun _=>List Nat->List Nat) (fun l=>l) (fun _ ih l=>ih (nextN l::l)) n l
def rvN (l:List (BitVec 32)):List Nat:=(l.map BitVec.toNat).reverse
def wV (l:List (BitVec 32)) {i:Nat} (h:i+1<=l.length):(rvN l).getD i 0=(l.getD (l.length-(i+1)) 0).toNat:=by unfold rvN;rw [DK,List.getElem?_reverse (by rw [EB];omega),EB,D4,DK,show l.length-1-i=l.length-(i+1) by omega,DE (by omega)];rfl
def nextN_eq {l:List (BitVec 32)} (h:16<=l.length):nextN (rvN l)=(vo l).toNat:=by unfold nextN vo;rw [vL,vL,vL,vL,wV l (i:=15) (by omega),wV l (i:=14) (by omega),wV l (i:=6) (by omega),wV l (i:=1) (by omega),jh,jh,jh,s0_nat,s1_nat]
def extN_eq : ∀ (n:Nat) {l:List (BitVec 32)},16<=l.length->extN n (rvN l)=rvN (kB n l)
 | 0,l,_=>rfl
 |n+1,l,h=>by show extN n (nextN (rvN l)::rvN l)=rvN (kB n (l ++ [vo l]));rw [nextN_eq h,<-extN_eq n (by simp;omega)];unfold rvN;simp
def chN (e f g:Nat):Nat:=Nat.xor g (Nat.land e (Nat.xor f g))
def mjN (a b c:Nat):Nat:=Nat.lor (Nat.land a b) (Nat.land c (Nat.lor a b))
def t1N (e f g i k w:Nat):Nat:=a32 (a32 (a32 (a32 i (Nat.xor (Nat.xor (rN e 6 26) (rN e 11 21)) (rN e 25 7))) (chN e f g)) k) w
def t2N (a b c:Nat):Nat:=a32 (Nat.xor (Nat.xor (rN a 2 30) (rN a 13 19)) (rN a 22 10)) (mjN a b c)
def t1_nat (s:St) (k w:BitVec 32):(t1S s k w).toNat=t1N s.e.toNat s.f.toNat s.g.toNat s.i.toNat k.toNat w.toNat:=by unfold t1S t1N chN;rw [jh,jh,jh,jh,BitVec.toNat_xor,BitVec.toNat_xor,BitVec.toNat_xor,BitVec.toNat_and,BitVec.toNat_xor,jE,jE,jE];rfl
def t2_nat (s:St):(t2S s).toNat=t2N s.a.toNat s.b.toNat s.c.toNat:=by unfold t2S t2N mjN;rw [jh,BitVec.toNat_xor,BitVec.toNat_xor,BitVec.toNat_or,BitVec.toNat_and,BitVec.toNat_and,BitVec.toNat_or,jE,jE,jE];rfl
def finN (a b c d e f g i:Nat):List Nat := [a,b,c,d,e,f,g,i]
def rndN (ks ws:List Nat):Nat->Nat->Nat->Nat->Nat->Nat->Nat->Nat->List Nat:=
 List.rec (motive:=fun _=>List Nat->Nat->Nat->Nat->Nat->Nat->Nat->Nat->Nat->List Nat) (fun _=>finN)
  (fun k _ ih ws a b c d e f g i=>ih (tlN ws) (a32 (t1N e f g i k (uw ws)) (t2N a b c)) a b c (a32 d (t1N e f g i k (uw ws))) e f g) ks ws
def St.n (s:St):List Nat:=s.l.map BitVec.toNat
def runL (ks ws:List (BitVec 32)) (s:St):St:=
 match ks with
 | []=>s
 |k::ks=>runL ks ws.tail (stepS s k (ws.getD 0 0))
def rndN_eq : ∀ (ks ws:List (BitVec 32)) (s:St),rndN (ks.map BitVec.toNat) (ws.map BitVec.toNat) s.a.toNat s.b.toNat s.c.toNat s.d.toNat s.e.toNat s.f.toNat s.g.toNat s.i.toNat=(runL ks ws s).n
 | [],ws,s=>rfl
 |k::ks,ws,s=>by
  have hh:uw (ws.map BitVec.toNat)=(ws.getD 0 0).toNat:=by cases ws<;>rfl
  have ht:tlN (ws.map BitVec.toNat)=ws.tail.map BitVec.toNat:=by cases ws<;>rfl
  show rndN (ks.map BitVec.toNat) (tlN (ws.map BitVec.toNat)) _ _ _ _ _ _ _ _=(runL ks ws.tail (stepS s k (ws.getD 0 0))).n;rw [hh,ht,<-rndN_eq ks ws.tail (stepS s k (ws.getD 0 0)),<-t1_nat,<-t2_nat,<-jh,<-jh];rfl
def runL_eq (W:List (BitVec 32)) (s:St) : ∀ (n i:Nat),i+n=64->runL (rkW.drop i) (W.drop i) (yR W i s)=yR W 64 s
 | 0,i,h=>by
   have:i=64:=by omega
   subst this;rw [List.drop_eq_nil_of_le (by rw [CW];exact DG _)];rfl
 |n+1,i,h=>by
  have hi:i<rkW.length:=by rw [CW];omega
  rw [H9 hi];show runL (rkW.drop (i+1)) (W.drop i).tail (stepS (yR W i s) rkW[i] ((W.drop i).getD 0 0))=_;rw [<-runL_eq W s n (i+1) (by omega),List.tail_drop];have e1:rkW[i]=rkW.getD i 0:=by rw [DK,DE hi];rfl
  have e2:(W.drop i).getD 0 0=W.getD i 0:=by simp [DK,EY]
  rw [e1,e2];rfl
def rkN:List Nat := [1116352408,1899447441,3049323471,3921009573,961987163,1508970993,2453635748,2870763221,3624381080,310598401,607225278,1426881987,1925078388,2162078206,2614888103,3248222580,3835390401,4022224774,264347078,604807628,770255983,1249150122,1555081692,1996064986,2554220882,2821834349,2952996808,3210313671,3336571891,3584528711,113926993,338241895,666307205,773529912,1294757372,1396182291,1695183700,1986661051,2177026350,2456956037,2730485921,2820302411,3259730800,3345764771,3516065817,3600352804,4094571909,275423344,430227734,506948616,659060556,883997877,958139571,1322822218,1537002063,1747873779,1955562222,2024104815,2227730452,2361852424,2428436474,2756734187,3204031479,3329325298]
def rkN_eq:rkN=rkW.map BitVec.toNat:=by kernel_rfl
def w4N (a b c d:Nat):Nat:=Nat.lor (Nat.lor (Nat.lor (xF (Nat.shiftLeft (xF a) 24)) (xF (Nat.shiftLeft (xF b) 16))) (xF (Nat.shiftLeft (xF c) 8))) (xF d)
def w4_nat (a b c d:Nat):(w4 a b c d).toNat=w4N a b c d:=by unfold w4 w4N xF;rw [BitVec.toNat_or,BitVec.toNat_or,BitVec.toNat_or,HJ,HJ,HJ,FV,FV,FV,FV];rfl
def wds (n:Nat) (l:List Nat):List Nat:=
 Nat.rec (motive:=fun _=>List Nat->List Nat) (fun _ => []) (fun _ ih l=>w4N (uw l) (uw (yP 1 l)) (uw (yP 2 l)) (uw (yP 3 l))::ih (yP 4 l)) n l
def wds_eq : ∀ (n i:Nat) (B:List Nat),wds n (B.drop (4*i))=(List.range' i n).map fun j=>(wAt B j).toNat
 | 0,_,_=>rfl
 |n+1,i,B=>by
  rw [List.range'_succ,FD,<-wds_eq n (i+1) B];show w4N (uw (B.drop (4*i))) (uw (yP 1 (B.drop (4*i)))) (uw (yP 2 (B.drop (4*i)))) (uw (yP 3 (B.drop (4*i))))::wds n (yP 4 (B.drop (4*i)))=_;rw [show uw (B.drop (4*i))=uw (yP 0 (B.drop (4*i))) from rfl,vL,vL,vL,vL,drN_eq,GG,<-w4_nat];refine congr (FP _ ?_) ?_
  ·refine FP BitVec.toNat ?_;unfold wAt;simp only [DK,EY,Nat.add_zero]
  ·rw [show 4*i+4=4*(i+1) by omega]
def addN (l m:List Nat):List Nat:=List.rec (motive:=fun _=>List Nat->List Nat) (fun _ => []) (fun a _ ih m=>a32 a (uw m)::ih (tlN m)) l m
def roK (ks W:List Nat) (S:List Nat):List Nat:=rndN ks W (uw S) (uw (yP 1 S)) (uw (yP 2 S)) (uw (yP 3 S)) (uw (yP 4 S)) (uw (yP 5 S)) (uw (yP 6 S)) (uw (yP 7 S))
def roK_eq (ks W:List (BitVec 32)) (a b c d e f g i:BitVec 32):roK (ks.map BitVec.toNat) (W.map BitVec.toNat) ([a,b,c,d,e,f,g,i].map BitVec.toNat)=(runL ks W ⟨a,b,c,d,e,f,g,i⟩).n:=rndN_eq ks W ⟨a,b,c,d,e,f,g,i⟩
def runS64 (W:List (BitVec 32)) (s:St):runL rkW W s=yR W 64 s:=runL_eq W s 64 0 rfl
def rvL (l m:List Nat):List Nat:=List.rec (motive:=fun _=>List Nat->List Nat) (fun m=>m) (fun a _ ih m=>ih (a::m)) l m
def rvL_eq : ∀ (l m:List Nat),rvL l m=l.reverse++m
 | [],m=>rfl
 |a::l,m=>by show rvL l (a::m)=_;rw [rvL_eq l];simp
def compN (S B:List Nat):List Nat:=addN S (roK rkN (rvL (extN 48 (rvL (wds 16 B) [])) []) S)
def addN_eq : ∀ (l m:List (BitVec 32)),l.length=m.length->addN (l.map BitVec.toNat) (m.map BitVec.toNat)=(addS l m).map BitVec.toNat
 | [],m,_=>rfl
 |a::l,[],h=>by cases h
 |a::l,b::m,h=>by show a32 a.toNat b.toNat::addN (l.map BitVec.toNat) (m.map BitVec.toNat)=_;rw [addN_eq l m (by simpa using h),<-jh];rfl
def sch_eq (B:List Nat):rvL (wds 16 B) []=rvN (vM B):=by rw [rvL_eq,GC];unfold rvN vM;have:=wds_eq 16 0 B;rw [Nat.mul_zero,FO] at this;rw [this,HY,IT];rfl
def sch_len (B:List Nat):16<=(vM B).length:=by simp [vM]
def rv_ext {n:Nat} {l:List (BitVec 32)} (hl:16<=l.length):rvL (extN n (rvN l)) []=(kB n l).map BitVec.toNat:=by rw [extN_eq n hl,rvL_eq,GC];unfold rvN;rw [List.reverse_reverse]
def St.l_len (s:St):s.l.length=8:=rfl
def comp_fin (S W:List (BitVec 32)) (hS:S.length=8) (ks:List (BitVec 32)):addN (S.map BitVec.toNat) (roK (ks.map BitVec.toNat) (W.map BitVec.toNat) (S.map BitVec.toNat))=(addS S (runL ks W ⟨S.getD 0 0,S.getD 1 0,S.getD 2 0,S.getD 3 0,S.getD 4 0,S.getD 5 0,S.getD 6 0,S.getD 7 0⟩).l).map BitVec.toNat:=by obtain ⟨a,b,c,d,e,f,g,i,rfl⟩:=Az hS;rw [roK_eq];exact addN_eq _ _ (St.l_len _).symm
def compN_eq {S:List (BitVec 32)} {B:List Nat} (hS:S.length=8):compN (S.map BitVec.toNat) B=(my S B).map BitVec.toNat:=by have h:=comp_fin S (kB 48 (vM B)) hS rkW;rw [runS64,<-rkN_eq,<-rv_ext (sch_len B),<-sch_eq] at h;exact h
def nat32 (v:Vl):Option Nat:=
 match v with
 | .int .u32 (.ofNat n)=>match Nat.blt n 4294967296 with
   |true=>some n
   |false=>none
 |_=>none
def nat32_eq {v:Vl} {n:Nat} (h:nat32 v=some n):v=u32 n/\n<4294967296:=by
 unfold nat32 at h;split at h
 ·split at h
  ·rename_i hb;cases h;exact ⟨rfl,by simpa using hb⟩
  ·cases h
 ·cases h
def wordsOf:Nat->List Vl->Option (List Nat)
 | 0,_=>some []
 |n+1,[]=>none
 |n+1,v::l=>match nat32 v with
  |some a=>match wordsOf n l with
   |some r=>some (a::r)
   |none=>none
  |none=>none
def zd : ∀ {n:Nat} {l:List Vl} {r:List Nat},wordsOf n l=some r->l=r.map u32++l.drop n/\r.length=n /\ ∀ a∈r,a<4294967296
 | 0,l,r,h=>by cases h;exact ⟨rfl,rfl,by simp⟩
 |n+1,[],r,h=>by cases h
 |n+1,v::l,r,h=>by
  unfold wordsOf at h;split at h
  ·rename_i a ha;split at h
   ·rename_i r' hr;cases h;obtain ⟨rfl,h1⟩:=nat32_eq ha;obtain ⟨h2,h3,h4⟩:=zd hr;refine ⟨?_,by rw [List.length_cons,h3],fun m hm => ?_⟩
    ·rw [FD,List.cons_append,List.drop_succ_cons,<-h2]
    ·rcases ER.1 hm with rfl|hm
     ·exact h1
     ·exact h4 m hm
   ·cases h
  ·cases h
def isRow:List Nat->List Vl->Bool
 | [],[]=>true
 |a::r,v::l=>match nat32 v with
  |some b=>match Nat.beq a b with
   |true=>isRow r l
   |false=>false
  |none=>false
 |_,_=>false
def isRow_eq : ∀ {r:List Nat} {l:List Vl},isRow r l=true->l=r.map u32
 | [],[],_=>rfl
 | [],_::_,h=>by cases h
 |_::_,[],h=>by cases h
 |a::r,v::l,h=>by
  unfold isRow at h;split at h
  ·rename_i b hb;split at h
   ·rename_i hab;obtain ⟨rfl,_⟩:=nat32_eq hb;have:=FW hab;subst this;rw [FD,isRow_eq h]
   ·cases h
  ·cases h
def isInt (v:Vl):Option Nat:=
 match v with
 | .int .i64 (.ofNat n)=>some n
 |_=>none
def isInt_eq {v:Vl} {n:Nat} (h:isInt v=some n):v=aj n:=by
 unfold isInt at h;split at h
 ·cases h;rfl
 ·cases h
def s187 (args:List Vl) (h:ae):aY:=
 match args with
 | [.pointer (some ⟨p,0,none⟩)]=>match Nat.ble 3 h.n0&&Nat.ble h.n0 p with
   |true=>match h.get 1 with
    |some kr=>match isRow rkN kr with
     |true=>match h.get p with
      |some k=>match wordsOf 8 k with
       |some S=>match bytesOf ((k.drop 8).take 64) with
        |some B=>match Nat.beq B.length 64 with
         |true=>match k.drop 72 with
          | [v]=>match isInt v with
            |some n=>some (.tuple #[],h.set p ((compN S B).map u32++(B.map u8 ++ [aj n])))
            |none=>none
          |_=>none
         |false=>none
        |none=>none
       |none=>none
      |none=>none
     |false=>none
    |none=>none
   |false=>none
 |_=>none
def wv_ofNat {a:Nat} (h:a<4294967296):wv (BitVec.ofNat 32 a)=u32 a:=by unfold wv;rw [FV,FK h]
def wv_map : ∀ {r:List Nat},(∀ a∈r,a<4294967296)->r.map u32=AV (r.map (BitVec.ofNat 32))
 | [],_=>rfl
 |a::r,h=>by rw [FD,wv_map fun b hb=>h b (EL _ hb),<-wv_ofNat (h a EW)];rfl
def Au : ∀ {r:List Nat},(∀ a∈r,a<4294967296)->(r.map (BitVec.ofNat 32)).map BitVec.toNat=r
 | [],_=>rfl
 |a::r,h=>by rw [FD,FD,Au fun b hb=>h b (EL _ hb),FV,FK (h a EW)]
def BR (l:List (BitVec 32)):(l.map BitVec.toNat).map u32=AV l:=by rw [HY];rfl
def rk_row:rkN.map u32=cP:=by rw [rkN_eq,BR,rkW_eq]
def xV (S:List (BitVec 32)) (B:List Nat) (n:Nat):bD (cE S B n)=true:=by unfold cE bD;rw [HI,HI];simp [wv,flat]
def CB_sound:bk prog CB:=kY mixed X00_sound
def c187:bU prog 187 s187:=by
 have key : ∀ args h v h',s187 args h=some (v,h') -> ∃ p S B n,args = [ptr p 0]/\3<=h.n0/\h.n0<=p/\h.get 1=some cP/\S.length=8/\B.length=64/\uH B/\h.get p=some (cE S B n)/\v = .tuple #[]/\h'=h.set p (cE (my S B) B n):=by
  intro args h v h' e;unfold s187 at e;split at e
  ·rename_i p;split at e
   ·rename_i hc;rw [DD] at hc;split at e
    ·rename_i kr hk;split at e
     ·rename_i hr;have hr:=isRow_eq hr;rw [rk_row] at hr;subst hr;split at e
      ·rename_i k hkp;split at e
       ·rename_i S hS;split at e
        ·rename_i B hB;split at e
         ·rename_i hl;have hl:=FW hl;split at e
          ·rename_i v hv;split at e
           ·rename_i n hn;cases e;have hn:=isInt_eq hn;subst hn;obtain ⟨s1,s2,s3⟩:=zd hS;obtain ⟨b1,b2⟩:=oE hB;have hkk:k=cE (S.map (BitVec.ofNat 32)) B n:=by
             unfold cE;rw [<-wv_map s3];rw [<-hv,show bJ B=B.map u8 from rfl,<-b1];have:k.drop 72=(k.drop 8).drop 64:=by rw [GG]
             rw [this,HN];exact s1
            refine ⟨p,S.map (BitVec.ofNat 32),B,n,rfl,EH hc.1,EH hc.2,hk,by rw [EB,s2],hl,b2,by rw [<-hkk];exact hkp,rfl,?_⟩;have:=compN_eq (S:=S.map (BitVec.ofNat 32)) (B:=B) (by rw [EB,s2]);rw [Au s3] at this;rw [this,BR];rfl
           ·cases e
          ·cases e
         ·cases e
        ·cases e
       ·cases e
      ·cases e
     ·cases e
    ·cases e
   ·cases e
  ·cases e
 refine .mk' (C:=CB) CB_sound mixed is187 ?_ ?_
 ·intro args h v h' e;obtain ⟨p,S,B,n,rfl,_,h0,_,_,_,_,hp,rfl,rfl⟩:=key _ _ _ _ e;refine ⟨⟨DG _,rfl,rfl⟩,fun _ hb=>⟨rfl,?_⟩⟩;exact aE.put (x:=some _) hb h0 (h.aL hp) fun k e=>by cases e;exact dh (xV _ _ _)
 ·intro args h v h' e _ hh;obtain ⟨p,S,B,n,rfl,hG,h0,hz,hS,hBl,hB,hp,rfl,rfl⟩:=key _ _ _ _ e;obtain ⟨g,h1,h2,h3⟩:=r187k hG hz hS hBl hB hp h0;refine ⟨_,g,id,h1,.sub rfl (aE.put (x:=some _) hh h0 (h.aL hp) fun k e=>by cases e;exact dh (xV _ _ _)) (fun b q _ hb => ?_)⟩;by_cases hbp:b=p
  ·subst hbp;rw [ae.jK h0 hp] at hb;cases hb;exact ae.aJ _ h3
  ·rw [ae.cj h0 (h.aL hp) _ hbp] at hb;exact (h2.getB b (h.lt_of_getB hb) hbp).trans hb
section
def b232_2 (C:ah) (i:Nat) (e:aO) (h:ae):aY:=if i=0 then (resultsA prog f232.results.toList) e h else (fun _ _ _=>none) i e h
def t232 (C:ah) (x0:Vl) (h:ae):aY:=
 aa (some ((.int .i64 1),h)) fun a h=>
 aa (some ((.int .i64 0),h)) fun b h=>
 dH (iter (codeA prog C (aq f232 [1,1,0,0])) az (aS 35 (up (bs [x0]) [(2,a),(3,b)])) h) (resultsA prog f232.results.toList) (b232_2 C)
def oe (C:ah) (x:Nat->Vl) (h:ae):Option (Ex×aO×ae):=
 aa (some ((x 3),h)) fun c h=>
 aa (pu (aA prog .lss 3 c (.int .i64 255)) h) fun d h=>
 (match d with
 | .bool true=>
 aa (some ((x 0),h)) fun f h=>
 aa (some ((x 3),h)) fun g h=>
 aa (some ((x 2),h)) fun j h=>
 aa (iQ .u8 j h) fun k h=>
 aa (pu (nilCheckA f) h) fun l h=>
 aa (pu (aC l 3) h) fun m h=>
 aa (pu (idxA 510 1 m g) h) fun n h=>
 aa (bI 1 n k h) fun _ h=>
 aa (some ((x 0),h)) fun o h=>
 aa (some ((x 3),h)) fun p h=>
 aa (pu (aA prog .add 3 p (.int .i64 255)) h) fun q h=>
 aa (some ((x 2),h)) fun r h=>
 aa (iQ .u8 r h) fun s h=>
 aa (pu (nilCheckA o) h) fun t h=>
 aa (pu (aC t 3) h) fun u h=>
 aa (pu (idxA 510 1 u q) h) fun v h=>
 aa (bI 1 v s h) fun _ h=>
 aa (some ((x 0),h)) fun w h=>
 aa (some ((x 2),h)) fun y h=>
 aa (some ((x 3),h)) fun z h=>
 aa (pu (nilCheckA w) h) fun A h=>
 aa (pu (aC A 513) h) fun B h=>
 aa (pu (idxA 256 1 B y) h) fun D h=>
 aa (bI 1 D z h) fun _ h=>
 aa (some ((x 2),h)) fun E h=>
 aa (pu (aA prog .shl 3 E (.int .u64 1)) h) fun F h=>
 aa (some (F,h)) fun G h=>
 aa (some (G,h)) fun H h=>
 aa (pu (aA prog .geq 3 H (.int .i64 256)) h) fun I h=>
 (match I with
 | .bool true=>
 aa (some (G,h)) fun K h=>
 aa (pu (aA prog .xor 3 K (.int .i64 285)) h) fun dU h=>
 aa (some (dU,h)) fun L h=>
 aa (some ((x 3),h)) fun a h=>
 aa (pu (aA prog .add 3 a (.int .i64 1)) h) fun b h=>
 aa (some (b,h)) fun J h=>
 some (.normal,(aS 35 (up x [(2,L),(3,J),(4,c),(5,d),(6,a),(7,b),(8,f),(9,g),(10,j),(11,k),(12,l),(13,m),(14,n),(15,o),(16,p),(17,q),(18,r),(19,s),(20,t),(21,u),(22,v),(23,w),(24,y),(25,z),(26,A),(27,B),(28,D),(29,E),(30,F),(31,H),(32,I),(33,K),(34,dU)])),h)
 | .bool false=>
 aa (some ((x 3),h)) fun a h=>
 aa (pu (aA prog .add 3 a (.int .i64 1)) h) fun b h=>
 aa (some (b,h)) fun J h=>
 some (.normal,(aS 35 (up x [(2,G),(3,J),(4,c),(5,d),(6,a),(7,b),(8,f),(9,g),(10,j),(11,k),(12,l),(13,m),(14,n),(15,o),(16,p),(17,q),(18,r),(19,s),(20,t),(21,u),(22,v),(23,w),(24,y),(25,z),(26,A),(27,B),(28,D),(29,E),(30,F),(31,H),(32,I)])),h)
 |_=>none)
 | .bool false=>
 some (.exit 0,(aS 35 (up x [(4,c),(5,d)])),h)
 |_=>none)
def t232_eq (C:ah) (x0:Vl) (h:ae):aV prog C f232 [x0] h=t232 C x0 h:=
 lkT (by kernel_rfl) (by kernel_rfl)
def wD (C:ah) (x:Nat->Vl) (h:ae):codeA prog C (aq f232 [1,1,0,0]) (aS 35 x) h=oe C x h:=
 aW (T:=oe C) (fun x h=>by kernel_rfl) x h
attribute [local congr] ax
def allB (f:Nat->Bool) (n:Nat):Bool:=Nat.rec (motive:=fun _=>Bool) true (fun k ih=>match f k with|true=>ih|false=>false) n
def uM (f:Nat->Bool) (n:Nat):allB f n=true -> ∀ k,k<n->f k=true:=by
 induction n with
 |zero=>intro _ k hk;exact absurd hk (Nat.not_lt_zero k)
 |succ n ih=>
  intro e k hk;have e:(match f n with|true=>allB f n|false=>false)=true:=e;cases hn:f n with
  |false=>rw [hn] at e;cases e
  |true=>
   rw [hn] at e;by_cases h:k=n
   ·subst h;exact hn
   ·exact ih e k (by omega)
def uh (x:Nat):Nat:=if 256<=2*x then Nat.xor (2*x) 285 else 2*x
def isV (o:Option Vl) (n:Nat):Bool:=
 match o with
 |some v=>match isInt v with
  |some m=>Nat.beq m n
  |none=>false
 |none=>false
def isV_eq {o:Option Vl} {n:Nat} (h:isV o n=true):o=some (aj n):=by
 unfold isV at h;split at h
 ·split at h
  ·rename_i m hm;have:=FW h;subst this;rw [isInt_eq hm]
  ·cases h
 ·cases h
def steps_ok:allB (fun x=>isV (aA prog .shl 3 (aj x) (.int .u64 1)) (2*x)&&(isV (aA prog .xor 3 (aj (2*x)) (.int .i64 285)) (Nat.xor (2*x) 285)&&(Nat.blt (uh x) 256&&(Nat.ble x 0||Nat.blt 0 (uh x))))) 256=true:=by kernel_rfl
def step_ok {x:Nat} (h:x<256):aA prog .shl 3 (aj x) (.int .u64 1)=some (aj (2*x))/\aA prog .xor 3 (aj (2*x)) (.int .i64 285)=some (aj (Nat.xor (2*x) 285))/\uh x<256/\(0<x->0<uh x):=by
 have:=uM _ _ steps_ok x h;simp only [DD,FI] at this;obtain ⟨h1,h2,h3,h4⟩:=this;refine ⟨isV_eq h1,isV_eq h2,by simpa using h3,fun hx => ?_⟩;rcases h4 with h4|h4
 ·have:=EH h4;omega
 ·simpa using h4
def xs:Nat->Nat
 | 0=>1
 |n+1=>uh (xs n)
def xs_lt : ∀ n,xs n<256/\0<xs n
 | 0=>⟨by decide,by decide⟩
 |n+1=>by obtain ⟨h1,h2⟩:=xs_lt n;obtain ⟨_,_,h3,h4⟩:=step_ok h1;exact ⟨h3,h4 h2⟩
def qf:Nat->List Nat
 | 0=>List.replicate 510 0
 |n+1=>((qf n).set n (xs n)).set (n+255) (xs n)
def rq:Nat->List Nat
 | 0=>List.replicate 256 0
 |n+1=>(rq n).set (xs n) n
def qa : ∀ n,(qf n).length=510
 | 0=>GU
 |n+1=>by rw [qf,GF,GF,qa n]
def za : ∀ n,(rq n).length=256
 | 0=>GU
 |n+1=>by rw [rq,GF,za n]
def fC (c:List Vl) (e l:List Nat):List Vl:=c++(e.map u8++l.map aj)
def setR {A B:List Vl} {x:Vl} : ∀ (o i:Nat),A.length=o->(A++B).set (o+i) x=A++B.set i x:=by
 intro o i h;subst h;induction A with
 |nil=>simp
 |cons a A ih=>rw [List.cons_append,List.length_cons,show A.length+1+i=(A.length+i)+1 by omega,List.set_cons_succ,ih,List.cons_append]
def setL {A B:List Vl} {x:Vl} : ∀ (i:Nat),i<A.length->(A++B).set i x=A.set i x++B:=by
 induction A with
 |nil=>intro i h;cases h
 |cons a A ih=>
  intro i h;cases i with
  |zero=>rfl
  |succ i=>rw [List.cons_append,List.set_cons_succ,ih i (by simpa using h),List.set_cons_succ,List.cons_append]
def fC_exp {c:List Vl} {e l:List Nat} {i x:Nat} (hc:c.length=3) (hi:i<e.length):(fC c e l).set (3+i) (u8 x)=fC c (e.set i x) l:=by unfold fC;rw [setR 3 i hc,setL i (by rw [EB];exact hi),<-List.map_set]
def fC_log {c:List Vl} {e l:List Nat} {i x:Nat} (hc:c.length=3) (he:e.length=510):(fC c e l).set (513+i) (aj x)=fC c e (l.set i x):=by unfold fC;rw [show 513+i=3+(510+i) by omega,setR 3 _ hc,setR 510 i (by rw [EB];exact he),<-List.map_set]
def fC_len {c:List Vl} {e l:List Nat} (hc:c.length=3) (he:e.length=510) (hl:l.length=256):(fC c e l).length=769:=by unfold fC;rw [DO,DO,EB,EB,hc,he,hl]
def byte_of {x:Nat} (h:x<256) (g:ae):iQ .u8 (aj x) g=some (u8 x,g):=by rw [bY,tv (by omega) (by omega)]
def build_loop {h:ae} {p:Nat} {c:List Vl} (hc:c.length=3) (hp:h.get p=some (fC c (qf 0) (rq 0))) (h0:h.n0<=p) (C:ah) {x:Nat->Vl} (x0:x 0=ptr p 0) (x2:x 2=aj 1) (x3:x 3=aj 0) :
  Fin 35 (fun ex y g=>ex = .exit 0/\au h g (· = p)/\g.get p=some (fC c (qf 255) (rq 255))) (iter (codeA prog C (aq f232 [1,1,0,0])) az (aS 35 x) h):=by
 refine bL (wD C) (Inv:=fun k y g => ∃ i,i+k=255/\y 0=ptr p 0/\y 2=aj (xs i)/\y 3=aj i/\au h g (· = p)/\g.get p=some (fC c (qf i) (rq i))) ?_ 255 (by have:az=18446744073709551616:=rfl;omega) ⟨0,rfl,x0,x2,x3,au.refl _ _,hp⟩;rintro k y g ⟨i,hik,y0,y2,y3,K,gp⟩;unfold oe;have ls:aA prog .lss 3 (aj i) (.int .i64 255)=some (.bool (decide (i<255))):=gS i 255;simp -implicitDefEqProofs only [y3,ls,af,ak];by_cases hi:i<255
 ·obtain ⟨hx,hx0⟩:=xs_lt i;obtain ⟨q1,q2,q3,q4⟩:=step_ok hx;have n0p:g.n0<=p:=by rw [K.n0];exact h0
  have le:(qf i).length=510:=qa i;have ll:(rq i).length=256:=za i;obtain ⟨g1,e1,k1,t1,m1,_⟩:=dr (o:=3+i) (v:=u8 (xs i)) gp n0p (by rw [fC_len hc le ll];omega) rfl rfl;rw [fC_exp hc (by omega)] at t1;obtain ⟨g2,e2,k2,t2,m2,_⟩:=dr (o:=3+(i+255)) (v:=u8 (xs i)) t1 m1 (by rw [fC_len hc (by rw [GF,le]) ll];omega) rfl rfl;rw [fC_exp hc (by rw [GF];omega)] at t2;obtain ⟨g3,e3,k3,t3,m3,_⟩:=dr (o:=513+xs i) (v:=aj i) t2 m2 (by rw [fC_len hc (by rw [GF,GF,le]) ll];omega) rfl rfl;rw [fC_log hc (by rw [GF,GF,le])] at t3;have K3:au h g3 (· = p):=((K.trans k1).trans k2).trans k3;have ad:aA prog .add 3 (aj i) (.int .i64 255)=some (aj (i+255)):=addc (c:=255) (by omega);have i1:idxA 510 1 (ptr p 3) (aj i)=some (ptr p (3+i)):=oT (by omega);have i2:idxA 510 1 (ptr p 3) (aj (i+255))=some (ptr p (3+(i+255))):=oT (by omega);have i3:idxA 256 1 (ptr p 513) (aj (xs i))=some (ptr p (513+xs i)):=oT hx;have gq:aA prog .geq 3 (aj (2*xs i)) (.int .i64 256)=some (.bool (decide (256<=2*xs i))):=by rw [eO];refine FP (fun b=>some (Value.bool b)) (GH.2 ?_);omega
  simp -implicitDefEqProofs only [DN hi,y0,y2,y3,byte_of hx,av,aw,DC,i1,e1,ad,i2,e2,i3,e3,q1,gq,eW (show i+1<=9223372036854775807 by omega),af,ak];by_cases hb:256<=2*xs i
  ·simp -implicitDefEqProofs only [DN hb,q2,af,ak];refine dE.next (k-1) (by omega) ⟨i+1,by omega,y0,?_,rfl,K3,t3⟩;show aj _=aj (uh (xs i));unfold uh;rw [DH hb]
  ·simp -implicitDefEqProofs only [DW hb,af,ak];refine dE.next (k-1) (by omega) ⟨i+1,by omega,y0,?_,rfl,K3,t3⟩;show aj _=aj (uh (xs i));unfold uh;rw [DL hb]
 ·have:i=255:=by omega
  subst this;simp -implicitDefEqProofs only [DW hi,af,ak];exact dE.out 0 ⟨rfl,K,gp⟩
def expV:List Nat := [1,2,4,8,16,32,64,128,29,58,116,232,205,135,19,38,76,152,45,90,180,117,234,201,143,3,6,12,24,48,96,192,157,39,78,156,37,74,148,53,106,212,181,119,238,193,159,35,70,140,5,10,20,40,80,160,93,186,105,210,185,111,222,161,95,190,97,194,153,47,94,188,101,202,137,15,30,60,120,240,253,231,211,187,107,214,177,127,254,225,223,163,91,182,113,226,217,175,67,134,17,34,68,136,13,26,52,104,208,189,103,206,129,31,62,124,248,237,199,147,59,118,236,197,151,51,102,204,133,23,46,92,184,109,218,169,79,158,33,66,132,21,42,84,168,77,154,41,82,164,85,170,73,146,57,114,228,213,183,115,230,209,191,99,198,145,63,126,252,229,215,179,123,246,241,255,227,219,171,75,150,49,98,196,149,55,110,220,165,87,174,65,130,25,50,100,200,141,7,14,28,56,112,224,221,167,83,166,81,162,89,178,121,242,249,239,195,155,43,86,172,69,138,9,18,36,72,144,61,122,244,245,247,243,251,235,203,139,11,22,44,88,176,125,250,233,207,131,27,54,108,216,173,71,142,1,2,4,8,16,32,64,128,29,58,116,232,205,135,19,38,76,152,45,90,180,117,234,201,143,3,6,12,24,48,96,192,157,39,78,156,37,74,148,53,106,212,181,119,238,193,159,35,70,140,5,10,20,40,80,160,93,186,105,210,185,111,222,161,95,190,97,194,153,47,94,188,101,202,137,15,30,60,120,240,253,231,211,187,107,214,177,127,254,225,223,163,91,182,113,226,217,175,67,134,17,34,68,136,13,26,52,104,208,189,103,206,129,31,62,124,248,237,199,147,59,118,236,197,151,51,102,204,133,23,46,92,184,109,218,169,79,158,33,66,132,21,42,84,168,77,154,41,82,164,85,170,73,146,57,114,228,213,183,115,230,209,191,99,198,145,63,126,252,229,215,179,123,246,241,255,227,219,171,75,150,49,98,196,149,55,110,220,165,87,174,65,130,25,50,100,200,141,7,14,28,56,112,224,221,167,83,166,81,162,89,178,121,242,249,239,195,155,43,86,172,69,138,9,18,36,72,144,61,122,244,245,247,243,251,235,203,139,11,22,44,88,176,125,250,233,207,131,27,54,108,216,173,71,142]
def logV:List Nat := [0,0,1,25,2,50,26,198,3,223,51,238,27,104,199,75,4,100,224,14,52,141,239,129,28,193,105,248,200,8,76,113,5,138,101,47,225,36,15,33,53,147,142,218,240,18,130,69,29,181,194,125,106,39,249,185,201,154,9,120,77,228,114,166,6,191,139,98,102,221,48,253,226,152,37,179,16,145,34,136,54,208,148,206,143,150,219,189,241,210,19,92,131,56,70,64,30,66,182,163,195,72,126,110,107,58,40,84,250,133,186,61,202,94,155,159,10,21,121,43,78,212,229,172,115,243,167,87,7,112,192,247,140,128,99,13,103,74,222,237,49,197,254,24,227,165,153,119,38,184,180,124,17,68,146,217,35,32,137,46,55,63,209,91,149,188,207,205,144,135,151,178,220,252,190,97,242,86,211,171,20,42,93,158,132,60,57,83,71,109,65,162,31,45,67,216,183,123,164,118,196,23,73,236,127,12,111,246,108,161,59,82,41,157,85,170,251,96,134,177,187,204,62,90,203,89,95,176,156,169,160,81,11,245,22,235,122,117,44,215,79,174,213,233,230,231,173,232,116,214,244,234,168,80,88,175]
def expV_eq:qf 255=expV:=by kernel_rfl
def logV_eq:rq 255=logV:=by kernel_rfl
def results232:f232.results.toList = []:=by kernel_rfl
def build_text {h:ae} {p:Nat} {c:List Vl} (hc:c.length=3) (hp:h.get p=some (fC c (qf 0) (rq 0))) (h0:h.n0<=p) (C:ah) :
  ∃ h',aV prog C f232 [ptr p 0] h=some (.tuple #[],h')/\au h h' (· = p)/\h'.get p=some (fC c expV logV):=by
 have key : ∃ o:aY,t232 C (ptr p 0) h=o /\ ∃ h',o=some (.tuple #[],h')/\au h h' (· = p)/\h'.get p=some (fC c expV logV):=by refine ⟨_,rfl,?_⟩;unfold t232;simp -implicitDefEqProofs only [af];refine cH (Q:=fun o:aY => ∃ h',o=some (.tuple #[],h')/\au h h' (· = p)/\h'.get p=some (fC c expV logV)) (build_loop hc hp h0 C rfl rfl rfl) ?_;rintro _ y g ⟨rfl,K,G⟩;rw [expV_eq,logV_eq] at G;simp -implicitDefEqProofs only [bh,b232_2,DV];refine ⟨g,?_,K,G⟩;rw [results232];rfl
 obtain ⟨o,e,h',e',k,g⟩:=key;exact ⟨h',(t232_eq _ _ _).trans (e.trans e'),k,g⟩
def z8s:Nat->List Vl->Option (List Vl)
 | 0,l=>some l
 |n+1,v::l=>match v with
  | .int .u8 (.ofNat 0)=>z8s n l
  |_=>none
 |_+1,[]=>none
def z8s_eq : ∀ {n:Nat} {l r:List Vl},z8s n l=some r->l=(List.replicate n 0).map u8++r
 | 0,l,r,h=>by cases h;rfl
 |n+1,[],r,h=>by cases h
 |n+1,v::l,r,h=>by
  unfold z8s at h;split at h
  ·rw [List.replicate_succ,FD,List.cons_append,<-z8s_eq h];rfl
  ·cases h
def z64s:Nat->List Vl->Bool
 | 0,[]=>true
 |n+1,v::l=>match v with
  | .int .i64 (.ofNat 0)=>z64s n l
  |_=>false
 |_,_=>false
def z64s_eq : ∀ {n:Nat} {l:List Vl},z64s n l=true->l=(List.replicate n 0).map aj
 | 0,[],_=>rfl
 | 0,_::_,h=>by cases h
 |n+1,[],h=>by cases h
 |n+1,v::l,h=>by
  unfold z64s at h;split at h
  ·rw [List.replicate_succ,FD,<-z64s_eq h];rfl
  ·cases h
def s232 (args:List Vl) (h:ae):aY:=
 match args with
 | [.pointer (some ⟨p,0,none⟩)]=>match Nat.ble h.n0 p with
   |true=>match h.get p with
    |some (.int ka a :: .int kb b :: .int kc c::r)=>match z8s 510 r with
     |some r'=>match z64s 256 r' with
      |true=>some (.tuple #[],h.set p (fC [.int ka a,.int kb b,.int kc c] expV logV))
      |false=>none
     |none=>none
    |_=>none
   |false=>none
 |_=>none
def is232:bE prog 232 f232 := .of (by kernel_rfl)
def flat_map {f:Nat->Vl} (hf : ∀ n,flat (f n)=true) (l:List Nat):(l.map f).all flat=true:=by rw [DQ];intro x hx;obtain ⟨n,_,rfl⟩:=EZ.1 hx;exact hf n
def fC_flat {ka kb kc:IntKind} {a b c:Int} (e l:List Nat):bD (fC [.int ka a,.int kb b,.int kc c] e l)=true:=by unfold fC bD;rw [HI,HI,flat_map (fun _=>rfl),flat_map (fun _=>rfl)];rfl
def c232:bU prog 232 s232:=by
 have key : ∀ args h v h',s232 args h=some (v,h') -> ∃ p ka a kb b kc c,args = [ptr p 0]/\h.n0<=p/\h.get p=some (fC [.int ka a,.int kb b,.int kc c] (qf 0) (rq 0))/\v = .tuple #[]/\h'=h.set p (fC [.int ka a,.int kb b,.int kc c] expV logV):=by
  intro args h v h' e;unfold s232 at e;split at e
  ·rename_i p;split at e
   ·rename_i hc;split at e
    ·rename_i ka a kb b kc c r hk;split at e
     ·rename_i r' hr;split at e
      ·rename_i hz;cases e;refine ⟨p,ka,a,kb,b,kc,c,rfl,EH hc,?_,rfl,rfl⟩;rw [hk,z8s_eq hr,z64s_eq hz];rfl
      ·cases e
     ·cases e
    ·cases e
   ·cases e
  ·cases e
 refine .mk' (C:=km []) (fx [] (by simp)) mixed is232 ?_ ?_
 ·intro args h v h' e;obtain ⟨p,ka,a,kb,b,kc,c,rfl,h0,hp,rfl,rfl⟩:=key _ _ _ _ e;refine ⟨⟨DG _,rfl,rfl⟩,fun _ hb=>⟨rfl,?_⟩⟩;exact aE.put (x:=some _) hb h0 (h.aL hp) fun k e=>by cases e;exact dh (fC_flat _ _)
 ·intro args h v h' e _ hh;obtain ⟨p,ka,a,kb,b,kc,c,rfl,h0,hp,rfl,rfl⟩:=key _ _ _ _ e;obtain ⟨g,h1,h2,h3⟩:=build_text rfl hp h0 (km []);refine ⟨_,g,id,h1,.sub rfl (aE.put (x:=some _) hh h0 (h.aL hp) fun k e=>by cases e;exact dh (fC_flat _ _)) (fun d q _ hb => ?_)⟩;by_cases hbp:d=p
  ·subst hbp;rw [ae.jK h0 hp] at hb;cases hb;exact ae.aJ _ h3
  ·rw [ae.cj h0 (h.aL hp) _ hbp] at hb;exact (h2.getB d (h.lt_of_getB hb) hbp).trans hb
end
end
end Go.Proofs.YtdhpgacmgebjdaaGreatDoor
