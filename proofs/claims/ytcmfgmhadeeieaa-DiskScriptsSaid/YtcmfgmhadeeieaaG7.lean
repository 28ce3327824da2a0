/-
  A part of the proof, spaces and names shortened by a program (a claim may hold 1,500,000 bytes).
  Conditions: as each theorem states.
-/
import Derived.Test.YtcmfgmhadeeieaaG6
import Derived.Test.YtcmfgmhadeeieaaProg
import Derived.KernelRfl
namespace Go.Proofs.Ytcmfgmhadeeieaa
open Go Go.Abs
def cg (c:Nat):Nat:=(c/2) ^^^ (0x82f63b78*(c%2))
def iE (i:Nat):Nat:=cg (cg (cg (cg i)))
def gD (tab:Nat→Nat) (r:Nat):Nat:=tab (r%16) ^^^ (r/16)
def fO (r x:Nat):Nat:=gD iE (gD iE (r ^^^ x))
def crcN (l:List Nat):Nat:=4294967295 ^^^ l.foldl fO 4294967295
theorem crcBit_lt {c:Nat} (h:c<4294967296):cg c<4294967296:=by
 unfold cg
 have h1:c/2<2^32:=by omega
 have h2:0x82f63b78*(c%2)<2^32:=by omega
 exact Nat.xor_lt_two_pow h1 h2
theorem crcTab_lt {c:Nat} (h:c<4294967296):iE c<4294967296:=crcBit_lt (crcBit_lt (crcBit_lt (crcBit_lt h)))
theorem crcHalf_lt {tab:Nat→Nat} (ht : ∀ q,q<16→tab q<4294967296) {r:Nat} (h:r<4294967296):gD tab r<4294967296:=
 Nat.xor_lt_two_pow (n:=32) (ht _ (by omega)) (by omega)
theorem crcMix_lt {r:Nat} (h:r<4294967296):gD iE r<4294967296:=crcHalf_lt (fun q hq=>crcTab_lt (by omega)) h
theorem crcStep_lt {r x:Nat} (h:r<4294967296) (hx:x<256):fO r x<4294967296:=
 crcMix_lt (crcMix_lt (Nat.xor_lt_two_pow (n:=32) h (by omega)))
theorem crcFold_lt : ∀ (l:List Nat) (r:Nat),r<4294967296→(∀ x∈l,x<256)→l.foldl fO r<4294967296
 | [],r,h,_=>h
 |x::l,r,h,hx=>crcFold_lt l _ (crcStep_lt h (hx x List.mem_cons_self)) (fun y hy=>hx y (List.mem_cons_of_mem _ hy))
abbrev u32 (n:Nat):Value := .int .u32 (n:Int)
abbrev u8 (n:Nat):Value := .int .u8 (n:Int)
abbrev ao (n:Nat):Value := .int .i64 (n:Int)
def fx (c:Nat):Nat→Nat
 | 0=>c
 |i+1=>cg (fx c i)
theorem crcIter_lt {c:Nat} (hc:c<4294967296) : ∀ i,fx c i<4294967296
 | 0=>hc
 |i+1=>crcBit_lt (crcIter_lt hc i)
section
variable (C:ak)
theorem crc_bit_ops {c:Nat} (hc:c<4294967296):bin Try.prog .shr 113 (u32 c) (.int .u64 1)=some (u32 (c/2))∧bin Try.prog .and 113 (u32 c) (.int .u32 1)=some (u32 (c%2)) ∧
  bin Try.prog .mul 113 (.int .u32 2197175160) (u32 (c%2))=some (u32 (2197175160*(c%2)))∧bin Try.prog .xor 113 (u32 (c/2)) (u32 (2197175160*(c%2)))=some (u32 (cg c)):=by
 refine ⟨?_,?_,?_,?_⟩
 ·exact fo Try.prog 113 (k := .u32) (k' := .u64) (a:=c) (b:=1) (by decide)
 ·have h1:=bin_and_nat Try.prog 113 (k := .u32) rfl (a:=c) (b:=1) hc (by decide)
  rw [Nat.and_one_is_mod] at h1
  exact h1
 ·rw [bin_mul,wrap_u32_mod]
  congr 2
  omega
 ·exact fp Try.prog 113 (k := .u32) rfl (a:=c/2) (b:=2197175160*(c%2)) (by show _<2^32;omega) (by show _<2^32;omega)
theorem crc_inner (x:Nat→Value) (h:af) (c:Nat) (hc:c<4294967296) (h5:x 5=u32 c) (h14:x 14 = .int .i64 0) :
  ∃ x',iter (aL Try.prog C (partOf Try.f95 [1,1,0,1,0,0,1,1,0,0,1,1,0,1,0,0])) rounds (aZ 54 x) h=some (.exit 2,aZ 54 x',h)∧x' 5=u32 (iE c) ∧
    x' 0=x 0∧x' 3=x 3∧x' 4=x 4∧x' 9=x 9:=by
 obtain ⟨ex,x',h',h1,rfl,rfl,h2⟩:=loop_inv (t95l95_110100110011010_eq C)
  (Inv:=fun k y h1=>k≤4∧h1=h∧y 5=u32 (fx c (4-k))∧y 14=ao (4-k)∧y 0=x 0∧y 3=x 3∧y 4=x 4∧y 9=x 9)
  (fin:=fun ex y h1=>ex = .exit 2∧h1=h∧y 5=u32 (iE c)∧y 0=x 0∧y 3=x 3∧y 4=x 4∧y 9=x 9)
  (by
   rintro k y _ ⟨hk,rfl,i5,i14,i0,i3,i4,i9⟩
   obtain ⟨o1,o2,o3,o4⟩:=crc_bit_ops (crcIter_lt hc (4-k))
   unfold fz
   simp -implicitDefEqProofs only [i5,i14,ao,bB,aj,ae]
   by_cases hz:k=0
   ·subst hz
    refine ⟨_,_,_,rfl,.inr ⟨by simp,rfl,rfl,?_⟩⟩
    simp -implicitDefEqProofs only [aQ,aY,i5,i0,i3,i4,i9,Nat.reduceEqDiff,if_false,and_true]
    rfl
   ·have hlt:((4-k:Nat):Int)<4:=by omega
    simp -implicitDefEqProofs only [decide_eq_true hlt,o1,o2,o3,o4,aj,ae,dM]
    refine ⟨_,_,_,rfl,.inl ⟨rfl,k-1,by omega,by omega,rfl,?_⟩⟩
    simp -implicitDefEqProofs only [aQ,aY,i0,i3,i4,i9,Nat.reduceEqDiff,if_false,if_true,and_true]
    refine ⟨?_,?_⟩
    ·have:4-(k-1)=(4-k)+1:=by omega
     rw [this];rfl
    ·rw [bE (by omega) (by omega)]
     congr 1
     omega)
  (k:=4) (by decide) ⟨by omega,rfl,h5,h14,rfl,rfl,rfl,rfl⟩
 exact ⟨x',h1,h2⟩
def gN (i:Nat):dV:=(List.range 16).map fun j=>u32 (if j<i then iE j else 0)
theorem tabBlk_length (i:Nat):(gN i).length=16:=by simp [gN]
theorem tabBlk_at {i j:Nat} (hj:j<16):(gN i)[j]? = some (u32 (if j<i then iE j else 0)):=by
 unfold gN
 rw [List.getElem?_map,List.getElem?_range hj];rfl
theorem tabBlk_set {i:Nat} (hi:i<16):(gN i).set i (u32 (iE i))=gN (i+1):=by
 apply List.ext_getElem?
 intro j
 rw [List.getElem?_set,tabBlk_length]
 by_cases hj:j<16
 ·rw [tabBlk_at hj,tabBlk_at hj]
  by_cases e:i=j
  ·subst e;simp [hi]
  ·rw [if_neg e]
   by_cases h2:j<i
   ·rw [if_pos h2,if_pos (by omega)]
   ·rw [if_neg h2,if_neg (by omega)]
 ·rw [List.getElem?_eq_none (by rw [tabBlk_length];omega),List.getElem?_eq_none (by rw [tabBlk_length];omega)]
  split
  ·omega
  ·rfl
theorem crc_table (x:Nat→Value) (h:af) (B:Nat) (hB:h.n0≤B) (hg:h.get B=some (gN 0)) (h3:x 3=ptr B 0) (h9:x 9 = .int .i64 0) :
  ∃ x' h',iter (aL Try.prog C (partOf Try.f95 [1,1,0,1,0,0])) rounds (aZ 54 x) h=some (.exit 0,aZ 54 x',h')∧x' 0=x 0∧x' 3=ptr B 0∧Kept h h' (· = B)∧h'.get B=some (gN 16):=by
 obtain ⟨ex,x',h',h1,rfl,h2⟩:=loop_inv (t95l95_11010_eq C)
  (Inv:=fun k y h1=>k≤16∧y 9=ao (16-k)∧y 0=x 0∧y 3=ptr B 0∧Kept h h1 (· = B)∧h1.get B=some (gN (16-k)))
  (fin:=fun ex y h1=>ex = .exit 0∧y 0=x 0∧y 3=ptr B 0∧Kept h h1 (· = B)∧h1.get B=some (gN 16))
  (by
   rintro k y h1 ⟨hk,i9,i0,i3,ik,ig⟩
   unfold t95l95_11010
   simp -implicitDefEqProofs only [i9,ao,bB,aj,ae]
   by_cases hz:k=0
   ·subst hz
    refine ⟨_,_,_,rfl,.inr ⟨by simp,rfl,?_⟩⟩
    simp -implicitDefEqProofs only [aQ,aY,i0,i3,Nat.reduceEqDiff,if_false,true_and]
    exact ⟨ik,ig⟩
   ·have hlt:((16-k:Nat):Int)<16:=by omega
    have hw:IntKind.wrap .u32 ((16-k:Nat):Int)=((16-k:Nat):Int):=wrap_u32 (by omega) (by omega)
    simp -implicitDefEqProofs only [decide_eq_true hlt,df,ae,hw]
    obtain ⟨z,hz1,z5,z0,z3,z4,z9⟩:=crc_inner C (up y [(4,.int .i64 ((16-k:Nat):Int)),(5,u32 (16-k)),(10,.bool true),(11,.int .i64 ((16-k:Nat):Int)),(12,.int .i64 ((16-k:Nat):Int)),(13,u32 (16-k)),(14,.int .i64 0)]) h1 (16-k) (by omega) rfl rfl
    rw [hz1]
    simp -implicitDefEqProofs only [aQ,aY,Nat.reduceEqDiff,if_false,if_true] at z0 z3 z4 z9
    simp -implicitDefEqProofs only [bG,b95_17,if_true,t95k95_15_eq]
    have hlt2:(0:Int)≤((16-k:Nat):Int)∧((16-k:Nat):Int)<((16:Nat):Int):=by omega
    unfold t95k95_15
    simp -implicitDefEqProofs only [z3,i3,z4,z5,idxA,hlt2,and_self,if_true,ax,aj,ae,Nat.zero_add,Int.toNat_natCast,Nat.mul_one]
    rw [dm ig (by rw [tabBlk_length];omega) (by rw [ik.n0];exact hB) rfl rfl,tabBlk_set (by omega)]
    simp -implicitDefEqProofs only [ae,t95k95_11_eq]
    unfold t95k95_11
    simp -implicitDefEqProofs only [aQ,aY,Nat.reduceEqDiff,if_false,if_true,z9,i9,dM,aj,ae]
    refine ⟨_,_,_,rfl,.inl ⟨rfl,k-1,by omega,by omega,?_⟩⟩
    have hb:h1.n0≤B:=by rw [ik.n0];exact hB
    have e1:16-(k-1)=16-k+1:=by omega
    simp -implicitDefEqProofs only [aQ,aY,Nat.reduceEqDiff,if_false,if_true,z0,i0,z3,i3,true_and,e1]
    refine ⟨?_,ik.trans (Kept.set hb ig (.inr rfl)),af.a9 hb ig _⟩
    rw [bE (by omega) (by omega)]
    congr 1)
  (k:=16) (by decide) ⟨by omega,h9,rfl,h3,Kept.refl _ _,hg⟩
 exact ⟨x',h',h1,h2⟩
end
theorem gY : ∀ l:List Nat,cN (l.map u8)=true
 | []=>rfl
 |x::l=>by
  have:=gY l
  simp only [cN,List.map_cons,List.all_cons] at this ⊢
  rw [this];rfl
theorem noHoles_part (l:List Nat) (o n:Nat):cN (((l.map u8).drop o).take n)=true:=by
 rw [←List.map_drop,←List.map_take];exact gY _
def nat8:Value→Option Nat
 | .int .u8 (.ofNat n)=>if n<256 then some n else none
 |_=>none
theorem nat8_eq {v:Value} {n:Nat} (h:nat8 v=some n):v=u8 n∧n<256:=by
 unfold nat8 at h
 split at h
 ·split at h
  ·cases h;exact ⟨rfl,by assumption⟩
  ·cases h
 ·cases h
def bytesOf:List Value→Option (List Nat)
 | []=>some []
 |v::l=>match nat8 v,bytesOf l with
  |some n,some r=>some (n::r)
  |_,_=>none
theorem bytesOf_eq : ∀ {l:List Value} {r:List Nat},bytesOf l=some r→l=r.map u8 ∧ ∀ n∈r,n<256
 | [],r,h=>by cases h;exact ⟨rfl,by simp⟩
 |v::l,r,h=>by
  unfold bytesOf at h
  split at h
  ·rename_i n r' h1 h2
   cases h
   obtain ⟨rfl,h3⟩:=nat8_eq h1
   obtain ⟨rfl,h4⟩:=bytesOf_eq h2
   refine ⟨rfl,fun m hm => ?_⟩
   rcases List.mem_cons.1 hm with rfl|hm
   ·exact h3
   ·exact h4 m hm
  ·cases h
theorem bytesOf_map : ∀ {r:List Nat},(∀ n∈r,n<256)→bytesOf (r.map u8)=some r
 | [],_=>rfl
 |n::r,h=>by
  have h1:nat8 (u8 n)=some n:=by
   show (if n<256 then some n else none)=some n
   rw [if_pos (h n List.mem_cons_self)]
  simp -implicitDefEqProofs only [List.map_cons,bytesOf,h1,bytesOf_map (r:=r) (fun m hm=>h m (List.mem_cons_of_mem _ hm))]
def av (a:Option Addr) (n:Nat) (h:af):Option (List Nat):=(bY 1 n (.slice a n n) h).bind bytesOf
theorem aB {a:Option Addr} {n:Nat} {h:af} {l:List Nat} (e:av a n h=some l) :
  l.length=n∧(∀ m∈l,m<256)∧(0<n → ∃ b off s k,a=some ⟨b,off,s⟩∧h.get b=some k∧off+n≤k.length ∧ ∀ i,i<n→k[off+i]? = some (u8 (l.getD i 0))):=by
 unfold av at e
 rw [Option.bind_eq_some_iff] at e
 obtain ⟨cs,h1,h2⟩:=e
 obtain ⟨rfl,h3⟩:=bytesOf_eq h2
 unfold bY at h1
 split at h1
 ·split at h1
  ·rename_i hn
   simp -implicitDefEqProofs only [Option.some.injEq] at h1
   have:l = []:=by cases l with|nil=>rfl|cons=>simp at h1
   subst this;subst hn
   exact ⟨rfl,h3,fun h=>absurd h (by omega)⟩
  ·cases h1
 ·rename_i b off s _ _ heq
  split at h1
  ·rename_i hn
   simp -implicitDefEqProofs only [Option.some.injEq] at h1
   have:l = []:=by cases l with|nil=>rfl|cons=>simp at h1
   subst this
   have:n=0:=by omega
   subst this
   exact ⟨rfl,h3,fun h=>absurd h (by omega)⟩
  ·split at h1
   ·rename_i k hk
    split at h1
    ·rename_i hl0
     have hl:=hl0.1
     rw [Nat.mul_one] at h1 hl
     simp -implicitDefEqProofs only [Option.some.injEq] at h1
     have hlen:l.length=n:=by
      have:=congrArg List.length h1
      simp -implicitDefEqProofs only [List.length_map,List.length_take,List.length_drop] at this
      omega
     refine ⟨hlen,h3,fun _=>⟨b,off,s,k,?_,hk,hl,?_⟩⟩
     ·cases heq;rfl
     ·intro i hi
      have h4:=congrArg (·[i]?) h1
      simp -implicitDefEqProofs only [List.getElem?_take,hi,if_true,List.getElem?_drop,List.getElem?_map] at h4
      rw [h4,List.getD_eq_getElem?_getD,List.getElem?_eq_getElem (by omega)]
      rfl
    ·cases h1
   ·cases h1
 ·cases (show Value.slice a n n = .string _ by assumption)
 ·cases h1
theorem fE {a:Option Addr} {n:Nat} {h h':af} {l:List Nat} (e:av a n h=some l) (hm : ∀ b k,h.get b=some k→h'.get b=some k):av a n h'=some l:=by
 unfold av at e ⊢
 rw [Option.bind_eq_some_iff] at e ⊢
 obtain ⟨cs,h1,h2⟩:=e
 refine ⟨cs,?_,h2⟩
 unfold bY at h1 ⊢
 split at h1
 ·exact h1
 ·split at h1
  ·rw [if_pos (by assumption)];exact h1
  ·rw [if_neg (by assumption)]
   split at h1
   ·rename_i k hk
    rw [hm _ _ hk];exact h1
   ·cases h1
 ·cases (show Value.slice a n n = .string _ by assumption)
 ·cases h1
def s95:List Value→af→Out
 | [.slice a n c],h=>match av a n h with
   |some l=>if n<9223372036854775807 then some (u32 (crcN l),h) else none
   |none=>none
 |_,_=>none
theorem crc_mix (tab:Nat→Nat) (ht : ∀ q,q<16→tab q<4294967296) (r:Nat) (hr:r<4294967296):bin Try.prog .and 113 (u32 r) (.int .u32 15)=some (u32 (r%16))∧bin Try.prog .shr 113 (u32 r) (.int .u64 4)=some (u32 (r/16)) ∧
  bin Try.prog .xor 113 (u32 (tab (r%16))) (u32 (r/16))=some (u32 (gD tab r)):=by
 refine ⟨?_,?_,?_⟩
 ·have h1:=bin_and_nat Try.prog 113 (k := .u32) rfl (a:=r) (b:=15) hr (by decide)
  rw [show r &&& 15=r%16 from Nat.and_two_pow_sub_one_eq_mod r 4] at h1
  exact h1
 ·exact fo Try.prog 113 (k := .u32) (k' := .u64) (a:=r) (b:=4) (by decide)
 ·exact fp Try.prog 113 (k := .u32) rfl (ht _ (by omega)) (by show _<2^32;omega)
section
variable (C:ak)
theorem crc_round (tab:Nat→Nat) (ht : ∀ q,q<16→tab q<4294967296) (y:Nat→Value) (h:af) (B:Nat) (bJ:dV) (hg:h.get B=some bJ) (hblk : ∀ q,q<16→bJ[q]? = some (u32 (tab q)))
  (b off len c i V R:Nat) (s:Option Nat) (kb:dV) (hkb:h.get b=some kb) (hcell:kb[off+i]? = some (u8 V)) (hV:V<256) (hR:R<4294967296) (hi:i<len) (hlen:len<9223372036854775807)
  (i3:y 3=ptr B 0) (i6:y 6=u32 R) (i27:y 27 = .slice (some ⟨b,off,s⟩) len c) (i28:y 28=ao len) (i29:y 29=ao i) :
  ∃ y',fZ C y h=some (.normal,aZ 54 y',h)∧y' 3=y 3∧y' 6=u32 (gD tab (gD tab (R ^^^ V)))∧y' 27=y 27∧y' 28=y 28∧y' 29=ao (i+1):=by
 have hlt:(i:Int)<(len:Int):=by omega
 have hidx:(0:Int)≤(i:Int)∧(i:Int)<(len:Int):=by omega
 have hw:IntKind.wrap .u32 ((V:Nat):Int)=(V:Int):=wrap_u32 (by omega) (by omega)
 have hx:=fp Try.prog 113 (k := .u32) rfl (a:=R) (b:=V) hR (by show _<2^32;omega)
 have hr1:R ^^^ V<4294967296:=Nat.xor_lt_two_pow (n:=32) hR (by omega)
 generalize R ^^^ V=R1 at *
 obtain ⟨a1,a2,a3⟩:=crc_mix tab ht _ hr1
 have hr2:=crcHalf_lt ht hr1
 generalize gD tab R1=R2 at *
 obtain ⟨b1,b2,b3⟩:=crc_mix tab ht _ hr2
 generalize gD tab R2=R3 at *
 have hi1 : ∀ q:Nat,(0:Int)≤((q%16:Nat):Int)∧((q%16:Nat):Int)<((16:Nat):Int):=fun q=>by omega
 have hld : ∀ q:Nat,aV (ptr B (q%16)) h=some (u32 (tab (q%16)),h):=fun q=>aJ hg (hblk _ (by omega))
 unfold fZ
 simp -implicitDefEqProofs only [i28,i29,ao,bB,aj,ae,decide_eq_true hlt,i27,bV,hidx,and_self,if_true,Int.toNat_natCast,Nat.mul_one,aJ hkb hcell,df,hw,i6,hx,a1,i3,idxA,hi1,ax,Nat.zero_add,hld,a2,a3,b1,b2,b3,dM]
 refine ⟨_,rfl,?_⟩
 simp -implicitDefEqProofs only [aQ,aY,Nat.reduceEqDiff,if_false,if_true,i3,i27,i28,true_and]
 rw [bE (by omega) (by omega)]
 rfl
theorem crc_bytes (x:Nat→Value) (h:af) (B:Nat) (a:Option Addr) (n c:Nat) (l:List Nat) (hg:h.get B=some (gN 16)) (hl:av a n h=some l)
  (h3:x 3=ptr B 0) (h6:x 6=u32 4294967295) (h27:x 27 = .slice a n c) (h28:x 28=ao n) (h29:x 29 = .int .i64 0) (hn:n<rounds) (hn2:n<9223372036854775807) :
  ∃ x',iter (aL Try.prog C (partOf Try.f95 [1,1,1,1,0,1,0,0])) rounds (aZ 54 x) h=some (.exit 4,aZ 54 x',h)∧x' 6=u32 (l.foldl fO 4294967295):=by
 obtain ⟨hlen,hb,hat⟩:=aB hl
 obtain ⟨ex,x',h',h1,rfl,rfl,h2⟩:=loop_inv (t95l95_1111010_eq C)
  (Inv:=fun k y h1=>k≤n∧h=h1∧y 3=ptr B 0∧y 6=u32 ((l.take (n-k)).foldl fO 4294967295)∧y 27 = .slice a n c∧y 28=ao n∧y 29=ao (n-k))
  (fin:=fun ex y h1=>ex = .exit 4∧h1=h∧y 6=u32 (l.foldl fO 4294967295))
  (by
   rintro k y _ ⟨hk,rfl,i3,i6,i27,i28,i29⟩
   by_cases hz:k=0
   ·subst hz
    unfold fZ
    simp -implicitDefEqProofs only [i28,i29,ao,bB,aj,ae]
    simp -implicitDefEqProofs only [Nat.sub_zero,Int.lt_irrefl,decide_false]
    refine ⟨_,_,_,rfl,.inr ⟨by simp,rfl,rfl,?_⟩⟩
    simp -implicitDefEqProofs only [aQ,aY,Nat.reduceEqDiff,if_false,i6,Nat.sub_zero]
    rw [List.take_of_length_le (by omega)]
   ·have e1:n-(k-1)=n-k+1:=by omega
    have hnk:n-k<n:=by omega
    have hlt2:n-k<l.length:=by omega
    obtain ⟨b,off,s,kb,rfl,hkb,hkl,hat2⟩:=hat (by omega)
    have hcell:=hat2 (n-k) hnk
    clear hat hat2
    have hr:((l.take (n-k)).foldl fO 4294967295)<4294967296:=crcFold_lt _ _ (by omega) (fun m hm=>hb m (List.mem_of_mem_take hm))
    have hbv:l.getD (n-k) 0<256:=by
     rw [List.getD_eq_getElem?_getD,List.getElem?_eq_getElem hlt2]
     exact hb _ (List.getElem_mem _)
    obtain ⟨y',q1,q3,q6,q27,q28,q29⟩:=crc_round C iE (fun q hq=>crcTab_lt (by omega)) y h B (gN 16) hg (fun q hq=>by rw [tabBlk_at hq,if_pos hq]) b off n c (n-k) _ _ s kb hkb hcell hbv hr hnk hn2 i3 i6 i27 i28 i29
    refine ⟨_,_,_,q1,.inl ⟨rfl,k-1,by omega,by omega,rfl,q3.trans i3,?_,q27.trans i27,q28.trans i28,by rw [q29,e1]⟩⟩
    rw [q6,e1,List.take_add_one,List.foldl_append]
    have hV2:l[n-k]? = some (l.getD (n-k) 0):=by
     rw [List.getD_eq_getElem?_getD,List.getElem?_eq_getElem hlt2]
     rfl
    rw [hV2,Option.toList_some,List.foldl_cons,List.foldl_nil,fO])
  (k:=n) hn ⟨by omega,rfl,h3,by rw [h6,Nat.sub_self,List.take_zero,List.foldl_nil],h27,h28,by rw [h29,Nat.sub_self];rfl⟩
 exact ⟨x',h1,h2⟩
theorem bits_xor_nat {k:IntKind} (hk:k.signed=false) {a b:Nat} (ha:a<2^k.bits) (hb:b<2^k.bits):bitsA .xor k (a:Int) (b:Int)=some (.int k ((a ^^^ b:Nat):Int)):=by
 simp -implicitDefEqProofs only [bitsA,ofInt_natCast,BitVec.toNat_xor,BitVec.toNat_ofNat,Nat.mod_eq_of_lt ha,Nat.mod_eq_of_lt hb]
 rw [bits_u hk _ (Nat.xor_lt_two_pow ha hb)]
theorem unA_xor_u32 {r:Nat} (hr:r<4294967296):unA .xor (u32 r)=some (u32 (4294967295 ^^^ r)):=by
 have h0:4294967295<2^IntKind.bits .u32:=by show 4294967295<2^32;omega
 have h1:=bits_xor_nat (k := .u32) rfl (a:=4294967295) (b:=r) h0 hr
 have h2:IntKind.max .u32=((4294967295:Nat):Int):=by decide
 have h3:unA .xor (u32 r)=bitsA .xor .u32 (IntKind.max .u32) r:=rfl
 rw [h3,h2]
 exact h1
theorem t95_is (a:Option Addr) (n c:Nat) (l:List Nat) (h:af) (hl:av a n h=some l) (hn:n<9223372036854775807) :
  ∃ h1,t95 C (.slice a n c) h=some (u32 (crcN l),h1) ∧ ∀ b k,h.get b=some k→h1.get b=some k:=by
 unfold t95
 simp -implicitDefEqProofs only [dp,Abs.newRow,ae]
 have hg0:(h.alloc (gN 0)).get h.next=some (gN 0):=by rw [af.aD,if_pos rfl]
 have hz:List.replicate 16 (Value.int IntKind.u32 0)=gN 0:=rfl
 rw [hz]
 obtain ⟨x',h',h1,x0,x3,hk,hg⟩:=crc_table C (up (bs [.slice a n c]) [(2,.int .u32 0),(3,ptr h.next 0),(9,.int .i64 0)]) (h.alloc (gN 0)) h.next h.aF hg0 rfl rfl
 rw [h1]
 have x0':x' 0 = .slice a n c:=x0
 have hm : ∀ b k,h.get b=some k→h'.get b=some k:=by
  intro b k hb
  have hlt:=h.aS hb
  rw [hk.get b (by simp;omega) (by omega),af.aD,if_neg (by omega)];exact hb
 simp -implicitDefEqProofs only [bG,b95_4,if_true,t95k95_2_eq]
 unfold t95k95_2
 simp -implicitDefEqProofs only [x0',bO,aj,ae]
 obtain ⟨z,hz1,z6⟩:=crc_bytes C (up x' [(6,.int .u32 4294967295),(27,.slice a n c),(28,.int .i64 n),(29,.int .i64 0)]) h' h.next a n c l hg (fE hl hm)
  (by simp -implicitDefEqProofs only [aQ,aY,Nat.reduceEqDiff,if_false,x3]) rfl rfl rfl rfl (by have:rounds=18446744073709551616:=rfl;omega) hn
 rw [hz1]
 simp -implicitDefEqProofs only [bG,b95_8,if_true,t95k95_6_eq]
 unfold t95k95_6
 obtain ⟨_,hb,_⟩:=aB hl
 refine ⟨h',?_,hm⟩
 simp -implicitDefEqProofs only [z6,ae,unA_xor_u32 (crcFold_lt l 4294967295 (by omega) hb),aj,crcN]
theorem mixed:Try.prog.follows .mixedOrders=true:=by kernel_rfl
theorem is95:ch Try.prog 95 Try.f95:=⟨by kernel_rfl,by kernel_rfl,by kernel_rfl,by kernel_rfl⟩
theorem c95:cf Try.prog 95 s95:=by
 have key : ∀ args h v h',s95 args h=some (v,h') → ∃ a n c l,args = [.slice a n c]∧av a n h=some l∧n<9223372036854775807∧v=u32 (crcN l)∧h'=h:=by
  intro args h v h' e
  unfold s95 at e
  split at e
  ·split at e
   ·rename_i l hl
    split at e
    ·rename_i hn
     cases e
     exact ⟨_,_,_,l,rfl,hl,hn,rfl,rfl⟩
    ·cases e
   ·cases e
  ·cases e
 refine .quiet (cE [] (by simp)) mixed is95 ?_ ?_
 ·intro args h v h' e
  obtain ⟨a,n,c,l,rfl,hl,hn,rfl,rfl⟩:=key _ _ _ _ e
  exact ⟨rfl,fun _=>rfl⟩
 ·intro args h v h' e _ _
  obtain ⟨a,n,c,l,rfl,hl,hn,rfl,rfl⟩:=key _ _ _ _ e
  obtain ⟨h1,h2,h3⟩:=t95_is (eZ []) a n c l _ hl hn
  exact ⟨h1,(t95_eq _ _ _).trans h2,h3⟩
end
end Go.Proofs.Ytcmfgmhadeeieaa

namespace Go.Proofs.Ytcmfgmhadeeieaa
open Go Go.Abs
end Go.Proofs.Ytcmfgmhadeeieaa

namespace Go.Proofs.Ytcmfgmhadeeieaa
open Go Go.Abs
noncomputable def k17_4 (C:ak) (e:Env) (h:af):Out:=cF Try.prog C (partOf Try.f17 [1,1,1]) e h (al Try.prog Try.f17.results.toList) (al Try.prog Try.f17.results.toList) (fun _ _ _=>none)
noncomputable def b17_6 (C:ak) (i:Nat) (e:Env) (h:af):Out:=if i=0 then (k17_4 C) e h else (fun _ _ _=>none) i e h
noncomputable def k17_10 (C:ak) (e:Env) (h:af):Option (Ex×Env×af):=cF Try.prog C (partOf Try.f17 [1,1,0,1,0,0,1,1]) e h (fun e h=>some (Ex.normal,e,h)) (fun e h=>some (Ex.ret,e,h)) (fun i e h=>some (Ex.exit i,e,h))
noncomputable def b17_11 (C:ak) (i:Nat) (e:Env) (h:af):Option (Ex×Env×af):=if i=1 then (k17_10 C) e h else (fun i e h=>some (Ex.exit i,e,h)) i e h
noncomputable def b17_16 (C:ak) (i:Nat) (e:Env) (h:af):Option (Ex×Env×af):=if i=2 then (k17_10 C) e h else (b17_11 C) i e h
noncomputable def t17 (C:ak) (x0 x1:Value) (h:af):Out:=
 ad (some ((.bool false),h)) fun y4 h=>
 ad (some (x0,h)) fun y7 h=>
 ad (pu (bin Try.prog .gtr 3 y7 (.int .i64 64)) h) fun y8 h=>
 ad (some (y8,h)) fun y9 h=>
 ad (ah (aO y9==some true) (some (x0,h)) h) fun bH h=>
 ad (ah (aO y9==some true) (pu (bin Try.prog .leq 3 bH (.int .i64 4096)) h) h) fun bQ h=>
 ad (match y9 with | .bool t=>some (if t then bQ else (.bool false),h)|_=>none) fun y12 h=>
 ad (some (y12,h)) fun y13 h=>
 ad (ah (aO y13==some false) (some (x1,h)) h) fun y14 h=>
 ad (ah (aO y13==some false) (pu (cK y14) h) h) fun y15 h=>
 ad (ah (aO y13==some false) (pu (bin Try.prog .gtr 3 y15 (.int .i64 100)) h) h) fun y16 h=>
 ad (match y13 with | .bool t=>some (if t then (.bool true) else y16,h)|_=>none) fun y17 h=>
 (match y17 with
 | .bool true=>
 ad (some ((.bool true),h)) fun y4_1 h=>
 some (y4_1,h)
 | .bool false=>
 ad (some ((.int .i64 0),h)) fun y5 h=>
 dI (iter (aL Try.prog C (partOf Try.f17 [1,1,0,1,0,0])) rounds (aZ 60 (up (bs [x0,x1]) [(4,y4),(5,y5),(7,y7),(8,y8),(9,y9),(10,bH),(11,bQ),(12,y12),(13,y13),(14,y14),(15,y15),(16,y16),(17,y17)])) h) (al Try.prog Try.f17.results.toList) (b17_6 C)
 |_=>none)
noncomputable def t17k17_4 (C:ak) (x:Nat→Value) (h:af):Out:=
 ad (some ((.bool false),h)) fun y4 h=>
 some (y4,h)
noncomputable def t17l17_11010 (C:ak) (x:Nat→Value) (h:af):Option (Ex×Env×af):=
 ad (some ((x 5),h)) fun y18 h=>
 ad (some ((x 1),h)) fun y19 h=>
 ad (pu (cK y19) h) fun y20 h=>
 ad (pu (bin Try.prog .lss 3 y18 y20) h) fun y21 h=>
 (match y21 with
 | .bool true=>
 ad (some ((x 1),h)) fun y24 h=>
 ad (some ((x 5),h)) fun y25 h=>
 ad (pu (bV 6 y24 y25) h) fun y26 h=>
 ad (pu (aI y26 5) h) fun y27 h=>
 ad (aV y27 h) fun y28 h=>
 ad (pu (cK y28) h) fun y29 h=>
 ad (pu (bin Try.prog .gtr 3 y29 (.int .i64 40)) h) fun y30 h=>
 ad (some (y30,h)) fun y31 h=>
 ad (ah (aO y31==some false) (some ((x 1),h)) h) fun y32 h=>
 ad (ah (aO y31==some false) (some ((x 5),h)) h) fun y33 h=>
 ad (ah (aO y31==some false) (pu (bV 6 y32 y33) h) h) fun y34 h=>
 ad (ah (aO y31==some false) (pu (aI y34 4) h) h) fun y35 h=>
 ad (ah (aO y31==some false) (aV y35 h) h) fun y36 h=>
 ad (ah (aO y31==some false) (pu (cK y36) h) h) fun y37 h=>
 ad (ah (aO y31==some false) (pu (bin Try.prog .gtr 3 y37 (.int .i64 21000)) h) h) fun y38 h=>
 ad (match y31 with | .bool t=>some (if t then (.bool true) else y38,h)|_=>none) fun y39 h=>
 (match y39 with
 | .bool true=>
 ad (some ((.bool true),h)) fun y4 h=>
 some (.ret,(aZ 60 (up x [(4,y4),(18,y18),(19,y19),(20,y20),(21,y21),(24,y24),(25,y25),(26,y26),(27,y27),(28,y28),(29,y29),(30,y30),(31,y31),(32,y32),(33,y33),(34,y34),(35,y35),(36,y36),(37,y37),(38,y38),(39,y39)])),h)
 | .bool false=>
 ad (some ((.int .i64 0),h)) fun y6 h=>
 dI (iter (aL Try.prog C (partOf Try.f17 [1,1,0,1,0,0,1,0,0,1,1,0,0])) rounds (aZ 60 (up x [(6,y6),(18,y18),(19,y19),(20,y20),(21,y21),(24,y24),(25,y25),(26,y26),(27,y27),(28,y28),(29,y29),(30,y30),(31,y31),(32,y32),(33,y33),(34,y34),(35,y35),(36,y36),(37,y37),(38,y38),(39,y39)])) h) (fun e h=>some (Ex.ret,e,h)) (b17_16 C)
 |_=>none)
 | .bool false=>
 some (.exit 0,(aZ 60 (up x [(18,y18),(19,y19),(20,y20),(21,y21)])),h)
 |_=>none)
noncomputable def t17k17_10 (C:ak) (x:Nat→Value) (h:af):Option (Ex×Env×af):=
 ad (some ((x 5),h)) fun y22 h=>
 ad (pu (bin Try.prog .add 3 y22 (.int .i64 1)) h) fun y23 h=>
 ad (some (y23,h)) fun y5 h=>
 some (.normal,(aZ 60 (up x [(5,y5),(22,y22),(23,y23)])),h)
noncomputable def gK (C:ak) (x:Nat→Value) (h:af):Option (Ex×Env×af):=
 ad (some ((x 6),h)) fun y40 h=>
 ad (some ((x 1),h)) fun y41 h=>
 ad (some ((x 5),h)) fun y42 h=>
 ad (pu (bV 6 y41 y42) h) fun y43 h=>
 ad (pu (aI y43 5) h) fun y44 h=>
 ad (aV y44 h) fun y45 h=>
 ad (pu (cK y45) h) fun y46 h=>
 ad (pu (bin Try.prog .lss 3 y40 y46) h) fun y47 h=>
 (match y47 with
 | .bool true=>
 ad (some ((x 1),h)) fun y50 h=>
 ad (some ((x 5),h)) fun y51 h=>
 ad (pu (bV 6 y50 y51) h) fun y52 h=>
 ad (pu (aI y52 5) h) fun y53 h=>
 ad (aV y53 h) fun y54 h=>
 ad (some ((x 6),h)) fun y55 h=>
 ad (pu (bV 1 y54 y55) h) fun y56 h=>
 ad (aV y56 h) fun y57 h=>
 ad (pu (cK y57) h) fun y58 h=>
 ad (pu (bin Try.prog .gtr 3 y58 (.int .i64 21000)) h) fun y59 h=>
 (match y59 with
 | .bool true=>
 ad (some ((.bool true),h)) fun y4 h=>
 some (.ret,(aZ 60 (up x [(4,y4),(40,y40),(41,y41),(42,y42),(43,y43),(44,y44),(45,y45),(46,y46),(47,y47),(50,y50),(51,y51),(52,y52),(53,y53),(54,y54),(55,y55),(56,y56),(57,y57),(58,y58),(59,y59)])),h)
 | .bool false=>
 ad (some ((x 6),h)) fun y48 h=>
 ad (pu (bin Try.prog .add 3 y48 (.int .i64 1)) h) fun y49 h=>
 ad (some (y49,h)) fun y6 h=>
 some (.normal,(aZ 60 (up x [(6,y6),(40,y40),(41,y41),(42,y42),(43,y43),(44,y44),(45,y45),(46,y46),(47,y47),(48,y48),(49,y49),(50,y50),(51,y51),(52,y52),(53,y53),(54,y54),(55,y55),(56,y56),(57,y57),(58,y58),(59,y59)])),h)
 |_=>none)
 | .bool false=>
 some (.exit 2,(aZ 60 (up x [(40,y40),(41,y41),(42,y42),(43,y43),(44,y44),(45,y45),(46,y46),(47,y47)])),h)
 |_=>none)
theorem t17_eq (C:ak) (x0 x1:Value) (h:af):bk Try.prog C Try.f17 [x0,x1] h=t17 C x0 x1 h:=
 (aN Try.prog C Try.f17 [x0,x1] h (by kernel_rfl)).trans (by kernel_rfl)
theorem t17k17_4_eq (C:ak) (x:Nat→Value) (h:af):k17_4 C (aZ 60 x) h=t17k17_4 C x h:=
 bo (b:=(partOf Try.f17 [1,1,1])) (kE:=(al Try.prog Try.f17.results.toList)) (rE:=(al Try.prog Try.f17.results.toList)) (xE:=(fun _ _ _=>none)) (T:=t17k17_4 C) (fun x h=>by kernel_rfl) x h
theorem t17l17_11010_eq (C:ak) (x:Nat→Value) (h:af):aL Try.prog C (partOf Try.f17 [1,1,0,1,0,0]) (aZ 60 x) h=t17l17_11010 C x h:=
 bg (T:=t17l17_11010 C) (fun x h=>by kernel_rfl) x h
theorem t17k17_10_eq (C:ak) (x:Nat→Value) (h:af):k17_10 C (aZ 60 x) h=t17k17_10 C x h:=
 bo (b:=(partOf Try.f17 [1,1,0,1,0,0,1,1])) (kE:=(fun e h=>some (Ex.normal,e,h))) (rE:=(fun e h=>some (Ex.ret,e,h))) (xE:=(fun i e h=>some (Ex.exit i,e,h))) (T:=t17k17_10 C) (fun x h=>by kernel_rfl) x h
theorem t17l17_110100100110_eq (C:ak) (x:Nat→Value) (h:af):aL Try.prog C (partOf Try.f17 [1,1,0,1,0,0,1,0,0,1,1,0,0]) (aZ 60 x) h=gK C x h:=
 bg (T:=gK C) (fun x h=>by kernel_rfl) x h
noncomputable def k24_2 (C:ak) (e:Env) (h:af):Out:=cF Try.prog C (partOf Try.f24 [1,1,1]) e h (al Try.prog Try.f24.results.toList) (al Try.prog Try.f24.results.toList) (fun _ _ _=>none)
noncomputable def b24_4 (C:ak) (i:Nat) (e:Env) (h:af):Out:=if i=0 then (k24_2 C) e h else (fun _ _ _=>none) i e h
noncomputable def t24 (C:ak) (x0:Value) (h:af):Out:=
 ad (some ((.slice none 0 0),h)) fun y2 h=>
 ad (dY 1 (.slice none 0 0) 0 [] h) fun y5 h=>
 ad (some (y5,h)) fun y3 h=>
 ad (some ((.int .i64 0),h)) fun y4 h=>
 dI (iter (aL Try.prog C (partOf Try.f24 [1,1,0,1,0,0])) rounds (aZ 22 (up (bs [x0]) [(2,y2),(3,y3),(4,y4),(5,y5)])) h) (al Try.prog Try.f24.results.toList) (b24_4 C)
noncomputable def t24k24_2 (C:ak) (x:Nat→Value) (h:af):Out:=
 ad (some ((x 3),h)) fun y21 h=>
 ad (some (y21,h)) fun y2 h=>
 some (y2,h)
noncomputable def t24l24_11010 (C:ak) (x:Nat→Value) (h:af):Option (Ex×Env×af):=
 ad (some ((x 4),h)) fun y6 h=>
 ad (some ((x 0),h)) fun y7 h=>
 ad (pu (cK y7) h) fun y8 h=>
 ad (pu (bin Try.prog .lss 3 y6 y8) h) fun y9 h=>
 (match y9 with
 | .bool true=>
 ad (some ((x 3),h)) fun y12 h=>
 ad (dY 1 (.int .u8 0) 0 [] h) fun y13 h=>
 ad (some ((x 0),h)) fun y14 h=>
 ad (some ((x 4),h)) fun y15 h=>
 ad (pu (bV 1 y14 y15) h) fun y16 h=>
 ad (aV y16 h) fun y17 h=>
 ad (bt 1 1 y13 y17 h) fun y18 h=>
 ad (dY 1 (.slice none 0 0) 1 [(0,y18)] h) fun y19 h=>
 ad (bt 1 24 y12 y19 h) fun y20 h=>
 ad (some (y20,h)) fun y3 h=>
 ad (some ((x 4),h)) fun bH h=>
 ad (pu (bin Try.prog .add 3 bH (.int .i64 1)) h) fun bQ h=>
 ad (some (bQ,h)) fun y4 h=>
 some (.normal,(aZ 22 (up x [(3,y3),(4,y4),(6,y6),(7,y7),(8,y8),(9,y9),(10,bH),(11,bQ),(12,y12),(13,y13),(14,y14),(15,y15),(16,y16),(17,y17),(18,y18),(19,y19),(20,y20)])),h)
 | .bool false=>
 some (.exit 0,(aZ 22 (up x [(6,y6),(7,y7),(8,y8),(9,y9)])),h)
 |_=>none)
theorem t24_eq (C:ak) (x0:Value) (h:af):bk Try.prog C Try.f24 [x0] h=t24 C x0 h:=
 (aN Try.prog C Try.f24 [x0] h (by kernel_rfl)).trans (by kernel_rfl)
theorem t24k24_2_eq (C:ak) (x:Nat→Value) (h:af):k24_2 C (aZ 22 x) h=t24k24_2 C x h:=
 bo (b:=(partOf Try.f24 [1,1,1])) (kE:=(al Try.prog Try.f24.results.toList)) (rE:=(al Try.prog Try.f24.results.toList)) (xE:=(fun _ _ _=>none)) (T:=t24k24_2 C) (fun x h=>by kernel_rfl) x h
theorem t24l24_11010_eq (C:ak) (x:Nat→Value) (h:af):aL Try.prog C (partOf Try.f24 [1,1,0,1,0,0]) (aZ 22 x) h=t24l24_11010 C x h:=
 bg (T:=t24l24_11010 C) (fun x h=>by kernel_rfl) x h
end Go.Proofs.Ytcmfgmhadeeieaa

namespace Go.Proofs.Ytcmfgmhadeeieaa
open Go Go.Abs
noncomputable def k4_9 (C:ak) (e:Env) (h:af):Out:=cF Try.prog C (partOf Try.f4 [1,1,1,1,1,1]) e h (al Try.prog Try.f4.results.toList) (al Try.prog Try.f4.results.toList) (fun _ _ _=>none)
noncomputable def b4_11 (C:ak) (i:Nat) (e:Env) (h:af):Out:=if i=0 then (k4_9 C) e h else (fun _ _ _=>none) i e h
noncomputable def k4_12 (C:ak) (e:Env) (h:af):Out:=cF Try.prog C (partOf Try.f4 [1,1,1,1,1,1,1]) e h (al Try.prog Try.f4.results.toList) (al Try.prog Try.f4.results.toList) (fun _ _ _=>none)
noncomputable def b4_14 (C:ak) (i:Nat) (e:Env) (h:af):Out:=if i=2 then (k4_12 C) e h else (fun _ _ _=>none) i e h
noncomputable def k4_22 (C:ak) (e:Env) (h:af):Option (Ex×Env×af):=cF Try.prog C (partOf Try.f4 [1,1,1,1,1,1,0,1,0,0,1,1]) e h (fun e h=>some (Ex.normal,e,h)) (fun e h=>some (Ex.ret,e,h)) (fun i e h=>some (Ex.exit i,e,h))
noncomputable def b4_23 (C:ak) (i:Nat) (e:Env) (h:af):Option (Ex×Env×af):=if i=3 then (k4_22 C) e h else (fun i e h=>some (Ex.exit i,e,h)) i e h
noncomputable def k4_27 (C:ak) (e:Env) (h:af):Option (Ex×Env×af):=cF Try.prog C (partOf Try.f4 [1,1,1,1,1,1,0,1,0,0,1,0,0,1,1,1,1]) e h (k4_22 C) (fun e h=>some (Ex.ret,e,h)) (b4_23 C)
noncomputable def b4_29 (C:ak) (i:Nat) (e:Env) (h:af):Option (Ex×Env×af):=if i=4 then (k4_27 C) e h else (b4_23 C) i e h
noncomputable def b4_38 (C:ak) (i:Nat) (e:Env) (h:af):Option (Ex×Env×af):=if i=6 then (k4_22 C) e h else (b4_23 C) i e h
noncomputable def t4 (C:ak) (x0 x1:Value) (h:af):Out:=
 ad (some ((.bool false),h)) fun y4 h=>
 ad (some (x0,h)) fun y18 h=>
 ad (some (x1,h)) fun y19 h=>
 ad (C 17 [y18,y19] h) fun y20 h=>
 ad (some (y20,h)) fun y21 h=>
 ad (ah (aO y21==some false) (some (x0,h)) h) fun y22 h=>
 ad (ah (aO y21==some false) (pu (bin Try.prog .lss 3 y22 (.int .i64 4)) h) h) fun y23 h=>
 ad (match y21 with | .bool t=>some (if t then (.bool true) else y23,h)|_=>none) fun y24 h=>
 ad (some (y24,h)) fun y25 h=>
 ad (ah (aO y25==some false) (some (x0,h)) h) fun y26 h=>
 ad (ah (aO y25==some false) (pu (bin Try.prog .gtr 3 y26 (.int .i64 4096)) h) h) fun y27 h=>
 ad (match y25 with | .bool t=>some (if t then (.bool true) else y27,h)|_=>none) fun y28 h=>
 (match y28 with
 | .bool true=>
 ad (C 14 [] h) fun y29 h=>
 ad (some (y29,h)) fun y4_1 h=>
 some (y4_1,h)
 | .bool false=>
 ad (some (x0,h)) fun y31 h=>
 ad (C 18 [y31] h) fun y32 h=>
 ad (some (y32,h)) fun y30 h=>
 ad (pu (aA y30 0) h) fun y33 h=>
 ad (pu (aA y30 1) h) fun y34 h=>
 ad (some (y33,h)) fun y5 h=>
 ad (some (y34,h)) fun y6 h=>
 ad (some (y6,h)) fun y35 h=>
 ad (pu (bin Try.prog .neq 28 y35 (.int .i64 0)) h) fun y36 h=>
 (match y36 with
 | .bool true=>
 ad (some ((.bool false),h)) fun y4_1 h=>
 some (y4_1,h)
 | .bool false=>
 ad (dY 1 (.slice none 0 0) 0 [] h) fun y37 h=>
 ad (some (y37,h)) fun y7 h=>
 ad (some ((.int .i64 0),h)) fun y8 h=>
 dI (iter (aL Try.prog C (partOf Try.f4 [1,1,1,1,1,0,1,0,0])) rounds (aZ 135 (up (bs [x0,x1]) [(4,y4),(5,y5),(6,y6),(7,y7),(8,y8),(18,y18),(19,y19),(20,y20),(21,y21),(22,y22),(23,y23),(24,y24),(25,y25),(26,y26),(27,y27),(28,y28),(30,y30),(31,y31),(32,y32),(33,y33),(34,y34),(35,y35),(36,y36),(37,y37)])) h) (al Try.prog Try.f4.results.toList) (b4_11 C)
 |_=>none)
 |_=>none)
noncomputable def t4k4_9 (C:ak) (x:Nat→Value) (h:af):Out:=
 ad (some ((.int .i64 0),h)) fun y9 h=>
 dI (iter (aL Try.prog C (partOf Try.f4 [1,1,1,1,1,1,0,1,0,0])) rounds (aZ 135 (up x [(9,y9)])) h) (al Try.prog Try.f4.results.toList) (b4_14 C)
noncomputable def t4l4_11111010 (C:ak) (x:Nat→Value) (h:af):Option (Ex×Env×af):=
 ad (some ((x 8),h)) fun y38 h=>
 ad (some ((x 0),h)) fun y39 h=>
 ad (pu (bin Try.prog .lss 3 y38 y39) h) fun y40 h=>
 (match y40 with
 | .bool true=>
 ad (some ((x 7),h)) fun y43 h=>
 ad (mkR 1 1 (.int .u8 0) (.int .i64 128) (.int .i64 128) h) fun y44 h=>
 ad (dY 1 (.slice none 0 0) 1 [(0,y44)] h) fun y45 h=>
 ad (bt 1 24 y43 y45 h) fun y46 h=>
 ad (some (y46,h)) fun y7 h=>
 ad (some ((x 8),h)) fun y41 h=>
 ad (pu (bin Try.prog .add 3 y41 (.int .i64 1)) h) fun y42 h=>
 ad (some (y42,h)) fun y8 h=>
 some (.normal,(aZ 135 (up x [(7,y7),(8,y8),(38,y38),(39,y39),(40,y40),(41,y41),(42,y42),(43,y43),(44,y44),(45,y45),(46,y46)])),h)
 | .bool false=>
 some (.exit 0,(aZ 135 (up x [(38,y38),(39,y39),(40,y40)])),h)
 |_=>none)
noncomputable def t4k4_12 (C:ak) (x:Nat→Value) (h:af):Out:=
 ad (C 14 [] h) fun y134 h=>
 ad (some (y134,h)) fun y4 h=>
 some (y4,h)
noncomputable def fY (C:ak) (x:Nat→Value) (h:af):Option (Ex×Env×af):=
 ad (some ((x 9),h)) fun y47 h=>
 ad (some ((x 1),h)) fun y48 h=>
 ad (pu (cK y48) h) fun y49 h=>
 ad (pu (bin Try.prog .lss 3 y47 y49) h) fun y50 h=>
 (match y50 with
 | .bool true=>
 ad (some ((x 1),h)) fun y53 h=>
 ad (some ((x 9),h)) fun y54 h=>
 ad (pu (bV 6 y53 y54) h) fun y55 h=>
 ad (bD 6 y55 h) fun y56 h=>
 ad (dp [(.int .i64 0),(.int .i64 0),(.int .i64 0),(.int .u8 0),(.slice none 0 0),(.slice none 0 0)] h) fun bH h=>
 ad (bK 6 bH y56 h) fun _ h=>
 ad (dY 1 (.int .u8 0) 0 [] h) fun y57 h=>
 ad (pu (aI bH 4) h) fun y58 h=>
 ad (aV y58 h) fun y59 h=>
 ad (bt 1 1 y57 y59 h) fun y60 h=>
 ad (some (y60,h)) fun bQ h=>
 ad (some ((x 5),h)) fun y61 h=>
 ad (pu (aI bH 1) h) fun y62 h=>
 ad (aV y62 h) fun y63 h=>
 ad (some (bQ,h)) fun y64 h=>
 ad (C 19 [y61,y63,y64] h) fun y65 h=>
 ad (some (y65,h)) fun y12 h=>
 ad (some ((.int .i64 0),h)) fun y13 h=>
 dI (iter (aL Try.prog C (partOf Try.f4 [1,1,1,1,1,1,0,1,0,0,1,0,0,1,1,1,0,1,0,0])) rounds (aZ 135 (up x [(10,bH),(11,bQ),(12,y12),(13,y13),(47,y47),(48,y48),(49,y49),(50,y50),(53,y53),(54,y54),(55,y55),(56,y56),(57,y57),(58,y58),(59,y59),(60,y60),(61,y61),(62,y62),(63,y63),(64,y64),(65,y65)])) h) (fun e h=>some (Ex.ret,e,h)) (b4_29 C)
 | .bool false=>
 some (.exit 2,(aZ 135 (up x [(47,y47),(48,y48),(49,y49),(50,y50)])),h)
 |_=>none)
noncomputable def t4k4_22 (C:ak) (x:Nat→Value) (h:af):Option (Ex×Env×af):=
 ad (some ((x 9),h)) fun y51 h=>
 ad (pu (bin Try.prog .add 3 y51 (.int .i64 1)) h) fun y52 h=>
 ad (some (y52,h)) fun y9 h=>
 some (.normal,(aZ 135 (up x [(9,y9),(51,y51),(52,y52)])),h)
noncomputable def t4k4_27 (C:ak) (x:Nat→Value) (h:af):Option (Ex×Env×af):=
 ad (pu (aI (x 10) 1) h) fun y78 h=>
 ad (aV y78 h) fun y79 h=>
 ad (pu (bin Try.prog .geq 3 y79 (.int .i64 0)) h) fun y80 h=>
 ad (some (y80,h)) fun y81 h=>
 ad (ah (aO y81==some true) (pu (aI (x 10) 1) h) h) fun y82 h=>
 ad (ah (aO y81==some true) (aV y82 h) h) fun y83 h=>
 ad (ah (aO y81==some true) (some ((x 0),h)) h) fun y84 h=>
 ad (ah (aO y81==some true) (pu (bin Try.prog .lss 3 y83 y84) h) h) fun y85 h=>
 ad (match y81 with | .bool t=>some (if t then y85 else (.bool false),h)|_=>none) fun y86 h=>
 ad (some (y86,h)) fun y87 h=>
 ad (ah (aO y87==some true) (pu (aI (x 10) 4) h) h) fun y88 h=>
 ad (ah (aO y87==some true) (aV y88 h) h) fun y89 h=>
 ad (ah (aO y87==some true) (pu (cK y89) h) h) fun y90 h=>
 ad (ah (aO y87==some true) (pu (bin Try.prog .eql 3 y90 (.int .i64 128)) h) h) fun y91 h=>
 ad (match y87 with | .bool t=>some (if t then y91 else (.bool false),h)|_=>none) fun y92 h=>
 ad (some (y92,h)) fun y14 h=>
 ad (some ((x 12),h)) fun y93 h=>
 ad (pu (bin Try.prog .eql 28 y93 (.int .i64 0)) h) fun y94 h=>
 ad (some (y14,h)) fun y95 h=>
 ad (pu (bin Try.prog .neq 4 y94 y95) h) fun y96 h=>
 (match y96 with
 | .bool true=>
 ad (some ((.bool false),h)) fun y4 h=>
 some (.ret,(aZ 135 (up x [(4,y4),(14,y14),(78,y78),(79,y79),(80,y80),(81,y81),(82,y82),(83,y83),(84,y84),(85,y85),(86,y86),(87,y87),(88,y88),(89,y89),(90,y90),(91,y91),(92,y92),(93,y93),(94,y94),(95,y95),(96,y96)])),h)
 | .bool false=>
 ad (some (y14,h)) fun y97 h=>
 (match y97 with
 | .bool true=>
 let g36_0:=h
 ad (some ((x 7),g36_0)) fun y98 g36_1=>
 ad (pu (aI (x 10) 1) g36_1) fun y99 g36_2=>
 ad (aV y99 g36_2) fun y100 g36_3=>
 ad (pu (aI (x 10) 4) g36_3) fun y102 g36_4=>
 ad (aV y102 g36_4) fun y103 g36_5=>
 ad (dY 1 (.int .u8 0) 0 [] g36_5) fun y101 g36_6=>
 ad (bt 1 1 y101 y103 g36_6) fun y104 g36_7=>
 ad (pu (bV 1 y98 y100) g36_7) fun y105 g36_8=>
 ad (bK 1 y105 y104 g36_8) fun _ g36_9=>
 (match (bU true (aV y99 g36_7) y100&&true) with
 |true=>
 let h:=g36_9
 ad (some ((.int .i64 0),h)) fun y15 h=>
 dI (iter (aL Try.prog C (partOf Try.f4 [1,1,1,1,1,1,0,1,0,0,1,0,0,1,1,1,1,1,1,1,1,0,0])) rounds (aZ 135 (up x [(14,y14),(15,y15),(78,y78),(79,y79),(80,y80),(81,y81),(82,y82),(83,y83),(84,y84),(85,y85),(86,y86),(87,y87),(88,y88),(89,y89),(90,y90),(91,y91),(92,y92),(93,y93),(94,y94),(95,y95),(96,y96),(97,y97),(98,y98),(99,y99),(100,y100),(101,y101),(102,y102),(103,y103),(104,y104),(105,y105)])) h) (fun e h=>some (Ex.ret,e,h)) (b4_38 C)
 |false=>none)
 | .bool false=>
 ad (some ((.int .i64 0),h)) fun y15 h=>
 dI (iter (aL Try.prog C (partOf Try.f4 [1,1,1,1,1,1,0,1,0,0,1,0,0,1,1,1,1,1,1,1,1,0,0])) rounds (aZ 135 (up x [(14,y14),(15,y15),(78,y78),(79,y79),(80,y80),(81,y81),(82,y82),(83,y83),(84,y84),(85,y85),(86,y86),(87,y87),(88,y88),(89,y89),(90,y90),(91,y91),(92,y92),(93,y93),(94,y94),(95,y95),(96,y96),(97,y97)])) h) (fun e h=>some (Ex.ret,e,h)) (b4_38 C)
 |_=>none)
 |_=>none)
noncomputable def eY (C:ak) (x:Nat→Value) (h:af):Option (Ex×Env×af):=
 ad (some ((x 13),h)) fun y66 h=>
 ad (some ((x 11),h)) fun y67 h=>
 ad (pu (cK y67) h) fun y68 h=>
 ad (pu (bin Try.prog .lss 3 y66 y68) h) fun y69 h=>
 (match y69 with
 | .bool true=>
 ad (some ((x 11),h)) fun y72 h=>
 ad (some ((x 13),h)) fun y73 h=>
 ad (pu (bV 1 y72 y73) h) fun y74 h=>
 ad (aV y74 h) fun y75 h=>
 ad (pu (bin Try.prog .xor 5 y75 (.int .u8 255)) h) fun y76 h=>
 ad (pu (bV 1 y72 y73) h) fun y77 h=>
 ad (bK 1 y77 y76 h) fun _ h=>
 ad (some ((x 13),h)) fun y70 h=>
 ad (pu (bin Try.prog .add 3 y70 (.int .i64 1)) h) fun y71 h=>
 ad (some (y71,h)) fun y13 h=>
 some (.normal,(aZ 135 (up x [(13,y13),(66,y66),(67,y67),(68,y68),(69,y69),(70,y70),(71,y71),(72,y72),(73,y73),(74,y74),(75,y75),(76,y76),(77,y77)])),h)
 | .bool false=>
 some (.exit 4,(aZ 135 (up x [(66,y66),(67,y67),(68,y68),(69,y69)])),h)
 |_=>none)
noncomputable def ep (C:ak) (x:Nat→Value) (h:af):Option (Ex×Env×af):=
 ad (some ((x 15),h)) fun y106 h=>
 ad (some ((x 0),h)) fun y107 h=>
 ad (pu (bin Try.prog .lss 3 y106 y107) h) fun y108 h=>
 (match y108 with
 | .bool true=>
 ad (some ((x 5),h)) fun y112 h=>
 ad (some ((x 15),h)) fun y113 h=>
 ad (C 20 [y112,y113] h) fun y114 h=>
 ad (some (y114,h)) fun y111 h=>
 ad (pu (aA y111 0) h) fun y115 h=>
 ad (pu (aA y111 1) h) fun y116 h=>
 ad (some (y115,h)) fun y16 h=>
 ad (some (y116,h)) fun y17 h=>
 ad (some (y17,h)) fun y117 h=>
 ad (pu (bin Try.prog .neq 28 y117 (.int .i64 0)) h) fun y118 h=>
 ad (some (y118,h)) fun y119 h=>
 ad (ah (aO y119==some false) (some (y16,h)) h) fun y120 h=>
 ad (ah (aO y119==some false) (fB y120 h) h) fun y121 h=>
 ad (ah (aO y119==some false) (some ((x 7),h)) h) fun y122 h=>
 ad (ah (aO y119==some false) (some ((x 15),h)) h) fun y123 h=>
 ad (ah (aO y119==some false) (pu (bV 1 y122 y123) h) h) fun y124 h=>
 ad (ah (aO y119==some false) (aV y124 h) h) fun y125 h=>
 ad (ah (aO y119==some false) (fB y125 h) h) fun y126 h=>
 ad (ah (aO y119==some false) (pu (bin Try.prog .neq 9 y121 y126) h) h) fun y127 h=>
 ad (match y119 with | .bool t=>some (if t then (.bool true) else y127,h)|_=>none) fun y128 h=>
 (match y128 with
 | .bool true=>
 ad (some ((.bool false),h)) fun y4 h=>
 some (.ret,(aZ 135 (up x [(4,y4),(16,y16),(17,y17),(106,y106),(107,y107),(108,y108),(111,y111),(112,y112),(113,y113),(114,y114),(115,y115),(116,y116),(117,y117),(118,y118),(119,y119),(120,y120),(121,y121),(122,y122),(123,y123),(124,y124),(125,y125),(126,y126),(127,y127),(128,y128)])),h)
 | .bool false=>
 ad (some (y16,h)) fun y129 h=>
 ad (pu (bV 1 y129 (.int .i64 0)) h) fun y130 h=>
 ad (aV y130 h) fun y131 h=>
 ad (pu (bin Try.prog .xor 5 y131 (.int .u8 255)) h) fun y132 h=>
 ad (pu (bV 1 y129 (.int .i64 0)) h) fun y133 h=>
 ad (bK 1 y133 y132 h) fun _ h=>
 ad (some ((x 15),h)) fun y109 h=>
 ad (pu (bin Try.prog .add 3 y109 (.int .i64 1)) h) fun y110 h=>
 ad (some (y110,h)) fun y15 h=>
 some (.normal,(aZ 135 (up x [(15,y15),(16,y16),(17,y17),(106,y106),(107,y107),(108,y108),(109,y109),(110,y110),(111,y111),(112,y112),(113,y113),(114,y114),(115,y115),(116,y116),(117,y117),(118,y118),(119,y119),(120,y120),(121,y121),(122,y122),(123,y123),(124,y124),(125,y125),(126,y126),(127,y127),(128,y128),(129,y129),(130,y130),(131,y131),(132,y132),(133,y133)])),h)
 |_=>none)
 | .bool false=>
 some (.exit 6,(aZ 135 (up x [(106,y106),(107,y107),(108,y108)])),h)
 |_=>none)
theorem t4_eq (C:ak) (x0 x1:Value) (h:af):bk Try.prog C Try.f4 [x0,x1] h=t4 C x0 x1 h:=
 (aN Try.prog C Try.f4 [x0,x1] h (by kernel_rfl)).trans (by kernel_rfl)
theorem t4k4_9_eq (C:ak) (x:Nat→Value) (h:af):k4_9 C (aZ 135 x) h=t4k4_9 C x h:=
 bo (b:=(partOf Try.f4 [1,1,1,1,1,1])) (kE:=(al Try.prog Try.f4.results.toList)) (rE:=(al Try.prog Try.f4.results.toList)) (xE:=(fun _ _ _=>none)) (T:=t4k4_9 C) (fun x h=>by kernel_rfl) x h
theorem t4l4_11111010_eq (C:ak) (x:Nat→Value) (h:af):aL Try.prog C (partOf Try.f4 [1,1,1,1,1,0,1,0,0]) (aZ 135 x) h=t4l4_11111010 C x h:=
 bg (T:=t4l4_11111010 C) (fun x h=>by kernel_rfl) x h
theorem t4k4_12_eq (C:ak) (x:Nat→Value) (h:af):k4_12 C (aZ 135 x) h=t4k4_12 C x h:=
 bo (b:=(partOf Try.f4 [1,1,1,1,1,1,1])) (kE:=(al Try.prog Try.f4.results.toList)) (rE:=(al Try.prog Try.f4.results.toList)) (xE:=(fun _ _ _=>none)) (T:=t4k4_12 C) (fun x h=>by kernel_rfl) x h
theorem t4l4_111111010_eq (C:ak) (x:Nat→Value) (h:af):aL Try.prog C (partOf Try.f4 [1,1,1,1,1,1,0,1,0,0]) (aZ 135 x) h=fY C x h:=
 bg (T:=fY C) (fun x h=>by kernel_rfl) x h
theorem t4k4_22_eq (C:ak) (x:Nat→Value) (h:af):k4_22 C (aZ 135 x) h=t4k4_22 C x h:=
 bo (b:=(partOf Try.f4 [1,1,1,1,1,1,0,1,0,0,1,1])) (kE:=(fun e h=>some (Ex.normal,e,h))) (rE:=(fun e h=>some (Ex.ret,e,h))) (xE:=(fun i e h=>some (Ex.exit i,e,h))) (T:=t4k4_22 C) (fun x h=>by kernel_rfl) x h
theorem t4k4_27_eq (C:ak) (x:Nat→Value) (h:af):k4_27 C (aZ 135 x) h=t4k4_27 C x h:=
 bo (b:=(partOf Try.f4 [1,1,1,1,1,1,0,1,0,0,1,0,0,1,1,1,1])) (kE:=(k4_22 C)) (rE:=(fun e h=>some (Ex.ret,e,h))) (xE:=(b4_23 C)) (T:=t4k4_27 C) (fun x h=>by kernel_rfl) x h
theorem t4l4_1111110100100111010_eq (C:ak) (x:Nat→Value) (h:af):aL Try.prog C (partOf Try.f4 [1,1,1,1,1,1,0,1,0,0,1,0,0,1,1,1,0,1,0,0]) (aZ 135 x) h=eY C x h:=
 bg (T:=eY C) (fun x h=>by kernel_rfl) x h
theorem t4l4_1111110100100111111110_eq (C:ak) (x:Nat→Value) (h:af):aL Try.prog C (partOf Try.f4 [1,1,1,1,1,1,0,1,0,0,1,0,0,1,1,1,1,1,1,1,1,0,0]) (aZ 135 x) h=ep C x h:=
 bg (T:=ep C) (fun x h=>by kernel_rfl) x h
end Go.Proofs.Ytcmfgmhadeeieaa

namespace Go.Proofs.Ytcmfgmhadeeieaa
open Go Go.Abs
noncomputable def t34 (C:ak) (x0:Value) (h:af):Out:=
 ad (some ((.int .u64 0),h)) fun y2 h=>
 ad (some (x0,h)) fun y3 h=>
 ad (C 58 [y3] h) fun y4 h=>
 ad (pu (bin Try.prog .neq 28 y4 (.int .i64 0)) h) fun y5 h=>
 (match y5 with
 | .bool true=>
 ad (some ((.int .u64 0),h)) fun y2_1 h=>
 some (y2_1,h)
 | .bool false=>
 ad (some (x0,h)) fun y6 h=>
 ad (pu (aC y6) h) fun y7 h=>
 ad (pu (aI y7 4) h) fun y8 h=>
 ad (aV y8 h) fun y9 h=>
 ad (some (y9,h)) fun y2_1 h=>
 some (y2_1,h)
 |_=>none)
theorem t34_eq (C:ak) (x0:Value) (h:af):bk Try.prog C Try.f34 [x0] h=t34 C x0 h:=
 (aN Try.prog C Try.f34 [x0] h (by kernel_rfl)).trans (by kernel_rfl)
noncomputable def t74 (C:ak) (x0:Value) (h:af):Out:=
 ad (some ((.int .i64 0),h)) fun y2 h=>
 ad (some (x0,h)) fun y3 h=>
 ad (C 58 [y3] h) fun y4 h=>
 ad (pu (bin Try.prog .neq 28 y4 (.int .i64 0)) h) fun y5 h=>
 ad (some (y5,h)) fun y6 h=>
 ad (ah (aO y6==some false) (some (x0,h)) h) fun y7 h=>
 ad (ah (aO y6==some false) (pu (aC y7) h) h) fun y8 h=>
 ad (ah (aO y6==some false) (pu (aI y8 2) h) h) fun y9 h=>
 ad (ah (aO y6==some false) (aV y9 h) h) fun bH h=>
 ad (ah (aO y6==some false) (pu (bin Try.prog .lss 3 bH (.int .i64 0)) h) h) fun bQ h=>
 ad (match y6 with | .bool t=>some (if t then (.bool true) else bQ,h)|_=>none) fun y12 h=>
 (match y12 with
 | .bool true=>
 ad (some ((.int .i64 0),h)) fun y2_1 h=>
 some (y2_1,h)
 | .bool false=>
 let g5_0:=h
 ad (some (x0,g5_0)) fun y13 g5_1=>
 ad (pu (aC y13) g5_1) fun y14 g5_2=>
 ad (pu (aI y14 3) g5_2) fun y15 g5_3=>
 ad (aV y15 g5_3) fun y16 g5_4=>
 ad (some (x0,g5_4)) fun y17 g5_5=>
 ad (pu (aC y17) g5_5) fun y18 g5_6=>
 ad (pu (aI y18 0) g5_6) fun y19 g5_7=>
 ad (aV y19 g5_7) fun y20 g5_8=>
 ad (C 55 [y20] g5_8) fun y21 g5_9=>
 ad (pu (bin Try.prog .mul 3 y16 y21) g5_9) fun y22 g5_10=>
 ad (pu (bin Try.prog .add 3 (.int .i64 2) y22) g5_10) fun y23 g5_11=>
 ad (some (y23,g5_11)) fun y2_1 g5_12=>
 (match (bU true (aV y15 g5_9) y16&&true) with
 |true=>
 let h:=g5_12
 some (y2_1,h)
 |false=>none)
 |_=>none)
theorem t74_eq (C:ak) (x0:Value) (h:af):bk Try.prog C Try.f74 [x0] h=t74 C x0 h:=
 (aN Try.prog C Try.f74 [x0] h (by kernel_rfl)).trans (by kernel_rfl)
end Go.Proofs.Ytcmfgmhadeeieaa

