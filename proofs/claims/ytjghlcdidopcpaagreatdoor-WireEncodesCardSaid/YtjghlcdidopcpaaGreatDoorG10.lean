/-
  A part of the proof, spaces and names shortened by a program (a claim may hold 1,500,000 bytes).
  Conditions: as each theorem states.
-/
import Derived.Test.YtjghlcdidopcpaaGreatDoorG9
namespace Go.Proofs.YtjghlcdidopcpaaGreatDoor
open Go Go.Abs
section
def bx (c:Nat):Nat:=(c/2) ^^^ (0x82f63b78*(c%2))
def fN (i:Nat):Nat:=bx (bx (bx (bx i)))
def eQ (tab:Nat→Nat) (r:Nat):Nat:=tab (r%16) ^^^ (r/16)
def er (r x:Nat):Nat:=eQ fN (eQ fN (r ^^^ x))
def crcN (l:List Nat):Nat:=4294967295 ^^^ l.foldl er 4294967295
theorem crcBit_lt {c:Nat} (h:c<4294967296):bx c<4294967296:=by
 unfold bx
 have h1:c/2<2^32:=by omega
 have h2:0x82f63b78*(c%2)<2^32:=by omega
 exact Nat.xor_lt_two_pow h1 h2
theorem crcTab_lt {c:Nat} (h:c<4294967296):fN c<4294967296:=crcBit_lt (crcBit_lt (crcBit_lt (crcBit_lt h)))
theorem crcHalf_lt {tab:Nat→Nat} (ht : ∀ q,q<16→tab q<4294967296) {r:Nat} (h:r<4294967296):eQ tab r<4294967296:=
 Nat.xor_lt_two_pow (n:=32) (ht _ (by omega)) (by omega)
theorem crcMix_lt {r:Nat} (h:r<4294967296):eQ fN r<4294967296:=crcHalf_lt (fun q hq=>crcTab_lt (by omega)) h
theorem crcStep_lt {r x:Nat} (h:r<4294967296) (hx:x<256):er r x<4294967296:=
 crcMix_lt (crcMix_lt (Nat.xor_lt_two_pow (n:=32) h (by omega)))
theorem crcFold_lt : ∀ (l:List Nat) (r:Nat),r<4294967296→(∀ x∈l,x<256)→l.foldl er r<4294967296
 | [],r,h,_=>h
 |x::l,r,h,hx=>crcFold_lt l _ (crcStep_lt h (hx x List.mem_cons_self)) (fun y hy=>hx y (List.mem_cons_of_mem _ hy))
def dN (c:Nat):Nat→Nat
 | 0=>c
 |i+1=>bx (dN c i)
theorem crcIter_lt {c:Nat} (hc:c<4294967296) : ∀ i,dN c i<4294967296
 | 0=>hc
 |i+1=>crcBit_lt (crcIter_lt hc i)
section
variable (C:av)
theorem crc_bit_ops {c:Nat} (hc:c<4294967296):bin Tryz.prog .shr 50 (u32 c) (.int .u64 1)=some (u32 (c/2))∧bin Tryz.prog .and 50 (u32 c) (.int .u32 1)=some (u32 (c%2)) ∧
  bin Tryz.prog .mul 50 (.int .u32 2197175160) (u32 (c%2))=some (u32 (2197175160*(c%2)))∧bin Tryz.prog .xor 50 (u32 (c/2)) (u32 (2197175160*(c%2)))=some (u32 (bx c)):=by
 refine ⟨?_,?_,?_,?_⟩
 ·exact eF Tryz.prog 50 (k := .u32) (k' := .u64) (a:=c) (b:=1) (by decide)
 ·have h1:=bin_and_nat Tryz.prog 50 (k := .u32) rfl (a:=c) (b:=1) hc (by decide)
  rw [Nat.and_one_is_mod] at h1
  exact h1
 ·rw [bin_mul,wrap_u32_mod]
  congr 2
  omega
 ·exact bin_xor_nat Tryz.prog 50 (k := .u32) rfl (a:=c/2) (b:=2197175160*(c%2)) (by show _<2^32;omega) (by show _<2^32;omega)
theorem crc_inner (x:Nat→Value) (h:ak) (c:Nat) (hc:c<4294967296) (h5:x 5=u32 c) (h14:x 14 = .int .i64 0) :
  ∃ x',iter (aL Tryz.prog C (partOf Tryz.f34 [1,1,0,1,0,0,1,1,0,0,1,1,0,1,0,0])) rounds (aX 54 x) h=some (.exit 2,aX 54 x',h)∧x' 5=u32 (fN c) ∧
    x' 0=x 0∧x' 3=x 3∧x' 4=x 4∧x' 9=x 9:=by
 obtain ⟨ex,x',h',h1,rfl,rfl,h2⟩:=loop_inv (t34l34_110100110011010_eq C)
  (Inv:=fun k y h1=>k≤4∧h1=h∧y 5=u32 (dN c (4-k))∧y 14=aN (4-k)∧y 0=x 0∧y 3=x 3∧y 4=x 4∧y 9=x 9)
  (fin:=fun ex y h1=>ex = .exit 2∧h1=h∧y 5=u32 (fN c)∧y 0=x 0∧y 3=x 3∧y 4=x 4∧y 9=x 9)
  (by
   rintro k y _ ⟨hk,rfl,i5,i14,i0,i3,i4,i9⟩
   obtain ⟨o1,o2,o3,o4⟩:=crc_bit_ops (crcIter_lt hc (4-k))
   unfold dM
   simp -implicitDefEqProofs only [i5,i14,aN,aD,aq,ah]
   by_cases hz:k=0
   ·subst hz
    refine ⟨_,_,_,rfl,.inr ⟨by simp,rfl,rfl,?_⟩⟩
    simp -implicitDefEqProofs only [up_cons,up_nil,i5,i0,i3,i4,i9,Nat.reduceEqDiff,if_false,and_true]
    rfl
   ·have hlt:((4-k:Nat):Int)<4:=by omega
    simp -implicitDefEqProofs only [decide_eq_true hlt,o1,o2,o3,o4,aq,ah,bin_add]
    refine ⟨_,_,_,rfl,.inl ⟨rfl,k-1,by omega,by omega,rfl,?_⟩⟩
    simp -implicitDefEqProofs only [up_cons,up_nil,i0,i3,i4,i9,Nat.reduceEqDiff,if_false,if_true,and_true]
    refine ⟨?_,?_⟩
    ·have:4-(k-1)=(4-k)+1:=by omega
     rw [this];rfl
    ·rw [dX (by omega) (by omega)]
     congr 1
     omega)
  (k:=4) (by decide) ⟨by omega,rfl,h5,h14,rfl,rfl,rfl,rfl⟩
 exact ⟨x',h1,h2⟩
def eX (i:Nat):dA:=(List.range 16).map fun j=>u32 (if j<i then fN j else 0)
theorem tabBlk_length (i:Nat):(eX i).length=16:=by simp [eX]
theorem tabBlk_at {i j:Nat} (hj:j<16):(eX i)[j]? = some (u32 (if j<i then fN j else 0)):=by
 unfold eX
 rw [List.getElem?_map,List.getElem?_range hj];rfl
theorem tabBlk_set {i:Nat} (hi:i<16):(eX i).set i (u32 (fN i))=eX (i+1):=by
 apply List.ext_getElem?
 intro j
 rw [List.getElem?_set,tabBlk_length]
 by_cases hj:j<16
 ·rw [tabBlk_at hj,tabBlk_at hj]
  by_cases e:i=j
  ·subst e;simp [hi]
  ·rw [if_neg e]
   by_cases h2:j<i
   ·rw [if_pos h2,if_pos (by omega)]
   ·rw [if_neg h2,if_neg (by omega)]
 ·rw [List.getElem?_eq_none (by rw [tabBlk_length];omega),List.getElem?_eq_none (by rw [tabBlk_length];omega)]
  split
  ·omega
  ·rfl
theorem crc_table (x:Nat→Value) (h:ak) (B:Nat) (hB:h.n0≤B) (hg:h.get B=some (eX 0)) (h3:x 3=ptr B 0) (h9:x 9 = .int .i64 0) :
  ∃ x' h',iter (aL Tryz.prog C (partOf Tryz.f34 [1,1,0,1,0,0])) rounds (aX 54 x) h=some (.exit 0,aX 54 x',h')∧x' 0=x 0∧x' 3=ptr B 0∧Kept h h' (· = B)∧h'.get B=some (eX 16):=by
 obtain ⟨ex,x',h',h1,rfl,h2⟩:=loop_inv (t34l34_11010_eq C)
  (Inv:=fun k y h1=>k≤16∧y 9=aN (16-k)∧y 0=x 0∧y 3=ptr B 0∧Kept h h1 (· = B)∧h1.get B=some (eX (16-k)))
  (fin:=fun ex y h1=>ex = .exit 0∧y 0=x 0∧y 3=ptr B 0∧Kept h h1 (· = B)∧h1.get B=some (eX 16))
  (by
   rintro k y h1 ⟨hk,i9,i0,i3,ik,ig⟩
   unfold t34l34_11010
   simp -implicitDefEqProofs only [i9,aN,aD,aq,ah]
   by_cases hz:k=0
   ·subst hz
    refine ⟨_,_,_,rfl,.inr ⟨by simp,rfl,?_⟩⟩
    simp -implicitDefEqProofs only [up_cons,up_nil,i0,i3,Nat.reduceEqDiff,if_false,true_and]
    exact ⟨ik,ig⟩
   ·have hlt:((16-k:Nat):Int)<16:=by omega
    have hw:IntKind.wrap .u32 ((16-k:Nat):Int)=((16-k:Nat):Int):=wrap_u32 (by omega) (by omega)
    simp -implicitDefEqProofs only [decide_eq_true hlt,bX,ah,hw]
    obtain ⟨z,hz1,z5,z0,z3,z4,z9⟩:=crc_inner C (up y [(4,.int .i64 ((16-k:Nat):Int)),(5,u32 (16-k)),(10,.bool true),(11,.int .i64 ((16-k:Nat):Int)),(12,.int .i64 ((16-k:Nat):Int)),(13,u32 (16-k)),(14,.int .i64 0)]) h1 (16-k) (by omega) rfl rfl
    rw [hz1]
    simp -implicitDefEqProofs only [up_cons,up_nil,Nat.reduceEqDiff,if_false,if_true] at z0 z3 z4 z9
    simp -implicitDefEqProofs only [bG,b34_17,if_true,t34k34_15_eq]
    have hlt2:(0:Int)≤((16-k:Nat):Int)∧((16-k:Nat):Int)<((16:Nat):Int):=by omega
    unfold t34k34_15
    simp -implicitDefEqProofs only [z3,i3,z4,z5,idxA,hlt2,and_self,if_true,ao,aq,ah,Nat.zero_add,Int.toNat_natCast,Nat.mul_one]
    rw [stN1_at ig (by rw [tabBlk_length];omega) (by rw [ik.n0];exact hB) rfl rfl,tabBlk_set (by omega)]
    simp -implicitDefEqProofs only [ah,t34k34_11_eq]
    unfold t34k34_11
    simp -implicitDefEqProofs only [up_cons,up_nil,Nat.reduceEqDiff,if_false,if_true,z9,i9,bin_add,aq,ah]
    refine ⟨_,_,_,rfl,.inl ⟨rfl,k-1,by omega,by omega,?_⟩⟩
    have hb:h1.n0≤B:=by rw [ik.n0];exact hB
    have e1:16-(k-1)=16-k+1:=by omega
    simp -implicitDefEqProofs only [up_cons,up_nil,Nat.reduceEqDiff,if_false,if_true,z0,i0,z3,i3,true_and,e1]
    refine ⟨?_,ik.trans (Kept.set hb ig (.inr rfl)),ak.cS hb ig _⟩
    rw [dX (by omega) (by omega)]
    congr 1)
  (k:=16) (by decide) ⟨by omega,h9,rfl,h3,Kept.refl _ _,hg⟩
 exact ⟨x',h',h1,h2⟩
end
theorem crc_mix (tab:Nat→Nat) (ht : ∀ q,q<16→tab q<4294967296) (r:Nat) (hr:r<4294967296):bin Tryz.prog .and 50 (u32 r) (.int .u32 15)=some (u32 (r%16))∧bin Tryz.prog .shr 50 (u32 r) (.int .u64 4)=some (u32 (r/16)) ∧
  bin Tryz.prog .xor 50 (u32 (tab (r%16))) (u32 (r/16))=some (u32 (eQ tab r)):=by
 refine ⟨?_,?_,?_⟩
 ·have h1:=bin_and_nat Tryz.prog 50 (k := .u32) rfl (a:=r) (b:=15) hr (by decide)
  rw [show r &&& 15=r%16 from Nat.and_two_pow_sub_one_eq_mod r 4] at h1
  exact h1
 ·exact eF Tryz.prog 50 (k := .u32) (k' := .u64) (a:=r) (b:=4) (by decide)
 ·exact bin_xor_nat Tryz.prog 50 (k := .u32) rfl (ht _ (by omega)) (by show _<2^32;omega)
section
variable (C:av)
theorem crc_round (tab:Nat→Nat) (ht : ∀ q,q<16→tab q<4294967296) (y:Nat→Value) (h:ak) (B:Nat) (blk:dA) (hg:h.get B=some blk) (hblk : ∀ q,q<16→blk[q]? = some (u32 (tab q)))
  (b off len c i V R:Nat) (s:Option Nat) (kb:dA) (hkb:h.get b=some kb) (hcell:kb[off+i]? = some (u8 V)) (hV:V<256) (hR:R<4294967296) (hi:i<len) (hlen:len<9223372036854775807)
  (i3:y 3=ptr B 0) (i6:y 6=u32 R) (i27:y 27 = .slice (some ⟨b,off,s⟩) len c) (i28:y 28=aN len) (i29:y 29=aN i) :
  ∃ y',eB C y h=some (.normal,aX 54 y',h)∧y' 3=y 3∧y' 6=u32 (eQ tab (eQ tab (R ^^^ V)))∧y' 27=y 27∧y' 28=y 28∧y' 29=aN (i+1):=by
 have hlt:(i:Int)<(len:Int):=by omega
 have hidx:(0:Int)≤(i:Int)∧(i:Int)<(len:Int):=by omega
 have hw:IntKind.wrap .u32 ((V:Nat):Int)=(V:Int):=wrap_u32 (by omega) (by omega)
 have hx:=bin_xor_nat Tryz.prog 50 (k := .u32) rfl (a:=R) (b:=V) hR (by show _<2^32;omega)
 have hr1:R ^^^ V<4294967296:=Nat.xor_lt_two_pow (n:=32) hR (by omega)
 generalize R ^^^ V=R1 at *
 obtain ⟨a1,a2,a3⟩:=crc_mix tab ht _ hr1
 have hr2:=crcHalf_lt ht hr1
 generalize eQ tab R1=R2 at *
 obtain ⟨b1,b2,b3⟩:=crc_mix tab ht _ hr2
 generalize eQ tab R2=R3 at *
 have hi1 : ∀ q:Nat,(0:Int)≤((q%16:Nat):Int)∧((q%16:Nat):Int)<((16:Nat):Int):=fun q=>by omega
 have hld : ∀ q:Nat,aK (ptr B (q%16)) h=some (u32 (tab (q%16)),h):=fun q=>bf hg (hblk _ (by omega))
 unfold eB
 simp -implicitDefEqProofs only [i28,i29,aN,aD,aq,ah,decide_eq_true hlt,i27,cD,hidx,and_self,if_true,Int.toNat_natCast,Nat.mul_one,bf hkb hcell,bX,hw,i6,hx,a1,i3,idxA,hi1,ao,Nat.zero_add,hld,a2,a3,b1,b2,b3,bin_add]
 refine ⟨_,rfl,?_⟩
 simp -implicitDefEqProofs only [up_cons,up_nil,Nat.reduceEqDiff,if_false,if_true,i3,i27,i28,true_and]
 rw [dX (by omega) (by omega)]
 rfl
theorem crc_bytes (x:Nat→Value) (h:ak) (B:Nat) (a:Option Addr) (n c:Nat) (l:List Nat) (hg:h.get B=some (eX 16)) (hl:aJ a n h=some l)
  (h3:x 3=ptr B 0) (h6:x 6=u32 4294967295) (h27:x 27 = .slice a n c) (h28:x 28=aN n) (h29:x 29 = .int .i64 0) (hn:n<rounds) (hn2:n<9223372036854775807) :
  ∃ x',iter (aL Tryz.prog C (partOf Tryz.f34 [1,1,1,1,0,1,0,0])) rounds (aX 54 x) h=some (.exit 4,aX 54 x',h)∧x' 6=u32 (l.foldl er 4294967295):=by
 obtain ⟨hlen,hb,hat⟩:=ba hl
 obtain ⟨ex,x',h',h1,rfl,rfl,h2⟩:=loop_inv (t34l34_1111010_eq C)
  (Inv:=fun k y h1=>k≤n∧h=h1∧y 3=ptr B 0∧y 6=u32 ((l.take (n-k)).foldl er 4294967295)∧y 27 = .slice a n c∧y 28=aN n∧y 29=aN (n-k))
  (fin:=fun ex y h1=>ex = .exit 4∧h1=h∧y 6=u32 (l.foldl er 4294967295))
  (by
   rintro k y _ ⟨hk,rfl,i3,i6,i27,i28,i29⟩
   by_cases hz:k=0
   ·subst hz
    unfold eB
    simp -implicitDefEqProofs only [i28,i29,aN,aD,aq,ah]
    simp -implicitDefEqProofs only [Nat.sub_zero,Int.lt_irrefl,decide_false]
    refine ⟨_,_,_,rfl,.inr ⟨by simp,rfl,rfl,?_⟩⟩
    simp -implicitDefEqProofs only [up_cons,up_nil,Nat.reduceEqDiff,if_false,i6,Nat.sub_zero]
    rw [List.take_of_length_le (by omega)]
   ·have e1:n-(k-1)=n-k+1:=by omega
    have hnk:n-k<n:=by omega
    have hlt2:n-k<l.length:=by omega
    obtain ⟨b,off,s,kb,rfl,hkb,hkl,hat2⟩:=hat (by omega)
    have hcell:=hat2 (n-k) hnk
    clear hat hat2
    have hr:((l.take (n-k)).foldl er 4294967295)<4294967296:=crcFold_lt _ _ (by omega) (fun m hm=>hb m (List.mem_of_mem_take hm))
    have hbv:l.getD (n-k) 0<256:=by
     rw [List.getD_eq_getElem?_getD,List.getElem?_eq_getElem hlt2]
     exact hb _ (List.getElem_mem _)
    obtain ⟨y',q1,q3,q6,q27,q28,q29⟩:=crc_round C fN (fun q hq=>crcTab_lt (by omega)) y h B (eX 16) hg (fun q hq=>by rw [tabBlk_at hq,if_pos hq]) b off n c (n-k) _ _ s kb hkb hcell hbv hr hnk hn2 i3 i6 i27 i28 i29
    refine ⟨_,_,_,q1,.inl ⟨rfl,k-1,by omega,by omega,rfl,q3.trans i3,?_,q27.trans i27,q28.trans i28,by rw [q29,e1]⟩⟩
    rw [q6,e1,List.take_add_one,List.foldl_append]
    have hV2:l[n-k]? = some (l.getD (n-k) 0):=by
     rw [List.getD_eq_getElem?_getD,List.getElem?_eq_getElem hlt2]
     rfl
    rw [hV2,Option.toList_some,List.foldl_cons,List.foldl_nil,er])
  (k:=n) hn ⟨by omega,rfl,h3,by rw [h6,Nat.sub_self,List.take_zero,List.foldl_nil],h27,h28,by rw [h29,Nat.sub_self];rfl⟩
 exact ⟨x',h1,h2⟩
theorem bits_xor_nat {k:IntKind} (hk:k.signed=false) {a b:Nat} (ha:a<2^k.bits) (hb:b<2^k.bits):bitsA .xor k (a:Int) (b:Int)=some (.int k ((a ^^^ b:Nat):Int)):=by
 simp -implicitDefEqProofs only [bitsA,ofInt_natCast,BitVec.toNat_xor,BitVec.toNat_ofNat,Nat.mod_eq_of_lt ha,Nat.mod_eq_of_lt hb]
 rw [bits_u hk _ (Nat.xor_lt_two_pow ha hb)]
theorem unA_xor_u32 {r:Nat} (hr:r<4294967296):unA .xor (u32 r)=some (u32 (4294967295 ^^^ r)):=by
 have h0:4294967295<2^IntKind.bits .u32:=by show 4294967295<2^32;omega
 have h1:=bits_xor_nat (k := .u32) rfl (a:=4294967295) (b:=r) h0 hr
 have h2:IntKind.max .u32=((4294967295:Nat):Int):=by decide
 have h3:unA .xor (u32 r)=bitsA .xor .u32 (IntKind.max .u32) r:=rfl
 rw [h3,h2]
 exact h1
theorem t34_is (a:Option Addr) (n c:Nat) (l:List Nat) (h:ak) (hl:aJ a n h=some l) (hn:n<9223372036854775807) :
  ∃ h1,t34 C (.slice a n c) h=some (u32 (crcN l),h1)∧Old h h1:=by
 unfold t34
 simp -implicitDefEqProofs only [fz,Abs.newRow,ah]
 have hg0:(h.alloc (eX 0)).get h.next=some (eX 0):=by rw [ak.aM,if_pos rfl]
 have hz:List.replicate 16 (Value.int IntKind.u32 0)=eX 0:=rfl
 rw [hz]
 obtain ⟨x',h',h1,x0,x3,hk,hg⟩:=crc_table C (up (bs [.slice a n c]) [(2,.int .u32 0),(3,ptr h.next 0),(9,.int .i64 0)]) (h.alloc (eX 0)) h.next h.bg hg0 rfl rfl
 rw [h1]
 have x0':x' 0 = .slice a n c:=x0
 have hm : ∀ b k,h.get b=some k→h'.get b=some k:=by
  intro b k hb
  have hlt:=h.bT hb
  rw [hk.get b (by simp;omega) (by omega),ak.aM,if_neg (by omega)];exact hb
 simp -implicitDefEqProofs only [bG,b34_4,if_true,t34k34_2_eq]
 unfold t34k34_2
 simp -implicitDefEqProofs only [x0',lenL_slice,aq,ah]
 obtain ⟨z,hz1,z6⟩:=crc_bytes C (up x' [(6,.int .u32 4294967295),(27,.slice a n c),(28,.int .i64 n),(29,.int .i64 0)]) h' h.next a n c l hg (sliceBytes_mono hl hm)
  (by simp -implicitDefEqProofs only [up_cons,up_nil,Nat.reduceEqDiff,if_false,x3]) rfl rfl rfl rfl (by have:rounds=18446744073709551616:=rfl;omega) hn
 rw [hz1]
 simp -implicitDefEqProofs only [bG,b34_8,if_true,t34k34_6_eq]
 unfold t34k34_6
 obtain ⟨_,hb,_⟩:=ba hl
 refine ⟨h',?_,(Kept.alloc h _ (fun _=>False)).also hk (fun d hd e=>by omega)⟩
 simp -implicitDefEqProofs only [z6,ah,unA_xor_u32 (crcFold_lt l 4294967295 (by omega) hb),aq,crcN]
end
end
section
section bytes
end bytes
end
section
theorem cvBS_at {a:Option Addr} {n c:Nat} {h:ak} {l:List Nat} (e:aJ a n h=some l):cvBS (.slice a n c) h=some (.string (bQ l),h):=by
 have hl:=(ba e).1
 have hf:=firstA_of e (Nat.le_refl n) (c:=c)
 rw [List.take_of_length_le (by omega)] at hf
 unfold cvBS bsR
 simp only [hf,show (l.map u8).mapM asByte=some (l.map UInt8.ofNat) from mapM_asByte]
 rfl
end
section
end
section
theorem get_kill {h:ak} {L:Nat} (h0:h.n0≤L) (hn:L<h.next) {c:Nat} (hc:c≠L):(h.kill L).get c=h.get c:=by
 unfold ak.kill
 rw [ak.get_put _ h0 hn,if_neg hc]
end
section
end
section
end
section
theorem setPlain {h:ak} {b:Nat} {k k':dA} (hk:h.get b=some k) (h0:h.n0≤b):Kept h (h.set b k') (fun c=>c=b)∧(h.set b k').get b=some k':=⟨Kept.set h0 hk (.inr rfl),ak.cS h0 hk _⟩
end
section
def dR:Value→Option Nat
 | .slice (some a) _ _=>some a.block
 |_=>none
def OwnC (h:ak) (N size:Nat) (v:Value) (len:Nat) (cells:List Value):Prop:=
 cells.length=len*size∧Abs.bA cells=true∧aS cells=true ∧
 ((v = .slice none 0 0∧len=0) ∨ ∃ b s,v = .slice (some ⟨b,0,s⟩) len len∧N≤b∧((s=none∧len=0)∨(s=some size∧h.get b=some cells)))
theorem OwnC.nil (h:ak) (N size:Nat):OwnC h N size (.slice none 0 0) 0 []:=⟨by simp,rfl,rfl,.inl ⟨rfl,rfl⟩⟩
theorem OwnC.empty (h:ak) {N size b:Nat} (hb:N≤b):OwnC h N size (.slice (some ⟨b,0,none⟩) 0 0) 0 []:=⟨by simp,rfl,rfl,.inr ⟨b,none,rfl,hb,.inl ⟨rfl,rfl⟩⟩⟩
theorem OwnC.dV {h h':ak} {N size:Nat} {v:Value} {len:Nat} {cells:List Value} (o:OwnC h N size v len cells) {B:Nat→Prop} (k:Kept h h' B) (hB : ∀ b,dR v=some b → ¬B b):OwnC h' N size v len cells:=by
 obtain ⟨h1,h2,h3,h4⟩:=o
 refine ⟨h1,h2,h3,?_⟩
 rcases h4 with h4|⟨b,s,rfl,h5,h6|⟨h6,h7⟩⟩
 ·exact .inl h4
 ·exact .inr ⟨b,s,rfl,h5,.inl h6⟩
 ·exact .inr ⟨b,s,rfl,h5,.inr ⟨h6,k.getE h7 (hB b rfl)⟩⟩
theorem noHoles_append (a b:List Value) (ha:Abs.bA a=true) (hb:Abs.bA b=true):Abs.bA (a++b)=true:=by
 unfold Abs.bA at *
 rw [List.all_append,ha,hb];rfl
theorem oneCells_append (a b:List Value) (ha:aS a=true) (hb:aS b=true):aS (a++b)=true:=by
 unfold aS at *
 rw [List.all_append,ha,hb];rfl
theorem OwnC.base {h:ak} {N size:Nat} {v:Value} {len:Nat} {cells:List Value} (o:OwnC h N size v len cells) {b:Nat} (hb:dR v=some b):N≤b:=by
 obtain ⟨_,_,_,⟨rfl,_⟩|⟨b',s,rfl,h5,_⟩⟩:=o
 ·cases hb
 ·cases hb;exact h5
theorem append_own {h:ak} {N size by_ len m:Nat} {v x:Value} {cells news:List Value} (o:OwnC h N size v len cells) (h0:h.n0≤N) (hN:N≤h.next) (hs:0<size) (hx:lenA x=some m) (hf:cj size m x h=some news)
  (h1:aS news=true) (h2:Abs.bA news=true) (hl:news.length=m*size) (hb:(len+m)*by_≤140737488355328) (hc:len+m≤4611686018427387904) :
  ∃ v' h',aO size by_ v x h=some (v',h')∧OwnC h' N size v' (len+m) (cells++news)∧Kept h h' (fun c=>dR v=some c∧h.get c=some cells)∧(v'=v∨(dR v'=some h.next∧h.next<h'.next)):=by
 have o':=o
 obtain ⟨o1,o2,o3,o4⟩:=o
 have hcond : ∀ len':Nat,len'=len→(!(aS news) || !(decide ((len'+m)*by_≤140737488355328)) || !(decide (len'+m≤4611686018427387904))||decide (news.length≠m*size))=false:=by
  rintro _ rfl
  rw [h1,decide_eq_true hb,decide_eq_true hc,decide_eq_false (by omega)];rfl
 by_cases hm:m=0
 ·subst hm
  have hn:news = []:=List.length_eq_zero_iff.1 (by omega)
  subst hn
  have ho:OwnC h N size v (len+0) (cells ++ []):=by rw [List.append_nil];exact o'
  refine ⟨v,h,?_,ho,Kept.refl _ _,.inl rfl⟩
  rcases o4 with ⟨rfl,rfl⟩|⟨b,s,rfl,h5,h6⟩
  ·unfold aO
   simp only [hx,hf]
   rw [if_neg (by rw [hcond 0 rfl];decide),if_pos (by omega),if_pos trivial]
  ·unfold aO
   simp only [hx,hf]
   rw [if_neg (by rw [hcond len rfl];decide),if_pos (by omega),if_pos trivial]
 ·have fresh : ∀ cs:List Value,cs = []→len=0→OwnC (h.alloc news) N size (.slice (some ⟨h.next,0,some size⟩) (len+m) (len+m)) (len+m) (cs++news):=by
   rintro _ rfl rfl
   exact ⟨by simpa using hl,by simpa using h2,by simpa using h1,.inr ⟨h.next,_,rfl,hN,.inr ⟨rfl,by rw [ak.aM,if_pos rfl];rfl⟩⟩⟩
  rcases o4 with ⟨rfl,rfl⟩|⟨b,s,rfl,h5,⟨rfl,rfl⟩|⟨rfl,h6⟩⟩
  ·have hce:cells = []:=List.length_eq_zero_iff.1 (by simpa using o1)
   refine ⟨_,_,?_,fresh cells hce rfl,Kept.alloc _ _ _,.inr ⟨rfl,by simp⟩⟩
   unfold aO
   simp only [hx,hf]
   rw [if_neg (by rw [hcond 0 rfl];decide),if_neg (by omega),if_pos trivial]
  ·have hce:cells = []:=List.length_eq_zero_iff.1 (by simpa using o1)
   refine ⟨_,_,?_,fresh cells hce rfl,Kept.alloc _ _ _,.inr ⟨rfl,by simp⟩⟩
   unfold aO
   simp only [hx,hf]
   have f0:cj size 0 (.slice (some ⟨b,0,none⟩) 0 0) h=some []:=by simp [cj]
   rw [if_neg (by rw [hcond 0 rfl];decide),if_neg (by omega)]
   simp only [f0]
   rw [if_neg (by simp)];rfl
  ·have hf2:cj size len (.slice (some ⟨b,0,some size⟩) len len) h=some cells:=by
    simp only [cj]
    by_cases hz:len*size=0
    ·rw [if_pos hz]
     have:cells = []:=List.length_eq_zero_iff.1 (by omega)
     rw [this]
    ·rw [if_neg hz]
     simp only [h6]
     have e:(cells.drop 0).take (len*size)=cells:=by rw [List.drop_zero,List.take_of_length_le (by omega)]
     simp only [e]
     rw [if_pos ⟨by omega,o2⟩]
   have hlt:=h.bT h6
   have hk : ∀ c,c<h.next→c≠b→((h.kill b).alloc (cells++news)).get c=h.get c:=by
    intro c hc hne
    rw [ak.aM,if_neg (by rw [ak.next_kill];omega)]
    exact get_kill (by omega) hlt hne
   refine ⟨.slice (some ⟨h.next,0,some size⟩) (len+m) (len+m),(h.kill b).alloc (cells++news),?_,⟨by rw [List.length_append,o1,hl,Nat.add_mul],noHoles_append _ _ o2 h2,oneCells_append _ _ o3 h1,.inr ⟨h.next,_,rfl,hN,.inr ⟨rfl,?_⟩⟩⟩,⟨rfl,by simp,fun c hc hB=>hk c hc (fun e=>hB (by rw [e];exact ⟨rfl,h6⟩))⟩,.inr ⟨rfl,by simp⟩⟩
   ·unfold aO
    simp only [hx,hf]
    rw [if_neg (by rw [hcond len rfl];decide),if_neg (by omega)]
    simp only [hf2]
    rw [if_neg (by simp [o1]),if_pos (by simp [h6];omega)]
   ·rw [ak.aM,if_pos (by rw [ak.next_kill])]
structure cM (h:ak) (N:Nat) (v:Value) (l:List Nat):Prop where
 own:OwnC h N 1 v l.length (l.map u8)
 byte : ∀ x∈l,x<256
theorem cM.nil (h:ak) (N:Nat):cM h N (.slice none 0 0) []:=⟨.nil h N 1,by simp⟩
theorem cM.dV {h h':ak} {N:Nat} {v:Value} {l:List Nat} (o:cM h N v l) {B:Nat→Prop} (k:Kept h h' B) (hB : ∀ b,dR v=some b → ¬B b):cM h' N v l:=⟨o.own.dV k hB,o.byte⟩
theorem cM.bytes {h:ak} {N:Nat} {v:Value} {l:List Nat} (o:cM h N v l) : ∃ a c,v = .slice a l.length c∧aJ a l.length h=some l∧goodS a l.length c=true∧(∀ y,a=some y→N≤y.block)∧(∀ y,a=some y→dR v=some y.block):=by
 obtain ⟨⟨o1,o2,o3,o4⟩,ob⟩:=o
 rcases o4 with ⟨rfl,h4⟩|⟨b,s,rfl,h5,⟨rfl,h4⟩|⟨rfl,h6⟩⟩
 ·have:l = []:=List.length_eq_zero_iff.1 h4
  subst this
  exact ⟨none,0,rfl,rfl,rfl,fun y hy=>(by cases hy),fun y hy=>(by cases hy)⟩
 ·have:l = []:=List.length_eq_zero_iff.1 h4
  subst this
  exact ⟨_,_,rfl,rfl,rfl,fun y hy=>(by cases hy;exact h5),fun y hy=>(by cases hy;rfl)⟩
 ·refine ⟨_,_,rfl,?_,?_,fun y hy=>by cases hy;exact h5,fun y hy=>by cases hy;rfl⟩
  ·have:=dZ (off:=0) (n:=l.length) (s:=some 1) h6 (by omega) ob
   rw [this,List.drop_zero,List.take_of_length_le (Nat.le_refl _)]
  ·unfold goodS
   rw [Nat.ble_eq_true_of_le (Nat.le_refl _)];rfl
theorem append_ownB {h:ak} {N n c:Nat} {v:Value} {l m:List Nat} {a:Option Addr} (o:cM h N v l) (h0:h.n0≤N) (hN:N≤h.next) (hm:aJ a n h=some m) (hb:l.length+n≤100000000) :
  ∃ v' h',aO 1 1 v (.slice a n c) h=some (v',h')∧cM h' N v' (l++m)∧Kept h h' (fun c=>dR v=some c)∧(v'=v∨(dR v'=some h.next∧h.next<h'.next)):=by
 obtain ⟨hl,hbt,_⟩:=ba hm
 have hf:=firstA_of hm (Nat.le_refl n) (c:=c)
 rw [List.take_of_length_le (by omega)] at hf
 obtain ⟨v',h',e1,e2,e3,e4⟩:=append_own (by_:=1) o.own h0 hN (by decide) (show lenA (.slice a n c)=some n from rfl) hf (one_u8 _) (noHoles_u8 _) (by simp [hl]) (by omega) (by omega)
 refine ⟨v',h',e1,⟨?_,?_⟩,e3.mono (fun c _ hc=>hc.1),e4⟩
 ·rw [List.length_append,List.map_append,hl];exact e2
 ·intro x hx
  rcases List.mem_append.1 hx with hx|hx
  ·exact o.byte x hx
  ·exact hbt x hx
end
section
theorem sub3 {a b:Nat} (h:b≤a) (h2:a≤9223372036854775807):bin Tryz.prog .sub 3 (aN a) (aN b)=some (aN (a-b)):=by
 unfold aN;rw [bin_sub,dX (by omega) (by omega)];exact congrArg (fun q=>some (Value.int .i64 q)) (by omega)
end
section
structure IsW (h:ak) (N w lim:Nat) (l:List Nat):Prop where
 ex : ∃ v,h.get w=some [aN lim,.bool false,v]∧cM h N v l∧dR v≠some w ∧ ∀ b,dR v=some b→b<h.next
 n0:h.n0≤N
 Nw:N≤w
 small:lim≤100000
 g4:4≤h.n0
def wb (h:ak) (w:Nat):Option Nat:=match h.get w with
 |some [_,_,v]=>dR v
 |_=>none
def Fr (h:ak) (w b:Nat):Prop:=b<h.next∧b≠w∧wb h w≠some b
structure WS (w:Nat) (h h':ak):Prop where
 n0:h'.n0=h.n0
 next:h.next≤h'.next
 get : ∀ b,Fr h w b→h'.get b=h.get b
 fr : ∀ b,Fr h w b→Fr h' w b
theorem WS.refl (w:Nat) (h:ak):WS w h h:=⟨rfl,Nat.le_refl _,fun _ _=>rfl,fun _ f=>f⟩
theorem WS.trans {w:Nat} {a b c:ak} (x:WS w a b) (y:WS w b c):WS w a c:=⟨y.n0.trans x.n0,Nat.le_trans x.next y.next,fun d f=>(y.get d (x.fr d f)).trans (x.get d f),fun d f=>y.fr d (x.fr d f)⟩
theorem WS.ff {w:Nat} {h h':ak} (hw:w<h.next) (o:Old h h'):WS w h h':=⟨o.n0,o.next,fun b f=>Kept.get o b f.1 (fun h=>h),fun b f=>⟨Nat.lt_of_lt_of_le f.1 o.next,f.2.1,by
 have:wb h' w=wb h w:=by
  unfold wb
  rw [Kept.get o w hw (fun h=>h)]
 rw [this];exact f.2.2⟩⟩
theorem WS.bytes {w:Nat} {h h':ak} (k:WS w h h') {a:Option Addr} {n:Nat} {l:List Nat} (e:aJ a n h=some l) (hb : ∀ y,a=some y→0<n→Fr h w y.block):aJ a n h'=some l:=by
 by_cases h0:n=0
 ·subst h0
  obtain ⟨hl,_,_⟩:=ba e
  have:l = []:=List.length_eq_zero_iff.1 hl
  subst this
  cases a with
  |none=>rfl
  |some x=>unfold aJ cj;simp;rfl
 ·obtain ⟨_,_,h3⟩:=ba e
  obtain ⟨b,off,s,c,rfl,hc,_⟩:=h3 (by omega)
  rw [sliceBytes_congr (h:=h) (fun y hy=>by cases hy;exact k.get b (hb _ rfl (by omega)))]
  exact e
theorem IsW.lt {h:ak} {N w lim:Nat} {l:List Nat} (W:IsW h N w lim l):w<h.next:=by
 obtain ⟨v,h1,_⟩:=W.ex
 exact h.bT h1
theorem cM.cell {h:ak} {N:Nat} {v:Value} {l:List Nat} (o:cM h N v l):v.cells = #[v]∧v.oneCell'=true∧isHole v=false:=by
 obtain ⟨a,c,rfl,_⟩:=o.bytes
 exact ⟨rfl,rfl,rfl⟩
theorem w_append {h:ak} {N w lim:Nat} {l m:List Nat} {a:Option Addr} {n c:Nat} (W:IsW h N w lim l) (hm:aJ a n h=some m) (hb:l.length+n≤100000) :
  ∃ v v' g g',aK (ptr w 2) h=some (v,h)∧aO 1 1 v (.slice a n c) h=some (v',g)∧dH 1 (ptr w 2) v' g=some (undef,g')∧IsW g' N w lim (l++m)∧WS w h g':=by
 obtain ⟨v,h1,h2,h3,hbn⟩:=W.ex
 have hlt:=W.lt
 have hNw:=W.Nw
 obtain ⟨v',g,e1,e2,e3,e4⟩:=append_ownB (c:=c) h2 W.n0 (by omega) hm (by omega)
 have hg:=e3.getE h1 h3
 obtain ⟨c1,c2,c3⟩:=e2.cell
 have n0g:g.n0≤w:=by rw [e3.n0];have:=W.n0;omega
 have hst:dH 1 (ptr w 2) v' g=some (undef,g.set w [aN lim,.bool false,v']):=stN1_at hg (by simp) n0g c1 c2
 obtain ⟨k2,k3⟩:=setPlain (k' := [aN lim,.bool false,v']) hg n0g
 have hv':dR v'≠some w:=by
  rcases e4 with rfl|⟨e4,_⟩
  ·exact h3
  ·rw [e4];intro he;cases he;omega
 refine ⟨v,v',g,_,bf h1 rfl (h2.cell.2.2),e1,hst,⟨⟨v',k3,e2.dV k2 (fun b hb hc=>by subst hc;exact hv' hb),hv',fun b hb=>by
  rcases e4 with rfl|⟨e4,e5⟩
  ·exact Nat.lt_of_lt_of_le (hbn b hb) (Nat.le_trans e3.next k2.next)
  ·rw [e4] at hb
   cases hb
   exact Nat.lt_of_lt_of_le e5 k2.next⟩,?_,hNw,W.small,by rw [k2.n0,e3.n0];exact W.g4⟩,⟨k2.n0.trans e3.n0,Nat.le_trans e3.next k2.next,fun b f => ?_,fun b f=>⟨Nat.lt_of_lt_of_le f.1 (Nat.le_trans e3.next k2.next),f.2.1,?_⟩⟩⟩
 ·rw [k2.n0,e3.n0];exact W.n0
 ·have hwb:wb h w=dR v:=by unfold wb;rw [h1]
  have f3:=f.2.2
  rw [hwb] at f3
  exact (k2.get b (Nat.lt_of_lt_of_le f.1 e3.next) f.2.1).trans (e3.get b f.1 f3)
 ·have hwb:wb h w=dR v:=by unfold wb;rw [h1]
  have f3:=f.2.2
  rw [hwb] at f3
  have hwb':wb (g.set w [aN lim,.bool false,v']) w=dR v':=by unfold wb;rw [k3]
  rw [hwb']
  rcases e4 with rfl|⟨e4,_⟩
  ·exact f3
  ·rw [e4]
   intro he
   cases he
   have:=f.1
   omega
theorem is47:bB Tryz.prog 47 Tryz.f47:=⟨by kernel_rfl,by kernel_rfl,by kernel_rfl,by kernel_rfl⟩
theorem r47 (h:ak) (hG:4≤h.n0) {lim:Nat} (hl:lim≤100000) : ∃ h',CW 47 [aN lim] h=some (ptr h.next 0,h')∧IsW h' h.next h.next lim []∧Old h h' ∧ ∀ b,b<h.next→Fr h' h.next b:=by
 have hmx:fI true (.int .i64 0) [aN lim]=some (aN lim):=by
  simp only [fI,aN,if_true]
  by_cases h0:(lim:Int)>0
  ·rw [if_pos (by simpa using h0)]
  ·have:lim=0:=by omega
   subst this;rfl
 have hb:fq [(.int .i64 0),(.bool false),(.slice none 0 0)] [(0,1,aN lim)]=some (.agg [aN lim,.bool false,.slice none 0 0].toArray):=rfl
 refine ⟨h.alloc [aN lim,.bool false,.slice none 0 0],aG is47 hG rfl ((t47_eq _ _ _).trans ?_),⟨⟨.slice none 0 0,by rw [ak.aM,if_pos rfl],.nil _ _,(by intro h;cases h),(by intro b h;cases h)⟩,h.bg,Nat.le_refl _,hl,hG⟩,Kept.alloc _ _ _,fun b hb=>⟨by rw [ak.cA];omega,by omega,by
  have:wb (h.alloc [aN lim,.bool false,.slice none 0 0]) h.next=none:=by unfold wb;rw [ak.aM,if_pos rfl];rfl
  rw [this];intro h;cases h⟩⟩
 unfold t47
 simp -implicitDefEqProofs only [ah,hmx,aq,hb,c9 h [aN lim,.bool false,.slice none 0 0] rfl]
theorem is85:bB Tryz.prog 85 Tryz.f85:=⟨by kernel_rfl,by kernel_rfl,by kernel_rfl,by kernel_rfl⟩
theorem eql110 (b o:Nat):bin Tryz.prog .eql 90 (ptr b o) (.pointer none)=some (.bool false):=by kernel_rfl
theorem r85 {h:ak} {N w lim:Nat} {l:List Nat} (W:IsW h N w lim l) {n:Nat} (hn:l.length+n≤lim) : ∃ h',CW 85 [ptr w 0,aN n] h=some (.bool true,h')∧IsW h' N w lim l∧WS w h h':=by
 obtain ⟨v,h1,h2,h3,hbn⟩:=W.ex
 obtain ⟨a,c,hv,h4,h5,h6,h7⟩:=h2.bytes
 have hNw:=W.Nw
 have n0w:h.n0≤w:=by have:=W.n0;omega
 have l0:aK (ptr w 0) h=some (aN lim,h):=bf h1 rfl
 have l1:aK (ptr w 1) h=some (.bool false,h):=bf h1 rfl
 have l2:aK (ptr w 2) h=some (.slice a l.length c,h):=by rw [←hv];exact bf h1 rfl (h2.cell.2.2)
 have hst:dH 1 (ptr w 1) (.bool false) h=some (undef,h.set w [aN lim,.bool false,v]):=stN1_at h1 (by simp) n0w rfl rfl
 obtain ⟨k2,k3⟩:=setPlain (k' := [aN lim,.bool false,v]) h1 n0w
 have hsm:=W.small
 have hd:(decide (lim-l.length<n))=false:=decide_eq_false (by omega)
 refine ⟨_,aG is85 W.g4 rfl ((t85_eq _ _ _ _).trans ?_),⟨⟨v,k3,h2.dV k2 (fun b hb hc=>by subst hc;exact h3 hb),h3,fun b hb=>Nat.lt_of_lt_of_le (hbn b hb) k2.next⟩,k2.n0▸W.n0,hNw,hsm,k2.n0▸W.g4⟩,⟨k2.n0,k2.next,fun b f=>k2.get b f.1 f.2.1,fun b f=>⟨Nat.lt_of_lt_of_le f.1 k2.next,f.2.1,by
  have e1:wb h w=dR v:=by unfold wb;rw [h1]
  have e2:wb (h.set w [aN lim,.bool false,v]) w=dR v:=by unfold wb;rw [k3]
  rw [e2,←e1];exact f.2.2⟩⟩⟩
 have l1':aK (ptr w 1) (h.set w [aN lim,.bool false,v])=some (.bool false,h.set w [aN lim,.bool false,v]):=bf k3 rfl
 unfold t85
 simp -implicitDefEqProofs only [ah,eql110,aq,ar,beq_self_eq_true,aj,dk,ao,Nat.zero_add,l1,Bool.false_eq_true,if_false,l0,l2,lenL_slice]
 rw [show (Value.int .i64 (l.length:Int))=aN l.length from rfl]
 simp -implicitDefEqProofs only [sub3 (show l.length≤lim by omega) (show lim≤9223372036854775807 by omega),aq,ah,gtr3,hd,hst,dk,ao,Nat.zero_add,l1',au,Bool.not_false]
def cG:Nat→Nat→List Nat
 | 0,_ => []
 |n+1,v=>(v/256^n%256)::cG n v
theorem aF : ∀ n v,(cG n v).length=n
 | 0,_=>rfl
 |n+1,v=>by rw [cG,List.length_cons,aF]
theorem is84:bB Tryz.prog 84 Tryz.f84:=⟨by kernel_rfl,by kernel_rfl,by kernel_rfl,by kernel_rfl⟩
theorem bsl1 (h:ak) (x:Nat):dD 1 (.int .u8 0) 1 [(0,u8 x)] h=some (.slice (some ⟨h.next,0,none⟩) 1 1,h.alloc [u8 x]):=rfl
theorem bytes1 (h:ak) {x:Nat} (hx:x<256):aJ (some ⟨h.next,0,none⟩) 1 (h.alloc [u8 x])=some [x]:=by
 have:=dZ (h:=h.alloc [u8 x]) (b:=h.next) (off:=0) (n:=1) (s:=none) (l := [x]) (by rw [ak.aM,if_pos rfl];rfl) (by simp) (by simpa using hx)
 rw [this];rfl
theorem IsW.bm {h h':ak} {N w lim:Nat} {l:List Nat} (W:IsW h N w lim l) (o:Old h h'):IsW h' N w lim l:=by
 obtain ⟨v,h1,h2,h3,h4⟩:=W.ex
 exact ⟨⟨v,o.getE h1 (fun h=>h),h2.dV o (fun _ _ h=>h),h3,fun b hb=>Nat.lt_of_lt_of_le (h4 b hb) o.next⟩,by rw [o.n0];exact W.n0,W.Nw,W.small,by rw [o.n0];exact W.g4⟩
theorem IsW.alloc {h:ak} {N w lim:Nat} {l:List Nat} (W:IsW h N w lim l) (k:dA):IsW (h.alloc k) N w lim l:=W.bm (Kept.alloc _ _ _)
theorem IsW.fr {h h':ak} {N w lim:Nat} {l:List Nat} (W:IsW h N w lim l) (o:Old h h') {b:Nat} (h1:h.next≤b) (h2:b<h'.next):Fr h' w b:=by
 obtain ⟨v,q1,_,_,q4⟩:=W.ex
 have hw:=W.lt
 refine ⟨h2,by omega,?_⟩
 have:wb h' w=dR v:=by
  unfold wb
  rw [o.getE q1 (fun h=>h)]
 rw [this]
 intro e
 have:=q4 b e
 omega
theorem r84 {h:ak} {N w lim:Nat} {l:List Nat} (W:IsW h N w lim l) {v n:Nat} (h1n:1≤n) (hn:n≤8) (hfit:l.length+n≤lim) (hv:v<18446744073709551616) :
  ∃ h',CW 84 [ptr w 0,.int .u64 v,aN n] h=some (.tuple #[],h')∧IsW h' N w lim (l++cG n v)∧WS w h h':=by
 obtain ⟨h1,e1,W1,k1⟩:=r85 W hfit
 have hsm:=W.small
 have key:Fin 30 (fun ex y g=>ex = .exit 0∧IsW g N w lim (l++cG n v)∧WS w h g)
   (iter (aL Tryz.prog CW (partOf Tryz.f84 [1,0,1,0,0])) rounds (aX 30 (up (bs [ptr w 0,.int .u64 v,aN n]) [(6,aN (n-1)),(7,ptr w 0),(8,aN n),(9,.bool true),(10,aN n),(11,aN (n-1))])) h1):=by
  refine cn (t84l84_1010_eq CW) (Inv:=fun k y g=>k≤n∧y 0=ptr w 0∧y 1 = .int .u64 v∧y 6 = .int .i64 ((k:Int)-1)∧WS w h g ∧ ∃ cur,IsW g N w lim cur∧cur++cG k v=l++cG n v) ?_ n (by have:rounds=18446744073709551616:=rfl;omega)
   ⟨Nat.le_refl _,rfl,rfl,by show aN (n-1)=_;unfold aN;exact congrArg _ (by omega),k1,l,W1,rfl⟩
  rintro k y g ⟨hk,i0,i1,i6,hkept,cur,Wc,hcur⟩
  have hclen:cur.length+k=l.length+n:=by
   have:=congrArg List.length hcur
   simpa [aF] using this
  unfold t84l84_1010
  simp -implicitDefEqProofs only [i6,ah,aB,aq]
  by_cases hz:k=0
  ·subst hz
   have hd:decide ((((0:Nat):Int)-1)≥0)=false:=by decide
   simp -implicitDefEqProofs only [hd]
   refine dw.out 0 ⟨rfl,?_,hkept⟩
   have:cur=l++cG n v:=by simpa [cG] using hcur
   rw [←this];exact Wc
  ·obtain ⟨q,rfl⟩ : ∃ q,k=q+1:=⟨k-1,by omega⟩
   have hd:decide ((((q+1:Nat):Int)-1)≥0)=true:=decide_eq_true (by omega)
   have hm8:bin Tryz.prog .mul 3 (.int .i64 8) (.int .i64 (((q+1:Nat):Int)-1))=some (.int .i64 ((8*q:Nat):Int)):=by
    rw [bin_mul,dX (by omega) (by omega)]
    exact congrArg (fun z=>some (Value.int .i64 z)) (by omega)
   have hsh:bin Tryz.prog .shr 25 (.int .u64 (v:Int)) (.int .i64 ((8*q:Nat):Int))=some (.int .u64 ((v/256^q:Nat):Int)):=by
    rw [eF Tryz.prog 25 (k := .u64) (k' := .i64) (b:=8*q) (by show 8*q≤64;omega)]
    rw [show (2:Nat)^(8*q)=256^q by rw [Nat.pow_mul]]
   have hcv:IntKind.wrap .u8 ((v/256^q:Nat):Int)=((v/256^q%256:Nat):Int):=by
    rw [wrap_u8_mod];omega
   have hlt8:v/256^q%256<256:=Nat.mod_lt _ (by decide)
   generalize hx:v/256^q%256=x at *
   obtain ⟨v1,v2,g1,g2,f1,f2,f3,f4,f5⟩:=w_append (c:=1) (Wc.alloc [u8 x]) (bytes1 g hlt8) (by omega)
   have hl2:aK (ptr w 2) g=some (v1,g):=by
    obtain ⟨vv,q1,q2,q3⟩:=Wc.ex
    have e1:aK (ptr w 2) g=some (vv,g):=bf q1 rfl (q2.cell.2.2)
    have e2:aK (ptr w 2) (g.alloc [u8 x])=some (vv,g.alloc [u8 x]):=bf (ak.fA q1 _) rfl (q2.cell.2.2)
    rw [e2] at f1
    simp only [Option.some.injEq,Prod.mk.injEq,and_true] at f1
    rw [←f1];exact e1
   have hsub:bin Tryz.prog .sub 3 (.int .i64 (((q+1:Nat):Int)-1)) (.int .i64 1)=some (.int .i64 ((q:Int)-1)):=by
    rw [bin_sub,dX (by omega) (by omega)]
    exact congrArg (fun z=>some (Value.int .i64 z)) (by omega)
   simp -implicitDefEqProofs only [hd,i0,i1,ah,aq,dk,ao,Nat.zero_add,hl2,hm8,hsh,bX,hcv]
   rw [show (Value.int .u8 (x:Int))=u8 x from rfl,bsl1]
   simp -implicitDefEqProofs only [ah,f2,aq,dk,ao,Nat.zero_add,f3,hsub]
   refine dw.next q (by omega) ⟨by omega,i0,i1,rfl,?_,cur ++ [x],f4,?_⟩
   ·exact (hkept.trans (WS.ff Wc.lt (Kept.alloc g _ _))).trans f5
   ·rw [←hcur,cG,hx,List.append_assoc];rfl
 obtain ⟨ex,y,g,q1,rfl,q2,q3⟩:=key
 refine ⟨g,aG is84 W.g4 rfl ((t84_eq _ _ _ _ _).trans ?_),q2,q3⟩
 unfold t84
 have hs1:bin Tryz.prog .sub 3 (aN n) (.int .i64 1)=some (aN (n-1)):=sub3 (b:=1) h1n (by omega)
 simp -implicitDefEqProofs only [ah,e1,hs1,aq]
 rw [q1]
 simp -implicitDefEqProofs only [bG,b84_2,if_true]
 have hr:Tryz.f84.results.toList = []:=by kernel_rfl
 rw [hr];rfl
end
section
theorem is51:bB Tryz.prog 51 Tryz.f51:=⟨by kernel_rfl,by kernel_rfl,by kernel_rfl,by kernel_rfl⟩
theorem is126:bB Tryz.prog 126 Tryz.f126:=⟨by kernel_rfl,by kernel_rfl,by kernel_rfl,by kernel_rfl⟩
theorem is50:bB Tryz.prog 50 Tryz.f50:=⟨by kernel_rfl,by kernel_rfl,by kernel_rfl,by kernel_rfl⟩
theorem is49:bB Tryz.prog 49 Tryz.f49:=⟨by kernel_rfl,by kernel_rfl,by kernel_rfl,by kernel_rfl⟩
theorem is133:bB Tryz.prog 133 Tryz.f133:=⟨by kernel_rfl,by kernel_rfl,by kernel_rfl,by kernel_rfl⟩
theorem is48:bB Tryz.prog 48 Tryz.f48:=⟨by kernel_rfl,by kernel_rfl,by kernel_rfl,by kernel_rfl⟩
section
variable {h:ak} {N w lim:Nat} {l:List Nat} (W:IsW h N w lim l)
include W
theorem r51 {v:Nat} (hfit:l.length+4≤lim) (hv:v<4294967296) : ∃ h',CW 51 [ptr w 0,.int .u32 v] h=some (.tuple #[],h')∧IsW h' N w lim (l++cG 4 v)∧WS w h h':=by
 obtain ⟨h1,e1,e2,e3⟩:=r84 W (v:=v) (n:=4) (by decide) (by decide) hfit (by omega)
 have e1:CW 84 [ptr w 0,.int .u64 v,.int .i64 4] h=_:=e1
 have hw:IntKind.wrap .u64 (v:Int)=(v:Int):=eY (by omega) (by omega)
 refine ⟨h1,aG is51 W.g4 rfl ((t51_eq _ _ _ _).trans ?_),e2,e3⟩
 unfold t51
 simp -implicitDefEqProofs only [ah,bX,hw,e1]
theorem r126 {v:Nat} (hfit:l.length+8≤lim) (hv:v<18446744073709551616) : ∃ h',CW 126 [ptr w 0,.int .u64 v] h=some (.tuple #[],h')∧IsW h' N w lim (l++cG 8 v)∧WS w h h':=by
 obtain ⟨h1,e1,e2,e3⟩:=r84 W (v:=v) (n:=8) (by decide) (by decide) hfit (by omega)
 have e1:CW 84 [ptr w 0,.int .u64 v,.int .i64 8] h=_:=e1
 refine ⟨h1,aG is126 W.g4 rfl ((t126_eq _ _ _ _).trans ?_),e2,e3⟩
 unfold t126
 simp -implicitDefEqProofs only [ah,e1]
theorem r50 {v:Nat} (hfit:l.length+1≤lim) (hv:v<256) : ∃ h',CW 50 [ptr w 0,.int .u8 v] h=some (.tuple #[],h')∧IsW h' N w lim (l++cG 1 v)∧WS w h h':=by
 obtain ⟨h1,e1,e2,e3⟩:=r84 W (v:=v) (n:=1) (by decide) (by decide) hfit (by omega)
 have e1:CW 84 [ptr w 0,.int .u64 v,.int .i64 1] h=_:=e1
 have hw:IntKind.wrap .u64 (v:Int)=(v:Int):=eY (by omega) (by omega)
 refine ⟨h1,aG is50 W.g4 rfl ((t50_eq _ _ _ _).trans ?_),e2,e3⟩
 unfold t50
 simp -implicitDefEqProofs only [ah,bX,hw,e1]
theorem r49 {v:Nat} (hfit:l.length+2≤lim) (hv:v<65536) : ∃ h',CW 49 [ptr w 0,.int .u16 v] h=some (.tuple #[],h')∧IsW h' N w lim (l++cG 2 v)∧WS w h h':=by
 obtain ⟨h1,e1,e2,e3⟩:=r84 W (v:=v) (n:=2) (by decide) (by decide) hfit (by omega)
 have e1:CW 84 [ptr w 0,.int .u64 v,.int .i64 2] h=_:=e1
 have hw:IntKind.wrap .u64 (v:Int)=(v:Int):=eY (by omega) (by omega)
 refine ⟨h1,aG is49 W.g4 rfl ((t49_eq _ _ _ _).trans ?_),e2,e3⟩
 unfold t49
 simp -implicitDefEqProofs only [ah,bX,hw,e1]
theorem IsW.l2' {k:dA} {v:Value} (e:aK (ptr w 2) (h.alloc k)=some (v,h.alloc k)):aK (ptr w 2) h=some (v,h):=by
 obtain ⟨vv,q1,q2,q3⟩:=W.ex
 have e1:aK (ptr w 2) h=some (vv,h):=bf q1 rfl (q2.cell.2.2)
 have e2:aK (ptr w 2) (h.alloc k)=some (vv,h.alloc k):=bf (ak.fA q1 _) rfl (q2.cell.2.2)
 rw [e2] at e
 simp only [Option.some.injEq,Prod.mk.injEq,and_true] at e
 rw [←e];exact e1
theorem r133 {a:Option Addr} {n c:Nat} {m:List Nat} (hm:aJ a n h=some m) (ha : ∀ y,a=some y→0<n→Fr h w y.block) (hfit:l.length+(n+2)≤lim) (hn:n<65536) :
  ∃ h',CW 133 [ptr w 0,.slice a n c] h=some (.tuple #[],h')∧IsW h' N w lim (l++cG 2 n++m)∧WS w h h':=by
 obtain ⟨h1,e1,W1,k1⟩:=r85 W (n:=n+2) hfit
 have hsm:=W.small
 have c1:(65535:Int)=((65535:Nat):Int):=rfl
 have hgt:bin Tryz.prog .gtr 3 (aN n) (.int .i64 65535)=some (.bool false):=by
  have:=gtr3 n 65535
  rw [decide_eq_false (by omega)] at this
  exact this
 have hadd:bin Tryz.prog .add 3 (aN n) (.int .i64 2)=some (aN (n+2)):=add3 (b:=2) (by omega)
 have hsh:bin Tryz.prog .shr 3 (aN n) (.int .u64 8)=some (aN (n/256)):=eF Tryz.prog 3 (k := .i64) (k' := .u64) (a:=n) (b:=8) (by decide)
 have hw1:IntKind.wrap .u8 ((n/256:Nat):Int)=((n/256:Nat):Int):=wrap_u8 (by omega) (by omega)
 have hw2:IntKind.wrap .u8 ((n:Nat):Int)=((n%256:Nat):Int):=by rw [wrap_u8_mod];omega
 have hbs:dD 1 (.int .u8 0) 2 [(0,u8 (n/256)),(1,u8 (n%256))] h1=some (.slice (some ⟨h1.next,0,none⟩) 2 2,h1.alloc ([n/256,n%256].map u8)):=rfl
 have hb2:aJ (some ⟨h1.next,0,none⟩) 2 (h1.alloc ([n/256,n%256].map u8))=some [n/256,n%256]:=by
  have:=dZ (h:=h1.alloc ([n/256,n%256].map u8)) (b:=h1.next) (off:=0) (n:=2) (s:=none) (l := [n/256,n%256]) (by rw [ak.aM,if_pos rfl]) (by simp) (by
   intro x hx
   simp only [List.mem_cons,List.not_mem_nil,or_false] at hx
   rcases hx with rfl|rfl<;>omega)
  rw [this];rfl
 obtain ⟨v1,v2,g1,g2,f1,f2,f3,f4,f5⟩:=w_append (c:=2) (W1.alloc ([n/256,n%256].map u8)) hb2 (by omega)
 have hl2:=W1.l2' f1
 have k2:WS w h g2:=(k1.trans (WS.ff W1.lt (Kept.alloc h1 _ _))).trans f5
 have hm2:aJ a n g2=some m:=k2.bytes hm ha
 obtain ⟨v3,v4,g3,g4,p1,p2,p3,p4,p5⟩:=w_append (c:=c) f4 hm2 (by simp only [List.length_append,List.length_cons,List.length_nil];omega)
 have hbe:cG 2 n = [n/256,n%256]:=by
  simp only [cG,Nat.pow_one,Nat.pow_zero,Nat.div_one]
  rw [Nat.mod_eq_of_lt (show n/256<256 by omega)]
 refine ⟨g4,aG is133 W.g4 rfl ((t133_eq _ _ _ _).trans ?_),by rw [hbe];exact p4,k2.trans p5⟩
 unfold t133
 simp -implicitDefEqProofs only [ah,eql110,aq,lenL_slice]
 rw [show (Value.int .i64 (n:Int))=aN n from rfl]
 simp -implicitDefEqProofs only [hgt,hadd,aq,ah,e1,dk,ao,Nat.zero_add,hl2,hsh]
 simp -implicitDefEqProofs only [aN,bX,hw1,hw2,ah]
 rw [show (Value.int .u8 ((n/256:Nat):Int))=u8 (n/256) from rfl,show (Value.int .u8 ((n%256:Nat):Int))=u8 (n%256) from rfl,hbs]
 simp -implicitDefEqProofs only [ah,f2,aq,dk,ao,Nat.zero_add,f3,p1,p2,p3]
theorem r48 (hl:l.length≤21000) : ∃ a c h',CW 48 [ptr w 0] h=some (.tuple #[.slice a l.length c,.int .i64 0],h')∧aJ a l.length h'=some l∧goodS a l.length c=true∧Old h h'∧(∀ y,a=some y→h.next≤y.block):=by
 obtain ⟨v,h1,h2,h3⟩:=W.ex
 obtain ⟨a,c,hv,h4,h5,h6,h7⟩:=h2.bytes
 obtain ⟨a',c',h',e1,e2,e3,e4,e5,_⟩:=r69b (c:=c) W.g4 h4 hl
 have l1:aK (ptr w 1) h=some (.bool false,h):=bf h1 rfl
 have l2:aK (ptr w 2) h=some (.slice a l.length c,h):=by rw [←hv];exact bf h1 rfl (h2.cell.2.2)
 refine ⟨a',c',h',aG is48 W.g4 rfl ((t48_eq _ _ _).trans ?_),e2,e3,e4,fun y hy=>(e5 y hy).1⟩
 unfold t48
 simp -implicitDefEqProofs only [ah,eql110,aq,dk,ao,Nat.zero_add,l1,l2,e1]
end
end
section
end
section
theorem byte_at {h:ak} {a:Option Addr} {n c i:Nat} {l:List Nat} (e:aJ a n h=some l) (hi:i<n) : ∃ b p,a.map (·.block)=some b∧cD 1 (.slice a n c) (aN i)=some (ptr b p)∧aK (ptr b p) h=some (u8 (l.getD i 0),h):=by
 obtain ⟨h1,h2,h3⟩:=ba e
 obtain ⟨b,off,s,k,rfl,hk,hlen,hc⟩:=h3 (by omega)
 refine ⟨b,off+i,rfl,?_,bf hk (hc i hi) rfl⟩
 unfold cD
 simp only [aN]
 rw [if_pos (by omega),Int.toNat_natCast,Nat.mul_one]
end
section
theorem is39:bB Tryz.prog 39 Tryz.f39:=⟨by kernel_rfl,by kernel_rfl,by kernel_rfl,by kernel_rfl⟩
theorem take_snocN {l:List Nat} {i:Nat} (h:i<l.length):l.take (i+1)=l.take i ++ [l.getD i 0]:=by
 rw [List.take_add_one,List.getElem?_eq_getElem h,List.getD_eq_getElem?_getD,List.getElem?_eq_getElem h];rfl
theorem xor_add {m:Nat} (hm:m<16) (q:Nat):16*q ^^^ m=16*q+m:=by
 apply Nat.eq_of_testBit_eq
 intro i
 have h1:=Nat.testBit_two_pow_mul_add (i:=4) (b:=m) q hm i
 rw [Nat.testBit_xor,show (16:Nat)=2^4 from rfl,h1,Nat.testBit_two_pow_mul]
 by_cases hi:i<4
 ·rw [if_pos hi,decide_eq_false (by omega),Bool.false_and,Bool.false_xor]
 ·rw [if_neg hi,decide_eq_true (by omega),Bool.true_and,Nat.testBit_lt_two_pow (Nat.lt_of_lt_of_le hm (Nat.pow_le_pow_right (n:=2) (by decide) (show 4≤i by omega))),Bool.xor_false]
theorem half_xor (a b:Nat):(a ^^^ b)/2=a/2 ^^^ b/2:=by
 have:=Nat.shiftRight_xor_distrib (a:=a) (b:=b) (i:=1)
 rw [Nat.shiftRight_eq_div_pow,Nat.shiftRight_eq_div_pow,Nat.shiftRight_eq_div_pow] at this
 exact this
theorem bit_xor (a b:Nat):bx (a ^^^ b)=bx a ^^^ bx b:=by
 unfold bx
 have hm:(a ^^^ b)%2=(a+b)%2:=by
  have h:=Nat.xor_mod_two_pow (a:=a) (b:=b) (n:=1)
  rw [show (2:Nat)^1=2 from rfl] at h
  rw [h]
  rcases Nat.mod_two_eq_zero_or_one a with ha|ha<;>rcases Nat.mod_two_eq_zero_or_one b with hb|hb<;>rw [ha,hb]<;>simp<;>omega
 rw [half_xor,hm]
 rcases Nat.mod_two_eq_zero_or_one a with ha|ha<;>rcases Nat.mod_two_eq_zero_or_one b with hb|hb
 ·rw [show (a+b)%2=0 by omega,ha,hb];simp
 ·rw [show (a+b)%2=1 by omega,ha,hb,Nat.mul_one,Nat.mul_zero,Nat.xor_zero,Nat.xor_assoc]
 ·rw [show (a+b)%2=1 by omega,ha,hb,Nat.mul_one,Nat.mul_zero,Nat.xor_zero,Nat.xor_assoc,Nat.xor_comm (b/2),Nat.xor_assoc]
 ·rw [show (a+b)%2=0 by omega,ha,hb,Nat.mul_one,Nat.mul_zero,Nat.xor_zero]
  generalize (0x82f63b78:Nat)=p
  rw [Nat.xor_assoc,←Nat.xor_assoc p,Nat.xor_comm p,Nat.xor_assoc,Nat.xor_self,Nat.xor_zero]
theorem bit_even (q:Nat):bx (2*q)=q:=by
 unfold bx
 rw [show 2*q/2=q by omega,show 2*q%2=0 by omega,Nat.mul_zero,Nat.xor_zero]
theorem bit4 (r:Nat):bx (bx (bx (bx r)))=eQ fN r:=by
 have hr:r=16*(r/16) ^^^ r%16:=by rw [xor_add (by omega)];omega
 have h16:bx (bx (bx (bx (16*(r/16)))))=r/16:=by
  rw [show 16*(r/16)=2*(2*(2*(2*(r/16)))) by omega,bit_even,bit_even,bit_even,bit_even]
 calc bx (bx (bx (bx r)))=bx (bx (bx (bx (16*(r/16) ^^^ r%16)))):=by rw [←hr]
  _=bx (bx (bx (bx (16*(r/16))))) ^^^ bx (bx (bx (bx (r%16)))):=by rw [bit_xor,bit_xor,bit_xor,bit_xor]
  _=eQ fN r:=by rw [h16,Nat.xor_comm];rfl
theorem bit_if (r:Nat):bx r=if r%2=1 then r/2 ^^^ 2197175160 else r/2:=by
 unfold bx
 rcases Nat.mod_two_eq_zero_or_one r with h|h
 ·rw [h,if_neg (by decide),Nat.mul_zero,Nat.xor_zero]
 ·rw [h,if_pos rfl,Nat.mul_one]
theorem crcIter8 (r x:Nat):dN (r ^^^ x) 8=er r x:=by
 show bx (bx (bx (bx (bx (bx (bx (bx (r ^^^ x))))))))=eQ fN (eQ fN (r ^^^ x))
 rw [bit4,bit4]
theorem crc_in (X:Nat→Value) (g:ak) {c0:Nat} (hc:c0<4294967296) (x3:X 3=u32 c0) (x5:X 5=aN 0) :
  Fin 33 (fun ex y g'=>ex = .exit 2∧g'=g∧y 0=X 0∧y 4=X 4∧y 3=u32 (dN c0 8)) (iter (aL Tryz.prog CW (partOf Tryz.f39 [1,1,0,1,0,0,1,0,0,1,1,0,0])) rounds (aX 33 X) g):=by
 refine cn (t39l39_110100100110_eq CW) (Inv:=fun k y g' => ∃ i,i+k=8∧y 5=aN i∧g'=g∧y 0=X 0∧y 4=X 4∧y 3=u32 (dN c0 i)) ?_ 8 (by have:rounds=18446744073709551616:=rfl;omega) ⟨0,rfl,x5,rfl,rfl,rfl,x3⟩
 rintro k y g' ⟨i,hik,y5,rfl,y0,y4,y3⟩
 have hlss:bin Tryz.prog .lss 3 (aN i) (.int .i64 8)=some (.bool (decide (i<8))):=dI i 8
 unfold eU
 simp -implicitDefEqProofs only [y5,ah,hlss,aq]
 by_cases hi:i<8
 ·have hci:=crcIter_lt hc i
  obtain ⟨o1,o2,_,_⟩:=crc_bit_ops hci
  have hx:=bin_xor_nat Tryz.prog 50 (k := .u32) rfl (a:=dN c0 i/2) (b:=2197175160) (by show _<2^32;omega) (by show _<2^32;omega)
  have hx':bin Tryz.prog .xor 50 (u32 (dN c0 i/2)) (.int .u32 2197175160)=some (u32 (dN c0 i/2 ^^^ 2197175160)):=hx
  have hnext:=bit_if (dN c0 i)
  rcases Nat.mod_two_eq_zero_or_one (dN c0 i) with hm|hm
  ·rw [hm,if_neg (by decide)] at hnext
   have he:bin Tryz.prog .eql 50 (u32 (dN c0 i%2)) (.int .u32 1)=some (.bool false):=by rw [hm];kernel_rfl
   simp -implicitDefEqProofs only [decide_eq_true hi,ah,y3,o1,o2,he,aq,eT (show i+1≤9223372036854775807 by omega)]
   exact dw.next (k-1) (by omega) ⟨i+1,by omega,rfl,rfl,y0,y4,by show u32 _=u32 (bx (dN c0 i));rw [hnext]⟩
  ·rw [hm,if_pos rfl] at hnext
   have he:bin Tryz.prog .eql 50 (u32 (dN c0 i%2)) (.int .u32 1)=some (.bool true):=by rw [hm];kernel_rfl
   simp -implicitDefEqProofs only [decide_eq_true hi,ah,y3,o1,o2,he,hx',aq,eT (show i+1≤9223372036854775807 by omega)]
   exact dw.next (k-1) (by omega) ⟨i+1,by omega,rfl,rfl,y0,y4,by show u32 _=u32 (bx (dN c0 i));rw [hnext]⟩
 ·have:i=8:=by omega
  subst this
  simp -implicitDefEqProofs only [decide_eq_false hi]
  exact dw.out 2 ⟨rfl,rfl,y0,y4,y3⟩
theorem r39 {h:ak} (hG:4≤h.n0) {a:Option Addr} {n c:Nat} {l:List Nat} (e:aJ a n h=some l) (hn:n≤1000000):CW 39 [.slice a n c] h=some (u32 (crcN l),h):=by
 obtain ⟨hl,hb,_⟩:=ba e
 have hll:bE (.slice a n c)=some (aN n):=rfl
 refine aG is39 hG rfl ((t39_eq _ _ _).trans ?_)
 unfold t39
 simp -implicitDefEqProofs only [ah]
 refine cy (n:=33) (fin:=fun ex y g=>ex = .exit 0∧g=h∧y 3=u32 (l.foldl er 4294967295)) (Q:=fun o:Out=>o=some (u32 (crcN l),h))
  (cn (t39l39_11010_eq CW) (Inv:=fun k y g => ∃ i,i+k=n∧y 0 = .slice a n c∧y 4=aN i∧g=h∧y 3=u32 ((l.take i).foldl er 4294967295)) ?_ n (by have:rounds=18446744073709551616:=rfl;omega) ⟨0,Nat.zero_add _,rfl,rfl,rfl,rfl⟩) ?_
 ·rintro k y g ⟨i,hik,y0,y4,rfl,y3⟩
  unfold t39l39_11010
  simp -implicitDefEqProofs only [y4,y0,ah,hll,aq,dI]
  by_cases hi:i<n
  ·obtain ⟨b,p,_,i1,i2⟩:=byte_at (c:=c) e hi
   have hv:l.getD i 0<256:=by
    rw [List.getD_eq_getElem?_getD,List.getElem?_eq_getElem (by omega)]
    exact hb _ (List.getElem_mem _)
   have hc:(l.take i).foldl er 4294967295<4294967296:=crcFold_lt _ _ (by omega) (fun x hx=>hb x (List.mem_of_mem_take hx))
   have hw:IntKind.wrap .u32 ((l.getD i 0:Nat):Int)=((l.getD i 0:Nat):Int):=wrap_u32 (by omega) (by omega)
   have hx:=bin_xor_nat Tryz.prog 50 (k := .u32) rfl (a:=(l.take i).foldl er 4294967295) (b:=l.getD i 0) hc (by show _<2^32;omega)
   have hx2:(l.take i).foldl er 4294967295 ^^^ l.getD i 0<4294967296:=Nat.xor_lt_two_pow (n:=32) hc (by omega)
   simp -implicitDefEqProofs only [decide_eq_true hi,ah,y3,aq,i1,i2,u8,bX,hw,hx]
   refine cy (crc_in _ g hx2 rfl rfl) ?_
   rintro ex z g' ⟨rfl,rfl,z0,z4,z3⟩
   simp -implicitDefEqProofs only [bG,b39_12,if_true,t39k39_8_eq]
   unfold t39k39_8
   have z4:z 4=aN i:=z4.trans y4
   simp -implicitDefEqProofs only [z4,ah,aq,eT (show i+1≤9223372036854775807 by omega)]
   refine dw.next (k-1) (by omega) ⟨i+1,by omega,z0.trans y0,rfl,rfl,?_⟩
   show z 3=_
   rw [z3,crcIter8,take_snocN (by omega),List.foldl_append]
   rfl
  ·have:i=n:=by omega
   subst this
   simp -implicitDefEqProofs only [decide_eq_false hi]
   exact dw.out 0 ⟨rfl,rfl,by rw [List.take_of_length_le (by omega)] at y3;exact y3⟩
 ·rintro ex z g ⟨rfl,rfl,z3⟩
  simp -implicitDefEqProofs only [bG,b39_4,if_true,t39k39_2_eq]
  unfold t39k39_2
  simp -implicitDefEqProofs only [z3,ah,unA_xor_u32 (crcFold_lt l 4294967295 (by omega) hb),aq]
  rfl
end
section
theorem is58:bB Tryz.prog 58 Tryz.f58:=⟨by kernel_rfl,by kernel_rfl,by kernel_rfl,by kernel_rfl⟩
theorem b58_exit (C:av) (e:Env) (h:ak):b58_4 C 0 e h=k58_2 C e h:=rfl
theorem app_lit {g:ak} {N x:Nat} {v:Value} {l:List Nat} (o:cM g N v l) (h0:g.n0≤N) (hN:N≤g.next) (hx:x<256) (hl:l.length≤1000000) :
  ∃ v' g',aO 1 1 v (.slice (some ⟨g.next,0,none⟩) 1 1) (g.alloc [u8 x])=some (v',g')∧cM g' N v' (l ++ [x])∧Kept g g' (fun c=>dR v=some c):=by
 have ka:Old g (g.alloc [u8 x]):=Kept.alloc _ _ _
 obtain ⟨v',g',e1,e2,e3,_⟩:=append_ownB (c:=1) (o.dV ka (fun _ _ h=>h)) (by rw [ka.n0];exact h0) (Nat.le_trans hN ka.next) (bytes1 g hx) (by omega)
 exact ⟨v',g',e1,e2,(ka.mono (fun _ _ h=>h.elim)).also e3 (fun _ _ h=>h)⟩
theorem r58 (h:ak) (hG:4≤h.n0) {n k:Nat} (h1:1≤k) (hk:k≤8) (hn:n<18446744073709551616) : ∃ v h',CW 58 [.int .u64 (n:Int),aN k] h=some (v,h')∧cM h' h.next v (cG k n)∧Old h h':=by
 have oA:Old h (h.alloc []):=Kept.alloc _ _ _
 have nA:(h.alloc []).next=h.next+1:=ak.cA ..
 have own0:cM (h.alloc []) h.next (.slice (some ⟨h.next,0,none⟩) 0 0) []:=⟨OwnC.empty _ (Nat.le_refl _),by simp⟩
 have hn0:=h.bg
 have hsub:bin Tryz.prog .sub 3 (aN k) (.int .i64 1)=some (.int .i64 ((k:Int)-1)):=by
  unfold aN
  rw [bin_sub,dX (by omega) (by omega)]
 have key : ∀ o,t58 CW (.int .u64 (n:Int)) (aN k) h=o → ∃ v h',o=some (v,h')∧cM h' h.next v (cG k n)∧Old h h':=by
  intro o ho
  subst ho
  unfold t58
  simp -implicitDefEqProofs only [ah,bsl_bytes,hsub,aq]
  refine cy (n:=24) (fin:=fun ex y g=>ex = .exit 0∧cM g h.next (y 5) (cG k n)∧Old h g) (Q:=fun o:Out => ∃ v h',o=some (v,h')∧cM h' h.next v (cG k n)∧Old h h')
   (cn (t58l58_11010_eq CW) (Inv:=fun m y g=>m≤k∧y 0 = .int .u64 (n:Int)∧y 6 = .int .i64 ((m:Int)-1)∧Old h g ∧ ∃ cur,cM g h.next (y 5) cur∧cur++cG m n=cG k n) ?_ k (by have:rounds=18446744073709551616:=rfl;omega)
    ⟨Nat.le_refl _,rfl,rfl,oA,[],own0,rfl⟩) ?_
  ·rintro m y g ⟨hm,y0,y6,bm,cur,own,hcur⟩
   have hclen:cur.length+m=k:=by
    have:=congrArg List.length hcur
    simpa [aF] using this
   unfold t58l58_11010
   simp -implicitDefEqProofs only [y6,ah,aB,aq]
   by_cases hz:m=0
   ·subst hz
    have hd:decide ((((0:Nat):Int)-1)≥0)=false:=by decide
    simp -implicitDefEqProofs only [hd]
    have:cur=cG k n:=by simpa [cG] using hcur
    exact dw.out 0 ⟨rfl,this▸own,bm⟩
   ·obtain ⟨q,rfl⟩ : ∃ q,m=q+1:=⟨m-1,by omega⟩
    have hd:decide ((((q+1:Nat):Int)-1)≥0)=true:=decide_eq_true (by omega)
    have hcu:IntKind.wrap .u64 (((q+1:Nat):Int)-1)=((q:Nat):Int):=by
     rw [eY (by omega) (by omega)];omega
    have hm8:bin Tryz.prog .mul 51 (.int .u64 8) (.int .u64 ((q:Nat):Int))=some (.int .u64 ((8*q:Nat):Int)):=by
     rw [bin_mul,eY (by omega) (by omega)]
     exact congrArg (fun z=>some (Value.int .u64 z)) (by omega)
    have hsh:bin Tryz.prog .shr 25 (.int .u64 (n:Int)) (.int .u64 ((8*q:Nat):Int))=some (.int .u64 ((n/256^q:Nat):Int)):=by
     rw [eF Tryz.prog 25 (k := .u64) (k' := .u64) (b:=8*q) (by show 8*q≤64;omega)]
     rw [show (2:Nat)^(8*q)=256^q by rw [Nat.pow_mul]]
    have hcv:IntKind.wrap .u8 ((n/256^q:Nat):Int)=((n/256^q%256:Nat):Int):=by
     rw [wrap_u8_mod];omega
    have hlt8:n/256^q%256<256:=Nat.mod_lt _ (by decide)
    generalize hx:n/256^q%256=x at *
    obtain ⟨v',g',e1,e2,e3⟩:=app_lit own (by rw [bm.n0];exact hn0) bm.next hlt8 (by omega)
    have hsub2:bin Tryz.prog .sub 3 (.int .i64 (((q+1:Nat):Int)-1)) (.int .i64 1)=some (.int .i64 ((q:Int)-1)):=by
     rw [bin_sub,dX (by omega) (by omega)]
     exact congrArg (fun z=>some (Value.int .i64 z)) (by omega)
    simp -implicitDefEqProofs only [hd,y0,ah,aq,bX,hcu,hm8,hsh,hcv]
    rw [show (Value.int .u8 (x:Int))=u8 x from rfl,bsl1]
    simp -implicitDefEqProofs only [ah,e1,hsub2,aq]
    refine dw.next q (by omega) ⟨by omega,y0,rfl,bm.also e3 (fun c hc hb=>by have:=own.own.base hb;omega),cur ++ [x],e2,?_⟩
    rw [←hcur,cG,hx,List.append_assoc];rfl
  ·rintro ex z g ⟨rfl,own,bm⟩
   simp -implicitDefEqProofs only [bG,b58_exit,t58k58_2_eq]
   unfold t58k58_2
   exact ⟨_,g,rfl,own,bm⟩
 obtain ⟨v,h',e,o⟩:=key _ rfl
 exact ⟨v,h',aG is58 hG rfl ((t58_eq _ _ _ _).trans e),o⟩
end
section
theorem OwnC.bE {h:ak} {N size:Nat} {v:Value} {len:Nat} {cells:List Value} (o:OwnC h N size v len cells):bE v=some (aN len):=by
 obtain ⟨_,_,_,⟨rfl,h4⟩|⟨b,s,rfl,_⟩⟩:=o
 ·subst h4;rfl
 ·rfl
end
section
attribute [local congr] aP
end
section
end
end Go.Proofs.YtjghlcdidopcpaaGreatDoor

namespace Go.Proofs.YtjghlcdidopcpaaGreatDoor
open Go Go.Abs
attribute [local congr] aP
theorem veqL_append : ∀ a b:List Value,Abs.veqL (a++b) (a++b)=(Abs.veqL a a&&Abs.veqL b b)
 | [],b=>by simp [Abs.veqL]
 |x::a,b=>by
  have ih:=veqL_append a b
  simp only [List.cons_append,Abs.veqL,ih,Bool.and_assoc]
theorem veqL_of : ∀ l:List Value,(∀ v∈l,Abs.fa v v=true)→Abs.veqL l l=true
 | [],_=>by simp [Abs.veqL]
 |x::a,h=>by
  have ih:=veqL_of a (fun v hv=>h v (List.mem_cons_of_mem _ hv))
  simp only [Abs.veqL,ih,h x (List.mem_cons_self ..),Bool.and_self]
theorem Kd.has.fa {k:Kd} {v:Value} (h:k.has v):Abs.fa v v=true:=by
 cases k with
 |u8=>obtain ⟨n,rfl,_⟩:=h;simp [Abs.fa]
 |i k=>obtain ⟨n,rfl,_⟩:=h;simp [Abs.fa]
 |b=>obtain ⟨t,rfl⟩:=h;simp [Abs.fa]
theorem Typed.fa {ks:List Kd} {cs:List Value} (h:Typed ks cs):Abs.veqL cs cs=true:=veqL_of _ fun v hv=>by
 obtain ⟨j,hj⟩:=List.mem_iff_getElem?.1 hv
 have hj2:=(List.getElem?_eq_some_iff.1 hj).1
 rw [h.1] at hj2
 obtain ⟨w,hw,hk⟩:=h.2 j _ (List.getElem?_eq_getElem hj2)
 rw [hj] at hw
 cases hw
 exact hk.fa
theorem veqM {h:ak} {s:cP} {n:N6} {M:bD} (x:SlV h s n M) (ok:M.Ok):Abs.fa (.agg (M.cells s).toArray) (.agg (M.cells s).toArray)=true:=by
 have e:Abs.fa (.agg (M.cells s).toArray) (.agg (M.cells s).toArray)=Abs.veqL (M.cells s) (M.cells s):=by
  show Abs.fa (.agg ⟨M.cells s⟩) (.agg ⟨M.cells s⟩)=_
  rw [Abs.fa]
 rw [e]
 unfold bD.cells bD.front bD.dv
 simp only [veqL_append,ok.root.fa,ok.obj.fa,ok.cp.fa,Abs.veqL,x.a.fa,x.b.fa,x.c.fa,x.d.fa,x.e.fa,x.f.fa,Abs.fa,beq_self_eq_true,Bool.and_self]
theorem splice_two (k:List Value) (o:Nat) (v w:Value) (ho:o+2≤k.length):bw k o [v,w]=(k.set o v).set (o+1) w:=by
 unfold bw
 refine List.ext_getElem? fun i => ?_
 have hl:(k.take o).length=o:=by rw [List.length_take];omega
 rw [List.append_assoc]
 by_cases h1:i<o
 ·rw [List.getElem?_append_left (by omega),List.getElem?_take,if_pos h1,List.getElem?_set_ne (by omega),List.getElem?_set_ne (by omega)]
 ·rw [List.getElem?_append_right (by omega),hl]
  rcases (show i=o∨i=o+1∨o+2≤i by omega) with rfl|rfl|h2
  ·rw [Nat.sub_self,List.getElem?_set_ne (by omega),List.getElem?_set_self (by omega)];rfl
  ·rw [Nat.add_sub_cancel_left,List.getElem?_set_self (by rw [List.length_set];omega)];rfl
  ·rw [List.getElem?_append_right (by simp;omega),List.getElem?_drop,List.getElem?_set_ne (by omega),List.getElem?_set_ne (by omega)]
   congr 1
   simp only [List.length_cons,List.length_nil]
   omega
end Go.Proofs.YtjghlcdidopcpaaGreatDoor

namespace Go.Proofs.YtjghlcdidopcpaaGreatDoor
open Go Go.Abs
attribute [local congr] aP
theorem one_new (h:ak) {Z k:dA} (hz:Z.length=116) (hk:k.length=116) (ho:aS k=true) : ∃ h2,dH 116 (ptr h.next 0) (.agg k.toArray) (h.alloc Z)=some (undef,h2)∧Old h h2∧h2.get h.next=some k∧h2.next=h.next+1:=by
 have g:(h.alloc Z).get h.next=some Z:=by rw [ak.aM,if_pos rfl]
 have o:Old h (h.alloc Z):=Kept.alloc _ _ _
 have hn:(h.alloc Z).n0≤h.next:=by rw [o.n0];exact h.bg
 have k1:Kept (h.alloc Z) ((h.alloc Z).set h.next k) (· = h.next):=Kept.set hn g (.inr rfl)
 exact ⟨_,stN_whole g hn hz hk ho,o.also k1 (fun d hd e=>by omega),ak.cS hn g _,rfl⟩
theorem SlV.lt {h:ak} {s:cP} {n:N6} {M:bD} (x:SlV h s n M) {p:Nat} (hp:h.next≤p):s.off (fun b=>p≤b):=by
 rintro v (rfl|rfl|rfl|rfl|rfl|rfl) y hy hb
 ·have:=x.a.lt hy;omega
 ·have:=x.b.lt hy;omega
 ·have:=x.c.lt hy;omega
 ·have:=x.d.lt hy;omega
 ·have:=x.e.lt hy;omega
 ·have:=x.f.lt hy;omega
theorem neq_bool (a b:Bool):bin Tryz.prog .neq 4 (.bool a) (.bool b)=some (.bool (a != b)):=by cases a<;>cases b<;>kernel_rfl
section
variable {h:ak} {s s':cP} {n n':N6} {M M':bD} (hG:4≤h.n0) (x:SlV h s n M) (x':SlV h s' n' M') (ok:M.Ok) (ok':M'.Ok)
include hG x x' ok ok'
end
end Go.Proofs.YtjghlcdidopcpaaGreatDoor

