/-
  A part of the proof, spaces and names shortened by a program (a claim may hold 1,500,000 bytes).
  Conditions: as each theorem states.
-/
import Derived.Test.YtjghlcdidopcpaaGreatDoorG10
namespace Go.Proofs.YtjghlcdidopcpaaGreatDoor
open Go Go.Abs
section
def bM (c:Nat):Nat:=(c/2) ^^^ (0x82f63b78*(c%2))
def gh (i:Nat):Nat:=bM (bM (bM (bM i)))
def fl (tab:Nat→Nat) (r:Nat):Nat:=tab (r%16) ^^^ (r/16)
def eK (r x:Nat):Nat:=fl gh (fl gh (r ^^^ x))
def crcN (l:List Nat):Nat:=4294967295 ^^^ l.foldl eK 4294967295
theorem crcBit_lt {c:Nat} (h:c<4294967296):bM c<4294967296:=by
 unfold bM
 have h1:c/2<2^32:=by omega
 have h2:0x82f63b78*(c%2)<2^32:=by omega
 exact Nat.xor_lt_two_pow h1 h2
theorem crcTab_lt {c:Nat} (h:c<4294967296):gh c<4294967296:=crcBit_lt (crcBit_lt (crcBit_lt (crcBit_lt h)))
theorem crcHalf_lt {tab:Nat→Nat} (ht : ∀ q,q<16→tab q<4294967296) {r:Nat} (h:r<4294967296):fl tab r<4294967296:=
 Nat.xor_lt_two_pow (n:=32) (ht _ (by omega)) (by omega)
theorem crcMix_lt {r:Nat} (h:r<4294967296):fl gh r<4294967296:=crcHalf_lt (fun q hq=>crcTab_lt (by omega)) h
theorem crcStep_lt {r x:Nat} (h:r<4294967296) (hx:x<256):eK r x<4294967296:=
 crcMix_lt (crcMix_lt (Nat.xor_lt_two_pow (n:=32) h (by omega)))
theorem crcFold_lt : ∀ (l:List Nat) (r:Nat),r<4294967296→(∀ x∈l,x<256)→l.foldl eK r<4294967296
 | [],r,h,_=>h
 |x::l,r,h,hx=>crcFold_lt l _ (crcStep_lt h (hx x List.mem_cons_self)) (fun y hy=>hx y (List.mem_cons_of_mem _ hy))
def ey (c:Nat):Nat→Nat
 | 0=>c
 |i+1=>bM (ey c i)
theorem crcIter_lt {c:Nat} (hc:c<4294967296) : ∀ i,ey c i<4294967296
 | 0=>hc
 |i+1=>crcBit_lt (crcIter_lt hc i)
section
variable (C:au)
theorem crc_bit_ops {c:Nat} (hc:c<4294967296):bin Tryz.prog .shr 50 (u32 c) (.int .u64 1)=some (u32 (c/2))∧bin Tryz.prog .and 50 (u32 c) (.int .u32 1)=some (u32 (c%2)) ∧
  bin Tryz.prog .mul 50 (.int .u32 2197175160) (u32 (c%2))=some (u32 (2197175160*(c%2)))∧bin Tryz.prog .xor 50 (u32 (c/2)) (u32 (2197175160*(c%2)))=some (u32 (bM c)):=by
 refine ⟨?_,?_,?_,?_⟩
 ·exact bin_shr_nat Tryz.prog 50 (k := .u32) (k' := .u64) (a:=c) (b:=1) (by decide)
 ·have h1:=bin_and_nat Tryz.prog 50 (k := .u32) rfl (a:=c) (b:=1) hc (by decide)
  rw [Nat.and_one_is_mod] at h1
  exact h1
 ·rw [bin_mul,wrap_u32_mod]
  congr 2
  omega
 ·exact fQ Tryz.prog 50 (k := .u32) rfl (a:=c/2) (b:=2197175160*(c%2)) (by show _<2^32;omega) (by show _<2^32;omega)
theorem crc_inner (x:Nat→Value) (h:aj) (c:Nat) (hc:c<4294967296) (h5:x 5=u32 c) (h14:x 14 = .int .i64 0) :
  ∃ x',iter (aM Tryz.prog C (partOf Tryz.f34 [1,1,0,1,0,0,1,1,0,0,1,1,0,1,0,0])) rounds (aJ 54 x) h=some (.exit 2,aJ 54 x',h)∧x' 5=u32 (gh c) ∧
    x' 0=x 0∧x' 3=x 3∧x' 4=x 4∧x' 9=x 9:=by
 obtain ⟨ex,x',h',h1,rfl,rfl,h2⟩:=loop_inv (t34l34_110100110011010_eq C)
  (Inv:=fun k y h1=>k≤4∧h1=h∧y 5=u32 (ey c (4-k))∧y 14=aH (4-k)∧y 0=x 0∧y 3=x 3∧y 4=x 4∧y 9=x 9)
  (fin:=fun ex y h1=>ex = .exit 2∧h1=h∧y 5=u32 (gh c)∧y 0=x 0∧y 3=x 3∧y 4=x 4∧y 9=x 9)
  (by
   rintro k y _ ⟨hk,rfl,i5,i14,i0,i3,i4,i9⟩
   obtain ⟨o1,o2,o3,o4⟩:=crc_bit_ops (crcIter_lt hc (4-k))
   unfold ep
   simp -implicitDefEqProofs only [i5,i14,aH,aC,ak,af]
   by_cases hz:k=0
   ·subst hz
    refine ⟨_,_,_,rfl,.inr ⟨by simp,rfl,rfl,?_⟩⟩
    simp -implicitDefEqProofs only [eh,fW,i5,i0,i3,i4,i9,Nat.reduceEqDiff,if_false,and_true]
    rfl
   ·have hlt:((4-k:Nat):Int)<4:=by omega
    simp -implicitDefEqProofs only [decide_eq_true hlt,o1,o2,o3,o4,ak,af,bin_add]
    refine ⟨_,_,_,rfl,.inl ⟨rfl,k-1,by omega,by omega,rfl,?_⟩⟩
    simp -implicitDefEqProofs only [eh,fW,i0,i3,i4,i9,Nat.reduceEqDiff,if_false,if_true,and_true]
    refine ⟨?_,?_⟩
    ·have:4-(k-1)=(4-k)+1:=by omega
     rw [this];rfl
    ·rw [wrap_i64 (by omega) (by omega)]
     congr 1
     omega)
  (k:=4) (by decide) ⟨by omega,rfl,h5,h14,rfl,rfl,rfl,rfl⟩
 exact ⟨x',h1,h2⟩
def fu (i:Nat):dB:=(List.range 16).map fun j=>u32 (if j<i then gh j else 0)
theorem tabBlk_length (i:Nat):(fu i).length=16:=by simp [fu]
theorem tabBlk_at {i j:Nat} (hj:j<16):(fu i)[j]? = some (u32 (if j<i then gh j else 0)):=by
 unfold fu
 rw [List.getElem?_map,List.getElem?_range hj];rfl
theorem tabBlk_set {i:Nat} (hi:i<16):(fu i).set i (u32 (gh i))=fu (i+1):=by
 apply List.ext_getElem?
 intro j
 rw [List.getElem?_set,tabBlk_length]
 by_cases hj:j<16
 ·rw [tabBlk_at hj,tabBlk_at hj]
  by_cases e:i=j
  ·subst e;simp [hi]
  ·rw [if_neg e]
   by_cases h2:j<i
   ·rw [if_pos h2,if_pos (by omega)]
   ·rw [if_neg h2,if_neg (by omega)]
 ·rw [List.getElem?_eq_none (by rw [tabBlk_length];omega),List.getElem?_eq_none (by rw [tabBlk_length];omega)]
  split
  ·omega
  ·rfl
theorem crc_table (x:Nat→Value) (h:aj) (B:Nat) (hB:h.n0≤B) (hg:h.get B=some (fu 0)) (h3:x 3=ptr B 0) (h9:x 9 = .int .i64 0) :
  ∃ x' h',iter (aM Tryz.prog C (partOf Tryz.f34 [1,1,0,1,0,0])) rounds (aJ 54 x) h=some (.exit 0,aJ 54 x',h')∧x' 0=x 0∧x' 3=ptr B 0∧Kept h h' (· = B)∧h'.get B=some (fu 16):=by
 obtain ⟨ex,x',h',h1,rfl,h2⟩:=loop_inv (t34l34_11010_eq C)
  (Inv:=fun k y h1=>k≤16∧y 9=aH (16-k)∧y 0=x 0∧y 3=ptr B 0∧Kept h h1 (· = B)∧h1.get B=some (fu (16-k)))
  (fin:=fun ex y h1=>ex = .exit 0∧y 0=x 0∧y 3=ptr B 0∧Kept h h1 (· = B)∧h1.get B=some (fu 16))
  (by
   rintro k y h1 ⟨hk,i9,i0,i3,ik,ig⟩
   unfold t34l34_11010
   simp -implicitDefEqProofs only [i9,aH,aC,ak,af]
   by_cases hz:k=0
   ·subst hz
    refine ⟨_,_,_,rfl,.inr ⟨by simp,rfl,?_⟩⟩
    simp -implicitDefEqProofs only [eh,fW,i0,i3,Nat.reduceEqDiff,if_false,true_and]
    exact ⟨ik,ig⟩
   ·have hlt:((16-k:Nat):Int)<16:=by omega
    have hw:IntKind.wrap .u32 ((16-k:Nat):Int)=((16-k:Nat):Int):=wrap_u32 (by omega) (by omega)
    simp -implicitDefEqProofs only [decide_eq_true hlt,bq,af,hw]
    obtain ⟨z,hz1,z5,z0,z3,z4,z9⟩:=crc_inner C (up y [(4,.int .i64 ((16-k:Nat):Int)),(5,u32 (16-k)),(10,.bool true),(11,.int .i64 ((16-k:Nat):Int)),(12,.int .i64 ((16-k:Nat):Int)),(13,u32 (16-k)),(14,.int .i64 0)]) h1 (16-k) (by omega) rfl rfl
    rw [hz1]
    simp -implicitDefEqProofs only [eh,fW,Nat.reduceEqDiff,if_false,if_true] at z0 z3 z4 z9
    simp -implicitDefEqProofs only [bE,b34_17,if_true,t34k34_15_eq]
    have hlt2:(0:Int)≤((16-k:Nat):Int)∧((16-k:Nat):Int)<((16:Nat):Int):=by omega
    unfold t34k34_15
    simp -implicitDefEqProofs only [z3,i3,z4,z5,idxA,hlt2,and_self,if_true,al,ak,af,Nat.zero_add,Int.toNat_natCast,Nat.mul_one]
    rw [stN1_at ig (by rw [tabBlk_length];omega) (by rw [ik.n0];exact hB) rfl rfl,tabBlk_set (by omega)]
    simp -implicitDefEqProofs only [af,t34k34_11_eq]
    unfold t34k34_11
    simp -implicitDefEqProofs only [eh,fW,Nat.reduceEqDiff,if_false,if_true,z9,i9,bin_add,ak,af]
    refine ⟨_,_,_,rfl,.inl ⟨rfl,k-1,by omega,by omega,?_⟩⟩
    have hb:h1.n0≤B:=by rw [ik.n0];exact hB
    have e1:16-(k-1)=16-k+1:=by omega
    simp -implicitDefEqProofs only [eh,fW,Nat.reduceEqDiff,if_false,if_true,z0,i0,z3,i3,true_and,e1]
    refine ⟨?_,ik.trans (Kept.set hb ig (.inr rfl)),aj.cx hb ig _⟩
    rw [wrap_i64 (by omega) (by omega)]
    congr 1)
  (k:=16) (by decide) ⟨by omega,h9,rfl,h3,Kept.refl _ _,hg⟩
 exact ⟨x',h',h1,h2⟩
end
theorem crc_mix (tab:Nat→Nat) (ht : ∀ q,q<16→tab q<4294967296) (r:Nat) (hr:r<4294967296):bin Tryz.prog .and 50 (u32 r) (.int .u32 15)=some (u32 (r%16))∧bin Tryz.prog .shr 50 (u32 r) (.int .u64 4)=some (u32 (r/16)) ∧
  bin Tryz.prog .xor 50 (u32 (tab (r%16))) (u32 (r/16))=some (u32 (fl tab r)):=by
 refine ⟨?_,?_,?_⟩
 ·have h1:=bin_and_nat Tryz.prog 50 (k := .u32) rfl (a:=r) (b:=15) hr (by decide)
  rw [show r &&& 15=r%16 from Nat.and_two_pow_sub_one_eq_mod r 4] at h1
  exact h1
 ·exact bin_shr_nat Tryz.prog 50 (k := .u32) (k' := .u64) (a:=r) (b:=4) (by decide)
 ·exact fQ Tryz.prog 50 (k := .u32) rfl (ht _ (by omega)) (by show _<2^32;omega)
section
variable (C:au)
theorem crc_round (tab:Nat→Nat) (ht : ∀ q,q<16→tab q<4294967296) (y:Nat→Value) (h:aj) (B:Nat) (blk:dB) (hg:h.get B=some blk) (hblk : ∀ q,q<16→blk[q]? = some (u32 (tab q)))
  (b off len c i V R:Nat) (s:Option Nat) (kb:dB) (hkb:h.get b=some kb) (hcell:kb[off+i]? = some (u8 V)) (hV:V<256) (hR:R<4294967296) (hi:i<len) (hlen:len<9223372036854775807)
  (i3:y 3=ptr B 0) (i6:y 6=u32 R) (i27:y 27 = .slice (some ⟨b,off,s⟩) len c) (i28:y 28=aH len) (i29:y 29=aH i) :
  ∃ y',eT C y h=some (.normal,aJ 54 y',h)∧y' 3=y 3∧y' 6=u32 (fl tab (fl tab (R ^^^ V)))∧y' 27=y 27∧y' 28=y 28∧y' 29=aH (i+1):=by
 have hlt:(i:Int)<(len:Int):=by omega
 have hidx:(0:Int)≤(i:Int)∧(i:Int)<(len:Int):=by omega
 have hw:IntKind.wrap .u32 ((V:Nat):Int)=(V:Int):=wrap_u32 (by omega) (by omega)
 have hx:=fQ Tryz.prog 50 (k := .u32) rfl (a:=R) (b:=V) hR (by show _<2^32;omega)
 have hr1:R ^^^ V<4294967296:=Nat.xor_lt_two_pow (n:=32) hR (by omega)
 generalize R ^^^ V=R1 at *
 obtain ⟨a1,a2,a3⟩:=crc_mix tab ht _ hr1
 have hr2:=crcHalf_lt ht hr1
 generalize fl tab R1=R2 at *
 obtain ⟨b1,b2,b3⟩:=crc_mix tab ht _ hr2
 generalize fl tab R2=R3 at *
 have hi1 : ∀ q:Nat,(0:Int)≤((q%16:Nat):Int)∧((q%16:Nat):Int)<((16:Nat):Int):=fun q=>by omega
 have hld : ∀ q:Nat,aN (ptr B (q%16)) h=some (u32 (tab (q%16)),h):=fun q=>aV hg (hblk _ (by omega))
 unfold eT
 simp -implicitDefEqProofs only [i28,i29,aH,aC,ak,af,decide_eq_true hlt,i27,bB,hidx,and_self,if_true,Int.toNat_natCast,Nat.mul_one,aV hkb hcell,bq,hw,i6,hx,a1,i3,idxA,hi1,al,Nat.zero_add,hld,a2,a3,b1,b2,b3,bin_add]
 refine ⟨_,rfl,?_⟩
 simp -implicitDefEqProofs only [eh,fW,Nat.reduceEqDiff,if_false,if_true,i3,i27,i28,true_and]
 rw [wrap_i64 (by omega) (by omega)]
 rfl
theorem crc_bytes (x:Nat→Value) (h:aj) (B:Nat) (a:Option Addr) (n c:Nat) (l:List Nat) (hg:h.get B=some (fu 16)) (hl:ay a n h=some l)
  (h3:x 3=ptr B 0) (h6:x 6=u32 4294967295) (h27:x 27 = .slice a n c) (h28:x 28=aH n) (h29:x 29 = .int .i64 0) (hn:n<rounds) (hn2:n<9223372036854775807) :
  ∃ x',iter (aM Tryz.prog C (partOf Tryz.f34 [1,1,1,1,0,1,0,0])) rounds (aJ 54 x) h=some (.exit 4,aJ 54 x',h)∧x' 6=u32 (l.foldl eK 4294967295):=by
 obtain ⟨hlen,hb,hat⟩:=aw hl
 obtain ⟨ex,x',h',h1,rfl,rfl,h2⟩:=loop_inv (t34l34_1111010_eq C)
  (Inv:=fun k y h1=>k≤n∧h=h1∧y 3=ptr B 0∧y 6=u32 ((l.take (n-k)).foldl eK 4294967295)∧y 27 = .slice a n c∧y 28=aH n∧y 29=aH (n-k))
  (fin:=fun ex y h1=>ex = .exit 4∧h1=h∧y 6=u32 (l.foldl eK 4294967295))
  (by
   rintro k y _ ⟨hk,rfl,i3,i6,i27,i28,i29⟩
   by_cases hz:k=0
   ·subst hz
    unfold eT
    simp -implicitDefEqProofs only [i28,i29,aH,aC,ak,af]
    simp -implicitDefEqProofs only [Nat.sub_zero,Int.lt_irrefl,decide_false]
    refine ⟨_,_,_,rfl,.inr ⟨by simp,rfl,rfl,?_⟩⟩
    simp -implicitDefEqProofs only [eh,fW,Nat.reduceEqDiff,if_false,i6,Nat.sub_zero]
    rw [List.take_of_length_le (by omega)]
   ·have e1:n-(k-1)=n-k+1:=by omega
    have hnk:n-k<n:=by omega
    have hlt2:n-k<l.length:=by omega
    obtain ⟨b,off,s,kb,rfl,hkb,hkl,hat2⟩:=hat (by omega)
    have hcell:=hat2 (n-k) hnk
    clear hat hat2
    have hr:((l.take (n-k)).foldl eK 4294967295)<4294967296:=crcFold_lt _ _ (by omega) (fun m hm=>hb m (List.mem_of_mem_take hm))
    have hbv:l.getD (n-k) 0<256:=by
     rw [List.getD_eq_getElem?_getD,List.getElem?_eq_getElem hlt2]
     exact hb _ (List.getElem_mem _)
    obtain ⟨y',q1,q3,q6,q27,q28,q29⟩:=crc_round C gh (fun q hq=>crcTab_lt (by omega)) y h B (fu 16) hg (fun q hq=>by rw [tabBlk_at hq,if_pos hq]) b off n c (n-k) _ _ s kb hkb hcell hbv hr hnk hn2 i3 i6 i27 i28 i29
    refine ⟨_,_,_,q1,.inl ⟨rfl,k-1,by omega,by omega,rfl,q3.trans i3,?_,q27.trans i27,q28.trans i28,by rw [q29,e1]⟩⟩
    rw [q6,e1,List.take_add_one,List.foldl_append]
    have hV2:l[n-k]? = some (l.getD (n-k) 0):=by
     rw [List.getD_eq_getElem?_getD,List.getElem?_eq_getElem hlt2]
     rfl
    rw [hV2,Option.toList_some,List.foldl_cons,List.foldl_nil,eK])
  (k:=n) hn ⟨by omega,rfl,h3,by rw [h6,Nat.sub_self,List.take_zero,List.foldl_nil],h27,h28,by rw [h29,Nat.sub_self];rfl⟩
 exact ⟨x',h1,h2⟩
theorem bits_xor_nat {k:IntKind} (hk:k.signed=false) {a b:Nat} (ha:a<2^k.bits) (hb:b<2^k.bits):bitsA .xor k (a:Int) (b:Int)=some (.int k ((a ^^^ b:Nat):Int)):=by
 simp -implicitDefEqProofs only [bitsA,ofInt_natCast,BitVec.toNat_xor,BitVec.toNat_ofNat,Nat.mod_eq_of_lt ha,Nat.mod_eq_of_lt hb]
 rw [bits_u hk _ (Nat.xor_lt_two_pow ha hb)]
theorem unA_xor_u32 {r:Nat} (hr:r<4294967296):unA .xor (u32 r)=some (u32 (4294967295 ^^^ r)):=by
 have h0:4294967295<2^IntKind.bits .u32:=by show 4294967295<2^32;omega
 have h1:=bits_xor_nat (k := .u32) rfl (a:=4294967295) (b:=r) h0 hr
 have h2:IntKind.max .u32=((4294967295:Nat):Int):=by decide
 have h3:unA .xor (u32 r)=bitsA .xor .u32 (IntKind.max .u32) r:=rfl
 rw [h3,h2]
 exact h1
theorem t34_is (a:Option Addr) (n c:Nat) (l:List Nat) (h:aj) (hl:ay a n h=some l) (hn:n<9223372036854775807) :
  ∃ h1,t34 C (.slice a n c) h=some (u32 (crcN l),h1)∧Old h h1:=by
 unfold t34
 simp -implicitDefEqProofs only [cL,Abs.newRow,af]
 have hg0:(h.alloc (fu 0)).get h.next=some (fu 0):=by rw [aj.aS,if_pos rfl]
 have hz:List.replicate 16 (Value.int IntKind.u32 0)=fu 0:=rfl
 rw [hz]
 obtain ⟨x',h',h1,x0,x3,hk,hg⟩:=crc_table C (up (bs [.slice a n c]) [(2,.int .u32 0),(3,ptr h.next 0),(9,.int .i64 0)]) (h.alloc (fu 0)) h.next h.aK hg0 rfl rfl
 rw [h1]
 have x0':x' 0 = .slice a n c:=x0
 have hm : ∀ b k,h.get b=some k→h'.get b=some k:=by
  intro b k hb
  have hlt:=h.bc hb
  rw [hk.get b (by simp;omega) (by omega),aj.aS,if_neg (by omega)];exact hb
 simp -implicitDefEqProofs only [bE,b34_4,if_true,t34k34_2_eq]
 unfold t34k34_2
 simp -implicitDefEqProofs only [x0',lenL_slice,ak,af]
 obtain ⟨z,hz1,z6⟩:=crc_bytes C (up x' [(6,.int .u32 4294967295),(27,.slice a n c),(28,.int .i64 n),(29,.int .i64 0)]) h' h.next a n c l hg (sliceBytes_mono hl hm)
  (by simp -implicitDefEqProofs only [eh,fW,Nat.reduceEqDiff,if_false,x3]) rfl rfl rfl rfl (by have:rounds=18446744073709551616:=rfl;omega) hn
 rw [hz1]
 simp -implicitDefEqProofs only [bE,b34_8,if_true,t34k34_6_eq]
 unfold t34k34_6
 obtain ⟨_,hb,_⟩:=aw hl
 refine ⟨h',?_,(Kept.alloc h _ (fun _=>False)).cE hk (fun d hd e=>by omega)⟩
 simp -implicitDefEqProofs only [z6,af,unA_xor_u32 (crcFold_lt l 4294967295 (by omega) hb),ak,crcN]
end
end
section
section bytes
def spliceN (l:List Nat) (off:Nat) (xs:List Nat):List Nat:=l.take off++xs++l.drop (off+xs.length)
theorem spliceN_map (l:List Nat) (off:Nat) (xs:List Nat):bI (l.map u8) off (xs.map u8)=(spliceN l off xs).map u8:=by
 simp [bI,spliceN]
theorem copy_bytes {h:aj} {b off dl dc n c:Nat} {s:Option Nat} {a:Option Addr} {img l:List Nat} (hb:h.get b=some (img.map u8)) (h0:h.n0≤b) (hs:ay a n h=some l) (hlen:off+min n dl≤img.length) :
  ∃ g,copyA 1 (.slice (some ⟨b,off,s⟩) dl dc) (.slice a n c) h=some (aH (min n dl),g)∧g.n0=h.n0∧g.next=h.next∧g.get b=some ((spliceN img off (l.take (min n dl))).map u8)∧(∀ e,e≠b→g.get e=h.get e):=by
 have hl:=(aw hs).1
 unfold copyA
 simp only [lenA]
 rw [firstA_of hs (Nat.min_le_left n dl)]
 simp only
 by_cases h1:min n dl=0
 ·rw [if_pos h1]
  refine ⟨h,rfl,rfl,rfl,?_,fun _ _=>rfl⟩
  rw [h1,hb];simp [spliceN]
 ·rw [if_neg h1]
  refine ⟨h.set b ((spliceN img off (l.take (min n dl))).map u8),?_,rfl,rfl,aj.cx h0 hb _,fun e he=>aj.fC h0 (h.bc hb) _ he⟩
  unfold stL
  simp only [hb]
  rw [if_pos (by simp only [one_u8,List.length_map,List.length_take,Bool.and_true,Bool.and_eq_true,decide_eq_true_eq];exact ⟨h0,by omega⟩),spliceN_map]
  rfl
end bytes
end
section
end
section
def goodZ (a:Option Addr) (n c:Nat):Prop:=cn a n c=true∨(n=0∧c=0 ∧ ∀ y,a=some y→y.spot=some 0)
def BytesV (h:aj) (v:Value) (l:List Nat):Prop := ∃ a n c,v = .slice a n c∧ay a n h=some l∧n≤maxLen∧goodZ a n c
end
section
theorem get_kill {h:aj} {L:Nat} (h0:h.n0≤L) (hn:L<h.next) {c:Nat} (hc:c≠L):(h.kill L).get c=h.get c:=by
 unfold aj.kill
 rw [aj.get_put _ h0 hn,if_neg hc]
end
section
end
section
theorem IsR.lt {h:aj} {p r:Nat} {l:List Nat} {e:Int} (R:IsR h p r l e):r<h.next:=by
 obtain ⟨a,n,c,h1,_,_⟩:=R.ex
 exact h.bc h1
end
section
def Plain (h:aj) (b:Nat):Prop := ∃ k,h.get b=some k ∧ ∀ v∈k,nat8 v=none
end
section
def dm:Value→Option Nat
 | .slice (some a) _ _=>some a.block
 |_=>none
def dJ (h:aj) (N size:Nat) (v:Value) (len:Nat) (cells:List Value):Prop:=
 cells.length=len*size∧Abs.bH cells=true∧aQ cells=true ∧
 ((v = .slice none 0 0∧len=0) ∨ ∃ b s,v = .slice (some ⟨b,0,s⟩) len len∧N≤b∧((s=none∧len=0)∨(s=some size∧h.get b=some cells)))
theorem dJ.nil (h:aj) (N size:Nat):dJ h N size (.slice none 0 0) 0 []:=⟨by simp,rfl,rfl,.inl ⟨rfl,rfl⟩⟩
theorem dJ.empty (h:aj) {N size b:Nat} (hb:N≤b):dJ h N size (.slice (some ⟨b,0,none⟩) 0 0) 0 []:=⟨by simp,rfl,rfl,.inr ⟨b,none,rfl,hb,.inl ⟨rfl,rfl⟩⟩⟩
theorem dJ.bF {h h':aj} {N size:Nat} {v:Value} {len:Nat} {cells:List Value} (o:dJ h N size v len cells) {B:Nat→Prop} (k:Kept h h' B) (hB : ∀ b,dm v=some b → ¬B b):dJ h' N size v len cells:=by
 obtain ⟨h1,h2,h3,h4⟩:=o
 refine ⟨h1,h2,h3,?_⟩
 rcases h4 with h4|⟨b,s,rfl,h5,h6|⟨h6,h7⟩⟩
 ·exact .inl h4
 ·exact .inr ⟨b,s,rfl,h5,.inl h6⟩
 ·exact .inr ⟨b,s,rfl,h5,.inr ⟨h6,k.dj h7 (hB b rfl)⟩⟩
theorem noHoles_append (a b:List Value) (ha:Abs.bH a=true) (hb:Abs.bH b=true):Abs.bH (a++b)=true:=by
 unfold Abs.bH at *
 rw [List.all_append,ha,hb];rfl
theorem oneCells_append (a b:List Value) (ha:aQ a=true) (hb:aQ b=true):aQ (a++b)=true:=by
 unfold aQ at *
 rw [List.all_append,ha,hb];rfl
theorem dJ.base {h:aj} {N size:Nat} {v:Value} {len:Nat} {cells:List Value} (o:dJ h N size v len cells) {b:Nat} (hb:dm v=some b):N≤b:=by
 obtain ⟨_,_,_,⟨rfl,_⟩|⟨b',s,rfl,h5,_⟩⟩:=o
 ·cases hb
 ·cases hb;exact h5
theorem eS {h:aj} {N size by_ len m:Nat} {v x:Value} {cells news:List Value} (o:dJ h N size v len cells) (h0:h.n0≤N) (hN:N≤h.next) (hs:0<size) (hx:lenA x=some m) (hf:b0 size m x h=some news)
  (h1:aQ news=true) (h2:Abs.bH news=true) (hl:news.length=m*size) (hb:(len+m)*by_≤140737488355328) (hc:len+m≤4611686018427387904) :
  ∃ v' h',cl size by_ v x h=some (v',h')∧dJ h' N size v' (len+m) (cells++news)∧Kept h h' (fun c=>dm v=some c∧h.get c=some cells)∧(v'=v∨(dm v'=some h.next∧h.next<h'.next)):=by
 have o':=o
 obtain ⟨o1,o2,o3,o4⟩:=o
 have hcond : ∀ len':Nat,len'=len→(!(aQ news) || !(decide ((len'+m)*by_≤140737488355328)) || !(decide (len'+m≤4611686018427387904))||decide (news.length≠m*size))=false:=by
  rintro _ rfl
  rw [h1,decide_eq_true hb,decide_eq_true hc,decide_eq_false (by omega)];rfl
 by_cases hm:m=0
 ·subst hm
  have hn:news = []:=List.length_eq_zero_iff.1 (by omega)
  subst hn
  have ho:dJ h N size v (len+0) (cells ++ []):=by rw [List.append_nil];exact o'
  refine ⟨v,h,?_,ho,Kept.refl _ _,.inl rfl⟩
  rcases o4 with ⟨rfl,rfl⟩|⟨b,s,rfl,h5,h6⟩
  ·unfold cl
   simp only [hx,hf]
   rw [if_neg (by rw [hcond 0 rfl];decide),if_pos (by omega),if_pos trivial]
  ·unfold cl
   simp only [hx,hf]
   rw [if_neg (by rw [hcond len rfl];decide),if_pos (by omega),if_pos trivial]
 ·have fresh : ∀ cs:List Value,cs = []→len=0→dJ (h.alloc news) N size (.slice (some ⟨h.next,0,some size⟩) (len+m) (len+m)) (len+m) (cs++news):=by
   rintro _ rfl rfl
   exact ⟨by simpa using hl,by simpa using h2,by simpa using h1,.inr ⟨h.next,_,rfl,hN,.inr ⟨rfl,by rw [aj.aS,if_pos rfl];rfl⟩⟩⟩
  rcases o4 with ⟨rfl,rfl⟩|⟨b,s,rfl,h5,⟨rfl,rfl⟩|⟨rfl,h6⟩⟩
  ·have hce:cells = []:=List.length_eq_zero_iff.1 (by simpa using o1)
   refine ⟨_,_,?_,fresh cells hce rfl,Kept.alloc _ _ _,.inr ⟨rfl,by simp⟩⟩
   unfold cl
   simp only [hx,hf]
   rw [if_neg (by rw [hcond 0 rfl];decide),if_neg (by omega),if_pos trivial]
  ·have hce:cells = []:=List.length_eq_zero_iff.1 (by simpa using o1)
   refine ⟨_,_,?_,fresh cells hce rfl,Kept.alloc _ _ _,.inr ⟨rfl,by simp⟩⟩
   unfold cl
   simp only [hx,hf]
   have f0:b0 size 0 (.slice (some ⟨b,0,none⟩) 0 0) h=some []:=by simp [b0]
   rw [if_neg (by rw [hcond 0 rfl];decide),if_neg (by omega)]
   simp only [f0]
   rw [if_neg (by simp)];rfl
  ·have hf2:b0 size len (.slice (some ⟨b,0,some size⟩) len len) h=some cells:=by
    simp only [b0]
    by_cases hz:len*size=0
    ·rw [if_pos hz]
     have:cells = []:=List.length_eq_zero_iff.1 (by omega)
     rw [this]
    ·rw [if_neg hz]
     simp only [h6]
     have e:(cells.drop 0).take (len*size)=cells:=by rw [List.drop_zero,List.take_of_length_le (by omega)]
     simp only [e]
     rw [if_pos ⟨by omega,o2⟩]
   have hlt:=h.bc h6
   have hk : ∀ c,c<h.next→c≠b→((h.kill b).alloc (cells++news)).get c=h.get c:=by
    intro c hc hne
    rw [aj.aS,if_neg (by rw [aj.next_kill];omega)]
    exact get_kill (by omega) hlt hne
   refine ⟨.slice (some ⟨h.next,0,some size⟩) (len+m) (len+m),(h.kill b).alloc (cells++news),?_,⟨by rw [List.length_append,o1,hl,Nat.add_mul],noHoles_append _ _ o2 h2,oneCells_append _ _ o3 h1,.inr ⟨h.next,_,rfl,hN,.inr ⟨rfl,?_⟩⟩⟩,⟨rfl,by simp,fun c hc hB=>hk c hc (fun e=>hB (by rw [e];exact ⟨rfl,h6⟩))⟩,.inr ⟨rfl,by simp⟩⟩
   ·unfold cl
    simp only [hx,hf]
    rw [if_neg (by rw [hcond len rfl];decide),if_neg (by omega)]
    simp only [hf2]
    rw [if_neg (by simp [o1]),if_pos (by simp [h6];omega)]
   ·rw [aj.aS,if_pos (by rw [aj.next_kill])]
structure OwnB (h:aj) (N:Nat) (v:Value) (l:List Nat):Prop where
 own:dJ h N 1 v l.length (l.map u8)
 byte : ∀ x∈l,x<256
theorem OwnB.nil (h:aj) (N:Nat):OwnB h N (.slice none 0 0) []:=⟨.nil h N 1,by simp⟩
theorem OwnB.bF {h h':aj} {N:Nat} {v:Value} {l:List Nat} (o:OwnB h N v l) {B:Nat→Prop} (k:Kept h h' B) (hB : ∀ b,dm v=some b → ¬B b):OwnB h' N v l:=⟨o.own.bF k hB,o.byte⟩
theorem OwnB.bytes {h:aj} {N:Nat} {v:Value} {l:List Nat} (o:OwnB h N v l) : ∃ a c,v = .slice a l.length c∧ay a l.length h=some l∧cn a l.length c=true∧(∀ y,a=some y→N≤y.block)∧(∀ y,a=some y→dm v=some y.block):=by
 obtain ⟨⟨o1,o2,o3,o4⟩,ob⟩:=o
 rcases o4 with ⟨rfl,h4⟩|⟨b,s,rfl,h5,⟨rfl,h4⟩|⟨rfl,h6⟩⟩
 ·have:l = []:=List.length_eq_zero_iff.1 h4
  subst this
  exact ⟨none,0,rfl,rfl,rfl,fun y hy=>(by cases hy),fun y hy=>(by cases hy)⟩
 ·have:l = []:=List.length_eq_zero_iff.1 h4
  subst this
  exact ⟨_,_,rfl,rfl,rfl,fun y hy=>(by cases hy;exact h5),fun y hy=>(by cases hy;rfl)⟩
 ·refine ⟨_,_,rfl,?_,?_,fun y hy=>by cases hy;exact h5,fun y hy=>by cases hy;rfl⟩
  ·have:=sliceBytes_at (off:=0) (n:=l.length) (s:=some 1) h6 (by omega) ob
   rw [this,List.drop_zero,List.take_of_length_le (Nat.le_refl _)]
  ·unfold cn
   rw [Nat.ble_eq_true_of_le (Nat.le_refl _)];rfl
theorem append_ownB {h:aj} {N n c:Nat} {v:Value} {l m:List Nat} {a:Option Addr} (o:OwnB h N v l) (h0:h.n0≤N) (hN:N≤h.next) (hm:ay a n h=some m) (hb:l.length+n≤100000000) :
  ∃ v' h',cl 1 1 v (.slice a n c) h=some (v',h')∧OwnB h' N v' (l++m)∧Kept h h' (fun c=>dm v=some c)∧(v'=v∨(dm v'=some h.next∧h.next<h'.next)):=by
 obtain ⟨hl,hbt,_⟩:=aw hm
 have hf:=firstA_of hm (Nat.le_refl n) (c:=c)
 rw [List.take_of_length_le (by omega)] at hf
 obtain ⟨v',h',e1,e2,e3,e4⟩:=eS (by_:=1) o.own h0 hN (by decide) (show lenA (.slice a n c)=some n from rfl) hf (one_u8 _) (noHoles_u8 _) (by simp [hl]) (by omega) (by omega)
 refine ⟨v',h',e1,⟨?_,?_⟩,e3.mono (fun c _ hc=>hc.1),e4⟩
 ·rw [List.length_append,List.map_append,hl];exact e2
 ·intro x hx
  rcases List.mem_append.1 hx with hx|hx
  ·exact o.byte x hx
  ·exact hbt x hx
end
section
theorem sub3 {a b:Nat} (h:b≤a) (h2:a≤9223372036854775807):bin Tryz.prog .sub 3 (aH a) (aH b)=some (aH (a-b)):=by
 unfold aH;rw [bin_sub,wrap_i64 (by omega) (by omega)];exact congrArg (fun q=>some (Value.int .i64 q)) (by omega)
end
section
structure IsW (h:aj) (N w lim:Nat) (l:List Nat):Prop where
 ex : ∃ v,h.get w=some [aH lim,.bool false,v]∧OwnB h N v l∧dm v≠some w ∧ ∀ b,dm v=some b→b<h.next
 n0:h.n0≤N
 Nw:N≤w
 small:lim≤100000
 g4:4≤h.n0
def wb (h:aj) (w:Nat):Option Nat:=match h.get w with
 |some [_,_,v]=>dm v
 |_=>none
def Fr (h:aj) (w b:Nat):Prop:=b<h.next∧b≠w∧wb h w≠some b
structure WS (w:Nat) (h h':aj):Prop where
 n0:h'.n0=h.n0
 next:h.next≤h'.next
 get : ∀ b,Fr h w b→h'.get b=h.get b
 fr : ∀ b,Fr h w b→Fr h' w b
theorem WS.refl (w:Nat) (h:aj):WS w h h:=⟨rfl,Nat.le_refl _,fun _ _=>rfl,fun _ f=>f⟩
theorem WS.trans {w:Nat} {a b c:aj} (x:WS w a b) (y:WS w b c):WS w a c:=⟨y.n0.trans x.n0,Nat.le_trans x.next y.next,fun d f=>(y.get d (x.fr d f)).trans (x.get d f),fun d f=>y.fr d (x.fr d f)⟩
theorem WS.bytes {w:Nat} {h h':aj} (k:WS w h h') {a:Option Addr} {n:Nat} {l:List Nat} (e:ay a n h=some l) (hb : ∀ y,a=some y→0<n→Fr h w y.block):ay a n h'=some l:=by
 by_cases h0:n=0
 ·subst h0
  obtain ⟨hl,_,_⟩:=aw e
  have:l = []:=List.length_eq_zero_iff.1 hl
  subst this
  cases a with
  |none=>rfl
  |some x=>unfold ay b0;simp;rfl
 ·obtain ⟨_,_,h3⟩:=aw e
  obtain ⟨b,off,s,c,rfl,hc,_⟩:=h3 (by omega)
  rw [sliceBytes_congr (h:=h) (fun y hy=>by cases hy;exact k.get b (hb _ rfl (by omega)))]
  exact e
theorem IsW.lt {h:aj} {N w lim:Nat} {l:List Nat} (W:IsW h N w lim l):w<h.next:=by
 obtain ⟨v,h1,_⟩:=W.ex
 exact h.bc h1
theorem OwnB.nat8 {h:aj} {N:Nat} {v:Value} {l:List Nat} (o:OwnB h N v l):nat8 v=none:=by
 obtain ⟨a,c,rfl,_⟩:=o.bytes
 rfl
theorem OwnB.cell {h:aj} {N:Nat} {v:Value} {l:List Nat} (o:OwnB h N v l):v.cells = #[v]∧v.oneCell'=true∧isHole v=false:=by
 obtain ⟨a,c,rfl,_⟩:=o.bytes
 exact ⟨rfl,rfl,rfl⟩
def beB:Nat→Nat→List Nat
 | 0,_ => []
 |n+1,v=>(v/256^n%256)::beB n v
theorem IsW.bA {h h':aj} {N w lim:Nat} {l:List Nat} (W:IsW h N w lim l) (o:Old h h'):IsW h' N w lim l:=by
 obtain ⟨v,h1,h2,h3,h4⟩:=W.ex
 exact ⟨⟨v,o.dj h1 (fun h=>h),h2.bF o (fun _ _ h=>h),h3,fun b hb=>Nat.lt_of_lt_of_le (h4 b hb) o.next⟩,by rw [o.n0];exact W.n0,W.Nw,W.small,by rw [o.n0];exact W.g4⟩
theorem IsW.alloc {h:aj} {N w lim:Nat} {l:List Nat} (W:IsW h N w lim l) (k:dB):IsW (h.alloc k) N w lim l:=W.bA (Kept.alloc _ _ _)
theorem IsW.fr {h h':aj} {N w lim:Nat} {l:List Nat} (W:IsW h N w lim l) (o:Old h h') {b:Nat} (h1:h.next≤b) (h2:b<h'.next):Fr h' w b:=by
 obtain ⟨v,q1,_,_,q4⟩:=W.ex
 have hw:=W.lt
 refine ⟨h2,by omega,?_⟩
 have:wb h' w=dm v:=by
  unfold wb
  rw [o.dj q1 (fun h=>h)]
 rw [this]
 intro e
 have:=q4 b e
 omega
end
section
section
variable {h:aj} {N w lim:Nat} {l:List Nat} (W:IsW h N w lim l)
include W
theorem IsW.l2' {k:dB} {v:Value} (e:aN (ptr w 2) (h.alloc k)=some (v,h.alloc k)):aN (ptr w 2) h=some (v,h):=by
 obtain ⟨vv,q1,q2,q3⟩:=W.ex
 have e1:aN (ptr w 2) h=some (vv,h):=aV q1 rfl (q2.cell.2.2)
 have e2:aN (ptr w 2) (h.alloc k)=some (vv,h.alloc k):=aV (aj.get_alloc_some q1 _) rfl (q2.cell.2.2)
 rw [e2] at e
 simp only [Option.some.injEq,Prod.mk.injEq,and_true] at e
 rw [←e];exact e1
end
end
section
theorem BytesV.bA {h h':aj} {v:Value} {l:List Nat} (x:BytesV h v l) (k:Old h h'):BytesV h' v l:=by
 obtain ⟨a,n,c,rfl,h1,h2⟩:=x
 exact ⟨a,n,c,rfl,Old.bytes k h1,h2⟩
end
section
theorem byte_at {h:aj} {a:Option Addr} {n c i:Nat} {l:List Nat} (e:ay a n h=some l) (hi:i<n) : ∃ b p,a.map (·.block)=some b∧bB 1 (.slice a n c) (aH i)=some (ptr b p)∧aN (ptr b p) h=some (u8 (l.getD i 0),h):=by
 obtain ⟨h1,h2,h3⟩:=aw e
 obtain ⟨b,off,s,k,rfl,hk,hlen,hc⟩:=h3 (by omega)
 refine ⟨b,off+i,rfl,?_,aV hk (hc i hi) rfl⟩
 unfold bB
 simp only [aH]
 rw [if_pos (by omega),Int.toNat_natCast,Nat.mul_one]
end
section
theorem is38:bO Tryz.prog 38 Tryz.f38:=⟨by kernel_rfl,by kernel_rfl,by kernel_rfl,by kernel_rfl⟩
theorem is39:bO Tryz.prog 39 Tryz.f39:=⟨by kernel_rfl,by kernel_rfl,by kernel_rfl,by kernel_rfl⟩
theorem take_snocN {l:List Nat} {i:Nat} (h:i<l.length):l.take (i+1)=l.take i ++ [l.getD i 0]:=by
 rw [List.take_add_one,List.getElem?_eq_getElem h,List.getD_eq_getElem?_getD,List.getElem?_eq_getElem h];rfl
theorem r38 {h:aj} (hG:4≤h.n0) {a:Option Addr} {n c:Nat} {l:List Nat} (e:ay a n h=some l) (hn:n≤8):CW 38 [.slice a n c] h=some (.int .u64 ((be l:Nat):Int),h):=by
 obtain ⟨hl,hb,_⟩:=aw e
 have hll:bG (.slice a n c)=some (aH n):=rfl
 refine aF is38 hG rfl ((t38_eq _ _ _).trans ?_)
 unfold t38
 simp -implicitDefEqProofs only [af]
 refine bY (n:=20) (fin:=fun ex y g=>ex = .exit 0∧g=h∧y 3 = .int .u64 ((be l:Nat):Int)) (Q:=fun o:Out=>o=some (Value.int .u64 ((be l:Nat):Int),h))
  (bZ (t38l38_11010_eq CW) (Inv:=fun k y g => ∃ i,i+k=n∧y 0 = .slice a n c∧y 4=aH i∧g=h∧y 3 = .int .u64 ((be (l.take i):Nat):Int)) ?_ n (by have:rounds=18446744073709551616:=rfl;omega) ⟨0,Nat.zero_add _,rfl,rfl,rfl,rfl⟩) ?_
 ·rintro k y g ⟨i,hik,y0,y4,rfl,y3⟩
  unfold t38l38_11010
  simp -implicitDefEqProofs only [y4,y0,af,hll,ak,dg]
  by_cases hi:i<n
  ·obtain ⟨b,p,_,i1,i2⟩:=byte_at (c:=c) e hi
   have hv:l.getD i 0<256:=by
    rw [List.getD_eq_getElem?_getD,List.getElem?_eq_getElem (by omega)]
    exact hb _ (List.getElem_mem _)
   have hbe:=be_lt i (l.take i) (by simp;omega) (fun x hx=>hb x (List.mem_of_mem_take hx))
   have hbe2:be (l.take i)<72057594037927936:=Nat.lt_of_lt_of_le hbe (Nat.le_trans (Nat.pow_le_pow_right (by decide) (show i≤7 by omega)) (by decide))
   obtain ⟨b1,b2⟩:=shl_or hbe2 hv
   have hw:IntKind.wrap .u64 ((l.getD i 0:Nat):Int)=((l.getD i 0:Nat):Int):=wrap_u64 (by omega) (by omega)
   simp -implicitDefEqProofs only [decide_eq_true hi,af,y3,b1,ak,i1,i2,u8,bq,hw,b2,ee (show i+1≤9223372036854775807 by omega)]
   refine dd.next (k-1) (by omega) ⟨i+1,by omega,y0,rfl,rfl,?_⟩
   rw [take_snocN (by omega),be_snoc];rfl
  ·have:i=n:=by omega
   subst this
   simp -implicitDefEqProofs only [decide_eq_false hi]
   exact dd.out 0 ⟨rfl,rfl,by rw [List.take_of_length_le (by omega)] at y3;exact y3⟩
 ·rintro ex z g ⟨rfl,rfl,z3⟩
  simp -implicitDefEqProofs only [bE,b38_4,if_true,t38k38_2_eq]
  unfold t38k38_2
  rw [z3]
  rfl
theorem xor_add {m:Nat} (hm:m<16) (q:Nat):16*q ^^^ m=16*q+m:=by
 apply Nat.eq_of_testBit_eq
 intro i
 have h1:=Nat.testBit_two_pow_mul_add (i:=4) (b:=m) q hm i
 rw [Nat.testBit_xor,show (16:Nat)=2^4 from rfl,h1,Nat.testBit_two_pow_mul]
 by_cases hi:i<4
 ·rw [if_pos hi,decide_eq_false (by omega),Bool.false_and,Bool.false_xor]
 ·rw [if_neg hi,decide_eq_true (by omega),Bool.true_and,Nat.testBit_lt_two_pow (Nat.lt_of_lt_of_le hm (Nat.pow_le_pow_right (n:=2) (by decide) (show 4≤i by omega))),Bool.xor_false]
theorem half_xor (a b:Nat):(a ^^^ b)/2=a/2 ^^^ b/2:=by
 have:=Nat.shiftRight_xor_distrib (a:=a) (b:=b) (i:=1)
 rw [Nat.shiftRight_eq_div_pow,Nat.shiftRight_eq_div_pow,Nat.shiftRight_eq_div_pow] at this
 exact this
theorem bit_xor (a b:Nat):bM (a ^^^ b)=bM a ^^^ bM b:=by
 unfold bM
 have hm:(a ^^^ b)%2=(a+b)%2:=by
  have h:=Nat.xor_mod_two_pow (a:=a) (b:=b) (n:=1)
  rw [show (2:Nat)^1=2 from rfl] at h
  rw [h]
  rcases Nat.mod_two_eq_zero_or_one a with ha|ha<;>rcases Nat.mod_two_eq_zero_or_one b with hb|hb<;>rw [ha,hb]<;>simp<;>omega
 rw [half_xor,hm]
 rcases Nat.mod_two_eq_zero_or_one a with ha|ha<;>rcases Nat.mod_two_eq_zero_or_one b with hb|hb
 ·rw [show (a+b)%2=0 by omega,ha,hb];simp
 ·rw [show (a+b)%2=1 by omega,ha,hb,Nat.mul_one,Nat.mul_zero,Nat.xor_zero,Nat.xor_assoc]
 ·rw [show (a+b)%2=1 by omega,ha,hb,Nat.mul_one,Nat.mul_zero,Nat.xor_zero,Nat.xor_assoc,Nat.xor_comm (b/2),Nat.xor_assoc]
 ·rw [show (a+b)%2=0 by omega,ha,hb,Nat.mul_one,Nat.mul_zero,Nat.xor_zero]
  generalize (0x82f63b78:Nat)=p
  rw [Nat.xor_assoc,←Nat.xor_assoc p,Nat.xor_comm p,Nat.xor_assoc,Nat.xor_self,Nat.xor_zero]
theorem bit_even (q:Nat):bM (2*q)=q:=by
 unfold bM
 rw [show 2*q/2=q by omega,show 2*q%2=0 by omega,Nat.mul_zero,Nat.xor_zero]
theorem bit4 (r:Nat):bM (bM (bM (bM r)))=fl gh r:=by
 have hr:r=16*(r/16) ^^^ r%16:=by rw [xor_add (by omega)];omega
 have h16:bM (bM (bM (bM (16*(r/16)))))=r/16:=by
  rw [show 16*(r/16)=2*(2*(2*(2*(r/16)))) by omega,bit_even,bit_even,bit_even,bit_even]
 calc bM (bM (bM (bM r)))=bM (bM (bM (bM (16*(r/16) ^^^ r%16)))):=by rw [←hr]
  _=bM (bM (bM (bM (16*(r/16))))) ^^^ bM (bM (bM (bM (r%16)))):=by rw [bit_xor,bit_xor,bit_xor,bit_xor]
  _=fl gh r:=by rw [h16,Nat.xor_comm];rfl
theorem bit_if (r:Nat):bM r=if r%2=1 then r/2 ^^^ 2197175160 else r/2:=by
 unfold bM
 rcases Nat.mod_two_eq_zero_or_one r with h|h
 ·rw [h,if_neg (by decide),Nat.mul_zero,Nat.xor_zero]
 ·rw [h,if_pos rfl,Nat.mul_one]
theorem crcIter8 (r x:Nat):ey (r ^^^ x) 8=eK r x:=by
 show bM (bM (bM (bM (bM (bM (bM (bM (r ^^^ x))))))))=fl gh (fl gh (r ^^^ x))
 rw [bit4,bit4]
theorem crc_in (X:Nat→Value) (g:aj) {c0:Nat} (hc:c0<4294967296) (x3:X 3=u32 c0) (x5:X 5=aH 0) :
  Fin 33 (fun ex y g'=>ex = .exit 2∧g'=g∧y 0=X 0∧y 4=X 4∧y 3=u32 (ey c0 8)) (iter (aM Tryz.prog CW (partOf Tryz.f39 [1,1,0,1,0,0,1,0,0,1,1,0,0])) rounds (aJ 33 X) g):=by
 refine bZ (t39l39_110100100110_eq CW) (Inv:=fun k y g' => ∃ i,i+k=8∧y 5=aH i∧g'=g∧y 0=X 0∧y 4=X 4∧y 3=u32 (ey c0 i)) ?_ 8 (by have:rounds=18446744073709551616:=rfl;omega) ⟨0,rfl,x5,rfl,rfl,rfl,x3⟩
 rintro k y g' ⟨i,hik,y5,rfl,y0,y4,y3⟩
 have hlss:bin Tryz.prog .lss 3 (aH i) (.int .i64 8)=some (.bool (decide (i<8))):=dg i 8
 unfold fw
 simp -implicitDefEqProofs only [y5,af,hlss,ak]
 by_cases hi:i<8
 ·have hci:=crcIter_lt hc i
  obtain ⟨o1,o2,_,_⟩:=crc_bit_ops hci
  have hx:=fQ Tryz.prog 50 (k := .u32) rfl (a:=ey c0 i/2) (b:=2197175160) (by show _<2^32;omega) (by show _<2^32;omega)
  have hx':bin Tryz.prog .xor 50 (u32 (ey c0 i/2)) (.int .u32 2197175160)=some (u32 (ey c0 i/2 ^^^ 2197175160)):=hx
  have hnext:=bit_if (ey c0 i)
  rcases Nat.mod_two_eq_zero_or_one (ey c0 i) with hm|hm
  ·rw [hm,if_neg (by decide)] at hnext
   have he:bin Tryz.prog .eql 50 (u32 (ey c0 i%2)) (.int .u32 1)=some (.bool false):=by rw [hm];kernel_rfl
   simp -implicitDefEqProofs only [decide_eq_true hi,af,y3,o1,o2,he,ak,ee (show i+1≤9223372036854775807 by omega)]
   exact dd.next (k-1) (by omega) ⟨i+1,by omega,rfl,rfl,y0,y4,by show u32 _=u32 (bM (ey c0 i));rw [hnext]⟩
  ·rw [hm,if_pos rfl] at hnext
   have he:bin Tryz.prog .eql 50 (u32 (ey c0 i%2)) (.int .u32 1)=some (.bool true):=by rw [hm];kernel_rfl
   simp -implicitDefEqProofs only [decide_eq_true hi,af,y3,o1,o2,he,hx',ak,ee (show i+1≤9223372036854775807 by omega)]
   exact dd.next (k-1) (by omega) ⟨i+1,by omega,rfl,rfl,y0,y4,by show u32 _=u32 (bM (ey c0 i));rw [hnext]⟩
 ·have:i=8:=by omega
  subst this
  simp -implicitDefEqProofs only [decide_eq_false hi]
  exact dd.out 2 ⟨rfl,rfl,y0,y4,y3⟩
theorem r39 {h:aj} (hG:4≤h.n0) {a:Option Addr} {n c:Nat} {l:List Nat} (e:ay a n h=some l) (hn:n≤1000000):CW 39 [.slice a n c] h=some (u32 (crcN l),h):=by
 obtain ⟨hl,hb,_⟩:=aw e
 have hll:bG (.slice a n c)=some (aH n):=rfl
 refine aF is39 hG rfl ((t39_eq _ _ _).trans ?_)
 unfold t39
 simp -implicitDefEqProofs only [af]
 refine bY (n:=33) (fin:=fun ex y g=>ex = .exit 0∧g=h∧y 3=u32 (l.foldl eK 4294967295)) (Q:=fun o:Out=>o=some (u32 (crcN l),h))
  (bZ (t39l39_11010_eq CW) (Inv:=fun k y g => ∃ i,i+k=n∧y 0 = .slice a n c∧y 4=aH i∧g=h∧y 3=u32 ((l.take i).foldl eK 4294967295)) ?_ n (by have:rounds=18446744073709551616:=rfl;omega) ⟨0,Nat.zero_add _,rfl,rfl,rfl,rfl⟩) ?_
 ·rintro k y g ⟨i,hik,y0,y4,rfl,y3⟩
  unfold t39l39_11010
  simp -implicitDefEqProofs only [y4,y0,af,hll,ak,dg]
  by_cases hi:i<n
  ·obtain ⟨b,p,_,i1,i2⟩:=byte_at (c:=c) e hi
   have hv:l.getD i 0<256:=by
    rw [List.getD_eq_getElem?_getD,List.getElem?_eq_getElem (by omega)]
    exact hb _ (List.getElem_mem _)
   have hc:(l.take i).foldl eK 4294967295<4294967296:=crcFold_lt _ _ (by omega) (fun x hx=>hb x (List.mem_of_mem_take hx))
   have hw:IntKind.wrap .u32 ((l.getD i 0:Nat):Int)=((l.getD i 0:Nat):Int):=wrap_u32 (by omega) (by omega)
   have hx:=fQ Tryz.prog 50 (k := .u32) rfl (a:=(l.take i).foldl eK 4294967295) (b:=l.getD i 0) hc (by show _<2^32;omega)
   have hx2:(l.take i).foldl eK 4294967295 ^^^ l.getD i 0<4294967296:=Nat.xor_lt_two_pow (n:=32) hc (by omega)
   simp -implicitDefEqProofs only [decide_eq_true hi,af,y3,ak,i1,i2,u8,bq,hw,hx]
   refine bY (crc_in _ g hx2 rfl rfl) ?_
   rintro ex z g' ⟨rfl,rfl,z0,z4,z3⟩
   simp -implicitDefEqProofs only [bE,b39_12,if_true,t39k39_8_eq]
   unfold t39k39_8
   have z4:z 4=aH i:=z4.trans y4
   simp -implicitDefEqProofs only [z4,af,ak,ee (show i+1≤9223372036854775807 by omega)]
   refine dd.next (k-1) (by omega) ⟨i+1,by omega,z0.trans y0,rfl,rfl,?_⟩
   show z 3=_
   rw [z3,crcIter8,take_snocN (by omega),List.foldl_append]
   rfl
  ·have:i=n:=by omega
   subst this
   simp -implicitDefEqProofs only [decide_eq_false hi]
   exact dd.out 0 ⟨rfl,rfl,by rw [List.take_of_length_le (by omega)] at y3;exact y3⟩
 ·rintro ex z g ⟨rfl,rfl,z3⟩
  simp -implicitDefEqProofs only [bE,b39_4,if_true,t39k39_2_eq]
  unfold t39k39_2
  simp -implicitDefEqProofs only [z3,af,unA_xor_u32 (crcFold_lt l 4294967295 (by omega) hb),ak]
  rfl
end
section
end
section
theorem dJ.bG {h:aj} {N size:Nat} {v:Value} {len:Nat} {cells:List Value} (o:dJ h N size v len cells):bG v=some (aH len):=by
 obtain ⟨_,_,_,⟨rfl,h4⟩|⟨b,s,rfl,_⟩⟩:=o
 ·subst h4;rfl
 ·rfl
end
section
attribute [local congr] aU
theorem not_bytes {h:aj} {b n:Nat} {y:Addr} {l:List Nat} (p:Plain h b) (e:ay (some y) n h=some l) (hn:0<n):y.block≠b:=by
 intro hb
 obtain ⟨c,h1,h2⟩:=p
 subst hb
 exact bytes_apart e h1 h2 y rfl hn rfl
end
section
def XB (g:aj) (N:Nat) (v:Value) (l:List Nat):Prop := ∃ a c,v = .slice a l.length c∧ay a l.length g=some l∧cn a l.length c=true ∧ ∀ y,a=some y→0<l.length→N≤y.block
theorem XB.bF {g g':aj} {N:Nat} {v:Value} {l:List Nat} (x:XB g N v l) {B:Nat→Prop} (k:Kept g g' B) (hB : ∀ c,B c→c<N∨Plain g c):XB g' N v l:=by
 obtain ⟨a,c,rfl,h1,h2,h3⟩:=x
 refine ⟨a,c,rfl,k.bytes h1 (fun y hy hn hb => ?_),h2,h3⟩
 rcases hB _ hb with h|h
 ·have:=h3 y hy hn;omega
 ·subst hy
  exact not_bytes h h1 hn rfl
theorem XB.bA {g g':aj} {N:Nat} {v:Value} {l:List Nat} (x:XB g N v l) (k:Old g g'):XB g' N v l:=x.bF k (fun _ h=>h.elim)
end
end Go.Proofs.YtjghlcdidopcpaaGreatDoor

namespace Go.Proofs.YtjghlcdidopcpaaGreatDoor
open Go Go.Abs
attribute [local congr] aU
theorem veqL_append : ∀ a b:List Value,Abs.veqL (a++b) (a++b)=(Abs.veqL a a&&Abs.veqL b b)
 | [],b=>by simp [Abs.veqL]
 |x::a,b=>by
  have ih:=veqL_append a b
  simp only [List.cons_append,Abs.veqL,ih,Bool.and_assoc]
theorem veqL_of : ∀ l:List Value,(∀ v∈l,Abs.fb v v=true)→Abs.veqL l l=true
 | [],_=>by simp [Abs.veqL]
 |x::a,h=>by
  have ih:=veqL_of a (fun v hv=>h v (List.mem_cons_of_mem _ hv))
  simp only [Abs.veqL,ih,h x (List.mem_cons_self ..),Bool.and_self]
theorem Kd.has.fb {k:Kd} {v:Value} (h:k.has v):Abs.fb v v=true:=by
 cases k with
 |u8=>obtain ⟨n,rfl,_⟩:=h;simp [Abs.fb]
 |i k=>obtain ⟨n,rfl,_⟩:=h;simp [Abs.fb]
 |b=>obtain ⟨t,rfl⟩:=h;simp [Abs.fb]
theorem Typed.fb {ks:List Kd} {cs:List Value} (h:Typed ks cs):Abs.veqL cs cs=true:=veqL_of _ fun v hv=>by
 obtain ⟨j,hj⟩:=List.mem_iff_getElem?.1 hv
 have hj2:=(List.getElem?_eq_some_iff.1 hj).1
 rw [h.1] at hj2
 obtain ⟨w,hw,hk⟩:=h.2 j _ (List.getElem?_eq_getElem hj2)
 rw [hj] at hw
 cases hw
 exact hk.fb
theorem veqM {h:aj} {s:cR} {n:N6} {M:bV} (x:SlV h s n M) (ok:M.Ok):Abs.fb (.agg (M.cells s).toArray) (.agg (M.cells s).toArray)=true:=by
 have e:Abs.fb (.agg (M.cells s).toArray) (.agg (M.cells s).toArray)=Abs.veqL (M.cells s) (M.cells s):=by
  show Abs.fb (.agg ⟨M.cells s⟩) (.agg ⟨M.cells s⟩)=_
  rw [Abs.fb]
 rw [e]
 unfold bV.cells bV.front bV.eM
 simp only [veqL_append,ok.root.fb,ok.obj.fb,ok.dk.fb,Abs.veqL,x.a.fb,x.b.fb,x.c.fb,x.d.fb,x.e.fb,x.f.fb,Abs.fb,beq_self_eq_true,Bool.and_self]
theorem dV.pt {ks:List Kd} {n:Nat} {cs:List Value} (h:dV ks n cs) {j:Nat} (hj:j<n*ks.length) : ∃ k v,ks[j%ks.length]? = some k∧cs[j]? = some v∧k.has v:=by
 have hpos:0<ks.length:=Nat.pos_of_ne_zero (fun e=>by rw [e] at hj;omega)
 have hi:j/ks.length<n:=(Nat.div_lt_iff_lt_mul hpos).2 hj
 have hm:=Nat.mod_lt j hpos
 obtain ⟨v,hv,hk⟩:=(h.2 _ hi).2 (j%ks.length) _ (List.getElem?_eq_getElem hm)
 refine ⟨_,v,List.getElem?_eq_getElem hm,?_,hk⟩
 rw [List.getElem?_take,if_pos hm,List.getElem?_drop] at hv
 have:=Nat.div_add_mod j ks.length
 rw [Nat.mul_comm] at this
 rw [this] at hv
 exact hv
theorem dV.of_pt {ks:List Kd} {n:Nat} {cs:List Value} (hl:cs.length=n*ks.length) (h : ∀ j,j<n*ks.length → ∃ k v,ks[j%ks.length]? = some k∧cs[j]? = some v∧k.has v):dV ks n cs:=by
 refine ⟨hl,fun i hi => ?_⟩
 have hm:=mul_le (z:=ks.length) hi
 refine ⟨by rw [List.length_take,List.length_drop];omega,fun j k hk => ?_⟩
 have hj:=(List.getElem?_eq_some_iff.1 hk).1
 obtain ⟨k',v,h1,h2,h3⟩:=h (i*ks.length+j) (by omega)
 rw [Nat.mul_comm i,Nat.mul_add_mod,Nat.mod_eq_of_lt hj,hk] at h1
 cases h1
 exact ⟨v,by rw [List.getElem?_take,if_pos hj,List.getElem?_drop];exact h2,h3⟩
theorem dV.put {ks:List Kd} {n:Nat} {cs:List Value} (h:dV ks n cs) {p:Nat} {k:Kd} {v:Value} (hk:ks[p%ks.length]? = some k) (hv:k.has v):dV ks n (cs.set p v):=by
 refine .of_pt (by rw [List.length_set];exact h.1) fun j hj => ?_
 by_cases e:p=j
 ·subst e
  exact ⟨k,v,hk,by rw [List.getElem?_set_self (by rw [h.1];exact hj)],hv⟩
 ·obtain ⟨k',w,h1,h2,h3⟩:=h.pt hj
  exact ⟨k',w,h1,by rw [List.getElem?_set_ne e];exact h2,h3⟩
structure SlK (ks:List Kd) (n off:Nat) (k:dB) (cs:List Value):Prop where
 le:off+n*ks.length≤k.length
 eq:(k.drop off).take (n*ks.length)=cs
 ty:dV ks n cs
theorem SlK.put {ks:List Kd} {n off:Nat} {k:dB} {cs:List Value} (x:SlK ks n off k cs) {p:Nat} {t:Kd} {v:Value} (hk:ks[p%ks.length]? = some t) (hv:t.has v):SlK ks n off (k.set (off+p) v) (cs.set p v):=by
 refine ⟨by rw [List.length_set];exact x.le,?_,x.ty.put hk hv⟩
 rw [List.drop_set,if_neg (by omega),List.take_set,x.eq,Nat.add_sub_cancel_left]
theorem dh.out {h:aj} {ks:List Kd} {v:Value} {n:Nat} {cs:List Value} (x:dh h ks v n cs) (hn:0<n) : ∃ b off k,slB v=some b∧h.get b=some k∧SlK ks n off k cs∧(∀ i,i<n→bB ks.length v (aH i)=some (ptr b (off+i*ks.length))) ∧
  ∀ k' cs',SlK ks n off k' cs'→h.n0≤b→dh (h.set b k') ks v n cs':=by
 obtain ⟨a,c,rfl,h1,h2,h3⟩:=x
 obtain ⟨b,off,s,k,rfl,h4,h5,h6⟩:=h3 hn
 obtain ⟨m,rfl⟩ : ∃ m,n=m+1:=⟨n-1,by omega⟩
 refine ⟨b,off,k,rfl,h4,⟨h5,h6,h2⟩,fun i hi => ?_,fun k' cs' y hb=>⟨_,_,rfl,fun h=>(by cases h),y.ty,fun _=>⟨b,off,s,k',rfl,aj.cx hb h4 _,y.le,y.eq⟩⟩⟩
 unfold bB
 simp only [aH]
 rw [if_pos (by omega),Int.toNat_natCast]
theorem elt_mod {z i j:Nat} (hj:j<z):(i*z+j)%z=j:=by rw [Nat.mul_comm,Nat.mul_add_mod,Nat.mod_eq_of_lt hj]
theorem dh.elt {h:aj} {ks:List Kd} {v:Value} {n:Nat} {cs:List Value} (x:dh h ks v n cs) (h0 : ∀ b,slB v=some b→h.n0≤b) {i:Nat} (hi:i<n) : ∃ b o,slB v=some b∧bB ks.length v (aH i)=some (ptr b o) ∧
  (∀ j k,ks[j]? = some k → ∃ u,k.has u∧aN (ptr b (o+j)) h=some (u,h)) ∧
  ∀ j k u,ks[j]? = some k→k.has u → ∃ h' cs',bw 1 (ptr b (o+j)) u h=some (undef,h')∧dh h' ks v n cs'∧Kept h h' (· = b):=by
 obtain ⟨b,off,k,hb,g,y,hix,hput⟩:=x.out (by omega)
 have hm:=mul_le (z:=ks.length) hi
 have hle:=y.le
 refine ⟨b,off+i*ks.length,hb,hix i hi,fun j t ht => ?_,fun j t u ht hu => ?_⟩
 ·have hj:=(List.getElem?_eq_some_iff.1 ht).1
  obtain ⟨t',u,h1,h2,h3⟩:=y.ty.pt (j:=i*ks.length+j) (by omega)
  rw [elt_mod hj,ht] at h1
  cases h1
  refine ⟨u,h3,aV g ?_ h3.cell.1⟩
  rw [←y.eq,List.getElem?_take,if_pos (by omega),List.getElem?_drop,←Nat.add_assoc] at h2
  exact h2
 ·have hj:=(List.getElem?_eq_some_iff.1 ht).1
  refine ⟨_,cs.set (i*ks.length+j) u,stN1_at g (by omega) (h0 b hb) hu.cell.2.2.2 hu.cell.2.1,hput _ _ ?_ (h0 b hb),Kept.set (h0 b hb) g (.inr rfl)⟩
  have:=y.put (p:=i*ks.length+j) (t:=t) (v:=u) (by rw [elt_mod hj];exact ht) hu
  rw [←Nat.add_assoc] at this
  exact this
theorem splice_two (k:List Value) (o:Nat) (v w:Value) (ho:o+2≤k.length):bI k o [v,w]=(k.set o v).set (o+1) w:=by
 unfold bI
 refine List.ext_getElem? fun i => ?_
 have hl:(k.take o).length=o:=by rw [List.length_take];omega
 rw [List.append_assoc]
 by_cases h1:i<o
 ·rw [List.getElem?_append_left (by omega),List.getElem?_take,if_pos h1,List.getElem?_set_ne (by omega),List.getElem?_set_ne (by omega)]
 ·rw [List.getElem?_append_right (by omega),hl]
  rcases (show i=o∨i=o+1∨o+2≤i by omega) with rfl|rfl|h2
  ·rw [Nat.sub_self,List.getElem?_set_ne (by omega),List.getElem?_set_self (by omega)];rfl
  ·rw [Nat.add_sub_cancel_left,List.getElem?_set_self (by rw [List.length_set];omega)];rfl
  ·rw [List.getElem?_append_right (by simp;omega),List.getElem?_drop,List.getElem?_set_ne (by omega),List.getElem?_set_ne (by omega)]
   congr 1
   simp only [List.length_cons,List.length_nil]
   omega
theorem xor255 (m:Nat) (hm:m<256) : ∃ m':Nat,bin Tryz.prog .xor 5 (.int .u8 (m:Int)) (.int .u8 255)=some (.int .u8 (m':Int))∧m'<256:=
 ⟨m ^^^ 255,fQ _ _ (k := .u8) rfl (show m<2^8 from hm) (by decide),Nat.xor_lt_two_pow (n:=8) hm (by decide)⟩
structure Lk (h0:aj) (p q B7:Nat) (c2 c5:Value) (y:Nat→Value) (g:aj):Prop where
 k:Kept h0 g (fun b=>p≤b∧b<q)
 y2:y 2=c2
 y5:y 5=c5
 y7:y 7=ptr B7 0
def LInv (t:Nat) (h0:aj) (p q B7:Nat) (c2 c5:Value) (ks:List Kd) (v:Value) (n:Nat) (k:Nat) (y:Nat→Value) (g:aj):Prop:=
 ∃ i,i+k=n∧y t=aH i∧Lk h0 p q B7 c2 c5 y g ∧ ∃ cs,dh g ks v n cs
def LFin (e:Nat) (h0:aj) (p q B7:Nat) (c2 c5:Value) (ex:Ex) (y:Nat→Value) (g:aj):Prop:=ex = .exit e∧Lk h0 p q B7 c2 c5 y g
theorem Lk.mono {h0:aj} {p q q' B7:Nat} {c2 c5:Value} {y:Nat→Value} {g:aj} (x:Lk h0 p q B7 c2 c5 y g) (h:q≤q'):Lk h0 p q' B7 c2 c5 y g:=⟨x.k.mono (fun b _ e=>⟨e.1,by omega⟩),x.y2,x.y5,x.y7⟩
theorem Lk.low {h0:aj} {p q B7:Nat} {c2 c5:Value} {y:Nat→Value} {g:aj} (x:Lk h0 p q B7 c2 c5 y g) {v:Value} {p0:Nat} (hp:p≤p0) (h0p:h0.n0≤p) (hi:In v p0 q) : ∀ b,slB v=some b→g.n0≤b:=fun b hb=>by
 have:=hi b hb
 rw [x.k.n0];omega
theorem Lk.wr {h0:aj} {p q B7:Nat} {c2 c5:Value} {y:Nat→Value} {g g':aj} (x:Lk h0 p q B7 c2 c5 y g) {v:Value} {p0 b:Nat} (hp:p≤p0) (hi:In v p0 q) (hb:slB v=some b) (k:Kept g g' (· = b)):Kept h0 g' (fun b=>p≤b∧b<q):=
 x.k.cE k (fun d _ e=>by
   subst e
   have:=hi _ hb
   omega)
theorem Lk.fld {h0:aj} {p q B7:Nat} {c2 c5:Value} {y:Nat→Value} {g:aj} (x:Lk h0 p q B7 c2 c5 y g) {kb:dB} (hb:h0.get B7=some kb) (h7:q≤B7) {o:Nat} {v:Value} (ho:kb[o]? = some v) {ks:List Kd} {n:Nat} {cs:List Value} (hv:dh g ks v n cs):aN (ptr B7 o) g=some (v,g):=
 aV (x.k.dj hb (by omega)) ho (ba hv).1
theorem roundB {h0:aj} {p p0 q B7:Nat} {c2 c5 v:Value} {n:Nat} {kb:dB} (hb:h0.get B7=some kb) (h7:q≤B7) (ho:kb[7]? = some v) (hp:p≤p0) (hn:h0.n0≤p) (hi:In v p0 q) (hs:n≤1000000) :
  ∀ k y g,LInv 9 h0 p q B7 c2 c5 [.u8] v n k y g→dd 148 (LInv 9 h0 p q B7 c2 c5 [.u8] v n) (LFin 2 h0 p q B7 c2 c5) k (t9l9_111111010 CW y g):=by
 rintro k y g ⟨i,hik,yt,L,cs,x⟩
 have f:=L.fld hb h7 ho x
 have low:=L.low hp hn hi
 unfold t9l9_111111010
 by_cases hin:i<n
 ·obtain ⟨b,o,bb,a1,a2,a3⟩:=x.elt low hin
  obtain ⟨_,⟨m,rfl,hm⟩,a2⟩:=a2 0 .u8 rfl
  obtain ⟨m',e',hm'⟩:=xor255 m hm
  obtain ⟨g',cs',a3,x3,k3⟩:=a3 0 .u8 (.int .u8 (m':Int)) rfl ⟨m',rfl,hm'⟩
  rw [Nat.add_zero] at a2 a3
  have a1:bB 1 v (aH i)=some (ptr b o):=a1
  simp -implicitDefEqProofs only [yt,L.y7,af,ak,al,Nat.zero_add,Nat.reduceAdd,dg,f,x.len,decide_eq_true hin,a1,a2,e',a3,ee (show i+1≤9223372036854775807 by omega)]
  exact dd.next (k-1) (by omega) ⟨i+1,by omega,rfl,⟨L.wr hp hi bb k3,L.y2,L.y5,L.y7⟩,cs',x3⟩
 ·simp -implicitDefEqProofs only [yt,L.y7,af,ak,al,Nat.zero_add,Nat.reduceAdd,dg,f,x.len,decide_eq_false hin]
  exact dd.out 2 ⟨rfl,L.k,L.y2,L.y5,L.y7⟩
theorem b9_44_exit (C:au) (e:Env) (h:aj):b9_44 C 10 e h=k9_42 C e h:=rfl
theorem roundF {h0:aj} {p p0 q B7:Nat} {c2 c5 v:Value} {n:Nat} {kb:dB} (hb:h0.get B7=some kb) (h7:q≤B7) (ho:kb[114]? = some v) (hp:p≤p0) (hn:h0.n0≤p) (hi:In v p0 q) (hs:n≤1000000) :
  ∀ k y g,LInv 13 h0 p q B7 c2 c5 [.u8] v n k y g→dd 148 (LInv 13 h0 p q B7 c2 c5 [.u8] v n) (LFin 10 h0 p q B7 c2 c5) k (eA CW y g):=by
 rintro k y g ⟨i,hik,yt,L,cs,x⟩
 have f:=L.fld hb h7 ho x
 have low:=L.low hp hn hi
 unfold eA
 by_cases hin:i<n
 ·obtain ⟨b,o,bb,a1,a2,a3⟩:=x.elt low hin
  obtain ⟨_,⟨m,rfl,hm⟩,a2⟩:=a2 0 .u8 rfl
  obtain ⟨m',e',hm'⟩:=xor255 m hm
  obtain ⟨g',cs',a3,x3,k3⟩:=a3 0 .u8 (.int .u8 (m':Int)) rfl ⟨m',rfl,hm'⟩
  rw [Nat.add_zero] at a2 a3
  have a1:bB 1 v (aH i)=some (ptr b o):=a1
  simp -implicitDefEqProofs only [yt,L.y7,af,ak,al,Nat.zero_add,Nat.reduceAdd,dg,f,x.len,decide_eq_true hin,a1,a2,e',a3,ee (show i+1≤9223372036854775807 by omega)]
  exact dd.next (k-1) (by omega) ⟨i+1,by omega,rfl,⟨L.wr hp hi bb k3,L.y2,L.y5,L.y7⟩,cs',x3⟩
 ·simp -implicitDefEqProofs only [yt,L.y7,af,ak,al,Nat.zero_add,Nat.reduceAdd,dg,f,x.len,decide_eq_false hin]
  exact dd.out 10 ⟨rfl,L.k,L.y2,L.y5,L.y7⟩
theorem loopF {h0 g:aj} {p p0 q B7:Nat} {c2 c5 v:Value} {n:Nat} {kb:dB} {cs:List Value} {y:Nat→Value} (hb:h0.get B7=some kb) (h7:q≤B7) (ho:kb[114]? = some v) (hp:p≤p0) (hpq:p0≤q) (hn:h0.n0≤p) (hi:In v p0 q) (hs:n≤1000000) (x:dh h0 [.u8] v n cs)
  (L:Lk h0 p p0 B7 c2 c5 y g) (hy:y 13=aH 0) {Q:Out→Prop} (cont : ∀ y g,Lk h0 p q B7 c2 c5 y g→Q (k9_42 CW (aJ 148 y) g)) :
  Q (dX (iter (aM Tryz.prog CW (partOf Tryz.f9 [1,1,1,1,1,1,1,1,1,1,0,1,0,0])) rounds (aJ 148 y) g) (ar Tryz.prog Tryz.f9.results.toList) (b9_44 CW)):=by
 have x':dh g [.u8] v n cs:=x.bF L.k (fun b bb e=>by
  have:=hi b bb
  omega)
 refine bY (bZ (t9l9_1111111111010_eq CW) (roundF (c2:=c2) (c5:=c5) hb h7 ho hp hn hi hs) n (by have:rounds=18446744073709551616:=rfl;omega) ⟨0,Nat.zero_add _,hy,L.mono hpq,cs,x'⟩) ?_
 rintro ex z g ⟨rfl,L⟩
 rw [bE,b9_44_exit]
 exact cont z g L
end Go.Proofs.YtjghlcdidopcpaaGreatDoor

namespace Go.Proofs.YtjghlcdidopcpaaGreatDoor
open Go Go.Abs
attribute [local congr] aU
theorem one_new (h:aj) {Z k:dB} (hz:Z.length=116) (hk:k.length=116) (ho:aQ k=true) : ∃ h2,bw 116 (ptr h.next 0) (.agg k.toArray) (h.alloc Z)=some (undef,h2)∧Old h h2∧h2.get h.next=some k∧h2.next=h.next+1:=by
 have g:(h.alloc Z).get h.next=some Z:=by rw [aj.aS,if_pos rfl]
 have o:Old h (h.alloc Z):=Kept.alloc _ _ _
 have hn:(h.alloc Z).n0≤h.next:=by rw [o.n0];exact h.aK
 have k1:Kept (h.alloc Z) ((h.alloc Z).set h.next k) (· = h.next):=Kept.set hn g (.inr rfl)
 exact ⟨_,stN_whole g hn hz hk ho,o.cE k1 (fun d hd e=>by omega),aj.cx hn g _,rfl⟩
theorem SlV.lt {h:aj} {s:cR} {n:N6} {M:bV} (x:SlV h s n M) {p:Nat} (hp:h.next≤p):s.off (fun b=>p≤b):=by
 rintro v (rfl|rfl|rfl|rfl|rfl|rfl) y hy hb
 ·have:=x.a.lt hy;omega
 ·have:=x.b.lt hy;omega
 ·have:=x.c.lt hy;omega
 ·have:=x.d.lt hy;omega
 ·have:=x.e.lt hy;omega
 ·have:=x.f.lt hy;omega
theorem Lk.set {h0:aj} {p q B7:Nat} {c2 c5:Value} {y:Nat→Value} {g:aj} (x:Lk h0 p q B7 c2 c5 y g) (t:Nat) (v:Value) (e2:Nat.beq t 2=false) (e5:Nat.beq t 5=false) (e7:Nat.beq t 7=false):Lk h0 p q B7 c2 c5 (up y [(t,v)]) g:=
 ⟨x.k,by rw [up_other _ _ _ _ _ e2];exact x.y2,by rw [up_other _ _ _ _ _ e5];exact x.y5,by rw [up_other _ _ _ _ _ e7];exact x.y7⟩
section
variable {h:aj} {s s':cR} {n n':N6} {M M':bV} (hG:4≤h.n0) (x:SlV h s n M) (x':SlV h s' n' M') (ok:M.Ok) (ok':M'.Ok)
include hG x x' ok ok'
end
end Go.Proofs.YtjghlcdidopcpaaGreatDoor

