/-
  A part of the proof, spaces and names shortened by a program (a claim may hold 1,500,000 bytes).
  Conditions: as each theorem states.
-/
import Derived.Test.YtcmfgmhadeeieaaG6
import Derived.Test.YtcmfgmhadeeieaaProg
import Derived.KernelRfl
namespace Go.Proofs.Ytcmfgmhadeeieaa
open Go Go.Abs
def cm (c:Nat):Nat:=(c/2) ^^^ (0x82f63b78*(c%2))
def iQ (i:Nat):Nat:=cm (cm (cm (cm i)))
def gJ (tab:Nat→Nat) (r:Nat):Nat:=tab (r%16) ^^^ (r/16)
def fS (r x:Nat):Nat:=gJ iQ (gJ iQ (r ^^^ x))
def crcN (l:List Nat):Nat:=4294967295 ^^^ l.foldl fS 4294967295
theorem crcBit_lt {c:Nat} (h:c<4294967296):cm c<4294967296:=by
 unfold cm
 have h1:c/2<2^32:=by omega
 have h2:0x82f63b78*(c%2)<2^32:=by omega
 exact Nat.xor_lt_two_pow h1 h2
theorem crcTab_lt {c:Nat} (h:c<4294967296):iQ c<4294967296:=crcBit_lt (crcBit_lt (crcBit_lt (crcBit_lt h)))
theorem crcHalf_lt {tab:Nat→Nat} (ht : ∀ q,q<16→tab q<4294967296) {r:Nat} (h:r<4294967296):gJ tab r<4294967296:=
 Nat.xor_lt_two_pow (n:=32) (ht _ (by omega)) (by omega)
theorem crcMix_lt {r:Nat} (h:r<4294967296):gJ iQ r<4294967296:=crcHalf_lt (fun q hq=>crcTab_lt (by omega)) h
theorem crcStep_lt {r x:Nat} (h:r<4294967296) (hx:x<256):fS r x<4294967296:=
 crcMix_lt (crcMix_lt (Nat.xor_lt_two_pow (n:=32) h (by omega)))
theorem crcFold_lt : ∀ (l:List Nat) (r:Nat),r<4294967296→(∀ x∈l,x<256)→l.foldl fS r<4294967296
 | [],r,h,_=>h
 |x::l,r,h,hx=>crcFold_lt l _ (crcStep_lt h (hx x List.mem_cons_self)) (fun y hy=>hx y (List.mem_cons_of_mem _ hy))
abbrev u32 (n:Nat):Value := .int .u32 (n:Int)
abbrev u8 (n:Nat):Value := .int .u8 (n:Int)
abbrev aq (n:Nat):Value := .int .i64 (n:Int)
def fz (c:Nat):Nat→Nat
 | 0=>c
 |i+1=>cm (fz c i)
theorem crcIter_lt {c:Nat} (hc:c<4294967296) : ∀ i,fz c i<4294967296
 | 0=>hc
 |i+1=>crcBit_lt (crcIter_lt hc i)
section
variable (C:al)
theorem crc_bit_ops {c:Nat} (hc:c<4294967296):bin Try.prog .shr 113 (u32 c) (.int .u64 1)=some (u32 (c/2))∧bin Try.prog .and 113 (u32 c) (.int .u32 1)=some (u32 (c%2)) ∧
  bin Try.prog .mul 113 (.int .u32 2197175160) (u32 (c%2))=some (u32 (2197175160*(c%2)))∧bin Try.prog .xor 113 (u32 (c/2)) (u32 (2197175160*(c%2)))=some (u32 (cm c)):=by
 refine ⟨?_,?_,?_,?_⟩
 ·exact fu Try.prog 113 (k := .u32) (k' := .u64) (a:=c) (b:=1) (by decide)
 ·have h1:=bin_and_nat Try.prog 113 (k := .u32) rfl (a:=c) (b:=1) hc (by decide)
  rw [Nat.and_one_is_mod] at h1
  exact h1
 ·rw [bin_mul,wrap_u32_mod]
  congr 2
  omega
 ·exact iv Try.prog 113 (k := .u32) rfl (a:=c/2) (b:=2197175160*(c%2)) (by show _<2^32;omega) (by show _<2^32;omega)
theorem crc_inner (x:Nat→Value) (h:ah) (c:Nat) (hc:c<4294967296) (h5:x 5=u32 c) (h14:x 14 = .int .i64 0) :
  ∃ x',iter (aI Try.prog C (partOf Try.f95 [1,1,0,1,0,0,1,1,0,0,1,1,0,1,0,0])) rounds (aY 54 x) h=some (.exit 2,aY 54 x',h)∧x' 5=u32 (iQ c) ∧
    x' 0=x 0∧x' 3=x 3∧x' 4=x 4∧x' 9=x 9:=by
 obtain ⟨ex,x',h',h1,rfl,rfl,h2⟩:=loop_inv (t95l95_110100110011010_eq C)
  (Inv:=fun k y h1=>k≤4∧h1=h∧y 5=u32 (fz c (4-k))∧y 14=aq (4-k)∧y 0=x 0∧y 3=x 3∧y 4=x 4∧y 9=x 9)
  (fin:=fun ex y h1=>ex = .exit 2∧h1=h∧y 5=u32 (iQ c)∧y 0=x 0∧y 3=x 3∧y 4=x 4∧y 9=x 9)
  (by
   rintro k y _ ⟨hk,rfl,i5,i14,i0,i3,i4,i9⟩
   obtain ⟨o1,o2,o3,o4⟩:=crc_bit_ops (crcIter_lt hc (4-k))
   unfold fB
   simp -implicitDefEqProofs only [i5,i14,aq,bT,aj,af]
   by_cases hz:k=0
   ·subst hz
    refine ⟨_,_,_,rfl,.inr ⟨by simp,rfl,rfl,?_⟩⟩
    simp -implicitDefEqProofs only [aM,aV,i5,i0,i3,i4,i9,Nat.reduceEqDiff,if_false,and_true]
    rfl
   ·have hlt:((4-k:Nat):Int)<4:=by omega
    simp -implicitDefEqProofs only [decide_eq_true hlt,o1,o2,o3,o4,aj,af,dL]
    refine ⟨_,_,_,rfl,.inl ⟨rfl,k-1,by omega,by omega,rfl,?_⟩⟩
    simp -implicitDefEqProofs only [aM,aV,i0,i3,i4,i9,Nat.reduceEqDiff,if_false,if_true,and_true]
    refine ⟨?_,?_⟩
    ·have:4-(k-1)=(4-k)+1:=by omega
     rw [this];rfl
    ·rw [bD (by omega) (by omega)]
     congr 1
     omega)
  (k:=4) (by decide) ⟨by omega,rfl,h5,h14,rfl,rfl,rfl,rfl⟩
 exact ⟨x',h1,h2⟩
def gS (i:Nat):dW:=(List.range 16).map fun j=>u32 (if j<i then iQ j else 0)
theorem tabBlk_length (i:Nat):(gS i).length=16:=by simp [gS]
theorem tabBlk_at {i j:Nat} (hj:j<16):(gS i)[j]? = some (u32 (if j<i then iQ j else 0)):=by
 unfold gS
 rw [List.getElem?_map,List.getElem?_range hj];rfl
theorem tabBlk_set {i:Nat} (hi:i<16):(gS i).set i (u32 (iQ i))=gS (i+1):=by
 apply List.ext_getElem?
 intro j
 rw [List.getElem?_set,tabBlk_length]
 by_cases hj:j<16
 ·rw [tabBlk_at hj,tabBlk_at hj]
  by_cases e:i=j
  ·subst e;simp [hi]
  ·rw [if_neg e]
   by_cases h2:j<i
   ·rw [if_pos h2,if_pos (by omega)]
   ·rw [if_neg h2,if_neg (by omega)]
 ·rw [List.getElem?_eq_none (by rw [tabBlk_length];omega),List.getElem?_eq_none (by rw [tabBlk_length];omega)]
  split
  ·omega
  ·rfl
theorem crc_table (x:Nat→Value) (h:ah) (B:Nat) (hB:h.n0≤B) (hg:h.get B=some (gS 0)) (h3:x 3=ptr B 0) (h9:x 9 = .int .i64 0) :
  ∃ x' h',iter (aI Try.prog C (partOf Try.f95 [1,1,0,1,0,0])) rounds (aY 54 x) h=some (.exit 0,aY 54 x',h')∧x' 0=x 0∧x' 3=ptr B 0∧Kept h h' (· = B)∧h'.get B=some (gS 16):=by
 obtain ⟨ex,x',h',h1,rfl,h2⟩:=loop_inv (t95l95_11010_eq C)
  (Inv:=fun k y h1=>k≤16∧y 9=aq (16-k)∧y 0=x 0∧y 3=ptr B 0∧Kept h h1 (· = B)∧h1.get B=some (gS (16-k)))
  (fin:=fun ex y h1=>ex = .exit 0∧y 0=x 0∧y 3=ptr B 0∧Kept h h1 (· = B)∧h1.get B=some (gS 16))
  (by
   rintro k y h1 ⟨hk,i9,i0,i3,ik,ig⟩
   unfold t95l95_11010
   simp -implicitDefEqProofs only [i9,aq,bT,aj,af]
   by_cases hz:k=0
   ·subst hz
    refine ⟨_,_,_,rfl,.inr ⟨by simp,rfl,?_⟩⟩
    simp -implicitDefEqProofs only [aM,aV,i0,i3,Nat.reduceEqDiff,if_false,true_and]
    exact ⟨ik,ig⟩
   ·have hlt:((16-k:Nat):Int)<16:=by omega
    have hw:IntKind.wrap .u32 ((16-k:Nat):Int)=((16-k:Nat):Int):=wrap_u32 (by omega) (by omega)
    simp -implicitDefEqProofs only [decide_eq_true hlt,dg,af,hw]
    obtain ⟨z,hz1,z5,z0,z3,z4,z9⟩:=crc_inner C (up y [(4,.int .i64 ((16-k:Nat):Int)),(5,u32 (16-k)),(10,.bool true),(11,.int .i64 ((16-k:Nat):Int)),(12,.int .i64 ((16-k:Nat):Int)),(13,u32 (16-k)),(14,.int .i64 0)]) h1 (16-k) (by omega) rfl rfl
    rw [hz1]
    simp -implicitDefEqProofs only [aM,aV,Nat.reduceEqDiff,if_false,if_true] at z0 z3 z4 z9
    simp -implicitDefEqProofs only [bA,b95_17,if_true,t95k95_15_eq]
    have hlt2:(0:Int)≤((16-k:Nat):Int)∧((16-k:Nat):Int)<((16:Nat):Int):=by omega
    unfold t95k95_15
    simp -implicitDefEqProofs only [z3,i3,z4,z5,idxA,hlt2,and_self,if_true,ax,aj,af,Nat.zero_add,Int.toNat_natCast,Nat.mul_one]
    rw [dy ig (by rw [tabBlk_length];omega) (by rw [ik.n0];exact hB) rfl rfl,tabBlk_set (by omega)]
    simp -implicitDefEqProofs only [af,t95k95_11_eq]
    unfold t95k95_11
    simp -implicitDefEqProofs only [aM,aV,Nat.reduceEqDiff,if_false,if_true,z9,i9,dL,aj,af]
    refine ⟨_,_,_,rfl,.inl ⟨rfl,k-1,by omega,by omega,?_⟩⟩
    have hb:h1.n0≤B:=by rw [ik.n0];exact hB
    have e1:16-(k-1)=16-k+1:=by omega
    simp -implicitDefEqProofs only [aM,aV,Nat.reduceEqDiff,if_false,if_true,z0,i0,z3,i3,true_and,e1]
    refine ⟨?_,ik.trans (Kept.set hb ig (.inr rfl)),ah.bI hb ig _⟩
    rw [bD (by omega) (by omega)]
    congr 1)
  (k:=16) (by decide) ⟨by omega,h9,rfl,h3,Kept.refl _ _,hg⟩
 exact ⟨x',h',h1,h2⟩
end
theorem ic : ∀ l:List Nat,cN (l.map u8)=true
 | []=>rfl
 |x::l=>by
  have:=ic l
  simp only [cN,List.map_cons,List.all_cons] at this ⊢
  rw [this];rfl
theorem noHoles_part (l:List Nat) (o n:Nat):cN (((l.map u8).drop o).take n)=true:=by
 rw [←List.map_drop,←List.map_take];exact ic _
def nat8:Value→Option Nat
 | .int .u8 (.ofNat n)=>if n<256 then some n else none
 |_=>none
theorem nat8_eq {v:Value} {n:Nat} (h:nat8 v=some n):v=u8 n∧n<256:=by
 unfold nat8 at h
 split at h
 ·split at h
  ·cases h;exact ⟨rfl,by assumption⟩
  ·cases h
 ·cases h
def bytesOf:List Value→Option (List Nat)
 | []=>some []
 |v::l=>match nat8 v,bytesOf l with
  |some n,some r=>some (n::r)
  |_,_=>none
theorem bytesOf_eq : ∀ {l:List Value} {r:List Nat},bytesOf l=some r→l=r.map u8 ∧ ∀ n∈r,n<256
 | [],r,h=>by cases h;exact ⟨rfl,by simp⟩
 |v::l,r,h=>by
  unfold bytesOf at h
  split at h
  ·rename_i n r' h1 h2
   cases h
   obtain ⟨rfl,h3⟩:=nat8_eq h1
   obtain ⟨rfl,h4⟩:=bytesOf_eq h2
   refine ⟨rfl,fun m hm => ?_⟩
   rcases List.mem_cons.1 hm with rfl|hm
   ·exact h3
   ·exact h4 m hm
  ·cases h
theorem bytesOf_map : ∀ {r:List Nat},(∀ n∈r,n<256)→bytesOf (r.map u8)=some r
 | [],_=>rfl
 |n::r,h=>by
  have h1:nat8 (u8 n)=some n:=by
   show (if n<256 then some n else none)=some n
   rw [if_pos (h n List.mem_cons_self)]
  simp -implicitDefEqProofs only [List.map_cons,bytesOf,h1,bytesOf_map (r:=r) (fun m hm=>h m (List.mem_cons_of_mem _ hm))]
def av (a:Option Addr) (n:Nat) (h:ah):Option (List Nat):=(bW 1 n (.slice a n n) h).bind bytesOf
theorem aw {a:Option Addr} {n:Nat} {h:ah} {l:List Nat} (e:av a n h=some l) :
  l.length=n∧(∀ m∈l,m<256)∧(0<n → ∃ b off s k,a=some ⟨b,off,s⟩∧h.get b=some k∧off+n≤k.length ∧ ∀ i,i<n→k[off+i]? = some (u8 (l.getD i 0))):=by
 unfold av at e
 rw [Option.bind_eq_some_iff] at e
 obtain ⟨cs,h1,h2⟩:=e
 obtain ⟨rfl,h3⟩:=bytesOf_eq h2
 unfold bW at h1
 split at h1
 ·split at h1
  ·rename_i hn
   simp -implicitDefEqProofs only [Option.some.injEq] at h1
   have:l = []:=by cases l with|nil=>rfl|cons=>simp at h1
   subst this;subst hn
   exact ⟨rfl,h3,fun h=>absurd h (by omega)⟩
  ·cases h1
 ·rename_i b off s _ _ heq
  split at h1
  ·rename_i hn
   simp -implicitDefEqProofs only [Option.some.injEq] at h1
   have:l = []:=by cases l with|nil=>rfl|cons=>simp at h1
   subst this
   have:n=0:=by omega
   subst this
   exact ⟨rfl,h3,fun h=>absurd h (by omega)⟩
  ·split at h1
   ·rename_i k hk
    split at h1
    ·rename_i hl0
     have hl:=hl0.1
     rw [Nat.mul_one] at h1 hl
     simp -implicitDefEqProofs only [Option.some.injEq] at h1
     have hlen:l.length=n:=by
      have:=congrArg List.length h1
      simp -implicitDefEqProofs only [List.length_map,List.length_take,List.length_drop] at this
      omega
     refine ⟨hlen,h3,fun _=>⟨b,off,s,k,?_,hk,hl,?_⟩⟩
     ·cases heq;rfl
     ·intro i hi
      have h4:=congrArg (·[i]?) h1
      simp -implicitDefEqProofs only [List.getElem?_take,hi,if_true,List.getElem?_drop,List.getElem?_map] at h4
      rw [h4,List.getD_eq_getElem?_getD,List.getElem?_eq_getElem (by omega)]
      rfl
    ·cases h1
   ·cases h1
 ·cases (show Value.slice a n n = .string _ by assumption)
 ·cases h1
theorem fG {a:Option Addr} {n:Nat} {h h':ah} {l:List Nat} (e:av a n h=some l) (hm : ∀ b k,h.get b=some k→h'.get b=some k):av a n h'=some l:=by
 unfold av at e ⊢
 rw [Option.bind_eq_some_iff] at e ⊢
 obtain ⟨cs,h1,h2⟩:=e
 refine ⟨cs,?_,h2⟩
 unfold bW at h1 ⊢
 split at h1
 ·exact h1
 ·split at h1
  ·rw [if_pos (by assumption)];exact h1
  ·rw [if_neg (by assumption)]
   split at h1
   ·rename_i k hk
    rw [hm _ _ hk];exact h1
   ·cases h1
 ·cases (show Value.slice a n n = .string _ by assumption)
 ·cases h1
def s95:List Value→ah→Out
 | [.slice a n c],h=>match av a n h with
   |some l=>if n<9223372036854775807 then some (u32 (crcN l),h) else none
   |none=>none
 |_,_=>none
theorem crc_mix (tab:Nat→Nat) (ht : ∀ q,q<16→tab q<4294967296) (r:Nat) (hr:r<4294967296):bin Try.prog .and 113 (u32 r) (.int .u32 15)=some (u32 (r%16))∧bin Try.prog .shr 113 (u32 r) (.int .u64 4)=some (u32 (r/16)) ∧
  bin Try.prog .xor 113 (u32 (tab (r%16))) (u32 (r/16))=some (u32 (gJ tab r)):=by
 refine ⟨?_,?_,?_⟩
 ·have h1:=bin_and_nat Try.prog 113 (k := .u32) rfl (a:=r) (b:=15) hr (by decide)
  rw [show r &&& 15=r%16 from Nat.and_two_pow_sub_one_eq_mod r 4] at h1
  exact h1
 ·exact fu Try.prog 113 (k := .u32) (k' := .u64) (a:=r) (b:=4) (by decide)
 ·exact iv Try.prog 113 (k := .u32) rfl (ht _ (by omega)) (by show _<2^32;omega)
section
variable (C:al)
theorem crc_round (tab:Nat→Nat) (ht : ∀ q,q<16→tab q<4294967296) (y:Nat→Value) (h:ah) (B:Nat) (aX:dW) (hg:h.get B=some aX) (hblk : ∀ q,q<16→aX[q]? = some (u32 (tab q)))
  (b off len c i V R:Nat) (s:Option Nat) (kb:dW) (hkb:h.get b=some kb) (hcell:kb[off+i]? = some (u8 V)) (hV:V<256) (hR:R<4294967296) (hi:i<len) (hlen:len<9223372036854775807)
  (i3:y 3=ptr B 0) (i6:y 6=u32 R) (i27:y 27 = .slice (some ⟨b,off,s⟩) len c) (i28:y 28=aq len) (i29:y 29=aq i) :
  ∃ y',fY C y h=some (.normal,aY 54 y',h)∧y' 3=y 3∧y' 6=u32 (gJ tab (gJ tab (R ^^^ V)))∧y' 27=y 27∧y' 28=y 28∧y' 29=aq (i+1):=by
 have hlt:(i:Int)<(len:Int):=by omega
 have hidx:(0:Int)≤(i:Int)∧(i:Int)<(len:Int):=by omega
 have hw:IntKind.wrap .u32 ((V:Nat):Int)=(V:Int):=wrap_u32 (by omega) (by omega)
 have hx:=iv Try.prog 113 (k := .u32) rfl (a:=R) (b:=V) hR (by show _<2^32;omega)
 have hr1:R ^^^ V<4294967296:=Nat.xor_lt_two_pow (n:=32) hR (by omega)
 generalize R ^^^ V=R1 at *
 obtain ⟨a1,a2,a3⟩:=crc_mix tab ht _ hr1
 have hr2:=crcHalf_lt ht hr1
 generalize gJ tab R1=R2 at *
 obtain ⟨b1,b2,b3⟩:=crc_mix tab ht _ hr2
 generalize gJ tab R2=R3 at *
 have hi1 : ∀ q:Nat,(0:Int)≤((q%16:Nat):Int)∧((q%16:Nat):Int)<((16:Nat):Int):=fun q=>by omega
 have hld : ∀ q:Nat,ba (ptr B (q%16)) h=some (u32 (tab (q%16)),h):=fun q=>aN hg (hblk _ (by omega))
 unfold fY
 simp -implicitDefEqProofs only [i28,i29,aq,bT,aj,af,decide_eq_true hlt,i27,cd,hidx,and_self,if_true,Int.toNat_natCast,Nat.mul_one,aN hkb hcell,dg,hw,i6,hx,a1,i3,idxA,hi1,ax,Nat.zero_add,hld,a2,a3,b1,b2,b3,dL]
 refine ⟨_,rfl,?_⟩
 simp -implicitDefEqProofs only [aM,aV,Nat.reduceEqDiff,if_false,if_true,i3,i27,i28,true_and]
 rw [bD (by omega) (by omega)]
 rfl
theorem crc_bytes (x:Nat→Value) (h:ah) (B:Nat) (a:Option Addr) (n c:Nat) (l:List Nat) (hg:h.get B=some (gS 16)) (hl:av a n h=some l)
  (h3:x 3=ptr B 0) (h6:x 6=u32 4294967295) (h27:x 27 = .slice a n c) (h28:x 28=aq n) (h29:x 29 = .int .i64 0) (hn:n<rounds) (hn2:n<9223372036854775807) :
  ∃ x',iter (aI Try.prog C (partOf Try.f95 [1,1,1,1,0,1,0,0])) rounds (aY 54 x) h=some (.exit 4,aY 54 x',h)∧x' 6=u32 (l.foldl fS 4294967295):=by
 obtain ⟨hlen,hb,hat⟩:=aw hl
 obtain ⟨ex,x',h',h1,rfl,rfl,h2⟩:=loop_inv (t95l95_1111010_eq C)
  (Inv:=fun k y h1=>k≤n∧h=h1∧y 3=ptr B 0∧y 6=u32 ((l.take (n-k)).foldl fS 4294967295)∧y 27 = .slice a n c∧y 28=aq n∧y 29=aq (n-k))
  (fin:=fun ex y h1=>ex = .exit 4∧h1=h∧y 6=u32 (l.foldl fS 4294967295))
  (by
   rintro k y _ ⟨hk,rfl,i3,i6,i27,i28,i29⟩
   by_cases hz:k=0
   ·subst hz
    unfold fY
    simp -implicitDefEqProofs only [i28,i29,aq,bT,aj,af]
    simp -implicitDefEqProofs only [Nat.sub_zero,Int.lt_irrefl,decide_false]
    refine ⟨_,_,_,rfl,.inr ⟨by simp,rfl,rfl,?_⟩⟩
    simp -implicitDefEqProofs only [aM,aV,Nat.reduceEqDiff,if_false,i6,Nat.sub_zero]
    rw [List.take_of_length_le (by omega)]
   ·have e1:n-(k-1)=n-k+1:=by omega
    have hnk:n-k<n:=by omega
    have hlt2:n-k<l.length:=by omega
    obtain ⟨b,off,s,kb,rfl,hkb,hkl,hat2⟩:=hat (by omega)
    have hcell:=hat2 (n-k) hnk
    clear hat hat2
    have hr:((l.take (n-k)).foldl fS 4294967295)<4294967296:=crcFold_lt _ _ (by omega) (fun m hm=>hb m (List.mem_of_mem_take hm))
    have hbv:l.getD (n-k) 0<256:=by
     rw [List.getD_eq_getElem?_getD,List.getElem?_eq_getElem hlt2]
     exact hb _ (List.getElem_mem _)
    obtain ⟨y',q1,q3,q6,q27,q28,q29⟩:=crc_round C iQ (fun q hq=>crcTab_lt (by omega)) y h B (gS 16) hg (fun q hq=>by rw [tabBlk_at hq,if_pos hq]) b off n c (n-k) _ _ s kb hkb hcell hbv hr hnk hn2 i3 i6 i27 i28 i29
    refine ⟨_,_,_,q1,.inl ⟨rfl,k-1,by omega,by omega,rfl,q3.trans i3,?_,q27.trans i27,q28.trans i28,by rw [q29,e1]⟩⟩
    rw [q6,e1,List.take_add_one,List.foldl_append]
    have hV2:l[n-k]? = some (l.getD (n-k) 0):=by
     rw [List.getD_eq_getElem?_getD,List.getElem?_eq_getElem hlt2]
     rfl
    rw [hV2,Option.toList_some,List.foldl_cons,List.foldl_nil,fS])
  (k:=n) hn ⟨by omega,rfl,h3,by rw [h6,Nat.sub_self,List.take_zero,List.foldl_nil],h27,h28,by rw [h29,Nat.sub_self];rfl⟩
 exact ⟨x',h1,h2⟩
theorem bits_xor_nat {k:IntKind} (hk:k.signed=false) {a b:Nat} (ha:a<2^k.bits) (hb:b<2^k.bits):bitsA .xor k (a:Int) (b:Int)=some (.int k ((a ^^^ b:Nat):Int)):=by
 simp -implicitDefEqProofs only [bitsA,ofInt_natCast,BitVec.toNat_xor,BitVec.toNat_ofNat,Nat.mod_eq_of_lt ha,Nat.mod_eq_of_lt hb]
 rw [bits_u hk _ (Nat.xor_lt_two_pow ha hb)]
theorem unA_xor_u32 {r:Nat} (hr:r<4294967296):unA .xor (u32 r)=some (u32 (4294967295 ^^^ r)):=by
 have h0:4294967295<2^IntKind.bits .u32:=by show 4294967295<2^32;omega
 have h1:=bits_xor_nat (k := .u32) rfl (a:=4294967295) (b:=r) h0 hr
 have h2:IntKind.max .u32=((4294967295:Nat):Int):=by decide
 have h3:unA .xor (u32 r)=bitsA .xor .u32 (IntKind.max .u32) r:=rfl
 rw [h3,h2]
 exact h1
theorem t95_is (a:Option Addr) (n c:Nat) (l:List Nat) (h:ah) (hl:av a n h=some l) (hn:n<9223372036854775807) :
  ∃ h1,t95 C (.slice a n c) h=some (u32 (crcN l),h1) ∧ ∀ b k,h.get b=some k→h1.get b=some k:=by
 unfold t95
 simp -implicitDefEqProofs only [dB,Abs.newRow,af]
 have hg0:(h.alloc (gS 0)).get h.next=some (gS 0):=by rw [ah.aE,if_pos rfl]
 have hz:List.replicate 16 (Value.int IntKind.u32 0)=gS 0:=rfl
 rw [hz]
 obtain ⟨x',h',h1,x0,x3,hk,hg⟩:=crc_table C (up (bs [.slice a n c]) [(2,.int .u32 0),(3,ptr h.next 0),(9,.int .i64 0)]) (h.alloc (gS 0)) h.next h.aH hg0 rfl rfl
 rw [h1]
 have x0':x' 0 = .slice a n c:=x0
 have hm : ∀ b k,h.get b=some k→h'.get b=some k:=by
  intro b k hb
  have hlt:=h.aR hb
  rw [hk.get b (by simp;omega) (by omega),ah.aE,if_neg (by omega)];exact hb
 simp -implicitDefEqProofs only [bA,b95_4,if_true,t95k95_2_eq]
 unfold t95k95_2
 simp -implicitDefEqProofs only [x0',bO,aj,af]
 obtain ⟨z,hz1,z6⟩:=crc_bytes C (up x' [(6,.int .u32 4294967295),(27,.slice a n c),(28,.int .i64 n),(29,.int .i64 0)]) h' h.next a n c l hg (fG hl hm)
  (by simp -implicitDefEqProofs only [aM,aV,Nat.reduceEqDiff,if_false,x3]) rfl rfl rfl rfl (by have:rounds=18446744073709551616:=rfl;omega) hn
 rw [hz1]
 simp -implicitDefEqProofs only [bA,b95_8,if_true,t95k95_6_eq]
 unfold t95k95_6
 obtain ⟨_,hb,_⟩:=aw hl
 refine ⟨h',?_,hm⟩
 simp -implicitDefEqProofs only [z6,af,unA_xor_u32 (crcFold_lt l 4294967295 (by omega) hb),aj,crcN]
theorem mixed:Try.prog.follows .mixedOrders=true:=by kernel_rfl
theorem is95:cA Try.prog 95 Try.f95:=⟨by kernel_rfl,by kernel_rfl,by kernel_rfl,by kernel_rfl⟩
theorem c95:cq Try.prog 95 s95:=by
 have key : ∀ args h v h',s95 args h=some (v,h') → ∃ a n c l,args = [.slice a n c]∧av a n h=some l∧n<9223372036854775807∧v=u32 (crcN l)∧h'=h:=by
  intro args h v h' e
  unfold s95 at e
  split at e
  ·split at e
   ·rename_i l hl
    split at e
    ·rename_i hn
     cases e
     exact ⟨_,_,_,l,rfl,hl,hn,rfl,rfl⟩
    ·cases e
   ·cases e
  ·cases e
 refine .quiet (cD [] (by simp)) mixed is95 ?_ ?_
 ·intro args h v h' e
  obtain ⟨a,n,c,l,rfl,hl,hn,rfl,rfl⟩:=key _ _ _ _ e
  exact ⟨rfl,fun _=>rfl⟩
 ·intro args h v h' e _ _
  obtain ⟨a,n,c,l,rfl,hl,hn,rfl,rfl⟩:=key _ _ _ _ e
  obtain ⟨h1,h2,h3⟩:=t95_is (fe []) a n c l _ hl hn
  exact ⟨h1,(t95_eq _ _ _).trans h2,h3⟩
end
end Go.Proofs.Ytcmfgmhadeeieaa

namespace Go.Proofs.Ytcmfgmhadeeieaa
open Go Go.Abs
end Go.Proofs.Ytcmfgmhadeeieaa

namespace Go.Proofs.Ytcmfgmhadeeieaa
open Go Go.Abs
noncomputable def k17_4 (C:al) (e:Env) (h:ah):Out:=cB Try.prog C (partOf Try.f17 [1,1,1]) e h (au Try.prog Try.f17.results.toList) (au Try.prog Try.f17.results.toList) (fun _ _ _=>none)
noncomputable def b17_6 (C:al) (i:Nat) (e:Env) (h:ah):Out:=if i=0 then (k17_4 C) e h else (fun _ _ _=>none) i e h
noncomputable def k17_10 (C:al) (e:Env) (h:ah):Option (Ex×Env×ah):=cB Try.prog C (partOf Try.f17 [1,1,0,1,0,0,1,1]) e h (fun e h=>some (Ex.normal,e,h)) (fun e h=>some (Ex.ret,e,h)) (fun i e h=>some (Ex.exit i,e,h))
noncomputable def b17_11 (C:al) (i:Nat) (e:Env) (h:ah):Option (Ex×Env×ah):=if i=1 then (k17_10 C) e h else (fun i e h=>some (Ex.exit i,e,h)) i e h
noncomputable def b17_16 (C:al) (i:Nat) (e:Env) (h:ah):Option (Ex×Env×ah):=if i=2 then (k17_10 C) e h else (b17_11 C) i e h
noncomputable def t17 (C:al) (x0 x1:Value) (h:ah):Out:=
 ae (some ((.bool false),h)) fun y4 h=>
 ae (some (x0,h)) fun y7 h=>
 ae (pu (bin Try.prog .gtr 3 y7 (.int .i64 64)) h) fun y8 h=>
 ae (some (y8,h)) fun y9 h=>
 ae (ao (aZ y9==some true) (some (x0,h)) h) fun bM h=>
 ae (ao (aZ y9==some true) (pu (bin Try.prog .leq 3 bM (.int .i64 4096)) h) h) fun bY h=>
 ae (match y9 with | .bool t=>some (if t then bY else (.bool false),h)|_=>none) fun bX h=>
 ae (some (bX,h)) fun bR h=>
 ae (ao (aZ bR==some false) (some (x1,h)) h) fun bQ h=>
 ae (ao (aZ bR==some false) (pu (cH bQ) h) h) fun y15 h=>
 ae (ao (aZ bR==some false) (pu (bin Try.prog .gtr 3 y15 (.int .i64 100)) h) h) fun y16 h=>
 ae (match bR with | .bool t=>some (if t then (.bool true) else y16,h)|_=>none) fun y17 h=>
 (match y17 with
 | .bool true=>
 ae (some ((.bool true),h)) fun y4_1 h=>
 some (y4_1,h)
 | .bool false=>
 ae (some ((.int .i64 0),h)) fun y5 h=>
 dD (iter (aI Try.prog C (partOf Try.f17 [1,1,0,1,0,0])) rounds (aY 60 (up (bs [x0,x1]) [(4,y4),(5,y5),(7,y7),(8,y8),(9,y9),(10,bM),(11,bY),(12,bX),(13,bR),(14,bQ),(15,y15),(16,y16),(17,y17)])) h) (au Try.prog Try.f17.results.toList) (b17_6 C)
 |_=>none)
noncomputable def t17k17_4 (C:al) (x:Nat→Value) (h:ah):Out:=
 ae (some ((.bool false),h)) fun y4 h=>
 some (y4,h)
noncomputable def t17l17_11010 (C:al) (x:Nat→Value) (h:ah):Option (Ex×Env×ah):=
 ae (some ((x 5),h)) fun cG h=>
 ae (some ((x 1),h)) fun cK h=>
 ae (pu (cH cK) h) fun y20 h=>
 ae (pu (bin Try.prog .lss 3 cG y20) h) fun y21 h=>
 (match y21 with
 | .bool true=>
 ae (some ((x 1),h)) fun y24 h=>
 ae (some ((x 5),h)) fun y25 h=>
 ae (pu (cd 6 y24 y25) h) fun y26 h=>
 ae (pu (aL y26 5) h) fun y27 h=>
 ae (ba y27 h) fun y28 h=>
 ae (pu (cH y28) h) fun y29 h=>
 ae (pu (bin Try.prog .gtr 3 y29 (.int .i64 40)) h) fun y30 h=>
 ae (some (y30,h)) fun y31 h=>
 ae (ao (aZ y31==some false) (some ((x 1),h)) h) fun y32 h=>
 ae (ao (aZ y31==some false) (some ((x 5),h)) h) fun y33 h=>
 ae (ao (aZ y31==some false) (pu (cd 6 y32 y33) h) h) fun y34 h=>
 ae (ao (aZ y31==some false) (pu (aL y34 4) h) h) fun y35 h=>
 ae (ao (aZ y31==some false) (ba y35 h) h) fun y36 h=>
 ae (ao (aZ y31==some false) (pu (cH y36) h) h) fun y37 h=>
 ae (ao (aZ y31==some false) (pu (bin Try.prog .gtr 3 y37 (.int .i64 21000)) h) h) fun y38 h=>
 ae (match y31 with | .bool t=>some (if t then (.bool true) else y38,h)|_=>none) fun y39 h=>
 (match y39 with
 | .bool true=>
 ae (some ((.bool true),h)) fun y4 h=>
 some (.ret,(aY 60 (up x [(4,y4),(18,cG),(19,cK),(20,y20),(21,y21),(24,y24),(25,y25),(26,y26),(27,y27),(28,y28),(29,y29),(30,y30),(31,y31),(32,y32),(33,y33),(34,y34),(35,y35),(36,y36),(37,y37),(38,y38),(39,y39)])),h)
 | .bool false=>
 ae (some ((.int .i64 0),h)) fun y6 h=>
 dD (iter (aI Try.prog C (partOf Try.f17 [1,1,0,1,0,0,1,0,0,1,1,0,0])) rounds (aY 60 (up x [(6,y6),(18,cG),(19,cK),(20,y20),(21,y21),(24,y24),(25,y25),(26,y26),(27,y27),(28,y28),(29,y29),(30,y30),(31,y31),(32,y32),(33,y33),(34,y34),(35,y35),(36,y36),(37,y37),(38,y38),(39,y39)])) h) (fun e h=>some (Ex.ret,e,h)) (b17_16 C)
 |_=>none)
 | .bool false=>
 some (.exit 0,(aY 60 (up x [(18,cG),(19,cK),(20,y20),(21,y21)])),h)
 |_=>none)
noncomputable def t17k17_10 (C:al) (x:Nat→Value) (h:ah):Option (Ex×Env×ah):=
 ae (some ((x 5),h)) fun y22 h=>
 ae (pu (bin Try.prog .add 3 y22 (.int .i64 1)) h) fun de h=>
 ae (some (de,h)) fun y5 h=>
 some (.normal,(aY 60 (up x [(5,y5),(22,y22),(23,de)])),h)
noncomputable def gT (C:al) (x:Nat→Value) (h:ah):Option (Ex×Env×ah):=
 ae (some ((x 6),h)) fun y40 h=>
 ae (some ((x 1),h)) fun y41 h=>
 ae (some ((x 5),h)) fun y42 h=>
 ae (pu (cd 6 y41 y42) h) fun y43 h=>
 ae (pu (aL y43 5) h) fun y44 h=>
 ae (ba y44 h) fun y45 h=>
 ae (pu (cH y45) h) fun y46 h=>
 ae (pu (bin Try.prog .lss 3 y40 y46) h) fun y47 h=>
 (match y47 with
 | .bool true=>
 ae (some ((x 1),h)) fun y50 h=>
 ae (some ((x 5),h)) fun y51 h=>
 ae (pu (cd 6 y50 y51) h) fun y52 h=>
 ae (pu (aL y52 5) h) fun y53 h=>
 ae (ba y53 h) fun y54 h=>
 ae (some ((x 6),h)) fun y55 h=>
 ae (pu (cd 1 y54 y55) h) fun y56 h=>
 ae (ba y56 h) fun y57 h=>
 ae (pu (cH y57) h) fun y58 h=>
 ae (pu (bin Try.prog .gtr 3 y58 (.int .i64 21000)) h) fun y59 h=>
 (match y59 with
 | .bool true=>
 ae (some ((.bool true),h)) fun y4 h=>
 some (.ret,(aY 60 (up x [(4,y4),(40,y40),(41,y41),(42,y42),(43,y43),(44,y44),(45,y45),(46,y46),(47,y47),(50,y50),(51,y51),(52,y52),(53,y53),(54,y54),(55,y55),(56,y56),(57,y57),(58,y58),(59,y59)])),h)
 | .bool false=>
 ae (some ((x 6),h)) fun y48 h=>
 ae (pu (bin Try.prog .add 3 y48 (.int .i64 1)) h) fun y49 h=>
 ae (some (y49,h)) fun y6 h=>
 some (.normal,(aY 60 (up x [(6,y6),(40,y40),(41,y41),(42,y42),(43,y43),(44,y44),(45,y45),(46,y46),(47,y47),(48,y48),(49,y49),(50,y50),(51,y51),(52,y52),(53,y53),(54,y54),(55,y55),(56,y56),(57,y57),(58,y58),(59,y59)])),h)
 |_=>none)
 | .bool false=>
 some (.exit 2,(aY 60 (up x [(40,y40),(41,y41),(42,y42),(43,y43),(44,y44),(45,y45),(46,y46),(47,y47)])),h)
 |_=>none)
theorem t17_eq (C:al) (x0 x1:Value) (h:ah):bw Try.prog C Try.f17 [x0,x1] h=t17 C x0 x1 h:=
 (aK Try.prog C Try.f17 [x0,x1] h (by kernel_rfl)).trans (by kernel_rfl)
theorem t17k17_4_eq (C:al) (x:Nat→Value) (h:ah):k17_4 C (aY 60 x) h=t17k17_4 C x h:=
 bt (b:=(partOf Try.f17 [1,1,1])) (kE:=(au Try.prog Try.f17.results.toList)) (rE:=(au Try.prog Try.f17.results.toList)) (xE:=(fun _ _ _=>none)) (T:=t17k17_4 C) (fun x h=>by kernel_rfl) x h
theorem t17l17_11010_eq (C:al) (x:Nat→Value) (h:ah):aI Try.prog C (partOf Try.f17 [1,1,0,1,0,0]) (aY 60 x) h=t17l17_11010 C x h:=
 bj (T:=t17l17_11010 C) (fun x h=>by kernel_rfl) x h
theorem t17k17_10_eq (C:al) (x:Nat→Value) (h:ah):k17_10 C (aY 60 x) h=t17k17_10 C x h:=
 bt (b:=(partOf Try.f17 [1,1,0,1,0,0,1,1])) (kE:=(fun e h=>some (Ex.normal,e,h))) (rE:=(fun e h=>some (Ex.ret,e,h))) (xE:=(fun i e h=>some (Ex.exit i,e,h))) (T:=t17k17_10 C) (fun x h=>by kernel_rfl) x h
theorem t17l17_110100100110_eq (C:al) (x:Nat→Value) (h:ah):aI Try.prog C (partOf Try.f17 [1,1,0,1,0,0,1,0,0,1,1,0,0]) (aY 60 x) h=gT C x h:=
 bj (T:=gT C) (fun x h=>by kernel_rfl) x h
noncomputable def k24_2 (C:al) (e:Env) (h:ah):Out:=cB Try.prog C (partOf Try.f24 [1,1,1]) e h (au Try.prog Try.f24.results.toList) (au Try.prog Try.f24.results.toList) (fun _ _ _=>none)
noncomputable def b24_4 (C:al) (i:Nat) (e:Env) (h:ah):Out:=if i=0 then (k24_2 C) e h else (fun _ _ _=>none) i e h
noncomputable def t24 (C:al) (x0:Value) (h:ah):Out:=
 ae (some ((.slice none 0 0),h)) fun y2 h=>
 ae (cX 1 (.slice none 0 0) 0 [] h) fun y5 h=>
 ae (some (y5,h)) fun y3 h=>
 ae (some ((.int .i64 0),h)) fun y4 h=>
 dD (iter (aI Try.prog C (partOf Try.f24 [1,1,0,1,0,0])) rounds (aY 22 (up (bs [x0]) [(2,y2),(3,y3),(4,y4),(5,y5)])) h) (au Try.prog Try.f24.results.toList) (b24_4 C)
noncomputable def t24k24_2 (C:al) (x:Nat→Value) (h:ah):Out:=
 ae (some ((x 3),h)) fun y21 h=>
 ae (some (y21,h)) fun y2 h=>
 some (y2,h)
noncomputable def t24l24_11010 (C:al) (x:Nat→Value) (h:ah):Option (Ex×Env×ah):=
 ae (some ((x 4),h)) fun y6 h=>
 ae (some ((x 0),h)) fun y7 h=>
 ae (pu (cH y7) h) fun y8 h=>
 ae (pu (bin Try.prog .lss 3 y6 y8) h) fun y9 h=>
 (match y9 with
 | .bool true=>
 ae (some ((x 3),h)) fun bX h=>
 ae (cX 1 (.int .u8 0) 0 [] h) fun bR h=>
 ae (some ((x 0),h)) fun bQ h=>
 ae (some ((x 4),h)) fun y15 h=>
 ae (pu (cd 1 bQ y15) h) fun y16 h=>
 ae (ba y16 h) fun y17 h=>
 ae (bo 1 1 bR y17 h) fun cG h=>
 ae (cX 1 (.slice none 0 0) 1 [(0,cG)] h) fun cK h=>
 ae (bo 1 24 bX cK h) fun y20 h=>
 ae (some (y20,h)) fun y3 h=>
 ae (some ((x 4),h)) fun bM h=>
 ae (pu (bin Try.prog .add 3 bM (.int .i64 1)) h) fun bY h=>
 ae (some (bY,h)) fun y4 h=>
 some (.normal,(aY 22 (up x [(3,y3),(4,y4),(6,y6),(7,y7),(8,y8),(9,y9),(10,bM),(11,bY),(12,bX),(13,bR),(14,bQ),(15,y15),(16,y16),(17,y17),(18,cG),(19,cK),(20,y20)])),h)
 | .bool false=>
 some (.exit 0,(aY 22 (up x [(6,y6),(7,y7),(8,y8),(9,y9)])),h)
 |_=>none)
theorem t24_eq (C:al) (x0:Value) (h:ah):bw Try.prog C Try.f24 [x0] h=t24 C x0 h:=
 (aK Try.prog C Try.f24 [x0] h (by kernel_rfl)).trans (by kernel_rfl)
theorem t24k24_2_eq (C:al) (x:Nat→Value) (h:ah):k24_2 C (aY 22 x) h=t24k24_2 C x h:=
 bt (b:=(partOf Try.f24 [1,1,1])) (kE:=(au Try.prog Try.f24.results.toList)) (rE:=(au Try.prog Try.f24.results.toList)) (xE:=(fun _ _ _=>none)) (T:=t24k24_2 C) (fun x h=>by kernel_rfl) x h
theorem t24l24_11010_eq (C:al) (x:Nat→Value) (h:ah):aI Try.prog C (partOf Try.f24 [1,1,0,1,0,0]) (aY 22 x) h=t24l24_11010 C x h:=
 bj (T:=t24l24_11010 C) (fun x h=>by kernel_rfl) x h
end Go.Proofs.Ytcmfgmhadeeieaa

namespace Go.Proofs.Ytcmfgmhadeeieaa
open Go Go.Abs
noncomputable def k4_9 (C:al) (e:Env) (h:ah):Out:=cB Try.prog C (partOf Try.f4 [1,1,1,1,1,1]) e h (au Try.prog Try.f4.results.toList) (au Try.prog Try.f4.results.toList) (fun _ _ _=>none)
noncomputable def b4_11 (C:al) (i:Nat) (e:Env) (h:ah):Out:=if i=0 then (k4_9 C) e h else (fun _ _ _=>none) i e h
noncomputable def k4_12 (C:al) (e:Env) (h:ah):Out:=cB Try.prog C (partOf Try.f4 [1,1,1,1,1,1,1]) e h (au Try.prog Try.f4.results.toList) (au Try.prog Try.f4.results.toList) (fun _ _ _=>none)
noncomputable def b4_14 (C:al) (i:Nat) (e:Env) (h:ah):Out:=if i=2 then (k4_12 C) e h else (fun _ _ _=>none) i e h
noncomputable def k4_22 (C:al) (e:Env) (h:ah):Option (Ex×Env×ah):=cB Try.prog C (partOf Try.f4 [1,1,1,1,1,1,0,1,0,0,1,1]) e h (fun e h=>some (Ex.normal,e,h)) (fun e h=>some (Ex.ret,e,h)) (fun i e h=>some (Ex.exit i,e,h))
noncomputable def b4_23 (C:al) (i:Nat) (e:Env) (h:ah):Option (Ex×Env×ah):=if i=3 then (k4_22 C) e h else (fun i e h=>some (Ex.exit i,e,h)) i e h
noncomputable def k4_27 (C:al) (e:Env) (h:ah):Option (Ex×Env×ah):=cB Try.prog C (partOf Try.f4 [1,1,1,1,1,1,0,1,0,0,1,0,0,1,1,1,1]) e h (k4_22 C) (fun e h=>some (Ex.ret,e,h)) (b4_23 C)
noncomputable def b4_29 (C:al) (i:Nat) (e:Env) (h:ah):Option (Ex×Env×ah):=if i=4 then (k4_27 C) e h else (b4_23 C) i e h
noncomputable def b4_38 (C:al) (i:Nat) (e:Env) (h:ah):Option (Ex×Env×ah):=if i=6 then (k4_22 C) e h else (b4_23 C) i e h
noncomputable def t4 (C:al) (x0 x1:Value) (h:ah):Out:=
 ae (some ((.bool false),h)) fun y4 h=>
 ae (some (x0,h)) fun cG h=>
 ae (some (x1,h)) fun cK h=>
 ae (C 17 [cG,cK] h) fun y20 h=>
 ae (some (y20,h)) fun y21 h=>
 ae (ao (aZ y21==some false) (some (x0,h)) h) fun y22 h=>
 ae (ao (aZ y21==some false) (pu (bin Try.prog .lss 3 y22 (.int .i64 4)) h) h) fun de h=>
 ae (match y21 with | .bool t=>some (if t then (.bool true) else de,h)|_=>none) fun y24 h=>
 ae (some (y24,h)) fun y25 h=>
 ae (ao (aZ y25==some false) (some (x0,h)) h) fun y26 h=>
 ae (ao (aZ y25==some false) (pu (bin Try.prog .gtr 3 y26 (.int .i64 4096)) h) h) fun y27 h=>
 ae (match y25 with | .bool t=>some (if t then (.bool true) else y27,h)|_=>none) fun y28 h=>
 (match y28 with
 | .bool true=>
 ae (C 14 [] h) fun y29 h=>
 ae (some (y29,h)) fun y4_1 h=>
 some (y4_1,h)
 | .bool false=>
 ae (some (x0,h)) fun y31 h=>
 ae (C 18 [y31] h) fun y32 h=>
 ae (some (y32,h)) fun y30 h=>
 ae (pu (aD y30 0) h) fun y33 h=>
 ae (pu (aD y30 1) h) fun y34 h=>
 ae (some (y33,h)) fun y5 h=>
 ae (some (y34,h)) fun y6 h=>
 ae (some (y6,h)) fun y35 h=>
 ae (pu (bin Try.prog .neq 28 y35 (.int .i64 0)) h) fun y36 h=>
 (match y36 with
 | .bool true=>
 ae (some ((.bool false),h)) fun y4_1 h=>
 some (y4_1,h)
 | .bool false=>
 ae (cX 1 (.slice none 0 0) 0 [] h) fun y37 h=>
 ae (some (y37,h)) fun y7 h=>
 ae (some ((.int .i64 0),h)) fun y8 h=>
 dD (iter (aI Try.prog C (partOf Try.f4 [1,1,1,1,1,0,1,0,0])) rounds (aY 135 (up (bs [x0,x1]) [(4,y4),(5,y5),(6,y6),(7,y7),(8,y8),(18,cG),(19,cK),(20,y20),(21,y21),(22,y22),(23,de),(24,y24),(25,y25),(26,y26),(27,y27),(28,y28),(30,y30),(31,y31),(32,y32),(33,y33),(34,y34),(35,y35),(36,y36),(37,y37)])) h) (au Try.prog Try.f4.results.toList) (b4_11 C)
 |_=>none)
 |_=>none)
noncomputable def t4k4_9 (C:al) (x:Nat→Value) (h:ah):Out:=
 ae (some ((.int .i64 0),h)) fun y9 h=>
 dD (iter (aI Try.prog C (partOf Try.f4 [1,1,1,1,1,1,0,1,0,0])) rounds (aY 135 (up x [(9,y9)])) h) (au Try.prog Try.f4.results.toList) (b4_14 C)
noncomputable def t4l4_11111010 (C:al) (x:Nat→Value) (h:ah):Option (Ex×Env×ah):=
 ae (some ((x 8),h)) fun y38 h=>
 ae (some ((x 0),h)) fun y39 h=>
 ae (pu (bin Try.prog .lss 3 y38 y39) h) fun y40 h=>
 (match y40 with
 | .bool true=>
 ae (some ((x 7),h)) fun y43 h=>
 ae (mkR 1 1 (.int .u8 0) (.int .i64 128) (.int .i64 128) h) fun y44 h=>
 ae (cX 1 (.slice none 0 0) 1 [(0,y44)] h) fun y45 h=>
 ae (bo 1 24 y43 y45 h) fun y46 h=>
 ae (some (y46,h)) fun y7 h=>
 ae (some ((x 8),h)) fun y41 h=>
 ae (pu (bin Try.prog .add 3 y41 (.int .i64 1)) h) fun y42 h=>
 ae (some (y42,h)) fun y8 h=>
 some (.normal,(aY 135 (up x [(7,y7),(8,y8),(38,y38),(39,y39),(40,y40),(41,y41),(42,y42),(43,y43),(44,y44),(45,y45),(46,y46)])),h)
 | .bool false=>
 some (.exit 0,(aY 135 (up x [(38,y38),(39,y39),(40,y40)])),h)
 |_=>none)
noncomputable def t4k4_12 (C:al) (x:Nat→Value) (h:ah):Out:=
 ae (C 14 [] h) fun y134 h=>
 ae (some (y134,h)) fun y4 h=>
 some (y4,h)
noncomputable def gC (C:al) (x:Nat→Value) (h:ah):Option (Ex×Env×ah):=
 ae (some ((x 9),h)) fun y47 h=>
 ae (some ((x 1),h)) fun y48 h=>
 ae (pu (cH y48) h) fun y49 h=>
 ae (pu (bin Try.prog .lss 3 y47 y49) h) fun y50 h=>
 (match y50 with
 | .bool true=>
 ae (some ((x 1),h)) fun y53 h=>
 ae (some ((x 9),h)) fun y54 h=>
 ae (pu (cd 6 y53 y54) h) fun y55 h=>
 ae (ch 6 y55 h) fun y56 h=>
 ae (dB [(.int .i64 0),(.int .i64 0),(.int .i64 0),(.int .u8 0),(.slice none 0 0),(.slice none 0 0)] h) fun bM h=>
 ae (cf 6 bM y56 h) fun _ h=>
 ae (cX 1 (.int .u8 0) 0 [] h) fun y57 h=>
 ae (pu (aL bM 4) h) fun y58 h=>
 ae (ba y58 h) fun y59 h=>
 ae (bo 1 1 y57 y59 h) fun y60 h=>
 ae (some (y60,h)) fun bY h=>
 ae (some ((x 5),h)) fun y61 h=>
 ae (pu (aL bM 1) h) fun y62 h=>
 ae (ba y62 h) fun y63 h=>
 ae (some (bY,h)) fun y64 h=>
 ae (C 19 [y61,y63,y64] h) fun y65 h=>
 ae (some (y65,h)) fun bX h=>
 ae (some ((.int .i64 0),h)) fun bR h=>
 dD (iter (aI Try.prog C (partOf Try.f4 [1,1,1,1,1,1,0,1,0,0,1,0,0,1,1,1,0,1,0,0])) rounds (aY 135 (up x [(10,bM),(11,bY),(12,bX),(13,bR),(47,y47),(48,y48),(49,y49),(50,y50),(53,y53),(54,y54),(55,y55),(56,y56),(57,y57),(58,y58),(59,y59),(60,y60),(61,y61),(62,y62),(63,y63),(64,y64),(65,y65)])) h) (fun e h=>some (Ex.ret,e,h)) (b4_29 C)
 | .bool false=>
 some (.exit 2,(aY 135 (up x [(47,y47),(48,y48),(49,y49),(50,y50)])),h)
 |_=>none)
noncomputable def t4k4_22 (C:al) (x:Nat→Value) (h:ah):Option (Ex×Env×ah):=
 ae (some ((x 9),h)) fun y51 h=>
 ae (pu (bin Try.prog .add 3 y51 (.int .i64 1)) h) fun y52 h=>
 ae (some (y52,h)) fun y9 h=>
 some (.normal,(aY 135 (up x [(9,y9),(51,y51),(52,y52)])),h)
noncomputable def t4k4_27 (C:al) (x:Nat→Value) (h:ah):Option (Ex×Env×ah):=
 ae (pu (aL (x 10) 1) h) fun y78 h=>
 ae (ba y78 h) fun y79 h=>
 ae (pu (bin Try.prog .geq 3 y79 (.int .i64 0)) h) fun y80 h=>
 ae (some (y80,h)) fun y81 h=>
 ae (ao (aZ y81==some true) (pu (aL (x 10) 1) h) h) fun y82 h=>
 ae (ao (aZ y81==some true) (ba y82 h) h) fun y83 h=>
 ae (ao (aZ y81==some true) (some ((x 0),h)) h) fun y84 h=>
 ae (ao (aZ y81==some true) (pu (bin Try.prog .lss 3 y83 y84) h) h) fun y85 h=>
 ae (match y81 with | .bool t=>some (if t then y85 else (.bool false),h)|_=>none) fun y86 h=>
 ae (some (y86,h)) fun y87 h=>
 ae (ao (aZ y87==some true) (pu (aL (x 10) 4) h) h) fun y88 h=>
 ae (ao (aZ y87==some true) (ba y88 h) h) fun y89 h=>
 ae (ao (aZ y87==some true) (pu (cH y89) h) h) fun y90 h=>
 ae (ao (aZ y87==some true) (pu (bin Try.prog .eql 3 y90 (.int .i64 128)) h) h) fun y91 h=>
 ae (match y87 with | .bool t=>some (if t then y91 else (.bool false),h)|_=>none) fun y92 h=>
 ae (some (y92,h)) fun bQ h=>
 ae (some ((x 12),h)) fun y93 h=>
 ae (pu (bin Try.prog .eql 28 y93 (.int .i64 0)) h) fun y94 h=>
 ae (some (bQ,h)) fun y95 h=>
 ae (pu (bin Try.prog .neq 4 y94 y95) h) fun y96 h=>
 (match y96 with
 | .bool true=>
 ae (some ((.bool false),h)) fun y4 h=>
 some (.ret,(aY 135 (up x [(4,y4),(14,bQ),(78,y78),(79,y79),(80,y80),(81,y81),(82,y82),(83,y83),(84,y84),(85,y85),(86,y86),(87,y87),(88,y88),(89,y89),(90,y90),(91,y91),(92,y92),(93,y93),(94,y94),(95,y95),(96,y96)])),h)
 | .bool false=>
 ae (some (bQ,h)) fun y97 h=>
 (match y97 with
 | .bool true=>
 let g36_0:=h
 ae (some ((x 7),g36_0)) fun y98 g36_1=>
 ae (pu (aL (x 10) 1) g36_1) fun y99 g36_2=>
 ae (ba y99 g36_2) fun y100 g36_3=>
 ae (pu (aL (x 10) 4) g36_3) fun y102 g36_4=>
 ae (ba y102 g36_4) fun y103 g36_5=>
 ae (cX 1 (.int .u8 0) 0 [] g36_5) fun y101 g36_6=>
 ae (bo 1 1 y101 y103 g36_6) fun y104 g36_7=>
 ae (pu (cd 1 y98 y100) g36_7) fun y105 g36_8=>
 ae (cf 1 y105 y104 g36_8) fun _ g36_9=>
 (match (cE true (ba y99 g36_7) y100&&true) with
 |true=>
 let h:=g36_9
 ae (some ((.int .i64 0),h)) fun y15 h=>
 dD (iter (aI Try.prog C (partOf Try.f4 [1,1,1,1,1,1,0,1,0,0,1,0,0,1,1,1,1,1,1,1,1,0,0])) rounds (aY 135 (up x [(14,bQ),(15,y15),(78,y78),(79,y79),(80,y80),(81,y81),(82,y82),(83,y83),(84,y84),(85,y85),(86,y86),(87,y87),(88,y88),(89,y89),(90,y90),(91,y91),(92,y92),(93,y93),(94,y94),(95,y95),(96,y96),(97,y97),(98,y98),(99,y99),(100,y100),(101,y101),(102,y102),(103,y103),(104,y104),(105,y105)])) h) (fun e h=>some (Ex.ret,e,h)) (b4_38 C)
 |false=>none)
 | .bool false=>
 ae (some ((.int .i64 0),h)) fun y15 h=>
 dD (iter (aI Try.prog C (partOf Try.f4 [1,1,1,1,1,1,0,1,0,0,1,0,0,1,1,1,1,1,1,1,1,0,0])) rounds (aY 135 (up x [(14,bQ),(15,y15),(78,y78),(79,y79),(80,y80),(81,y81),(82,y82),(83,y83),(84,y84),(85,y85),(86,y86),(87,y87),(88,y88),(89,y89),(90,y90),(91,y91),(92,y92),(93,y93),(94,y94),(95,y95),(96,y96),(97,y97)])) h) (fun e h=>some (Ex.ret,e,h)) (b4_38 C)
 |_=>none)
 |_=>none)
noncomputable def eY (C:al) (x:Nat→Value) (h:ah):Option (Ex×Env×ah):=
 ae (some ((x 13),h)) fun y66 h=>
 ae (some ((x 11),h)) fun y67 h=>
 ae (pu (cH y67) h) fun y68 h=>
 ae (pu (bin Try.prog .lss 3 y66 y68) h) fun y69 h=>
 (match y69 with
 | .bool true=>
 ae (some ((x 11),h)) fun y72 h=>
 ae (some ((x 13),h)) fun y73 h=>
 ae (pu (cd 1 y72 y73) h) fun y74 h=>
 ae (ba y74 h) fun y75 h=>
 ae (pu (bin Try.prog .xor 5 y75 (.int .u8 255)) h) fun y76 h=>
 ae (pu (cd 1 y72 y73) h) fun y77 h=>
 ae (cf 1 y77 y76 h) fun _ h=>
 ae (some ((x 13),h)) fun y70 h=>
 ae (pu (bin Try.prog .add 3 y70 (.int .i64 1)) h) fun y71 h=>
 ae (some (y71,h)) fun bR h=>
 some (.normal,(aY 135 (up x [(13,bR),(66,y66),(67,y67),(68,y68),(69,y69),(70,y70),(71,y71),(72,y72),(73,y73),(74,y74),(75,y75),(76,y76),(77,y77)])),h)
 | .bool false=>
 some (.exit 4,(aY 135 (up x [(66,y66),(67,y67),(68,y68),(69,y69)])),h)
 |_=>none)
noncomputable def eo (C:al) (x:Nat→Value) (h:ah):Option (Ex×Env×ah):=
 ae (some ((x 15),h)) fun y106 h=>
 ae (some ((x 0),h)) fun y107 h=>
 ae (pu (bin Try.prog .lss 3 y106 y107) h) fun y108 h=>
 (match y108 with
 | .bool true=>
 ae (some ((x 5),h)) fun y112 h=>
 ae (some ((x 15),h)) fun y113 h=>
 ae (C 20 [y112,y113] h) fun y114 h=>
 ae (some (y114,h)) fun y111 h=>
 ae (pu (aD y111 0) h) fun y115 h=>
 ae (pu (aD y111 1) h) fun y116 h=>
 ae (some (y115,h)) fun y16 h=>
 ae (some (y116,h)) fun y17 h=>
 ae (some (y17,h)) fun y117 h=>
 ae (pu (bin Try.prog .neq 28 y117 (.int .i64 0)) h) fun y118 h=>
 ae (some (y118,h)) fun y119 h=>
 ae (ao (aZ y119==some false) (some (y16,h)) h) fun y120 h=>
 ae (ao (aZ y119==some false) (cvBS y120 h) h) fun y121 h=>
 ae (ao (aZ y119==some false) (some ((x 7),h)) h) fun y122 h=>
 ae (ao (aZ y119==some false) (some ((x 15),h)) h) fun y123 h=>
 ae (ao (aZ y119==some false) (pu (cd 1 y122 y123) h) h) fun y124 h=>
 ae (ao (aZ y119==some false) (ba y124 h) h) fun y125 h=>
 ae (ao (aZ y119==some false) (cvBS y125 h) h) fun y126 h=>
 ae (ao (aZ y119==some false) (pu (bin Try.prog .neq 9 y121 y126) h) h) fun y127 h=>
 ae (match y119 with | .bool t=>some (if t then (.bool true) else y127,h)|_=>none) fun y128 h=>
 (match y128 with
 | .bool true=>
 ae (some ((.bool false),h)) fun y4 h=>
 some (.ret,(aY 135 (up x [(4,y4),(16,y16),(17,y17),(106,y106),(107,y107),(108,y108),(111,y111),(112,y112),(113,y113),(114,y114),(115,y115),(116,y116),(117,y117),(118,y118),(119,y119),(120,y120),(121,y121),(122,y122),(123,y123),(124,y124),(125,y125),(126,y126),(127,y127),(128,y128)])),h)
 | .bool false=>
 ae (some (y16,h)) fun y129 h=>
 ae (pu (cd 1 y129 (.int .i64 0)) h) fun y130 h=>
 ae (ba y130 h) fun y131 h=>
 ae (pu (bin Try.prog .xor 5 y131 (.int .u8 255)) h) fun y132 h=>
 ae (pu (cd 1 y129 (.int .i64 0)) h) fun y133 h=>
 ae (cf 1 y133 y132 h) fun _ h=>
 ae (some ((x 15),h)) fun y109 h=>
 ae (pu (bin Try.prog .add 3 y109 (.int .i64 1)) h) fun y110 h=>
 ae (some (y110,h)) fun y15 h=>
 some (.normal,(aY 135 (up x [(15,y15),(16,y16),(17,y17),(106,y106),(107,y107),(108,y108),(109,y109),(110,y110),(111,y111),(112,y112),(113,y113),(114,y114),(115,y115),(116,y116),(117,y117),(118,y118),(119,y119),(120,y120),(121,y121),(122,y122),(123,y123),(124,y124),(125,y125),(126,y126),(127,y127),(128,y128),(129,y129),(130,y130),(131,y131),(132,y132),(133,y133)])),h)
 |_=>none)
 | .bool false=>
 some (.exit 6,(aY 135 (up x [(106,y106),(107,y107),(108,y108)])),h)
 |_=>none)
theorem t4_eq (C:al) (x0 x1:Value) (h:ah):bw Try.prog C Try.f4 [x0,x1] h=t4 C x0 x1 h:=
 (aK Try.prog C Try.f4 [x0,x1] h (by kernel_rfl)).trans (by kernel_rfl)
theorem t4k4_9_eq (C:al) (x:Nat→Value) (h:ah):k4_9 C (aY 135 x) h=t4k4_9 C x h:=
 bt (b:=(partOf Try.f4 [1,1,1,1,1,1])) (kE:=(au Try.prog Try.f4.results.toList)) (rE:=(au Try.prog Try.f4.results.toList)) (xE:=(fun _ _ _=>none)) (T:=t4k4_9 C) (fun x h=>by kernel_rfl) x h
theorem t4l4_11111010_eq (C:al) (x:Nat→Value) (h:ah):aI Try.prog C (partOf Try.f4 [1,1,1,1,1,0,1,0,0]) (aY 135 x) h=t4l4_11111010 C x h:=
 bj (T:=t4l4_11111010 C) (fun x h=>by kernel_rfl) x h
theorem t4k4_12_eq (C:al) (x:Nat→Value) (h:ah):k4_12 C (aY 135 x) h=t4k4_12 C x h:=
 bt (b:=(partOf Try.f4 [1,1,1,1,1,1,1])) (kE:=(au Try.prog Try.f4.results.toList)) (rE:=(au Try.prog Try.f4.results.toList)) (xE:=(fun _ _ _=>none)) (T:=t4k4_12 C) (fun x h=>by kernel_rfl) x h
theorem t4l4_111111010_eq (C:al) (x:Nat→Value) (h:ah):aI Try.prog C (partOf Try.f4 [1,1,1,1,1,1,0,1,0,0]) (aY 135 x) h=gC C x h:=
 bj (T:=gC C) (fun x h=>by kernel_rfl) x h
theorem t4k4_22_eq (C:al) (x:Nat→Value) (h:ah):k4_22 C (aY 135 x) h=t4k4_22 C x h:=
 bt (b:=(partOf Try.f4 [1,1,1,1,1,1,0,1,0,0,1,1])) (kE:=(fun e h=>some (Ex.normal,e,h))) (rE:=(fun e h=>some (Ex.ret,e,h))) (xE:=(fun i e h=>some (Ex.exit i,e,h))) (T:=t4k4_22 C) (fun x h=>by kernel_rfl) x h
theorem t4k4_27_eq (C:al) (x:Nat→Value) (h:ah):k4_27 C (aY 135 x) h=t4k4_27 C x h:=
 bt (b:=(partOf Try.f4 [1,1,1,1,1,1,0,1,0,0,1,0,0,1,1,1,1])) (kE:=(k4_22 C)) (rE:=(fun e h=>some (Ex.ret,e,h))) (xE:=(b4_23 C)) (T:=t4k4_27 C) (fun x h=>by kernel_rfl) x h
theorem t4l4_1111110100100111010_eq (C:al) (x:Nat→Value) (h:ah):aI Try.prog C (partOf Try.f4 [1,1,1,1,1,1,0,1,0,0,1,0,0,1,1,1,0,1,0,0]) (aY 135 x) h=eY C x h:=
 bj (T:=eY C) (fun x h=>by kernel_rfl) x h
theorem t4l4_1111110100100111111110_eq (C:al) (x:Nat→Value) (h:ah):aI Try.prog C (partOf Try.f4 [1,1,1,1,1,1,0,1,0,0,1,0,0,1,1,1,1,1,1,1,1,0,0]) (aY 135 x) h=eo C x h:=
 bj (T:=eo C) (fun x h=>by kernel_rfl) x h
end Go.Proofs.Ytcmfgmhadeeieaa

namespace Go.Proofs.Ytcmfgmhadeeieaa
open Go Go.Abs
noncomputable def t34 (C:al) (x0:Value) (h:ah):Out:=
 ae (some ((.int .u64 0),h)) fun y2 h=>
 ae (some (x0,h)) fun y3 h=>
 ae (C 58 [y3] h) fun y4 h=>
 ae (pu (bin Try.prog .neq 28 y4 (.int .i64 0)) h) fun y5 h=>
 (match y5 with
 | .bool true=>
 ae (some ((.int .u64 0),h)) fun y2_1 h=>
 some (y2_1,h)
 | .bool false=>
 ae (some (x0,h)) fun y6 h=>
 ae (pu (aB y6) h) fun y7 h=>
 ae (pu (aL y7 4) h) fun y8 h=>
 ae (ba y8 h) fun y9 h=>
 ae (some (y9,h)) fun y2_1 h=>
 some (y2_1,h)
 |_=>none)
theorem t34_eq (C:al) (x0:Value) (h:ah):bw Try.prog C Try.f34 [x0] h=t34 C x0 h:=
 (aK Try.prog C Try.f34 [x0] h (by kernel_rfl)).trans (by kernel_rfl)
noncomputable def t74 (C:al) (x0:Value) (h:ah):Out:=
 ae (some ((.int .i64 0),h)) fun y2 h=>
 ae (some (x0,h)) fun y3 h=>
 ae (C 58 [y3] h) fun y4 h=>
 ae (pu (bin Try.prog .neq 28 y4 (.int .i64 0)) h) fun y5 h=>
 ae (some (y5,h)) fun y6 h=>
 ae (ao (aZ y6==some false) (some (x0,h)) h) fun y7 h=>
 ae (ao (aZ y6==some false) (pu (aB y7) h) h) fun y8 h=>
 ae (ao (aZ y6==some false) (pu (aL y8 2) h) h) fun y9 h=>
 ae (ao (aZ y6==some false) (ba y9 h) h) fun bM h=>
 ae (ao (aZ y6==some false) (pu (bin Try.prog .lss 3 bM (.int .i64 0)) h) h) fun bY h=>
 ae (match y6 with | .bool t=>some (if t then (.bool true) else bY,h)|_=>none) fun bX h=>
 (match bX with
 | .bool true=>
 ae (some ((.int .i64 0),h)) fun y2_1 h=>
 some (y2_1,h)
 | .bool false=>
 let g5_0:=h
 ae (some (x0,g5_0)) fun bR g5_1=>
 ae (pu (aB bR) g5_1) fun bQ g5_2=>
 ae (pu (aL bQ 3) g5_2) fun y15 g5_3=>
 ae (ba y15 g5_3) fun y16 g5_4=>
 ae (some (x0,g5_4)) fun y17 g5_5=>
 ae (pu (aB y17) g5_5) fun cG g5_6=>
 ae (pu (aL cG 0) g5_6) fun cK g5_7=>
 ae (ba cK g5_7) fun y20 g5_8=>
 ae (C 55 [y20] g5_8) fun y21 g5_9=>
 ae (pu (bin Try.prog .mul 3 y16 y21) g5_9) fun y22 g5_10=>
 ae (pu (bin Try.prog .add 3 (.int .i64 2) y22) g5_10) fun de g5_11=>
 ae (some (de,g5_11)) fun y2_1 g5_12=>
 (match (cE true (ba y15 g5_9) y16&&true) with
 |true=>
 let h:=g5_12
 some (y2_1,h)
 |false=>none)
 |_=>none)
theorem t74_eq (C:al) (x0:Value) (h:ah):bw Try.prog C Try.f74 [x0] h=t74 C x0 h:=
 (aK Try.prog C Try.f74 [x0] h (by kernel_rfl)).trans (by kernel_rfl)
noncomputable def k29_4 (C:al) (e:Env) (h:ah):Out:=cB Try.prog C (partOf Try.f29 [1,1,1]) e h (au Try.prog Try.f29.results.toList) (au Try.prog Try.f29.results.toList) (fun _ _ _=>none)
noncomputable def b29_6 (C:al) (i:Nat) (e:Env) (h:ah):Out:=if i=0 then (k29_4 C) e h else (fun _ _ _=>none) i e h
noncomputable def t29 (C:al) (x0 x1:Value) (h:ah):Out:=
 ae (some ((.bool false),h)) fun y4 h=>
 ae (some (x0,h)) fun y6 h=>
 ae (pu (cH y6) h) fun y7 h=>
 ae (some (x1,h)) fun y8 h=>
 ae (pu (cH y8) h) fun y9 h=>
 ae (pu (bin Try.prog .neq 3 y7 y9) h) fun bM h=>
 (match bM with
 | .bool true=>
 ae (some ((.bool false),h)) fun y4_1 h=>
 some (y4_1,h)
 | .bool false=>
 ae (some ((.int .i64 0),h)) fun y5 h=>
 dD (iter (aI Try.prog C (partOf Try.f29 [1,1,0,1,0,0])) rounds (aY 28 (up (bs [x0,x1]) [(4,y4),(5,y5),(6,y6),(7,y7),(8,y8),(9,y9),(10,bM)])) h) (au Try.prog Try.f29.results.toList) (b29_6 C)
 |_=>none)
noncomputable def t29k29_4 (C:al) (x:Nat→Value) (h:ah):Out:=
 ae (some ((.bool true),h)) fun y4 h=>
 some (y4,h)
noncomputable def t29l29_11010 (C:al) (x:Nat→Value) (h:ah):Option (Ex×Env×ah):=
 ae (some ((x 5),h)) fun bY h=>
 ae (some ((x 0),h)) fun bX h=>
 ae (pu (cH bX) h) fun bR h=>
 ae (pu (bin Try.prog .lss 3 bY bR) h) fun bQ h=>
 (match bQ with
 | .bool true=>
 ae (some ((x 0),h)) fun y17 h=>
 ae (some ((x 5),h)) fun cG h=>
 ae (pu (cd 1 y17 cG) h) fun cK h=>
 ae (ba cK h) fun y20 h=>
 ae (cvBS y20 h) fun y21 h=>
 ae (some ((x 1),h)) fun y22 h=>
 ae (some ((x 5),h)) fun de h=>
 ae (pu (cd 1 y22 de) h) fun y24 h=>
 ae (ba y24 h) fun y25 h=>
 ae (cvBS y25 h) fun y26 h=>
 ae (pu (bin Try.prog .neq 9 y21 y26) h) fun y27 h=>
 (match y27 with
 | .bool true=>
 ae (some ((.bool false),h)) fun y4 h=>
 some (.ret,(aY 28 (up x [(4,y4),(11,bY),(12,bX),(13,bR),(14,bQ),(17,y17),(18,cG),(19,cK),(20,y20),(21,y21),(22,y22),(23,de),(24,y24),(25,y25),(26,y26),(27,y27)])),h)
 | .bool false=>
 ae (some ((x 5),h)) fun y15 h=>
 ae (pu (bin Try.prog .add 3 y15 (.int .i64 1)) h) fun y16 h=>
 ae (some (y16,h)) fun y5 h=>
 some (.normal,(aY 28 (up x [(5,y5),(11,bY),(12,bX),(13,bR),(14,bQ),(15,y15),(16,y16),(17,y17),(18,cG),(19,cK),(20,y20),(21,y21),(22,y22),(23,de),(24,y24),(25,y25),(26,y26),(27,y27)])),h)
 |_=>none)
 | .bool false=>
 some (.exit 0,(aY 28 (up x [(11,bY),(12,bX),(13,bR),(14,bQ)])),h)
 |_=>none)
theorem t29_eq (C:al) (x0 x1:Value) (h:ah):bw Try.prog C Try.f29 [x0,x1] h=t29 C x0 x1 h:=
 (aK Try.prog C Try.f29 [x0,x1] h (by kernel_rfl)).trans (by kernel_rfl)
theorem t29k29_4_eq (C:al) (x:Nat→Value) (h:ah):k29_4 C (aY 28 x) h=t29k29_4 C x h:=
 bt (b:=(partOf Try.f29 [1,1,1])) (kE:=(au Try.prog Try.f29.results.toList)) (rE:=(au Try.prog Try.f29.results.toList)) (xE:=(fun _ _ _=>none)) (T:=t29k29_4 C) (fun x h=>by kernel_rfl) x h
theorem t29l29_11010_eq (C:al) (x:Nat→Value) (h:ah):aI Try.prog C (partOf Try.f29 [1,1,0,1,0,0]) (aY 28 x) h=t29l29_11010 C x h:=
 bj (T:=t29l29_11010 C) (fun x h=>by kernel_rfl) x h
noncomputable def k30_2 (C:al) (e:Env) (h:ah):Out:=cB Try.prog C (partOf Try.f30 [1,1,1]) e h (au Try.prog Try.f30.results.toList) (au Try.prog Try.f30.results.toList) (fun _ _ _=>none)
noncomputable def b30_4 (C:al) (i:Nat) (e:Env) (h:ah):Out:=if i=0 then (k30_2 C) e h else (fun _ _ _=>none) i e h
noncomputable def t30 (C:al) (x0:Value) (h:ah):Out:=
 ae (some ((.slice none 0 0),h)) fun y2 h=>
 ae (cX 1 (.slice none 0 0) 0 [] h) fun y5 h=>
 ae (some (y5,h)) fun y3 h=>
 ae (some ((.int .i64 0),h)) fun y4 h=>
 dD (iter (aI Try.prog C (partOf Try.f30 [1,1,0,1,0,0])) rounds (aY 23 (up (bs [x0]) [(2,y2),(3,y3),(4,y4),(5,y5)])) h) (au Try.prog Try.f30.results.toList) (b30_4 C)
noncomputable def t30k30_2 (C:al) (x:Nat→Value) (h:ah):Out:=
 ae (some ((x 3),h)) fun y22 h=>
 ae (some (y22,h)) fun y2 h=>
 some (y2,h)
noncomputable def iI (C:al) (x:Nat→Value) (h:ah):Option (Ex×Env×ah):=
 ae (some ((x 4),h)) fun y6 h=>
 ae (some ((x 0),h)) fun y7 h=>
 ae (pu (cH y7) h) fun y8 h=>
 ae (pu (bin Try.prog .lss 3 y6 y8) h) fun y9 h=>
 (match y9 with
 | .bool true=>
 ae (some ((x 3),h)) fun bX h=>
 ae (cX 1 (.int .u8 0) 0 [] h) fun bR h=>
 ae (some ((x 0),h)) fun bQ h=>
 ae (some ((x 4),h)) fun y15 h=>
 ae (pu (cd 2 bQ y15) h) fun y16 h=>
 ae (pu (aL y16 1) h) fun y17 h=>
 ae (ba y17 h) fun cG h=>
 ae (bo 1 1 bR cG h) fun cK h=>
 ae (cX 1 (.slice none 0 0) 1 [(0,cK)] h) fun y20 h=>
 ae (bo 1 24 bX y20 h) fun y21 h=>
 ae (some (y21,h)) fun y3 h=>
 ae (some ((x 4),h)) fun bM h=>
 ae (pu (bin Try.prog .add 3 bM (.int .i64 1)) h) fun bY h=>
 ae (some (bY,h)) fun y4 h=>
 some (.normal,(aY 23 (up x [(3,y3),(4,y4),(6,y6),(7,y7),(8,y8),(9,y9),(10,bM),(11,bY),(12,bX),(13,bR),(14,bQ),(15,y15),(16,y16),(17,y17),(18,cG),(19,cK),(20,y20),(21,y21)])),h)
 | .bool false=>
 some (.exit 0,(aY 23 (up x [(6,y6),(7,y7),(8,y8),(9,y9)])),h)
 |_=>none)
theorem t30_eq (C:al) (x0:Value) (h:ah):bw Try.prog C Try.f30 [x0] h=t30 C x0 h:=
 (aK Try.prog C Try.f30 [x0] h (by kernel_rfl)).trans (by kernel_rfl)
theorem t30k30_2_eq (C:al) (x:Nat→Value) (h:ah):k30_2 C (aY 23 x) h=t30k30_2 C x h:=
 bt (b:=(partOf Try.f30 [1,1,1])) (kE:=(au Try.prog Try.f30.results.toList)) (rE:=(au Try.prog Try.f30.results.toList)) (xE:=(fun _ _ _=>none)) (T:=t30k30_2 C) (fun x h=>by kernel_rfl) x h
theorem t30l30_11010_eq (C:al) (x:Nat→Value) (h:ah):aI Try.prog C (partOf Try.f30 [1,1,0,1,0,0]) (aY 23 x) h=iI C x h:=
 bj (T:=iI C) (fun x h=>by kernel_rfl) x h
end Go.Proofs.Ytcmfgmhadeeieaa

