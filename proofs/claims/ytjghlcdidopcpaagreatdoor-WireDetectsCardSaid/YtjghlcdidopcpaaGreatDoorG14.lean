/-
  A part of the proof, spaces and names shortened by a program (a claim may hold 1,500,000 bytes).
  Conditions: as each theorem states.
-/
import Derived.Test.YtjghlcdidopcpaaGreatDoorG13
namespace Go.Proofs.YtjghlcdidopcpaaGreatDoor
open Go Go.Abs
theorem xor_cancel {a x y:Nat} (h:a ^^^ x=a ^^^ y):x=y:=by
 have:=congrArg (a ^^^ ·) h
 simp only [←Nat.xor_assoc,Nat.xor_self,Nat.zero_xor] at this
 exact this
def bit8 (x:Nat):Nat:=dx eC (dx eC x)
theorem half_lin (a b:Nat):dx eC (a ^^^ b)=dx eC a ^^^ dx eC b:=by
 rw [←bit4,←bit4,←bit4,bit_xor,bit_xor,bit_xor,bit_xor]
theorem bit8_lin (a b:Nat):bit8 (a ^^^ b)=bit8 a ^^^ bit8 b:=by unfold bit8;rw [half_lin,half_lin]
theorem step_bit8 (r x:Nat):bD r x=bit8 (r ^^^ x):=rfl
theorem bit_half {c:Nat} (hc:c<4294967296) (h:bB c<2147483648):c=2*bB c:=by
 unfold bB at h ⊢
 by_cases h2:c%2=0
 ·rw [h2,Nat.mul_zero,Nat.xor_zero] at h ⊢
  omega
 ·exfalso
  have h2:c%2=1:=by omega
  rw [h2,Nat.mul_one] at h
  have ht:=Nat.testBit_xor (c/2) 0x82f63b78 31
  have t1:(c/2).testBit 31=false:=Nat.testBit_lt_two_pow (by omega)
  have t2:Nat.testBit 0x82f63b78 31=true:=by decide
  rw [t1,t2] at ht
  have t3:(c/2 ^^^ 0x82f63b78).testBit 31=false:=Nat.testBit_lt_two_pow (by omega)
  rw [t3] at ht
  cases ht
theorem bit8_back {c:Nat} (hc:c<4294967296) (h:bit8 c<16777216):c=256*bit8 c:=by
 have e:bit8 c=bB (bB (bB (bB (bB (bB (bB (bB c))))))):=by unfold bit8;rw [bit4,bit4]
 rw [e] at h ⊢
 have l1:=dh hc
 have l2:=dh l1
 have l3:=dh l2
 have l4:=dh l3
 have l5:=dh l4
 have l6:=dh l5
 have l7:=dh l6
 have b7:=bit_half l7 (by omega)
 have b6:=bit_half l6 (by omega)
 have b5:=bit_half l5 (by omega)
 have b4:=bit_half l4 (by omega)
 have b3:=bit_half l3 (by omega)
 have b2:=bit_half l2 (by omega)
 have b1:=bit_half l1 (by omega)
 have b0:=bit_half hc (by omega)
 omega
theorem bit8_zero {c:Nat} (hc:c<4294967296) (h:bit8 c=0):c=0:=by
 have:=bit8_back hc (by omega)
 omega
theorem xor_lt32 {a b:Nat} (ha:a<4294967296) (hb:b<4294967296):a ^^^ b<4294967296:=Nat.xor_lt_two_pow (n:=32) ha hb
theorem xor_lt8 {a b:Nat} (ha:a<256) (hb:b<256):a ^^^ b<256:=Nat.xor_lt_two_pow (n:=8) ha hb
theorem xor_eq {a b:Nat} (h:a ^^^ b=0):a=b:=by
 have:a ^^^ b=a ^^^ a:=by rw [h,Nat.xor_self]
 exact (xor_cancel this).symm
theorem crcStep_inj {r s x y:Nat} (hr:r<4294967296) (hs:s<4294967296) (hx:x<256) (hy:y<256) (h:bD r x=bD s y):r ^^^ x=s ^^^ y:=by
 have h1:r ^^^ x<4294967296:=xor_lt32 hr (by omega)
 have h2:s ^^^ y<4294967296:=xor_lt32 hs (by omega)
 refine xor_eq (bit8_zero (xor_lt32 h1 h2) ?_)
 rw [bit8_lin]
 have h:bit8 (r ^^^ x)=bit8 (s ^^^ y):=h
 rw [h,Nat.xor_self]
theorem crcFold_inj : ∀ (l:List Nat) (r s:Nat),r<4294967296→s<4294967296→(∀ x∈l,x<256)→l.foldl bD r=l.foldl bD s→r=s
 | [],_,_,_,_,_,h=>h
 |x::l,r,s,hr,hs,hb,h=>by
  have hx:=hb x List.mem_cons_self
  have h1:=crcFold_inj l _ _ (dL hr hx) (dL hs hx) (fun y hy=>hb y (List.mem_cons_of_mem _ hy)) h
  have h2:=crcStep_inj hr hs hx hx h1
  rw [Nat.xor_comm r,Nat.xor_comm s] at h2
  exact xor_cancel h2
theorem step_diff (r s x y:Nat):bD r x ^^^ bD s y=bit8 ((r ^^^ s) ^^^ (x ^^^ y)):=by
 rw [step_bit8,step_bit8,←bit8_lin]
 congr 1
 rw [Nat.xor_assoc,Nat.xor_assoc,←Nat.xor_assoc x s y,Nat.xor_comm x s,Nat.xor_assoc s x y]
theorem add_xor {q m:Nat} (hm:m<256):256*q ^^^ m=256*q+m:=by
 have h:=Nat.two_pow_add_eq_or_of_lt (i:=8) (b:=m) (by omega) q
 have h2:(2^8*q) ^^^ m=(2^8*q) ||| m:=by
  apply Nat.eq_of_testBit_eq
  intro i
  rw [Nat.testBit_xor,Nat.testBit_or]
  by_cases hi:i<8
  ·have:(2^8*q).testBit i=false:=by
    rw [Nat.testBit_two_pow_mul]
    simp [Nat.not_le.2 hi]
   rw [this];simp
  ·have:m.testBit i=false:=Nat.testBit_lt_two_pow (Nat.lt_of_lt_of_le (show m<2^8 from hm) (Nat.pow_le_pow_right (by decide) (by omega)))
   rw [this];simp
 have h3:(2^8*q) ||| m=2^8*q+m:=h.symm
 exact h2.trans h3
theorem burst4 {r a b c d a' b' c' d':Nat} (hr:r<4294967296) (ha:a<256) (hb:b<256) (hc:c<256) (hd:d<256) (ha':a'<256) (hb':b'<256) (hc':c'<256) (hd':d'<256)
  (h : [a,b,c,d].foldl bD r = [a',b',c',d'].foldl bD r):a=a'∧b=b'∧c=c'∧d=d':=by
 have h:bD (bD (bD (bD r a) b) c) d=bD (bD (bD (bD r a') b') c') d':=h
 have r1:=dL hr ha
 have r2:=dL r1 hb
 have r3:=dL r2 hc
 have s1:=dL hr ha'
 have s2:=dL s1 hb'
 have s3:=dL s2 hc'
 have x4:=crcStep_inj r3 s3 hd hd' h
 have d1:=step_diff r r a a'
 have d2:=step_diff (bD r a) (bD r a') b b'
 have d3:=step_diff (bD (bD r a) b) (bD (bD r a') b') c c'
 have u1:=xor_lt8 ha ha'
 have u2:=xor_lt8 hb hb'
 have u3:=xor_lt8 hc hc'
 have u4:=xor_lt8 hd hd'
 rw [Nat.xor_self,Nat.zero_xor] at d1
 generalize bD r a=R1 at *
 generalize bD r a'=S1 at *
 generalize bD R1 b=R2 at *
 generalize bD S1 b'=S2 at *
 generalize bD R2 c=R3 at *
 generalize bD S2 c'=S3 at *
 have e4:R3 ^^^ S3=d ^^^ d':=by
  have:=congrArg (· ^^^ (S3 ^^^ d)) x4
  rw [show R3 ^^^ d ^^^ (S3 ^^^ d)=R3 ^^^ S3 by rw [Nat.xor_comm S3 d,←Nat.xor_assoc,Nat.xor_assoc R3 d d,Nat.xor_self,Nat.xor_zero],show S3 ^^^ d' ^^^ (S3 ^^^ d)=d ^^^ d' by rw [Nat.xor_comm S3 d',Nat.xor_assoc,←Nat.xor_assoc S3,Nat.xor_self,Nat.zero_xor,Nat.xor_comm]] at this
  exact this
 generalize he1:a ^^^ a'=e1 at *
 generalize he2:b ^^^ b'=e2 at *
 generalize he3:c ^^^ c'=e3 at *
 generalize hz4:d ^^^ d'=z4 at *
 rw [e4] at d3
 have w2:=xor_lt32 r2 s2
 have w1:=xor_lt32 r1 s1
 generalize R2 ^^^ S2=D2 at *
 generalize R1 ^^^ S1=D1 at *
 have unx : ∀ {p q:Nat} {k:Nat},q<256→p ^^^ q=256*k→p=256*k+q:=fun {p q k} hq h=>by
  rw [←add_xor hq,←h,Nat.xor_assoc,Nat.xor_self,Nat.xor_zero]
 have g3:=bit8_back (c:=D2 ^^^ e3) (xor_lt32 w2 (by omega)) (by omega)
 rw [←d3] at g3
 have g3:=unx u3 g3
 have g2:=bit8_back (c:=D1 ^^^ e2) (xor_lt32 w1 (by omega)) (by omega)
 rw [←d2] at g2
 have g2:=unx u2 g2
 have g1:=bit8_back (c:=e1) (by omega) (by omega)
 rw [←d1] at g1
 have z1:e1=0:=by omega
 have z2:e2=0:=by omega
 have z3:e3=0:=by omega
 have z4':z4=0:=by omega
 exact ⟨xor_eq (he1.trans z1),xor_eq (he2.trans z2),xor_eq (he3.trans z3),xor_eq (hz4.trans z4')⟩
theorem crcN_burst {A w w' C:List Nat} (hA:dv A) (hw:dv w) (hw':dv w') (hC:dv C) (h4:w.length=4) (h4':w'.length=4) (h:crcN (A++(w++C))=crcN (A++(w'++C))):w=w':=by
 unfold crcN at h
 have h:=xor_cancel h
 rw [List.foldl_append,List.foldl_append,List.foldl_append,List.foldl_append] at h
 have hr:A.foldl bD 4294967295<4294967296:=fi _ _ (by omega) hA
 generalize A.foldl bD 4294967295=r at h hr
 have h:=crcFold_inj C _ _ (fi _ _ hr hw) (fi _ _ hr hw') hC h
 match w,h4,w',h4' with
 | [a,b,c,d],_,[a',b',c',d'],_=>
   obtain ⟨rfl,rfl,rfl,rfl⟩:=burst4 hr (hw a (by simp)) (hw b (by simp)) (hw c (by simp)) (hw d (by simp)) (hw' a' (by simp)) (hw' b' (by simp)) (hw' c' (by simp)) (hw' d' (by simp)) h
   rfl
theorem detects {m:bc} (w:m.Wf) {A x x' C:List Nat} (he:enc m=A++(x++C)) (h4:x.length=4) (h4':x'.length=4) (hb:dv x') (hne:x≠x') (hC:C = []∨4≤C.length):(decF (A++(x'++C))).2≠0:=by
 intro h0
 have hB:=enc_bys w
 rw [he] at hB
 have hA:=hB.left
 have hx:=hB.right.left
 have hCb:=hB.right.right
 have hB':dv (A++(x'++C)):=hA.app (hb.app hCb)
 obtain ⟨-,e⟩:=enc_decF hB' h0
 generalize (decF (A++(x'++C))).1=m' at e
 unfold enc at he e
 have l1:=congrArg List.length he
 have l2:=congrArg List.length e
 simp only [List.length_append,aD] at l1 l2
 rcases hC with rfl|hC
 ·simp only [List.length_nil,List.append_nil] at he e l1 l2
  obtain ⟨a1,a2⟩:=List.append_inj he (by omega)
  obtain ⟨b1,b2⟩:=List.append_inj e (by omega)
  rw [a1] at a2
  rw [b1] at b2
  exact hne (a2.symm.trans b2)
 ·obtain ⟨C0,C1,rfl,hc⟩ : ∃ C0 C1,C=C0++C1∧C1.length=4:=⟨C.take (C.length-4),C.drop (C.length-4),(List.take_append_drop ..).symm,by rw [List.length_drop];omega⟩
  rw [←List.append_assoc x,←List.append_assoc A] at he
  rw [←List.append_assoc x',←List.append_assoc A] at e
  simp only [List.length_append] at l1 l2
  obtain ⟨a1,a2⟩:=List.append_inj he (by simp only [List.length_append];omega)
  obtain ⟨b1,b2⟩:=List.append_inj e (by simp only [List.length_append];omega)
  have hby1:dv (A++(x++C0)):=hA.app (hx.app hCb.left)
  have hby2:dv (A++(x'++C0)):=hA.app (hb.app hCb.left)
  have hc1:=congrArg be (a2.trans b2.symm)
  rw [a1,b1,be_beB_lt (by have:=crcN_lt hby1;omega),be_beB_lt (by have:=crcN_lt hby2;omega)] at hc1
  exact hne (crcN_burst hA hx hb hCb.left h4 h4' hc1)
end Go.Proofs.YtjghlcdidopcpaaGreatDoor

namespace Go.Proofs.YtjghlcdidopcpaaGreatDoor
open Go Go.Abs
attribute [local congr] bo
section
variable {h:ai} {s:dN} {m:bc} (hG:4≤h.n0) (x:Has h s m)
include hG x
theorem r18m : ∃ (r:Bool) (h':ai),CW 18 [mv m s] h=some (.bool r,h')∧(r=false→m.n.Small)∧Old h h':=r18 hG x.sl (bc.ok x.wf)
theorem r20m (sm:m.n.Small) : ∃ s' h',CW 20 [mv m s] h=some (mv m s',h')∧Has h' s' m∧Old h h':=by
 obtain ⟨s',h',e,X,o⟩:=r20 hG x.sl (bc.ok x.wf) sm
 exact ⟨s',h',e,⟨X,x.wf⟩,o⟩
end
theorem enc_le {m:bc} (w:m.Wf) (v:eY m=true):(enc m).length≤1000000:=by
 obtain ⟨v1,v2⟩:=valid_parts v
 have:=body_len v1 v2 w
 unfold enc frame0
 simp only [List.length_append,aD]
 omega
theorem enc_14 {m:bc} (w:m.Wf) (v:eY m=true):14≤(enc m).length:=by
 unfold enc frame0
 simp only [List.length_append,aD]
 omega
end Go.Proofs.YtjghlcdidopcpaaGreatDoor

namespace Go.Proofs.YtjghlcdidopcpaaGreatDoor
open Go Go.Abs
attribute [local congr] bo
def blkOf (a:Option Addr) (b:Nat):Prop := ∃ z,a=some z∧b=z.block
theorem byte_rw {g:ai} {a:Option Addr} {n c i:Nat} {l:List Nat} (e:ax a n g=some l) (h0 : ∀ z,a=some z→g.n0≤z.block) (hi:i<n) :
  ∃ pt,cn 1 (.slice a n c) (aH i)=some pt∧aP pt g=some (.int .u8 ((l.getD i 0:Nat):Int),g)∧l.getD i 0<256 ∧ ∀ v:Nat,v<256 → ∃ g',cv 1 pt (.int .u8 (v:Int)) g=some (undef,g')∧ax a n g'=some (l.set i v)∧Kept g g' (blkOf a):=by
 obtain ⟨hl,hb,_⟩:=aA e
 obtain ⟨b,off,s,k,rfl,hk,ix⟩:=idx_bytes (c:=c) e hi
 obtain ⟨b',p',_,ix',ld⟩:=byte_at (c:=c) e hi
 rw [ix] at ix'
 have ix':=Option.some.inj ix'
 rw [←ix'] at ld
 refine ⟨_,ix,ld,?_,fun v hv => ?_⟩
 ·rw [List.getD_eq_getElem?_getD,List.getElem?_eq_getElem (by omega)]
  exact hb _ (List.getElem_mem _)
 ·obtain ⟨g',e1,e2,e3,_⟩:=sliceBytes_put (h0 _ rfl) hk e hi hv
  exact ⟨g',e1,e2,e3.mono (fun d _ e=>⟨_,rfl,e⟩)⟩
section
variable {h:ai} {s:dN} {m:bc} (hG:4≤h.n0) (x:Has h s m)
include hG x
end
end Go.Proofs.YtjghlcdidopcpaaGreatDoor

namespace Go.Proofs.YtjghlcdidopcpaaGreatDoor
open Go Go.Abs
attribute [local congr] bo
theorem is6:bG Tryz.prog 6 Tryz.f6:=⟨by kernel_rfl,by kernel_rfl,by kernel_rfl,by kernel_rfl⟩
theorem b6_exit (C:au) (e:Env) (h:ai):b6_13 C 0 e h=k6_11 C e h:=rfl
def mskB (mk i:Nat):Nat:=mk/2^(8*i)%256
def flipB (l:List Nat) (p mk:Nat):Nat→List Nat
 | 0=>l
 |i+1=>(flipB l p mk i).set (p+i) ((flipB l p mk i).getD (p+i) 0 ^^^ mskB mk i)
theorem flip4 (A C:List Nat) (x0 x1 x2 x3 mk:Nat):flipB (A++([x0,x1,x2,x3]++C)) A.length mk 4=A++([x0 ^^^ mskB mk 0,x1 ^^^ mskB mk 1,x2 ^^^ mskB mk 2,x3 ^^^ mskB mk 3]++C):=by
 have st : ∀ (B:List Nat) (j v:Nat),(A++B).set (A.length+j) v=A++B.set j v:=fun B j v=>by
  rw [List.set_append_right _ _ (by omega),Nat.add_sub_cancel_left]
 have gt : ∀ (B:List Nat) (j:Nat),(A++B).getD (A.length+j) 0=B.getD j 0:=fun B j=>by
  rw [List.getD_eq_getElem?_getD,List.getD_eq_getElem?_getD,List.getElem?_append_right (by omega),Nat.add_sub_cancel_left]
 simp only [flipB,gt,st]
 rfl
theorem shrM {mk i:Nat} (hi:i<4):bin Tryz.prog .shr 50 (.int .u32 (mk:Int)) (.int .u64 ((8*i:Nat):Int))=some (.int .u32 ((mk/2^(8*i):Nat):Int)):=
 bin_shr_nat Tryz.prog 50 (k := .u32) (k' := .u64) (a:=mk) (b:=8*i) (by show 8*i≤32;omega)
def dInv (h0:ai) (a:Option Addr) (n c p mk:Nat) (l0:List Nat) (k:Nat) (y:Nat→Value) (g:ai):Prop:=
 ∃ i,i+k=4∧y 9=aH i∧y 7 = .slice a n c∧y 1=aH p∧y 2 = .int .u32 (mk:Int)∧Kept h0 g (blkOf a)∧ax a n g=some (flipB l0 p mk i)
def dFin (h0:ai) (a:Option Addr) (n c p mk:Nat) (l0:List Nat) (ex:Ex) (y:Nat→Value) (g:ai):Prop:=
 ex = .exit 0∧y 7 = .slice a n c∧Kept h0 g (blkOf a)∧ax a n g=some (flipB l0 p mk 4)
theorem dRound {h0:ai} {a:Option Addr} {n c p mk:Nat} {l0:List Nat} (hn:n≤1000000) (hp:p+4≤n) (ha : ∀ z,a=some z→h0.n0≤z.block) : ∀ k y g,dInv h0 a n c p mk l0 k y g→ei 88 (dInv h0 a n c p mk l0) (dFin h0 a n c p mk l0) k (t6l6_11111010 CW y g):=by
 rintro k y g ⟨i,hik,y9,y7,y1,y2,K,e⟩
 have l4:bin Tryz.prog .lss 3 (aH i) (.int .i64 4)=some (.bool (decide (i<4))):=eW i 4
 unfold t6l6_11111010
 by_cases hin:i<4
 ·rw [decide_eq_true hin] at l4
  obtain ⟨pt,ix,ld,hb,st⟩:=byte_rw (c:=c) (i:=p+i) e (fun z hz=>by rw [K.n0];exact ha z hz) (by omega)
  have ad:bin Tryz.prog .add 3 (aH p) (aH i)=some (aH (p+i)):=add3 (by omega)
  have c1:cvI .u64 (aH i) g=some (.int .u64 (i:Int),g):=by
   unfold aH
   rw [ba,wrap_u64 (by omega) (by omega)]
  have mu:bin Tryz.prog .mul 51 (.int .u64 8) (.int .u64 (i:Int))=some (.int .u64 ((8*i:Nat):Int)):=by
   rw [bin_mul,wrap_u64 (by omega) (by omega)]
   rfl
  have sh:=shrM (mk:=mk) hin
  have c2:cvI .u8 (.int .u32 ((mk/2^(8*i):Nat):Int)) g=some (.int .u8 ((mskB mk i:Nat):Int),g):=by
   rw [ba,wrap_u8_mod]
   rfl
  have hm:mskB mk i<256:=Nat.mod_lt _ (by decide)
  have xo:=bin_xor_nat Tryz.prog 5 (k := .u8) rfl (show (flipB l0 p mk i).getD (p+i) 0<2^8 from hb) (show mskB mk i<2^8 from hm)
  obtain ⟨g',s1,s2,s3⟩:=st _ (xor_lt8 hb hm)
  simp -implicitDefEqProofs only [y9,y7,y1,y2,l4,ad,ix,ld,c1,mu,sh,c2,xo,s1,add31 (show i+1≤9223372036854775807 by omega),ah,ao]
  exact ei.next (k-1) (by omega) ⟨i+1,by omega,rfl,y7,y1,y2,K.trans s3,s2⟩
 ·rw [decide_eq_false hin] at l4
  obtain rfl:i=4:=by omega
  simp -implicitDefEqProofs only [y9,l4,ah,ao]
  exact ei.out 0 ⟨rfl,y7,K,e⟩
theorem bu:(aL undef==some true)=false:=rfl
theorem msk_zero {mk:Nat} (h:mk<4294967296) (h0:mskB mk 0=0) (h1:mskB mk 1=0) (h2:mskB mk 2=0) (h3:mskB mk 3=0):mk=0:=by
 have h0:mk/1%256=0:=h0
 have h1:mk/256%256=0:=h1
 have h2:mk/65536%256=0:=h2
 have h3:mk/16777216%256=0:=h3
 omega
theorem four {l:List Nat} (h:l.length=4) : ∃ a b c d,l = [a,b,c,d]:=by
 match l,h with
 | [a,b,c,d],_=>exact ⟨a,b,c,d,rfl⟩
theorem xor_same {a b:Nat} (h:a=a ^^^ b):b=0:=by
 have:a ^^^ 0=a ^^^ b:=by rw [Nat.xor_zero];exact h
 exact (xor_cancel this).symm
theorem detects4 {m:bc} (w:m.Wf) {p mk:Nat} (hmk:mk<4294967296) (h0:mk≠0) (hp:p+4≤(enc m).length) (hp8:p+8≤(enc m).length∨p+4=(enc m).length):(decF (flipB (enc m) p mk 4)).2≠0:=by
 have hB:=enc_bys w
 obtain ⟨A,R,e1,hA⟩ : ∃ A R,enc m=A++R∧A.length=p:=⟨(enc m).take p,(enc m).drop p,(List.take_append_drop ..).symm,by rw [List.length_take];omega⟩
 have hR:R.length=(enc m).length-p:=by rw [e1,List.length_append];omega
 obtain ⟨x,C,e2,hx⟩ : ∃ x C,R=x++C∧x.length=4:=⟨R.take 4,R.drop 4,(List.take_append_drop ..).symm,by rw [List.length_take];omega⟩
 have hC:C.length=(enc m).length-p-4:=by
  have:=congrArg List.length e2
  rw [List.length_append] at this
  omega
 obtain ⟨x0,x1,x2,x3,rfl⟩:=four hx
 subst e2
 rw [e1,←hA,flip4]
 rw [e1] at hB
 have b : ∀ y ∈ [x0,x1,x2,x3],y<256:=fun y hy=>hB y (by simp only [List.mem_append];exact .inr (.inl hy))
 have mb : ∀ i,mskB mk i<256:=fun i=>Nat.mod_lt _ (by decide)
 refine detects w e1 rfl rfl (fun y hy => ?_) (fun e => ?_) ?_
 ·simp only [List.mem_cons,List.not_mem_nil,or_false] at hy
  rcases hy with rfl|rfl|rfl|rfl
  ·exact xor_lt8 (b x0 (by simp)) (mb _)
  ·exact xor_lt8 (b x1 (by simp)) (mb _)
  ·exact xor_lt8 (b x2 (by simp)) (mb _)
  ·exact xor_lt8 (b x3 (by simp)) (mb _)
 ·simp only [List.cons.injEq,and_true] at e
  exact h0 (msk_zero hmk (xor_same e.1) (xor_same e.2.1) (xor_same e.2.2.1) (xor_same e.2.2.2))
 ·rcases hp8 with h|h
  ·exact .inr (by omega)
  ·exact .inl (List.length_eq_zero_iff.1 (by omega))
section
variable {h:ai} {s:dN} {m:bc} {at_ mk:Int} (hG:4≤h.n0) (x:Has h s m) (wa:(Lit.int .i64 at_).wf=true) (wm:(Lit.int .u32 mk).wf=true)
include hG x wa wm
set_option maxRecDepth 100000 in
set_option maxHeartbeats 4000000 in
theorem dev6 : ∃ h',CW 6 [mv m s,.int .i64 at_,.int .u32 mk] h=some (.bool true,h'):=by
 have key : ∃ h',t6 CW (mv m s) (.int .i64 at_) (.int .u32 mk) h=some (.bool true,h'):=by
  have wa:=wf_i64.1 wa
  unfold I64 at wa
  have wm:0≤mk∧mk≤4294967295:=by
   simp [Lit.wf,IntKind.min,IntKind.max,IntKind.signed,IntKind.bits] at wm
   omega
  have z35:bin Tryz.prog .neq 35 (.int .i64 0) (.int .i64 0)=some (.bool false):=by rw [aB];rfl
  have x35:bin Tryz.prog .neq 35 (.int .i64 2) (.int .i64 0)=some (.bool true):=by rw [aB];rfl
  obtain ⟨h1,b1,o1,x1,A1,n1,-⟩:=eU x
  obtain ⟨r,h2,e2,k2,o2⟩:=r18m (h:=h1) (by rw [o1.n0];exact hG) x1
  have O2:=o1.trans o2
  cases r with
  |true=>exact ⟨h2,by unfold t6;simp -implicitDefEqProofs only [b1, A1.all, e2, r12, ah, ar, sf, aj, if_true]⟩
  |false=>
  have sm:=k2 rfl
  have A2:=(cS (x.bL O2) (Old.get o2 A1.g)).all
  obtain ⟨s3,h3,e3,x3,o3⟩:=r20m (h:=h2) (by rw [O2.n0];exact hG) (x.bL O2) sm
  have O3:=O2.trans o3
  obtain ⟨h4,e4,o4⟩:=r19 (h:=h3) (by rw [O3.n0];exact hG) x3 sm
  have O4:=O3.trans o4
  cases v:eY m with
  |false=>
   rw [v] at e4
   rw [if_neg (by decide)] at e4
   exact ⟨h4,by unfold t6;simp -implicitDefEqProofs only [b1, A1.all, e2, A2, e3, e4, x35, r12, ah, ao, ar, sf, beq_self_eq_true, ak, aj, Bool.false_eq_true, if_false, if_true]⟩
  |true=>
  rw [v,if_pos rfl] at e4
  have q0:bin Tryz.prog .eql 50 (.int .u32 mk) (.int .u32 0)=some (.bool (mk==0)):=aG ..
  by_cases hm0:mk=0
  ·rw [hm0] at q0
   have q0:bin Tryz.prog .eql 50 (.int .u32 0) (.int .u32 0)=some (.bool true):=q0
   exact ⟨h4,by unfold t6;simp -implicitDefEqProofs only [b1, A1.all, e2, A2, e3, e4, z35, hm0, q0, r12, ah, ao, ar, beq_self_eq_true, ak, Bool.false_eq_true, if_false]⟩
  rw [show (mk==0)=false by simpa using hm0] at q0
  have O14:=o2.trans (o3.trans o4)
  have A4:=(cS (x.bL O4) (Old.get O14 A1.g)).all
  obtain ⟨s5,h5,e5,x5,o5⟩:=r20m (h:=h4) (by rw [O4.n0];exact hG) (x.bL O4) sm
  have O5:=O4.trans o5
  obtain ⟨a7,c7,h7,e7,b7,g7,o7,f7⟩:=r21 (h:=h5) (by rw [O5.n0];exact hG) x5 sm v
  have O7:=O5.trans o7
  have hle:(enc m).length≤1000000:=enc_le x.wf v
  have hge:=enc_14 x.wf v
  generalize hN:(enc m).length=N at e7 b7 g7 hle hge
  have hln:bM (.slice a7 N c7)=some (aH N):=rfl
  have q14:bin Tryz.prog .lss 3 (aH N) (.int .i64 14)=some (.bool false):=by
   have:bin Tryz.prog .lss 3 (aH N) (.int .i64 14)=some (.bool (decide (N<14))):=eW N 14
   rw [this,decide_eq_false (by omega)]
  have ql:bin Tryz.prog .lss 3 (.int .i64 at_) (.int .i64 0)=some (.bool (decide (at_<0))):=aF ..
  have s4:bin Tryz.prog .sub 3 (aH N) (.int .i64 4)=some (aH (N-4)):=sub3 (b:=4) (by omega) (by omega)
  have s8:bin Tryz.prog .sub 3 (aH N) (.int .i64 8)=some (aH (N-8)):=sub3 (b:=8) (by omega) (by omega)
  have g4:bin Tryz.prog .gtr 3 (.int .i64 at_) (aH (N-4))=some (.bool (decide (at_>((N-4:Nat):Int)))):=aE ..
  have g8:bin Tryz.prog .gtr 3 (.int .i64 at_) (aH (N-8))=some (.bool (decide (at_>((N-8:Nat):Int)))):=aE ..
  have n4:bin Tryz.prog .neq 3 (.int .i64 at_) (aH (N-4))=some (.bool (at_ != ((N-4:Nat):Int))):=aB ..
  by_cases c0:at_<0
  ·rw [decide_eq_true c0] at ql
   exact ⟨h7,by unfold t6;simp -implicitDefEqProofs only [b1, A1.all, e2, A2, e3, e4, z35, q0, A4, e5, e7, hln, q14, ql, r12, ah, ao, ar, sf, beq_self_eq_true, ak, aj, Bool.false_eq_true, if_false, if_true, eN, eP, bu]⟩
  rw [decide_eq_false c0] at ql
  by_cases c4:at_>((N-4:Nat):Int)
  ·rw [decide_eq_true c4] at g4
   exact ⟨h7,by unfold t6;simp -implicitDefEqProofs only [b1, A1.all, e2, A2, e3, e4, z35, q0, A4, e5, e7, hln, q14, ql, s4, g4, r12, ah, ao, ar, sf, beq_self_eq_true, ak, aj, Bool.false_eq_true, if_false, if_true, eN, eP, bu]⟩
  rw [decide_eq_false c4] at g4
  have fin : ∀ (w58:(at_≤((N-8:Nat):Int)∨at_=((N-4:Nat):Int))),∀ y,y 7 = .slice a7 N c7→y 1 = .int .i64 at_→y 2 = .int .u32 mk→y 9 = .int .i64 0 →
    ∃ h',fa (iter (aI Tryz.prog CW (partOf Tryz.f6 [1,1,1,1,1,0,1,0,0])) rounds (bE 88 y) h7) (aw Tryz.prog Tryz.f6.results.toList) (b6_13 CW)=some (.bool true,h'):=by
   intro hw y y7 y1 y2 y9
   obtain ⟨p,rfl⟩ : ∃ p:Nat,at_=(p:Int):=⟨at_.toNat,by omega⟩
   obtain ⟨mk',rfl⟩ : ∃ k:Nat,mk=(k:Int):=⟨mk.toNat,by omega⟩
   have own : ∀ z,a7=some z→h7.n0≤z.block:=fun z hz=>by
    have:=f7 z hz
    have:=h5.aQ
    rw [o7.n0]
    omega
   refine cL (Q:=fun o:Out => ∃ h',o=some (Value.bool true,h')) (cD (t6l6_11111010_eq CW) (dRound (h0:=h7) (a:=a7) (n:=N) (c:=c7) (p:=p) (mk:=mk') (l0:=enc m) hle (by omega) own) 4 (by have:rounds=18446744073709551616:=rfl;omega) ⟨0,rfl,y9,y7,y1,y2,Kept.refl _ _,b7⟩) ?_
   rintro ex z g ⟨rfl,z7,K,e⟩
   rw [bR,b6_exit,t6k6_11_eq]
   have hd:=detects4 x.wf (p:=p) (mk:=mk') (by omega) (by omega) (by omega) (by omega)
   obtain ⟨sl,g',e',_,_,_⟩:=dO (h:=g) (by rw [K.n0,O7.n0];exact hG) (c:=c7) e g7 hle
   have qe:bin Tryz.prog .neq 35 (.int .i64 (decF (flipB (enc m) p mk' 4)).2) (.int .i64 0)=some (.bool true):=by rw [aB];simpa using hd
   exact ⟨g',by unfold t6k6_11;simp -implicitDefEqProofs only [z7, e', qe, r12, ah, ao, ar, beq_self_eq_true, ak, if_true, eN, eP]⟩
  by_cases c8:at_>((N-8:Nat):Int)
  ·rw [decide_eq_true c8] at g8
   by_cases d4:at_=((N-4:Nat):Int)
   ·have fin:=fin (.inr d4)
    rw [show (at_ != ((N-4:Nat):Int))=false by rw [d4];simp] at n4
    unfold t6
    simp -implicitDefEqProofs only [b1, A1.all, e2, A2, e3, e4, z35, q0, A4, e5, e7, hln, q14, ql, s4, g4, s8, g8, n4, ah, ao, ar, beq_self_eq_true, ak, Bool.false_eq_true, if_false, if_true, eN, eP]
    exact fin _ rfl rfl rfl rfl
   ·rw [show (at_ != ((N-4:Nat):Int))=true by simpa using d4] at n4
    exact ⟨h7,by unfold t6;simp -implicitDefEqProofs only [b1, A1.all, e2, A2, e3, e4, z35, q0, A4, e5, e7, hln, q14, ql, s4, g4, s8, g8, n4, r12, ah, ao, ar, beq_self_eq_true, ak, Bool.false_eq_true, if_false, if_true, eN, eP]⟩
  ·rw [decide_eq_false c8] at g8
   have fin:=fin (.inl (by omega))
   unfold t6
   simp -implicitDefEqProofs only [b1, A1.all, e2, A2, e3, e4, z35, q0, A4, e5, e7, hln, q14, ql, s4, g4, s8, g8, ah, ao, ar, fs, beq_self_eq_true, ak, aj, Bool.false_eq_true, if_false, eN, eP]
   exact fin _ rfl rfl rfl rfl
 obtain ⟨h',e⟩:=key
 exact ⟨h',ay is6 hG rfl ((t6_eq _ _ _ _ _).trans e)⟩
end
end Go.Proofs.YtjghlcdidopcpaaGreatDoor

