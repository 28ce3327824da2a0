/-
  A part of the proof, spaces and names shortened by a program (a claim may hold 1,500,000 bytes).
  Conditions: as each theorem states.
-/
import Derived.Test.YtjghlcdidopcpaaGreatDoorG9
namespace Go.Proofs.YtjghlcdidopcpaaGreatDoor
open Go Go.Abs
attribute [local congr] bp
@[ext] structure Rd where
  l:List Nat
  e:Int
def Rd.take (s:Rd) (n:Nat):List Nat×Rd:=if s.e=0 then (if n≤s.l.length then (s.l.take n,⟨s.l.drop n,0⟩) else ([],⟨s.l,4⟩)) else ([],s)
def Rd.num (s:Rd) (n:Nat):Nat×Rd:=(be (s.take n).1,(s.take n).2)
def Rd.text (s:Rd):List Nat×Rd:=if s.e=0 then (if ((s.num 2).2.take (s.num 2).1).2.e=0 then (s.num 2).2.take (s.num 2).1 else ([],⟨s.l,((s.num 2).2.take (s.num 2).1).2.e⟩)) else ([],s)
abbrev fj (h:ai) (p r:Nat) (s:Rd):Prop:=IsR h p r s.l s.e
theorem Rd.take_ok {s:Rd} {n:Nat} (h:s.e=0) (hn:n≤s.l.length):s.take n=(s.l.take n,⟨s.l.drop n,0⟩):=by unfold Rd.take;rw [if_pos h,if_pos hn]
theorem Rd.take_short {s:Rd} {n:Nat} (h:s.e=0) (hn:s.l.length<n):s.take n=([],⟨s.l,4⟩):=by unfold Rd.take;rw [if_pos h,if_neg (by omega)]
theorem Rd.take_err {s:Rd} {n:Nat} (h:s.e≠0):s.take n=([],s):=by unfold Rd.take;rw [if_neg h]
theorem Rd.take_len (s:Rd) (n:Nat):(s.take n).1.length≤n:=by
 unfold Rd.take
 split
 ·split
  ·rw [List.length_take];omega
  ·exact Nat.zero_le _
 ·exact Nat.zero_le _
theorem Rd.df {s:Rd} (hb : ∀ x∈s.l,x<256) (n:Nat):(∀ x∈(s.take n).1,x<256) ∧ ∀ x∈(s.take n).2.l,x<256:=by
 unfold Rd.take
 split
 ·split
  ·exact ⟨fun x hx=>hb x (List.mem_of_mem_take hx),fun x hx=>hb x (List.mem_of_mem_drop hx)⟩
  ·exact ⟨fun x hx=>(by cases hx),hb⟩
 ·exact ⟨fun x hx=>(by cases hx),hb⟩
theorem be_lt' {l:List Nat} {n:Nat} (hl:l.length≤n) (hb : ∀ x∈l,x<256):be l<256^n:=Nat.lt_of_lt_of_le (be_lt l.length l rfl hb) (Nat.pow_le_pow_right (by decide) hl)
theorem Rd.fa {s:Rd} (hb : ∀ x∈s.l,x<256) (n:Nat):(s.num n).1<256^n:=be_lt' (s.take_len n) (s.df hb n).1
theorem IsR.ne {h:ai} {p r:Nat} {l:List Nat} {e:Int} (R:IsR h p r l e) (he:e≠0) {n:Int}:CW 94 [ptr r 0,.int .i64 n] h=some (.slice none 0 0,h):=by
 obtain ⟨a,m,c,h1,_,_⟩:=R.ex
 have l1:aR (ptr r 1) h=some (.int .i64 e,h):=aW h1 rfl
 have hq:(e != 0)=true:=by simpa using he
 refine az is94 R.g4 rfl ((t94_eq _ _ _ _).trans ?_)
 unfold t94
 simp -implicitDefEqProofs only [ah,eql134,ao,au,beq_self_eq_true,al,bh,ar,Nat.zero_add,l1,bin28n0,hq,Bool.false_eq_true,if_false]
section
variable {p r:Nat} {s:Rd} {h:ai} (R:fj h p r s)
include R
theorem q94 (n:Nat) : ∃ a c h',CW 94 [ptr r 0,aH n] h=some (.slice a (s.take n).1.length c,h')∧aA a (s.take n).1.length h'=some (s.take n).1∧cZ a (s.take n).1.length c=true∧fj h' p r (s.take n).2∧Kept h h' (fun c=>c=r)∧h'.next=h.next:=by
 obtain ⟨l,e⟩:=s
 by_cases he:e=0
 ·subst he
  by_cases hn:n≤l.length
  ·rw [Rd.take_ok rfl hn]
   obtain ⟨a,c,h',e1,e2,e3,e4,e5,e6⟩:=r94 R hn
   have hl:(l.take n).length=n:=by rw [List.length_take];exact Nat.min_eq_left hn
   refine ⟨a,c,h',?_,?_,?_,e4,e5,e6⟩
   ·simp only [hl];exact e1
   ·simp only [hl];exact e2
   ·simp only [hl];exact e3
  ·rw [Rd.take_short rfl (by omega:l.length<n)]
   obtain ⟨h',e1,e2,e3,e4⟩:=r94_short R (by omega:l.length<n)
   exact ⟨none,0,h',e1,rfl,rfl,e2,e3,e4⟩
 ·rw [Rd.take_err he]
  exact ⟨none,0,h,R.ne he,rfl,rfl,R,Kept.refl _ _,rfl⟩
theorem q76 {n:Nat} (h8:n≤8) : ∃ h',CW 76 [ptr r 0,aH n] h=some (.int .u64 ((s.num n).1:Nat),h')∧fj h' p r (s.num n).2∧Kept h h' (fun c=>c=r)∧h'.next=h.next:=by
 obtain ⟨l,e⟩:=s
 by_cases hz:e=0∧n≤l.length
 ·obtain ⟨rfl,hn⟩:=hz
  obtain ⟨h',e1,e2,e3,e4⟩:=r76 R hn h8
  unfold Rd.num
  rw [Rd.take_ok rfl hn]
  exact ⟨h',e1,e2,e3,e4⟩
 ·have hm:(Rd.take ⟨l,e⟩ n).1 = []:=by
   by_cases he:e=0
   ·rw [Rd.take_short he (by
     show l.length<n
     have : ¬n≤l.length:=fun h=>hz ⟨he,h⟩
     omega)]
   ·rw [Rd.take_err he]
  obtain ⟨a,c,h',e1,e2,e3,e4,e5,e6⟩:=q94 R n
  unfold Rd.num
  rw [hm] at e1 ⊢
  refine ⟨h',az is76 R.g4 rfl ((t76_eq _ _ _ _).trans ?_),e4,e5,e6⟩
  have e1:CW 94 [ptr r 0,aH n] h=some (.slice a 0 c,h'):=e1
  have hl:bC (.slice a 0 c)=some (aH 0):=rfl
  unfold t76
  simp -implicitDefEqProofs only [ah,e1,hl,ao]
  refine cC (Q:=fun o:Out=>o=some (Value.int .u64 ((be []:Nat):Int),h')) (cx (Inv:=fun _ y g=>y 11=aH 0∧y 12=aH 0∧y 5 = .int .u64 0∧g=h') (fin:=fun ex y g=>ex = .exit 0∧y 5 = .int .u64 0∧g=h') (t76l76_11010_eq CW) ?_ 0 (by have:rounds=18446744073709551616:=rfl;omega) ⟨rfl,rfl,rfl,rfl⟩) ?_
  ·rintro k y g ⟨y11,y12,y5,rfl⟩
   unfold t76l76_11010
   simp -implicitDefEqProofs only [y11,y12,eu,ao,ah,decide_eq_false (Nat.lt_irrefl 0)]
   exact dC.out 0 ⟨rfl,y5,rfl⟩
  ·rintro ex z g ⟨rfl,z5,rfl⟩
   simp -implicitDefEqProofs only [bJ,b76_4,if_true,t76k76_2_eq]
   unfold t76k76_2
   simp -implicitDefEqProofs only [z5,ah]
   rfl
theorem q73 : ∃ h',CW 73 [ptr r 0] h=some (.int .u8 ((s.num 1).1:Nat),h')∧fj h' p r (s.num 1).2∧Kept h h' (fun c=>c=r)∧h'.next=h.next:=by
 obtain ⟨h1,e1,e2⟩:=q76 R (n:=1) (by decide)
 refine ⟨h1,az is73 R.g4 rfl ((t73_eq _ _ _).trans ?_),e2⟩
 have e1:CW 76 [ptr r 0,.int .i64 1] h=_:=e1
 have hb:(s.num 1).1<256:=Rd.fa R.byte 1
 have hw:IntKind.wrap .u8 (((s.num 1).1:Nat):Int)=((s.num 1).1:Nat):=wrap_u8 (by omega) (by omega)
 unfold t73
 simp -implicitDefEqProofs only [ah,e1,bg,hw]
theorem q72 : ∃ h',CW 72 [ptr r 0] h=some (.int .u16 ((s.num 2).1:Nat),h')∧fj h' p r (s.num 2).2∧Kept h h' (fun c=>c=r)∧h'.next=h.next:=by
 obtain ⟨h1,e1,e2⟩:=q76 R (n:=2) (by decide)
 refine ⟨h1,az is72 R.g4 rfl ((t72_eq _ _ _).trans ?_),e2⟩
 have e1:CW 76 [ptr r 0,.int .i64 2] h=_:=e1
 have hb:(s.num 2).1<65536:=Rd.fa R.byte 2
 have hw:IntKind.wrap .u16 (((s.num 2).1:Nat):Int)=((s.num 2).1:Nat):=wrap_u16 (by omega) (by omega)
 unfold t72
 simp -implicitDefEqProofs only [ah,e1,bg,hw]
theorem q33 : ∃ h',CW 33 [ptr r 0] h=some (.int .u32 ((s.num 4).1:Nat),h')∧fj h' p r (s.num 4).2∧Kept h h' (fun c=>c=r)∧h'.next=h.next:=by
 obtain ⟨h1,e1,e2⟩:=q76 R (n:=4) (by decide)
 refine ⟨h1,az is33 R.g4 rfl ((t33_eq _ _ _).trans ?_),e2⟩
 have e1:CW 76 [ptr r 0,.int .i64 4] h=_:=e1
 have hb:(s.num 4).1<4294967296:=Rd.fa R.byte 4
 have hw:IntKind.wrap .u32 (((s.num 4).1:Nat):Int)=((s.num 4).1:Nat):=wrap_u32 (by omega) (by omega)
 unfold t33
 simp -implicitDefEqProofs only [ah,e1,bg,hw]
theorem q128 : ∃ h',CW 128 [ptr r 0] h=some (.int .u64 ((s.num 8).1:Nat),h')∧fj h' p r (s.num 8).2∧Kept h h' (fun c=>c=r)∧h'.next=h.next:=by
 obtain ⟨h1,e1,e2⟩:=q76 R (n:=8) (by decide)
 refine ⟨h1,az is128 R.g4 rfl ((t128_eq _ _ _).trans ?_),e2⟩
 have e1:CW 76 [ptr r 0,.int .i64 8] h=_:=e1
 unfold t128
 simp -implicitDefEqProofs only [ah,e1]
theorem q74 {n:Nat} : ∃ a c h',CW 74 [ptr r 0,aH n] h=some (.slice a (s.take n).1.length c,h')∧aA a (s.take n).1.length h'=some (s.take n).1∧cZ a (s.take n).1.length c=true∧fj h' p r (s.take n).2∧Kept h h' (fun c=>c=r) ∧
  (∀ y,a=some y→h.next≤y.block):=by
 obtain ⟨a,c,h1,e1,e2,e3,e4,e5,e6⟩:=q94 R n
 have hlen:(s.take n).1.length≤21000:=by
  obtain ⟨l,e⟩:=s
  have:l.length≤21000:=R.len
  unfold Rd.take
  split
  ·split
   ·rw [List.length_take]
    show min n l.length≤_
    omega
   ·exact Nat.zero_le _
  ·exact Nat.zero_le _
 obtain ⟨a',c',h2,f1,f2,f3,f4,f5,_⟩:=r69b (c:=c) e4.g4 e2 hlen
 refine ⟨a',c',h2,az is74 R.g4 rfl ((t74_eq _ _ _ _).trans ?_),f2,f3,e4.cD (B:=fun _=>False) f4,e5.dr f4 (fun _ _ h=>h.elim),fun y hy=>e6▸(f5 y hy).1⟩
 unfold t74
 simp -implicitDefEqProofs only [ah,e1,f1]
theorem q75:CW 75 [ptr r 0] h=some (.int .i64 s.e,h):=r75 R
end
end Go.Proofs.YtjghlcdidopcpaaGreatDoor

namespace Go.Proofs.YtjghlcdidopcpaaGreatDoor
open Go Go.Abs
attribute [local congr] bp
theorem Rd.take_small {s:Rd} (hl:s.l.length≤21000) (n:Nat):(s.take n).1.length≤21000:=by
 unfold Rd.take
 split
 ·split
  ·rw [List.length_take];omega
  ·exact Nat.zero_le _
 ·exact Nat.zero_le _
theorem is135:bF Tryz.prog 135 Tryz.f135:=⟨by kernel_rfl,by kernel_rfl,by kernel_rfl,by kernel_rfl⟩
theorem is36:bF Tryz.prog 36 Tryz.f36:=⟨by kernel_rfl,by kernel_rfl,by kernel_rfl,by kernel_rfl⟩
theorem is130:bF Tryz.prog 130 Tryz.f130:=⟨by kernel_rfl,by kernel_rfl,by kernel_rfl,by kernel_rfl⟩
theorem is149:bF Tryz.prog 149 Tryz.f149:=⟨by kernel_rfl,by kernel_rfl,by kernel_rfl,by kernel_rfl⟩
theorem gtr30 (n:Nat):bin Tryz.prog .gtr 3 (aH n) (.int .i64 0)=some (.bool (decide (0<n))):=gtr3 n 0
def Rd.fin (s:Rd):Int:=if s.e=0 then (if s.l = [] then 0 else 5) else s.e
def eA (m:List Nat):List Nat:=m++List.replicate (32-m.length) 0
section
variable {p r:Nat} {s:Rd} {h:ai} (R:fj h p r s)
include R
theorem q36:CW 36 [ptr r 0] h=some (.int .i64 s.fin,h):=by
 obtain ⟨l,e⟩:=s
 obtain ⟨a,n,c,h1,h2,_⟩:=R.ex
 have hn:l.length=n:=(aC h2).1
 subst hn
 have l0:aR (ptr r 0) h=some (.slice a l.length c,h):=aW h1 rfl
 have hl:bC (.slice a l.length c)=some (aH l.length):=rfl
 have e75:=q75 R
 refine az is36 R.g4 rfl ((t36_eq _ _ _).trans ?_)
 unfold t36 Rd.fin
 by_cases he:e=0
 ·subst he
  cases l with
  |nil=>
   simp -implicitDefEqProofs only [ah,e75,bin28n0,bne_self_eq_false,ao,bh,ar,l0,hl,gtr30]
   rfl
  |cons x l=>
   have hd:decide (0<(x::l).length)=true:=by simp
   simp -implicitDefEqProofs only [ah,e75,bin28n0,bne_self_eq_false,ao,bh,ar,l0,hl,gtr30,hd]
   simp
 ·have hq:(e != 0)=true:=by simpa using he
  simp -implicitDefEqProofs only [ah,e75,bin28n0,hq,ao]
  rw [if_neg he]
theorem q135 : ∃ a c h',CW 135 [ptr r 0] h=some (.slice a s.text.1.length c,h')∧aA a s.text.1.length h'=some s.text.1∧cZ a s.text.1.length c=true∧fj h' p r s.text.2∧Kept h h' (fun c=>c=r) ∧
  (∀ y,a=some y→h.next≤y.block):=by
 have l1:aR (ptr r 1) h=some (.int .i64 s.e,h):=by
  obtain ⟨a,n,c,h1,_,_⟩:=R.ex
  exact aW h1 rfl
 by_cases he:s.e=0
 ·obtain ⟨a,n,c,h1,h2,h3,hB⟩:=R.ex
  have hn:s.l.length=n:=(aC h2).1
  subst hn
  have l0:aR (ptr r 0) h=some (.slice a s.l.length c,h):=aW h1 rfl
  have hap:=bytes_apart h2 h1 (rd_apart _ _ _ _)
  obtain ⟨g1,e1,R1,k1,n1⟩:=q76 R (n:=2) (by decide)
  have e1:CW 76 [ptr r 0,.int .i64 2] h=some (.int .u64 ((s.num 2).1:Nat),g1):=e1
  have hb:(s.num 2).1<65536:=Rd.fa R.byte 2
  have hw:IntKind.wrap .i64 (((s.num 2).1:Nat):Int)=((s.num 2).1:Nat):=wrap_i64 (by omega) (by omega)
  obtain ⟨a2,c2,g2,e2,f2,f3,R2,k2,n2⟩:=q94 R1 (s.num 2).1
  have l1':aR (ptr r 1) g2=some (.int .i64 ((s.num 2).2.take (s.num 2).1).2.e,g2):=by
   obtain ⟨a,n,c,h1,_,_⟩:=R2.ex
   exact aW h1 rfl
  have e2:CW 94 [ptr r 0,.int .i64 (((s.num 2).1:Nat):Int)] g1=_:=e2
  have ht:s.text=if ((s.num 2).2.take (s.num 2).1).2.e=0 then (s.num 2).2.take (s.num 2).1 else ([],⟨s.l,((s.num 2).2.take (s.num 2).1).2.e⟩):=by
   unfold Rd.text
   rw [if_pos he]
  have hz:=Rd.take_small R1.len (s.num 2).1
  generalize (s.num 2).2.take (s.num 2).1=S2 at *
  obtain ⟨m,s2⟩:=S2
  by_cases he2:s2.e=0
  ·rw [if_pos he2] at ht
   rw [ht]
   obtain ⟨a',c',g3,i1,i2,i3,i4,i5,_⟩:=r69b (c:=c2) R2.g4 f2 hz
   refine ⟨a',c',g3,az is135 R.g4 rfl ((t135_eq _ _ _).trans ?_),i2,i3,R2.cD (B:=fun _=>False) i4,(k1.trans k2).dr i4 (fun _ _ h=>h.elim),fun y hy=>by have:=(i5 y hy).1;omega⟩
   unfold t135
   have l1'':aR (ptr r 1) g2=some (.int .i64 0,g2):=by rw [l1',he2]
   have l1:aR (ptr r 1) h=some (.int .i64 0,h):=by rw [l1,he]
   simp -implicitDefEqProofs only [ah,eql134,ao,au,beq_self_eq_true,al,bh,ar,Nat.zero_add,l1,bin28n0,bne_self_eq_false,Bool.false_eq_true,if_false,l0,e1,bg,hw,e2,l1'',i1]
  ·rw [if_neg he2] at ht
   rw [ht]
   obtain ⟨a4,n4,c4,h4,h5,_⟩:=R2.ex
   have hst:cA 1 (ptr r 0) (.slice a s.l.length c) g2=some (undef,g2.set r [.slice a s.l.length c,.int .i64 s2.e]):=stN1_at h4 (by simp) R2.n0 rfl rfl
   have k3:Kept g2 (g2.set r [.slice a s.l.length c,.int .i64 s2.e]) (fun c=>c=r):=Kept.set R2.n0 h4 (.inr rfl)
   have kk:=(k1.trans k2).trans k3
   refine ⟨none,0,_,az is135 R.g4 rfl ((t135_eq _ _ _).trans ?_),rfl,rfl,⟨⟨a,s.l.length,c,ai.bT R2.n0 h4 _,kk.bytes h2 hap,h3,hB⟩,R2.n0,R.len,R2.g4,R.pr⟩,kk,fun y hy=>by cases hy⟩
   unfold t135
   have hq:(s2.e != 0)=true:=by simpa using he2
   have l1:aR (ptr r 1) h=some (.int .i64 0,h):=by rw [l1,he]
   simp -implicitDefEqProofs only [ah,eql134,ao,au,beq_self_eq_true,al,bh,ar,Nat.zero_add,l1,bin28n0,bne_self_eq_false,Bool.false_eq_true,if_false,l0,e1,bg,hw,e2,l1',hq,hst]
   rfl
 ·have ht:s.text=([],s):=by unfold Rd.text;rw [if_neg he]
  rw [ht]
  have hq:(s.e != 0)=true:=by simpa using he
  refine ⟨none,0,h,az is135 R.g4 rfl ((t135_eq _ _ _).trans ?_),rfl,rfl,R,Kept.refl _ _,fun y hy=>by cases hy⟩
  unfold t135
  simp -implicitDefEqProofs only [ah,eql134,ao,au,beq_self_eq_true,al,bh,ar,Nat.zero_add,l1,bin28n0,hq,Bool.false_eq_true,if_false]
  rfl
end
end Go.Proofs.YtjghlcdidopcpaaGreatDoor

namespace Go.Proofs.YtjghlcdidopcpaaGreatDoor
open Go Go.Abs
section
def crcBit (c:Nat):Nat:=(c/2) ^^^ (0x82f63b78*(c%2))
def crcTab (i:Nat):Nat:=crcBit (crcBit (crcBit (crcBit i)))
def crcHalf (tab:Nat→Nat) (r:Nat):Nat:=tab (r%16) ^^^ (r/16)
def crcStep (r x:Nat):Nat:=crcHalf crcTab (crcHalf crcTab (r ^^^ x))
def crcN (l:List Nat):Nat:=4294967295 ^^^ l.foldl crcStep 4294967295
theorem crcBit_lt {c:Nat} (h:c<4294967296):crcBit c<4294967296:=by
 unfold crcBit
 have h1:c/2<2^32:=by omega
 have h2:0x82f63b78*(c%2)<2^32:=by omega
 exact Nat.xor_lt_two_pow h1 h2
theorem crcTab_lt {c:Nat} (h:c<4294967296):crcTab c<4294967296:=crcBit_lt (crcBit_lt (crcBit_lt (crcBit_lt h)))
theorem crcHalf_lt {tab:Nat→Nat} (ht : ∀ q,q<16→tab q<4294967296) {r:Nat} (h:r<4294967296):crcHalf tab r<4294967296:=
 Nat.xor_lt_two_pow (n:=32) (ht _ (by omega)) (by omega)
theorem crcMix_lt {r:Nat} (h:r<4294967296):crcHalf crcTab r<4294967296:=crcHalf_lt (fun q hq=>crcTab_lt (by omega)) h
theorem crcStep_lt {r x:Nat} (h:r<4294967296) (hx:x<256):crcStep r x<4294967296:=
 crcMix_lt (crcMix_lt (Nat.xor_lt_two_pow (n:=32) h (by omega)))
theorem crcFold_lt : ∀ (l:List Nat) (r:Nat),r<4294967296→(∀ x∈l,x<256)→l.foldl crcStep r<4294967296
 | [],r,h,_=>h
 |x::l,r,h,hx=>crcFold_lt l _ (crcStep_lt h (hx x List.mem_cons_self)) (fun y hy=>hx y (List.mem_cons_of_mem _ hy))
def crcIter (c:Nat):Nat→Nat
 | 0=>c
 |i+1=>crcBit (crcIter c i)
theorem crcIter_lt {c:Nat} (hc:c<4294967296) : ∀ i,crcIter c i<4294967296
 | 0=>hc
 |i+1=>crcBit_lt (crcIter_lt hc i)
section
variable (C:av)
theorem crc_bit_ops {c:Nat} (hc:c<4294967296):bin Tryz.prog .shr 50 (u32 c) (.int .u64 1)=some (u32 (c/2))∧bin Tryz.prog .and 50 (u32 c) (.int .u32 1)=some (u32 (c%2)) ∧
  bin Tryz.prog .mul 50 (.int .u32 2197175160) (u32 (c%2))=some (u32 (2197175160*(c%2)))∧bin Tryz.prog .xor 50 (u32 (c/2)) (u32 (2197175160*(c%2)))=some (u32 (crcBit c)):=by
 refine ⟨?_,?_,?_,?_⟩
 ·exact bin_shr_nat Tryz.prog 50 (k := .u32) (k' := .u64) (a:=c) (b:=1) (by decide)
 ·have h1:=bin_and_nat Tryz.prog 50 (k := .u32) rfl (a:=c) (b:=1) hc (by decide)
  rw [Nat.and_one_is_mod] at h1
  exact h1
 ·rw [bin_mul,wrap_u32_mod]
  congr 2
  omega
 ·exact bin_xor_nat Tryz.prog 50 (k := .u32) rfl (a:=c/2) (b:=2197175160*(c%2)) (by show _<2^32;omega) (by show _<2^32;omega)
theorem crc_inner (x:Nat→Value) (h:ai) (c:Nat) (hc:c<4294967296) (h5:x 5=u32 c) (h14:x 14 = .int .i64 0) :
  ∃ x',iter (aI Tryz.prog C (partOf Tryz.f34 [1,1,0,1,0,0,1,1,0,0,1,1,0,1,0,0])) rounds (bu 54 x) h=some (.exit 2,bu 54 x',h)∧x' 5=u32 (crcTab c) ∧
    x' 0=x 0∧x' 3=x 3∧x' 4=x 4∧x' 9=x 9:=by
 obtain ⟨ex,x',h',h1,rfl,rfl,h2⟩:=loop_inv (t34l34_110100110011010_eq C)
  (Inv:=fun k y h1=>k≤4∧h1=h∧y 5=u32 (crcIter c (4-k))∧y 14=aH (4-k)∧y 0=x 0∧y 3=x 3∧y 4=x 4∧y 9=x 9)
  (fin:=fun ex y h1=>ex = .exit 2∧h1=h∧y 5=u32 (crcTab c)∧y 0=x 0∧y 3=x 3∧y 4=x 4∧y 9=x 9)
  (by
   rintro k y _ ⟨hk,rfl,i5,i14,i0,i3,i4,i9⟩
   obtain ⟨o1,o2,o3,o4⟩:=crc_bit_ops (crcIter_lt hc (4-k))
   unfold dM
   simp -implicitDefEqProofs only [i5,i14,aH,aG,ao,ah]
   by_cases hz:k=0
   ·subst hz
    refine ⟨_,_,_,rfl,.inr ⟨by simp,rfl,rfl,?_⟩⟩
    simp -implicitDefEqProofs only [dV,fE,i5,i0,i3,i4,i9,Nat.reduceEqDiff,if_false,and_true]
    rfl
   ·have hlt:((4-k:Nat):Int)<4:=by omega
    simp -implicitDefEqProofs only [decide_eq_true hlt,o1,o2,o3,o4,ao,ah,bin_add]
    refine ⟨_,_,_,rfl,.inl ⟨rfl,k-1,by omega,by omega,rfl,?_⟩⟩
    simp -implicitDefEqProofs only [dV,fE,i0,i3,i4,i9,Nat.reduceEqDiff,if_false,if_true,and_true]
    refine ⟨?_,?_⟩
    ·have:4-(k-1)=(4-k)+1:=by omega
     rw [this];rfl
    ·rw [wrap_i64 (by omega) (by omega)]
     congr 1
     omega)
  (k:=4) (by decide) ⟨by omega,rfl,h5,h14,rfl,rfl,rfl,rfl⟩
 exact ⟨x',h1,h2⟩
def ff (i:Nat):dt:=(List.range 16).map fun j=>u32 (if j<i then crcTab j else 0)
theorem tabBlk_length (i:Nat):(ff i).length=16:=by simp [ff]
theorem tabBlk_at {i j:Nat} (hj:j<16):(ff i)[j]? = some (u32 (if j<i then crcTab j else 0)):=by
 unfold ff
 rw [List.getElem?_map,List.getElem?_range hj];rfl
theorem tabBlk_set {i:Nat} (hi:i<16):(ff i).set i (u32 (crcTab i))=ff (i+1):=by
 apply List.ext_getElem?
 intro j
 rw [List.getElem?_set,tabBlk_length]
 by_cases hj:j<16
 ·rw [tabBlk_at hj,tabBlk_at hj]
  by_cases e:i=j
  ·subst e;simp [hi]
  ·rw [if_neg e]
   by_cases h2:j<i
   ·rw [if_pos h2,if_pos (by omega)]
   ·rw [if_neg h2,if_neg (by omega)]
 ·rw [List.getElem?_eq_none (by rw [tabBlk_length];omega),List.getElem?_eq_none (by rw [tabBlk_length];omega)]
  split
  ·omega
  ·rfl
theorem crc_table (x:Nat→Value) (h:ai) (B:Nat) (hB:h.n0≤B) (hg:h.get B=some (ff 0)) (h3:x 3=ptr B 0) (h9:x 9 = .int .i64 0) :
  ∃ x' h',iter (aI Tryz.prog C (partOf Tryz.f34 [1,1,0,1,0,0])) rounds (bu 54 x) h=some (.exit 0,bu 54 x',h')∧x' 0=x 0∧x' 3=ptr B 0∧Kept h h' (· = B)∧h'.get B=some (ff 16):=by
 obtain ⟨ex,x',h',h1,rfl,h2⟩:=loop_inv (t34l34_11010_eq C)
  (Inv:=fun k y h1=>k≤16∧y 9=aH (16-k)∧y 0=x 0∧y 3=ptr B 0∧Kept h h1 (· = B)∧h1.get B=some (ff (16-k)))
  (fin:=fun ex y h1=>ex = .exit 0∧y 0=x 0∧y 3=ptr B 0∧Kept h h1 (· = B)∧h1.get B=some (ff 16))
  (by
   rintro k y h1 ⟨hk,i9,i0,i3,ik,ig⟩
   unfold t34l34_11010
   simp -implicitDefEqProofs only [i9,aH,aG,ao,ah]
   by_cases hz:k=0
   ·subst hz
    refine ⟨_,_,_,rfl,.inr ⟨by simp,rfl,?_⟩⟩
    simp -implicitDefEqProofs only [dV,fE,i0,i3,Nat.reduceEqDiff,if_false,true_and]
    exact ⟨ik,ig⟩
   ·have hlt:((16-k:Nat):Int)<16:=by omega
    have hw:IntKind.wrap .u32 ((16-k:Nat):Int)=((16-k:Nat):Int):=wrap_u32 (by omega) (by omega)
    simp -implicitDefEqProofs only [decide_eq_true hlt,bg,ah,hw]
    obtain ⟨z,hz1,z5,z0,z3,z4,z9⟩:=crc_inner C (up y [(4,.int .i64 ((16-k:Nat):Int)),(5,u32 (16-k)),(10,.bool true),(11,.int .i64 ((16-k:Nat):Int)),(12,.int .i64 ((16-k:Nat):Int)),(13,u32 (16-k)),(14,.int .i64 0)]) h1 (16-k) (by omega) rfl rfl
    rw [hz1]
    simp -implicitDefEqProofs only [dV,fE,Nat.reduceEqDiff,if_false,if_true] at z0 z3 z4 z9
    simp -implicitDefEqProofs only [bJ,b34_17,if_true,t34k34_15_eq]
    have hlt2:(0:Int)≤((16-k:Nat):Int)∧((16-k:Nat):Int)<((16:Nat):Int):=by omega
    unfold t34k34_15
    simp -implicitDefEqProofs only [z3,i3,z4,z5,idxA,hlt2,and_self,if_true,ar,ao,ah,Nat.zero_add,Int.toNat_natCast,Nat.mul_one]
    rw [stN1_at ig (by rw [tabBlk_length];omega) (by rw [ik.n0];exact hB) rfl rfl,tabBlk_set (by omega)]
    simp -implicitDefEqProofs only [ah,t34k34_11_eq]
    unfold t34k34_11
    simp -implicitDefEqProofs only [dV,fE,Nat.reduceEqDiff,if_false,if_true,z9,i9,bin_add,ao,ah]
    refine ⟨_,_,_,rfl,.inl ⟨rfl,k-1,by omega,by omega,?_⟩⟩
    have hb:h1.n0≤B:=by rw [ik.n0];exact hB
    have e1:16-(k-1)=16-k+1:=by omega
    simp -implicitDefEqProofs only [dV,fE,Nat.reduceEqDiff,if_false,if_true,z0,i0,z3,i3,true_and,e1]
    refine ⟨?_,ik.trans (Kept.set hb ig (.inr rfl)),ai.bT hb ig _⟩
    rw [wrap_i64 (by omega) (by omega)]
    congr 1)
  (k:=16) (by decide) ⟨by omega,h9,rfl,h3,Kept.refl _ _,hg⟩
 exact ⟨x',h',h1,h2⟩
end
theorem crc_mix (tab:Nat→Nat) (ht : ∀ q,q<16→tab q<4294967296) (r:Nat) (hr:r<4294967296):bin Tryz.prog .and 50 (u32 r) (.int .u32 15)=some (u32 (r%16))∧bin Tryz.prog .shr 50 (u32 r) (.int .u64 4)=some (u32 (r/16)) ∧
  bin Tryz.prog .xor 50 (u32 (tab (r%16))) (u32 (r/16))=some (u32 (crcHalf tab r)):=by
 refine ⟨?_,?_,?_⟩
 ·have h1:=bin_and_nat Tryz.prog 50 (k := .u32) rfl (a:=r) (b:=15) hr (by decide)
  rw [show r &&& 15=r%16 from Nat.and_two_pow_sub_one_eq_mod r 4] at h1
  exact h1
 ·exact bin_shr_nat Tryz.prog 50 (k := .u32) (k' := .u64) (a:=r) (b:=4) (by decide)
 ·exact bin_xor_nat Tryz.prog 50 (k := .u32) rfl (ht _ (by omega)) (by show _<2^32;omega)
section
variable (C:av)
theorem crc_round (tab:Nat→Nat) (ht : ∀ q,q<16→tab q<4294967296) (y:Nat→Value) (h:ai) (B:Nat) (blk:dt) (hg:h.get B=some blk) (hblk : ∀ q,q<16→blk[q]? = some (u32 (tab q)))
  (b off len c i V R:Nat) (s:Option Nat) (kb:dt) (hkb:h.get b=some kb) (hcell:kb[off+i]? = some (u8 V)) (hV:V<256) (hR:R<4294967296) (hi:i<len) (hlen:len<9223372036854775807)
  (i3:y 3=ptr B 0) (i6:y 6=u32 R) (i27:y 27 = .slice (some ⟨b,off,s⟩) len c) (i28:y 28=aH len) (i29:y 29=aH i) :
  ∃ y',eR C y h=some (.normal,bu 54 y',h)∧y' 3=y 3∧y' 6=u32 (crcHalf tab (crcHalf tab (R ^^^ V)))∧y' 27=y 27∧y' 28=y 28∧y' 29=aH (i+1):=by
 have hlt:(i:Int)<(len:Int):=by omega
 have hidx:(0:Int)≤(i:Int)∧(i:Int)<(len:Int):=by omega
 have hw:IntKind.wrap .u32 ((V:Nat):Int)=(V:Int):=wrap_u32 (by omega) (by omega)
 have hx:=bin_xor_nat Tryz.prog 50 (k := .u32) rfl (a:=R) (b:=V) hR (by show _<2^32;omega)
 have hr1:R ^^^ V<4294967296:=Nat.xor_lt_two_pow (n:=32) hR (by omega)
 generalize R ^^^ V=R1 at *
 obtain ⟨a1,a2,a3⟩:=crc_mix tab ht _ hr1
 have hr2:=crcHalf_lt ht hr1
 generalize crcHalf tab R1=R2 at *
 obtain ⟨b1,b2,b3⟩:=crc_mix tab ht _ hr2
 generalize crcHalf tab R2=R3 at *
 have hi1 : ∀ q:Nat,(0:Int)≤((q%16:Nat):Int)∧((q%16:Nat):Int)<((16:Nat):Int):=fun q=>by omega
 have hld : ∀ q:Nat,aR (ptr B (q%16)) h=some (u32 (tab (q%16)),h):=fun q=>aW hg (hblk _ (by omega))
 unfold eR
 simp -implicitDefEqProofs only [i28,i29,aH,aG,ao,ah,decide_eq_true hlt,i27,bW,hidx,and_self,if_true,Int.toNat_natCast,Nat.mul_one,aW hkb hcell,bg,hw,i6,hx,a1,i3,idxA,hi1,ar,Nat.zero_add,hld,a2,a3,b1,b2,b3,bin_add]
 refine ⟨_,rfl,?_⟩
 simp -implicitDefEqProofs only [dV,fE,Nat.reduceEqDiff,if_false,if_true,i3,i27,i28,true_and]
 rw [wrap_i64 (by omega) (by omega)]
 rfl
theorem crc_bytes (x:Nat→Value) (h:ai) (B:Nat) (a:Option Addr) (n c:Nat) (l:List Nat) (hg:h.get B=some (ff 16)) (hl:aA a n h=some l)
  (h3:x 3=ptr B 0) (h6:x 6=u32 4294967295) (h27:x 27 = .slice a n c) (h28:x 28=aH n) (h29:x 29 = .int .i64 0) (hn:n<rounds) (hn2:n<9223372036854775807) :
  ∃ x',iter (aI Tryz.prog C (partOf Tryz.f34 [1,1,1,1,0,1,0,0])) rounds (bu 54 x) h=some (.exit 4,bu 54 x',h)∧x' 6=u32 (l.foldl crcStep 4294967295):=by
 obtain ⟨hlen,hb,hat⟩:=aC hl
 obtain ⟨ex,x',h',h1,rfl,rfl,h2⟩:=loop_inv (t34l34_1111010_eq C)
  (Inv:=fun k y h1=>k≤n∧h=h1∧y 3=ptr B 0∧y 6=u32 ((l.take (n-k)).foldl crcStep 4294967295)∧y 27 = .slice a n c∧y 28=aH n∧y 29=aH (n-k))
  (fin:=fun ex y h1=>ex = .exit 4∧h1=h∧y 6=u32 (l.foldl crcStep 4294967295))
  (by
   rintro k y _ ⟨hk,rfl,i3,i6,i27,i28,i29⟩
   by_cases hz:k=0
   ·subst hz
    unfold eR
    simp -implicitDefEqProofs only [i28,i29,aH,aG,ao,ah]
    simp -implicitDefEqProofs only [Nat.sub_zero,Int.lt_irrefl,decide_false]
    refine ⟨_,_,_,rfl,.inr ⟨by simp,rfl,rfl,?_⟩⟩
    simp -implicitDefEqProofs only [dV,fE,Nat.reduceEqDiff,if_false,i6,Nat.sub_zero]
    rw [List.take_of_length_le (by omega)]
   ·have e1:n-(k-1)=n-k+1:=by omega
    have hnk:n-k<n:=by omega
    have hlt2:n-k<l.length:=by omega
    obtain ⟨b,off,s,kb,rfl,hkb,hkl,hat2⟩:=hat (by omega)
    have hcell:=hat2 (n-k) hnk
    clear hat hat2
    have hr:((l.take (n-k)).foldl crcStep 4294967295)<4294967296:=crcFold_lt _ _ (by omega) (fun m hm=>hb m (List.mem_of_mem_take hm))
    have hbv:l.getD (n-k) 0<256:=by
     rw [List.getD_eq_getElem?_getD,List.getElem?_eq_getElem hlt2]
     exact hb _ (List.getElem_mem _)
    obtain ⟨y',q1,q3,q6,q27,q28,q29⟩:=crc_round C crcTab (fun q hq=>crcTab_lt (by omega)) y h B (ff 16) hg (fun q hq=>by rw [tabBlk_at hq,if_pos hq]) b off n c (n-k) _ _ s kb hkb hcell hbv hr hnk hn2 i3 i6 i27 i28 i29
    refine ⟨_,_,_,q1,.inl ⟨rfl,k-1,by omega,by omega,rfl,q3.trans i3,?_,q27.trans i27,q28.trans i28,by rw [q29,e1]⟩⟩
    rw [q6,e1,List.take_add_one,List.foldl_append]
    have hV2:l[n-k]? = some (l.getD (n-k) 0):=by
     rw [List.getD_eq_getElem?_getD,List.getElem?_eq_getElem hlt2]
     rfl
    rw [hV2,Option.toList_some,List.foldl_cons,List.foldl_nil,crcStep])
  (k:=n) hn ⟨by omega,rfl,h3,by rw [h6,Nat.sub_self,List.take_zero,List.foldl_nil],h27,h28,by rw [h29,Nat.sub_self];rfl⟩
 exact ⟨x',h1,h2⟩
theorem bits_xor_nat {k:IntKind} (hk:k.signed=false) {a b:Nat} (ha:a<2^k.bits) (hb:b<2^k.bits):bitsA .xor k (a:Int) (b:Int)=some (.int k ((a ^^^ b:Nat):Int)):=by
 simp -implicitDefEqProofs only [bitsA,ofInt_natCast,BitVec.toNat_xor,BitVec.toNat_ofNat,Nat.mod_eq_of_lt ha,Nat.mod_eq_of_lt hb]
 rw [bits_u hk _ (Nat.xor_lt_two_pow ha hb)]
theorem unA_xor_u32 {r:Nat} (hr:r<4294967296):unA .xor (u32 r)=some (u32 (4294967295 ^^^ r)):=by
 have h0:4294967295<2^IntKind.bits .u32:=by show 4294967295<2^32;omega
 have h1:=bits_xor_nat (k := .u32) rfl (a:=4294967295) (b:=r) h0 hr
 have h2:IntKind.max .u32=((4294967295:Nat):Int):=by decide
 have h3:unA .xor (u32 r)=bitsA .xor .u32 (IntKind.max .u32) r:=rfl
 rw [h3,h2]
 exact h1
theorem t34_is (a:Option Addr) (n c:Nat) (l:List Nat) (h:ai) (hl:aA a n h=some l) (hn:n<9223372036854775807) :
  ∃ h1,t34 C (.slice a n c) h=some (u32 (crcN l),h1)∧Old h h1:=by
 unfold t34
 simp -implicitDefEqProofs only [eD,Abs.newRow,ah]
 have hg0:(h.alloc (ff 0)).get h.next=some (ff 0):=by rw [ai.aO,if_pos rfl]
 have hz:List.replicate 16 (Value.int IntKind.u32 0)=ff 0:=rfl
 rw [hz]
 obtain ⟨x',h',h1,x0,x3,hk,hg⟩:=crc_table C (up (bs [.slice a n c]) [(2,.int .u32 0),(3,ptr h.next 0),(9,.int .i64 0)]) (h.alloc (ff 0)) h.next h.aQ hg0 rfl rfl
 rw [h1]
 have x0':x' 0 = .slice a n c:=x0
 have hm : ∀ b k,h.get b=some k→h'.get b=some k:=by
  intro b k hb
  have hlt:=h.bj hb
  rw [hk.get b (by simp;omega) (by omega),ai.aO,if_neg (by omega)];exact hb
 simp -implicitDefEqProofs only [bJ,b34_4,if_true,t34k34_2_eq]
 unfold t34k34_2
 simp -implicitDefEqProofs only [x0',lenL_slice,ao,ah]
 obtain ⟨z,hz1,z6⟩:=crc_bytes C (up x' [(6,.int .u32 4294967295),(27,.slice a n c),(28,.int .i64 n),(29,.int .i64 0)]) h' h.next a n c l hg (sliceBytes_mono hl hm)
  (by simp -implicitDefEqProofs only [dV,fE,Nat.reduceEqDiff,if_false,x3]) rfl rfl rfl rfl (by have:rounds=18446744073709551616:=rfl;omega) hn
 rw [hz1]
 simp -implicitDefEqProofs only [bJ,b34_8,if_true,t34k34_6_eq]
 unfold t34k34_6
 obtain ⟨_,hb,_⟩:=aC hl
 refine ⟨h',?_,(Kept.alloc h _ (fun _=>False)).dr hk (fun d hd e=>by omega)⟩
 simp -implicitDefEqProofs only [z6,ah,unA_xor_u32 (crcFold_lt l 4294967295 (by omega) hb),ao,crcN]
end
end
section
section bytes
def spliceN (l:List Nat) (off:Nat) (xs:List Nat):List Nat:=l.take off++xs++l.drop (off+xs.length)
theorem spliceN_map (l:List Nat) (off:Nat) (xs:List Nat):bA (l.map u8) off (xs.map u8)=(spliceN l off xs).map u8:=by
 simp [bA,spliceN]
theorem copy_bytes {h:ai} {b off dl dc n c:Nat} {s:Option Nat} {a:Option Addr} {img l:List Nat} (hb:h.get b=some (img.map u8)) (h0:h.n0≤b) (hs:aA a n h=some l) (hlen:off+min n dl≤img.length) :
  ∃ g,copyA 1 (.slice (some ⟨b,off,s⟩) dl dc) (.slice a n c) h=some (aH (min n dl),g)∧g.n0=h.n0∧g.next=h.next∧g.get b=some ((spliceN img off (l.take (min n dl))).map u8)∧(∀ e,e≠b→g.get e=h.get e):=by
 have hl:=(aC hs).1
 unfold copyA
 simp only [lenA]
 rw [firstA_of hs (Nat.min_le_left n dl)]
 simp only
 by_cases h1:min n dl=0
 ·rw [if_pos h1]
  refine ⟨h,rfl,rfl,rfl,?_,fun _ _=>rfl⟩
  rw [h1,hb];simp [spliceN]
 ·rw [if_neg h1]
  refine ⟨h.set b ((spliceN img off (l.take (min n dl))).map u8),?_,rfl,rfl,ai.bT h0 hb _,fun e he=>ai.fh h0 (h.bj hb) _ he⟩
  unfold stL
  simp only [hb]
  rw [if_pos (by simp only [one_u8,List.length_map,List.length_take,Bool.and_true,Bool.and_eq_true,decide_eq_true_eq];exact ⟨h0,by omega⟩),spliceN_map]
  rfl
end bytes
end
section
end
section
def goodZ (a:Option Addr) (n c:Nat):Prop:=cZ a n c=true∨(n=0∧c=0 ∧ ∀ y,a=some y→y.spot=some 0)
def BytesV (h:ai) (v:Value) (l:List Nat):Prop := ∃ a n c,v = .slice a n c∧aA a n h=some l∧n≤maxLen∧goodZ a n c
end
section
theorem get_kill {h:ai} {L:Nat} (h0:h.n0≤L) (hn:L<h.next) {c:Nat} (hc:c≠L):(h.kill L).get c=h.get c:=by
 unfold ai.kill
 rw [ai.get_put _ h0 hn,if_neg hc]
end
section
end
section
theorem IsR.lt {h:ai} {p r:Nat} {l:List Nat} {e:Int} (R:IsR h p r l e):r<h.next:=by
 obtain ⟨a,n,c,h1,_,_⟩:=R.ex
 exact h.bj h1
end
section
def Plain (h:ai) (b:Nat):Prop := ∃ k,h.get b=some k ∧ ∀ v∈k,nat8 v=none
theorem setPlain {h:ai} {b:Nat} {k k':dt} (hk:h.get b=some k) (h0:h.n0≤b):Kept h (h.set b k') (fun c=>c=b)∧(h.set b k').get b=some k':=⟨Kept.set h0 hk (.inr rfl),ai.bT h0 hk _⟩
end
section
def cN:Value→Option Nat
 | .slice (some a) _ _=>some a.block
 |_=>none
def fp (h:ai) (N size:Nat) (v:Value) (len:Nat) (cells:List Value):Prop:=
 cells.length=len*size∧Abs.bw cells=true∧aS cells=true ∧
 ((v = .slice none 0 0∧len=0) ∨ ∃ b s,v = .slice (some ⟨b,0,s⟩) len len∧N≤b∧((s=none∧len=0)∨(s=some size∧h.get b=some cells)))
theorem fp.nil (h:ai) (N size:Nat):fp h N size (.slice none 0 0) 0 []:=⟨by simp,rfl,rfl,.inl ⟨rfl,rfl⟩⟩
theorem fp.empty (h:ai) {N size b:Nat} (hb:N≤b):fp h N size (.slice (some ⟨b,0,none⟩) 0 0) 0 []:=⟨by simp,rfl,rfl,.inr ⟨b,none,rfl,hb,.inl ⟨rfl,rfl⟩⟩⟩
theorem fp.cD {h h':ai} {N size:Nat} {v:Value} {len:Nat} {cells:List Value} (o:fp h N size v len cells) {B:Nat→Prop} (k:Kept h h' B) (hB : ∀ b,cN v=some b → ¬B b):fp h' N size v len cells:=by
 obtain ⟨h1,h2,h3,h4⟩:=o
 refine ⟨h1,h2,h3,?_⟩
 rcases h4 with h4|⟨b,s,rfl,h5,h6|⟨h6,h7⟩⟩
 ·exact .inl h4
 ·exact .inr ⟨b,s,rfl,h5,.inl h6⟩
 ·exact .inr ⟨b,s,rfl,h5,.inr ⟨h6,k.fo h7 (hB b rfl)⟩⟩
theorem noHoles_append (a b:List Value) (ha:Abs.bw a=true) (hb:Abs.bw b=true):Abs.bw (a++b)=true:=by
 unfold Abs.bw at *
 rw [List.all_append,ha,hb];rfl
theorem oneCells_append (a b:List Value) (ha:aS a=true) (hb:aS b=true):aS (a++b)=true:=by
 unfold aS at *
 rw [List.all_append,ha,hb];rfl
theorem fp.base {h:ai} {N size:Nat} {v:Value} {len:Nat} {cells:List Value} (o:fp h N size v len cells) {b:Nat} (hb:cN v=some b):N≤b:=by
 obtain ⟨_,_,_,⟨rfl,_⟩|⟨b',s,rfl,h5,_⟩⟩:=o
 ·cases hb
 ·cases hb;exact h5
theorem append_own {h:ai} {N size by_ len m:Nat} {v x:Value} {cells news:List Value} (o:fp h N size v len cells) (h0:h.n0≤N) (hN:N≤h.next) (hs:0<size) (hx:lenA x=some m) (hf:bK size m x h=some news)
  (h1:aS news=true) (h2:Abs.bw news=true) (hl:news.length=m*size) (hb:(len+m)*by_≤140737488355328) (hc:len+m≤4611686018427387904) :
  ∃ v' h',bq size by_ v x h=some (v',h')∧fp h' N size v' (len+m) (cells++news)∧Kept h h' (fun c=>cN v=some c∧h.get c=some cells)∧(v'=v∨(cN v'=some h.next∧h.next<h'.next)):=by
 have o':=o
 obtain ⟨o1,o2,o3,o4⟩:=o
 have hcond : ∀ len':Nat,len'=len→(!(aS news) || !(decide ((len'+m)*by_≤140737488355328)) || !(decide (len'+m≤4611686018427387904))||decide (news.length≠m*size))=false:=by
  rintro _ rfl
  rw [h1,decide_eq_true hb,decide_eq_true hc,decide_eq_false (by omega)];rfl
 by_cases hm:m=0
 ·subst hm
  have hn:news = []:=List.length_eq_zero_iff.1 (by omega)
  subst hn
  have ho:fp h N size v (len+0) (cells ++ []):=by rw [List.append_nil];exact o'
  refine ⟨v,h,?_,ho,Kept.refl _ _,.inl rfl⟩
  rcases o4 with ⟨rfl,rfl⟩|⟨b,s,rfl,h5,h6⟩
  ·unfold bq
   simp only [hx,hf]
   rw [if_neg (by rw [hcond 0 rfl];decide),if_pos (by omega),if_pos trivial]
  ·unfold bq
   simp only [hx,hf]
   rw [if_neg (by rw [hcond len rfl];decide),if_pos (by omega),if_pos trivial]
 ·have fresh : ∀ cs:List Value,cs = []→len=0→fp (h.alloc news) N size (.slice (some ⟨h.next,0,some size⟩) (len+m) (len+m)) (len+m) (cs++news):=by
   rintro _ rfl rfl
   exact ⟨by simpa using hl,by simpa using h2,by simpa using h1,.inr ⟨h.next,_,rfl,hN,.inr ⟨rfl,by rw [ai.aO,if_pos rfl];rfl⟩⟩⟩
  rcases o4 with ⟨rfl,rfl⟩|⟨b,s,rfl,h5,⟨rfl,rfl⟩|⟨rfl,h6⟩⟩
  ·have hce:cells = []:=List.length_eq_zero_iff.1 (by simpa using o1)
   refine ⟨_,_,?_,fresh cells hce rfl,Kept.alloc _ _ _,.inr ⟨rfl,by simp⟩⟩
   unfold bq
   simp only [hx,hf]
   rw [if_neg (by rw [hcond 0 rfl];decide),if_neg (by omega),if_pos trivial]
  ·have hce:cells = []:=List.length_eq_zero_iff.1 (by simpa using o1)
   refine ⟨_,_,?_,fresh cells hce rfl,Kept.alloc _ _ _,.inr ⟨rfl,by simp⟩⟩
   unfold bq
   simp only [hx,hf]
   have f0:bK size 0 (.slice (some ⟨b,0,none⟩) 0 0) h=some []:=by simp [bK]
   rw [if_neg (by rw [hcond 0 rfl];decide),if_neg (by omega)]
   simp only [f0]
   rw [if_neg (by simp)];rfl
  ·have hf2:bK size len (.slice (some ⟨b,0,some size⟩) len len) h=some cells:=by
    simp only [bK]
    by_cases hz:len*size=0
    ·rw [if_pos hz]
     have:cells = []:=List.length_eq_zero_iff.1 (by omega)
     rw [this]
    ·rw [if_neg hz]
     simp only [h6]
     have e:(cells.drop 0).take (len*size)=cells:=by rw [List.drop_zero,List.take_of_length_le (by omega)]
     simp only [e]
     rw [if_pos ⟨by omega,o2⟩]
   have hlt:=h.bj h6
   have hk : ∀ c,c<h.next→c≠b→((h.kill b).alloc (cells++news)).get c=h.get c:=by
    intro c hc hne
    rw [ai.aO,if_neg (by rw [ai.next_kill];omega)]
    exact get_kill (by omega) hlt hne
   refine ⟨.slice (some ⟨h.next,0,some size⟩) (len+m) (len+m),(h.kill b).alloc (cells++news),?_,⟨by rw [List.length_append,o1,hl,Nat.add_mul],noHoles_append _ _ o2 h2,oneCells_append _ _ o3 h1,.inr ⟨h.next,_,rfl,hN,.inr ⟨rfl,?_⟩⟩⟩,⟨rfl,by simp,fun c hc hB=>hk c hc (fun e=>hB (by rw [e];exact ⟨rfl,h6⟩))⟩,.inr ⟨rfl,by simp⟩⟩
   ·unfold bq
    simp only [hx,hf]
    rw [if_neg (by rw [hcond len rfl];decide),if_neg (by omega)]
    simp only [hf2]
    rw [if_neg (by simp [o1]),if_pos (by simp [h6];omega)]
   ·rw [ai.aO,if_pos (by rw [ai.next_kill])]
structure OwnB (h:ai) (N:Nat) (v:Value) (l:List Nat):Prop where
 own:fp h N 1 v l.length (l.map u8)
 byte : ∀ x∈l,x<256
theorem OwnB.nil (h:ai) (N:Nat):OwnB h N (.slice none 0 0) []:=⟨.nil h N 1,by simp⟩
theorem OwnB.cD {h h':ai} {N:Nat} {v:Value} {l:List Nat} (o:OwnB h N v l) {B:Nat→Prop} (k:Kept h h' B) (hB : ∀ b,cN v=some b → ¬B b):OwnB h' N v l:=⟨o.own.cD k hB,o.byte⟩
theorem OwnB.bytes {h:ai} {N:Nat} {v:Value} {l:List Nat} (o:OwnB h N v l) : ∃ a c,v = .slice a l.length c∧aA a l.length h=some l∧cZ a l.length c=true∧(∀ y,a=some y→N≤y.block)∧(∀ y,a=some y→cN v=some y.block):=by
 obtain ⟨⟨o1,o2,o3,o4⟩,ob⟩:=o
 rcases o4 with ⟨rfl,h4⟩|⟨b,s,rfl,h5,⟨rfl,h4⟩|⟨rfl,h6⟩⟩
 ·have:l = []:=List.length_eq_zero_iff.1 h4
  subst this
  exact ⟨none,0,rfl,rfl,rfl,fun y hy=>(by cases hy),fun y hy=>(by cases hy)⟩
 ·have:l = []:=List.length_eq_zero_iff.1 h4
  subst this
  exact ⟨_,_,rfl,rfl,rfl,fun y hy=>(by cases hy;exact h5),fun y hy=>(by cases hy;rfl)⟩
 ·refine ⟨_,_,rfl,?_,?_,fun y hy=>by cases hy;exact h5,fun y hy=>by cases hy;rfl⟩
  ·have:=sliceBytes_at (off:=0) (n:=l.length) (s:=some 1) h6 (by omega) ob
   rw [this,List.drop_zero,List.take_of_length_le (Nat.le_refl _)]
  ·unfold cZ
   rw [Nat.ble_eq_true_of_le (Nat.le_refl _)];rfl
theorem append_ownB {h:ai} {N n c:Nat} {v:Value} {l m:List Nat} {a:Option Addr} (o:OwnB h N v l) (h0:h.n0≤N) (hN:N≤h.next) (hm:aA a n h=some m) (hb:l.length+n≤100000000) :
  ∃ v' h',bq 1 1 v (.slice a n c) h=some (v',h')∧OwnB h' N v' (l++m)∧Kept h h' (fun c=>cN v=some c)∧(v'=v∨(cN v'=some h.next∧h.next<h'.next)):=by
 obtain ⟨hl,hbt,_⟩:=aC hm
 have hf:=firstA_of hm (Nat.le_refl n) (c:=c)
 rw [List.take_of_length_le (by omega)] at hf
 obtain ⟨v',h',e1,e2,e3,e4⟩:=append_own (by_:=1) o.own h0 hN (by decide) (show lenA (.slice a n c)=some n from rfl) hf (one_u8 _) (noHoles_u8 _) (by simp [hl]) (by omega) (by omega)
 refine ⟨v',h',e1,⟨?_,?_⟩,e3.mono (fun c _ hc=>hc.1),e4⟩
 ·rw [List.length_append,List.map_append,hl];exact e2
 ·intro x hx
  rcases List.mem_append.1 hx with hx|hx
  ·exact o.byte x hx
  ·exact hbt x hx
end
section
theorem sub3 {a b:Nat} (h:b≤a) (h2:a≤9223372036854775807):bin Tryz.prog .sub 3 (aH a) (aH b)=some (aH (a-b)):=by
 unfold aH;rw [bin_sub,wrap_i64 (by omega) (by omega)];exact congrArg (fun q=>some (Value.int .i64 q)) (by omega)
end
section
structure IsW (h:ai) (N w lim:Nat) (l:List Nat):Prop where
 ex : ∃ v,h.get w=some [aH lim,.bool false,v]∧OwnB h N v l∧cN v≠some w ∧ ∀ b,cN v=some b→b<h.next
 n0:h.n0≤N
 Nw:N≤w
 small:lim≤100000
 g4:4≤h.n0
def wb (h:ai) (w:Nat):Option Nat:=match h.get w with
 |some [_,_,v]=>cN v
 |_=>none
def Fr (h:ai) (w b:Nat):Prop:=b<h.next∧b≠w∧wb h w≠some b
structure WS (w:Nat) (h h':ai):Prop where
 n0:h'.n0=h.n0
 next:h.next≤h'.next
 get : ∀ b,Fr h w b→h'.get b=h.get b
 fr : ∀ b,Fr h w b→Fr h' w b
theorem WS.refl (w:Nat) (h:ai):WS w h h:=⟨rfl,Nat.le_refl _,fun _ _=>rfl,fun _ f=>f⟩
theorem WS.trans {w:Nat} {a b c:ai} (x:WS w a b) (y:WS w b c):WS w a c:=⟨y.n0.trans x.n0,Nat.le_trans x.next y.next,fun d f=>(y.get d (x.fr d f)).trans (x.get d f),fun d f=>y.fr d (x.fr d f)⟩
theorem WS.fq {w:Nat} {h h':ai} (hw:w<h.next) (o:Old h h'):WS w h h':=⟨o.n0,o.next,fun b f=>Kept.get o b f.1 (fun h=>h),fun b f=>⟨Nat.lt_of_lt_of_le f.1 o.next,f.2.1,by
 have:wb h' w=wb h w:=by
  unfold wb
  rw [Kept.get o w hw (fun h=>h)]
 rw [this];exact f.2.2⟩⟩
theorem WS.bytes {w:Nat} {h h':ai} (k:WS w h h') {a:Option Addr} {n:Nat} {l:List Nat} (e:aA a n h=some l) (hb : ∀ y,a=some y→0<n→Fr h w y.block):aA a n h'=some l:=by
 by_cases h0:n=0
 ·subst h0
  obtain ⟨hl,_,_⟩:=aC e
  have:l = []:=List.length_eq_zero_iff.1 hl
  subst this
  cases a with
  |none=>rfl
  |some x=>unfold aA bK;simp;rfl
 ·obtain ⟨_,_,h3⟩:=aC e
  obtain ⟨b,off,s,c,rfl,hc,_⟩:=h3 (by omega)
  rw [sliceBytes_congr (h:=h) (fun y hy=>by cases hy;exact k.get b (hb _ rfl (by omega)))]
  exact e
theorem IsW.lt {h:ai} {N w lim:Nat} {l:List Nat} (W:IsW h N w lim l):w<h.next:=by
 obtain ⟨v,h1,_⟩:=W.ex
 exact h.bj h1
theorem OwnB.nat8 {h:ai} {N:Nat} {v:Value} {l:List Nat} (o:OwnB h N v l):nat8 v=none:=by
 obtain ⟨a,c,rfl,_⟩:=o.bytes
 rfl
theorem OwnB.cell {h:ai} {N:Nat} {v:Value} {l:List Nat} (o:OwnB h N v l):v.cells = #[v]∧v.oneCell'=true∧isHole v=false:=by
 obtain ⟨a,c,rfl,_⟩:=o.bytes
 exact ⟨rfl,rfl,rfl⟩
theorem w_append {h:ai} {N w lim:Nat} {l m:List Nat} {a:Option Addr} {n c:Nat} (W:IsW h N w lim l) (hm:aA a n h=some m) (hb:l.length+n≤100000) :
  ∃ v v' g g',aR (ptr w 2) h=some (v,h)∧bq 1 1 v (.slice a n c) h=some (v',g)∧cA 1 (ptr w 2) v' g=some (undef,g')∧IsW g' N w lim (l++m)∧WS w h g':=by
 obtain ⟨v,h1,h2,h3,hbn⟩:=W.ex
 have hlt:=W.lt
 have hNw:=W.Nw
 obtain ⟨v',g,e1,e2,e3,e4⟩:=append_ownB (c:=c) h2 W.n0 (by omega) hm (by omega)
 have hg:=e3.fo h1 h3
 obtain ⟨c1,c2,c3⟩:=e2.cell
 have n0g:g.n0≤w:=by rw [e3.n0];have:=W.n0;omega
 have hst:cA 1 (ptr w 2) v' g=some (undef,g.set w [aH lim,.bool false,v']):=stN1_at hg (by simp) n0g c1 c2
 obtain ⟨k2,k3⟩:=setPlain (k' := [aH lim,.bool false,v']) hg n0g
 have hv':cN v'≠some w:=by
  rcases e4 with rfl|⟨e4,_⟩
  ·exact h3
  ·rw [e4];intro he;cases he;omega
 refine ⟨v,v',g,_,aW h1 rfl (h2.cell.2.2),e1,hst,⟨⟨v',k3,e2.cD k2 (fun b hb hc=>by subst hc;exact hv' hb),hv',fun b hb=>by
  rcases e4 with rfl|⟨e4,e5⟩
  ·exact Nat.lt_of_lt_of_le (hbn b hb) (Nat.le_trans e3.next k2.next)
  ·rw [e4] at hb
   cases hb
   exact Nat.lt_of_lt_of_le e5 k2.next⟩,?_,hNw,W.small,by rw [k2.n0,e3.n0];exact W.g4⟩,⟨k2.n0.trans e3.n0,Nat.le_trans e3.next k2.next,fun b f => ?_,fun b f=>⟨Nat.lt_of_lt_of_le f.1 (Nat.le_trans e3.next k2.next),f.2.1,?_⟩⟩⟩
 ·rw [k2.n0,e3.n0];exact W.n0
 ·have hwb:wb h w=cN v:=by unfold wb;rw [h1]
  have f3:=f.2.2
  rw [hwb] at f3
  exact (k2.get b (Nat.lt_of_lt_of_le f.1 e3.next) f.2.1).trans (e3.get b f.1 f3)
 ·have hwb:wb h w=cN v:=by unfold wb;rw [h1]
  have f3:=f.2.2
  rw [hwb] at f3
  have hwb':wb (g.set w [aH lim,.bool false,v']) w=cN v':=by unfold wb;rw [k3]
  rw [hwb']
  rcases e4 with rfl|⟨e4,_⟩
  ·exact f3
  ·rw [e4]
   intro he
   cases he
   have:=f.1
   omega
theorem is47:bF Tryz.prog 47 Tryz.f47:=⟨by kernel_rfl,by kernel_rfl,by kernel_rfl,by kernel_rfl⟩
theorem r47 (h:ai) (hG:4≤h.n0) {lim:Nat} (hl:lim≤100000) : ∃ h',CW 47 [aH lim] h=some (ptr h.next 0,h')∧IsW h' h.next h.next lim []∧Old h h' ∧ ∀ b,b<h.next→Fr h' h.next b:=by
 have hmx:eH true (.int .i64 0) [aH lim]=some (aH lim):=by
  simp only [eH,aH,if_true]
  by_cases h0:(lim:Int)>0
  ·rw [if_pos (by simpa using h0)]
  ·have:lim=0:=by omega
   subst this;rfl
 have hb:cQ [(.int .i64 0),(.bool false),(.slice none 0 0)] [(0,1,aH lim)]=some (.agg [aH lim,.bool false,.slice none 0 0].toArray):=rfl
 refine ⟨h.alloc [aH lim,.bool false,.slice none 0 0],az is47 hG rfl ((t47_eq _ _ _).trans ?_),⟨⟨.slice none 0 0,by rw [ai.aO,if_pos rfl],.nil _ _,(by intro h;cases h),(by intro b h;cases h)⟩,h.aQ,Nat.le_refl _,hl,hG⟩,Kept.alloc _ _ _,fun b hb=>⟨by rw [ai.cr];omega,by omega,by
  have:wb (h.alloc [aH lim,.bool false,.slice none 0 0]) h.next=none:=by unfold wb;rw [ai.aO,if_pos rfl];rfl
  rw [this];intro h;cases h⟩⟩
 unfold t47
 simp -implicitDefEqProofs only [ah,hmx,ao,hb,dN h [aH lim,.bool false,.slice none 0 0] rfl]
theorem is85:bF Tryz.prog 85 Tryz.f85:=⟨by kernel_rfl,by kernel_rfl,by kernel_rfl,by kernel_rfl⟩
theorem eql110 (b o:Nat):bin Tryz.prog .eql 90 (ptr b o) (.pointer none)=some (.bool false):=by kernel_rfl
theorem r85 {h:ai} {N w lim:Nat} {l:List Nat} (W:IsW h N w lim l) {n:Nat} (hn:l.length+n≤lim) : ∃ h',CW 85 [ptr w 0,aH n] h=some (.bool true,h')∧IsW h' N w lim l∧WS w h h':=by
 obtain ⟨v,h1,h2,h3,hbn⟩:=W.ex
 obtain ⟨a,c,hv,h4,h5,h6,h7⟩:=h2.bytes
 have hNw:=W.Nw
 have n0w:h.n0≤w:=by have:=W.n0;omega
 have l0:aR (ptr w 0) h=some (aH lim,h):=aW h1 rfl
 have l1:aR (ptr w 1) h=some (.bool false,h):=aW h1 rfl
 have l2:aR (ptr w 2) h=some (.slice a l.length c,h):=by rw [←hv];exact aW h1 rfl (h2.cell.2.2)
 have hst:cA 1 (ptr w 1) (.bool false) h=some (undef,h.set w [aH lim,.bool false,v]):=stN1_at h1 (by simp) n0w rfl rfl
 obtain ⟨k2,k3⟩:=setPlain (k' := [aH lim,.bool false,v]) h1 n0w
 have hsm:=W.small
 have hd:(decide (lim-l.length<n))=false:=decide_eq_false (by omega)
 refine ⟨_,az is85 W.g4 rfl ((t85_eq _ _ _ _).trans ?_),⟨⟨v,k3,h2.cD k2 (fun b hb hc=>by subst hc;exact h3 hb),h3,fun b hb=>Nat.lt_of_lt_of_le (hbn b hb) k2.next⟩,k2.n0▸W.n0,hNw,hsm,k2.n0▸W.g4⟩,⟨k2.n0,k2.next,fun b f=>k2.get b f.1 f.2.1,fun b f=>⟨Nat.lt_of_lt_of_le f.1 k2.next,f.2.1,by
  have e1:wb h w=cN v:=by unfold wb;rw [h1]
  have e2:wb (h.set w [aH lim,.bool false,v]) w=cN v:=by unfold wb;rw [k3]
  rw [e2,←e1];exact f.2.2⟩⟩⟩
 have l1':aR (ptr w 1) (h.set w [aH lim,.bool false,v])=some (.bool false,h.set w [aH lim,.bool false,v]):=aW k3 rfl
 unfold t85
 simp -implicitDefEqProofs only [ah,eql110,ao,au,beq_self_eq_true,al,bh,ar,Nat.zero_add,l1,Bool.false_eq_true,if_false,l0,l2,lenL_slice]
 rw [show (Value.int .i64 (l.length:Int))=aH l.length from rfl]
 simp -implicitDefEqProofs only [sub3 (show l.length≤lim by omega) (show lim≤9223372036854775807 by omega),ao,ah,gtr3,hd,hst,bh,ar,Nat.zero_add,l1',aw,Bool.not_false]
def cG:Nat→Nat→List Nat
 | 0,_ => []
 |n+1,v=>(v/256^n%256)::cG n v
theorem ay : ∀ n v,(cG n v).length=n
 | 0,_=>rfl
 |n+1,v=>by rw [cG,List.length_cons,ay]
theorem is84:bF Tryz.prog 84 Tryz.f84:=⟨by kernel_rfl,by kernel_rfl,by kernel_rfl,by kernel_rfl⟩
theorem bsl1 (h:ai) (x:Nat):bslR 1 (.int .u8 0) 1 [(0,u8 x)] h=some (.slice (some ⟨h.next,0,none⟩) 1 1,h.alloc [u8 x]):=rfl
theorem bytes1 (h:ai) {x:Nat} (hx:x<256):aA (some ⟨h.next,0,none⟩) 1 (h.alloc [u8 x])=some [x]:=by
 have:=sliceBytes_at (h:=h.alloc [u8 x]) (b:=h.next) (off:=0) (n:=1) (s:=none) (l := [x]) (by rw [ai.aO,if_pos rfl];rfl) (by simp) (by simpa using hx)
 rw [this];rfl
theorem IsW.bG {h h':ai} {N w lim:Nat} {l:List Nat} (W:IsW h N w lim l) (o:Old h h'):IsW h' N w lim l:=by
 obtain ⟨v,h1,h2,h3,h4⟩:=W.ex
 exact ⟨⟨v,o.fo h1 (fun h=>h),h2.cD o (fun _ _ h=>h),h3,fun b hb=>Nat.lt_of_lt_of_le (h4 b hb) o.next⟩,by rw [o.n0];exact W.n0,W.Nw,W.small,by rw [o.n0];exact W.g4⟩
theorem IsW.alloc {h:ai} {N w lim:Nat} {l:List Nat} (W:IsW h N w lim l) (k:dt):IsW (h.alloc k) N w lim l:=W.bG (Kept.alloc _ _ _)
theorem IsW.fr {h h':ai} {N w lim:Nat} {l:List Nat} (W:IsW h N w lim l) (o:Old h h') {b:Nat} (h1:h.next≤b) (h2:b<h'.next):Fr h' w b:=by
 obtain ⟨v,q1,_,_,q4⟩:=W.ex
 have hw:=W.lt
 refine ⟨h2,by omega,?_⟩
 have:wb h' w=cN v:=by
  unfold wb
  rw [o.fo q1 (fun h=>h)]
 rw [this]
 intro e
 have:=q4 b e
 omega
theorem r84 {h:ai} {N w lim:Nat} {l:List Nat} (W:IsW h N w lim l) {v n:Nat} (h1n:1≤n) (hn:n≤8) (hfit:l.length+n≤lim) (hv:v<18446744073709551616) :
  ∃ h',CW 84 [ptr w 0,.int .u64 v,aH n] h=some (.tuple #[],h')∧IsW h' N w lim (l++cG n v)∧WS w h h':=by
 obtain ⟨h1,e1,W1,k1⟩:=r85 W hfit
 have hsm:=W.small
 have key:Fin 30 (fun ex y g=>ex = .exit 0∧IsW g N w lim (l++cG n v)∧WS w h g)
   (iter (aI Tryz.prog CW (partOf Tryz.f84 [1,0,1,0,0])) rounds (bu 30 (up (bs [ptr w 0,.int .u64 v,aH n]) [(6,aH (n-1)),(7,ptr w 0),(8,aH n),(9,.bool true),(10,aH n),(11,aH (n-1))])) h1):=by
  refine cx (t84l84_1010_eq CW) (Inv:=fun k y g=>k≤n∧y 0=ptr w 0∧y 1 = .int .u64 v∧y 6 = .int .i64 ((k:Int)-1)∧WS w h g ∧ ∃ cur,IsW g N w lim cur∧cur++cG k v=l++cG n v) ?_ n (by have:rounds=18446744073709551616:=rfl;omega)
   ⟨Nat.le_refl _,rfl,rfl,by show aH (n-1)=_;unfold aH;exact congrArg _ (by omega),k1,l,W1,rfl⟩
  rintro k y g ⟨hk,i0,i1,i6,hkept,cur,Wc,hcur⟩
  have hclen:cur.length+k=l.length+n:=by
   have:=congrArg List.length hcur
   simpa [ay] using this
  unfold t84l84_1010
  simp -implicitDefEqProofs only [i6,ah,aK,ao]
  by_cases hz:k=0
  ·subst hz
   have hd:decide ((((0:Nat):Int)-1)≥0)=false:=by decide
   simp -implicitDefEqProofs only [hd]
   refine dC.out 0 ⟨rfl,?_,hkept⟩
   have:cur=l++cG n v:=by simpa [cG] using hcur
   rw [←this];exact Wc
  ·obtain ⟨q,rfl⟩ : ∃ q,k=q+1:=⟨k-1,by omega⟩
   have hd:decide ((((q+1:Nat):Int)-1)≥0)=true:=decide_eq_true (by omega)
   have hm8:bin Tryz.prog .mul 3 (.int .i64 8) (.int .i64 (((q+1:Nat):Int)-1))=some (.int .i64 ((8*q:Nat):Int)):=by
    rw [bin_mul,wrap_i64 (by omega) (by omega)]
    exact congrArg (fun z=>some (Value.int .i64 z)) (by omega)
   have hsh:bin Tryz.prog .shr 25 (.int .u64 (v:Int)) (.int .i64 ((8*q:Nat):Int))=some (.int .u64 ((v/256^q:Nat):Int)):=by
    rw [bin_shr_nat Tryz.prog 25 (k := .u64) (k' := .i64) (b:=8*q) (by show 8*q≤64;omega)]
    rw [show (2:Nat)^(8*q)=256^q by rw [Nat.pow_mul]]
   have hcv:IntKind.wrap .u8 ((v/256^q:Nat):Int)=((v/256^q%256:Nat):Int):=by
    rw [wrap_u8_mod];omega
   have hlt8:v/256^q%256<256:=Nat.mod_lt _ (by decide)
   generalize hx:v/256^q%256=x at *
   obtain ⟨v1,v2,g1,g2,f1,f2,f3,f4,f5⟩:=w_append (c:=1) (Wc.alloc [u8 x]) (bytes1 g hlt8) (by omega)
   have hl2:aR (ptr w 2) g=some (v1,g):=by
    obtain ⟨vv,q1,q2,q3⟩:=Wc.ex
    have e1:aR (ptr w 2) g=some (vv,g):=aW q1 rfl (q2.cell.2.2)
    have e2:aR (ptr w 2) (g.alloc [u8 x])=some (vv,g.alloc [u8 x]):=aW (ai.fH q1 _) rfl (q2.cell.2.2)
    rw [e2] at f1
    simp only [Option.some.injEq,Prod.mk.injEq,and_true] at f1
    rw [←f1];exact e1
   have hsub:bin Tryz.prog .sub 3 (.int .i64 (((q+1:Nat):Int)-1)) (.int .i64 1)=some (.int .i64 ((q:Int)-1)):=by
    rw [bin_sub,wrap_i64 (by omega) (by omega)]
    exact congrArg (fun z=>some (Value.int .i64 z)) (by omega)
   simp -implicitDefEqProofs only [hd,i0,i1,ah,ao,bh,ar,Nat.zero_add,hl2,hm8,hsh,bg,hcv]
   rw [show (Value.int .u8 (x:Int))=u8 x from rfl,bsl1]
   simp -implicitDefEqProofs only [ah,f2,ao,bh,ar,Nat.zero_add,f3,hsub]
   refine dC.next q (by omega) ⟨by omega,i0,i1,rfl,?_,cur ++ [x],f4,?_⟩
   ·exact (hkept.trans (WS.fq Wc.lt (Kept.alloc g _ _))).trans f5
   ·rw [←hcur,cG,hx,List.append_assoc];rfl
 obtain ⟨ex,y,g,q1,rfl,q2,q3⟩:=key
 refine ⟨g,az is84 W.g4 rfl ((t84_eq _ _ _ _ _).trans ?_),q2,q3⟩
 unfold t84
 have hs1:bin Tryz.prog .sub 3 (aH n) (.int .i64 1)=some (aH (n-1)):=sub3 (b:=1) h1n (by omega)
 simp -implicitDefEqProofs only [ah,e1,hs1,ao]
 rw [q1]
 simp -implicitDefEqProofs only [bJ,b84_2,if_true]
 have hr:Tryz.f84.results.toList = []:=by kernel_rfl
 rw [hr];rfl
end
section
theorem is51:bF Tryz.prog 51 Tryz.f51:=⟨by kernel_rfl,by kernel_rfl,by kernel_rfl,by kernel_rfl⟩
theorem is126:bF Tryz.prog 126 Tryz.f126:=⟨by kernel_rfl,by kernel_rfl,by kernel_rfl,by kernel_rfl⟩
theorem is50:bF Tryz.prog 50 Tryz.f50:=⟨by kernel_rfl,by kernel_rfl,by kernel_rfl,by kernel_rfl⟩
theorem is49:bF Tryz.prog 49 Tryz.f49:=⟨by kernel_rfl,by kernel_rfl,by kernel_rfl,by kernel_rfl⟩
theorem is133:bF Tryz.prog 133 Tryz.f133:=⟨by kernel_rfl,by kernel_rfl,by kernel_rfl,by kernel_rfl⟩
theorem is48:bF Tryz.prog 48 Tryz.f48:=⟨by kernel_rfl,by kernel_rfl,by kernel_rfl,by kernel_rfl⟩
section
variable {h:ai} {N w lim:Nat} {l:List Nat} (W:IsW h N w lim l)
include W
theorem r51 {v:Nat} (hfit:l.length+4≤lim) (hv:v<4294967296) : ∃ h',CW 51 [ptr w 0,.int .u32 v] h=some (.tuple #[],h')∧IsW h' N w lim (l++cG 4 v)∧WS w h h':=by
 obtain ⟨h1,e1,e2,e3⟩:=r84 W (v:=v) (n:=4) (by decide) (by decide) hfit (by omega)
 have e1:CW 84 [ptr w 0,.int .u64 v,.int .i64 4] h=_:=e1
 have hw:IntKind.wrap .u64 (v:Int)=(v:Int):=wrap_u64 (by omega) (by omega)
 refine ⟨h1,az is51 W.g4 rfl ((t51_eq _ _ _ _).trans ?_),e2,e3⟩
 unfold t51
 simp -implicitDefEqProofs only [ah,bg,hw,e1]
theorem r126 {v:Nat} (hfit:l.length+8≤lim) (hv:v<18446744073709551616) : ∃ h',CW 126 [ptr w 0,.int .u64 v] h=some (.tuple #[],h')∧IsW h' N w lim (l++cG 8 v)∧WS w h h':=by
 obtain ⟨h1,e1,e2,e3⟩:=r84 W (v:=v) (n:=8) (by decide) (by decide) hfit (by omega)
 have e1:CW 84 [ptr w 0,.int .u64 v,.int .i64 8] h=_:=e1
 refine ⟨h1,az is126 W.g4 rfl ((t126_eq _ _ _ _).trans ?_),e2,e3⟩
 unfold t126
 simp -implicitDefEqProofs only [ah,e1]
theorem r50 {v:Nat} (hfit:l.length+1≤lim) (hv:v<256) : ∃ h',CW 50 [ptr w 0,.int .u8 v] h=some (.tuple #[],h')∧IsW h' N w lim (l++cG 1 v)∧WS w h h':=by
 obtain ⟨h1,e1,e2,e3⟩:=r84 W (v:=v) (n:=1) (by decide) (by decide) hfit (by omega)
 have e1:CW 84 [ptr w 0,.int .u64 v,.int .i64 1] h=_:=e1
 have hw:IntKind.wrap .u64 (v:Int)=(v:Int):=wrap_u64 (by omega) (by omega)
 refine ⟨h1,az is50 W.g4 rfl ((t50_eq _ _ _ _).trans ?_),e2,e3⟩
 unfold t50
 simp -implicitDefEqProofs only [ah,bg,hw,e1]
theorem r49 {v:Nat} (hfit:l.length+2≤lim) (hv:v<65536) : ∃ h',CW 49 [ptr w 0,.int .u16 v] h=some (.tuple #[],h')∧IsW h' N w lim (l++cG 2 v)∧WS w h h':=by
 obtain ⟨h1,e1,e2,e3⟩:=r84 W (v:=v) (n:=2) (by decide) (by decide) hfit (by omega)
 have e1:CW 84 [ptr w 0,.int .u64 v,.int .i64 2] h=_:=e1
 have hw:IntKind.wrap .u64 (v:Int)=(v:Int):=wrap_u64 (by omega) (by omega)
 refine ⟨h1,az is49 W.g4 rfl ((t49_eq _ _ _ _).trans ?_),e2,e3⟩
 unfold t49
 simp -implicitDefEqProofs only [ah,bg,hw,e1]
theorem IsW.l2' {k:dt} {v:Value} (e:aR (ptr w 2) (h.alloc k)=some (v,h.alloc k)):aR (ptr w 2) h=some (v,h):=by
 obtain ⟨vv,q1,q2,q3⟩:=W.ex
 have e1:aR (ptr w 2) h=some (vv,h):=aW q1 rfl (q2.cell.2.2)
 have e2:aR (ptr w 2) (h.alloc k)=some (vv,h.alloc k):=aW (ai.fH q1 _) rfl (q2.cell.2.2)
 rw [e2] at e
 simp only [Option.some.injEq,Prod.mk.injEq,and_true] at e
 rw [←e];exact e1
theorem r133 {a:Option Addr} {n c:Nat} {m:List Nat} (hm:aA a n h=some m) (ha : ∀ y,a=some y→0<n→Fr h w y.block) (hfit:l.length+(n+2)≤lim) (hn:n<65536) :
  ∃ h',CW 133 [ptr w 0,.slice a n c] h=some (.tuple #[],h')∧IsW h' N w lim (l++cG 2 n++m)∧WS w h h':=by
 obtain ⟨h1,e1,W1,k1⟩:=r85 W (n:=n+2) hfit
 have hsm:=W.small
 have c1:(65535:Int)=((65535:Nat):Int):=rfl
 have hgt:bin Tryz.prog .gtr 3 (aH n) (.int .i64 65535)=some (.bool false):=by
  have:=gtr3 n 65535
  rw [decide_eq_false (by omega)] at this
  exact this
 have hadd:bin Tryz.prog .add 3 (aH n) (.int .i64 2)=some (aH (n+2)):=add3 (b:=2) (by omega)
 have hsh:bin Tryz.prog .shr 3 (aH n) (.int .u64 8)=some (aH (n/256)):=bin_shr_nat Tryz.prog 3 (k := .i64) (k' := .u64) (a:=n) (b:=8) (by decide)
 have hw1:IntKind.wrap .u8 ((n/256:Nat):Int)=((n/256:Nat):Int):=wrap_u8 (by omega) (by omega)
 have hw2:IntKind.wrap .u8 ((n:Nat):Int)=((n%256:Nat):Int):=by rw [wrap_u8_mod];omega
 have hbs:bslR 1 (.int .u8 0) 2 [(0,u8 (n/256)),(1,u8 (n%256))] h1=some (.slice (some ⟨h1.next,0,none⟩) 2 2,h1.alloc ([n/256,n%256].map u8)):=rfl
 have hb2:aA (some ⟨h1.next,0,none⟩) 2 (h1.alloc ([n/256,n%256].map u8))=some [n/256,n%256]:=by
  have:=sliceBytes_at (h:=h1.alloc ([n/256,n%256].map u8)) (b:=h1.next) (off:=0) (n:=2) (s:=none) (l := [n/256,n%256]) (by rw [ai.aO,if_pos rfl]) (by simp) (by
   intro x hx
   simp only [List.mem_cons,List.not_mem_nil,or_false] at hx
   rcases hx with rfl|rfl<;>omega)
  rw [this];rfl
 obtain ⟨v1,v2,g1,g2,f1,f2,f3,f4,f5⟩:=w_append (c:=2) (W1.alloc ([n/256,n%256].map u8)) hb2 (by omega)
 have hl2:=W1.l2' f1
 have k2:WS w h g2:=(k1.trans (WS.fq W1.lt (Kept.alloc h1 _ _))).trans f5
 have hm2:aA a n g2=some m:=k2.bytes hm ha
 obtain ⟨v3,v4,g3,g4,p1,p2,p3,p4,p5⟩:=w_append (c:=c) f4 hm2 (by simp only [List.length_append,List.length_cons,List.length_nil];omega)
 have hbe:cG 2 n = [n/256,n%256]:=by
  simp only [cG,Nat.pow_one,Nat.pow_zero,Nat.div_one]
  rw [Nat.mod_eq_of_lt (show n/256<256 by omega)]
 refine ⟨g4,az is133 W.g4 rfl ((t133_eq _ _ _ _).trans ?_),by rw [hbe];exact p4,k2.trans p5⟩
 unfold t133
 simp -implicitDefEqProofs only [ah,eql110,ao,lenL_slice]
 rw [show (Value.int .i64 (n:Int))=aH n from rfl]
 simp -implicitDefEqProofs only [hgt,hadd,ao,ah,e1,bh,ar,Nat.zero_add,hl2,hsh]
 simp -implicitDefEqProofs only [aH,bg,hw1,hw2,ah]
 rw [show (Value.int .u8 ((n/256:Nat):Int))=u8 (n/256) from rfl,show (Value.int .u8 ((n%256:Nat):Int))=u8 (n%256) from rfl,hbs]
 simp -implicitDefEqProofs only [ah,f2,ao,bh,ar,Nat.zero_add,f3,p1,p2,p3]
theorem r48 (hl:l.length≤21000) : ∃ a c h',CW 48 [ptr w 0] h=some (.tuple #[.slice a l.length c,.int .i64 0],h')∧aA a l.length h'=some l∧cZ a l.length c=true∧Old h h'∧(∀ y,a=some y→h.next≤y.block):=by
 obtain ⟨v,h1,h2,h3⟩:=W.ex
 obtain ⟨a,c,hv,h4,h5,h6,h7⟩:=h2.bytes
 obtain ⟨a',c',h',e1,e2,e3,e4,e5,_⟩:=r69b (c:=c) W.g4 h4 hl
 have l1:aR (ptr w 1) h=some (.bool false,h):=aW h1 rfl
 have l2:aR (ptr w 2) h=some (.slice a l.length c,h):=by rw [←hv];exact aW h1 rfl (h2.cell.2.2)
 refine ⟨a',c',h',az is48 W.g4 rfl ((t48_eq _ _ _).trans ?_),e2,e3,e4,fun y hy=>(e5 y hy).1⟩
 unfold t48
 simp -implicitDefEqProofs only [ah,eql110,ao,bh,ar,Nat.zero_add,l1,l2,e1]
end
end
section
theorem BytesV.bG {h h':ai} {v:Value} {l:List Nat} (x:BytesV h v l) (k:Old h h'):BytesV h' v l:=by
 obtain ⟨a,n,c,rfl,h1,h2⟩:=x
 exact ⟨a,n,c,rfl,Old.bytes k h1,h2⟩
end
section
end
section
end
section
end
section
theorem fp.bC {h:ai} {N size:Nat} {v:Value} {len:Nat} {cells:List Value} (o:fp h N size v len cells):bC v=some (aH len):=by
 obtain ⟨_,_,_,⟨rfl,h4⟩|⟨b,s,rfl,_⟩⟩:=o
 ·subst h4;rfl
 ·rfl
end
section
attribute [local congr] bp
theorem not_bytes {h:ai} {b n:Nat} {y:Addr} {l:List Nat} (p:Plain h b) (e:aA (some y) n h=some l) (hn:0<n):y.block≠b:=by
 intro hb
 obtain ⟨c,h1,h2⟩:=p
 subst hb
 exact bytes_apart e h1 h2 y rfl hn rfl
end
section
def XB (g:ai) (N:Nat) (v:Value) (l:List Nat):Prop := ∃ a c,v = .slice a l.length c∧aA a l.length g=some l∧cZ a l.length c=true ∧ ∀ y,a=some y→0<l.length→N≤y.block
theorem XB.cD {g g':ai} {N:Nat} {v:Value} {l:List Nat} (x:XB g N v l) {B:Nat→Prop} (k:Kept g g' B) (hB : ∀ c,B c→c<N∨Plain g c):XB g' N v l:=by
 obtain ⟨a,c,rfl,h1,h2,h3⟩:=x
 refine ⟨a,c,rfl,k.bytes h1 (fun y hy hn hb => ?_),h2,h3⟩
 rcases hB _ hb with h|h
 ·have:=h3 y hy hn;omega
 ·subst hy
  exact not_bytes h h1 hn rfl
theorem XB.bG {g g':ai} {N:Nat} {v:Value} {l:List Nat} (x:XB g N v l) (k:Old g g'):XB g' N v l:=x.cD k (fun _ h=>h.elim)
end
end Go.Proofs.YtjghlcdidopcpaaGreatDoor

namespace Go.Proofs.YtjghlcdidopcpaaGreatDoor
open Go Go.Abs
attribute [local congr] bp
theorem veqL_of : ∀ l:List Value,(∀ v∈l,Abs.veq v v=true)→Abs.veqL l l=true
 | [],_=>by simp [Abs.veqL]
 |x::a,h=>by
  have ih:=veqL_of a (fun v hv=>h v (List.mem_cons_of_mem _ hv))
  simp only [Abs.veqL,ih,h x (List.mem_cons_self ..),Bool.and_self]
theorem Kd.has.veq {k:Kd} {v:Value} (h:k.has v):Abs.veq v v=true:=by
 cases k with
 |u8=>obtain ⟨n,rfl,_⟩:=h;simp [Abs.veq]
 |i k=>obtain ⟨n,rfl,_⟩:=h;simp [Abs.veq]
 |b=>obtain ⟨t,rfl⟩:=h;simp [Abs.veq]
theorem Typed.veq {ks:List Kd} {cs:List Value} (h:Typed ks cs):Abs.veqL cs cs=true:=veqL_of _ fun v hv=>by
 obtain ⟨j,hj⟩:=List.mem_iff_getElem?.1 hv
 have hj2:=(List.getElem?_eq_some_iff.1 hj).1
 rw [h.1] at hj2
 obtain ⟨w,hw,hk⟩:=h.2 j _ (List.getElem?_eq_getElem hj2)
 rw [hj] at hw
 cases hw
 exact hk.veq
theorem dS.pt {ks:List Kd} {n:Nat} {cs:List Value} (h:dS ks n cs) {j:Nat} (hj:j<n*ks.length) : ∃ k v,ks[j%ks.length]? = some k∧cs[j]? = some v∧k.has v:=by
 have hpos:0<ks.length:=Nat.pos_of_ne_zero (fun e=>by rw [e] at hj;omega)
 have hi:j/ks.length<n:=(Nat.div_lt_iff_lt_mul hpos).2 hj
 have hm:=Nat.mod_lt j hpos
 obtain ⟨v,hv,hk⟩:=(h.2 _ hi).2 (j%ks.length) _ (List.getElem?_eq_getElem hm)
 refine ⟨_,v,List.getElem?_eq_getElem hm,?_,hk⟩
 rw [List.getElem?_take,if_pos hm,List.getElem?_drop] at hv
 have:=Nat.div_add_mod j ks.length
 rw [Nat.mul_comm] at this
 rw [this] at hv
 exact hv
theorem dS.of_pt {ks:List Kd} {n:Nat} {cs:List Value} (hl:cs.length=n*ks.length) (h : ∀ j,j<n*ks.length → ∃ k v,ks[j%ks.length]? = some k∧cs[j]? = some v∧k.has v):dS ks n cs:=by
 refine ⟨hl,fun i hi => ?_⟩
 have hm:=mul_le (z:=ks.length) hi
 refine ⟨by rw [List.length_take,List.length_drop];omega,fun j k hk => ?_⟩
 have hj:=(List.getElem?_eq_some_iff.1 hk).1
 obtain ⟨k',v,h1,h2,h3⟩:=h (i*ks.length+j) (by omega)
 rw [Nat.mul_comm i,Nat.mul_add_mod,Nat.mod_eq_of_lt hj,hk] at h1
 cases h1
 exact ⟨v,by rw [List.getElem?_take,if_pos hj,List.getElem?_drop];exact h2,h3⟩
theorem dS.put {ks:List Kd} {n:Nat} {cs:List Value} (h:dS ks n cs) {p:Nat} {k:Kd} {v:Value} (hk:ks[p%ks.length]? = some k) (hv:k.has v):dS ks n (cs.set p v):=by
 refine .of_pt (by rw [List.length_set];exact h.1) fun j hj => ?_
 by_cases e:p=j
 ·subst e
  exact ⟨k,v,hk,by rw [List.getElem?_set_self (by rw [h.1];exact hj)],hv⟩
 ·obtain ⟨k',w,h1,h2,h3⟩:=h.pt hj
  exact ⟨k',w,h1,by rw [List.getElem?_set_ne e];exact h2,h3⟩
structure SlK (ks:List Kd) (n off:Nat) (k:dt) (cs:List Value):Prop where
 le:off+n*ks.length≤k.length
 eq:(k.drop off).take (n*ks.length)=cs
 ty:dS ks n cs
theorem SlK.put {ks:List Kd} {n off:Nat} {k:dt} {cs:List Value} (x:SlK ks n off k cs) {p:Nat} {t:Kd} {v:Value} (hk:ks[p%ks.length]? = some t) (hv:t.has v):SlK ks n off (k.set (off+p) v) (cs.set p v):=by
 refine ⟨by rw [List.length_set];exact x.le,?_,x.ty.put hk hv⟩
 rw [List.drop_set,if_neg (by omega),List.take_set,x.eq,Nat.add_sub_cancel_left]
theorem cO.out {h:ai} {ks:List Kd} {v:Value} {n:Nat} {cs:List Value} (x:cO h ks v n cs) (hn:0<n) : ∃ b off k,slB v=some b∧h.get b=some k∧SlK ks n off k cs∧(∀ i,i<n→bW ks.length v (aH i)=some (ptr b (off+i*ks.length))) ∧
  ∀ k' cs',SlK ks n off k' cs'→h.n0≤b→cO (h.set b k') ks v n cs':=by
 obtain ⟨a,c,rfl,h1,h2,h3⟩:=x
 obtain ⟨b,off,s,k,rfl,h4,h5,h6⟩:=h3 hn
 obtain ⟨m,rfl⟩ : ∃ m,n=m+1:=⟨n-1,by omega⟩
 refine ⟨b,off,k,rfl,h4,⟨h5,h6,h2⟩,fun i hi => ?_,fun k' cs' y hb=>⟨_,_,rfl,fun h=>(by cases h),y.ty,fun _=>⟨b,off,s,k',rfl,ai.bT hb h4 _,y.le,y.eq⟩⟩⟩
 unfold bW
 simp only [aH]
 rw [if_pos (by omega),Int.toNat_natCast]
theorem elt_mod {z i j:Nat} (hj:j<z):(i*z+j)%z=j:=by rw [Nat.mul_comm,Nat.mul_add_mod,Nat.mod_eq_of_lt hj]
theorem cO.elt {h:ai} {ks:List Kd} {v:Value} {n:Nat} {cs:List Value} (x:cO h ks v n cs) (h0 : ∀ b,slB v=some b→h.n0≤b) {i:Nat} (hi:i<n) : ∃ b o,slB v=some b∧bW ks.length v (aH i)=some (ptr b o) ∧
  (∀ j k,ks[j]? = some k → ∃ u,k.has u∧aR (ptr b (o+j)) h=some (u,h)) ∧
  ∀ j k u,ks[j]? = some k→k.has u → ∃ h' cs',cA 1 (ptr b (o+j)) u h=some (undef,h')∧cO h' ks v n cs'∧Kept h h' (· = b):=by
 obtain ⟨b,off,k,hb,g,y,hix,hput⟩:=x.out (by omega)
 have hm:=mul_le (z:=ks.length) hi
 have hle:=y.le
 refine ⟨b,off+i*ks.length,hb,hix i hi,fun j t ht => ?_,fun j t u ht hu => ?_⟩
 ·have hj:=(List.getElem?_eq_some_iff.1 ht).1
  obtain ⟨t',u,h1,h2,h3⟩:=y.ty.pt (j:=i*ks.length+j) (by omega)
  rw [elt_mod hj,ht] at h1
  cases h1
  refine ⟨u,h3,aW g ?_ h3.cell.1⟩
  rw [←y.eq,List.getElem?_take,if_pos (by omega),List.getElem?_drop,←Nat.add_assoc] at h2
  exact h2
 ·have hj:=(List.getElem?_eq_some_iff.1 ht).1
  refine ⟨_,cs.set (i*ks.length+j) u,stN1_at g (by omega) (h0 b hb) hu.cell.2.2.2 hu.cell.2.1,hput _ _ ?_ (h0 b hb),Kept.set (h0 b hb) g (.inr rfl)⟩
  have:=y.put (p:=i*ks.length+j) (t:=t) (v:=u) (by rw [elt_mod hj];exact ht) hu
  rw [←Nat.add_assoc] at this
  exact this
theorem xor255 (m:Nat) (hm:m<256) : ∃ m':Nat,bin Tryz.prog .xor 5 (.int .u8 (m:Int)) (.int .u8 255)=some (.int .u8 (m':Int))∧m'<256:=
 ⟨m ^^^ 255,bin_xor_nat _ _ (k := .u8) rfl (show m<2^8 from hm) (by decide),Nat.xor_lt_two_pow (n:=8) hm (by decide)⟩
structure Lk (h0:ai) (p q B7:Nat) (c2 c5:Value) (y:Nat→Value) (g:ai):Prop where
 k:Kept h0 g (fun b=>p≤b∧b<q)
 y2:y 2=c2
 y5:y 5=c5
 y7:y 7=ptr B7 0
def LInv (t:Nat) (h0:ai) (p q B7:Nat) (c2 c5:Value) (ks:List Kd) (v:Value) (n:Nat) (k:Nat) (y:Nat→Value) (g:ai):Prop:=
 ∃ i,i+k=n∧y t=aH i∧Lk h0 p q B7 c2 c5 y g ∧ ∃ cs,cO g ks v n cs
def LFin (e:Nat) (h0:ai) (p q B7:Nat) (c2 c5:Value) (ex:Ex) (y:Nat→Value) (g:ai):Prop:=ex = .exit e∧Lk h0 p q B7 c2 c5 y g
theorem Lk.mono {h0:ai} {p q q' B7:Nat} {c2 c5:Value} {y:Nat→Value} {g:ai} (x:Lk h0 p q B7 c2 c5 y g) (h:q≤q'):Lk h0 p q' B7 c2 c5 y g:=⟨x.k.mono (fun b _ e=>⟨e.1,by omega⟩),x.y2,x.y5,x.y7⟩
theorem Lk.low {h0:ai} {p q B7:Nat} {c2 c5:Value} {y:Nat→Value} {g:ai} (x:Lk h0 p q B7 c2 c5 y g) {v:Value} {p0:Nat} (hp:p≤p0) (h0p:h0.n0≤p) (hi:In v p0 q) : ∀ b,slB v=some b→g.n0≤b:=fun b hb=>by
 have:=hi b hb
 rw [x.k.n0];omega
theorem Lk.wr {h0:ai} {p q B7:Nat} {c2 c5:Value} {y:Nat→Value} {g g':ai} (x:Lk h0 p q B7 c2 c5 y g) {v:Value} {p0 b:Nat} (hp:p≤p0) (hi:In v p0 q) (hb:slB v=some b) (k:Kept g g' (· = b)):Kept h0 g' (fun b=>p≤b∧b<q):=
 x.k.dr k (fun d _ e=>by
   subst e
   have:=hi _ hb
   omega)
theorem Lk.fld {h0:ai} {p q B7:Nat} {c2 c5:Value} {y:Nat→Value} {g:ai} (x:Lk h0 p q B7 c2 c5 y g) {kb:dt} (hb:h0.get B7=some kb) (h7:q≤B7) {o:Nat} {v:Value} (ho:kb[o]? = some v) {ks:List Kd} {n:Nat} {cs:List Value} (hv:cO g ks v n cs):aR (ptr B7 o) g=some (v,g):=
 aW (x.k.fo hb (by omega)) ho (bx hv).1
theorem roundB {h0:ai} {p p0 q B7:Nat} {c2 c5 v:Value} {n:Nat} {kb:dt} (hb:h0.get B7=some kb) (h7:q≤B7) (ho:kb[7]? = some v) (hp:p≤p0) (hn:h0.n0≤p) (hi:In v p0 q) (hs:n≤1000000) :
  ∀ k y g,LInv 9 h0 p q B7 c2 c5 [.u8] v n k y g→dC 148 (LInv 9 h0 p q B7 c2 c5 [.u8] v n) (LFin 2 h0 p q B7 c2 c5) k (t9l9_111111010 CW y g):=by
 rintro k y g ⟨i,hik,yt,L,cs,x⟩
 have f:=L.fld hb h7 ho x
 have low:=L.low hp hn hi
 unfold t9l9_111111010
 by_cases hin:i<n
 ·obtain ⟨b,o,bb,a1,a2,a3⟩:=x.elt low hin
  obtain ⟨_,⟨m,rfl,hm⟩,a2⟩:=a2 0 .u8 rfl
  obtain ⟨m',e',hm'⟩:=xor255 m hm
  obtain ⟨g',cs',a3,x3,k3⟩:=a3 0 .u8 (.int .u8 (m':Int)) rfl ⟨m',rfl,hm'⟩
  rw [Nat.add_zero] at a2 a3
  have a1:bW 1 v (aH i)=some (ptr b o):=a1
  simp -implicitDefEqProofs only [yt,L.y7,ah,ao,ar,Nat.zero_add,Nat.reduceAdd,eu,f,x.len,decide_eq_true hin,a1,a2,e',a3,add31 (show i+1≤9223372036854775807 by omega)]
  exact dC.next (k-1) (by omega) ⟨i+1,by omega,rfl,⟨L.wr hp hi bb k3,L.y2,L.y5,L.y7⟩,cs',x3⟩
 ·simp -implicitDefEqProofs only [yt,L.y7,ah,ao,ar,Nat.zero_add,Nat.reduceAdd,eu,f,x.len,decide_eq_false hin]
  exact dC.out 2 ⟨rfl,L.k,L.y2,L.y5,L.y7⟩
theorem b9_44_exit (C:av) (e:Env) (h:ai):b9_44 C 10 e h=k9_42 C e h:=rfl
theorem roundF {h0:ai} {p p0 q B7:Nat} {c2 c5 v:Value} {n:Nat} {kb:dt} (hb:h0.get B7=some kb) (h7:q≤B7) (ho:kb[114]? = some v) (hp:p≤p0) (hn:h0.n0≤p) (hi:In v p0 q) (hs:n≤1000000) :
  ∀ k y g,LInv 13 h0 p q B7 c2 c5 [.u8] v n k y g→dC 148 (LInv 13 h0 p q B7 c2 c5 [.u8] v n) (LFin 10 h0 p q B7 c2 c5) k (dZ CW y g):=by
 rintro k y g ⟨i,hik,yt,L,cs,x⟩
 have f:=L.fld hb h7 ho x
 have low:=L.low hp hn hi
 unfold dZ
 by_cases hin:i<n
 ·obtain ⟨b,o,bb,a1,a2,a3⟩:=x.elt low hin
  obtain ⟨_,⟨m,rfl,hm⟩,a2⟩:=a2 0 .u8 rfl
  obtain ⟨m',e',hm'⟩:=xor255 m hm
  obtain ⟨g',cs',a3,x3,k3⟩:=a3 0 .u8 (.int .u8 (m':Int)) rfl ⟨m',rfl,hm'⟩
  rw [Nat.add_zero] at a2 a3
  have a1:bW 1 v (aH i)=some (ptr b o):=a1
  simp -implicitDefEqProofs only [yt,L.y7,ah,ao,ar,Nat.zero_add,Nat.reduceAdd,eu,f,x.len,decide_eq_true hin,a1,a2,e',a3,add31 (show i+1≤9223372036854775807 by omega)]
  exact dC.next (k-1) (by omega) ⟨i+1,by omega,rfl,⟨L.wr hp hi bb k3,L.y2,L.y5,L.y7⟩,cs',x3⟩
 ·simp -implicitDefEqProofs only [yt,L.y7,ah,ao,ar,Nat.zero_add,Nat.reduceAdd,eu,f,x.len,decide_eq_false hin]
  exact dC.out 10 ⟨rfl,L.k,L.y2,L.y5,L.y7⟩
theorem loopF {h0 g:ai} {p p0 q B7:Nat} {c2 c5 v:Value} {n:Nat} {kb:dt} {cs:List Value} {y:Nat→Value} (hb:h0.get B7=some kb) (h7:q≤B7) (ho:kb[114]? = some v) (hp:p≤p0) (hpq:p0≤q) (hn:h0.n0≤p) (hi:In v p0 q) (hs:n≤1000000) (x:cO h0 [.u8] v n cs)
  (L:Lk h0 p p0 B7 c2 c5 y g) (hy:y 13=aH 0) {Q:Out→Prop} (cont : ∀ y g,Lk h0 p q B7 c2 c5 y g→Q (k9_42 CW (bu 148 y) g)) :
  Q (ep (iter (aI Tryz.prog CW (partOf Tryz.f9 [1,1,1,1,1,1,1,1,1,1,0,1,0,0])) rounds (bu 148 y) g) (ax Tryz.prog Tryz.f9.results.toList) (b9_44 CW)):=by
 have x':cO g [.u8] v n cs:=x.cD L.k (fun b bb e=>by
  have:=hi b bb
  omega)
 refine cC (cx (t9l9_1111111111010_eq CW) (roundF (c2:=c2) (c5:=c5) hb h7 ho hp hn hi hs) n (by have:rounds=18446744073709551616:=rfl;omega) ⟨0,Nat.zero_add _,hy,L.mono hpq,cs,x'⟩) ?_
 rintro ex z g ⟨rfl,L⟩
 rw [bJ,b9_44_exit]
 exact cont z g L
end Go.Proofs.YtjghlcdidopcpaaGreatDoor

namespace Go.Proofs.YtjghlcdidopcpaaGreatDoor
open Go Go.Abs
attribute [local congr] bp
theorem one_new (h:ai) {Z k:dt} (hz:Z.length=116) (hk:k.length=116) (ho:aS k=true) : ∃ h2,cA 116 (ptr h.next 0) (.agg k.toArray) (h.alloc Z)=some (undef,h2)∧Old h h2∧h2.get h.next=some k∧h2.next=h.next+1:=by
 have g:(h.alloc Z).get h.next=some Z:=by rw [ai.aO,if_pos rfl]
 have o:Old h (h.alloc Z):=Kept.alloc _ _ _
 have hn:(h.alloc Z).n0≤h.next:=by rw [o.n0];exact h.aQ
 have k1:Kept (h.alloc Z) ((h.alloc Z).set h.next k) (· = h.next):=Kept.set hn g (.inr rfl)
 exact ⟨_,stN_whole g hn hz hk ho,o.dr k1 (fun d hd e=>by omega),ai.bT hn g _,rfl⟩
theorem SlV.lt {h:ai} {s:dy} {n:N6} {M:bI} (x:SlV h s n M) {p:Nat} (hp:h.next≤p):s.off (fun b=>p≤b):=by
 rintro v (rfl|rfl|rfl|rfl|rfl|rfl) y hy hb
 ·have:=x.a.lt hy;omega
 ·have:=x.b.lt hy;omega
 ·have:=x.c.lt hy;omega
 ·have:=x.d.lt hy;omega
 ·have:=x.e.lt hy;omega
 ·have:=x.f.lt hy;omega
theorem Lk.set {h0:ai} {p q B7:Nat} {c2 c5:Value} {y:Nat→Value} {g:ai} (x:Lk h0 p q B7 c2 c5 y g) (t:Nat) (v:Value) (e2:Nat.beq t 2=false) (e5:Nat.beq t 5=false) (e7:Nat.beq t 7=false):Lk h0 p q B7 c2 c5 (up y [(t,v)]) g:=
 ⟨x.k,by rw [up_other _ _ _ _ _ e2];exact x.y2,by rw [up_other _ _ _ _ _ e5];exact x.y5,by rw [up_other _ _ _ _ _ e7];exact x.y7⟩
section
variable {h:ai} {s s':dy} {n n':N6} {M M':bI} (hG:4≤h.n0) (x:SlV h s n M) (x':SlV h s' n' M') (ok:M.Ok) (ok':M'.Ok)
include hG x x' ok ok'
end
end Go.Proofs.YtjghlcdidopcpaaGreatDoor

