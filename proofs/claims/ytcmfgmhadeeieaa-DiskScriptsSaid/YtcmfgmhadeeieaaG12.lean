/-
  A part of the proof, spaces and names shortened by a program (a claim may hold 1,500,000 bytes).
  Conditions: as each theorem states.
-/
import Derived.Test.YtcmfgmhadeeieaaG11
namespace Go.Proofs.Ytcmfgmhadeeieaa
open Go Go.Abs
theorem is61:ch Try.prog 61 Try.f61:=⟨by kernel_rfl,by kernel_rfl,by kernel_rfl,by kernel_rfl⟩
theorem is62:ch Try.prog 62 Try.f62:=⟨by kernel_rfl,by kernel_rfl,by kernel_rfl,by kernel_rfl⟩
theorem is63:ch Try.prog 63 Try.f63:=⟨by kernel_rfl,by kernel_rfl,by kernel_rfl,by kernel_rfl⟩
theorem is91:ch Try.prog 91 Try.f91:=⟨by kernel_rfl,by kernel_rfl,by kernel_rfl,by kernel_rfl⟩
theorem is92:ch Try.prog 92 Try.f92:=⟨by kernel_rfl,by kernel_rfl,by kernel_rfl,by kernel_rfl⟩
theorem is94:ch Try.prog 94 Try.f94:=⟨by kernel_rfl,by kernel_rfl,by kernel_rfl,by kernel_rfl⟩
theorem is64:ch Try.prog 64 Try.f64:=⟨by kernel_rfl,by kernel_rfl,by kernel_rfl,by kernel_rfl⟩
section
variable {h:af} {N w lim:Nat} {l:List Nat} (W:IsW h N w lim l)
include W
theorem r61 {v:Nat} (hfit:l.length+4≤lim) (hv:v<4294967296) : ∃ h',CD 61 [ptr w 0,.int .u32 v] h=some (.tuple #[],h')∧IsW h' N w lim (l++fP 4 v)∧Abv N h h':=by
 obtain ⟨h1,e1,e2,e3⟩:=r93 W (v:=v) (n:=4) (by decide) (by decide) hfit (by omega)
 have e1:CD 93 [ptr w 0,.int .u64 v,.int .i64 4] h=_:=e1
 have hw:IntKind.wrap .u64 (v:Int)=(v:Int):=eE (by omega) (by omega)
 refine ⟨h1,aK is61 rfl ((t61_eq _ _ _ _).trans ?_),e2,e3⟩
 unfold t61
 simp -implicitDefEqProofs only [ae,df,hw,e1]
theorem r62 {v:Nat} (hfit:l.length+8≤lim) (hv:v<18446744073709551616) : ∃ h',CD 62 [ptr w 0,.int .u64 v] h=some (.tuple #[],h')∧IsW h' N w lim (l++fP 8 v)∧Abv N h h':=by
 obtain ⟨h1,e1,e2,e3⟩:=r93 W (v:=v) (n:=8) (by decide) (by decide) hfit (by omega)
 have e1:CD 93 [ptr w 0,.int .u64 v,.int .i64 8] h=_:=e1
 refine ⟨h1,aK is62 rfl ((t62_eq _ _ _ _).trans ?_),e2,e3⟩
 unfold t62
 simp -implicitDefEqProofs only [ae,e1]
theorem r63 {v:Nat} (hfit:l.length+1≤lim) (hv:v<256) : ∃ h',CD 63 [ptr w 0,.int .u8 v] h=some (.tuple #[],h')∧IsW h' N w lim (l++fP 1 v)∧Abv N h h':=by
 obtain ⟨h1,e1,e2,e3⟩:=r93 W (v:=v) (n:=1) (by decide) (by decide) hfit (by omega)
 have e1:CD 93 [ptr w 0,.int .u64 v,.int .i64 1] h=_:=e1
 have hw:IntKind.wrap .u64 (v:Int)=(v:Int):=eE (by omega) (by omega)
 refine ⟨h1,aK is63 rfl ((t63_eq _ _ _ _).trans ?_),e2,e3⟩
 unfold t63
 simp -implicitDefEqProofs only [ae,df,hw,e1]
theorem r91 {v:Nat} (hfit:l.length+2≤lim) (hv:v<65536) : ∃ h',CD 91 [ptr w 0,.int .u16 v] h=some (.tuple #[],h')∧IsW h' N w lim (l++fP 2 v)∧Abv N h h':=by
 obtain ⟨h1,e1,e2,e3⟩:=r93 W (v:=v) (n:=2) (by decide) (by decide) hfit (by omega)
 have e1:CD 93 [ptr w 0,.int .u64 v,.int .i64 2] h=_:=e1
 have hw:IntKind.wrap .u64 (v:Int)=(v:Int):=eE (by omega) (by omega)
 refine ⟨h1,aK is91 rfl ((t91_eq _ _ _ _).trans ?_),e2,e3⟩
 unfold t91
 simp -implicitDefEqProofs only [ae,df,hw,e1]
theorem IsW.l2' {k:dV} {v:Value} (e:aV (ptr w 2) (h.alloc k)=some (v,h.alloc k)):aV (ptr w 2) h=some (v,h):=by
 obtain ⟨vv,q1,q2,q3⟩:=W.ex
 have e1:aV (ptr w 2) h=some (vv,h):=aJ q1 rfl (q2.cell.2.2)
 have e2:aV (ptr w 2) (h.alloc k)=some (vv,h.alloc k):=aJ (af.cM q1 _) rfl (q2.cell.2.2)
 rw [e2] at e
 simp only [Option.some.injEq,Prod.mk.injEq,and_true] at e
 rw [←e];exact e1
theorem r92 {a:Option Addr} {n c:Nat} {m:List Nat} (hm:av a n h=some m) (ha : ∀ y,a=some y→0<n→y.block<N) (hfit:l.length+(n+2)≤lim) (hn:n<65536) :
  ∃ h',CD 92 [ptr w 0,.slice a n c] h=some (.tuple #[],h')∧IsW h' N w lim (l++fP 2 n++m)∧Abv N h h':=by
 obtain ⟨h1,e1,W1,k1⟩:=r109 W (n:=n+2) hfit
 have hsm:=W.small
 have c1:(65535:Int)=((65535:Nat):Int):=rfl
 have hgt:bin Try.prog .gtr 3 (ao n) (.int .i64 65535)=some (.bool false):=by
  have:=gtr3 n 65535
  rw [decide_eq_false (by omega)] at this
  exact this
 have hadd:bin Try.prog .add 3 (ao n) (.int .i64 2)=some (ao (n+2)):=gW (b:=2) (by omega)
 have hsh:bin Try.prog .shr 3 (ao n) (.int .u64 8)=some (ao (n/256)):=fo Try.prog 3 (k := .i64) (k' := .u64) (a:=n) (b:=8) (by decide)
 have hw1:IntKind.wrap .u8 ((n/256:Nat):Int)=((n/256:Nat):Int):=wrap_u8 (by omega) (by omega)
 have hw2:IntKind.wrap .u8 ((n:Nat):Int)=((n%256:Nat):Int):=by rw [wrap_u8_mod];omega
 have hbs:dY 1 (.int .u8 0) 2 [(0,u8 (n/256)),(1,u8 (n%256))] h1=some (.slice (some ⟨h1.next,0,none⟩) 2 2,h1.alloc ([n/256,n%256].map u8)):=rfl
 have hb2:av (some ⟨h1.next,0,none⟩) 2 (h1.alloc ([n/256,n%256].map u8))=some [n/256,n%256]:=by
  have:=cH (h:=h1.alloc ([n/256,n%256].map u8)) (b:=h1.next) (off:=0) (n:=2) (s:=none) (l := [n/256,n%256]) (by rw [af.aD,if_pos rfl]) (by simp) (by
   intro x hx
   simp only [List.mem_cons,List.not_mem_nil,or_false] at hx
   rcases hx with rfl|rfl<;>omega)
  rw [this];rfl
 obtain ⟨v1,v2,g1,g2,f1,f2,f3,f4,f5⟩:=w_append (c:=2) (W1.alloc ([n/256,n%256].map u8)) hb2 (by omega)
 have hl2:=W1.l2' f1
 have k2:Abv N h g2:=(k1.trans (Kept.alloc h1 _ _)).trans f5
 have hm2:av a n g2=some m:=k2.bytes hm (fun y hy hn2=>by have:=ha y hy hn2;omega)
 obtain ⟨v3,v4,g3,g4,p1,p2,p3,p4,p5⟩:=w_append (c:=c) f4 hm2 (by simp only [List.length_append,List.length_cons,List.length_nil];omega)
 have hbe:fP 2 n = [n/256,n%256]:=by
  simp only [fP,Nat.pow_one,Nat.pow_zero,Nat.div_one]
  rw [Nat.mod_eq_of_lt (show n/256<256 by omega)]
 refine ⟨g4,aK is92 rfl ((t92_eq _ _ _ _).trans ?_),by rw [hbe];exact p4,k2.trans p5⟩
 unfold t92
 simp -implicitDefEqProofs only [ae,eql110,aj,bO]
 rw [show (Value.int .i64 (n:Int))=ao n from rfl]
 simp -implicitDefEqProofs only [hgt,hadd,aj,ae,e1,aH,ax,Nat.zero_add,hl2,hsh]
 simp -implicitDefEqProofs only [ao,df,hw1,hw2,ae]
 rw [show (Value.int .u8 ((n/256:Nat):Int))=u8 (n/256) from rfl,show (Value.int .u8 ((n%256:Nat):Int))=u8 (n%256) from rfl,hbs]
 simp -implicitDefEqProofs only [ae,f2,aj,aH,ax,Nat.zero_add,f3,p1,p2,p3]
theorem r94 (hl:l.length≤21000) : ∃ a c h',CD 94 [ptr w 0] h=some (.tuple #[.slice a l.length c,.int .i64 0],h')∧av a l.length h'=some l∧cU a l.length c=true∧Old h h'∧(∀ y,a=some y→h.next≤y.block):=by
 obtain ⟨v,h1,h2,h3⟩:=W.ex
 obtain ⟨a,c,hv,h4,h5,h6,h7⟩:=h2.bytes
 obtain ⟨a',c',h',e1,e2,e3,e4,e5,_⟩:=r107 (c:=c) h4 hl
 have l1:aV (ptr w 1) h=some (.bool false,h):=aJ h1 rfl
 have l2:aV (ptr w 2) h=some (.slice a l.length c,h):=by rw [←hv];exact aJ h1 rfl (h2.cell.2.2)
 refine ⟨a',c',h',aK is94 rfl ((t94_eq _ _ _).trans ?_),e2,e3,e4,e5⟩
 unfold t94
 simp -implicitDefEqProofs only [ae,eql110,aj,aH,ax,Nat.zero_add,l1,l2,e1]
end
def ic (l:List Nat):List Nat:=fP 4 (crcN (l++List.replicate (124-l.length) 0))++(l++List.replicate (124-l.length) 0)
theorem sealB_length {l:List Nat} (hl:l.length≤124):(ic l).length=128:=by
 simp only [ic,List.length_append,bp,List.length_replicate];omega
theorem sealB_byte {l:List Nat} (hb : ∀ x∈l,x<256) : ∀ x∈ic l,x<256:=by
 intro x hx
 simp only [ic,List.mem_append] at hx
 rcases hx with hx|hx|hx
 ·exact beB_byte _ _ x hx
 ·exact hb x hx
 ·rw [List.eq_of_mem_replicate hx];decide
theorem crcN_lt {l:List Nat} (hb : ∀ x∈l,x<256):crcN l<4294967296:=by
 unfold crcN
 exact Nat.xor_lt_two_pow (n:=32) (by decide) (crcFold_lt l 4294967295 (by decide) hb)
theorem r64 {h:af} {N w lim:Nat} {l:List Nat} (W:IsW h N w lim l) (hl:l.length≤124) :
  ∃ B h',CD 64 [ptr w 0] h=some (.slice (some ⟨B,0,none⟩) 128 128,h')∧av (some ⟨B,0,none⟩) 128 h'=some (ic l)∧Old h h'∧h.next≤B:=by
 obtain ⟨a,c,h1,e1,e2,e3,e4,e5⟩:=r94 W (by omega)
 have hb:=(aB e2).2.1
 have hmk:=mk1 (h:=h1) (n:=128) (c:=128) (Nat.le_refl _) (by decide)
 have hg2:(h1.alloc ((List.replicate 128 0).map u8)).get h1.next=some ((List.replicate 128 0).map u8):=by rw [af.aD,if_pos rfl]
 have n02:(h1.alloc ((List.replicate 128 0).map u8)).n0≤h1.next:=h1.aF
 have kA:Old h1 (h1.alloc ((List.replicate 128 0).map u8)):=Kept.alloc _ _ _
 have s2:=Old.bytes kA e2
 have oA:Old h (h1.alloc ((List.replicate 128 0).map u8)):=e4.trans kA
 generalize hB:h1.next=B at *
 generalize hh2:h1.alloc ((List.replicate 128 0).map u8)=h2 at *
 have hB2:h.next≤B:=by rw [←hB];exact e4.next
 have hmin:min l.length 124=l.length:=by omega
 obtain ⟨h3,q1,q2,q3,q4,q5⟩:=copy_bytes (b:=B) (off:=4) (dl:=124) (dc:=124) (s:=none) (c:=c) hg2 n02 s2 (by simp;omega)
 generalize hR:l++List.replicate (124-l.length) 0=R at *
 have hRl:R.length=124:=by rw [←hR];simp;omega
 have hRb : ∀ x∈R,x<256:=by
  intro x hx
  rw [←hR] at hx
  rcases List.mem_append.1 hx with hx|hx
  ·exact hb x hx
  ·rw [List.eq_of_mem_replicate hx];decide
 have hsp:cJ (List.replicate 128 0) 4 (l.take (min l.length 124))=0::0::0::0::R:=by
  rw [hmin,List.take_length]
  unfold cJ
  rw [←hR,List.take_replicate,List.drop_replicate]
  show List.replicate 4 0++l++List.replicate (128-(4+l.length)) 0 = [0,0,0,0]++(l++List.replicate (124-l.length) 0)
  rw [List.append_assoc,show 128-(4+l.length)=124-l.length by omega];rfl
 rw [hsp] at q4
 have hs3:av (some ⟨B,4,none⟩) 124 h3=some R:=by
  have:=cH (off:=4) (n:=124) (s:=none) q4 (by simp [hRl]) (by
   intro x hx
   simp only [List.mem_cons] at hx
   rcases hx with rfl|rfl|rfl|rfl|hx
   ·decide
   ·decide
   ·decide
   ·decide
   ·exact hRb x hx)
  rw [this]
  exact congrArg some (List.take_of_length_le (by show R.length≤124;omega))
 have hcrc:CD 95 [.slice (some ⟨B,4,none⟩) 124 124] h3=some (u32 (crcN R),h3):=by
  refine dP ?_
  rw [X95]
  unfold s95
  simp only [hs3]
  rfl
 have hcl:=crcN_lt hRb
 have hseal:ic l=fP 4 (crcN R)++R:=by unfold ic;rw [hR]
 generalize hC:crcN R=cr at *
 have n03:h3.n0≤B:=by rw [q2];exact n02
 have p0:=st_byte (v:=cr/16777216%256) (o:=0) q4 (by simp) n03
 have g0:=af.a9 n03 q4 (((0::0::0::0::R).set 0 (cr/16777216%256)).map u8)
 generalize hh4:h3.set B (((0::0::0::0::R).set 0 (cr/16777216%256)).map u8)=h4 at *
 have n04:h4.n0≤B:=by rw [←hh4];exact n03
 have p1:=st_byte (v:=cr/65536%256) (o:=1) g0 (by simp) n04
 have g1:=af.a9 n04 g0 ((((0::0::0::0::R).set 0 (cr/16777216%256)).set 1 (cr/65536%256)).map u8)
 generalize hh5:h4.set B ((((0::0::0::0::R).set 0 (cr/16777216%256)).set 1 (cr/65536%256)).map u8)=h5 at *
 have n05:h5.n0≤B:=by rw [←hh5];exact n04
 have p2:=st_byte (v:=cr/256%256) (o:=2) g1 (by simp) n05
 have g2:=af.a9 n05 g1 (((((0::0::0::0::R).set 0 (cr/16777216%256)).set 1 (cr/65536%256)).set 2 (cr/256%256)).map u8)
 generalize hh6:h5.set B (((((0::0::0::0::R).set 0 (cr/16777216%256)).set 1 (cr/65536%256)).set 2 (cr/256%256)).map u8)=h6 at *
 have n06:h6.n0≤B:=by rw [←hh6];exact n05
 have p3:=st_byte (v:=cr%256) (o:=3) g2 (by simp) n06
 have g3:=af.a9 n06 g2 ((((((0::0::0::0::R).set 0 (cr/16777216%256)).set 1 (cr/65536%256)).set 2 (cr/256%256)).set 3 (cr%256)).map u8)
 have hfin:((((0::0::0::0::R).set 0 (cr/16777216%256)).set 1 (cr/65536%256)).set 2 (cr/256%256)).set 3 (cr%256)=ic l:=by
  rw [hseal]
  simp only [fP,Nat.pow_zero,Nat.div_one]
  rfl
 rw [hfin] at p3 g3
 have hslb:=sealB_byte hb
 have hsll:=sealB_length hl
 generalize hh7:h6.set B ((ic l).map u8)=h7 at *
 refine ⟨B,h7,aK is64 rfl ((t64_eq _ _ _).trans ?_),?_,?_,hB2⟩
 ·have hx0 : ∀ a b:Value,aA (.tuple #[a,b]) 0=some a:=fun _ _=>rfl
  have hx1 : ∀ a b:Value,aA (.tuple #[a,b]) 1=some b:=fun _ _=>rfl
  have hmk':mkR 1 1 (.int .u8 0) (.int .i64 128) (.int .i64 128) h1=_:=hmk
  have hsl:slR 1 (.slice (some ⟨B,0,none⟩) 128 128) (some (.int .i64 4)) none none=some (.slice (some ⟨B,4,none⟩) 124 124):=rfl
  have s24:bin Try.prog .shr 113 (u32 cr) (.int .u64 24)=some (u32 (cr/16777216)):=fo Try.prog 113 (k := .u32) (k' := .u64) (a:=cr) (b:=24) (by decide)
  have s16:bin Try.prog .shr 113 (u32 cr) (.int .u64 16)=some (u32 (cr/65536)):=fo Try.prog 113 (k := .u32) (k' := .u64) (a:=cr) (b:=16) (by decide)
  have s8:bin Try.prog .shr 113 (u32 cr) (.int .u64 8)=some (u32 (cr/256)):=fo Try.prog 113 (k := .u32) (k' := .u64) (a:=cr) (b:=8) (by decide)
  have cv : ∀ (z:Nat) (g:af),cvI .u8 (u32 z) g=some (u8 (z%256),g):=by
   intro z g
   rw [show u32 z=Value.int .u32 (z:Int) from rfl,df,wrap_u8_mod,show u8 (z%256)=Value.int .u8 ((z%256:Nat):Int) from rfl]
   exact congrArg (fun q=>some (Value.int .u8 q,g)) (by omega)
  have i0:bV 1 (.slice (some ⟨B,0,none⟩) 128 128) (.int .i64 0)=some (ptr B 0):=rfl
  have i1:bV 1 (.slice (some ⟨B,0,none⟩) 128 128) (.int .i64 1)=some (ptr B 1):=rfl
  have i2:bV 1 (.slice (some ⟨B,0,none⟩) 128 128) (.int .i64 2)=some (ptr B 2):=rfl
  have i3:bV 1 (.slice (some ⟨B,0,none⟩) 128 128) (.int .i64 3)=some (ptr B 3):=rfl
  unfold t64
  simp -implicitDefEqProofs only [ae,e1,hx0,hx1,aj,hmk',hsl,q1,hcrc,s24,s16,s8,cv,i0,i1,i2,i3,p0,p1,p2,p3]
 ·rw [cH (off:=0) (n:=128) (s:=none) g3 (by omega) hslb,List.drop_zero,List.take_of_length_le (by omega)]
 ·refine ⟨?_,?_,?_⟩
  ·rw [←hh7,←hh6,←hh5,←hh4];exact q2.trans oA.n0
  ·rw [←hh7,←hh6,←hh5,←hh4];show h.next≤h3.next;rw [q3];exact oA.next
  ·intro e he _
   have hne:e≠B:=by omega
   have l3:B<h3.next:=h3.aS q4
   have l4:B<h4.next:=h4.aS g0
   have l5:B<h5.next:=h5.aS g1
   have l6:B<h6.next:=h6.aS g2
   rw [←hh7,af.bm n06 l6 _ hne,←hh6,af.bm n05 l5 _ hne,←hh5,af.bm n04 l4 _ hne,←hh4,af.bm n03 l3 _ hne,q5 e hne]
   exact Kept.get oA e he (fun h=>h)
end Go.Proofs.Ytcmfgmhadeeieaa

namespace Go.Proofs.Ytcmfgmhadeeieaa
open Go Go.Abs
def a8 (n:Nat):Nat:=if n≤106 then 1 else (n-1)/106+1
theorem cost_nat (n:Nat):cost (n:Int)=(a8 n:Nat):=by
 unfold cost a8
 by_cases h:n≤106
 ·rw [if_pos (by omega),if_pos h];rfl
 ·rw [if_neg (by omega),if_neg h];omega
theorem costN_pos (n:Nat):1≤a8 n:=by unfold a8;split<;>omega
theorem fC {n:Nat} (h:n≤21000):a8 n≤199:=by unfold a8;split<;>omega
theorem costN_room (n:Nat):n≤106*a8 n:=by unfold a8;split<;>omega
theorem costN_tight {n i:Nat} (h:i<a8 n):106*i≤n:=by unfold a8 at h;split at h<;>omega
def fK (gen at_ part parts:Nat) (data:List Nat):List Nat:=fP 8 gen++fP 4 at_++fP 2 part++fP 2 parts++fP 2 data.length++data
def di (gen at_ part parts:Nat) (data:List Nat):List Nat:=ic (fK gen at_ part parts data)
theorem logBody_length (gen at_ part parts:Nat) (data:List Nat):(fK gen at_ part parts data).length=18+data.length:=by
 simp only [fK,List.length_append,bp]
def chunk (rec_:List Nat) (i:Nat):List Nat:=(rec_.drop (106*i)).take 106
theorem chunk_length (rec_:List Nat) (i:Nat):(chunk rec_ i).length≤106:=List.length_take_le ..
def Dk.wr (aq gen at_ parts:Nat) (rec_:List Nat):Nat→Nat→Dk→Int×Dk
 | 0,_,D=>(0,D)
 |k+1,i,D=>
  if (D.write ((2+aq*D.ar+at_+i:Nat):Int) (di gen (at_+i) i parts (chunk rec_ i))).1=0 then Dk.wr aq gen at_ parts rec_ k (i+1) (D.write ((2+aq*D.ar+at_+i:Nat):Int) (di gen (at_+i) i parts (chunk rec_ i))).2
  else D.write ((2+aq*D.ar+at_+i:Nat):Int) (di gen (at_+i) i parts (chunk rec_ i))
def Dk.cd (D:Dk) (aq gen at_:Nat) (rec_:List Nat):Int×Dk:=Dk.wr aq gen at_ (a8 rec_.length) rec_ (a8 rec_.length) 0 D
theorem dk_plain {h:af} {d:Nat} {D:Dk} (x:aX h d D):ei h d:=⟨_,x.gQ,by
 intro v hv
 simp only [Dk.gQ,List.mem_cons,List.not_mem_nil,or_false] at hv
 rcases hv with rfl|rfl|rfl|rfl|rfl|rfl<;>rfl⟩
theorem cC.ne_d {h:af} {j d d':Nat} {J:Jn} {D:Dk} (xj:cC h j d J) (x:aX h d' D):j≠d':=by
 rintro rfl
 have:=xj.get.symm.trans x.gQ
 have:=congrArg List.length (Option.some.inj this)
 simp [Jn.cells,Dk.gQ] at this
theorem cC.ne_bb {h:af} {j d d':Nat} {J:Jn} {D:Dk} (xj:cC h j d J) (x:aX h d' D):j≠D.bb:=by
 intro he
 have h1:=xj.get
 rw [he,x.aU] at h1
 have h2:=Option.some.inj h1
 cases hi:D.aU with
 |nil=>rw [hi] at h2;simp [Jn.cells] at h2
 |cons a l=>rw [hi] at h2;simp [Jn.cells,ptr] at h2
abbrev cq (d bb:Nat) (h h':af):Prop:=Kept h h' (fun c=>c=d∨c=bb)
theorem putDk_only {h:af} {d:Nat} {D E:Dk} (x:aX h d D) (hb:E.bb=D.bb):cq d D.bb h (cV h d E):=
 ⟨rfl,Nat.le_refl _,fun c _ hc=>by rw [gC x hb,if_neg (fun e=>hc (.inr (e.trans hb))),if_neg (fun e=>hc (.inl e))]⟩
theorem X19:XX 19=s19:=rfl
theorem X15:XX 15=sCost:=rfl
theorem r19 {h:af} {d:Nat} {D:Dk} (x:aX h d D) (i:Int) {a:Option Addr} {n c:Nat} {l:List Nat} (hl:av a n h=some l) (hg:cU a n c=true) :
  CD 19 [ptr d 0,.int .i64 i,.slice a n c] h=some (.int .i64 (D.write i l).1,cV h d (D.write i l).2)∧aX (cV h d (D.write i l).2) d (D.write i l).2∧(D.write i l).2.bb=D.bb∧(D.write i l).2.n=D.n∧cq d D.bb h (cV h d (D.write i l).2):=by
 have o:=Dk.write_okd x i (aB hl).2.1
 exact ⟨dP (by rw [X19];exact s19_at x i hl hg),x.put o,o.bb,o.n,putDk_only x o.bb⟩
theorem r15 (n:Nat) (h:af) (hn:n≤100000000):CD 15 [ao n] h=some (ao (a8 n),h):=by
 refine dP ?_
 rw [X15,show ao n=Value.int .i64 (n:Int) from rfl]
 unfold sCost
 have:fq (n:Int)=true:=by unfold fq;simp only [Bool.and_eq_true,decide_eq_true_eq];omega
 simp only [this,if_true,cost_nat]
section
variable {h0:af} {d j:Nat} {D:Dk} {J:Jn} {aq gen at_ n c:Nat} {a:Option Addr} {rec_:List Nat} (x:aX h0 d D) (xj:cC h0 j d J) (h2:2≤D.n) (ha:aq≤1) (hg:gen<18446744073709551616) (hat:at_≤10000)
 (hs:av a n h0=some rec_) (hgd:cU a n c=true) (hn:n≤21000) (hab : ∀ y,a=some y→0<n→y.block≠D.bb)
include x xj h2 ha hg hat hs hgd hn hab
def wrInv (h0:af) (d j:Nat) (D:Dk) (aq gen at_ n c:Nat) (a:Option Addr) (rec_:List Nat) (k:Nat) (y:Nat→Value) (g:af):Prop:=
 ∃ i E,y 0=ptr j 0∧y 1=ao aq∧y 2 = .int .u64 gen∧y 3=ao at_∧y 4 = .slice a n c∧y 11=ao (a8 n)∧y 19=ao (a8 n)∧y 20=ao i∧i+k=a8 n∧aX g d E∧E.bb=D.bb∧E.n=D.n∧cq d D.bb h0 g ∧
   Dk.wr aq gen at_ (a8 n) rec_ k i E=D.cd aq gen at_ rec_
def wrFin (h0:af) (d:Nat) (D:Dk) (aq gen at_:Nat) (rec_:List Nat) (ex:Ex) (y:Nat→Value) (g:af):Prop:=
 aX g d (D.cd aq gen at_ rec_).2∧(D.cd aq gen at_ rec_).2.bb=D.bb∧(D.cd aq gen at_ rec_).2.n=D.n∧cq d D.bb h0 g ∧
  ((ex = .exit 0∧(D.cd aq gen at_ rec_).1=0)∨(ex = .ret∧y 10 = .int .i64 (D.cd aq gen at_ rec_).1))
theorem wr_round : ∀ k y g,wrInv h0 d j D aq gen at_ n c a rec_ k y g→c8 77 (wrInv h0 d j D aq gen at_ n c a rec_) (wrFin h0 d D aq gen at_ rec_) k (t59l59_11010 CD y g):=by
 rintro k y g ⟨i,E,i0,i1,i2,i3,i4,i11,i19,i20,hik,xg,hEb,hEn,hk,hw⟩
 have hrl:=(aB hs).1
 have hcl:=fC hn
 have hsm:=x.small
 have hEar:E.ar=D.ar:=by unfold Dk.ar;rw [hEn]
 have har:D.ar=(D.n-2)/2:=rfl
 have hma:aq*D.ar≤D.ar:=by
  have:=Nat.mul_le_mul_right D.ar ha
  omega
 have jg:cC g j d J:=xj.aG hk (fun h=>h.elim (xj.ne_d x) (xj.ne_bb x))
 unfold t59l59_11010
 simp -implicitDefEqProofs only [i19,i20,gH,aj,ae]
 by_cases hz:k=0
 ·subst hz
  have hii:i=a8 n:=by omega
  simp -implicitDefEqProofs only [decide_eq_false (show ¬i<a8 n by omega)]
  have he:D.cd aq gen at_ rec_=(0,E):=hw.symm
  refine c8.out 0 ⟨?_,?_,?_,hk,.inl ⟨rfl,?_⟩⟩
  ·rw [he];exact xg
  ·rw [he];exact hEb
  ·rw [he];exact hEn
  ·rw [he]
 ·obtain ⟨q,rfl⟩ : ∃ q,k=q+1:=⟨k-1,by omega⟩
  have hlt:i<a8 n:=by omega
  have htight:=costN_tight hlt
  have hsg:av a n g=some rec_:=by
   refine hk.bytes hs (fun y hy hn2 hb => ?_)
   rcases hb with hb|hb
   ·obtain ⟨kk,e1,e2⟩:=dk_plain x
    exact bytes_apart hs e1 e2 y hy hn2 hb
   ·exact hab y hy hn2 hb
  have hm1:bin Try.prog .mul 3 (ao i) (.int .i64 106)=some (ao (i*106)):=mul3 (b:=106) (by omega)
  have hm2:bin Try.prog .mul 3 (ao (i+1)) (.int .i64 106)=some (ao ((i+1)*106)):=mul3 (b:=106) (by omega)
  have hmn:dC false (.int .i64 (n:Int)) [ao ((i+1)*106)]=some (ao (min n ((i+1)*106))):=by
   simp only [dC,ao,if_true,Bool.false_eq_true,if_false]
   by_cases hc:(((i+1)*106:Nat):Int)<(n:Int)
   ·rw [if_pos (by simpa using hc),Nat.min_eq_right (by omega)]
   ·rw [if_neg (by simpa using hc),Nat.min_eq_left (by omega)]
  obtain ⟨a1,c1,s1,s2,s3⟩:=eQ (vl:=some (ao (i*106))) (vh:=some (ao (min n ((i+1)*106)))) (lo:=i*106) (hi:=min n ((i+1)*106)) hgd hsg (by omega) (by omega)
   (by simp only [cp,ao];rw [if_pos (by have:=iC hgd;omega),Int.toNat_natCast]) (by simp only [cp,ao];rw [if_pos (by omega),Int.toNat_natCast])
  have hch:(rec_.drop (i*106)).take (min n ((i+1)*106)-i*106)=chunk rec_ i:=by
   unfold chunk
   rw [Nat.mul_comm 106 i]
   by_cases hc:n≤(i+1)*106
   ·rw [Nat.min_eq_left hc,List.take_of_length_le (by simp;omega),List.take_of_length_le (by simp;omega)]
   ·rw [Nat.min_eq_right (by omega),show (i+1)*106-i*106=106 by omega]
  rw [hch] at s2
  have hcn:=(aB s2).1
  have hc106:=chunk_length rec_ i
  generalize hcm:min n ((i+1)*106)-i*106=m at *
  have ha1 : ∀ y,a1=some y→0<m→y.block<g.next:=by
   intro y hy hm
   subst hy
   obtain ⟨b',o',s',e,hb⟩:=er s2 hm
   cases e;exact hb
  obtain ⟨g1,e1,W1,k1⟩:=r60 g (lim:=124) (by decide)
  have e1:CD 60 [.int .i64 124] g=_:=e1
  obtain ⟨g2,e2,W2,k2⟩:=r62 W1 (v:=gen) (by simp) hg
  obtain ⟨g3,e3,W3,k3⟩:=r61 W2 (v:=at_+i) (by simp [bp]) (by omega)
  obtain ⟨g4,e4,W4,k4⟩:=r91 W3 (v:=i) (by simp [bp]) (by omega)
  obtain ⟨g5,e5,W5,k5⟩:=r91 W4 (v:=a8 n) (by simp [bp]) (by omega)
  have k15:Abv g.next g g5:=(((k1.trans k2).trans k3).trans k4).trans k5
  have sm5:av a1 m g5=some (chunk rec_ i):=k15.bytes s2 (fun y hy hm=>by have:=ha1 y hy hm;omega)
  obtain ⟨g6,e6,W6,k6⟩:=r92 W5 (c:=c1) sm5 ha1 (by simp [bp];omega) (by omega)
  have k16:Abv g.next g g6:=k15.trans k6
  have hbody : []++fP 8 gen++fP 4 (at_+i)++fP 2 i++fP 2 (a8 n)++fP 2 m++chunk rec_ i=fK gen (at_+i) i (a8 n) (chunk rec_ i):=by
   unfold fK
   rw [hcn,List.nil_append]
  rw [hbody] at W6
  have hd6:aX g6 d E:=k16.dk xg (by have:=xg.lt;omega) (by have:=xg.blt;omega)
  have hj6:cC g6 j d J:=jg.aG k16 (by have:=jg.lt;omega)
  obtain ⟨B,g7,e7,s7,k7,hB⟩:=r64 W6 (by rw [logBody_length];omega)
  have hd7:aX g7 d E:=Old.dk k7 hd6
  have hj7:cC g7 j d J:=hj6.aG k7 (fun h=>h)
  have hidx:=hEar
  obtain ⟨e8,x8,b8,n8,k8⟩:=r19 hd7 ((2+aq*E.ar+at_+i:Nat):Int) (c:=128) s7 rfl
  have e8:CD 19 [ptr d 0,ao (2+aq*E.ar+at_+i),.slice (some ⟨B,0,none⟩) 128 128] g7=_:=e8
  have hlb:ic (fK gen (at_+i) i (a8 n) (chunk rec_ i))=di gen (at_+i) i (a8 n) (chunk rec_ i):=rfl
  rw [hlb] at e8 x8 b8 n8 k8
  have hw2:Dk.wr aq gen at_ (a8 n) rec_ (q+1) i E=if (E.write ((2+aq*E.ar+at_+i:Nat):Int) (di gen (at_+i) i (a8 n) (chunk rec_ i))).1=0 then Dk.wr aq gen at_ (a8 n) rec_ q (i+1) (E.write ((2+aq*E.ar+at_+i:Nat):Int) (di gen (at_+i) i (a8 n) (chunk rec_ i))).2 else E.write ((2+aq*E.ar+at_+i:Nat):Int) (di gen (at_+i) i (a8 n) (chunk rec_ i)):=rfl
  rw [hw2] at hw
  rw [hEb] at b8 k8
  have kall:cq d D.bb h0 (cV g7 d (E.write ((2+aq*E.ar+at_+i:Nat):Int) (di gen (at_+i) i (a8 n) (chunk rec_ i))).2):=
   ((hk.bM k16 (fun c hc h=>by have:=hk.next;omega)).bM k7 (fun _ _ h=>h.elim)).trans k8
  generalize hRR:E.write ((2+aq*E.ar+at_+i:Nat):Int) (di gen (at_+i) i (a8 n) (chunk rec_ i))=RR at *
  have h55:=r55 hd6 (by omega)
  have hmul:bin Try.prog .mul 3 (ao aq) (ao E.ar)=some (ao (aq*E.ar)):=mul3 (by rw [hEar];omega)
  have hadd1:bin Try.prog .add 3 (.int .i64 2) (ao (aq*E.ar))=some (ao (2+aq*E.ar)):=gW (a:=2) (by rw [hEar];omega)
  have hadd2:bin Try.prog .add 3 (ao (2+aq*E.ar)) (ao at_)=some (ao (2+aq*E.ar+at_)):=gW (by rw [hEar];omega)
  have hadd3:bin Try.prog .add 3 (ao (2+aq*E.ar+at_)) (ao i)=some (ao (2+aq*E.ar+at_+i)):=gW (by rw [hEar];omega)
  have cv32 : ∀ g,cvI .u32 (ao (at_+i)) g=some (.int .u32 ((at_+i:Nat):Int),g):=by
   intro g
   unfold ao
   rw [df,wrap_u32 (by omega) (by omega)]
  have cv16 : ∀ (z:Nat),z<65536 → ∀ g,cvI .u16 (ao z) g=some (.int .u16 (z:Int),g):=by
   intro z hz g
   unfold ao
   rw [df,wrap_u16 (by omega) (by omega)]
  have hv:veq (ptr d 0) (ptr d 0)=true:=by simp [ptr,veq]
  have ck6:=du (rfl:some (ptr d 0,g6)=some (ptr d 0,g6)) hv
  have ck7:=du (rfl:some (ptr d 0,g7)=some (ptr d 0,g7)) hv
  simp -implicitDefEqProofs only [decide_eq_true hlt,i0,i1,i2,i3,i4,i11,ae,hm1,bO,dJ (show i+1≤9223372036854775807 by omega),hm2,aj,hmn,s1,e1,e2,gW (show at_+i≤9223372036854775807 by omega),cv32,e3,cv16 i (by omega),e4,cv16 (a8 n) (by omega),e5,e6,
   aH,ax,Nat.zero_add,hj6.l0,h55,hmul,hadd1,hadd2,hadd3,e7,hj7.l0,e8,ck6,ck7,Bool.and_true,cW]
  by_cases hc:RR.1=0
  ·rw [if_pos hc] at hw
   have hne:(RR.1 != 0)=false:=by rw [hc];rfl
   simp -implicitDefEqProofs only [hne,ae]
   exact c8.next q (by omega) ⟨i+1,RR.2,i0,i1,i2,i3,i4,i11,i19,rfl,by omega,x8,b8,n8.trans hEn,kall,hw⟩
  ·rw [if_neg hc] at hw
   have hne:(RR.1 != 0)=true:=by rw [bne_iff_ne];exact hc
   simp -implicitDefEqProofs only [hne,ae]
   refine c8.ret ⟨?_,?_,?_,kall,.inr ⟨rfl,?_⟩⟩
   ·rw [←hw];exact x8
   ·rw [←hw];exact b8
   ·rw [←hw];exact n8.trans hEn
   ·rw [←hw];rfl
theorem r59 : ∃ h',CD 59 [ptr j 0,ao aq,.int .u64 gen,ao at_,.slice a n c] h0=some (.int .i64 (D.cd aq gen at_ rec_).1,h')∧aX h' d (D.cd aq gen at_ rec_).2∧(D.cd aq gen at_ rec_).2.bb=D.bb∧(D.cd aq gen at_ rec_).2.n=D.n∧cq d D.bb h0 h':=by
 have hrl:=(aB hs).1
 have hcl:=fC hn
 have is59:ch Try.prog 59 Try.f59:=⟨by kernel_rfl,by kernel_rfl,by kernel_rfl,by kernel_rfl⟩
 have key : ∃ h',t59 CD (ptr j 0) (ao aq) (.int .u64 gen) (ao at_) (.slice a n c) h0=some (.int .i64 (D.cd aq gen at_ rec_).1,h')∧aX h' d (D.cd aq gen at_ rec_).2∧(D.cd aq gen at_ rec_).2.bb=D.bb∧(D.cd aq gen at_ rec_).2.n=D.n∧cq d D.bb h0 h':=by
  unfold t59
  simp -implicitDefEqProofs only [ae,bO,aj]
  rw [show (Value.int .i64 (n:Int))=ao n from rfl]
  simp -implicitDefEqProofs only [r15 n h0 (by omega),ae]
  refine cy (Q:=fun (o:Out) => ∃ h',o=some (.int .i64 (D.cd aq gen at_ rec_).1,h')∧aX h' d (D.cd aq gen at_ rec_).2∧(D.cd aq gen at_ rec_).2.bb=D.bb∧(D.cd aq gen at_ rec_).2.n=D.n∧cq d D.bb h0 h')
   (ct (t59l59_11010_eq CD) (wr_round x xj h2 ha hg hat hs hgd hn hab) (a8 n) (by have:rounds=18446744073709551616:=rfl;omega)
    ⟨0,D,rfl,rfl,rfl,rfl,rfl,rfl,rfl,rfl,Nat.zero_add _,x,rfl,rfl,Kept.refl _ _,by unfold Dk.cd;rw [hrl]⟩) ?_
  rintro ex y g ⟨f1,f2,f3,f4,⟨rfl,f5⟩|⟨rfl,f5⟩⟩
  ·refine ⟨g,?_,f1,f2,f3,f4⟩
   simp -implicitDefEqProofs only [bG,b59_4,if_true,t59k59_2_eq]
   unfold t59k59_2
   simp -implicitDefEqProofs only [ae,f5]
  ·refine ⟨g,?_,f1,f2,f3,f4⟩
   show al Try.prog Try.f59.results.toList (aZ 77 y) g=_
   rw [res_one (show Try.f59.results.toList = [.tmp 10] by kernel_rfl) (by decide),f5]
 obtain ⟨h',e,f⟩:=key
 exact ⟨h',aK is59 rfl ((t59_eq _ _ _ _ _ _ _).trans e),f⟩
end
end Go.Proofs.Ytcmfgmhadeeieaa

namespace Go.Proofs.Ytcmfgmhadeeieaa
open Go Go.Abs
structure JnOk (J:Jn) (D:Dk):Prop where
 slot:J.slot = -1∨J.slot=0∨J.slot=1
 aq:J.aq≤1
 gen:J.gen<18446744073709551616
 known:J.known<18446744073709551616
 ready:J.ready=true→J.fin≤D.ar∧0≤J.slot
def Jn.append (J:Jn) (D:Dk) (rec_:List Nat):Int×Dk×Jn:=
 if J.live D=false then (9,D,J) else
 if J.ready=false then (30,D,J) else
 if 20000<rec_.length then (3,D,J) else
 if J.free D<a8 rec_.length then (8,D,J) else
 if (D.cd J.aq J.gen J.fin rec_).1=0 then (0,(D.cd J.aq J.gen J.fin rec_).2,{ J with fin:=J.fin+a8 rec_.length })
 else ((D.cd J.aq J.gen J.fin rec_).1,(D.cd J.aq J.gen J.fin rec_).2,J)
theorem is27:ch Try.prog 27 Try.f27:=⟨by kernel_rfl,by kernel_rfl,by kernel_rfl,by kernel_rfl⟩
theorem gtr3k (n k:Nat):bin Try.prog .gtr 3 (ao n) (.int .i64 (k:Int))=some (.bool (decide (k<n))):=gtr3 n k
abbrev JdOnly (j d bb:Nat) (h h':af):Prop:=Kept h h' (fun c=>c=j∨c=d∨c=bb)
theorem cq.jd {j d bb:Nat} {h h':af} (k:cq d bb h h'):JdOnly j d bb h h':=Kept.mono k (fun c _ hc => .inr hc)
theorem Old.jd {j d bb:Nat} {h h':af} (k:Old h h'):JdOnly j d bb h h':=Kept.mono k (fun c _ hc=>hc.elim)
theorem r27 {h:af} {d j:Nat} {D:Dk} {J:Jn} (x:aX h d D) (xj:cC h j d J) (h2:2≤D.n) (ok:JnOk J D) {a:Option Addr} {n c:Nat} {rec_:List Nat}
  (hs:av a n h=some rec_) (hgd:cU a n c=true) (hn:n≤100000000) (hab : ∀ y,a=some y→0<n→y.block≠D.bb) :
  ∃ v h',CD 27 [ptr j 0,.slice a n c] h=some (.tuple #[v,.int .i64 (J.append D rec_).1],h')∧aX h' d (J.append D rec_).2.1∧cC h' j d (J.append D rec_).2.2∧(J.append D rec_).2.1.bb=D.bb∧(J.append D rec_).2.1.n=D.n∧JdOnly j d D.bb h h' ∧
    v=ao (if (J.append D rec_).1=0 then J.fin else 0):=by
 have hrl:=(aB hs).1
 have hsm:=x.small
 have har:D.ar=(D.n-2)/2:=rfl
 have key : ∀ o:Out,t27 CD (ptr j 0) (.slice a n c) h=o → ∃ v h',o=some (.tuple #[v,.int .i64 (J.append D rec_).1],h')∧aX h' d (J.append D rec_).2.1∧cC h' j d (J.append D rec_).2.2∧(J.append D rec_).2.1.bb=D.bb∧(J.append D rec_).2.1.n=D.n∧JdOnly j d D.bb h h' ∧
   v=ao (if (J.append D rec_).1=0 then J.fin else 0):=by
  intro o ho
  subst ho
  unfold t27 Jn.append
  simp -implicitDefEqProofs only [ae,r58 x xj,aj,cW]
  cases hl:J.live D with
  |false=>
   simp -implicitDefEqProofs only [Bool.false_eq_true,if_false,if_true,show ((9:Int) != 0)=true from rfl,ae]
   exact ⟨_,h,rfl,x,xj,trivial,trivial,Kept.refl _ _,rfl⟩
  |true=>
   simp -implicitDefEqProofs only [if_true,bne_self_eq_false,ae,aH,aj,ax,Nat.zero_add,xj.l6,bR,show (true=false)=False from eq_false (by decide),if_false]
   cases hr:J.ready with
   |false=>
    simp -implicitDefEqProofs only [Bool.not_false,ae,if_true]
    exact ⟨_,h,rfl,x,xj,trivial,trivial,Kept.refl _ _,rfl⟩
   |true=>
    obtain ⟨hfin,hslot⟩:=ok.ready hr
    simp -implicitDefEqProofs only [Bool.not_true,ae,bO,aj,show (true=false)=False from eq_false (by decide),if_false]
    rw [show (Value.int .i64 (n:Int))=ao n from rfl]
    have hg:=gtr3k n 20000
    have hg:bin Try.prog .gtr 3 (ao n) (.int .i64 20000)=_:=hg
    simp -implicitDefEqProofs only [hg,aj,ae,hrl]
    by_cases hlong:20000<n
    ·simp -implicitDefEqProofs only [decide_eq_true hlong,ae,if_pos hlong]
     exact ⟨_,h,rfl,x,xj,trivial,trivial,Kept.refl _ _,rfl⟩
    ·simp -implicitDefEqProofs only [decide_eq_false hlong,if_neg hlong,r15 n h hn,ae,r26 x xj h2 (fun _=>hfin),gtr3,aj]
     by_cases hfull:J.free D<a8 n
     ·simp -implicitDefEqProofs only [decide_eq_true hfull,ae,if_pos hfull]
      exact ⟨_,h,rfl,x,xj,trivial,trivial,Kept.refl _ _,rfl⟩
     ·have hcn:=fC (n:=n) (by omega)
      obtain ⟨h1,e1,x1,b1,n1,k1⟩:=r59 x xj h2 ok.aq ok.gen (at_:=J.fin) (by omega) hs hgd (by omega) hab
      simp -implicitDefEqProofs only [decide_eq_false hfull,if_neg hfull,ae,aH,aj,ax,Nat.zero_add,xj.l7,xj.l3,xj.l4,e1,cW]
      have xj1:cC h1 j d J:=xj.aG k1 (fun h=>h.elim (xj.ne_d x) (xj.ne_bb x))
      by_cases hz:(D.cd J.aq J.gen J.fin rec_).1=0
      ·rw [if_pos hz]
       have hst:bK 1 (ptr j 7) (ao (J.fin+a8 n)) h1=some (undef,h1.set j (({ J with fin:=J.fin+a8 n }:Jn).cells d)):=dm xj1.get (by simp [Jn.cells]) xj1.n0 rfl rfl
       obtain ⟨k2,g2⟩:=eS (k':=({ J with fin:=J.fin+a8 n }:Jn).cells d) xj1.get xj1.n0
       have hne:((D.cd J.aq J.gen J.fin rec_).1 != 0)=false:=by rw [hz];rfl
       simp -implicitDefEqProofs only [hne,ae,aH,aj,ax,Nat.zero_add,xj1.l7,bO]
       simp -implicitDefEqProofs only [r15 n h1 hn,ae,gW (show J.fin+a8 n≤9223372036854775807 by omega),aj,aH,ax,Nat.zero_add,hst,xj1.l7,
        du (rfl:some (ao J.fin,h1)=some (ao J.fin,h1)) (show veq (ao J.fin) (ao J.fin)=true by simp [ao,veq]),Bool.and_true]
       have q:cC (h1.set j (({ J with fin:=J.fin+a8 n }:Jn).cells d)) j d { J with fin:=J.fin+a8 n }:=⟨g2,k2.n0▸xj1.n0,xj1.aq⟩
       simp only [hr] at q
       refine ⟨_,_,rfl,?_,by simpa only [hr] using q,b1,n1,(cq.jd k1).trans (k2.mono (fun c _ hc => .inl hc)),rfl⟩
       exact k2.dk x1 (fun h=>(xj1.ne_d x1) h.symm) (fun h=>(xj1.ne_bb x1) h.symm)
      ·rw [if_neg hz]
       have hne:((D.cd J.aq J.gen J.fin rec_).1 != 0)=true:=by rw [bne_iff_ne];exact hz
       simp -implicitDefEqProofs only [hne,ae]
       refine ⟨_,_,rfl,x1,xj1,b1,n1,cq.jd k1,?_⟩
       rw [if_neg hz];rfl
 obtain ⟨v,h',e,f⟩:=key _ rfl
 exact ⟨v,h',aK is27 rfl ((t27_eq _ _ _ _).trans e),f⟩
theorem r27_nil (h:af) (v:Value):CD 27 [.pointer none,v] h=some (.tuple #[.int .i64 0,.int .i64 1],h):=by
 refine aK is27 rfl ((t27_eq _ _ _ _).trans ?_)
 unfold t27
 simp -implicitDefEqProofs only [ae,r58_nil,aj,cW,show ((1:Int) != 0)=true from rfl]
end Go.Proofs.Ytcmfgmhadeeieaa

namespace Go.Proofs.Ytcmfgmhadeeieaa
open Go Go.Abs
theorem cC.st {h:af} {j d:Nat} {J:Jn} (xj:cC h j d J) (i:Nat) (v:Value) (J':Jn) (hi:i<8) (hc:(J.cells d).set i v=J'.cells d) (hv:v.cells = #[v]) (h1:v.oneCell'=true) (ha:J'.aq≤1) :
  ∃ h',bK 1 (ptr j i) v h=some (undef,h')∧cC h' j d J'∧Kept h h' (fun c=>c=j)∧h'.next=h.next:=by
 have hst:=dm (o:=i) (v:=v) xj.get (by simp [Jn.cells];omega) xj.n0 hv h1
 obtain ⟨k,g⟩:=eS (k':=(J.cells d).set i v) xj.get xj.n0
 rw [hc] at hst k g
 exact ⟨_,hst,⟨g,k.n0▸xj.n0,ha⟩,k,rfl⟩
theorem mx64 (a b:Nat):dC true (.int .u64 (a:Int)) [.int .u64 (b:Int)]=some (.int .u64 ((max a b:Nat):Int)):=by
 simp only [dC,if_true]
 by_cases hc:(b:Int)>(a:Int)
 ·rw [if_pos (by simpa using hc),Nat.max_eq_right (by omega)]
 ·rw [if_neg (by simpa using hc),Nat.max_eq_left (by omega)]
theorem gtr58 (a b:Nat):bin Try.prog .gtr 58 (.int .u64 (a:Int)) (.int .u64 (b:Int))=some (.bool (decide (b<a))):=by
 rw [dB];exact congrArg (fun q=>some (Value.bool q)) (decide_eq_decide.2 (by omega))
def Jn.fI (D:Dk) (s at_:Nat) (J:Jn):Jn:=if dO at_ (D.jb s at_) then { J with known:=max J.known (bL (D.jb s at_)) } else J
def Jn.ee (D:Dk) (s:Nat):Nat→Nat→Jn→Jn
 | 0,_,J=>J
 |k+1,at_,J=>Jn.ee D s k (at_+1) (J.fI D s at_)
section
variable {h0:af} {d j s:Nat} {D:Dk} {J0:Jn} (x:aX h0 d D) (hj:cC h0 j d J0) (h2:2≤D.n) (hs:s≤1)
def seeInv (h0:af) (d j s:Nat) (D:Dk) (J0:Jn) (x:Nat→Value) (k:Nat) (y:Nat→Value) (g:af):Prop:=
 ∃ at_ J,y 0=ptr d 0∧y 6=ptr j 0∧y 7=ao s∧y 83=ao D.ar∧y 84=ao at_∧y 37=x 37∧y 2=x 2∧y 3=x 3∧y 4=x 4∧at_+k=D.ar∧cC g j d J∧Kept h0 g (fun c=>c=j)∧Jn.ee D s k at_ J=Jn.ee D s D.ar 0 J0
def seeFin (h0:af) (d j s:Nat) (D:Dk) (J0:Jn) (x:Nat→Value) (ex:Ex) (y:Nat→Value) (g:af):Prop:=
 ex = .exit 2∧y 0=ptr d 0∧y 6=ptr j 0∧y 37=x 37∧y 2=x 2∧y 3=x 3∧y 4=x 4∧cC g j d (Jn.ee D s D.ar 0 J0)∧Kept h0 g (fun c=>c=j)
include x hj h2 hs
theorem see_round (x0:Nat→Value) : ∀ k y g,seeInv h0 d j s D J0 x0 k y g→c8 131 (seeInv h0 d j s D J0 x0) (seeFin h0 d j s D J0 x0) k (dZ CD y g):=by
 rintro k y g ⟨at_,J,i0,i6,i7,i83,i84,i37,i2,i3,i4,hk,hJ,hold,htar⟩
 have hsm:=x.small
 have har:D.ar=(D.n-2)/2:=rfl
 have hjd:=hj.ne_d x
 have hjb:=hj.ne_bb x
 have xg:aX g d D:=hold.dk x (fun h=>hjd h.symm) (fun h=>hjb h.symm)
 unfold dZ
 simp -implicitDefEqProofs only [i84,i83,gH,aj,ae]
 by_cases hz:k=0
 ·subst hz
  simp -implicitDefEqProofs only [decide_eq_false (show ¬at_<D.ar by omega)]
  exact c8.out 2 ⟨rfl,i0,i6,i37,i2,i3,i4,htar▸hJ,hold⟩
 ·obtain ⟨q,rfl⟩ : ∃ q,k=q+1:=⟨k-1,by omega⟩
  obtain ⟨a,n,c,g1,e1,e2,e3,e4,e5⟩:=r56 xg h2 hs (show at_<D.ar by omega)
  have hjbk:D.bJ (2+s*D.ar+at_)=D.jb s at_:=rfl
  rw [hjbk] at e1 e2
  have g2p:(g1.alloc gu).get g1.next=some gu:=by rw [af.aD,if_pos rfl]
  have n02:(g1.alloc gu).n0≤g1.next:=g1.aF
  generalize hcs:logC (bL (D.jb s at_)) (bA (D.jb s at_)) (aT (D.jb s at_)) (.slice a n c)=cs at e1
  have hst:bK 4 (ptr g1.next 0) (.agg cs.toArray) (g1.alloc gu)=some (undef,(g1.alloc gu).set g1.next cs):=by
   subst hcs;exact stN_whole g2p n02 rfl rfl rfl
  obtain ⟨k3,g3p⟩:=eS (k':=cs) g2p n02
  have k2:Old g1 (g1.alloc gu):=Kept.alloc g1 gu _
  have k13:Old g ((g1.alloc gu).set g1.next cs):=(e4.trans k2).bM k3 (fun c h1 h2=>by have:=e4.next;omega)
  have hlogz:g1.alloc [(.int .u64 0),(.int .i64 0),(.int .i64 0),(.slice none 0 0)]=g1.alloc gu:=rfl
  generalize hg3:(g1.alloc gu).set g1.next cs=g3 at *
  have l0:aV (ptr g1.next 0) g3=some (.int .u64 (bL (D.jb s at_)),g3):=by subst hcs;exact aJ g3p rfl
  have hJ3:cC g3 j d J:=hJ.aG k13 (fun h=>h)
  have hold3:Kept h0 g3 (fun c=>c=j):=hold.bM k13 (fun _ _ h=>h.elim)
  have hx0 : ∀ a b:Value,aA (.tuple #[a,b]) 0=some a:=fun _ _=>rfl
  have hx1 : ∀ a b:Value,aA (.tuple #[a,b]) 1=some b:=fun _ _=>rfl
  simp -implicitDefEqProofs only [decide_eq_true (show at_<D.ar by omega),i0,i7,ae,e1,hx0,hx1,aj,dp,Abs.newRow,hlogz,hst]
  have htar2:Jn.ee D s q (at_+1) (J.fI D s at_)=Jn.ee D s D.ar 0 J0:=htar
  cases hc:dO at_ (D.jb s at_) with
  |false=>
   simp -implicitDefEqProofs only [ae,dJ (show at_+1≤9223372036854775807 by omega),aj]
   have hsee:J.fI D s at_=J:=by unfold Jn.fI;rw [hc];rfl
   rw [hsee] at htar2
   exact c8.next q (by omega) ⟨at_+1,J,i0,i6,i7,i83,rfl,i37,i2,i3,i4,by omega,hJ3,hold3,htar2⟩
  |true=>
   have hsee:J.fI D s at_={ J with known:=max J.known (bL (D.jb s at_)) }:=by unfold Jn.fI;rw [hc];rfl
   obtain ⟨g4,f1,f2,f3,f4⟩:=hJ3.st 5 (.int .u64 ((max J.known (bL (D.jb s at_)):Nat):Int)) { J with known:=max J.known (bL (D.jb s at_)) } (by decide) rfl rfl rfl hJ.aq
   simp -implicitDefEqProofs only [i6,ae,aH,aj,ax,Nat.zero_add,hJ3.l5,l0,mx64,f1,dJ (show at_+1≤9223372036854775807 by omega)]
   rw [hsee] at htar2
   exact c8.next q (by omega) ⟨at_+1,_,i0,i6,i7,i83,rfl,i37,i2,i3,i4,by omega,f2,hold3.trans f3,htar2⟩
theorem see_loop {y:Nat→Value} (i0:y 0=ptr d 0) (i6:y 6=ptr j 0) (i7:y 7=ao s) (i83:y 83=ao D.ar) (i84:y 84=ao 0) :
  Fin 131 (seeFin h0 d j s D J0 y) (iter (aL Try.prog CD (partOf Try.f21 [1,1,1,1,0,1,0,0,1,1,0,0,1,1,1,0,0])) rounds (aZ 131 y) h0):=
 ct (t21l21_1111010011001110_eq CD) (see_round x hj h2 hs y) D.ar (by have:rounds=18446744073709551616:=rfl;have:=x.small;unfold Dk.ar;omega)
  ⟨0,J0,i0,i6,i7,i83,i84,rfl,rfl,rfl,rfl,Nat.zero_add _,hj,Kept.refl _ _,rfl⟩
end
def Jn.cm (D:Dk) (s:Nat) (J:Jn):Jn:=if J.slot<0∨J.gen<ba (D.bJ s) then { J with slot:=s,gen:=ba (D.bJ s),aq:=de (D.bJ s) } else J
def Jn.fD (D:Dk) (s:Nat) (J:Jn):Jn:=if bW (D.bJ s) then { J.cm D s with known:=max J.known (ba (D.bJ s)) } else J
def Jn.eR (D:Dk) (s:Nat) (J:Jn):Jn:=Jn.ee D s D.ar 0 (J.fD D s)
def Dk.jn0 (D:Dk) (bw:Int):Jn:={ bw:=bw,slot := -1,aq:=0,gen:=0,known:=0,ready:=false,fin:=0 }
def Dk.cL (D:Dk) (bw:Int):Jn:=((D.jn0 bw).eR D 0).eR D 1
theorem superArea_le {b:List Nat} (h:bW b=true):de b≤1:=by
 unfold bW at h
 simp only [Bool.and_eq_true,decide_eq_true_eq] at h
 exact h.2
section
variable {h0:af} {d j:Nat} {D:Dk} {J0:Jn} (x:aX h0 d D) (hj:cC h0 j d J0) (h2:2≤D.n)
def slotInv (h0:af) (d j:Nat) (D:Dk) (J0:Jn) (k:Nat) (y:Nat→Value) (g:af):Prop:=
 ∃ J,y 0=ptr d 0∧y 6=ptr j 0∧cC g j d J∧Kept h0 g (fun c=>c=j)∧((k=2∧y 37=ao 0∧J=J0)∨(k=1∧y 37=ao 1∧J=J0.eR D 0)∨(k=0∧y 37=ao 2∧J=(J0.eR D 0).eR D 1))
def slotFin (h0:af) (d j:Nat) (D:Dk) (J0:Jn) (ex:Ex) (y:Nat→Value) (g:af):Prop:=
 ex = .exit 0∧y 0=ptr d 0∧y 6=ptr j 0∧cC g j d ((J0.eR D 0).eR D 1)∧Kept h0 g (fun c=>c=j)
include x hj h2
theorem slot_tail {s k:Nat} (hs:s≤1) {y:Nat→Value} {g:af} {J:Jn} (i0:y 0=ptr d 0) (i6:y 6=ptr j 0) (i7:y 7=ao s) (i83:y 83=ao D.ar) (i84:y 84=ao 0) (i37:y 37=ao s) (hJ:cC g j d J) (hold:Kept h0 g (fun c=>c=j))
  (hnext : ∀ y' g',y' 0=ptr d 0→y' 6=ptr j 0→y' 37=ao (s+1)→cC g' j d (Jn.ee D s D.ar 0 J)→Kept h0 g' (fun c=>c=j)→c8 131 (slotInv h0 d j D J0) (slotFin h0 d j D J0) k (some (.normal,aZ 131 y',g'))) :
  c8 131 (slotInv h0 d j D J0) (slotFin h0 d j D J0) k (dI (iter (aL Try.prog CD (partOf Try.f21 [1,1,1,1,0,1,0,0,1,1,0,0,1,1,1,0,0])) rounds (aZ 131 y) g) (fun e h=>some (Ex.ret,e,h)) (b21_25 CD)):=by
 have xg:aX g d D:=hold.dk x (fun h=>(hj.ne_d x) h.symm) (fun h=>(hj.ne_bb x) h.symm)
 refine cy (Q:=fun o=>c8 131 (slotInv h0 d j D J0) (slotFin h0 d j D J0) k o) (see_loop xg hJ h2 hs i0 i6 i7 i83 i84) ?_
 rintro ex y' g' ⟨rfl,f0,f6,f37,_,_,_,fJ,fk⟩
 simp -implicitDefEqProofs only [bG,b21_25,if_true,t21k21_16_eq]
 unfold t21k21_16
 rw [f37,i37]
 simp -implicitDefEqProofs only [dJ (show s+1≤9223372036854775807 by omega),aj,ae]
 exact hnext _ g' f0 f6 rfl fJ (hold.trans fk)
theorem slot_round : ∀ k y g,slotInv h0 d j D J0 k y g→c8 131 (slotInv h0 d j D J0) (slotFin h0 d j D J0) k (fj CD y g):=by
 rintro k y g ⟨J,i0,i6,hJ,hold,hcase⟩
 have hsm:=x.small
 have xg:aX g d D:=hold.dk x (fun h=>(hj.ne_d x) h.symm) (fun h=>(hj.ne_bb x) h.symm)
 have main : ∀ s,s≤1→y 37=ao s→(∀ y' g',y' 0=ptr d 0→y' 6=ptr j 0→y' 37=ao (s+1)→cC g' j d (J.eR D s)→Kept h0 g' (fun c=>c=j)→c8 131 (slotInv h0 d j D J0) (slotFin h0 d j D J0) k (some (.normal,aZ 131 y',g'))) →
   c8 131 (slotInv h0 d j D J0) (slotFin h0 d j D J0) k (fj CD y g):=by
  intro s hs i37 hnext
  obtain ⟨g1,e1,o1⟩:=r54 xg (show s<D.n by omega)
  have hJ1:cC g1 j d J:=hJ.aG o1 (fun h=>h)
  have hold1:Kept h0 g1 (fun c=>c=j):=hold.bM o1 (fun _ _ h=>h.elim)
  have xg1:=Old.dk o1 xg
  have hx0 : ∀ a b c:Value,aA (.tuple #[a,b,c]) 0=some a:=fun _ _ _=>rfl
  have hx1 : ∀ a b c:Value,aA (.tuple #[a,b,c]) 1=some b:=fun _ _ _=>rfl
  have hx2 : ∀ a b c:Value,aA (.tuple #[a,b,c]) 2=some c:=fun _ _ _=>rfl
  have hlt:bin Try.prog .lss 3 (ao s) (.int .i64 2)=some (.bool true):=by
   have:=gH s 2
   rw [decide_eq_true (by omega)] at this
   exact this
  have hsee:J.eR D s=Jn.ee D s D.ar 0 (J.fD D s):=rfl
  unfold fj
  simp -implicitDefEqProofs only [i37,hlt,aj,ae,i0,e1,hx0,hx1,hx2]
  cases hok:bW (D.bJ s) with
  |false=>
   have hss:J.fD D s=J:=by unfold Jn.fD;rw [hok];rfl
   rw [hss] at hsee
   simp -implicitDefEqProofs only [ae,r55 xg1 h2]
   exact slot_tail x hj h2 (s:=s) hs i0 i6 rfl rfl rfl i37 hJ1 hold1 (fun y' g' a1 a2 a3 a4 a5=>hnext y' g' a1 a2 a3 (hsee▸a4) a5)
  |true=>
   have hss:J.fD D s={ J.cm D s with known:=max J.known (ba (D.bJ s)) }:=by unfold Jn.fD;rw [hok];rfl
   simp -implicitDefEqProofs only [ae,i6,aH,aj,ax,Nat.zero_add,hJ1.l2,bB,az]
   by_cases hc:J.slot<0∨J.gen<ba (D.bJ s)
   ·have htk:J.cm D s={ J with slot:=s,gen:=ba (D.bJ s),aq:=de (D.bJ s) }:=by unfold Jn.cm;rw [if_pos hc]
    rw [htk] at hss
    obtain ⟨g2,a1,a2,a3,a4⟩:=hJ1.st 2 (ao s) { J with slot:=s } (by decide) rfl rfl rfl hJ.aq
    obtain ⟨g3,b1,b2,b3,b4⟩:=a2.st 4 (.int .u64 (ba (D.bJ s))) { J with slot:=s,gen:=ba (D.bJ s) } (by decide) rfl rfl rfl hJ.aq
    obtain ⟨g4,c1,c2,c3,c4⟩:=b2.st 3 (ao (de (D.bJ s))) { J with slot:=s,gen:=ba (D.bJ s),aq:=de (D.bJ s) } (by decide) rfl rfl rfl (superArea_le hok)
    obtain ⟨g5,d1,d2,d3,d4⟩:=c2.st 5 (.int .u64 ((max J.known (ba (D.bJ s)):Nat):Int)) { J with slot:=s,gen:=ba (D.bJ s),aq:=de (D.bJ s),known:=max J.known (ba (D.bJ s)) } (by decide) rfl rfl rfl (superArea_le hok)
    have hold5:Kept h0 g5 (fun c=>c=j):=(((hold1.trans a3).trans b3).trans c3).trans d3
    have xg5:aX g5 d D:=hold5.dk x (fun h=>(hj.ne_d x) h.symm) (fun h=>(hj.ne_bb x) h.symm)
    have hl5:aV (ptr j 5) g4=some (.int .u64 J.known,g4):=c2.l5
    have hfin:c8 131 (slotInv h0 d j D J0) (slotFin h0 d j D J0) k (dI (iter (aL Try.prog CD (partOf Try.f21 [1,1,1,1,0,1,0,0,1,1,0,0,1,1,1,0,0])) rounds (aZ 131 y) g5) (fun e h=>some (Ex.ret,e,h)) (b21_25 CD))→True:=fun _=>trivial
    by_cases hc1:J.slot<0
    ·simp -implicitDefEqProofs only [hc1,decide_true,sf,aE,ae,if_true,aH,aj,ax,Nat.zero_add,a1,b1,c1,hl5,mx64,d1,r55 xg5 h2]
     exact slot_tail x hj h2 (s:=s) hs i0 i6 rfl rfl rfl i37 d2 hold5 (fun y' g' a1 a2 a3 a4 a5=>hnext y' g' a1 a2 a3 (hsee▸hss▸a4) a5)
    ·have hc2:J.gen<ba (D.bJ s):=hc.resolve_left hc1
     simp -implicitDefEqProofs only [hc1,decide_false,beq_self_eq_true,ay,ae,aH,aj,ax,Nat.zero_add,hJ1.l4,gtr58,Bool.false_eq_true,if_false,hc2,decide_true,a1,b1,c1,hl5,mx64,d1,r55 xg5 h2]
     exact slot_tail x hj h2 (s:=s) hs i0 i6 rfl rfl rfl i37 d2 hold5 (fun y' g' a1 a2 a3 a4 a5=>hnext y' g' a1 a2 a3 (hsee▸hss▸a4) a5)
   ·have htk:J.cm D s=J:=by unfold Jn.cm;rw [if_neg hc]
    rw [htk] at hss
    have hc1 : ¬J.slot<0:=fun h=>hc (.inl h)
    have hc2 : ¬J.gen<ba (D.bJ s):=fun h=>hc (.inr h)
    obtain ⟨g5,d1,d2,d3,d4⟩:=hJ1.st 5 (.int .u64 ((max J.known (ba (D.bJ s)):Nat):Int)) { J with known:=max J.known (ba (D.bJ s)) } (by decide) rfl rfl rfl hJ.aq
    have hold5:Kept h0 g5 (fun c=>c=j):=hold1.trans d3
    have xg5:aX g5 d D:=hold5.dk x (fun h=>(hj.ne_d x) h.symm) (fun h=>(hj.ne_bb x) h.symm)
    simp -implicitDefEqProofs only [hc1,decide_false,beq_self_eq_true,ay,ae,aH,aj,ax,Nat.zero_add,hJ1.l4,gtr58,Bool.false_eq_true,if_false,hc2,hJ1.l5,mx64,d1,r55 xg5 h2]
    exact slot_tail x hj h2 (s:=s) hs i0 i6 rfl rfl rfl i37 d2 hold5 (fun y' g' a1 a2 a3 a4 a5=>hnext y' g' a1 a2 a3 (hsee▸hss▸a4) a5)
 rcases hcase with ⟨rfl,i37,rfl⟩|⟨rfl,i37,rfl⟩|⟨rfl,i37,rfl⟩
 ·exact main 0 (by decide) i37 (fun y' g' a1 a2 a3 a4 a5=>c8.next 1 (by decide) ⟨_,a1,a2,a4,a5,.inr (.inl ⟨rfl,a3,rfl⟩)⟩)
 ·exact main 1 (by decide) i37 (fun y' g' a1 a2 a3 a4 a5=>c8.next 0 (by decide) ⟨_,a1,a2,a4,a5,.inr (.inr ⟨rfl,a3,rfl⟩)⟩)
 ·have hlt:bin Try.prog .lss 3 (ao 2) (.int .i64 2)=some (.bool false):=by
   have:=gH 2 2
   rw [decide_eq_false (by omega)] at this
   exact this
  unfold fj
  simp -implicitDefEqProofs only [i37,hlt,aj,ae]
  exact c8.out 0 ⟨rfl,i0,i6,hJ,hold⟩
end
end Go.Proofs.Ytcmfgmhadeeieaa

namespace Go.Proofs.Ytcmfgmhadeeieaa
open Go Go.Abs
def EntAt (h:af) (N:Nat) (cells:List Value) (i:Nat) (e:Nat×List Nat):Prop:=
 cells[2*i]? = some (ao e.1) ∧ ∃ a n c,cells[2*i+1]? = some (.slice a n c)∧av a n h=some e.2∧cU a n c=true ∧ ∀ y,a=some y→0<n→N≤y.block
def dx (h:af) (N:Nat) (cells:List Value) (cS:List (Nat×List Nat)):Prop:=cells.length=2*cS.length ∧ ∀ i e,cS[i]? = some e→EntAt h N cells i e
theorem dx.aG {h h':af} {N:Nat} {cells:List Value} {cS:List (Nat×List Nat)} (E:dx h N cells cS) {B:Nat→Prop} (k:Kept h h' B) (hB : ∀ b,B b→ei h b):dx h' N cells cS:=by
 refine ⟨E.1,fun i e he => ?_⟩
 obtain ⟨h1,a,n,c,h2,h3,h4,h5⟩:=E.2 i e he
 exact ⟨h1,a,n,c,h2,k.ef hB h3,h4,h5⟩
theorem dx.nil (h:af) (N:Nat):dx h N [] []:=⟨rfl,fun i e he=>by simp at he⟩
theorem dx.plain {h:af} {N:Nat} {cells:List Value} {cS:List (Nat×List Nat)} (E:dx h N cells cS) : ∀ v∈cells,nat8 v=none:=by
 intro v hv
 obtain ⟨q,hq⟩:=List.getElem?_of_mem hv
 have hl:=(List.getElem?_eq_some_iff.1 hq).1
 rw [E.1] at hl
 have hi:q/2<cS.length:=by omega
 obtain ⟨h1,a,n,c,h2,_⟩:=E.2 (q/2) cS[q/2] (List.getElem?_eq_getElem hi)
 rcases Nat.mod_two_eq_zero_or_one q with h0|h0
 ·rw [show 2*(q/2)=q by omega,hq] at h1;cases h1;rfl
 ·rw [show 2*(q/2)+1=q by omega,hq] at h2;cases h2;rfl
theorem dx.snoc {h:af} {N:Nat} {cells:List Value} {cS:List (Nat×List Nat)} (E:dx h N cells cS) {at_:Nat} {l:List Nat} {a:Option Addr} {n c:Nat} (hs:av a n h=some l) (hg:cU a n c=true) (ha : ∀ y,a=some y→0<n→N≤y.block) :
  dx h N (cells ++ [ao at_,.slice a n c]) (cS ++ [(at_,l)]):=by
 refine ⟨by simp [E.1];omega,fun i e he => ?_⟩
 have hl:=E.1
 by_cases hi:i<cS.length
 ·rw [List.getElem?_append_left hi] at he
  obtain ⟨h1,a',n',c',h2,h3⟩:=E.2 i e he
  exact ⟨by rw [List.getElem?_append_left (by omega)];exact h1,a',n',c',by rw [List.getElem?_append_left (by omega)];exact h2,h3⟩
 ·rw [List.getElem?_append_right (by omega)] at he
  have:i=cS.length:=by
   have:=(List.getElem?_eq_some_iff.1 he).1
   simp at this;omega
  subst this
  rw [Nat.sub_self] at he
  cases he
  refine ⟨by rw [List.getElem?_append_right (by omega),hl,Nat.sub_self];rfl,a,n,c,?_,hs,hg,ha⟩
  rw [List.getElem?_append_right (by omega),hl,Nat.add_sub_cancel_left];rfl
def Dk.cS (D:Dk) (J:Jn):Nat→Nat→List (Nat×List Nat)
 | 0,_ => []
 |k+1,at_=>if at_<D.ar then if J.bc D at_ then (at_,D.data J.aq at_ (D.parts J.aq at_))::D.cS J k (at_+D.parts J.aq at_) else D.cS J k (at_+1) else []
theorem Dk.ents_end {D:Dk} {J:Jn} {at_:Nat} (h:D.ar≤at_) : ∀ k,D.cS J k at_ = []
 | 0=>rfl
 |k+1=>by unfold Dk.cS;rw [if_neg (by omega)]
theorem Jn.fR {J:Jn} {D:Dk} {at_:Nat} (hat:at_<D.ar):J.bc D at_=(decide (0≤J.slot)&&D.bc J.aq J.gen at_):=by
 unfold Jn.bc
 rw [Int.toNat_natCast,decide_eq_true (show (0:Int)≤(at_:Int) by omega),decide_eq_true (show (at_:Int)<(D.ar:Int) by omega),Bool.and_true,Bool.and_true]
theorem r57 {h:af} {d j:Nat} {D:Dk} {J:Jn} (x:aX h d D) (xj:cC h j d J) (h2:2≤D.n) {at_:Nat} (hat:at_<D.ar) :
  (J.bc D at_=false ∧ ∃ h',CD 57 [ptr j 0,ao at_] h=some (.tuple #[.slice none 0 0,ao 0],h')∧Old h h') ∨
  (J.bc D at_=true ∧ ∃ v h',CD 57 [ptr j 0,ao at_] h=some (.tuple #[v,ao (D.parts J.aq at_)],h')∧Old h h'∧cY h' h.next v (D.data J.aq at_ (D.parts J.aq at_))):=by
 rw [Jn.fR hat]
 by_cases hs:0≤J.slot
 ·rw [decide_eq_true hs,Bool.true_and]
  exact r57_run x xj h2 hs hat
 ·rw [decide_eq_false hs,Bool.false_and]
  exact .inl ⟨rfl,h,r57_start x xj h2 at_ (.inl (by omega)),Kept.refl _ _⟩
section
variable {h0:af} {d j:Nat} {D:Dk} {J:Jn} (x:aX h0 d D) (xj:cC h0 j d J) (h2:2≤D.n)
def entInv (h0:af) (d j:Nat) (D:Dk) (J:Jn) (k:Nat) (y:Nat→Value) (g:af):Prop:=
 ∃ at_ cells done,y 0=ptr d 0∧y 6=ptr j 0∧y 15=ao at_∧cl g h0.next 2 (y 14) done.length cells∧dx g h0.next cells done∧Old h0 g∧at_≤D.ar∧D.ar≤at_+k∧done++D.cS J k at_=D.cS J D.ar 0∧done.length≤at_
def entFin (h0:af) (j:Nat) (D:Dk) (J:Jn) (ex:Ex) (y:Nat→Value) (g:af):Prop:=
 ex = .exit 4∧y 6=ptr j 0 ∧ ∃ cells,cl g h0.next 2 (y 14) (D.cS J D.ar 0).length cells∧dx g h0.next cells (D.cS J D.ar 0)∧Old h0 g
include x xj h2
theorem ent_round : ∀ k y g,entInv h0 d j D J k y g→c8 131 (entInv h0 d j D J) (entFin h0 j D J) k (gE CD y g):=by
 rintro k y g ⟨at_,cells,done,i0,i6,i15,own,E,hold,hle,hk,hents,hdl⟩
 have hsm:=x.small
 have har:D.ar=(D.n-2)/2:=rfl
 have xg:=Old.dk hold x
 have jg:=xj.aG hold (fun h=>h)
 unfold gE
 simp -implicitDefEqProofs only [i15,i0,ae,r55 xg h2,gH,aj]
 by_cases hlt:at_<D.ar
 ·obtain ⟨q,rfl⟩ : ∃ q,k=q+1:=⟨k-1,by omega⟩
  have hx0 : ∀ a b:Value,aA (.tuple #[a,b]) 0=some a:=fun _ _=>rfl
  have hx1 : ∀ a b:Value,aA (.tuple #[a,b]) 1=some b:=fun _ _=>rfl
  have hg0 : ∀ p:Nat,bin Try.prog .gtr 3 (ao p) (.int .i64 0)=some (.bool (decide (0<p))):=fun p=>gtr3 p 0
  have hents2:D.cS J (q+1) at_=if J.bc D at_ then (at_,D.data J.aq at_ (D.parts J.aq at_))::D.cS J q (at_+D.parts J.aq at_) else D.cS J q (at_+1):=by
   show (if at_<D.ar then _ else _)=_
   rw [if_pos hlt]
  rw [hents2] at hents
  rcases r57 xg jg h2 hlt with ⟨hst,g1,e1,o1⟩|⟨hst,v,g1,e1,o1,ob⟩
  ·rw [hst] at hents
   have hmx:dC true (ao 0) [.int .i64 1]=some (ao 1):=rfl
   simp -implicitDefEqProofs only [decide_eq_true hlt,i6,ae,e1,hx0,hx1,aj,hg0,Nat.lt_irrefl,decide_false,hmx,gW (show at_+1≤9223372036854775807 by omega)]
   exact c8.next q (by omega) ⟨at_+1,cells,done,i0,i6,rfl,own.aG o1 (fun _ _ h=>h),E.aG o1 (fun _ h=>h.elim),hold.trans o1,by omega,by omega,hents,by omega⟩
  ·rw [hst,if_pos rfl] at hents
   have hpos:1≤D.parts J.aq at_∧at_+D.parts J.aq at_≤D.ar:=by
    rw [Jn.fR hlt,Bool.and_eq_true] at hst
    exact Dk.stands_pos hst.2
   generalize hp:D.parts J.aq at_=p at *
   generalize hdat:D.data J.aq at_ p=l at *
   obtain ⟨a,c,rfl,s1,s2,s3,s4⟩:=ob.bytes
   have hmx:dC true (ao p) [.int .i64 1]=some (ao p):=by
    simp only [dC,ao,if_true]
    rw [if_neg (by have:=hpos.1;simp;omega)]
   have hbl:ff [(.int .i64 0),(.slice none 0 0)] [(0,1,ao at_),(1,1,.slice a l.length c)]=some (.agg [ao at_,.slice a l.length c].toArray):=rfl
   have hbs:dY 2 (.agg #[(.int .i64 0),(.slice none 0 0)]) 1 [(0,.agg [ao at_,.slice a l.length c].toArray)] g1=some (.slice (some ⟨g1.next,0,none⟩) 1 1,g1.alloc [ao at_,.slice a l.length c]):=rfl
   have oA:Old g1 (g1.alloc [ao at_,.slice a l.length c]):=Kept.alloc _ _ _
   have gA:(g1.alloc [ao at_,.slice a l.length c]).get g1.next=some [ao at_,.slice a l.length c]:=by rw [af.aD,if_pos rfl]
   have ownA:=(own.aG o1 (fun _ _ h=>h)).aG oA (fun _ _ h=>h)
   have EA:=(E.aG o1 (fun _ h=>h.elim)).aG oA (fun _ h=>h.elim)
   have holdA:Old h0 (g1.alloc [ao at_,.slice a l.length c]):=(hold.trans o1).trans oA
   have sA:=Old.bytes oA s1
   generalize hgA:g1.alloc [ao at_,.slice a l.length c]=gA1 at *
   have hfA:bY 2 1 (.slice (some ⟨g1.next,0,none⟩) 1 1) gA1=some [ao at_,.slice a l.length c]:=by
    simp only [bY,gA]
    rfl
   obtain ⟨v',g4,f1,f2,f3,f4⟩:=append_own (by_:=32) (x := .slice (some ⟨g1.next,0,none⟩) 1 1) (m:=1) ownA (by rw [holdA.n0];exact h0.aF) holdA.next (by decide) rfl hfA rfl rfl rfl (by omega) (by omega)
   have pl : ∀ b,dX (y 14)=some b∧gA1.get b=some cells→ei gA1 b:=fun b hb=>⟨cells,hb.2,EA.plain⟩
   have s5:=f3.ef pl sA
   have E5:=EA.aG f3 pl
   have hN:h0.next≤g.next:=hold.next
   simp -implicitDefEqProofs only [decide_eq_true hlt,i6,ae,e1,hx0,hx1,aj,hg0,decide_eq_true (show 0<p by omega),hbl,hbs,f1,hmx,gW (show at_+p≤9223372036854775807 by omega)]
   refine c8.next q (by omega) ⟨at_+p,cells ++ [ao at_,.slice a l.length c],done ++ [(at_,l)],i0,i6,rfl,?_,E5.snoc s5 s2 (fun y hy _=>Nat.le_trans hN (s3 y hy)),?_,by omega,by omega,?_,?_⟩
   ·rw [List.length_append];exact f2
   ·exact holdA.bM f3 (fun c hc hb=>by have:=ownA.base hb.1;omega)
   ·rw [List.append_assoc];exact hents
   ·rw [List.length_append]
    show done.length+1≤_
    omega
 ·simp -implicitDefEqProofs only [decide_eq_false hlt]
  rw [D.ents_end (by omega) k,List.append_nil] at hents
  refine c8.out 4 ⟨rfl,i6,cells,?_,?_,hold⟩
  ·rw [←hents];exact own
  ·rw [←hents];exact E
end
def Dk.opened (D:Dk):Dk:={ D with bw:=IntKind.wrap .i64 (D.bw+1) }
theorem X53:XX 53=s53:=rfl
theorem is21:ch Try.prog 21 Try.f21:=⟨by kernel_rfl,by kernel_rfl,by kernel_rfl,by kernel_rfl⟩
def Dk.jn (D:Dk):Jn:=D.opened.cL D.opened.bw
def Dk.entries (D:Dk):List (Nat×List Nat):=D.opened.cS D.jn D.ar 0
theorem r21_down {h:af} {d:Nat} {D:Dk} (x:aX h d D) (hd:D.down=true):CD 21 [ptr d 0] h=some (.tuple #[.pointer none,.slice none 0 0,.int .i64 9],h):=by
 have hf:D.fault 0=9:=by unfold Dk.fault;rw [hd,if_pos rfl]
 have e53:CD 53 [ptr d 0,.int .i64 0] h=some (.int .i64 9,h):=dP (by rw [X53,s53_at 0 x,hf])
 refine aK is21 rfl ((t21_eq _ _ _).trans ?_)
 unfold t21
 simp -implicitDefEqProofs only [ae,e53,aj,cW,show ((9:Int) != 0)=true from rfl]
theorem r21 {h:af} {d:Nat} {D:Dk} (x:aX h d D) (h2:2≤D.n) (hd:D.down=false) :
  ∃ j v cells N h',CD 21 [ptr d 0] h=some (.tuple #[ptr j 0,v,.int .i64 0],h')∧aX h' d D.opened∧cC h' j d D.jn∧cl h' N 2 v D.entries.length cells∧dx h' N cells D.entries∧Kept h h' (fun c=>c=d)∧h.next≤j∧j<N∧N≤h'.next:=by
 have hf:D.fault 0=0:=by unfold Dk.fault;rw [hd,if_neg (by simp),if_neg (by omega)]
 have e53:CD 53 [ptr d 0,.int .i64 0] h=some (.int .i64 0,h):=dP (by rw [X53,s53_at 0 x,hf])
 have hst:=x.s5 (IntKind.wrap .i64 (D.bw+1))
 have x1:aX (h.set d D.opened.gQ) d D.opened:=x.setHdr ⟨rfl,rfl,rfl⟩ x.after x.aG
 have hst:bK 1 (ptr d 5) (.int .i64 (IntKind.wrap .i64 (D.bw+1))) h=some (undef,h.set d D.opened.gQ):=hst
 have k1:Kept h (h.set d D.opened.gQ) (fun c=>c=d):=Kept.set x.dn x.gQ (.inr rfl)
 have hn1:(h.set d D.opened.gQ).next=h.next:=rfl
 have hdlt:=x.lt
 generalize hh1:h.set d D.opened.gQ=h1 at *
 have hl5:aV (ptr d 5) h1=some (.int .i64 D.opened.bw,h1):=x1.l5
 have hbl:ff [(.pointer none),(.int .i64 0),(.int .i64 0),(.int .i64 0),(.int .u64 0),(.int .u64 0),(.bool false),(.int .i64 0)] [(0,1,ptr d 0),(1,1,.int .i64 D.opened.bw),(2,1,(.int .i64 (-1)))]=some (.agg ((D.opened.jn0 D.opened.bw).cells d).toArray):=rfl
 have hbox:=box_at h1 ((D.opened.jn0 D.opened.bw).cells d) rfl
 have oA:Old h1 (h1.alloc ((D.opened.jn0 D.opened.bw).cells d)):=Kept.alloc _ _ _
 have xA:=Old.dk oA x1
 have jA:cC (h1.alloc ((D.opened.jn0 D.opened.bw).cells d)) h1.next d (D.opened.jn0 D.opened.bw):=⟨by rw [af.aD,if_pos rfl],h1.aF,by show (0:Nat)≤1;omega⟩
 have nA:(h1.alloc ((D.opened.jn0 D.opened.bw).cells d)).next=h1.next+1:=af.aW ..
 have kA:Kept h (h1.alloc ((D.opened.jn0 D.opened.bw).cells d)) (fun c=>c=d):=k1.bM oA (fun _ _ h=>h.elim)
 have h2':2≤D.opened.n:=h2
 have hr:(131:Nat)<rounds:=by have:rounds=18446744073709551616:=rfl;omega
 generalize hhA:h1.alloc ((D.opened.jn0 D.opened.bw).cells d)=hA at *
 have key : ∀ o:Out,t21 CD (ptr d 0) h=o → ∃ v cells N h',o=some (.tuple #[ptr h1.next 0,v,.int .i64 0],h')∧aX h' d D.opened∧cC h' h1.next d D.jn∧cl h' N 2 v D.entries.length cells∧dx h' N cells D.entries∧Kept h h' (fun c=>c=d)∧h1.next<N∧N≤h'.next:=by
  intro o ho
  subst ho
  unfold t21
  simp -implicitDefEqProofs only [ae,e53,aj,cW,bne_self_eq_false,aH,ax,Nat.zero_add,x.l5,dM,hst,hl5,hbl,hbox]
  refine cy (Q:=fun (o:Out) => ∃ v cells N h',o=some (.tuple #[ptr h1.next 0,v,.int .i64 0],h')∧aX h' d D.opened∧cC h' h1.next d D.jn∧cl h' N 2 v D.entries.length cells∧dx h' N cells D.entries∧Kept h h' (fun c=>c=d)∧h1.next<N∧N≤h'.next)
   (ct (t21l21_1111010_eq CD) (slot_round xA jA h2') 2 (by omega) ⟨D.opened.jn0 D.opened.bw,rfl,rfl,jA,Kept.refl _ _,.inl ⟨rfl,rfl,rfl⟩⟩) ?_
  rintro ex y g ⟨rfl,f0,f6,fJ,fk⟩
  have xg:aX g d D.opened:=fk.dk xA (fun h=>(jA.ne_d xA) h.symm) (fun h=>(jA.ne_bb xA) h.symm)
  have kg:Kept h g (fun c=>c=d):=kA.bM fk (fun c hc he=>by omega)
  have hgn:h1.next<g.next:=by have:=fk.next;omega
  simp -implicitDefEqProofs only [bG,b21_9,if_true,t21k21_7_eq]
  unfold t21k21_7
  simp -implicitDefEqProofs only [ae]
  refine cy (Q:=fun (o:Out) => ∃ v cells N h',o=some (.tuple #[ptr h1.next 0,v,.int .i64 0],h')∧aX h' d D.opened∧cC h' h1.next d D.jn∧cl h' N 2 v D.entries.length cells∧dx h' N cells D.entries∧Kept h h' (fun c=>c=d)∧h1.next<N∧N≤h'.next)
   (ct (t21l21_111111010_eq CD) (ent_round xg fJ h2') D.opened.ar (by have:rounds=18446744073709551616:=rfl;have:=xg.small;unfold Dk.ar;omega) ⟨0,[],[],f0,f6,rfl,cl.nil _ _ _,dx.nil _ _,Kept.refl _ _,Nat.zero_le _,by omega,rfl,Nat.le_refl _⟩) ?_
  rintro ex z g2 ⟨rfl,q6,cells,q1,q2,q3⟩
  refine ⟨z 14,cells,g.next,g2,?_,Old.dk q3 xg,fJ.aG q3 (fun h=>h),q1,q2,kg.bM q3 (fun _ _ h=>h.elim),hgn,q3.next⟩
  simp -implicitDefEqProofs only [bG,b21_13,if_true,t21k21_11_eq]
  unfold t21k21_11
  simp -implicitDefEqProofs only [ae,q6]
 obtain ⟨v,cells,N,h',e,a1,a2,a3,a4,a5,a6,a7⟩:=key _ rfl
 exact ⟨h1.next,v,cells,N,h',aK is21 rfl ((t21_eq _ _ _).trans e),a1,a2,a3,a4,a5,by omega,a6,a7⟩
end Go.Proofs.Ytcmfgmhadeeieaa

namespace Go.Proofs.Ytcmfgmhadeeieaa
open Go Go.Abs
def RecsG (h:af) (F:Nat→Prop) (v:Value) (vals:List (List Nat)):Prop:=
 ∃ a c,v = .slice a vals.length c ∧ ∀ i r,vals[i]? = some r → ∃ b off s k ai ni ci,a=some ⟨b,off,s⟩∧h.get b=some k ∧ ¬F b∧k[off+i]? = some (.slice ai ni ci)∧av ai ni h=some r∧cU ai ni ci=true ∧ ∀ y,ai=some y→0<ni → ¬F y.block
theorem RecsG.aG {h h':af} {F B:Nat→Prop} {v:Value} {vals:List (List Nat)} (R:RecsG h F v vals) (k:Kept h h' B) (hB : ∀ c,B c→F c∨h.next≤c):RecsG h' F v vals:=by
 obtain ⟨a,c,rfl,hR⟩:=R
 refine ⟨a,c,rfl,fun i r hi => ?_⟩
 obtain ⟨b,off,s,kk,ai,ni,ci,h1,h2,h3,h4,h5,h6,h7⟩:=hR i r hi
 refine ⟨b,off,s,kk,ai,ni,ci,h1,k.cB h2 (fun hb=>(hB b hb).elim h3 (fun h8=>by have:=h.aS h2;omega)),h3,h4,k.bytes h5 (fun y hy hn hb => ?_),h6,h7⟩
 rcases hB _ hb with h8|h8
 ·exact h7 y hy hn h8
 ·subst hy
  obtain ⟨b',o',s',e,hlt⟩:=er h5 hn
  cases e
  have:h.next≤b':=h8
  omega
theorem RecsG.at {h:af} {F:Nat→Prop} {v:Value} {vals:List (List Nat)} (R:RecsG h F v vals) {i:Nat} {r:List Nat} (hi:vals[i]? = some r) :
  ∃ p a n c,bV 1 v (ao i)=some p∧aV p h=some (.slice a n c,h)∧av a n h=some r∧cU a n c=true∧(∀ y,a=some y→0<n → ¬F y.block)∧cK v=some (ao vals.length):=by
 obtain ⟨a,c,rfl,hR⟩:=R
 obtain ⟨b,off,s,kk,ai,ni,ci,rfl,h2,h3,h4,h5,h6,h7⟩:=hR i r hi
 have hl:=(List.getElem?_eq_some_iff.1 hi).1
 refine ⟨ptr b (off+i*1),ai,ni,ci,?_,?_,h5,h6,h7,rfl⟩
 ·unfold bV
  simp only [ao]
  rw [if_pos (by omega),Int.toNat_natCast]
 ·rw [Nat.mul_one];exact aJ h2 h4
theorem RecsG.len {h:af} {F:Nat→Prop} {v:Value} {vals:List (List Nat)} (R:RecsG h F v vals):cK v=some (ao vals.length):=by
 obtain ⟨a,c,rfl,hR⟩:=R
 rfl
def aP (vals:List (List Nat)):Nat:=(vals.map fun r=>a8 r.length).sum
theorem recsTot_take {vals:List (List Nat)} {i:Nat} {r:List Nat} (hi:vals[i]? = some r):aP (vals.take (i+1))=aP (vals.take i)+a8 r.length:=by
 unfold aP
 rw [List.take_add_one,hi]
 simp
theorem recsTot_le (vals:List (List Nat)) (i:Nat):aP (vals.take i)≤aP vals:=by
 have h:=congrArg aP (List.take_append_drop i vals)
 unfold aP at *
 rw [List.map_append,List.sum_append] at h
 omega
section
variable {h0:af} {d j:Nat} {D:Dk} {J:Jn} {F:Nat→Prop} {v:Value} {vals:List (List Nat)} (x:aX h0 d D) (xj:cC h0 j d J) (h2:2≤D.n) (R:RecsG h0 F v vals) (hlen:vals.length≤100000)
def needInv (h0:af) (j:Nat) (D:Dk) (v:Value) (vals:List (List Nat)) (k:Nat) (y:Nat→Value) (g:af):Prop:=
 g=h0 ∧ ∃ i,i+k=vals.length∧y 0=ptr j 0∧y 1=v∧y 26=v∧y 27=ao vals.length∧y 28=ao i∧y 7=ao (min (aP (vals.take i)) 4096)∧y 8 = .bool (decide (D.ar<aP (vals.take i))) ∧ ∀ r∈vals.take i,r.length≤20000
def needFin (h0:af) (j:Nat) (D:Dk) (v:Value) (vals:List (List Nat)) (ex:Ex) (y:Nat→Value) (g:af):Prop:=
 g=h0∧((ex = .ret∧y 4 = .slice none 0 0∧y 5 = .int .i64 3 ∧ ∃ r∈vals,20000<r.length)∨(ex = .exit 0∧y 0=ptr j 0∧y 1=v∧y 8 = .bool (decide (D.ar<aP vals)) ∧ ∀ r∈vals,r.length≤20000))
include x xj h2 R hlen
theorem need_round : ∀ k y g,needInv h0 j D v vals k y g→c8 151 (needInv h0 j D v vals) (needFin h0 j D v vals) k (t23l23_111010 CD y g):=by
 rintro k y g ⟨rfl,i,hik,i0,i1,i26,i27,i28,i7,i8,hall⟩
 have hsm:=x.small
 have har:D.ar=(D.n-2)/2:=rfl
 unfold t23l23_111010
 simp -implicitDefEqProofs only [i28,i27,gH,aj,ae]
 by_cases hz:k=0
 ·subst hz
  have hi:i=vals.length:=by omega
  subst hi
  rw [List.take_length] at i8 hall
  simp -implicitDefEqProofs only [Nat.lt_irrefl,decide_false]
  exact c8.out 0 ⟨rfl,.inr ⟨rfl,i0,i1,i8,hall⟩⟩
 ·obtain ⟨q,rfl⟩ : ∃ q,k=q+1:=⟨k-1,by omega⟩
  have hlt:i<vals.length:=by omega
  have hi:vals[i]? = some vals[i]:=List.getElem?_eq_getElem hlt
  generalize vals[i]=r at hi
  obtain ⟨p,a,n,c,e1,e2,e3,e4,e5,e6⟩:=R.at hi
  have hrl:=(aB e3).1
  have hg : ∀ z:Nat,bin Try.prog .gtr 3 (ao z) (.int .i64 20000)=some (.bool (decide (20000<z))):=fun z=>gtr3k z 20000
  simp -implicitDefEqProofs only [decide_eq_true hlt,i26,e1,e2,aj,ae,bO]
  rw [show (Value.int .i64 (n:Int))=ao n from rfl]
  simp -implicitDefEqProofs only [hg,aj,ae]
  by_cases hlong:20000<n
  ·simp -implicitDefEqProofs only [decide_eq_true hlong]
   exact c8.ret ⟨rfl,.inl ⟨rfl,rfl,rfl,r,List.mem_of_getElem? hi,by omega⟩⟩
  ·have hcl:=fC (n:=n) (by omega)
   have htk:=recsTot_take hi
   rw [hrl] at htk
   have hmn:dC false (ao (min (aP (vals.take i)) 4096+a8 n)) [.int .i64 4096]=some (ao (min (aP (vals.take (i+1))) 4096)):=by
    simp only [dC,ao,if_true,Bool.false_eq_true,if_false]
    by_cases hc:(4096:Int)<((min (aP (vals.take i)) 4096+a8 n:Nat):Int)
    ·rw [if_pos (by simpa using hc),Nat.min_eq_right (by omega)];rfl
    ·rw [if_neg (by simpa using hc)]
     exact congrArg (fun z:Nat=>some (Value.int .i64 (z:Int))) (by omega)
   simp -implicitDefEqProofs only [decide_eq_false hlong,i7,r15 n g (by omega),ae,gW (show min (aP (vals.take i)) 4096+a8 n≤9223372036854775807 by omega),aj,hmn,i8,az]
   have hall2 : ∀ r'∈vals.take (i+1),r'.length≤20000:=by
    intro r' hr'
    rw [List.take_add_one,hi] at hr'
    rcases List.mem_append.1 hr' with h|h
    ·exact hall r' h
    ·have:r'=r:=by simpa using h
     rw [this];omega
   by_cases hf:D.ar<aP (vals.take i)
   ·simp -implicitDefEqProofs only [decide_eq_true hf,sf,aE,ae,if_true,dJ (show i+1≤9223372036854775807 by omega),aj]
    refine c8.next q (by omega) ⟨rfl,i+1,by omega,i0,i1,i26,i27,rfl,rfl,?_,hall2⟩
    have:D.ar<aP (vals.take (i+1)):=by omega
    rw [decide_eq_true this];rfl
   ·have hgf:decide (D.ar<min (aP (vals.take (i+1))) 4096)=decide (D.ar<aP (vals.take (i+1))):=decide_eq_decide.2 (by omega)
    simp -implicitDefEqProofs only [decide_eq_false hf,beq_self_eq_true,ay,ae,i0,aH,aj,ax,Nat.zero_add,xj.l0,r55 x h2,gtr3,hgf,Bool.false_eq_true,if_false,dJ (show i+1≤9223372036854775807 by omega)]
    exact c8.next q (by omega) ⟨rfl,i+1,by omega,i0,i1,i26,i27,rfl,rfl,rfl,hall2⟩
end
def Dk.cj (aq gen:Nat):List (List Nat)→Nat→Dk→List Nat→Int×Dk×Nat×List Nat
 | [],at_,D,ps=>(0,D,at_,ps)
 |r::rs,at_,D,ps=>if (D.cd aq gen at_ r).1=0 then Dk.cj aq gen rs (at_+a8 r.length) (D.cd aq gen at_ r).2 (ps ++ [at_]) else ((D.cd aq gen at_ r).1,(D.cd aq gen at_ r).2,at_,ps)
def rwF (j d:Nat) (D:Dk) (c:Nat):Prop:=c=j∨c=d∨c=D.bb
section
variable {h0:af} {d j:Nat} {D:Dk} {J:Jn} {v:Value} {vals:List (List Nat)} {aq gen:Nat} {slot:Int} (x:aX h0 d D) (xj:cC h0 j d J) (h2:2≤D.n) (R:RecsG h0 (rwF j d D) v vals) (hlen:vals.length≤100000)
 (ha:aq≤1) (hg:gen<18446744073709551616) (htot:aP vals≤D.ar) (hall : ∀ r∈vals,r.length≤20000)
def rwInv (h0:af) (N d j:Nat) (D:Dk) (v:Value) (vals:List (List Nat)) (aq gen:Nat) (slot:Int) (k:Nat) (y:Nat→Value) (g:af):Prop:=
 ∃ i E ps,i+k=vals.length∧y 0=ptr j 0∧y 81=v∧y 82=ao vals.length∧y 83=ao i∧y 11=ao aq∧y 12 = .int .i64 slot∧y 13 = .int .u64 gen∧y 14=ao (aP (vals.take i))∧ps.length=i∧cl g N 1 (y 15) i (ps.map ao)∧aX g d E∧E.bb=D.bb∧E.n=D.n ∧
   cq d D.bb h0 g∧Dk.cj aq gen (vals.drop i) (aP (vals.take i)) E ps=Dk.cj aq gen vals 0 D []
def rwFin (h0:af) (N d j:Nat) (D:Dk) (vals:List (List Nat)) (aq gen:Nat) (slot:Int) (ex:Ex) (y:Nat→Value) (g:af):Prop:=
 aX g d (Dk.cj aq gen vals 0 D []).2.1∧(Dk.cj aq gen vals 0 D []).2.1.bb=D.bb∧(Dk.cj aq gen vals 0 D []).2.1.n=D.n∧cq d D.bb h0 g ∧
  ((ex = .ret∧y 4 = .slice none 0 0∧y 5 = .int .i64 (Dk.cj aq gen vals 0 D []).1∧(Dk.cj aq gen vals 0 D []).1≠0) ∨
   (ex = .exit 2∧y 0=ptr j 0∧y 11=ao aq∧y 12 = .int .i64 slot∧y 13 = .int .u64 gen∧(Dk.cj aq gen vals 0 D []).1=0∧(Dk.cj aq gen vals 0 D []).2.2.1=aP vals∧y 14=ao (aP vals)∧(Dk.cj aq gen vals 0 D []).2.2.2.length=vals.length ∧
    cl g N 1 (y 15) vals.length ((Dk.cj aq gen vals 0 D []).2.2.2.map ao)))
include x xj h2 R hlen ha hg htot hall
theorem rw_round : ∀ k y g,rwInv h0 h0.next d j D v vals aq gen slot k y g→c8 151 (rwInv h0 h0.next d j D v vals aq gen slot) (rwFin h0 h0.next d j D vals aq gen slot) k (fu CD y g):=by
 rintro k y g ⟨i,E,ps,hik,i0,i81,i82,i83,i11,i12,i13,i14,hps,own,xg,hEb,hEn,hk,hrw⟩
 have hsm:=x.small
 have hdl:=x.lt
 have hbl:=x.blt
 have har:D.ar=(D.n-2)/2:=rfl
 have jg:cC g j d J:=xj.aG hk (fun h=>h.elim (xj.ne_d x) (xj.ne_bb x))
 have Rg:RecsG g (rwF j d D) v vals:=R.aG hk (fun c hc => .inl (.inr hc))
 unfold fu
 simp -implicitDefEqProofs only [i83,i82,gH,aj,ae]
 by_cases hz:k=0
 ·subst hz
  have hi:i=vals.length:=by omega
  subst hi
  rw [List.drop_length,List.take_length] at hrw
  rw [List.take_length] at i14
  have hrw:(0,E,aP vals,ps)=Dk.cj aq gen vals 0 D []:=hrw
  simp -implicitDefEqProofs only [Nat.lt_irrefl,decide_false]
  refine c8.out 2 ?_
  unfold rwFin
  rw [←hrw]
  exact ⟨xg,hEb,hEn,hk,.inr ⟨rfl,i0,i11,i12,i13,rfl,rfl,i14,hps,own⟩⟩
 ·obtain ⟨q,rfl⟩ : ∃ q,k=q+1:=⟨k-1,by omega⟩
  have hlt:i<vals.length:=by omega
  have hi:vals[i]? = some vals[i]:=List.getElem?_eq_getElem hlt
  have hdrop:vals.drop i=vals[i]::vals.drop (i+1):=(List.getElem_cons_drop hlt).symm
  have hr20:=hall vals[i] (List.getElem_mem hlt)
  rw [hdrop] at hrw
  generalize hrr:vals[i]=r at hi hrw hr20
  obtain ⟨p,a,n,c,e1,e2,e3,e4,e5,e6⟩:=Rg.at hi
  have hrl:=(aB e3).1
  have htk:=recsTot_take hi
  have htl:=recsTot_le vals (i+1)
  have hcl:=fC (n:=r.length) (by omega)
  obtain ⟨g1,f1,x1,b1,n1,k1⟩:=r59 xg jg (by omega) ha hg (at_:=aP (vals.take i)) (by omega) e3 e4 (by omega) (fun y hy hn hb=>e5 y hy hn (.inr (.inr (hb.trans hEb))))
  have hrw2:(if (E.cd aq gen (aP (vals.take i)) r).1=0 then Dk.cj aq gen (vals.drop (i+1)) (aP (vals.take i)+a8 r.length) (E.cd aq gen (aP (vals.take i)) r).2 (ps ++ [aP (vals.take i)]) else ((E.cd aq gen (aP (vals.take i)) r).1,(E.cd aq gen (aP (vals.take i)) r).2,aP (vals.take i),ps))=Dk.cj aq gen vals 0 D []:=hrw
  rw [hEb] at b1 k1
  have kk1:cq d D.bb h0 g1:=hk.trans k1
  generalize hA:aP (vals.take i)=A at *
  simp -implicitDefEqProofs only [decide_eq_true hlt,i81,e1,e2,aj,ae,i0,i11,i13,i14,f1,cW]
  by_cases hz2:(E.cd aq gen A r).1=0
  ·rw [if_pos hz2] at hrw2
   have hne:((E.cd aq gen A r).1 != 0)=false:=by rw [hz2];rfl
   have own1:cl g1 h0.next 1 (y 15) i (ps.map ao):=own.aG k1 (fun b hb hc=>by
    have:=own.base hb
    rcases hc with hc|hc<;>omega)
   have oA:Old g1 (g1.alloc [ao A]):=Kept.alloc _ _ _
   have gA:(g1.alloc [ao A]).get g1.next=some [ao A]:=by rw [af.aD,if_pos rfl]
   have hbs:dY 1 (.int .i64 0) 1 [(0,ao A)] g1=some (.slice (some ⟨g1.next,0,none⟩) 1 1,g1.alloc [ao A]):=rfl
   have own2:=own1.aG oA (fun _ _ h=>h)
   have x2:=Old.dk oA x1
   have kk2:cq d D.bb h0 (g1.alloc [ao A]):=kk1.bM oA (fun _ _ h=>h.elim)
   generalize hgA:g1.alloc [ao A]=g2 at *
   have hfA:bY 1 1 (.slice (some ⟨g1.next,0,none⟩) 1 1) g2=some [ao A]:=by
    simp only [bY,gA]
    rfl
   obtain ⟨v',g3,q1,q2,q3,q4⟩:=append_own (by_:=8) (x := .slice (some ⟨g1.next,0,none⟩) 1 1) (m:=1) own2 (by rw [kk2.n0];exact h0.aF) kk2.next (by decide) rfl hfA rfl rfl rfl (by omega) (by omega)
   have x3:aX g3 d (E.cd aq gen A r).2:=q3.dk x2 (fun h=>by have:=own2.base h.1;omega) (fun h=>by have:=own2.base h.1;rw [b1] at this;omega)
   have kk3:cq d D.bb h0 g3:=⟨q3.n0.trans kk2.n0,Nat.le_trans kk2.next q3.next,fun e he hc=>
    (q3.get e (Nat.lt_of_lt_of_le he kk2.next) (fun h=>by have:=own2.base h.1;omega)).trans (kk2.get e he hc)⟩
   rw [hrl] at htk hcl hrw2
   have hpl:(ps ++ [A]).length=i+1:=by simp [hps]
   have hmap:(ps ++ [A]).map ao=ps.map ao ++ [ao A]:=by simp
   simp -implicitDefEqProofs only [hne,ae,hbs,q1,bO,aj]
   rw [show (Value.int .i64 (n:Int))=ao n from rfl]
   simp -implicitDefEqProofs only [r15 n g3 (by omega),ae,gW (show A+a8 n≤9223372036854775807 by omega),dJ (show i+1≤9223372036854775807 by omega),aj]
   refine c8.next q (by omega) ⟨i+1,_,ps ++ [A],by omega,i0,i81,i82,rfl,i11,i12,i13,?_,hpl,by rw [hmap];exact q2,x3,b1,n1.trans hEn,kk3,?_⟩
   ·show ao (A+a8 n)=_
    rw [htk]
   ·rw [htk];exact hrw2
  ·rw [if_neg hz2] at hrw2
   have hne:((E.cd aq gen A r).1 != 0)=true:=by rw [bne_iff_ne];exact hz2
   simp -implicitDefEqProofs only [hne,ae]
   refine c8.ret ?_
   unfold rwFin
   rw [←hrw2]
   exact ⟨x1,b1,n1.trans hEn,kk1,.inl ⟨rfl,rfl,rfl,hz2⟩⟩
end
end Go.Proofs.Ytcmfgmhadeeieaa

namespace Go.Proofs.Ytcmfgmhadeeieaa
open Go Go.Abs
def ie (gen aq:Nat):List Nat:=fP 4 1398034252++fP 8 gen++fP 1 aq
def dr (gen aq:Nat):List Nat:=ic (ie gen aq)
def Jn.aM (J:Jn):Nat:=if 0≤J.slot then 1-J.aq else 0
def Jn.bq (J:Jn):Int:=if 0≤J.slot then 1-J.slot else 0
def Jn.rewrite (J:Jn) (D:Dk) (vals:List (List Nat)):Int×Dk×Jn×List Nat:=
 if J.live D=false then (9,D,J,[]) else
 if (vals.any fun r=>decide (20000<r.length))=true then (3,D,J,[]) else
 if D.ar<aP vals∨J.known=18446744073709551615 then (8,D,J,[]) else
 if (Dk.cj J.aM (J.known+1) vals 0 D []).1=0 then
  if ((Dk.cj J.aM (J.known+1) vals 0 D []).2.1.write J.bq (dr (J.known+1) J.aM)).1=0 then
   (0,((Dk.cj J.aM (J.known+1) vals 0 D []).2.1.write J.bq (dr (J.known+1) J.aM)).2,
     { bw:=J.bw,slot:=J.bq,aq:=J.aM,gen:=J.known+1,known:=J.known+1,ready:=true,fin:=aP vals },(Dk.cj J.aM (J.known+1) vals 0 D []).2.2.2)
  else (((Dk.cj J.aM (J.known+1) vals 0 D []).2.1.write J.bq (dr (J.known+1) J.aM)).1,((Dk.cj J.aM (J.known+1) vals 0 D []).2.1.write J.bq (dr (J.known+1) J.aM)).2,J,[])
 else ((Dk.cj J.aM (J.known+1) vals 0 D []).1,(Dk.cj J.aM (J.known+1) vals 0 D []).2.1,J,[])
theorem Jn.newArea_le (J:Jn):J.aM≤1:=by unfold Jn.aM;split<;>omega
def RwPost (h:af) (d j:Nat) (D:Dk) (J:Jn) (vals:List (List Nat)) (o:Out):Prop:=
 ∃ v h',o=some (.tuple #[v,.int .i64 (J.rewrite D vals).1],h')∧aX h' d (J.rewrite D vals).2.1∧(J.rewrite D vals).2.1.bb=D.bb∧(J.rewrite D vals).2.1.n=D.n∧cC h' j d (J.rewrite D vals).2.2.1∧JdOnly j d D.bb h h' ∧
   cl h' h.next 1 v (J.rewrite D vals).2.2.2.length ((J.rewrite D vals).2.2.2.map ao)
theorem is23:ch Try.prog 23 Try.f23:=⟨by kernel_rfl,by kernel_rfl,by kernel_rfl,by kernel_rfl⟩
theorem results23:Try.f23.results.toList = [.tmp 4,.tmp 5]:=by kernel_rfl
theorem res23 (y:Nat→Value) (g:af):al Try.prog Try.f23.results.toList (aZ 151 y) g=some (.tuple #[y 4,y 5],g):=by
 have h4:(aZ 151 y).getD 4 undef=y 4:=rfl
 have h5:(aZ 151 y).getD 5 undef=y 5:=rfl
 rw [results23]
 simp only [al,List.mapM_cons,List.mapM_nil,dS,h4,h5]
 rfl
theorem cl.keepL {h h':af} {N size:Nat} {v:Value} {len:Nat} {cells:List Value} (o:cl h N size v len cells) {B:Nat→Prop} (k:Kept h h' B) (hB : ∀ b,dX v=some b→b<h.next → ¬B b):cl h' N size v len cells:=by
 obtain ⟨h1,h2,h3,h4⟩:=o
 refine ⟨h1,h2,h3,?_⟩
 rcases h4 with h4|⟨b,s,rfl,h5,h6|⟨h6,h7⟩⟩
 ·exact .inl h4
 ·exact .inr ⟨b,s,rfl,h5,.inl h6⟩
 ·exact .inr ⟨b,s,rfl,h5,.inr ⟨h6,k.cB h7 (hB b rfl (h.aS h7))⟩⟩
section
variable {h:af} {d j:Nat} {D:Dk} {J:Jn} {v:Value} {vals:List (List Nat)} (x:aX h d D) (xj:cC h j d J) (h2:2≤D.n) (ok:JnOk J D) (R:RecsG h (rwF j d D) v vals) (hlen:vals.length≤100000)
include x xj h2 ok R hlen
omit h2 ok R hlen in
theorem rw_end (hl:J.live D=true) (h20 : ∀ r∈vals,r.length≤20000) (htot:aP vals≤D.ar) (hkn:J.known<18446744073709551615) {y:Nat→Value} {g:af} (i0:y 0=ptr j 0) (i11:y 11=ao J.aM) (i12:y 12 = .int .i64 J.bq) (i13:y 13 = .int .u64 ((J.known+1:Nat):Int)) (i14:y 14=ao (aP vals))
  (hz:(Dk.cj J.aM (J.known+1) vals 0 D []).1=0) (xg:aX g d (Dk.cj J.aM (J.known+1) vals 0 D []).2.1) (hbb:(Dk.cj J.aM (J.known+1) vals 0 D []).2.1.bb=D.bb) (hn:(Dk.cj J.aM (J.known+1) vals 0 D []).2.1.n=D.n)
  (hk:cq d D.bb h g) (own:cl g h.next 1 (y 15) vals.length ((Dk.cj J.aM (J.known+1) vals 0 D []).2.2.2.map ao)) (hpl:(Dk.cj J.aM (J.known+1) vals 0 D []).2.2.2.length=vals.length):RwPost h d j D J vals (t23k23_16 CD y g):=by
 have hany:(vals.any fun r=>decide (20000<r.length))=false:=by
  rw [List.any_eq_false]
  intro r hr
  have:=h20 r hr
  simp;omega
 have hful : ¬(D.ar<aP vals∨J.known=18446744073709551615):=by omega
 have hrw:J.rewrite D vals=if ((Dk.cj J.aM (J.known+1) vals 0 D []).2.1.write J.bq (dr (J.known+1) J.aM)).1=0 then
   (0,((Dk.cj J.aM (J.known+1) vals 0 D []).2.1.write J.bq (dr (J.known+1) J.aM)).2,
     { bw:=J.bw,slot:=J.bq,aq:=J.aM,gen:=J.known+1,known:=J.known+1,ready:=true,fin:=aP vals },(Dk.cj J.aM (J.known+1) vals 0 D []).2.2.2)
  else (((Dk.cj J.aM (J.known+1) vals 0 D []).2.1.write J.bq (dr (J.known+1) J.aM)).1,((Dk.cj J.aM (J.known+1) vals 0 D []).2.1.write J.bq (dr (J.known+1) J.aM)).2,J,[]):=by
  unfold Jn.rewrite
  rw [hl,hany,if_neg (by decide),if_neg (by decide),if_neg hful,if_pos hz]
 have hsm:=x.small
 have hdl:=x.lt
 have hbl:=x.blt
 have hjl:=xj.lt
 have hNg:=hk.next
 have jg:cC g j d J:=xj.aG hk (fun h=>h.elim (xj.ne_d x) (xj.ne_bb x))
 have harea:=J.newArea_le
 generalize hE:(Dk.cj J.aM (J.known+1) vals 0 D []).2.1=E at *
 generalize hps:(Dk.cj J.aM (J.known+1) vals 0 D []).2.2.2=ps at *
 obtain ⟨g1,e1,W1,k1⟩:=r60 g (lim:=124) (by decide)
 have e1:CD 60 [.int .i64 124] g=_:=e1
 obtain ⟨g2,e2,W2,k2⟩:=r61 W1 (v:=1398034252) (by simp) (by decide)
 have e2:CD 61 [ptr g.next 0,.int .u32 1398034252] g1=_:=e2
 obtain ⟨g3,e3,W3,k3⟩:=r62 W2 (v:=J.known+1) (by simp [bp]) (by omega)
 obtain ⟨g4,e4,W4,k4⟩:=r63 W3 (v:=J.aM) (by simp [bp]) (by omega)
 have hbody : []++fP 4 1398034252++fP 8 (J.known+1)++fP 1 J.aM=ie (J.known+1) J.aM:=by
  unfold ie;rw [List.nil_append]
 rw [hbody] at W4
 have k14:Abv g.next g g4:=((k1.trans k2).trans k3).trans k4
 have j4:cC g4 j d J:=jg.aG k14 (by omega)
 have x4:aX g4 d E:=k14.dk xg (by omega) (by omega)
 obtain ⟨B,g5,e5,s5,k5,hB⟩:=r64 W4 (by simp [ie,bp])
 have j5:cC g5 j d J:=j4.aG k5 (fun h=>h)
 have x5:=Old.dk k5 x4
 obtain ⟨e6,x6,b6,n6,k6⟩:=r19 x5 J.bq (c:=128) s5 rfl
 have hsb:ic (ie (J.known+1) J.aM)=dr (J.known+1) J.aM:=rfl
 rw [hsb] at e6 x6 b6 n6 k6
 rw [hbb] at b6 k6
 have hbase : ∀ b,dX (y 15)=some b→h.next≤b:=fun b hb=>own.base hb
 have own4:cl g4 h.next 1 (y 15) vals.length (ps.map ao):=own.keepL k14 (fun b hb hlt hc=>by omega)
 have own6:=(own4.aG k5 (fun _ _ h=>h)).aG k6 (fun b hb hc=>by
  have:=hbase b hb
  rcases hc with hc|hc<;>omega)
 have kk6:cq d D.bb h (cV g5 d (E.write J.bq (dr (J.known+1) J.aM)).2):=((hk.bM k14 (fun c hc h=>by omega)).bM k5 (fun _ _ h=>h.elim)).trans k6
 have j6:cC (cV g5 d (E.write J.bq (dr (J.known+1) J.aM)).2) j d J:=j5.aG k6 (fun h=>h.elim (xj.ne_d x) (xj.ne_bb x))
 generalize hg6:cV g5 d (E.write J.bq (dr (J.known+1) J.aM)).2=g6 at *
 generalize hWW:E.write J.bq (dr (J.known+1) J.aM)=WW at *
 have cv8:cvI .u8 (ao J.aM) g3=some (.int .u8 (J.aM:Int),g3):=by
  unfold ao
  rw [df,wrap_u8 (by omega) (by omega)]
 have ck:=du (rfl:some (ptr d 0,g5)=some (ptr d 0,g5)) (show veq (ptr d 0) (ptr d 0)=true by simp [ptr,veq])
 unfold t23k23_16
 simp -implicitDefEqProofs only [ae,e1,e2,i13,e3,i11,cv8,e4,i0,aH,aj,ax,Nat.zero_add,j4.l0,i12,e5,e6,j5.l0,ck,Bool.and_true,cW]
 unfold RwPost
 by_cases hz2:WW.1=0
 ·rw [if_pos hz2] at hrw
  rw [hrw]
  have hne:(WW.1 != 0)=false:=by rw [hz2];rfl
  obtain ⟨q1,a1,b1,c1,d1⟩:=j6.st 2 (.int .i64 J.bq) { J with slot:=J.bq } (by decide) rfl rfl rfl xj.aq
  obtain ⟨q2,a2,b2,c2,d2⟩:=b1.st 3 (ao J.aM) { J with slot:=J.bq,aq:=J.aM } (by decide) rfl rfl rfl harea
  obtain ⟨q3,a3,b3,c3,d3⟩:=b2.st 4 (.int .u64 ((J.known+1:Nat):Int)) { J with slot:=J.bq,aq:=J.aM,gen:=J.known+1 } (by decide) rfl rfl rfl harea
  obtain ⟨q4,a4,b4,c4,d4⟩:=b3.st 5 (.int .u64 ((J.known+1:Nat):Int)) { J with slot:=J.bq,aq:=J.aM,gen:=J.known+1,known:=J.known+1 } (by decide) rfl rfl rfl harea
  obtain ⟨q5,a5,b5,c5,d5⟩:=b4.st 6 (.bool true) { J with slot:=J.bq,aq:=J.aM,gen:=J.known+1,known:=J.known+1,ready:=true } (by decide) rfl rfl rfl harea
  obtain ⟨q6,a6,b6',c6,d6⟩:=b5.st 7 (ao (aP vals)) { J with slot:=J.bq,aq:=J.aM,gen:=J.known+1,known:=J.known+1,ready:=true,fin:=aP vals } (by decide) rfl rfl rfl harea
  have kj:Kept g6 q6 (fun c=>c=j):=((((c1.trans c2).trans c3).trans c4).trans c5).trans c6
  simp -implicitDefEqProofs only [hne,ae,i0,i12,i11,i13,i14,aH,aj,ax,Nat.zero_add,a1,a2,a3,a4,a5,a6]
  refine ⟨_,_,rfl,kj.dk x6 (fun h=>(j6.ne_d x6) h.symm) (fun h=>(j6.ne_bb x6) h.symm),b6,n6.trans hn,b6',(cq.jd kk6).trans (kj.mono (fun c _ hc => .inl hc)),?_⟩
  show cl q6 h.next 1 (y 15) ps.length (ps.map ao)
  rw [hpl]
  exact own6.aG kj (fun b hb hc=>by have:=hbase b hb;omega)
 ·rw [if_neg hz2] at hrw
  rw [hrw]
  have hne:(WW.1 != 0)=true:=by rw [bne_iff_ne];exact hz2
  simp -implicitDefEqProofs only [hne,ae]
  exact ⟨_,_,rfl,x6,b6,n6.trans hn,j6,cq.jd kk6,cl.nil _ _ _⟩
theorem r23:RwPost h d j D J vals (CD 23 [ptr j 0,v] h):=by
 have key:RwPost h d j D J vals (t23 CD (ptr j 0) v h):=by
  have hdl:=x.lt
  have hbl:=x.blt
  have hjl:=xj.lt
  unfold t23
  simp -implicitDefEqProofs only [ae,r58 x xj,aj,cW]
  cases hl:J.live D with
  |false=>
   have hrw:J.rewrite D vals=(9,D,J,[]):=by unfold Jn.rewrite;rw [if_pos hl]
   unfold RwPost
   rw [hrw]
   simp -implicitDefEqProofs only [Bool.false_eq_true,if_false,show ((9:Int) != 0)=true from rfl,ae]
   exact ⟨_,h,rfl,x,trivial,trivial,xj,Kept.refl _ _,cl.nil _ _ _⟩
  |true=>
   simp -implicitDefEqProofs only [if_true,bne_self_eq_false,ae,R.len,aj]
   refine cy (Q:=fun (o:Out)=>RwPost h d j D J vals o)
    (ct (t23l23_111010_eq CD) (need_round x xj h2 R hlen) vals.length (by have:rounds=18446744073709551616:=rfl;omega)
     ⟨rfl,0,Nat.zero_add _,rfl,rfl,rfl,rfl,rfl,rfl,by show Value.bool false=_;rw [List.take_zero,decide_eq_false (by show ¬D.ar<0;omega)],by simp⟩) ?_
   rintro ex y g ⟨rfl,⟨rfl,y4,y5,r,hr,hlong⟩|⟨rfl,i0,i1,i8,h20⟩⟩
   ·have hany:(vals.any fun r=>decide (20000<r.length))=true:=by
     rw [List.any_eq_true]
     exact ⟨r,hr,by simpa using hlong⟩
    have hrw:J.rewrite D vals=(3,D,J,[]):=by unfold Jn.rewrite;rw [hl,if_neg (by decide),if_pos hany]
    unfold RwPost
    rw [hrw]
    refine ⟨_,g,?_,x,rfl,rfl,xj,Kept.refl _ _,cl.nil _ _ _⟩
    show al Try.prog Try.f23.results.toList (aZ 151 y) g=_
    rw [res23,y4,y5]
   ·have hany:(vals.any fun r=>decide (20000<r.length))=false:=by
     rw [List.any_eq_false]
     intro r hr
     have:=h20 r hr
     simp;omega
    simp -implicitDefEqProofs only [bG,b23_8,if_true,t23k23_6_eq]
    unfold t23k23_6
    simp -implicitDefEqProofs only [i8,ae,az]
    have full:D.ar<aP vals∨J.known=18446744073709551615→RwPost g d j D J vals (some (.tuple #[.slice none 0 0,.int .i64 8],g)):=by
     intro hf
     have hrw:J.rewrite D vals=(8,D,J,[]):=by unfold Jn.rewrite;rw [hl,hany,if_neg (by decide),if_neg (by decide),if_pos hf]
     unfold RwPost
     rw [hrw]
     exact ⟨_,g,rfl,x,rfl,rfl,xj,Kept.refl _ _,cl.nil _ _ _⟩
    by_cases hf:D.ar<aP vals
    ·simp -implicitDefEqProofs only [decide_eq_true hf,sf,aE,ae,if_true]
     exact full (.inl hf)
    ·have hkeq:bin Try.prog .eql 58 (.int .u64 (J.known:Int)) (.int .u64 18446744073709551615)=some (.bool (J.known==18446744073709551615)):=by
      rw [bZ]
      exact congrArg (fun q=>some (Value.bool q)) (int_beq J.known 18446744073709551615)
     simp -implicitDefEqProofs only [decide_eq_false hf,beq_self_eq_true,ay,ae,i0,aH,aj,ax,Nat.zero_add,xj.l5,hkeq,Bool.false_eq_true,if_false]
     by_cases hkm:J.known=18446744073709551615
     ·have:(J.known==18446744073709551615)=true:=by rw [hkm];rfl
      simp -implicitDefEqProofs only [this]
      exact full (.inr hkm)
     ·have hkf:(J.known==18446744073709551615)=false:=beq_eq_false_iff_ne.2 hkm
      have hkb:=ok.known
      have hkn:J.known<18446744073709551615:=by omega
      have hinc:bin Try.prog .add 58 (.int .u64 (J.known:Int)) (.int .u64 1)=some (.int .u64 ((J.known+1:Nat):Int)):=by
       rw [dM,eE (by omega) (by omega),Int.natCast_add];rfl
      have oA:Old g (g.alloc []):=Kept.alloc _ _ _
      have xA:=Old.dk oA x
      have jA:=xj.aG oA (fun h=>h)
      have RA:RecsG (g.alloc []) (rwF j d D) v vals:=R.aG oA (fun _ h=>h.elim)
      have nA:(g.alloc []).next=g.next+1:=af.aW ..
      have hbsl:dY 1 (.int .i64 0) 0 [] g=some (.slice (some ⟨g.next,0,none⟩) 0 0,g.alloc []):=rfl
      have run : ∀ z:Nat→Value,z 0=ptr j 0→z 81=v→z 82=ao vals.length→z 83=ao 0→z 11=ao J.aM→z 12 = .int .i64 J.bq→z 13 = .int .u64 ((J.known+1:Nat):Int)→z 14=ao 0→z 15 = .slice (some ⟨g.next,0,none⟩) 0 0 →
        RwPost g d j D J vals (dI (iter (aL Try.prog CD (partOf Try.f23 [1,1,1,1,1,1,1,1,0,1,0,0])) rounds (aZ 151 z) (g.alloc [])) (al Try.prog Try.f23.results.toList) (b23_18 CD)):=by
       intro z z0 z81 z82 z83 z11 z12 z13 z14 z15
       refine cy (Q:=fun (o:Out)=>RwPost g d j D J vals o)
        (ct (t23l23_11111111010_eq CD) (rw_round x xj h2 R hlen J.newArea_le (by omega) (by omega) h20) vals.length (by have:rounds=18446744073709551616:=rfl;omega)
         ⟨0,D,[],Nat.zero_add _,z0,z81,z82,z83,z11,z12,z13,by rw [z14];rfl,rfl,by rw [z15];exact cl.empty _ (Nat.le_refl _),xA,rfl,rfl,Kept.alloc _ _ _,by rw [List.drop_zero];rfl⟩) ?_
       rintro ex w q ⟨p1,p2,p3,p4,⟨rfl,p5,p6,p7⟩|⟨rfl,p5,p6,p7,p8,p9,p10,p11,p12,p13⟩⟩
       ·have hrw:J.rewrite D vals=((Dk.cj J.aM (J.known+1) vals 0 D []).1,(Dk.cj J.aM (J.known+1) vals 0 D []).2.1,J,[]):=by
         unfold Jn.rewrite
         rw [hl,hany,if_neg (by decide),if_neg (by decide),if_neg (by omega),if_neg p7]
        unfold RwPost
        rw [hrw]
        refine ⟨_,q,?_,p1,p2,p3,xj.aG p4 (fun h=>h.elim (xj.ne_d x) (xj.ne_bb x)),cq.jd p4,cl.nil _ _ _⟩
        show al Try.prog Try.f23.results.toList (aZ 151 w) q=_
        rw [res23,p5,p6]
       ·simp -implicitDefEqProofs only [bG,b23_18,if_true,t23k23_16_eq]
        exact rw_end x xj hl h20 (by omega) hkn p5 p6 p7 p8 p11 p9 p1 p2 p3 p4 p13 p12
      simp -implicitDefEqProofs only [hkf,ae,i0,aH,aj,ax,Nat.zero_add,xj.l5,hinc,xj.l2,c9]
      by_cases hsl:0≤J.slot
      ·have hna:J.aM=1-J.aq:=by unfold Jn.aM;rw [if_pos hsl]
       have hns:J.bq=1-J.slot:=by unfold Jn.bq;rw [if_pos hsl]
       have s1:bin Try.prog .sub 3 (.int .i64 1) (ao J.aq)=some (ao J.aM):=by rw [hna];exact sub3 (a:=1) xj.aq (by omega)
       have s2:bin Try.prog .sub 3 (.int .i64 1) (.int .i64 J.slot)=some (.int .i64 J.bq):=by
        have:=ok.slot
        rw [gU,bE (by omega) (by omega),hns]
       have hd:decide (J.slot≥0)=true:=decide_eq_true hsl
       simp -implicitDefEqProofs only [hd,ae,i0,aH,aj,ax,Nat.zero_add,xj.l3,xj.l2,s1,s2,hbsl,i1,R.len]
       exact run _ i0 rfl rfl rfl rfl rfl rfl rfl rfl
      ·have hna:J.aM=0:=by unfold Jn.aM;rw [if_neg hsl]
       have hns:J.bq=0:=by unfold Jn.bq;rw [if_neg hsl]
       have hd:decide (J.slot≥0)=false:=decide_eq_false hsl
       simp -implicitDefEqProofs only [hd,ae,hbsl,i1,R.len,aj]
       exact run _ i0 rfl rfl rfl (by rw [hna];rfl) (by rw [hns];rfl) rfl rfl rfl
 unfold RwPost at key ⊢
 obtain ⟨pv,h',e,f⟩:=key
 exact ⟨pv,h',aK is23 rfl ((t23_eq _ _ _ _).trans e),f⟩
end
end Go.Proofs.Ytcmfgmhadeeieaa

namespace Go.Proofs.Ytcmfgmhadeeieaa
open Go Go.Abs
theorem be_cons (x:Nat) : ∀ l:List Nat,be (x::l)=x*256^l.length+be l:=by
 have key : ∀ (l:List Nat) (a:Nat),l.foldl (fun v x=>v*256+x) a=a*256^l.length+be l:=by
  intro l
  induction l with
  |nil=>intro a;simp [be]
  |cons y l ih=>
   intro a
   have e1:be (y::l)=l.foldl (fun v x=>v*256+x) (0*256+y):=rfl
   rw [List.foldl_cons,ih,e1,ih,List.length_cons,Nat.pow_succ,Nat.add_mul,Nat.zero_mul,Nat.zero_add,Nat.mul_assoc,Nat.mul_comm 256,Nat.add_assoc]
 intro l
 have e1:be (x::l)=l.foldl (fun v x=>v*256+x) (0*256+x):=rfl
 rw [e1,key,Nat.zero_mul,Nat.zero_add]
theorem be_beB : ∀ n v,be (fP n v)=v%256^n
 | 0,v=>by simp [fP,be,Nat.mod_one]
 |n+1,v=>by
  rw [fP,be_cons,bp,be_beB n v,Nat.mod_pow_succ,Nat.mul_comm,Nat.add_comm]
theorem be_beB_lt {n v:Nat} (h:v<256^n):be (fP n v)=v:=by rw [be_beB,Nat.mod_eq_of_lt h]
theorem field {A F X:List Nat} {n m:Nat} (hA:A.length=n) (hF:F.length=m):((A++(F++X)).drop n).take m=F:=by
 rw [List.drop_left' hA,List.take_left' hF]
theorem right_seal {l:List Nat} (hb : ∀ x∈l,x<256):right (ic l)=true:=by
 have hb2 : ∀ x∈l++List.replicate (124-l.length) 0,x<256:=by
  intro x hx
  rcases List.mem_append.1 hx with hx|hx
  ·exact hb x hx
  ·rw [List.eq_of_mem_replicate hx];decide
 have hc:=crcN_lt hb2
 unfold right ic
 rw [List.take_left' (bp 4 _),List.drop_left' (bp 4 _),be_beB_lt (by omega)]
 exact beq_self_eq_true _
section
variable {gen at_ part parts:Nat} {data:List Nat} (hg:gen<18446744073709551616) (hat:at_<4294967296) (hp:part<65536) (hps:parts<65536) (hd:data.length≤106) (hb : ∀ x∈data,x<256)
theorem logBody_byte (hb : ∀ x∈data,x<256) : ∀ x∈fK gen at_ part parts data,x<256:=by
 intro x hx
 simp only [fK,List.mem_append] at hx
 rcases hx with ((((hx|hx)|hx)|hx)|hx)|hx
 ·exact beB_byte _ _ x hx
 ·exact beB_byte _ _ x hx
 ·exact beB_byte _ _ x hx
 ·exact beB_byte _ _ x hx
 ·exact beB_byte _ _ x hx
 ·exact hb x hx
theorem gF (gen at_ part parts:Nat) (data:List Nat) : ∃ C Z:List Nat,C.length=4∧di gen at_ part parts data=C++(fP 8 gen++(fP 4 at_++(fP 2 part++(fP 2 parts++(fP 2 data.length++(data++Z)))))):=by
 refine ⟨fP 4 (crcN (fK gen at_ part parts data++List.replicate (124-(fK gen at_ part parts data).length) 0)),List.replicate (124-(fK gen at_ part parts data).length) 0,bp 4 _,?_⟩
 simp only [di,ic,fK,List.append_assoc]
theorem logBlk_length (hd:data.length≤106):(di gen at_ part parts data).length=128:=sealB_length (by rw [logBody_length];omega)
theorem right_log (hb : ∀ x∈data,x<256):right (di gen at_ part parts data)=true:=right_seal (logBody_byte hb)
include hg in
theorem logGen_log:bL (di gen at_ part parts data)=gen:=by
 obtain ⟨C,Z,hC,e⟩:=gF gen at_ part parts data
 unfold bL
 rw [e,field hC (bp 8 _),be_beB_lt (by omega)]
include hat in
theorem logPlace_log:iG (di gen at_ part parts data)=at_:=by
 obtain ⟨C,Z,hC,e⟩:=gF gen at_ part parts data
 unfold iG
 rw [e,←List.append_assoc,field (by rw [List.length_append,hC,bp]) (bp 4 _),be_beB_lt (by omega)]
include hp in
theorem logPart_log:bA (di gen at_ part parts data)=part:=by
 obtain ⟨C,Z,hC,e⟩:=gF gen at_ part parts data
 unfold bA
 rw [e,←List.append_assoc,←List.append_assoc,field (by simp only [List.length_append,hC,bp]) (bp 2 _),be_beB_lt (by omega)]
include hps in
theorem logParts_log:aT (di gen at_ part parts data)=parts:=by
 obtain ⟨C,Z,hC,e⟩:=gF gen at_ part parts data
 unfold aT
 rw [e,←List.append_assoc,←List.append_assoc,←List.append_assoc,field (by simp only [List.length_append,hC,bp]) (bp 2 _),be_beB_lt (by omega)]
include hd in
theorem logSize_log:cn (di gen at_ part parts data)=data.length:=by
 obtain ⟨C,Z,hC,e⟩:=gF gen at_ part parts data
 unfold cn
 rw [e,←List.append_assoc,←List.append_assoc,←List.append_assoc,←List.append_assoc,field (by simp only [List.length_append,hC,bp]) (bp 2 _),be_beB_lt (by omega)]
include hd in
theorem logData_log:logData (di gen at_ part parts data)=data:=by
 have hs:=logSize_log (gen:=gen) (at_:=at_) (part:=part) (parts:=parts) hd
 obtain ⟨C,Z,hC,e⟩:=gF gen at_ part parts data
 unfold logData
 rw [hs,if_pos hd,e,←List.append_assoc,←List.append_assoc,←List.append_assoc,←List.append_assoc,←List.append_assoc,field (by simp only [List.length_append,hC,bp]) rfl]
include hat hp hps hd hb in
theorem logOk_log (at2:Nat) (h1:1≤parts) (h2:part<parts):dO at2 (di gen at_ part parts data)=(at_==at2):=by
 unfold dO
 rw [right_log hb,logPlace_log hat,logParts_log hps,logPart_log hp,logSize_log hd,decide_eq_true h1,decide_eq_true h2,decide_eq_true hd]
 simp
end
theorem right_zero:right (List.replicate 128 0)=false:=by kernel_rfl
theorem superOk_zero:bW (List.replicate 128 0)=false:=by unfold bW;rw [right_zero];rfl
theorem logOk_zero (at_:Nat):dO at_ (List.replicate 128 0)=false:=by unfold dO;rw [right_zero];rfl
theorem chunks (r:List Nat):(List.range (a8 r.length)).flatMap (chunk r)=r:=by
 have key : ∀ k,(List.range k).flatMap (chunk r)=r.take (106*k):=by
  intro k
  induction k with
  |zero=>simp
  |succ k ih=>
   rw [List.range_succ,List.flatMap_append,ih]
   simp only [List.flatMap_cons,List.flatMap_nil,List.append_nil,chunk]
   rw [Nat.mul_succ,List.take_add]
 rw [key,List.take_of_length_le (costN_room _)]
def Dk.gJ (D:Dk) (aq gen at_:Nat) (r:List Nat):Prop := ∀ i,i<a8 r.length→D.jb aq (at_+i)=di gen (at_+i) i (a8 r.length) (chunk r i)
theorem chunk_byte {r:List Nat} (hb : ∀ x∈r,x<256) (i:Nat) : ∀ x∈chunk r i,x<256:=fun x hx=>hb x (List.mem_of_mem_drop (List.mem_of_mem_take hx))
theorem Dk.placed_stands {D:Dk} {aq gen at_:Nat} {r:List Nat} (p:D.gJ aq gen at_ r) (hg:gen<18446744073709551616) (hr:r.length≤20000) (hb : ∀ x∈r,x<256) (hfit:at_+a8 r.length≤D.ar) (har:D.ar≤4096) :
  D.bc aq gen at_=true∧D.parts aq at_=a8 r.length∧D.data aq at_ (a8 r.length)=r:=by
 have hc:=fC (n:=r.length) (by omega)
 have hp:=costN_pos r.length
 have h0:=p 0 (by omega)
 have hparts:D.parts aq at_=a8 r.length:=by
  unfold Dk.parts
  rw [Nat.add_zero] at h0
  rw [h0,logParts_log (by omega)]
 refine ⟨?_,hparts,?_⟩
 ·unfold Dk.bc
  rw [hparts,decide_eq_true hfit,decide_eq_true hp,Bool.true_and,Bool.true_and,List.all_eq_true]
  intro i hi
  have hi:=List.mem_range.1 hi
  unfold Dk.part
  have hcl:=chunk_length r i
  rw [p i hi,logOk_log (by omega) (by omega) (by omega) hcl (chunk_byte hb i) _ hp hi,logGen_log hg,logPart_log (by omega),logParts_log (by omega)]
  simp
 ·unfold Dk.data
  have:(List.range (a8 r.length)).flatMap (fun i=>logData (D.jb aq (at_+i)))=(List.range (a8 r.length)).flatMap (chunk r):=by
   have hcong : ∀ (l:List Nat) (f g:Nat→List Nat),(∀ i∈l,f i=g i)→l.flatMap f=l.flatMap g:=by
    intro l f g
    induction l with
    |nil=>intro _;rfl
    |cons a l ih=>
     intro h
     rw [List.flatMap_cons,List.flatMap_cons,h a List.mem_cons_self,ih (fun i hi=>h i (List.mem_cons_of_mem _ hi))]
   refine hcong _ _ _ (fun i hi => ?_)
   rw [p i (List.mem_range.1 hi),logData_log (chunk_length r i)]
  rw [this,chunks]
structure Alike (D E:Dk):Prop where
 bb:E.bb=D.bb
 n:E.n=D.n
 down:E.down=D.down
 bX:E.bX=D.bX
 bw:E.bw=D.bw
 len:E.aU.length=D.aU.length
theorem Alike.refl (D:Dk):Alike D D:=⟨rfl,rfl,rfl,rfl,rfl,rfl⟩
theorem Alike.trans {A B C:Dk} (a:Alike A B) (b:Alike B C):Alike A C:=⟨b.bb.trans a.bb,b.n.trans a.n,b.down.trans a.down,b.bX.trans a.bX,b.bw.trans a.bw,b.len.trans a.len⟩
theorem Alike.ar {D E:Dk} (a:Alike D E):E.ar=D.ar:=by unfold Dk.ar;rw [a.n]
theorem write_up {D:Dk} (hlen:D.aU.length=128*D.n) (hd:D.down=false) (ha:D.bX=false) {i:Nat} (hi:i<D.n) {l:List Nat} (hl:l.length=128) :
  D.write (i:Int) l=(0,D.lay (i:Int) l)∧Alike D (D.lay (i:Int) l) ∧ ∀ k,k<D.n→(D.lay (i:Int) l).bJ k=if k=i then l else D.bJ k:=by
 refine ⟨?_,⟨rfl,rfl,rfl,rfl,rfl,?_⟩,?_⟩
 ·have hf:D.fault (i:Int)=0:=by
   unfold Dk.fault
   rw [hd,if_neg (by simp),if_neg (by omega)]
  unfold Dk.write
  rw [if_pos hf,if_pos hl,ha,if_neg (by simp)]
 ·unfold Dk.lay
  exact fl (by rw [Int.toNat_natCast];omega)
 ·intro k hk
  unfold Dk.lay Dk.bJ
  simp only [Int.toNat_natCast]
  apply List.ext_getElem?
  intro q
  by_cases hq:q<128
  ·rw [List.getElem?_take,if_pos hq,List.getElem?_drop,ey (by omega)]
   by_cases hki:k=i
   ·subst hki
    rw [if_pos rfl,if_pos (by omega),Nat.add_sub_cancel_left]
   ·rw [if_neg hki,if_neg (by omega),List.getElem?_take,if_pos hq,List.getElem?_drop]
  ·rw [List.getElem?_take,if_neg hq]
   split
   ·rw [List.getElem?_eq_none (by omega)]
   ·rw [List.getElem?_take,if_neg hq]
end Go.Proofs.Ytcmfgmhadeeieaa

namespace Go.Proofs.Ytcmfgmhadeeieaa
open Go Go.Abs
structure Up (D:Dk):Prop where
 len:D.aU.length=128*D.n
 down:D.down=false
 bX:D.bX=false
theorem Up.alike {D E:Dk} (u:Up D) (a:Alike D E):Up E:=⟨by rw [a.len,a.n,u.len],a.down.trans u.down,a.bX.trans u.bX⟩
theorem Dk.area_in (D:Dk) {aq:Nat} (ha:aq≤1) (h1:1≤D.ar):2+aq*D.ar+D.ar≤D.n:=by
 have har:D.ar=(D.n-2)/2:=rfl
 have hm:aq*D.ar≤D.ar:=by
  have:=Nat.mul_le_mul_right D.ar ha
  omega
 omega
theorem wr_up (aq gen at_ parts:Nat) (r:List Nat) : ∀ (k i:Nat) (D:Dk),Up D→2+aq*D.ar+at_+i+k≤D.n →
  ∃ E,Dk.wr aq gen at_ parts r k i D=(0,E)∧Alike D E ∧ ∀ b,b<D.n→E.bJ b=if 2+aq*D.ar+at_+i≤b∧b<2+aq*D.ar+at_+i+k then di gen (b-(2+aq*D.ar)) (b-(2+aq*D.ar+at_)) parts (chunk r (b-(2+aq*D.ar+at_))) else D.bJ b
 | 0,i,D,_,_=>⟨D,rfl,.refl D,fun b _=>by rw [if_neg (by omega)]⟩
 |k+1,i,D,u,h=>by
  obtain ⟨w1,w2,w3⟩:=write_up u.len u.down u.bX (i:=2+aq*D.ar+at_+i) (by omega) (l:=di gen (at_+i) i parts (chunk r i)) (logBlk_length (chunk_length r i))
  obtain ⟨E,e1,e2,e3⟩:=wr_up aq gen at_ parts r k (i+1) _ (u.alike w2) (by rw [w2.ar,w2.n];omega)
  refine ⟨E,?_,w2.trans e2,?_⟩
  ·rw [Dk.wr,w1,if_pos rfl]
   exact e1
  ·intro b hb
   rw [e3 b (by rw [w2.n];exact hb),w2.ar,w3 b hb]
   generalize aq*D.ar=q
   by_cases hbi:b=2+q+at_+i
   ·subst hbi
    rw [if_neg (by omega),if_pos rfl,if_pos (by omega),show 2+q+at_+i-(2+q)=at_+i by omega,show 2+q+at_+i-(2+q+at_)=i by omega]
   ·rw [if_neg hbi]
    by_cases hin:2+q+at_+i≤b∧b<2+q+at_+i+(k+1)
    ·rw [if_pos hin,if_pos (by omega)]
    ·rw [if_neg hin,if_neg (by omega)]
theorem wrRec_up {D:Dk} (u:Up D) {aq gen at_:Nat} {r:List Nat} (ha:aq≤1) (hfit:at_+a8 r.length≤D.ar) :
  ∃ E,D.cd aq gen at_ r=(0,E)∧Alike D E∧E.gJ aq gen at_ r ∧ ∀ b,b<D.n→(b<2+aq*D.ar+at_∨2+aq*D.ar+at_+a8 r.length≤b)→E.bJ b=D.bJ b:=by
 have hp:=costN_pos r.length
 have hin:=D.area_in ha (by omega)
 obtain ⟨E,e1,e2,e3⟩:=wr_up aq gen at_ (a8 r.length) r (a8 r.length) 0 D u (by omega)
 refine ⟨E,e1,e2,?_,?_⟩
 ·intro i hi
  unfold Dk.jb
  rw [e2.ar,e3 _ (by omega)]
  generalize aq*D.ar=q at *
  rw [if_pos (by omega),show 2+q+(at_+i)-(2+q)=at_+i by omega,show 2+q+(at_+i)-(2+q+at_)=i by omega]
 ·intro b hb ho
  rw [e3 b hb,if_neg (by omega)]
def layR:List (List Nat)→Nat→List (Nat×List Nat)
 | [],_ => []
 |r::rs,at_=>(at_,r)::layR rs (at_+a8 r.length)
theorem recsTot_cons (r:List Nat) (rs:List (List Nat)):aP (r::rs)=a8 r.length+aP rs:=by simp [aP]
theorem recsTot_nil:aP []=0:=rfl
theorem recsTot_append (a b:List (List Nat)):aP (a++b)=aP a+aP b:=by simp [aP]
theorem layR_append : ∀ (a b:List (List Nat)) (at_:Nat),layR (a++b) at_=layR a at_++layR b (at_+aP a)
 | [],b,at_=>rfl
 |r::rs,b,at_=>by
  rw [List.cons_append,layR,layR_append rs b,layR,recsTot_cons,Nat.add_assoc];rfl
theorem lay_bound : ∀ (a:List (List Nat)) (at_:Nat) (e:Nat×List Nat),e∈layR a at_→at_≤e.1∧e.1+a8 e.2.length≤at_+aP a∧e.2∈a
 | [],_,e,h=>by simp [layR] at h
 |r::rs,at_,e,h=>by
  rw [layR,List.mem_cons] at h
  rw [recsTot_cons]
  rcases h with rfl|h
  ·exact ⟨Nat.le_refl _,by show at_+a8 r.length≤_;omega,List.mem_cons_self⟩
  ·have:=lay_bound rs _ e h
   exact ⟨by omega,by omega,List.mem_cons_of_mem _ this.2.2⟩
theorem Dk.gJ.aG {D E:Dk} {aq gen at_:Nat} {r:List Nat} (p:D.gJ aq gen at_ r) (har:E.ar=D.ar) (h : ∀ i,i<a8 r.length→E.bJ (2+aq*D.ar+(at_+i))=D.bJ (2+aq*D.ar+(at_+i))):E.gJ aq gen at_ r:=by
 intro i hi
 have:=p i hi
 unfold Dk.jb at this ⊢
 rw [har,h i hi,this]
def Dk.noB (D:Dk) (aq gen at_:Nat):Prop:=dO at_ (D.jb aq at_)=false∨bL (D.jb aq at_)≠gen∨bA (D.jb aq at_)≠0
theorem Dk.noB.bc {D:Dk} {aq gen at_:Nat} (h:D.noB aq gen at_):D.bc aq gen at_=false:=by
 refine Dk.not_stands' (i:=0) (by omega) ?_
 unfold Dk.part
 rw [Nat.add_zero]
 rcases h with h|h|h
 ·rw [h];rfl
 ·rw [beq_eq_false_iff_ne.2 h];simp
 ·rw [beq_eq_false_iff_ne.2 h];simp
theorem ents_skip {D:Dk} {J:Jn} : ∀ (m at_ k:Nat),(∀ i,i<m→at_+i<D.ar→D.bc J.aq J.gen (at_+i)=false)→D.ar≤at_+k → ∃ k',D.ar≤at_+m+k'∧D.cS J k at_=D.cS J k' (at_+m)
 | 0,at_,k,_,hk=>⟨k,hk,rfl⟩
 |m+1,at_,k,h,hk=>by
  by_cases hat:at_<D.ar
  ·obtain ⟨k0,rfl⟩ : ∃ k0,k=k0+1:=⟨k-1,by omega⟩
   have hs:J.bc D at_=false:=by
    rw [Jn.fR hat]
    have:=h 0 (by omega) hat
    rw [Nat.add_zero] at this
    rw [this,Bool.and_false]
   obtain ⟨k',h1,h2⟩:=ents_skip (D:=D) (J:=J) m (at_+1) k0 (fun i hi hai=>by have:=h (i+1) (by omega) (by omega);rw [show at_+1+i=at_+(i+1) by omega];exact this) (by omega)
   refine ⟨k',by omega,?_⟩
   rw [Dk.cS,if_pos hat,hs,if_neg (by decide),h2,show at_+1+m=at_+(m+1) by omega]
  ·exact ⟨0,by omega,by rw [Dk.ents_end (by omega),Dk.ents_end (by omega)]⟩
theorem ents_lay {D:Dk} {J:Jn} (hs:0≤J.slot) (hg:J.gen<18446744073709551616) (har:D.ar≤4096) (bad:Nat×List Nat→Bool) : ∀ (dh:List (List Nat)) (at_ k:Nat),(∀ r∈dh,r.length≤20000 ∧ ∀ x∈r,x<256)→at_+aP dh≤D.ar→D.ar≤at_+k →
  (∀ e∈layR dh at_,bad e=false→D.gJ J.aq J.gen e.1 e.2)→(∀ e∈layR dh at_,bad e=true → ∀ i,i<a8 e.2.length→D.bc J.aq J.gen (e.1+i)=false)→(∀ p,at_+aP dh≤p→p<D.ar→D.bc J.aq J.gen p=false) →
  D.cS J k at_=(layR dh at_).filter fun e => !bad e
 | [],at_,k,hr,hf,hk,h1,h2,h3=>by
   obtain ⟨k',_,e2⟩:=ents_skip (J:=J) (D.ar-at_) at_ k (fun i hi _=>h3 _ (by rw [recsTot_nil];omega) (by omega)) hk
   rw [e2,Dk.ents_end (by omega)];rfl
 |r::rs,at_,k,hr,hf,hk,h1,h2,h3=>by
  rw [recsTot_cons] at hf h3
  have hp:=costN_pos r.length
  obtain ⟨hr1,hr2⟩:=hr r List.mem_cons_self
  have ih : ∀ k',D.ar≤at_+a8 r.length+k'→D.cS J k' (at_+a8 r.length)=(layR rs (at_+a8 r.length)).filter fun e => !bad e:=fun k' hk'=>
   ents_lay hs hg har bad rs _ k' (fun r' h'=>hr r' (List.mem_cons_of_mem _ h')) (by omega) hk' (fun e he=>h1 e (by rw [layR];exact List.mem_cons_of_mem _ he)) (fun e he=>h2 e (by rw [layR];exact List.mem_cons_of_mem _ he)) (fun p hp1 hp2=>h3 p (by omega) hp2)
  have hm:(at_,r)∈layR (r::rs) at_:=by rw [layR];exact List.mem_cons_self
  cases hb:bad (at_,r) with
  |true=>
   obtain ⟨k',e1,e2⟩:=ents_skip (J:=J) (a8 r.length) at_ k (fun i hi _=>h2 _ hm hb i hi) hk
   rw [e2,ih k' e1,layR,List.filter_cons,hb];rfl
  |false=>
   obtain ⟨k0,rfl⟩ : ∃ k0,k=k0+1:=⟨k-1,by omega⟩
   obtain ⟨s1,s2,s3⟩:=Dk.placed_stands (h1 _ hm hb) hg hr1 hr2 (by show at_+a8 r.length≤_;omega) har
   have hst:J.bc D at_=true:=by rw [Jn.fR (by omega),show D.bc J.aq J.gen at_=true from s1,decide_eq_true hs];rfl
   have s2:D.parts J.aq at_=a8 r.length:=s2
   have s3:D.data J.aq at_ (a8 r.length)=r:=s3
   rw [Dk.cS,if_pos (by omega),hst,if_pos rfl,s2,s3,ih k0 (by omega),layR,List.filter_cons,hb];rfl
end Go.Proofs.Ytcmfgmhadeeieaa

namespace Go.Proofs.Ytcmfgmhadeeieaa
open Go Go.Abs
def Jn.un (J:Jn):Jn:={ J with known:=0 }
theorem Jn.seeLog_un (D:Dk) (s at_:Nat) (J:Jn):(J.fI D s at_).un=J.un:=by unfold Jn.fI;split<;>rfl
theorem Jn.seeLogs_un (D:Dk) (s:Nat) : ∀ k at_ J,(Jn.ee D s k at_ J).un=J.un
 | 0,_,_=>rfl
 |k+1,at_,J=>by rw [Jn.ee,Jn.seeLogs_un D s k,Jn.seeLog_un]
theorem Jn.takeSuper_un (D:Dk) (s:Nat) (J:Jn):(J.cm D s).un=J.un.cm D s:=by
 have h1:J.un.slot=J.slot:=rfl
 have h2:J.un.gen=J.gen:=rfl
 unfold Jn.cm
 rw [h1,h2]
 split<;>rfl
theorem Jn.seeSlot_un (D:Dk) (s:Nat) (J:Jn):(J.eR D s).un=if bW (D.bJ s)=true then J.un.cm D s else J.un:=by
 unfold Jn.eR
 rw [Jn.seeLogs_un]
 unfold Jn.fD
 split
 ·exact Jn.takeSuper_un D s J
 ·rfl
theorem Dk.openJ_un (D:Dk) (t:Int):(D.cL t).un=if bW (D.bJ 1)=true then (if bW (D.bJ 0)=true then (D.jn0 t).cm D 0 else D.jn0 t).cm D 1 else if bW (D.bJ 0)=true then (D.jn0 t).cm D 0 else D.jn0 t:=by
 unfold Dk.cL
 rw [Jn.seeSlot_un,Jn.seeSlot_un];rfl
theorem Dk.jn0_take (D:Dk) (t:Int) (s:Nat):(D.jn0 t).cm D s={ bw:=t,slot:=s,aq:=de (D.bJ s),gen:=ba (D.bJ s),known:=0,ready:=false,fin:=0 }:=by
 unfold Jn.cm
 rw [if_pos (.inl (show (-1:Int)<0 by decide))]
 rfl
structure Sup (D:Dk) (slot aq gen:Nat):Prop where
 s:slot≤1
 ok:bW (D.bJ slot)=true
 g:ba (D.bJ slot)=gen
 a:de (D.bJ slot)=aq
 other:bW (D.bJ (1-slot))=true→ba (D.bJ (1-slot))<gen
theorem Sup.cL {D:Dk} {slot aq gen:Nat} (p:Sup D slot aq gen) (t:Int):(D.cL t).un={ bw:=t,slot:=slot,aq:=aq,gen:=gen,known:=0,ready:=false,fin:=0 }:=by
 obtain ⟨s,ok,g,a,other⟩:=p
 rw [Dk.openJ_un]
 obtain rfl|rfl:slot=0∨slot=1:=by omega
 ·have other:bW (D.bJ 1)=true→ba (D.bJ 1)<gen:=other
  rw [if_pos ok,Dk.jn0_take,g,a]
  split
  ·rename_i h1
   have:=other h1
   unfold Jn.cm
   rw [if_neg]
   show ¬(((0:Nat):Int)<0∨gen<ba (D.bJ 1))
   omega
  ·rfl
 ·have other:bW (D.bJ 0)=true→ba (D.bJ 0)<gen:=other
  rw [if_pos ok]
  split
  ·rename_i h0
   have:=other h0
   rw [Dk.jn0_take]
   unfold Jn.cm
   rw [if_pos (.inr (by show ba (D.bJ 0)<ba (D.bJ 1);omega)),g,a]
  ·rw [Dk.jn0_take,g,a]
theorem Dk.openJ_none {D:Dk} (h0:bW (D.bJ 0)=false) (h1:bW (D.bJ 1)=false) (t:Int):(D.cL t).un=D.jn0 t:=by
 rw [Dk.openJ_un,h0,h1];rfl
structure Knows (D:Dk) (B:Nat):Prop where
 logs : ∀ s,s≤1 → ∀ p,p<D.ar→dO p (D.jb s p)=true→bL (D.jb s p)≤B
 sups : ∀ s,s≤1→bW (D.bJ s)=true→ba (D.bJ s)≤B
theorem Jn.seeLogs_known (D:Dk) (s:Nat) : ∀ k at_ J,J.known≤(Jn.ee D s k at_ J).known∧(∀ p,at_≤p→p<at_+k→dO p (D.jb s p)=true→bL (D.jb s p)≤(Jn.ee D s k at_ J).known) ∧
  ∀ B,J.known≤B→(∀ p,at_≤p→p<at_+k→dO p (D.jb s p)=true→bL (D.jb s p)≤B)→(Jn.ee D s k at_ J).known≤B
 | 0,at_,J=>⟨Nat.le_refl _,fun p h1 h2=>by omega,fun _ h _=>h⟩
 |k+1,at_,J=>by
  obtain ⟨i1,i2,i3⟩:=Jn.seeLogs_known D s k (at_+1) (J.fI D s at_)
  have hj:(J.fI D s at_).known=if dO at_ (D.jb s at_)=true then max J.known (bL (D.jb s at_)) else J.known:=by
   unfold Jn.fI
   split<;>rfl
  refine ⟨?_,?_,?_⟩
  ·show J.known≤(Jn.ee D s k (at_+1) (J.fI D s at_)).known
   refine Nat.le_trans ?_ i1
   rw [hj]
   split<;>omega
  ·intro p h1 h2 h3
   show _≤(Jn.ee D s k (at_+1) (J.fI D s at_)).known
   by_cases hp:p=at_
   ·subst hp
    refine Nat.le_trans ?_ i1
    rw [hj,if_pos h3]
    omega
   ·exact i2 p (by omega) (by omega) h3
  ·intro B h1 h2
   refine i3 B ?_ (fun p h3 h4=>h2 p (by omega) (by omega))
   rw [hj]
   split
   ·rename_i h
    have:=h2 at_ (by omega) (by omega) h
    omega
   ·exact h1
theorem Jn.seeSlot_known (D:Dk) (s:Nat) (J:Jn):J.known≤(J.eR D s).known∧(∀ p,p<D.ar→dO p (D.jb s p)=true→bL (D.jb s p)≤(J.eR D s).known)∧(bW (D.bJ s)=true→ba (D.bJ s)≤(J.eR D s).known) ∧
  ∀ B,J.known≤B→(∀ p,p<D.ar→dO p (D.jb s p)=true→bL (D.jb s p)≤B)→(bW (D.bJ s)=true→ba (D.bJ s)≤B)→(J.eR D s).known≤B:=by
 obtain ⟨i1,i2,i3⟩:=Jn.seeLogs_known D s D.ar 0 (J.fD D s)
 have hj:(J.fD D s).known=if bW (D.bJ s)=true then max J.known (ba (D.bJ s)) else J.known:=by
  unfold Jn.fD
  split<;>rfl
 refine ⟨?_,fun p h1 h2=>i2 p (by omega) (by omega) h2,?_,?_⟩
 ·refine Nat.le_trans ?_ i1
  rw [hj]
  split<;>omega
 ·intro h
  refine Nat.le_trans ?_ i1
  rw [hj,if_pos h]
  omega
 ·intro B h1 h2 h3
  refine i3 B ?_ (fun p _ h5=>h2 p (by omega))
  rw [hj]
  split
  ·rename_i h
   have:=h3 h
   omega
  ·exact h1
theorem Knows.cL {D:Dk} {B:Nat} (k:Knows D B) (t:Int):(D.cL t).known≤B:=by
 obtain ⟨a1,a2,a3,a4⟩:=Jn.seeSlot_known D 0 (D.jn0 t)
 obtain ⟨b1,b2,b3,b4⟩:=Jn.seeSlot_known D 1 ((D.jn0 t).eR D 0)
 exact b4 B (a4 B (Nat.zero_le B) (k.logs 0 (by omega)) (k.sups 0 (by omega))) (k.logs 1 (by omega)) (k.sups 1 (by omega))
theorem Knows.mono {D:Dk} {B C:Nat} (k:Knows D B) (h:B≤C):Knows D C:=⟨fun s h1 p h2 h3=>Nat.le_trans (k.logs s h1 p h2 h3) h,fun s h1 h2=>Nat.le_trans (k.sups s h1 h2) h⟩
def Fresh (D:Dk):Prop := ∀ b,b<D.n→D.bJ b=List.replicate 128 0
theorem Fresh.knows {D:Dk} (f:Fresh D) (h4:4≤D.n):Knows D 0:=by
 refine ⟨fun s hs p hp h => ?_,fun s hs h => ?_⟩
 ·have hin:=D.area_in hs (by omega)
  unfold Dk.jb at h
  rw [f _ (by omega),logOk_zero] at h
  cases h
 ·rw [f _ (by omega),superOk_zero] at h
  cases h
theorem Fresh.cL {D:Dk} (f:Fresh D) (h4:4≤D.n) (t:Int):D.cL t=D.jn0 t:=by
 have h1:(D.cL t).un=D.jn0 t:=Dk.openJ_none (by rw [f _ (by omega),superOk_zero]) (by rw [f _ (by omega),superOk_zero]) t
 have h2:(D.cL t).known=0:=by
  have:=(f.knows h4).cL t
  omega
 have h3:D.cL t={ (D.cL t).un with known:=(D.cL t).known }:=rfl
 rw [h3,h1,h2];rfl
theorem Fresh.cS {D:Dk} (J:Jn) (f:Fresh D) (h4:4≤D.n) (ha:J.aq≤1):D.cS J D.ar 0 = []:=by
 obtain ⟨k',_,e2⟩:=ents_skip (D:=D) (J:=J) D.ar 0 D.ar (fun i hi _=>Dk.noB.bc (.inl (by
  have hin:=D.area_in ha (by omega)
  unfold Dk.jb
  rw [f _ (by omega),logOk_zero]))) (by omega)
 rw [e2,Dk.ents_end (by omega)]
structure Has (D:Dk) (aq gen:Nat) (dh:List (List Nat)):Prop where
 a:aq≤1
 g:gen<18446744073709551616
 ok : ∀ r∈dh,r.length≤20000 ∧ ∀ x∈r,x<256
 fit:aP dh≤D.ar
 gJ : ∀ e∈layR dh 0,D.gJ aq gen e.1 e.2
 rest : ∀ p,aP dh≤p→p<D.ar→D.noB aq gen p
theorem Has.cS {D:Dk} {J:Jn} {dh:List (List Nat)} (H:Has D J.aq J.gen dh) (hs:0≤J.slot) (har:D.ar≤4096):D.cS J D.ar 0=layR dh 0:=by
 rw [ents_lay hs H.g har (fun _=>false) dh 0 D.ar H.ok (by have:=H.fit;omega) (by omega) (fun e he _=>H.gJ e he) (fun _ _ h=>by cases h) (fun p h1 h2=>(H.rest p (by omega) h2).bc)]
 simp
theorem Has.at {D:Dk} {J:Jn} {dh:List (List Nat)} (H:Has D J.aq J.gen dh) (hs:0≤J.slot) (har:D.ar≤4096) {e:Nat×List Nat} (he:e∈layR dh 0) :
  e.1<D.ar∧J.bc D e.1=true∧D.parts J.aq e.1=a8 e.2.length∧D.data J.aq e.1 (a8 e.2.length)=e.2:=by
 obtain ⟨b1,b2,b3⟩:=lay_bound _ _ _ he
 have hfit:=H.fit
 have hp:=costN_pos e.2.length
 obtain ⟨k1,k2⟩:=H.ok _ b3
 obtain ⟨s1,s2,s3⟩:=Dk.placed_stands (H.gJ e he) H.g k1 k2 (by omega) har
 exact ⟨by omega,by rw [Jn.fR (by omega),s1,decide_eq_true hs];rfl,s2,s3⟩
theorem Has.aG {D E:Dk} {aq gen:Nat} {dh:List (List Nat)} (H:Has D aq gen dh) (har:E.ar=D.ar) (h : ∀ p,p<D.ar→E.bJ (2+aq*D.ar+p)=D.bJ (2+aq*D.ar+p)):Has E aq gen dh:=by
 refine ⟨H.a,H.g,H.ok,har▸H.fit,fun e he => ?_,fun p h1 h2 => ?_⟩
 ·have hb:=lay_bound _ _ _ he
  have:=H.fit
  exact (H.gJ e he).aG har (fun i hi=>h _ (by omega))
 ·have hr:=H.rest p h1 (har▸h2)
  unfold Dk.noB Dk.jb at hr ⊢
  rw [har,h p (har▸h2)]
  exact hr
theorem Has.append {D:Dk} {J:Jn} {dh:List (List Nat)} (H:Has D J.aq J.gen dh) (u:Up D) (hl:J.live D=true) (hr:J.ready=true) (hfin:J.fin=aP dh) {r:List Nat} (h20:r.length≤20000) (hb : ∀ x∈r,x<256) (hfit:aP dh+a8 r.length≤D.ar) :
  ∃ E,J.append D r=(0,E,{ J with fin:=J.fin+a8 r.length })∧Alike D E∧Has E J.aq J.gen (dh ++ [r]) ∧ ∀ b,b<2→E.bJ b=D.bJ b:=by
 obtain ⟨E,e1,e2,e3,e4⟩:=wrRec_up u (gen:=J.gen) (at_:=J.fin) (r:=r) H.a (by omega)
 have hp:=costN_pos r.length
 have hin:=D.area_in H.a (by omega)
 have htot:aP (dh ++ [r])=aP dh+a8 r.length:=by rw [recsTot_append,recsTot_cons,recsTot_nil];omega
 have hfree:J.free D=D.ar-J.fin:=by unfold Jn.free;rw [hl,hr];rfl
 refine ⟨E,?_,e2,⟨H.a,H.g,?_,by rw [htot,e2.ar];exact hfit,?_,?_⟩,fun b hb=>e4 b (by omega) (by omega)⟩
 ·unfold Jn.append
  rw [if_neg (by rw [hl];decide),if_neg (by rw [hr];decide),if_neg (by omega),if_neg (by omega),e1,if_pos rfl]
 ·intro q hq
  rcases List.mem_append.1 hq with hq|hq
  ·exact H.ok q hq
  ·rw [List.mem_singleton] at hq
   subst hq
   exact ⟨h20,hb⟩
 ·intro e he
  rw [layR_append,Nat.zero_add] at he
  rcases List.mem_append.1 he with he|he
  ·have hbd:=lay_bound _ _ _ he
   exact (H.gJ e he).aG e2.ar (fun i hi=>e4 _ (by omega) (by omega))
  ·rw [layR,layR,List.mem_singleton] at he
   subst he
   rw [←hfin]
   exact e3
 ·intro p h1 h2
  rw [htot] at h1
  rw [e2.ar] at h2
  have hrs:=H.rest p (by omega) h2
  unfold Dk.noB Dk.jb at hrs ⊢
  rw [e2.ar,e4 _ (by omega) (by omega)]
  exact hrs
theorem Sup.jn {D:Dk} {slot aq gen:Nat} (p:Sup D slot aq gen):D.jn.slot=slot∧D.jn.aq=aq∧D.jn.gen=gen∧D.jn.ready=false∧D.jn.fin=0∧D.jn.bw=D.opened.bw:=by
 have p':Sup D.opened slot aq gen:=⟨p.s,p.ok,p.g,p.a,p.other⟩
 have h:=p'.cL D.opened.bw
 have h:D.jn.un=_:=h
 exact ⟨congrArg Jn.slot h,congrArg Jn.aq h,congrArg Jn.gen h,congrArg Jn.ready h,congrArg Jn.fin h,congrArg Jn.bw h⟩
theorem Fresh.jn {D:Dk} (f:Fresh D) (h4:4≤D.n):D.jn=D.opened.jn0 D.opened.bw:=by
 have f':Fresh D.opened:=f
 exact f'.cL h4 _
theorem Fresh.entries {D:Dk} (f:Fresh D) (h4:4≤D.n):D.entries = []:=by
 have f':Fresh D.opened:=f
 unfold Dk.entries
 rw [f.jn h4]
 exact f'.cS _ h4 (Nat.zero_le 1)
theorem Has.entries {D:Dk} {slot aq gen:Nat} {dh:List (List Nat)} (p:Sup D slot aq gen) (H:Has D aq gen dh) (har:D.ar≤4096):D.entries=layR dh 0:=by
 obtain ⟨q1,q2,q3,_⟩:=p.jn
 have H':Has D.opened D.jn.aq D.jn.gen dh:=by rw [q2,q3];exact ⟨H.a,H.g,H.ok,H.fit,H.gJ,H.rest⟩
 exact H'.cS (by omega) har
end Go.Proofs.Ytcmfgmhadeeieaa

namespace Go.Proofs.Ytcmfgmhadeeieaa
open Go Go.Abs
theorem X14:XX 14=s14:=rfl
theorem X18:XX 18=s18:=rfl
theorem X25:XX 25=s25:=rfl
theorem X32:XX 32=s32:=rfl
theorem X33:XX 33=s33:=rfl
theorem r14 (h:af):CD 14 [] h=some (.bool true,h):=dP (by rw [X14];rfl)
theorem r18 (h:af) {n:Nat} (h4:4≤n) (hn:n≤4096):CD 18 [ao n] h=some (.tuple #[ptr (h.next+1) 0,.int .i64 0],gI h n)∧aX (gI h n) (h.next+1) (Dk.new h n)∧Old h (gI h n):=by
 refine ⟨dP ?_,new_is h (by omega),new_kept h n _⟩
 rw [X18,s18_at (by omega),Int.toNat_natCast]
theorem r25 {h:af} {d:Nat} {D:Dk} (x:aX h d D) : ∃ a c h',CD 25 [ptr d 0] h=some (.slice a (128*D.n) c,h')∧av a (128*D.n) h'=some D.aU∧cU a (128*D.n) c=true∧(∀ y,a=some y→h.next≤y.block)∧Old h h':=by
 refine ⟨some ⟨h.next,0,none⟩,128*D.n,_,dP (by rw [X25,s25_at x];rfl),?_,?_,?_,Kept.alloc _ _ _⟩
 ·rw [cH (l:=D.aU) (by rw [af.aD,if_pos rfl]) (by rw [x.len];omega) x.byte,List.drop_zero,List.take_of_length_le (by rw [x.len];omega)]
 ·unfold cU
  simp
 ·intro y hy
  cases hy
  exact Nat.le_refl _
theorem r32 {h:af} {d:Nat} {D:Dk} (x:aX h d D):CD 32 [ptr d 0] h=some (.tuple #[],cV h d D.off)∧aX (cV h d D.off) d D.off∧cq d D.bb h (cV h d D.off):=by
 have hk:Okd D D.off:=by
  unfold Dk.off
  split
  ·exact ⟨rfl,rfl,rfl,x.byte,x.after,x.aG⟩
  ·exact ⟨rfl,rfl,rfl,x.byte,x.after,x.aG⟩
 refine ⟨dP ?_,x.put hk,putDk_only x hk.bb⟩
 rw [X32]
 unfold s32 ptr
 simp only [x.of]
theorem r33 {h:af} {d:Nat} {D:Dk} (x:aX h d D):CD 33 [ptr d 0] h=some (.tuple #[],cV h d D.on)∧aX (cV h d D.on) d D.on∧cq d D.bb h (cV h d D.on):=by
 have hk:Okd D D.on:=⟨rfl,rfl,rfl,x.byte,x.after,x.aG⟩
 refine ⟨dP ?_,x.put hk,putDk_only x hk.bb⟩
 rw [X33]
 unfold s33 ptr
 simp only [x.of]
theorem RecsG.nil (h:af) (F:Nat→Prop):RecsG h F (.slice none 0 0) []:=⟨none,0,rfl,fun i r hi=>by simp at hi⟩
theorem xt20 (a b:Value):aA (.tuple #[a,b]) 0=some a:=rfl
theorem xt21 (a b:Value):aA (.tuple #[a,b]) 1=some b:=rfl
theorem iH (h:af):av none 0 h=some []:=rfl
theorem JnOk.new (D:Dk) (t:Int):JnOk (D.jn0 t) D:=⟨.inl rfl,by show (0:Nat)≤1;omega,by show (0:Nat)<_;omega,by show (0:Nat)<_;omega,fun h=>by cases h⟩
theorem cv8 {b n c:Nat} {g:af} (h0:g.n0≤b) (h:(g.get b).isSome=true):convA Try.prog 32 32 (.slice (some ⟨b,0,none⟩) n c) g=some (.slice (some ⟨b,0,none⟩) n c,g):=by
 unfold convA
 simp only [Try.underlying32,Try.underlying5]
 rw [if_pos (by rw [decide_eq_true h0,h];rfl)]
end Go.Proofs.Ytcmfgmhadeeieaa

