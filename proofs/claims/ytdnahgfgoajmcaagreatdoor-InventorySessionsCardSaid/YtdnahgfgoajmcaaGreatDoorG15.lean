/-
  A part of the proof, spaces and names shortened by a program (a claim may hold 1,500,000 bytes).
  Conditions: as each theorem states.
-/
import Derived.Test.YtdnahgfgoajmcaaGreatDoorG14
namespace Go.Proofs.YtdnahgfgoajmcaaGreatDoor
open Go Go.Abs Tryz
attribute [local congr] aw
def H0:List (BitVec 32) := [1779033703,3144134277,1013904242,2773480762,1359893119,2600822924,528734635,1541459225].map (BitVec.ofNat 32)
def Ah:HD:=⟨H0,List.replicate 64 0,0⟩
theorem HD0_ok:Ah.Ok:=⟨rfl,rfl,fun x hx=>by have:=GP (show x∈List.replicate 64 0 from hx);omega⟩
theorem bldH:fZ (List.replicate 8 (.int .u32 0)) [(0,1,.int .u32 1779033703),(1,1,.int .u32 3144134277),(2,1,.int .u32 1013904242),(3,1,.int .u32 2773480762),(4,1,.int .u32 1359893119),(5,1,.int .u32 2600822924),(6,1,.int .u32 528734635),(7,1,.int .u32 1541459225)]=some (.agg (fw H0).toArray):=by kernel_rfl
theorem bldH2:fZ zHash [(0,8,.agg (fw H0).toArray)]=some (.agg Ah.cells.toArray):=by kernel_rfl
theorem r121 {h:ai} (hG:4<=h.n0) : ∃ h',CW 95 [] h=some (ptr h.next 0,h')/\aE h h'/\h'.get h.next=some Ah.cells/\h'.next=h.next+1:=by have b:=fj h Ah.cells (hash_ok Ah).2;refine ⟨h.alloc Ah.cells,aL is121 hG rfl ((t121_eq _ _).trans ?_),az.alloc _ _ _,by rw [ai.aN,DL rfl],ai.cO ..⟩;unfold t121;simp -implicitDefEqProofs only [bldH,bldH2,b,aj,ak]
theorem is69:cx prog 74 f74:=by constructor<;>kernel_rfl
theorem is70:cx prog 75 f75:=by constructor<;>kernel_rfl
theorem results69:f74.results.toList = [.cell 2 36]:=by kernel_rfl
theorem results70:f75.results.toList = [.cell 4 36]:=by kernel_rfl
def pF (r:av):List Nat:=((Ah.wr [0]).wr (kr r)).sum
def dB (a b:List Nat):List Nat:=(((Ah.wr [1]).wr a).wr b).sum
theorem pP (r:av):js (pF r):=xp _
theorem mh (a b:List Nat):js (dB a b):=xp _
set_option maxRecDepth 100000 in
theorem r69 {h:ai} (hG:4<=h.n0) (hz:h.get 3=some bT) {r:av} (w:r.Wf) (v:dX r=true) : ∃ h',CW 74 [.agg (bW r).toArray] h=some (.agg (bn (pF r)).toArray,h')/\aE h h':=by
 obtain ⟨h1,b1,o1,g1,n1⟩:=dS h w;obtain ⟨h2,z2,o2,g2,n2⟩:=fresh (List.replicate 32 (.int .u8 0)) h1;have L2:=bj (o2.get g1) (aQ w).1 (aQ w).2.1;have O2:=o1.trans o2;obtain ⟨a,c,h3,e3,s3,o3,ha,gd⟩:=r43 (h:=h2) (by rw [O2.n0];exact hG) w v;have O3:=O2.trans o3;obtain ⟨h4,e4,o4,g4,n4⟩:=r121 (h:=h3) (by rw [O3.n0];exact hG);have O4:=O3.trans o4;have b5:dg 1 (.int .u8 0) 1 [(0,.int .u8 0)] h4=some (.slice (some ⟨h4.next,0,none⟩) 1 1,h4.alloc [u8 0]):=vA h4 0;have o5:aE h4 (h4.alloc [u8 0]):=az.alloc _ _ _;have s5:=nB h4 (x:=0) (by decide);have O5:=O4.trans o5;obtain ⟨h6,e6,k6,g6,w6,m6⟩:=r122 (h:=h4.alloc [u8 0]) (by rw [O5.n0];exact hG) (aE.get O5 hz) (p:=h3.next) HD0_ok (aE.get o5 g4) (by rw [O5.n0];have:=h.n0_le_next;have:=O3.next;omega) (c:=1) s5 (fun _=>rfl) (fun y hy _ e=>by cases hy;have:h4.next=h3.next:=e;omega) (by show 0+1<=1000000;omega);have O6:aE h h6:=aE.bK O5 k6 (by have:=O3.next;omega);have s6:ax a 53 h6=some (kr r):=k6.bytes (aE.bytes (o4.trans o5) s3) (fun y hy _ e=>by
  have q:=ha y hy;have:y.block<h3.next:=by obtain ⟨b',off',s',k',hx,hk',_⟩:=(aH s3).2.2 (by decide);rw [hy] at hx;cases hx;exact h3.aO hk'
  omega)
 obtain ⟨h7,e7,k7,g7,w7,m7⟩:=r122 (h:=h6) (by rw [O6.n0];exact hG) (aE.get O6 hz) (p:=h3.next) w6 g6 (by rw [O6.n0];have:=h.n0_le_next;have:=O3.next;omega) (c:=c) s6 (fun _=>gd) (fun y hy _ e=>by
  have q:=ha y hy;have:y.block<h3.next:=by obtain ⟨b',off',s',k',hx,hk',_⟩:=(aH s3).2.2 (by decide);rw [hy] at hx;cases hx;exact h3.aO hk'
  omega) (by rw [m6];show 0+1+53<=1000000;omega)
 have O7:aE h h7:=aE.bK O6 k7 (by have:=O3.next;omega);obtain ⟨h8,e8,o8⟩:=r123 (h:=h7) (by rw [O7.n0];exact hG) (aE.get O7 hz) (p:=h3.next) w7 g7 (by rw [m7,m6];show 0+1+53<=100000;omega);have O8:=O7.trans o8;have e8:CW 97 [ptr h3.next 0] h7=some (.agg (bn (pF r)).toArray,h8):=e8;have dc:=aZ (pP r);have hne : ¬h1.next=h3.next:=by have:=o3.next;omega
 have q2:h8.get h1.next=some (List.replicate 32 (.int .u8 0)):=aE.get o8 (az.getE k7 (az.getE k6 (aE.get (o4.trans o5) (o3.get g2)) hne) hne);obtain ⟨h9,e9,k9,g9,_,_⟩:=aY (n:=32) (k':=bn (pF r)) q2 (by rw [O8.n0];have:=h.n0_le_next;have:=o1.next;omega) rfl dc.1 dc.2.2;have L9:=bj g9 dc.1 dc.2.1;refine ⟨h9,aL is69 hG rfl ((t69_eq _ _ _).trans ?_),aE.bK O8 k9 (by have:=o1.next;omega)⟩;unfold t69;simp -implicitDefEqProofs only [b1,z2,L2,e3,ext0,ext1,e4,b5,e6,e7,e8,e9,aj,ak];exact dG results69 kD fI (show 2<20 by decide) _ L9
set_option maxRecDepth 100000 in
theorem r70 {h:ai} (hG:4<=h.n0) (hz:h.get 3=some bT) {a b:List Nat} (wa:js a) (wb:js b) : ∃ h',CW 75 [.agg (bn a).toArray,.agg (bn b).toArray] h=some (.agg (bn (dB a b)).toArray,h')/\aE h h':=by
 have ca:=aZ wa;have cb:=aZ wb;have b1:=fj h _ ca.2.2;have o1:aE h (h.alloc (bn a)):=az.alloc _ _ _;have g1:(h.alloc (bn a)).get h.next=some (bn a):=by rw [ai.aN,DL rfl]
 have n1:(h.alloc (bn a)).next=h.next+1:=ai.cO ..;generalize h.alloc (bn a)=h1 at *;have b2:=fj h1 _ cb.2.2;have o2:aE h1 (h1.alloc (bn b)):=az.alloc _ _ _;have g2:(h1.alloc (bn b)).get h1.next=some (bn b):=by rw [ai.aN,DL rfl]
 have n2:(h1.alloc (bn b)).next=h1.next+1:=ai.cO ..;generalize h1.alloc (bn b)=h2 at *;obtain ⟨h3,z3,o3,g3,n3⟩:=fresh (List.replicate 32 (.int .u8 0)) h2;have O3:=(o1.trans o2).trans o3;obtain ⟨h4,e4,o4,g4,n4⟩:=r121 (h:=h3) (by rw [O3.n0];exact hG);have O4:=O3.trans o4;have b5:dg 1 (.int .u8 0) 1 [(0,.int .u8 1)] h4=some (.slice (some ⟨h4.next,0,none⟩) 1 1,h4.alloc [u8 1]):=vA h4 1;have o5:aE h4 (h4.alloc [u8 1]):=az.alloc _ _ _;have s5:=nB h4 (x:=1) (by decide);have O5:=O4.trans o5;have hpl:h.n0<=h3.next:=by have:=h.n0_le_next;have:=O3.next;omega
 obtain ⟨h6,e6,k6,g6,w6,m6⟩:=r122 (h:=h4.alloc [u8 1]) (by rw [O5.n0];exact hG) (aE.get O5 hz) (p:=h3.next) HD0_ok (aE.get o5 g4) (by rw [O5.n0];exact hpl) (c:=1) s5 (fun _=>rfl) (fun y hy _ e=>by cases hy;have:h4.next=h3.next:=e;omega) (by show 0+1<=1000000;omega);have O6:aE h h6:=aE.bK O5 k6 (by have:=O3.next;omega);have q1:h6.get h.next=some (bn a):=az.getE k6 (aE.get (((o2.trans o3).trans o4).trans o5) g1) (by omega);have q2:h6.get h1.next=some (bn b):=az.getE k6 (aE.get ((o3.trans o4).trans o5) g2) (by omega);have t1:=dq (off:=0) (n:=32) (s:=none) q1 (by rw [wa.1];decide) wa.2;rw [EP,DX (by rw [wa.1];decide)] at t1;obtain ⟨h7,e7,k7,g7,w7,m7⟩:=r122 (h:=h6) (by rw [O6.n0];exact hG) (aE.get O6 hz) (p:=h3.next) w6 g6 (by rw [O6.n0];exact hpl) (c:=32) t1 (fun _=>rfl) (fun y hy _ e=>by cases hy;have:h.next=h3.next:=e;omega) (by rw [m6];show 0+1+32<=1000000;omega);have O7:aE h h7:=aE.bK O6 k7 (by have:=O3.next;omega);have t2:=dq (off:=0) (n:=32) (s:=none) (az.getE k7 q2 (by omega)) (by rw [wb.1];decide) wb.2;rw [EP,DX (by rw [wb.1];decide)] at t2;obtain ⟨h8,e8,k8,g8,w8,m8⟩:=r122 (h:=h7) (by rw [O7.n0];exact hG) (aE.get O7 hz) (p:=h3.next) w7 g7 (by rw [O7.n0];exact hpl) (c:=32) t2 (fun _=>rfl) (fun y hy _ e=>by cases hy;have:h1.next=h3.next:=e;omega) (by rw [m7,m6];show 0+1+32+32<=1000000;omega);have O8:aE h h8:=aE.bK O7 k8 (by have:=O3.next;omega);obtain ⟨h9,e9,o9⟩:=r123 (h:=h8) (by rw [O8.n0];exact hG) (aE.get O8 hz) (p:=h3.next) w8 g8 (by rw [m8,m7,m6];show 0+1+32+32<=100000;omega);have O9:=O8.trans o9;have e9:CW 97 [ptr h3.next 0] h8=some (.agg (bn (dB a b)).toArray,h9):=e9;have dc:=aZ (mh a b);have hne : ¬h2.next=h3.next:=by omega
 have q3:h9.get h2.next=some (List.replicate 32 (.int .u8 0)):=aE.get o9 (az.getE k8 (az.getE k7 (az.getE k6 (aE.get (o4.trans o5) g3) hne) hne) hne);obtain ⟨h10,e10,k10,g10,_,_⟩:=aY (n:=32) (k':=bn (dB a b)) q3 (by rw [O9.n0];have:=h.n0_le_next;omega) rfl dc.1 dc.2.2;have L10:=bj g10 dc.1 dc.2.1;refine ⟨h10,aL is70 hG rfl ((t70_eq _ _ _ _).trans ?_),aE.bK O9 k10 (by omega)⟩;unfold t70;simp -implicitDefEqProofs only [b1,b2,z3,e4,b5,e6,Bz,e7,e8,e9,e10,aj,ak];exact dG results70 kD fI (show 4<18 by decide) _ L10
theorem is161:cx prog 122 f122:=by constructor<;>kernel_rfl
theorem AX {h:ai} (hG:4<=h.n0) (x:BitVec 32) {k:Nat} (hk:k<=32):CW 122 [wv x,.int .u64 (k:Int)] h=some (wv (eE x k),h):=by
 refine aL is161 hG rfl ((t161_eq _ _ _ _).trans ?_);unfold t161;have e2:aF prog .sub 120 (.int .u64 32) (.int .u64 (k:Int))=some (.int .u64 ((32-k:Nat):Int)):=by rw [fE,show (32:Int)-(k:Int)=((32-k:Nat):Int) by omega,wrap_u64 (by omega) (by omega)]
 simp -implicitDefEqProofs only [e2,vX x (show 32-k<=32 by omega),Br x hk,w_or,aj,ak];unfold eE;rw [BitVec.or_comm]
def iG (B:List Nat):Nat->List (BitVec 32)
 | 0 => []
 |i+1=>iG B i ++ [if i<16 then wAt B i else pU (iG B i)]
theorem schW_len (B:List Nat) : ∀ i,(iG B i).length=i
 | 0=>rfl
 |i+1=>by rw [iG,DE,schW_len B i];rfl
theorem schW_16 (B:List Nat) : ∀ i,i<=16->iG B i=(List.range i).map (wAt B)
 | 0,_=>rfl
 |i+1,h=>by rw [iG,schW_16 B i (by omega),DL (by omega),IQ,FH];rfl
theorem schW_ext (B:List Nat) : ∀ i,iG B (16+i)=ky i (vD B)
 | 0=>schW_16 B 16 (by decide)
 |i+1=>by rw [show 16+(i+1)=(16+i)+1 from rfl,iG,DM (by omega),schW_ext B i,vw]
theorem schW_64 (B:List Nat):iG B 64=ky 48 (vD B):=schW_ext B 48
theorem chkW (x:BitVec 32) (h:ai):cq true (some (wv x,h)) (wv x)=true:=CB .u32 _ _
set_option maxRecDepth 100000 in
theorem rnd1 {h:ai} (hG:4<=h.n0) {b:Nat} {B:List Nat} (hBl:B.length=64) {a:Option Addr} {c:Nat} (hB:ax a 64 h=some B) (ha : ∀ y,a=some y -> ¬y.block=b) (hb:h.n0<=b) (hw:h.get b=some (pt []))
  {p3 p4 p6:Value} {x:Nat->Value} (x2:x 2 = .slice a 64 c) (x3:x 3=p3) (x4:x 4=p4) (x6:x 6=p6) (x7:x 7=ptr b 0) (x8:x 8=aq 0) :
  Fin 206 (fun ex y g=>ex = .exit 0/\y 3=p3/\y 4=p4/\y 6=p6/\y 7=ptr b 0/\az h g (· = b)/\g.get b=some (pt (ky 48 (vD B)))/\g.next=h.next) (iter (codeA prog CW (ao f113 [1,1,0,1,0,0])) aD (aK 206 x) h):=by
 have hby:BK B:=(aH hB).2.1;refine bC (tJ CW) (Inv:=fun k y g => ∃ i,i+k=64/\y 2 = .slice a 64 c/\y 3=p3/\y 4=p4/\y 6=p6/\y 7=ptr b 0/\y 8=aq i/\az h g (· = b)/\g.get b=some (pt (iG B i))/\g.next=h.next) ?_ 64 (by have:aD=18446744073709551616:=rfl;omega) ⟨0,DH _,x2,x3,x4,x6,x7,x8,az.refl _ _,hw,rfl⟩;rintro k y g ⟨i,hik,y2,y3,y4,y6,y7,y8,K,gw,gn⟩;unfold mi;have l64:aF prog .lss 3 (aq i) (.int .i64 64)=some (.bool (decide (i<64))):=ie i 64;have l16:aF prog .lss 3 (aq i) (.int .i64 16)=some (.bool (decide (i<16))):=ie i 16;simp -implicitDefEqProofs only [y8,l64,aj,ak];by_cases hi:i<64
 ·simp -implicitDefEqProofs only [DC hi,l16,aj,ak];have len:=schW_len B i;have ix : ∀ j,j<64->idxA 64 1 (ptr b 0) (aq j)=some (ptr b j):=fun j hj=>by rw [nj hj,DH]
  have hg:4<=g.n0:=by rw [K.n0];exact hG
  by_cases h16:i<16
  ·have sl:ax a 64 g=some B:=K.bytes hB (fun y hy _=>ha y hy);obtain ⟨_,q0,_,i0,d0⟩:=xv (c:=c) (i:=4*i) sl (by omega);obtain ⟨_,q1,_,i1,d1⟩:=xv (c:=c) (i:=4*i+1) sl (by omega);obtain ⟨_,q2,_,i2,d2⟩:=xv (c:=c) (i:=4*i+2) sl (by omega);obtain ⟨_,q3,_,i3,d3⟩:=xv (c:=c) (i:=4*i+3) sl (by omega);have c0:=pX _ (j7 hby (j:=4*i) (by omega)) g;have c1:=pX _ (j7 hby (j:=4*i+1) (by omega)) g;have c2:=pX _ (j7 hby (j:=4*i+2) (by omega)) g;have c3:=pX _ (j7 hby (j:=4*i+3) (by omega)) g;have a1:aF prog .add 3 (aq (4*i)) (.int .i64 1)=some (aq (4*i+1)):=addc (c:=1) (by omega);have a2:aF prog .add 3 (aq (4*i)) (.int .i64 2)=some (aq (4*i+2)):=addc (c:=2) (by omega);have a3:aF prog .add 3 (aq (4*i)) (.int .i64 3)=some (aq (4*i+3)):=addc (c:=3) (by omega);have sh24 : ∀ x:BitVec 32,aF prog .shl 139 (wv x) (.int .u64 24)=some (wv (x <<< 24)):=fun x=>vX x (k:=24) (by decide);have sh16 : ∀ x:BitVec 32,aF prog .shl 139 (wv x) (.int .u64 16)=some (wv (x <<< 16)):=fun x=>vX x (k:=16) (by decide);have sh8 : ∀ x:BitVec 32,aF prog .shl 139 (wv x) (.int .u64 8)=some (wv (x <<< 8)):=fun x=>vX x (k:=8) (by decide);obtain ⟨g2,e2,k2,s2,_,m2⟩:=stored (o:=i) (v:=wv (wAt B i)) gw (by rw [K.n0];exact hb) (by rw [tt (by omega)];omega) rfl rfl;have hw4:wv (BitVec.ofNat 32 (B.getD (4*i) 0) <<< 24 ||| BitVec.ofNat 32 (B.getD (4*i+1) 0) <<< 16 ||| BitVec.ofNat 32 (B.getD (4*i+2) 0) <<< 8 ||| BitVec.ofNat 32 (B.getD (4*i+3) 0))=wv (wAt B i):=rfl;simp -implicitDefEqProofs only [DC h16, y2, y7, mul4 (show i<1000 by omega), i0, i1, i2, i3, d0, d1, d2, d3, c0, c1, c2, c3, a1, a2, a3, sh24, sh16, sh8, w_or, hw4, ix i hi, e2, dR (show i+1<=9223372036854775807 by omega), aj, ak];refine dJ.next (k-1) (by omega) ⟨i+1,by omega,y2,y3,y4,y6,y7,rfl,K.trans k2,?_,m2.trans gn⟩;rw [s2,tK len hi,iG,DL h16]
  ·have s15:aF prog .sub 3 (aq i) (.int .i64 15)=some (aq (i-15)):=subc (c:=15) (by omega) (by omega);have s2:aF prog .sub 3 (aq i) (.int .i64 2)=some (aq (i-2)):=subc (c:=2) (by omega) (by omega);have s16:aF prog .sub 3 (aq i) (.int .i64 16)=some (aq (i-16)):=subc (c:=16) (by omega) (by omega);have s7:aF prog .sub 3 (aq i) (.int .i64 7)=some (aq (i-7)):=subc (c:=7) (by omega) (by omega);have lw : ∀ j,j<i->ld1 (ptr b j) g=some (wv ((iG B i).getD j 0),g):=fun j hj=>aW gw (xz (by omega)) rfl;have lX:=lw (i-15) (by omega);have lY:=lw (i-2) (by omega);have rt7:CW 122 [wv ((iG B i).getD (i-15) 0),.int .u64 7] g=some (wv (eE ((iG B i).getD (i-15) 0) 7),g):=AX hg _ (k:=7) (by decide);have rt18:CW 122 [wv ((iG B i).getD (i-15) 0),.int .u64 18] g=some (wv (eE ((iG B i).getD (i-15) 0) 18),g):=AX hg _ (k:=18) (by decide);have rt17:CW 122 [wv ((iG B i).getD (i-2) 0),.int .u64 17] g=some (wv (eE ((iG B i).getD (i-2) 0) 17),g):=AX hg _ (k:=17) (by decide);have rt19:CW 122 [wv ((iG B i).getD (i-2) 0),.int .u64 19] g=some (wv (eE ((iG B i).getD (i-2) 0) 19),g):=AX hg _ (k:=19) (by decide);have sh3 : ∀ x:BitVec 32,aF prog .shr 139 (wv x) (.int .u64 3)=some (wv (x >>> 3)):=fun x=>Br x (k:=3) (by decide);have sh10 : ∀ x:BitVec 32,aF prog .shr 139 (wv x) (.int .u64 10)=some (wv (x >>> 10)):=fun x=>Br x (k:=10) (by decide);have hN:wv ((eE ((iG B i).getD (i-2) 0) 17 ^^^ eE ((iG B i).getD (i-2) 0) 19 ^^^ (iG B i).getD (i-2) 0 >>> 10)+(iG B i).getD (i-7) 0+(eE ((iG B i).getD (i-15) 0) 7 ^^^ eE ((iG B i).getD (i-15) 0) 18 ^^^ (iG B i).getD (i-15) 0 >>> 3)+(iG B i).getD (i-16) 0)=wv (pU (iG B i)):=by
    unfold pU s0w s1w;rw [len]
    congr 1
    ac_rfl
   obtain ⟨g2,e2,k2,t2,_,m2⟩:=stored (o:=i) (v:=wv (pU (iG B i))) gw (by rw [K.n0];exact hb) (by rw [tt (by omega)];omega) rfl rfl;simp -implicitDefEqProofs only [DF h16, y7, s15, s2, s16, s7, ix (i-15) (by omega), ix (i-2) (by omega), ix (i-16) (by omega), ix (i-7) (by omega), ix i hi, lX, lY, lw (i-16) (by omega), lw (i-7) (by omega), rt7, rt18, rt17, rt19, w_xor, sh3, sh10, BY, hN, e2, chkW, GK, dR (show i+1<=9223372036854775807 by omega), aj, ak];refine dJ.next (k-1) (by omega) ⟨i+1,by omega,y2,y3,y4,y6,y7,rfl,K.trans k2,?_,m2.trans gn⟩;rw [t2,tK len hi,iG,DM h16]
 ·have:i=64:=by omega
  subst this;simp -implicitDefEqProofs only [DF hi];rw [schW_64] at gw;exact dJ.out 0 ⟨rfl,y3,y4,y6,y7,K,gw,gn⟩
theorem ch_eq (e f g:BitVec 32):(e &&& f) ^^^ (~~~e &&& g)=g ^^^ (e &&& (f ^^^ g)):=by apply BitVec.eq_of_getLsbD_eq;intro i hi;simp only [BitVec.getLsbD_xor,BitVec.getLsbD_and,BitVec.getLsbD_not,hi,decide_true,EM];cases e.getLsbD i<;>cases f.getLsbD i<;>cases g.getLsbD i<;>rfl
theorem maj_eq (a b c:BitVec 32):(a &&& b) ^^^ (a &&& c) ^^^ (b &&& c)=(a &&& b) ||| (c &&& (a ||| b)):=by apply BitVec.eq_of_getLsbD_eq;intro i hi;simp only [BitVec.getLsbD_xor,BitVec.getLsbD_and,BitVec.getLsbD_or];cases a.getLsbD i<;>cases b.getLsbD i<;>cases c.getLsbD i<;>rfl
theorem rots161 {h:ai} (hG:4<=h.n0) (x:BitVec 32):CW 122 [wv x,.int .u64 6] h=some (wv (eE x 6),h)/\CW 122 [wv x,.int .u64 11] h=some (wv (eE x 11),h)/\CW 122 [wv x,.int .u64 25] h=some (wv (eE x 25),h)/\CW 122 [wv x,.int .u64 2] h=some (wv (eE x 2),h)/\CW 122 [wv x,.int .u64 13] h=some (wv (eE x 13),h)/\CW 122 [wv x,.int .u64 22] h=some (wv (eE x 22),h):=
 ⟨AX hG x (k:=6) (by decide),AX hG x (k:=11) (by decide),AX hG x (k:=25) (by decide),AX hG x (k:=2) (by decide),AX hG x (k:=13) (by decide),AX hG x (k:=22) (by decide)⟩
theorem St.l_ok (s:St):(fw s.l).length=8/\Abs.noHoles (fw s.l)=true/\aM (fw s.l)=true:=⟨rfl,(eO _).1,(eO _).2⟩
set_option maxRecDepth 100000 in
theorem rnd2 {h:ai} (hG:4<=h.n0) {b kb q p:Nat} {W:List (BitVec 32)} (hl:W.length=64) (hw:h.get b=some (pt W)) (hk:h.get kb=some (fw pK)) (hq0:h.n0<=q) (hqb : ¬b=q) (hqk : ¬kb=q) {s:St} (hq:h.get q=some (fw s.l))
  {p6:Value} {x:Nat->Value} (x3:x 3=ptr p 0) (x4:x 4=ptr kb 0) (x6:x 6=p6) (x7:x 7=ptr b 0) (x11:x 11=ptr q 0) (x12:x 12=aq 0) :
  Fin 206 (fun ex y g=>ex = .exit 2/\y 3=ptr p 0/\y 6=p6/\y 11=ptr q 0/\az h g (· = q)/\g.get q=some (fw (w9 W 64 s).l)/\g.next=h.next) (iter (codeA prog CW (ao f113 [1,1,1,1,0,1,0,0])) aD (aK 206 x) h):=by
 refine bC (rF CW) (Inv:=fun k y g => ∃ i,i+k=64/\y 3=ptr p 0/\y 4=ptr kb 0/\y 6=p6/\y 7=ptr b 0/\y 11=ptr q 0/\y 12=aq i/\az h g (· = q)/\g.get q=some (fw (w9 W i s).l)/\g.next=h.next) ?_ 64 (by have:aD=18446744073709551616:=rfl;omega) ⟨0,DH _,x3,x4,x6,x7,x11,x12,az.refl _ _,hq,rfl⟩;rintro k y g ⟨i,hik,y3,y4,y6,y7,y11,y12,K,gq,gn⟩;unfold jR;have l64:aF prog .lss 3 (aq i) (.int .i64 64)=some (.bool (decide (i<64))):=ie i 64;simp -implicitDefEqProofs only [y12,l64,aj,ak];by_cases hi:i<64
 ·have hg:4<=g.n0:=by rw [K.n0];exact hG
  have ixb:idxA 64 1 (ptr b 0) (aq i)=some (ptr b i):=by rw [nj hi,DH]
  have ixk:idxA 64 1 (ptr kb 0) (aq i)=some (ptr kb i):=by rw [nj hi,DH]
  have lw:ld1 (ptr b i) g=some (wv (W.getD i 0),g):=aW (az.getE K hw hqb) (xz (by omega)) rfl;have lk:ld1 (ptr kb i) g=some (wv (pK.getD i 0),g):=aW (az.getE K hk hqk) (by rw [EN,DJ,DB (by rw [xq];exact hi)];rfl) rfl
  have ix : ∀ j,j<8->idxA 8 1 (ptr q 0) (aq j)=some (ptr q j):=fun j hj=>by rw [nj hj,DH]
  have i0:idxA 8 1 (ptr q 0) (.int .i64 0)=some (ptr q 0):=ix 0 (by decide);have i1:idxA 8 1 (ptr q 0) (.int .i64 1)=some (ptr q 1):=ix 1 (by decide);have i2:idxA 8 1 (ptr q 0) (.int .i64 2)=some (ptr q 2):=ix 2 (by decide);have i3:idxA 8 1 (ptr q 0) (.int .i64 3)=some (ptr q 3):=ix 3 (by decide);have i4:idxA 8 1 (ptr q 0) (.int .i64 4)=some (ptr q 4):=ix 4 (by decide);have i5:idxA 8 1 (ptr q 0) (.int .i64 5)=some (ptr q 5):=ix 5 (by decide);have i6:idxA 8 1 (ptr q 0) (.int .i64 6)=some (ptr q 6):=ix 6 (by decide);have i7:idxA 8 1 (ptr q 0) (.int .i64 7)=some (ptr q 7):=ix 7 (by decide);generalize hs:w9 W i s=u at *;have d0:ld1 (ptr q 0) g=some (wv u.a,g):=aW gq rfl rfl;have d1:ld1 (ptr q 1) g=some (wv u.b,g):=aW gq rfl rfl;have d2:ld1 (ptr q 2) g=some (wv u.c,g):=aW gq rfl rfl;have d3:ld1 (ptr q 3) g=some (wv u.d,g):=aW gq rfl rfl;have d4:ld1 (ptr q 4) g=some (wv u.e,g):=aW gq rfl rfl;have d5:ld1 (ptr q 5) g=some (wv u.f,g):=aW gq rfl rfl;have d6:ld1 (ptr q 6) g=some (wv u.g,g):=aW gq rfl rfl;have d7:ld1 (ptr q 7) g=some (wv u.i,g):=aW gq rfl rfl;obtain ⟨re6,re11,re25,_⟩:=rots161 hg u.e;obtain ⟨_,_,_,ra2,ra13,ra22⟩:=rots161 hg u.a;generalize hu:stepS u (pK.getD i 0) (W.getD i 0)=u' at *;have ok:=St.l_ok u';obtain ⟨g2,e2,k2,t2,_,n2⟩:=aY (n:=8) (k':=fw u'.l) gq (by rw [K.n0];exact hq0) rfl rfl ok.2.2;have bl:=bld8 (t1S u (pK.getD i 0) (W.getD i 0)+t2S u) u.a u.b u.c (u.d+t1S u (pK.getD i 0) (W.getD i 0)) u.e u.f u.g;have e2:eY 8 (ptr q 0) (.agg (fw [t1S u (pK.getD i 0) (W.getD i 0)+t2S u,u.a,u.b,u.c,u.d+t1S u (pK.getD i 0) (W.getD i 0),u.e,u.f,u.g]).toArray) g=some (undef,g2):=by rw [<-hu] at e2;exact e2
  have ht1:wv (u.i+(eE u.e 6 ^^^ eE u.e 11 ^^^ eE u.e 25)+(u.g ^^^ (u.e &&& (u.f ^^^ u.g)))+pK.getD i 0+W.getD i 0)=wv (t1S u (pK.getD i 0) (W.getD i 0)):=rfl;have ht2:wv ((eE u.a 2 ^^^ eE u.a 13 ^^^ eE u.a 22)+((u.a &&& u.b) ||| (u.c &&& (u.a ||| u.b))))=wv (t2S u):=rfl;simp -implicitDefEqProofs only [DC hi, y4, y7, y11, i0, i1, i2, i3, i4, i5, i6, i7, d0, d1, d2, d3, d4, d5, d6, d7, w_not, w_and, w_xor, ch_eq, maj_eq, re6, re11, re25, ra2, ra13, ra22, ixb, ixk, lw, lk, BY, ht1, ht2, bl, e2, chkW, GK, dR (show i+1<=9223372036854775807 by omega), aj, ak];refine dJ.next (k-1) (by omega) ⟨i+1,by omega,y3,y4,y6,y7,y11,rfl,K.trans k2,?_,n2.trans gn⟩;rw [t2,w9,hs,hu]
 ·have:i=64:=by omega
  subst this;simp -implicitDefEqProofs only [DF hi];exact dJ.out 2 ⟨rfl,y3,y6,y11,K,gq,gn⟩
theorem wvs_at {L:List (BitVec 32)} {i:Nat} (hi:i<L.length):(fw L)[i]? = some (wv (L.getD i 0)):=by rw [EN,DJ,DB hi];rfl
theorem rnd3 {h:ai} {p q:Nat} {S L:List (BitVec 32)} (hS:S.length=8) (hL:L.length=8) (hp:h.get p=some (fw S)) (hp0:h.n0<=p) (hq:h.get q=some (fw L)) (hne : ¬q=p)
  {p6:Value} {x:Nat->Value} (x3:x 3=ptr p 0) (x6:x 6=p6) (x11:x 11=ptr q 0) (x19:x 19=aq 0) :
  Fin 206 (fun ex y g=>ex = .exit 4/\y 3=ptr p 0/\y 6=p6/\az h g (· = p)/\g.get p=some (fw (addS S L))/\g.next=h.next) (iter (codeA prog CW (ao f113 [1,1,1,1,1,0,1,0,0])) aD (aK 206 x) h):=by
 have hm0:wY S L 0=S:=rfl;have hm8:wY S L 8=addS S L:=by obtain ⟨a,b,c,d,e,f,g,j,rfl⟩:=xV hS;obtain ⟨a',b',c',d',e',f',g',j',rfl⟩:=xV hL;rfl
 refine bC (pR CW) (Inv:=fun k y g => ∃ i,i+k=8/\y 3=ptr p 0/\y 6=p6/\y 11=ptr q 0/\y 19=aq i/\az h g (· = p)/\g.get p=some (fw (wY S L i))/\g.next=h.next) ?_ 8 (by have:aD=18446744073709551616:=rfl;omega) ⟨0,DH _,x3,x6,x11,x19,az.refl _ _,by rw [hm0];exact hp,rfl⟩;rintro k y g ⟨i,hik,y3,y6,y11,y19,K,gp,gn⟩;unfold ji;have l8:aF prog .lss 3 (aq i) (.int .i64 8)=some (.bool (decide (i<8))):=ie i 8;simp -implicitDefEqProofs only [y19,l8,aj,ak];by_cases hi:i<8
 ·obtain ⟨m1,m2,m3⟩:=mix_step hS hL hi;have ixp:idxA 8 1 (ptr p 0) (aq i)=some (ptr p i):=by rw [nj hi,DH]
  have ixq:idxA 8 1 (ptr q 0) (aq i)=some (ptr q i):=by rw [nj hi,DH]
  have lp:ld1 (ptr p i) g=some (wv (S.getD i 0),g):=by rw [<-m1];exact aW gp (wvs_at (by omega)) rfl
  have lq:ld1 (ptr q i) g=some (wv (L.getD i 0),g):=aW (az.getE K hq hne) (wvs_at (by omega)) rfl;obtain ⟨g2,e2,k2,t2,_,n2⟩:=stored (o:=i) (v:=wv (S.getD i 0+L.getD i 0)) gp (by rw [K.n0];exact hp0) (by rw [DY,m3];omega) rfl rfl;simp -implicitDefEqProofs only [DC hi, y3, y11, ixp, ixq, lp, lq, BY, e2, dR (show i+1<=9223372036854775807 by omega), aj, ak];refine dJ.next (k-1) (by omega) ⟨i+1,by omega,y3,y6,y11,rfl,K.trans k2,?_,n2.trans gn⟩;rw [t2,<-m2];show some ((List.map wv (wY S L i)).set i (wv (S.getD i 0+L.getD i 0)))=some (List.map wv ((wY S L i).set i (S.getD i 0+L.getD i 0)));rw [JN]
 ·have:i=8:=by omega
  subst this;simp -implicitDefEqProofs only [DF hi];rw [hm8] at gp;exact dJ.out 4 ⟨rfl,y3,y6,K,gp,gn⟩
theorem is153:cx prog 113 f113:=by constructor<;>kernel_rfl
theorem aggT8:su prog 141=some true:=by kernel_rfl
theorem sizT8:cS prog 141=some 8:=by kernel_rfl
theorem results153:f113.results.toList = [.cell 6 141]:=by kernel_rfl
set_option maxRecDepth 100000 in
theorem r153 {h:ai} (hG:4<=h.n0) {S:List (BitVec 32)} (hS:S.length=8) {B:List Nat} (hBl:B.length=64) {a:Option Addr} {c:Nat} (hB:ax a 64 h=some B) :
  ∃ h',CW 113 [.agg (fw S).toArray,.agg (fw pK).toArray,.slice a 64 c] h=some (.agg (fw (gJ S B)).toArray,h')/\aE h h':=by
 have hS2:=eO S;have hK2:=eO pK;have b1:=fj h _ hS2.2;have o1:aE h (h.alloc (fw S)):=az.alloc _ _ _;have g1:(h.alloc (fw S)).get h.next=some (fw S):=by rw [ai.aN,DL rfl]
 have n1:(h.alloc (fw S)).next=h.next+1:=ai.cO ..;generalize h.alloc (fw S)=h1 at *;have b2:=fj h1 _ hK2.2;have o2:aE h1 (h1.alloc (fw pK)):=az.alloc _ _ _;have g2:(h1.alloc (fw pK)).get h1.next=some (fw pK):=by rw [ai.aN,DL rfl]
 have n2:(h1.alloc (fw pK)).next=h1.next+1:=ai.cO ..;generalize h1.alloc (fw pK)=h2 at *;obtain ⟨h3,z3,o3,g3,n3⟩:=fresh (List.replicate 8 (.int .u32 0)) h2;obtain ⟨h4,z4,o4,g4,n4⟩:=fresh (List.replicate 64 (.int .u32 0)) h3;have O4:aE h h4:=((o1.trans o2).trans o3).trans o4;have hlt : ∀ y,a=some y -> ¬y.block=h3.next:=fun y hy e=>by obtain ⟨b',off',s',k',hx,hk',_⟩:=(aH hB).2.2 (by decide);rw [hy] at hx;cases hx;have:=h.aO hk';have:b'=h3.next:=e;omega
 have hn0:=h.n0_le_next;have key : ∃ o:bc,t153 CW (.agg (fw S).toArray) (.agg (fw pK).toArray) (.slice a 64 c) h=o /\ ∃ h',o=some (.agg (fw (gJ S B)).toArray,h')/\aE h h':=by
  refine ⟨_,rfl,?_⟩;unfold t153;simp -implicitDefEqProofs only [b1, b2, z3, z4, aj];refine bH (Q:=fun o:bc => ∃ h',o=some (.agg (fw (gJ S B)).toArray,h')/\aE h h') (rnd1 (b:=h3.next) (by rw [O4.n0];exact hG) hBl (aE.bytes O4 hB) hlt (by rw [O4.n0];omega) g4 (p3:=ptr h.next 0) (p4:=ptr h1.next 0) (p6:=ptr h2.next 0) rfl rfl rfl rfl rfl rfl) ?_;rintro _ y g5 ⟨rfl,y3,y4,y6,y7,K5,G5,N5⟩;simp -implicitDefEqProofs only [bk,b153_4,EA,AK];unfold sD;have O5:aE h3 g5:=aE.bK o4 K5 (DD _);have OO5:aE h g5:=((o1.trans o2).trans o3).trans O5;have P5:g5.get h.next=some (fw S):=aE.get ((o2.trans o3).trans O5) g1;have L5:=bj (n:=8) P5 (by rw [DY,hS]) hS2.1;obtain ⟨h6,z6,o6,g6,n6⟩:=fresh (List.replicate 8 (.int .u32 0)) g5;obtain ⟨h7,e7,k7,g7,_,n7⟩:=aY (n:=8) (k':=fw S) g6 (by rw [o6.n0];exact g5.n0_le_next) rfl (by rw [DY,hS]) hS2.2;have O7:aE g5 h7:=aE.bK o6 k7 (DD _);simp -implicitDefEqProofs only [y3,L5,z6,e7,aj];have hSl:fw S=fw (St.l ⟨S.getD 0 0,S.getD 1 0,S.getD 2 0,S.getD 3 0,S.getD 4 0,S.getD 5 0,S.getD 6 0,S.getD 7 0⟩):=by obtain ⟨a,b,c,d,e,f,g,j,rfl⟩:=xV hS;rfl
  have n5:=O5.next;refine bH (Q:=fun o:bc => ∃ h',o=some (.agg (fw (gJ S B)).toArray,h')/\aE h h') (rnd2 (h:=h7) (b:=h3.next) (kb:=h1.next) (q:=g5.next) (p:=h.next) (by rw [O7.n0,OO5.n0];exact hG) (W:=ky 48 (vD B)) (by rw [ub];simp [vD]) (aE.get O7 G5) (aE.get O7 (aE.get (o3.trans O5) g2)) (by rw [O7.n0];exact g5.n0_le_next) (by omega) (by omega) (by rw [g7];exact GM some hSl) (p6:=ptr h2.next 0) y3 y4 y6 y7 rfl rfl) ?_;rintro _ y' g8 ⟨rfl,y3',y6',y11',K8,G8,N8⟩;simp -implicitDefEqProofs only [bk,b153_8,EA,AZ];unfold sH;simp -implicitDefEqProofs only [aj];have O8:aE g5 g8:=aE.bK O7 K8 (DD _);refine bH (Q:=fun o:bc => ∃ h',o=some (.agg (fw (gJ S B)).toArray,h')/\aE h h') (rnd3 (h:=g8) (p:=h.next) (q:=g5.next) hS rfl (aE.get O8 P5) (by rw [O8.n0,OO5.n0];omega) G8 (by have:=OO5.next;omega) (p6:=ptr h2.next 0) y3' y6' y11' rfl) ?_;rintro _ y9 g9 ⟨rfl,y39,y69,K9,G9,N9⟩;simp -implicitDefEqProofs only [bk,b153_22,EA,yj];unfold qh;have hcomp:addS S (w9 (ky 48 (vD B)) 64 ⟨S.getD 0 0,S.getD 1 0,S.getD 2 0,S.getD 3 0,S.getD 4 0,S.getD 5 0,S.getD 6 0,S.getD 7 0⟩).l=gJ S B:=rfl;rw [hcomp] at G9;have cl:(fw (gJ S B)).length=8:=by rw [DY,n9 hS]
  have L9:=bj (n:=8) G9 cl (eO _).1;have O9:aE h g9:=(OO5.trans O8).also K9 (fun d hd e=>by omega);have q3:g9.get h2.next=some (List.replicate 8 (.int .u32 0)):=az.getE K9 (aE.get O8 (aE.get O5 g3)) (by omega);obtain ⟨h10,e10,k10,g10,_,_⟩:=aY (n:=8) (k':=fw (gJ S B)) q3 (by rw [O9.n0];omega) rfl cl (eO _).2;have L10:=bj (n:=8) g10 cl (eO _).1;simp -implicitDefEqProofs only [y39,L9,y69,e10,aj];refine ⟨h10,?_,aE.bK O9 k10 (by omega)⟩;exact dG results153 aggT8 sizT8 (show 6<206 by decide) _ (by show du 8 (y9 6) h10=_;rw [y69];exact L10)
 obtain ⟨o9,e,h',e',r⟩:=key;exact ⟨h',aL is153 hG rfl ((t153_eq _ _ _ _ _).trans (e.trans e')),r⟩
theorem fd1 {h0 h:ai} {v:Value} {l:List Nat} {z:Nat} (K:aE h0 h) (o:fq h h0.next v l) (hl:l.length<=1000000) (hz:(l.length+z)%64=56) (hz2:z<64) {q0 q4 q5 q6:Value} {x:Nat->Value} (x0:x 0=q0) (x4:x 4=q4) (x5:x 5=q5) (x6:x 6=q6) (x7:x 7=v) :
  Fin 74 (fun ex y g=>ex = .exit 0/\y 0=q0/\y 4=q4/\y 5=q5/\y 6=q6/\fq g h0.next (y 7) (l++List.replicate z 0)/\aE h0 g) (iter (codeA prog CW (ao f93 [1,1,0,0,0])) aD (aK 74 x) h):=by
 refine bC (uT CW) (Inv:=fun k y g => ∃ l',y 0=q0/\y 4=q4/\y 5=q5/\y 6=q6/\fq g h0.next (y 7) l'/\aE h0 g/\(l'.length+k)%64=56/\k<64/\l'++List.replicate k 0=l++List.replicate z 0/\l'.length<=1000064-k) ?_ z (by have:aD=18446744073709551616:=rfl;omega) ⟨l,x0,x4,x5,x6,by rw [x7];exact o,K,hz,hz2,rfl,by omega⟩;rintro k y g ⟨l',y0,y4,y5,y6,O,K',hm,hk,hc,hb⟩;unfold nF;obtain ⟨a,c,hv,s,_,_⟩:=O.bytes;have hll:lenL (y 7)=some (aq l'.length):=by rw [hv];rfl
 have hr:aF prog .rem 3 (aq l'.length) (.int .i64 64)=some (aq (l'.length%64)):=by unfold aq;rw [ry prog 3 .i64 _ 64 (by decide)];rfl
 cases k with
 |zero=>
  have h56:l'.length%64=56:=by omega
  have hn:aF prog .neq 3 (aq (l'.length%64)) (.int .i64 56)=some (.bool false):=by unfold aq;rw [bz,h56];rfl
  simp -implicitDefEqProofs only [hll,hr,hn,aj,ak];refine dJ.out 0 ⟨rfl,y0,y4,y5,y6,?_,K'⟩;rw [<-hc,List.replicate_zero,EU];exact O
 |succ k=>
  have h56:l'.length%64≠56:=by omega
  have hn:aF prog .neq 3 (aq (l'.length%64)) (.int .i64 56)=some (.bool true):=by
   unfold aq;rw [bz]
   congr 2
   simp only [bne_iff_ne,ne_eq];omega
  have b0:dg 1 (.int .u8 0) 1 [(0,.int .u8 0)] g=some (.slice (some ⟨g.next,0,none⟩) 1 1,g.alloc [u8 0]):=vA g 0;obtain ⟨v',g2,e2,O2,K2⟩:=xK (x:=0) K' O (by decide) (by omega);simp -implicitDefEqProofs only [hll,hr,hn,b0,e2,aj,ak];refine dJ.next k (by omega) ⟨l' ++ [0],y0,y4,y5,y6,O2,K2,by simp;omega,by omega,?_,by simp;omega⟩;rw [<-hc,ER];rfl
theorem fd2 {h0 h:ai} {v:Value} {l:List Nat} {N:Nat} (_:N<18446744073709551616) (K:aE h0 h) (o:fq h h0.next v l) (hl:l.length<=1000064) {q4 q5 q6:Value} {x:Nat->Value} (x4:x 4=q4) (x5:x 5=q5) (x6:x 6=q6) (x7:x 7=v) (x8:x 8 = .int .u64 (N:Int)) (x9:x 9 = .int .i64 7) :
  Fin 74 (fun ex y g=>ex = .exit 2/\y 4=q4/\y 5=q5/\y 6=q6/\fq g h0.next (y 7) (l++gz 8 N)/\aE h0 g) (iter (codeA prog CW (ao f93 [1,1,1,1,0,1,0,0])) aD (aK 74 x) h):=by
 refine bC (rJ CW) (Inv:=fun k y g => ∃ l',k<=8/\y 4=q4/\y 5=q5/\y 6=q6/\y 8 = .int .u64 (N:Int)/\y 9 = .int .i64 ((k:Int)-1)/\fq g h0.next (y 7) l'/\aE h0 g/\l'++gz k N=l++gz 8 N/\l'.length<=1000072) ?_ 8 (by have:aD=18446744073709551616:=rfl;omega) ⟨l,by omega,x4,x5,x6,x8,x9,by rw [x7];exact o,K,rfl,by omega⟩;rintro k y g ⟨l',hk,y4,y5,y6,y8,y9,O,K',hc,hb⟩;unfold jP;have hlen:l'.length+k=l.length+8:=by have:=GM List.length hc;simpa [bR] using this
 cases k with
 |zero=>
  have y9':y 9 = .int .i64 (-1):=y9;have hg:aF prog .geq 3 (.int .i64 (-1)) (.int .i64 0)=some (.bool false):=by rw [bG];rfl
  simp -implicitDefEqProofs only [y9',hg,aj,ak];refine dJ.out 2 ⟨rfl,y4,y5,y6,?_,K'⟩;rw [<-hc,gz,EU];exact O
 |succ k=>
  have y9':y 9=aq k:=by
   rw [y9];unfold aq
   congr 1
   omega
  have hg:aF prog .geq 3 (aq k) (.int .i64 0)=some (.bool true):=by unfold aq;rw [bG,DC (by omega)]
  have cu:lW .u64 (aq k) g=some (.int .u64 (k:Int),g):=by unfold aq;rw [eh,wrap_u64 (by omega) (by omega)]
  have ml:aF prog .mul 120 (.int .u64 8) (.int .u64 (k:Int))=some (.int .u64 ((8*k:Nat):Int)):=by rw [jn,show (8:Int)*(k:Int)=((8*k:Nat):Int) by omega,wrap_u64 (by omega) (by omega)]
  have sh:aF prog .shr 32 (.int .u64 (N:Int)) (.int .u64 ((8*k:Nat):Int))=some (.int .u64 ((N/2^(8*k):Nat):Int)):=eQ prog 32 (by show 8*k<=64;omega);have c8:lW .u8 (.int .u64 ((N/2^(8*k):Nat):Int)) g=some (u8 (N/256^k%256),g):=by rw [eh,gG,Nat.pow_mul];rfl
  have b1:=vA g (N/256^k%256);obtain ⟨v',g2,e2,O2,K2⟩:=xK (x:=N/256^k%256) K' O (HN _ (by decide)) (by omega);have sb:aF prog .sub 3 (aq k) (.int .i64 1)=some (.int .i64 ((k:Int)-1)):=by unfold aq;rw [fE,wrap_i64 (by omega) (by omega)]
  simp -implicitDefEqProofs only [y9',hg,y8,cu,ml,sh,c8,b1,e2,sb,aj,ak];refine dJ.next k (by omega) ⟨l' ++ [N/256^k%256],by omega,y4,y5,y6,y8,rfl,O2,K2,?_,by simp;omega⟩;rw [<-hc,ER];rfl
def iA:Nat->List Nat->List (BitVec 32)->List (BitVec 32)
 | 0,_,S=>S
 |t+1,m,S=>iA t (m.drop 64) (gJ S (m.take 64))
theorem Bg : ∀ (t:Nat) (m:List Nat) (S:List (BitVec 32)),S.length=8->(iA t m S).length=8
 | 0,_,_,h=>h
 |t+1,_,_,h=>Bg t _ _ (n9 h)
theorem ixT {N b:Nat} {j:Nat} (hj:j<N):idxA N 1 (ptr b 0) (aq j)=some (ptr b j):=by rw [nj hj,DH]
set_option maxRecDepth 100000 in
theorem fd3 {h:ai} (hG:4<=h.n0) {p kb t:Nat} {S:List (BitVec 32)} {m:List Nat} {a:Option Addr} {c:Nat} (hS:S.length=8) (hp:h.get p=some (fw S)) (hp0:h.n0<=p) (hk:h.get kb=some (fw pK)) (hkp : ¬kb=p) (hm:ax a (64*t) h=some m) (hg:iN a (64*t) c=true) (ha : ∀ y,a=some y -> ¬y.block=p) (ht:t<=100000)
  {q6:Value} {x:Nat->Value} (x4:x 4=ptr kb 0) (x5:x 5=ptr p 0) (x6:x 6=q6) (x7:x 7 = .slice a (64*t) c) (x10:x 10=aq 0) :
  Fin 74 (fun ex y g=>ex = .exit 4/\y 5=ptr p 0/\y 6=q6/\az h g (· = p)/\g.get p=some (fw (iA t m S))) (iter (codeA prog CW (ao f93 [1,1,1,1,1,0,1,0,0])) aD (aK 74 x) h):=by
 have hml:m.length=64*t:=(aH hm).1;refine bC (qe CW) (Inv:=fun k y g => ∃ i S',i+k=t/\y 4=ptr kb 0/\y 5=ptr p 0/\y 6=q6/\y 7 = .slice a (64*t) c/\y 10=aq (64*i)/\S'.length=8/\az h g (· = p)/\g.get p=some (fw S')/\iA k (m.drop (64*i)) S'=iA t m S) ?_ t (by have:aD=18446744073709551616:=rfl;omega) ⟨0,S,DH _,x4,x5,x6,x7,x10,hS,az.refl _ _,hp,rfl⟩;rintro k y g ⟨i,S',hik,y4,y5,y6,y7,y10,hS',K,gp,hf⟩;unfold iX;have hll:lenL (.slice a (64*t) c)=some (aq (64*t)):=rfl;simp -implicitDefEqProofs only [y10,y7,hll,ie,aj,ak];cases k with
 |zero=>
  have hi : ¬64*i<64*t:=by omega
  simp -implicitDefEqProofs only [DF hi];exact dJ.out 4 ⟨rfl,y5,y6,K,by rw [<-hf];exact gp⟩
 |succ k=>
  have hi:64*i<64*t:=by omega
  have hgn:4<=g.n0:=by rw [K.n0];exact hG
  have l5:=bj (n:=8) gp (by rw [DY,hS']) (eO S').1;have l4:=bj (n:=64) (az.getE K hk hkp) (by rw [DY,xq]) (eO pK).1;have sl:ax a (64*t) g=some m:=K.bytes hm (fun y hy _=>ha y hy);have a1:aF prog .add 3 (aq (64*i)) (.int .i64 64)=some (aq (64*i+64)):=by unfold aq;rw [my,show ((64*i:Nat):Int)+64=((64*i+64:Nat):Int) by omega,wrap_i64 (by omega) (by omega)]
  obtain ⟨a2,c2,es,ss,gs,bs⟩:=BT (vl:=some (aq (64*i))) (vh:=some (aq (64*i+64))) (lo:=64*i) (hi:=64*i+64) hg sl (by omega) (by omega) (by
    have:=goodS_le hg;unfold boundA aq;simp only;rw [DL (by omega),Int.toNat_natCast]) (by
    unfold boundA aq;simp only;rw [DL (by omega),Int.toNat_natCast])
  rw [show 64*i+64-64*i=64 by omega] at es ss;have hBl:((m.drop (64*i)).take 64).length=64:=by rw [DV,EB];omega
  obtain ⟨g2,e2,o2⟩:=r153 (h:=g) hgn hS' hBl (c:=c2) ss;have cl:(fw (gJ S' ((m.drop (64*i)).take 64))).length=8:=by rw [DY,n9 hS']
  obtain ⟨g3,e3,k3,g3',_,_⟩:=aY (n:=8) (k':=fw (gJ S' ((m.drop (64*i)).take 64))) (aE.get o2 gp) (by rw [o2.n0,K.n0];exact hp0) (by rw [DY,hS']) cl (eO _).2;simp -implicitDefEqProofs only [DC hi,y4,y5,l5,l4,a1,es,e2,e3,aj,ak];refine dJ.next k (by omega) ⟨i+1,gJ S' ((m.drop (64*i)).take 64),by omega,y4,y5,y6,y7,rfl,n9 hS',(K.trans (o2.mono (fun _ _ h=>h.elim))).trans k3,g3',?_⟩;rw [<-hf,iA,FV];rfl
theorem fd4 {h:ai} {b p:Nat} {S:List (BitVec 32)} (hS:S.length=8) (hp:h.get p=some (fw S)) (hpb:p≠b) (hb:h.n0<=b) (hw:h.get b=some (bn (nC S 0))) {q6:Value}
  {x:Nat->Value} (x5:x 5=ptr p 0) (x6:x 6=q6) (x11:x 11=ptr b 0) (x12:x 12=aq 0) :
  Fin 74 (fun ex y g=>ex = .exit 6/\y 6=q6/\y 11=ptr b 0/\az h g (· = b)/\g.get b=some (bn (nC S 32))) (iter (codeA prog CW (ao f93 [1,1,1,1,1,1,1,0,1,0,0])) aD (aK 74 x) h):=by
 refine bC (oX CW) (Inv:=fun k y g => ∃ j,j+k=32/\y 5=ptr p 0/\y 6=q6/\y 11=ptr b 0/\y 12=aq j/\az h g (· = b)/\g.get b=some (bn (nC S j))) ?_ 32 (by have:aD=18446744073709551616:=rfl;omega) ⟨0,DH _,x5,x6,x11,x12,az.refl _ _,hw⟩;rintro k y g ⟨j,hjk,y5,y6,y11,y12,K,gw⟩;unfold ic;have l32:aF prog .lss 3 (aq j) (.int .i64 32)=some (.bool (decide (j<32))):=ie j 32;simp -implicitDefEqProofs only [y12,l32,aj,ak];by_cases hj:j<32
 ·have q1:aF prog .quo 3 (aq j) (.int .i64 4)=some (aq (j/4)):=by unfold aq;rw [CF prog 3 .i64 _ 4 (by decide),show Int.tdiv (j:Int) 4=((j/4:Nat):Int) from rfl,wrap_i64 (by omega) (by omega)]
  have r1:aF prog .rem 3 (aq j) (.int .i64 4)=some (aq (j%4)):=by unfold aq;rw [ry prog 3 .i64 _ 4 (by decide)];rfl
  have cu:lW .u64 (aq (j%4)) g=some (.int .u64 ((j%4:Nat):Int),g):=by unfold aq;rw [eh,wrap_u64 (by omega) (by omega)]
  have m1:aF prog .mul 120 (.int .u64 8) (.int .u64 ((j%4:Nat):Int))=some (.int .u64 ((8*(j%4):Nat):Int)):=by rw [jn,show (8:Int)*((j%4:Nat):Int)=((8*(j%4):Nat):Int) by omega,wrap_u64 (by omega) (by omega)]
  have s1:aF prog .sub 120 (.int .u64 24) (.int .u64 ((8*(j%4):Nat):Int))=some (.int .u64 ((24-8*(j%4):Nat):Int)):=by rw [fE,show (24:Int)-((8*(j%4):Nat):Int)=((24-8*(j%4):Nat):Int) by omega,wrap_u64 (by omega) (by omega)]
  have lp:ld1 (ptr p (j/4)) g=some (wv (S.getD (j/4) 0),g):=aW (az.getE K hp hpb) (wvs_at (by omega)) rfl;have sh:aF prog .shr 139 (wv (S.getD (j/4) 0)) (.int .u64 ((24-8*(j%4):Nat):Int))=some (.int .u32 (((S.getD (j/4) 0).toNat/2^(24-8*(j%4)):Nat):Int)):=eQ prog 139 (by show 24-8*(j%4)<=32;omega);have c1:lW .u8 (.int .u32 (((S.getD (j/4) 0).toNat/2^(24-8*(j%4)):Nat):Int)) g=some (u8 ((S.getD (j/4) 0).toNat/2^(24-8*(j%4))%256),g):=by rw [eh,gG];rfl
  obtain ⟨g2,e2,k2,t2,_,n2⟩:=stored (o:=j) (v:=u8 ((S.getD (j/4) 0).toNat/2^(24-8*(j%4))%256)) gw (by rw [K.n0];exact hb) (by rw [DY,pW];omega) rfl rfl;simp -implicitDefEqProofs only [DC hj, y5, y11, q1, r1, cu, m1, s1, ixT (show j/4<8 by omega), lp, sh, c1, ixT hj, e2, dR (show j+1<=9223372036854775807 by omega), aj, ak];refine dJ.next (k-1) (by omega) ⟨j+1,by omega,y5,y6,y11,rfl,K.trans k2,?_⟩;rw [t2,nC];show some ((List.map u8 (nC S j)).set j (u8 ((S.getD (j/4) 0).toNat/2^(24-8*(j%4))%256)))=some (List.map u8 ((nC S j).set j ((S.getD (j/4) 0).toNat/2^(24-8*(j%4))%256)));rw [JN]
 ·have:j=32:=by omega
  subst this;simp -implicitDefEqProofs only [DF hj];exact dJ.out 6 ⟨rfl,y6,y11,K,gw⟩
theorem is136:cx prog 93 f93:=by constructor<;>kernel_rfl
theorem results136:f93.results.toList = [.cell 6 36]:=by kernel_rfl
def jI (n:Nat):Nat:=(119-n%64)%64
def padM (l:List Nat):List Nat:=((l ++ [128])++List.replicate (jI l.length) 0)++gz 8 (l.length*8)
def kN (l:List Nat):Nat:=(l.length+jI l.length+9)/64
theorem wG (n:Nat):(n+1+jI n)%64=56/\jI n<64:=by unfold jI;omega
theorem padM_len (l:List Nat):(padM l).length=64*kN l:=by have:=wG l.length;unfold padM kN;simp only [DE,IC,bR,List.length_cons,List.length_nil];omega
def rI (S:List (BitVec 32)) (l:List Nat):List Nat:=nC (iA (kN l) (padM l) S) 32
theorem xh (S:List (BitVec 32)) (l:List Nat):js (rI S l):=⟨pW _ 32,zm _ 32⟩
set_option maxRecDepth 100000 in
theorem r136 {h:ai} (hG:4<=h.n0) {S:List (BitVec 32)} (hS:S.length=8) {a:Option Addr} {n c:Nat} {l:List Nat} (hl:ax a n h=some l) (hn:n<=20000) :
  ∃ h',CW 93 [.slice a n c,.agg (fw pK).toArray,.agg (fw S).toArray] h=some (.agg (bn (rI S l)).toArray,h')/\aE h h':=by
 have hlen:l.length=n:=(aH hl).1;have hS2:=eO S;have hK2:=eO pK;have b1:=fj h _ hK2.2;have o1:aE h (h.alloc (fw pK)):=az.alloc _ _ _;have g1:(h.alloc (fw pK)).get h.next=some (fw pK):=by rw [ai.aN,DL rfl]
 have n1:(h.alloc (fw pK)).next=h.next+1:=ai.cO ..;generalize h.alloc (fw pK)=h1 at *;have b2:=fj h1 _ hS2.2;have o2:aE h1 (h1.alloc (fw S)):=az.alloc _ _ _;have g2:(h1.alloc (fw S)).get h1.next=some (fw S):=by rw [ai.aN,DL rfl]
 have n2:(h1.alloc (fw S)).next=h1.next+1:=ai.cO ..;generalize h1.alloc (fw S)=h2 at *;obtain ⟨h3,z3,o3,g3,n3⟩:=fresh (List.replicate 32 (.int .u8 0)) h2;have O3:aE h h3:=(o1.trans o2).trans o3;have b4:=vJ h3;have o4:aE h3 (h3.alloc []):=az.alloc _ _ _;have w4:fq (h3.alloc []) h3.next (.slice (some ⟨h3.next,0,none⟩) 0 0) []:=⟨rL.empty _ (DD _),by simp⟩
 obtain ⟨v5,h5,e5,w5,o5⟩:=zF (c:=c) o4 w4 (aE.bytes (O3.trans o4) hl) (by show 0+n<=100000000;omega);rw [List.nil_append] at w5;have b6:dg 1 (.int .u8 0) 1 [(0,.int .u8 128)] h5=some (.slice (some ⟨h5.next,0,none⟩) 1 1,h5.alloc [u8 128]):=vA h5 128;obtain ⟨v6,h6,e6,w6,o6⟩:=xK (x:=128) o5 w5 (by decide) (by omega);have zs:=wG l.length;have hn0:=h.n0_le_next;have key : ∃ o:bc,t136 CW (.slice a n c) (.agg (fw pK).toArray) (.agg (fw S).toArray) h=o /\ ∃ h',o=some (.agg (bn (rI S l)).toArray,h')/\aE h h':=by
  refine ⟨_,rfl,?_⟩;unfold t136;simp -implicitDefEqProofs only [b1,b2,z3,b4,e5,b6,e6,aj];refine bH (Q:=fun o:bc => ∃ h',o=some (.agg (bn (rI S l)).toArray,h')/\aE h h') (fd1 (h0:=h3) (z:=jI l.length) o6 w6 (by simp;omega) (by simp only [DE,List.length_cons,List.length_nil];omega) zs.2 (q0 := .slice a n c) (q4:=ptr h.next 0) (q5:=ptr h1.next 0) (q6:=ptr h2.next 0) rfl rfl rfl rfl rfl) ?_;rintro _ y g7 ⟨rfl,y0,y4,y5,y6,w7,o7⟩;simp -implicitDefEqProofs only [bk,b136_3,EA,Au];unfold sE;have hll:lenL (.slice a n c)=some (aq n):=rfl;have cu:lW .u64 (aq n) g7=some (.int .u64 (n:Int),g7):=by unfold aq;rw [eh,wrap_u64 (by omega) (by omega)]
  have ml:aF prog .mul 32 (.int .u64 (n:Int)) (.int .u64 8)=some (.int .u64 ((l.length*8:Nat):Int)):=by rw [jn,show (n:Int)*8=((l.length*8:Nat):Int) by omega,wrap_u64 (by omega) (by omega)]
  simp -implicitDefEqProofs only [y0,hll,cu,ml,aj,ak];refine bH (Q:=fun o:bc => ∃ h',o=some (.agg (bn (rI S l)).toArray,h')/\aE h h') (fd2 (h0:=h3) (N:=l.length*8) (by omega) o7 w7 (by simp only [DE,List.length_cons,List.length_nil,IC];omega) y4 y5 y6 rfl rfl rfl) ?_;rintro _ y' g8 ⟨rfl,y4',y5',y6',w8,o8⟩;simp -implicitDefEqProofs only [bk,b136_7,EA,Ay];unfold sW;simp -implicitDefEqProofs only [aj];obtain ⟨a8,c8,hv8,s8,gd8,hN8,_⟩:=w8.bytes;have hpl:(((l ++ [128])++List.replicate (jI l.length) 0)++gz 8 (l.length*8)).length=64*kN l:=padM_len l;rw [hpl] at hv8 s8 gd8;have OO8:aE h g8:=O3.trans o8;have P8:g8.get h1.next=some (fw S):=aE.get (o3.trans o8) g2;have Q8:g8.get h.next=some (fw pK):=aE.get ((o2.trans o3).trans o8) g1;have hbl:kN l<=100000:=by unfold kN;omega
  refine bH (Q:=fun o:bc => ∃ h',o=some (.agg (bn (rI S l)).toArray,h')/\aE h h') (fd3 (h:=g8) (by rw [OO8.n0];exact hG) (p:=h1.next) (kb:=h.next) (t:=kN l) hS P8 (by rw [OO8.n0];omega) Q8 (by omega) s8 gd8 (fun y hy e=>by have:=hN8 y hy;omega) hbl (q6:=ptr h2.next 0) y4' y5' y6' hv8 rfl) ?_;rintro _ y9 g9 ⟨rfl,y59,y69,K9,G9⟩;simp -implicitDefEqProofs only [bk,b136_13,EA,zG];unfold qx;obtain ⟨h10,z10,o10,g10,n10⟩:=fresh (List.replicate 32 (.int .u8 0)) g9;simp -implicitDefEqProofs only [z10,aj];have O9:aE h g9:=OO8.also K9 (fun d hd e=>by omega);have m9:=K9.next;have m8:=o8.next;refine bH (Q:=fun o:bc => ∃ h',o=some (.agg (bn (rI S l)).toArray,h')/\aE h h') (fd4 (h:=h10) (b:=g9.next) (p:=h1.next) (Bg _ _ _ hS) (aE.get o10 G9) (by omega) (by rw [o10.n0];exact g9.n0_le_next) g10 (q6:=ptr h2.next 0) y59 y69 rfl rfl) ?_;rintro _ y11 g11 ⟨rfl,y611,y1111,K11,G11⟩;simp -implicitDefEqProofs only [bk,b136_21,EA,yn];unfold pL;have dc:=aZ (xh S l);have G11:g11.get g9.next=some (bn (rI S l)):=G11;have L11:=bj G11 dc.1 dc.2.1;have O11:aE h g11:=(O9.trans o10).also K11 (fun d hd e=>by have:=O9.next;omega);have q3:g11.get h2.next=some (List.replicate 32 (.int .u8 0)):=az.getE K11 (aE.get o10 (az.getE K9 (aE.get o8 g3) (by omega))) (by omega);obtain ⟨h12,e12,k12,g12,_,_⟩:=aY (n:=32) (k':=bn (rI S l)) q3 (by rw [O11.n0];omega) rfl dc.1 dc.2.2;have L12:=bj g12 dc.1 dc.2.1;simp -implicitDefEqProofs only [y1111,L11,y611,e12,aj];refine ⟨h12,?_,aE.bK O11 k12 (by omega)⟩;exact dG results136 kD fI (show 6<74 by decide) _ (by show du 32 (y11 6) h12=_;rw [y611];exact L12)
 obtain ⟨o9,e,h',e',r⟩:=key;exact ⟨h',aL is136 hG rfl ((t136_eq _ _ _ _ _).trans (e.trans e')),r⟩
def GR (h:ai):Prop:=h.get 1=some (fw pK)
theorem GR.old {h h':ai} (x:GR h) (o:aE h h'):GR h':=aE.get o x
theorem is108:cx prog 69 f69:=by constructor<;>kernel_rfl
theorem is72:cx prog 70 f70:=by constructor<;>kernel_rfl
theorem is110:cx prog 72 f72:=by constructor<;>kernel_rfl
theorem results108:f69.results.toList = [.cell 2 36]:=by kernel_rfl
theorem results72:f70.results.toList = [.cell 2 36]:=by kernel_rfl
theorem results110:f72.results.toList = [.cell 4 36]:=by kernel_rfl
set_option maxRecDepth 100000 in
theorem r108 {h:ai} (hG:4<=h.n0) (hr:GR h) {a:Option Addr} {n c:Nat} {l:List Nat} (hl:ax a n h=some l) (hn:n<=20000) :
  ∃ h',CW 69 [.slice a n c] h=some (.agg (bn (rI H0 l)).toArray,h')/\aE h h':=by
 obtain ⟨h1,z1,o1,g1,n1⟩:=fresh (List.replicate 32 (.int .u8 0)) h;have L1:=bj (n:=64) (aE.get o1 hr) (by rw [DY,xq]) (eO pK).1;obtain ⟨h2,e2,o2⟩:=r136 (h:=h1) (by rw [o1.n0];exact hG) (S:=H0) rfl (c:=c) (aE.bytes o1 hl) hn;have dc:=aZ (xh H0 l);obtain ⟨h3,e3,k3,g3,_,_⟩:=aY (n:=32) (k':=bn (rI H0 l)) (o2.get g1) (by rw [o2.n0,o1.n0];exact h.n0_le_next) rfl dc.1 dc.2.2;have L3:=bj g3 dc.1 dc.2.1;refine ⟨h3,aL is108 hG rfl ((t108_eq _ _ _).trans ?_),aE.bK (o1.trans o2) k3 (DD _)⟩;unfold t108;simp -implicitDefEqProofs only [z1,L1,bldH,e2,e3,aj,ak];exact dG results108 kD fI (show 2<7 by decide) _ L3
def zT (r:av):List Nat:=rI H0 ([0]++kr r)
def uC (a b:List Nat):List Nat:=rI H0 (([1]++a)++b)
set_option maxRecDepth 100000 in
theorem r72 {h:ai} (hG:4<=h.n0) (hr:GR h) (hz:GZ h) {r:av} (w:r.Wf) (v:dX r=true) : ∃ h',CW 70 [.agg (bW r).toArray] h=some (.agg (bn (zT r)).toArray,h')/\aE h h':=by
 obtain ⟨h1,b1,o1,g1,n1⟩:=dS h w;obtain ⟨h2,z2,o2,g2,n2⟩:=fresh (List.replicate 32 (.int .u8 0)) h1;have L2:=bj (o2.get g1) (aQ w).1 (aQ w).2.1;have O2:=o1.trans o2;obtain ⟨v3,h3,e3,w3,o3⟩:=r46 (h:=h2) (by rw [O2.n0];exact hG) (hz.old O2) w v;have O3:=O2.trans o3;obtain ⟨a3,c3,rfl,s3,_,_⟩:=w3.bytes;rw [yl w] at s3 e3;have b4:dg 1 (.int .u8 0) 1 [(0,.int .u8 0)] h3=some (.slice (some ⟨h3.next,0,none⟩) 1 1,h3.alloc [u8 0]):=vA h3 0;have o4:aE h3 (h3.alloc [u8 0]):=az.alloc _ _ _;obtain ⟨v5,h5,e5,w5,o5⟩:=sn (c:=c3) (nB h3 (x:=0) (by decide)) (aE.bytes o4 s3) (by decide) (by decide);have O5:=(O3.trans o4).trans o5;obtain ⟨a5,c5,rfl,s5,_,_⟩:=w5.bytes;have l5:([0]++kr r).length=54:=by rw [DE,yl w];rfl
 rw [l5] at s5 e5;obtain ⟨h6,e6,o6⟩:=r108 (h:=h5) (by rw [O5.n0];exact hG) (hr.old O5) (c:=c5) s5 (by decide);have e6:CW 69 [.slice a5 54 c5] h5=some (.agg (bn (zT r)).toArray,h6):=e6;have O6:=O5.trans o6;have dc:=aZ (show js (zT r) from xh _ _);obtain ⟨h7,e7,k7,g7,_,_⟩:=aY (n:=32) (k':=bn (zT r)) (aE.get (((o3.trans o4).trans o5).trans o6) g2) (by rw [O6.n0];have:=h.n0_le_next;have:=o1.next;omega) rfl dc.1 dc.2.2;have L7:=bj g7 dc.1 dc.2.1;refine ⟨h7,aL is72 hG rfl ((t72_eq _ _ _).trans ?_),aE.bK O6 k7 (by have:=o1.next;omega)⟩;unfold t72;simp -implicitDefEqProofs only [b1,z2,L2,e3,ext0,ext1,b4,e5,e6,e7,aj,ak];exact dG results72 kD fI (show 2<14 by decide) _ L7
set_option maxRecDepth 100000 in
theorem r110 {h:ai} (hG:4<=h.n0) (hr:GR h) {a b:List Nat} (wa:js a) (wb:js b) : ∃ h',CW 72 [.agg (bn a).toArray,.agg (bn b).toArray] h=some (.agg (bn (uC a b)).toArray,h')/\aE h h':=by
 have ca:=aZ wa;have cb:=aZ wb;have b1:=fj h _ ca.2.2;have o1:aE h (h.alloc (bn a)):=az.alloc _ _ _;have g1:(h.alloc (bn a)).get h.next=some (bn a):=by rw [ai.aN,DL rfl]
 have n1:(h.alloc (bn a)).next=h.next+1:=ai.cO ..;generalize h.alloc (bn a)=h1 at *;have b2:=fj h1 _ cb.2.2;have o2:aE h1 (h1.alloc (bn b)):=az.alloc _ _ _;have g2:(h1.alloc (bn b)).get h1.next=some (bn b):=by rw [ai.aN,DL rfl]
 have n2:(h1.alloc (bn b)).next=h1.next+1:=ai.cO ..;generalize h1.alloc (bn b)=h2 at *;obtain ⟨h3,z3,o3,g3,n3⟩:=fresh (List.replicate 32 (.int .u8 0)) h2;have O3:=(o1.trans o2).trans o3;have b5:dg 1 (.int .u8 0) 1 [(0,.int .u8 1)] h3=some (.slice (some ⟨h3.next,0,none⟩) 1 1,h3.alloc [u8 1]):=vA h3 1;have o4:aE h3 (h3.alloc [u8 1]):=az.alloc _ _ _;have s1 : ∀ g,aE h1 g->ax (some ⟨h.next,0,none⟩) 32 g=some a:=fun g o=>by have:=dq (off:=0) (n:=32) (s:=none) (aE.get o g1) (by rw [wa.1];decide) wa.2;rw [EP,DX (by rw [wa.1];decide)] at this;exact this
 have s2 : ∀ g,aE h2 g->ax (some ⟨h1.next,0,none⟩) 32 g=some b:=fun g o=>by have:=dq (off:=0) (n:=32) (s:=none) (aE.get o g2) (by rw [wb.1];decide) wb.2;rw [EP,DX (by rw [wb.1];decide)] at this;exact this
 obtain ⟨v5,h5,e5,w5,o5⟩:=sn (c:=32) (nB h3 (x:=1) (by decide)) (s1 _ ((o2.trans o3).trans o4)) (by decide) (by decide);have O5:=(o3.trans o4).trans o5;have w5':fq h5 h3.next v5 ([1]++a):=w5.weak o4.next;obtain ⟨v6,h6,e6,w6,o6⟩:=zF (h0:=h3) (c:=32) (o4.trans o5) w5' (s2 _ O5) (by rw [DE,wa.1];decide);have OO6:aE h h6:=O3.trans o6;obtain ⟨a6,c6,rfl,s6,_,_⟩:=w6.bytes;have l6:(([1]++a)++b).length=65:=by rw [DE,DE,wa.1,wb.1];rfl
 rw [l6] at s6 e6;obtain ⟨h7,e7,o7⟩:=r108 (h:=h6) (by rw [OO6.n0];exact hG) (hr.old OO6) (c:=c6) s6 (by decide);have e7:CW 69 [.slice a6 65 c6] h6=some (.agg (bn (uC a b)).toArray,h7):=e7;have O7:=OO6.trans o7;have dc:=aZ (show js (uC a b) from xh _ _);obtain ⟨h8,e8,k8,g8,_,_⟩:=aY (n:=32) (k':=bn (uC a b)) (aE.get (o6.trans o7) g3) (by rw [O7.n0];have:=h.n0_le_next;omega) rfl dc.1 dc.2.2;have L8:=bj g8 dc.1 dc.2.1;refine ⟨h8,aL is110 hG rfl ((t110_eq _ _ _ _).trans ?_),aE.bK O7 k8 (by omega)⟩;unfold t110;simp -implicitDefEqProofs only [b1,b2,z3,Bz,b5,e5,e6,e7,e8,aj,ak];exact dG results110 kD fI (show 4<11 by decide) _ L8
end Go.Proofs.YtdnahgfgoajmcaaGreatDoor
namespace Go.Proofs.YtdnahgfgoajmcaaGreatDoor
open Go Go.Abs Tryz
theorem mO : ∀ (f:Nat) (s:HD) (l:List Nat),s.B.length=64->l.length<=f ->
  (HD.wrN f s l).S=iA ((s.n%64+l.length)/64) (s.B.take (s.n%64)++l) s.S/\(HD.wrN f s l).B.take ((s.n+l.length)%64)=(s.B.take (s.n%64)++l).drop (64*((s.n%64+l.length)/64))/\(HD.wrN f s l).n=s.n+l.length/\(HD.wrN f s l).B.length=64:=by
 have b9 : ∀ (s:HD),s.B.length=64->s.S=iA ((s.n%64+([]:List Nat).length)/64) (s.B.take (s.n%64) ++ []) s.S/\s.B.take ((s.n+([]:List Nat).length)%64)=(s.B.take (s.n%64) ++ []).drop (64*((s.n%64+([]:List Nat).length)/64))/\s.n=s.n+([]:List Nat).length/\s.B.length=64:=by
  intro s hB;have h0:(s.n%64+([]:List Nat).length)/64=0:=by simp only [List.length_nil];omega
  rw [h0];refine ⟨rfl,?_,rfl,hB⟩;rw [EU,Nat.mul_zero,EP];rfl
 intro f;induction f with
 |zero=>
  intro s l hB hl;have:l = []:=DW.1 (by omega);subst this;exact b9 s hB
 |succ f ih=>
  intro s l hB hl;rw [HD.wrN];by_cases e:l = []
  ·subst e;rw [DL rfl];exact b9 s hB
  ·rw [DM e];have hp:0<l.length:=H7.2 e;have hm:s.n%64<64:=HN _ (by decide);generalize hat:s.n%64=a at *;generalize hk:min l.length (64-a)=k at *;have hPB:(s.put l).B=s.B.take a++(l.take k++s.B.drop (a+k)):=by unfold HD.put;simp only [hat,hk]
   have hPn:(s.put l).n=s.n+k:=by unfold HD.put;simp only [hat,hk]
   have hPS:(s.put l).S=if a+k=64 then gJ s.S (s.B.take a++(l.take k++s.B.drop (a+k))) else s.S:=by unfold HD.put;simp only [hat,hk]
   have hPl:(s.put l).B.length=64:=by rw [hPB];simp only [DE,DV,EB,hB];omega
   obtain ⟨i1,i2,i3,i4⟩:=ih (s.put l) (l.drop k) hPl (by rw [EB];omega);have hdl:(l.drop k).length=l.length-k:=EB;rw [hPn,hdl] at i1 i2 i3;by_cases hc:a+k=64
   ·have a0:(s.n+k)%64=0:=by omega
    have t1:(a+l.length)/64=(l.length-k)/64+1:=by omega
    have hB2:s.B.take a++(l.take k++s.B.drop (a+k))=(s.B.take a++l).take 64:=by rw [hc,GU (by omega),EU,List.take_append,DV,hB,HI (by omega),H2,Nat.min_eq_right (by omega),show 64-a=k by omega]
    have hD2:l.drop k=(s.B.take a++l).drop 64:=by have q:(s.B.take a).drop 64 = []:=GU (by rw [DV];omega);rw [List.drop_append,DV,hB,HI (by omega),q,List.nil_append,show 64-a=k by omega]
    rw [a0,List.take_zero,List.nil_append,DH] at i1 i2;rw [hPS,DL hc,hB2] at i1;refine ⟨?_,?_,by rw [i3];omega,i4⟩
    ·rw [i1,t1,iA,<-hD2]
    ·rw [show (s.n+l.length)%64=(s.n+k+(l.length-k))%64 by congr 1;omega,i2,t1,hD2,FV]
     congr 1
     omega
   ·have hkl:k=l.length:=by omega
    have d0:l.drop k = []:=GU (by omega);have a1:(s.n+k)%64=a+l.length:=by omega
    have t0:(a+l.length)/64=0:=by omega
    have z0:((s.n+k)%64+(l.length-k))/64=0:=by omega
    rw [z0] at i1 i2;rw [d0] at i1 i2 i3 i4 |-;rw [hPS,DM hc] at i1;refine ⟨?_,?_,by rw [i3];omega,i4⟩
    ·rw [i1,t0];rfl
    ·rw [show (s.n+l.length)%64=(s.n+k+(l.length-k))%64 by congr 1;omega,i2,t0,a1,hPB];rw [Nat.mul_zero,EP,EP,EU,<-List.append_assoc,GA (by simp [hB];omega),DX (by simp [hB];omega),hkl,GN]
theorem uO : ∀ (t u:Nat) (m:List Nat) (S:List (BitVec 32)),iA (t+u) m S=iA u (m.drop (64*t)) (iA t m S)
 | 0,u,m,S=>by rw [DH,Nat.mul_zero,EP,iA]
 |t+1,u,m,S=>by rw [show t+1+u=(t+u)+1 by omega,iA,uO t u,iA,FV,show 64+64*t=64*(t+1) by omega]
theorem u9 : ∀ (t:Nat) (m x:List Nat) (S:List (BitVec 32)),64*t<=m.length->iA t (m++x) S=iA t m S
 | 0,_,_,_,_=>rfl
 |t+1,m,x,S,h=>by rw [iA,iA,GA (by omega),GS (by omega),u9 t _ x _ (by rw [EB];omega)]
theorem beB8_at (v:Nat) {j:Nat} (hj:j<8):(gz 8 v)[j]? = some (v/2^(56-8*j)%256):=by
 match j,hj with
 | 0,_=>rfl
 | 1,_=>rfl
 | 2,_=>rfl
 | 3,_=>rfl
 | 4,_=>rfl
 | 5,_=>rfl
 | 6,_=>rfl
 | 7,_=>rfl
theorem BM {N:Nat} (h1:1<=N) (h2:N<=64) (v:Nat) : ∀ j,j<=8->sj N v j=(128::List.replicate (N-1) 0)++((gz 8 v).take j++List.replicate (72-N-j) 0)
 | 0,_=>by
   rw [sj,List.take_zero,List.nil_append,List.cons_append,List.replicate_append_replicate]
   congr 2
   omega
 |j+1,h=>by
  rw [sj,BM h1 h2 v j (by omega)];have hT:(gz 8 v).take (j+1)=(gz 8 v).take j ++ [v/2^(56-8*j)%256]:=by rw [JI,beB8_at v (by omega)];rfl
  have hR:List.replicate (72-N-j) 0=0::List.replicate (72-N-(j+1)) 0:=by rw [show 72-N-j=(72-N-(j+1))+1 by omega,List.replicate_succ]
  rw [hT,hR,<-List.append_assoc,set_nat (A:=(128::List.replicate (N-1) 0)++(gz 8 v).take j) (B':=(v/2^(56-8*j)%256)::List.replicate (72-N-(j+1)) 0) 0 (by simp [bR];omega) rfl];simp only [ER,List.cons_append,List.nil_append]
theorem padOf_eq (n:Nat):iw n=([128]++List.replicate (jI n) 0)++gz 8 (n*8):=by
 have hz:64-(n+8)%64-1=jI n:=by unfold jI;omega
 have hm:(n+8)%64<64:=HN _ (by decide);unfold iw;rw [BM (by omega) (by omega) _ 8 (DD _),hz,DX (l:=gz 8 (n*8)) (by rw [bR];decide)];have e:(128::List.replicate (jI n) 0)++(gz 8 (n*8)++List.replicate (72-(64-(n+8)%64)-8) 0)=(([128]++List.replicate (jI n) 0)++gz 8 (n*8))++List.replicate (72-(64-(n+8)%64)-8) 0:=by simp only [ER,List.cons_append,List.nil_append]
 rw [e,GA (by simp [bR];omega),DX (by simp [bR];omega)]
theorem HD.CS (s:HD):s.sum=nC (s.wr (iw s.n)).S 32:=rfl
theorem HD.vO (s:HD) (l:List Nat):s.wr l=HD.wrN l.length s l:=rfl
theorem zv (l:List Nat):(Ah.wr l).sum=rI H0 l:=by
 obtain ⟨a1,a2,a3,a4⟩:=mO l.length Ah l rfl (DD _);have n0:Ah.n=0:=rfl;rw [n0] at a1 a2 a3;have e0:(0:Nat)%64=0:=rfl;rw [e0,List.take_zero,List.nil_append,DH] at a1 a2;rw [DH] at a3;obtain ⟨b1,_,_,_⟩:=mO (iw l.length).length (Ah.wr l) (iw l.length) a4 (DD _);have a3:(Ah.wr l).n=l.length:=a3;have a2:(Ah.wr l).B.take (l.length%64)=l.drop (64*(l.length/64)):=a2;have a1:(Ah.wr l).S=iA (l.length/64) l H0:=a1;rw [a3,a2,a1] at b1;have hp:padM l=l++iw l.length:=by rw [padOf_eq];unfold padM;simp only [ER]
 have hpl:(iw l.length).length=jI l.length+9:=by rw [padOf_eq];simp [bR]
 have hb:kN l=l.length/64+(l.length%64+(iw l.length).length)/64:=by unfold kN;rw [hpl];omega
 have q:(Ah.wr l).sum=nC ((Ah.wr l).wr (iw (Ah.wr l).n)).S 32:=HD.CS _;rw [q,a3,HD.vO (Ah.wr l) (iw l.length),b1];unfold rI;rw [hb,hp,uO,u9 (l.length/64) l (iw l.length) H0 (by omega),GS (by omega)]
theorem sum_congr {s u:HD} (hs:s.B.length=64) (hu:u.B.length=64) (hS:s.S=u.S) (hn:s.n=u.n) (hB:s.B.take (s.n%64)=u.B.take (u.n%64)):s.sum=u.sum:=by obtain ⟨a1,_⟩:=mO (iw s.n).length s (iw s.n) hs (DD _);obtain ⟨b1,_⟩:=mO (iw u.n).length u (iw u.n) hu (DD _);rw [HD.CS,HD.CS,HD.vO s (iw s.n),HD.vO u (iw u.n),a1,b1,hS,hB,hn]
theorem wr_two {s:HD} (hs:s.B.length=64) (a b:List Nat):((s.wr a).wr b).sum=(s.wr (a++b)).sum:=by
 obtain ⟨a1,a2,a3,a4⟩:=mO a.length s a hs (DD _);rw [<-HD.vO s a] at a1 a2 a3 a4;obtain ⟨b1,b2,b3,b4⟩:=mO b.length (s.wr a) b a4 (DD _);rw [<-HD.vO (s.wr a) b] at b1 b2 b3 b4;obtain ⟨c1,c2,c3,c4⟩:=mO (a++b).length s (a++b) hs (DD _);rw [<-HD.vO s (a++b)] at c1 c2 c3 c4;rw [a3] at b1 b2 b3;rw [a2] at b1 b2;rw [DE] at c1 c2 c3;have hP:(s.B.take (s.n%64)).length=s.n%64:=by have:s.n%64<64:=HN _ (by decide);rw [DV,hs,HI (by omega)]
 have ht:(s.n%64+(a.length+b.length))/64=(s.n%64+a.length)/64+((s.n+a.length)%64+b.length)/64:=by omega
 have hle:64*((s.n%64+a.length)/64)<=(s.B.take (s.n%64)++a).length:=by rw [DE,hP];omega
 have hd:(s.B.take (s.n%64)++(a++b)).drop (64*((s.n%64+a.length)/64))=(s.B.take (s.n%64)++a).drop (64*((s.n%64+a.length)/64))++b:=by rw [<-List.append_assoc,GS hle]
 refine sum_congr b4 c4 ?_ (by rw [b3,c3];omega) ?_
 ·rw [b1,c1,a1,ht,uO,hd,<-List.append_assoc,u9 _ _ b _ hle]
 ·rw [b3,b2,c3,show s.n+(a.length+b.length)=s.n+a.length+b.length by omega,show (s.n+a.length+b.length)%64=(s.n+(a.length+b.length))%64 by congr 1;omega,c2,ht,Nat.mul_add,<-List.drop_drop,hd]
theorem leaf_same (r:av):pF r=zT r:=by unfold pF zT;rw [wr_two rfl,zv]
theorem node_same (a b:List Nat):dB a b=uC a b:=by have h1:(Ah.wr [1]).B.length=64:=(mO 1 Ah [1] rfl (DD _)).2.2.2;unfold dB uC;rw [wr_two h1,wr_two rfl,zv,ER]
end Go.Proofs.YtdnahgfgoajmcaaGreatDoor
namespace Go.Proofs.YtdnahgfgoajmcaaGreatDoor
open Go Go.Abs Tryz
attribute [local congr] aw
def km:Nat->Nat->Nat->Nat
 | 0,m,_=>m
 |f+1,m,n=>if 2*m<n then km f (2*m) n else m
def dU (n:Nat):Nat:=km 30 1 n
theorem is109:cx prog 71 f71:=by constructor<;>kernel_rfl
theorem r109 {h:ai} (hG:4<=h.n0) {n:Nat} (hn:n<=1048576):CW 71 [aq n] h=some (aq (dU n),h):=by
 refine aL is109 hG rfl ((t109_eq _ _ _).trans ?_);unfold t109;simp -implicitDefEqProofs only [aj];refine bH (n:=11) (fin:=fun ex y g=>ex = .exit 0/\g=h/\y 3=aq (dU n)) (Q:=fun o:bc=>o=some (aq (dU n),h))
  (bC (vz CW) (Inv:=fun k y g => ∃ m,y 0=aq n/\y 3=aq m/\g=h/\m<=1048576/\km k m n=dU n/\n<=m*2^(k+1)) ?_ 30 (by have:aD=18446744073709551616:=rfl;omega) ⟨1,rfl,rfl,rfl,by decide,rfl,by omega⟩) ?_
 ·rintro k y g ⟨m,y0,y3,rfl,hm,hh,hb⟩;unfold np;have m1:aF prog .mul 3 (.int .i64 2) (aq m)=some (aq (2*m)):=by unfold aq;rw [jn,show (2:Int)*(m:Int)=((2*m:Nat):Int) by omega,wrap_i64 (by omega) (by omega)]
  have m2:aF prog .mul 3 (aq m) (.int .i64 2)=some (aq (2*m)):=by unfold aq;rw [jn,show (m:Int)*2=((2*m:Nat):Int) by omega,wrap_i64 (by omega) (by omega)]
  simp -implicitDefEqProofs only [y0,y3,m1,ie,aj,ak];by_cases hlt:2*m<n
  ·cases k with
   |zero=>omega
   |succ k=>
    simp -implicitDefEqProofs only [DC hlt, m2, aj, ak];refine dJ.next k (by omega) ⟨2*m,y0,rfl,rfl,by omega,?_,?_⟩
    ·rw [<-hh,km,DL hlt]
    ·calc n<=m*2^(k+1+1):=hb
      _=2*m*2^(k+1):=by rw [Nat.pow_succ 2 (k+1),JU (2^(k+1)) 2,<-Nat.mul_assoc,JU m 2]
  ·simp -implicitDefEqProofs only [DF hlt];refine dJ.out 0 ⟨rfl,rfl,?_⟩;rw [<-hh];show y 3=_;rw [y3];cases k with
   |zero=>rfl
   |succ k=>rw [km,DM hlt]
 ·rintro ex z g ⟨rfl,rfl,z3⟩;simp -implicitDefEqProofs only [bk,b109_3,EA,AF];unfold rZ;rw [z3];rfl
def lvl:Nat->Nat->Nat->Nat×Nat
 | 0,i,b=>(i,b)
 |f+1,i,b=>if i%2=0/\i≠0 then lvl f (i/2) (b/2) else (i,b)
theorem and1 {i:Nat} (hi:i<=1048576):aF prog .and 3 (aq i) (.int .i64 1)=some (aq (i%2)):=by
 unfold aq;rw [dy];unfold jw qu;simp only;have e1:BitVec.ofInt (IntKind.bits .i64) ((i:Nat):Int)=BitVec.ofNat 64 i:=by show BitVec.ofInt 64 _=_;rw [BitVec.ofInt_natCast]
 have e2:BitVec.ofInt (IntKind.bits .i64) 1=BitVec.ofNat 64 1:=rfl;rw [e1,e2];have e3:(BitVec.ofNat 64 i &&& BitVec.ofNat 64 1).toNat=i%2:=by rw [BitVec.toNat_and,IF,IF,GX (by omega),show 1%2^64=1 from rfl,Nat.and_one_is_mod]
 show some (Value.int .i64 (IntKind.wrap .i64 (((BitVec.ofNat 64 i &&& BitVec.ofNat 64 1).toNat:Nat):Int)))=_;rw [e3,wrap_i64 (by omega) (by omega)]
theorem shr1 {i:Nat}:aF prog .shr 3 (aq i) (.int .u64 1)=some (aq (i/2)):=eQ prog 3 (k := .i64) (k' := .u64) (b:=1) (by decide)
def PR (h:ai) (v:Value) (P:List (List Nat)):Prop:=
 (∃ a c,v = .slice a P.length c)/\(∀ p∈P,js p) /\ ∀ j,j<P.length -> ∃ b o,idxS 32 v (aq j)=some (ptr b o)/\b<h.next /\ ∀ g:ai,g.get b=h.get b->du 32 (ptr b o) g=some (.agg (bn (P.getD j [])).toArray,g)
def vr:List (List Nat)->Nat->Nat->List Nat->Option (Nat×List Nat)
 | [],_,b,D=>some (b,D)
 |p::P,i,b,D=>if b=0 then none else if i%2=1\/i=b then vr P ((lvl i i b).1/2) ((lvl i i b).2/2) (dB p D) else vr P (i/2) (b/2) (dB D p)
theorem eql0 (b:Nat):aF prog .eql 3 (aq b) (.int .i64 0)=some (.bool (decide (b=0))):=by
 unfold aq;rw [bF]
 congr 2
 rw [IT];simp only [beq_iff_eq,DS];omega
theorem PR.mono {h h':ai} {v:Value} {P:List (List Nat)} (x:PR h v P) (o:aE h h'):PR h' v P:=by refine ⟨x.1,x.2.1,fun j hj => ?_⟩;obtain ⟨b,q,h1,h2,h3⟩:=x.2.2 j hj;have hb:h'.get b=h.get b:=az.get o b h2 (fun h=>h);exact ⟨b,q,h1,EJ h2 o.next,fun g e=>h3 g (e.trans hb)⟩
theorem halfG_ge : ∀ (f m n:Nat),m<=km f m n
 | 0,m,n=>DD _
 |f+1,m,n=>by
  rw [km];split
  ·exact D7 (by omega) (halfG_ge f (2*m) n)
  ·exact DD _
theorem halfG_lt : ∀ (f m n:Nat),m<n->km f m n<n
 | 0,m,n,h=>h
 |f+1,m,n,h=>by
  rw [km];split
  ·exact halfG_lt f (2*m) n (by assumption)
  ·exact h
theorem qp (n:Nat):1<=dU n:=halfG_ge _ _ _
theorem tM {n:Nat} (h:2<=n):dU n<n:=halfG_lt _ _ _ h
theorem eql1 (n:Nat):aF prog .eql 3 (aq n) (.int .i64 1)=some (.bool (decide (n=1))):=by
 unfold aq;rw [bF]
 congr 2
 rw [IT];simp only [beq_iff_eq,DS];omega
theorem sub_nn {a b:Nat} (h:b<=a) (ha:a<9223372036854775808):aF prog .sub 3 (aq a) (aq b)=some (aq (a-b)):=by unfold aq;rw [fE,show (a:Int)-(b:Int)=((a-b:Nat):Int) by omega,wrap_i64 (by omega) (by omega)]
theorem sub_n1 {a:Nat} (h:1<=a) (ha:a<9223372036854775808):aF prog .sub 3 (aq a) (.int .i64 1)=some (aq (a-1)):=sub_nn (b:=1) h ha
def gS (v:Value):Prop := ∃ a n c,v = .slice a n c/\n<=c/\(0<n -> ∀ b o s,a=some ⟨b,o,some s⟩->s=32)
theorem PR.iC {h:ai} {v:Value} {P:List (List Nat)} {p:List Nat} (x:PR h v (P ++ [p])) : ∃ b o,idxS 32 v (aq P.length)=some (ptr b o)/\js p /\ ∀ g:ai,aE h g->du 32 (ptr b o) g=some (.agg (bn p).toArray,g):=by
 obtain ⟨b,o,e1,e2,e3⟩:=x.2.2 P.length (by rw [DE,List.length_singleton];omega);have e4:(P ++ [p]).getD P.length []=p:=by rw [DJ,EH (DD _),IM];rfl
 rw [e4] at e3;exact ⟨b,o,e1,x.2.1 p (EW _ ED),fun g og=>e3 g (az.get og b e2 (fun h=>h))⟩
theorem PR.len {h:ai} {v:Value} {P:List (List Nat)} (x:PR h v P):lenL v=some (aq P.length):=by obtain ⟨⟨a,c,rfl⟩,_,_⟩:=x;rfl
end Go.Proofs.YtdnahgfgoajmcaaGreatDoor
namespace Go.Proofs.YtdnahgfgoajmcaaGreatDoor
open Go Go.Abs Tryz
theorem rB (f m n:Nat):km (f+1) m n=if 2*m<n then km f (2*m) n else m:=rfl
theorem yD : ∀ (f m n:Nat),n<=m*2^(f+1)->km (f+1) m n=km f m n
 | 0,m,n,h=>by rw [rB,DM (by omega)];rfl
 |f+1,m,n,h=>by
  rw [rB (f+1) m n,rB f m n];split
  ·exact yD f (2*m) n (by
    calc n<=m*2^(f+1+1):=h
     _=2*m*2^(f+1):=by rw [Nat.pow_succ 2 (f+1),JU (2^(f+1)) 2,<-Nat.mul_assoc,JU m 2])
  ·rfl
theorem Bs : ∀ (f m n:Nat),km f (2*m) n=2*km f m ((n+1)/2)
 | 0,m,n=>rfl
 |f+1,m,n=>by
  rw [rB,rB];by_cases c:2*(2*m)<n
  ·rw [DL c,DL (by omega),Bs f (2*m) n]
  ·rw [DM c,DM (by omega)]
theorem half_two {n:Nat} (h:3<=n) (hn:n<=1048576):dU n=2*dU ((n+1)/2):=by unfold dU;rw [show km 30 1 n=km 29 (2*1) n by rw [rB,DL (by omega)],Bs 29 1 n,yD 29 1 _ (by omega)]
def stp (i:Nat) (p D:List Nat):List Nat:=if i%2=1 then uC p D else uC D p
section
variable (nd:List Nat->List Nat->List Nat)
def pv:Nat->List (List Nat)->List Nat
 | 0,_ => []
 |f+1,L=>if L.length<=1 then L.headD [] else nd (pv f (L.take (dU L.length))) (pv f (L.drop (dU L.length)))
def qf (L:List (List Nat)):List Nat:=pv nd L.length L
theorem xo (f:Nat) (L:List (List Nat)):pv nd (f+1) L=if L.length<=1 then L.headD [] else nd (pv nd f (L.take (dU L.length))) (pv nd f (L.drop (dU L.length))):=rfl
theorem oW : ∀ (f g:Nat) (L:List (List Nat)),L.length<=f->L.length<=g->pv nd f L=pv nd g L
 | 0,0,L,_,_=>rfl
 | 0,g+1,L,h,_=>by have:L = []:=DW.1 (by omega);subst this;rfl
 |f+1,0,L,_,h=>by have:L = []:=DW.1 (by omega);subst this;rfl
 |f+1,g+1,L,h1,h2=>by
  rw [xo nd,xo nd];split
  ·rfl
  ·rename_i c;have a1:=qp L.length;have a2:=tM (n:=L.length) (by omega);rw [oW f g (L.take (dU L.length)) (by rw [DV];omega) (by rw [DV];omega),oW f g (L.drop (dU L.length)) (by rw [EB];omega) (by rw [EB];omega)]
theorem vB {L:List (List Nat)} (h:2<=L.length):qf nd L=nd (qf nd (L.take (dU L.length))) (qf nd (L.drop (dU L.length))):=by
 have a1:=qp L.length;have a2:=tM h;unfold qf;obtain ⟨f,hf⟩ : ∃ f,L.length=f+1:=⟨L.length-1,by omega⟩
 rw [show pv nd L.length L=pv nd (f+1) L by rw [hf],xo nd,DM (by omega),oW nd f (L.take (dU L.length)).length _ (by rw [DV];omega) (DD _),oW nd f (L.drop (dU L.length)).length _ (by rw [EB];omega) (DD _)]
theorem treeN_one (d:List Nat):qf nd [d]=d:=rfl
def jy:List (List Nat)->List (List Nat)
 |a::b::L=>nd a b::jy L
 |L=>L
theorem rA (a b:List Nat) (L:List (List Nat)):jy nd (a::b::L)=nd a b::jy nd L:=rfl
theorem ru : ∀ (L:List (List Nat)),(jy nd L).length=(L.length+1)/2
 | []=>rfl
 | [a]=>by rw [show jy nd [a] = [a] from rfl,List.length_singleton]
 |a::b::L=>by rw [rA nd,List.length_cons,ru L,List.length_cons,List.length_cons];omega
theorem zI : ∀ (k:Nat) (L:List (List Nat)),(jy nd L).take k=jy nd (L.take (2*k))
 | 0,L=>by rw [Nat.mul_zero,List.take_zero,List.take_zero];rfl
 |k+1,[]=>rfl
 |k+1,[a]=>by rw [show 2*(k+1)=(2*k+1)+1 by omega,List.take_succ_cons,List.take_nil,show jy nd [a] = [a] from rfl,List.take_succ_cons,List.take_nil]
 |k+1,a::b::L=>by rw [rA nd,List.take_succ_cons,zI k L,show 2*(k+1)=(2*k+1)+1 by omega,List.take_succ_cons,List.take_succ_cons,rA nd]
theorem Ad : ∀ (k:Nat) (L:List (List Nat)),(jy nd L).drop k=jy nd (L.drop (2*k))
 | 0,L=>by rw [Nat.mul_zero,EP,EP]
 |k+1,[]=>by rw [List.drop_nil];rfl
 |k+1,[a]=>by rw [show 2*(k+1)=(2*k+1)+1 by omega,H4,List.drop_nil];rw [show jy nd [a] = [a] from rfl,H4,List.drop_nil];rfl
 |k+1,a::b::L=>by rw [rA nd,H4,Ad k L,show 2*(k+1)=(2*k+1)+1 by omega,H4,H4]
theorem treeN_pairs : ∀ (n:Nat) (L:List (List Nat)),L.length=n->n<=1048576->qf nd (jy nd L)=qf nd L:=by
 intro n;induction n using Nat.strongRecOn with
 |_ n ih=>
  intro L hL hn
  match L,hL with
  | [],_=>rfl
  | [a],_=>rfl
  | [a,b],_=>rfl
  |a::b::c::L,hL=>
   have h3:3<=n:=by rw [List.length_cons,List.length_cons,List.length_cons] at hL;omega
   generalize a::b::c::L=M at *;have ht:=half_two h3 hn;have hp:=qp ((n+1)/2);have hl:=tM (n:=n) (by omega);have pl:=ru nd M;rw [hL] at pl;rw [vB nd (L:=jy nd M) (by omega),vB nd (L:=M) (by omega),pl,zI nd,Ad nd,hL,ht];rw [ih (M.take (2*dU ((n+1)/2))).length (by rw [DV];omega) _ rfl (by rw [DV];omega),ih (M.drop (2*dU ((n+1)/2))).length (by rw [EB];omega) _ rfl (by rw [EB];omega)]
def push:Nat->List Nat->List (List Nat)->Nat->List (List Nat)
 | 0,d,T,_=>d::T
 |f+1,d,T,i=>if i%2=1 then (match T with|x::T=>push f (nd x d) T (i/2) | [] => [d]) else d::T
theorem me (f:Nat) (d:List Nat) (T:List (List Nat)) (i:Nat):push nd (f+1) d T i=if i%2=1 then (match T with|x::T=>push nd f (nd x d) T (i/2) | [] => [d]) else d::T:=rfl
theorem C3 (d:List Nat) (T:List (List Nat)) (i:Nat):push nd 0 d T i=d::T:=rfl
theorem Bl : ∀ (f g:Nat) (d:List Nat) (T:List (List Nat)) (i:Nat),i<=f->i<=g->push nd f d T i=push nd g d T i
 | 0,0,d,T,i,_,_=>rfl
 | 0,g+1,d,T,i,h,_=>by rw [C3 nd,me nd,DM (by omega)]
 |f+1,0,d,T,i,_,h=>by rw [C3 nd,me nd,DM (by omega)]
 |f+1,g+1,d,T,i,h1,h2=>by
  rw [me nd,me nd];split
  ·cases T with
   |nil=>rfl
   |cons x T=>exact Bl f g (nd x d) T (i/2) (by omega) (by omega)
  ·rfl
def wX:List (List Nat)->List (List Nat)->Nat->List (List Nat)
 | [],T,_=>T
 |d::L,T,i=>wX L (push nd i d T i) (i+1)
theorem tS (d:List Nat) (L T:List (List Nat)) (i:Nat):wX nd (d::L) T i=wX nd L (push nd i d T i) (i+1):=rfl
theorem stk_z (T:List (List Nat)) (i:Nat):wX nd [] T i=T:=rfl
theorem rh : ∀ (L M T:List (List Nat)) (i:Nat),wX nd (L++M) T i=wX nd M (wX nd L T i) (i+L.length)
 | [],M,T,i=>rfl
 |d::L,M,T,i=>by rw [List.cons_append,tS nd,tS nd,rh L M,List.length_cons,GL,JM 1]
def finS:List (List Nat)->List Nat
 | [] => []
 |d::T=>T.foldl (fun d x=>nd x d) d
theorem yx : ∀ (f:Nat) (d:List Nat) (T:List (List Nat)) (i:Nat),finS nd (push nd f d T i)=finS nd (d::T)
 | 0,d,T,i=>rfl
 |f+1,d,T,i=>by
  rw [me nd];split
  ·cases T with
   |nil=>rfl
   |cons x T=>
    show finS nd (push nd f (nd x d) T (i/2))=_;rw [yx f];rfl
  ·rfl
theorem vj : ∀ (k:Nat) (L M:List (List Nat)),L.length=2*k->jy nd (L++M)=jy nd L++jy nd M
 | 0,L,M,h=>by have:L = []:=DW.1 (by omega);subst this;rfl
 |k+1,L,M,h=>by
  match L,h with
  | [],h=>rw [List.length_nil] at h;omega
  | [a],h=>rw [List.length_cons,List.length_nil] at h;omega
  |a::b::L,h=>
   rw [List.cons_append,List.cons_append,rA nd,rA nd,vj k L M (by rw [List.length_cons,List.length_cons] at h;omega),List.cons_append]
theorem zD : ∀ (k:Nat) (L:List (List Nat)),L.length=2*k->wX nd L [] 0=wX nd (jy nd L) [] 0
 | 0,L,h=>by have:L = []:=DW.1 (by omega);subst this;rfl
 |k+1,L,h=>by
  have e1:L=L.take (2*k)++L.drop (2*k):=(FC _ _).symm;have l1:(L.take (2*k)).length=2*k:=by rw [DV];omega
  have l2:(L.drop (2*k)).length=2:=by rw [EB];omega
  generalize L.take (2*k)=A at *;generalize L.drop (2*k)=B at *;subst e1
  match B,l2 with
  | [a,b],_=>
    have ih:=zD k A l1;have pl:=ru nd A;rw [l1] at pl;have e2:push nd (2*k) a (wX nd A [] 0) (2*k)=a::wX nd A [] 0:=by
     cases k with
     |zero=>rfl
     |succ k=>rw [show 2*(k+1)=(2*k+1)+1 by omega,me nd,DM (by omega)]
    rw [rh nd,l1,vj nd k A _ l1,rh nd,pl,<-ih,DH,tS nd,tS nd,stk_z nd,e2,me nd,DL (by omega)];show push nd (2*k) (nd a b) (wX nd A [] 0) ((2*k+1)/2)=wX nd [nd a b] _ _;rw [tS nd,stk_z nd,DH,show (2*k+1)/2=k by omega];exact Bl nd _ _ _ _ _ (by omega) (by omega)
theorem fin_stk : ∀ (n:Nat) (L:List (List Nat)),L.length=n->1<=n->n<=1048576->finS nd (wX nd L [] 0)=qf nd L:=by
 intro n;induction n using Nat.strongRecOn with
 |_ n ih=>
  intro L hL h1 hn;by_cases c1:n=1
  ·subst c1
   match L,hL with
   | [d],_=>rfl
  ·have pl:=ru nd L;rw [hL] at pl;have e:=ih ((n+1)/2) (by omega) (jy nd L) pl (by omega) (by omega);rw [treeN_pairs nd n L hL hn] at e;rw [<-e];by_cases c2:n%2=0
   ·rw [zD nd (n/2) L (by omega)]
   ·have e1:L=L.take (2*(n/2))++L.drop (2*(n/2)):=(FC _ _).symm;have l1:(L.take (2*(n/2))).length=2*(n/2):=by rw [DV];omega
    have l2:(L.drop (2*(n/2))).length=1:=by rw [EB];omega
    generalize L.take (2*(n/2))=A at *;generalize L.drop (2*(n/2))=B at *;subst e1
    match B,l2 with
    | [a],_=>
      rw [vj nd (n/2) A _ l1,rh nd,rh nd,zD nd (n/2) A l1];show finS nd (wX nd [a] _ _)=finS nd (wX nd [a] _ _);rw [tS nd,stk_z nd,tS nd,stk_z nd,yx nd,yx nd]
theorem stk_snoc (L:List (List Nat)) (d:List Nat):wX nd (L ++ [d]) [] 0=push nd L.length d (wX nd L [] 0) L.length:=by rw [rh nd,tS nd,stk_z nd,DH]
def CN:Nat->Nat->Nat
 | 0,_=>0
 |f+1,i=>i%2+CN f (i/2)
def pc (i:Nat):Nat:=CN i i
theorem tB : ∀ (f g i:Nat),i<=f->i<=g->CN f i=CN g i
 | 0,0,i,_,_=>rfl
 | 0,g+1,i,h,_=>by
   have:i=0:=by omega
   subst this;rw [CN,show CN (g+1) 0=0+CN g 0 from rfl,<-tB 0 g 0 (DD _) (FN _)];rfl
 |f+1,0,i,_,h=>by
  have:i=0:=by omega
  subst this;rw [show CN (f+1) 0=0+CN f 0 from rfl,tB f 0 0 (FN _) (DD _)];rfl
 |f+1,g+1,i,h1,h2=>by rw [show CN (f+1) i=i%2+CN f (i/2) from rfl,show CN (g+1) i=i%2+CN g (i/2) from rfl,tB f g (i/2) (by omega) (by omega)]
theorem tY (i:Nat):pc i=i%2+pc (i/2):=by
 cases i with
 |zero=>rfl
 |succ i=>
  unfold pc;rw [show CN (i+1) (i+1)=(i+1)%2+CN i ((i+1)/2) from rfl,tB i ((i+1)/2) _ (by omega) (DD _)]
theorem zV : ∀ (f:Nat) (d:List Nat) (T:List (List Nat)) (i:Nat),i<=f->T.length=pc i->(push nd f d T i).length=pc (i+1)
 | 0,d,T,i,h,hT=>by
   have:i=0:=by omega
   subst this;rw [C3 nd,List.length_cons,hT];rfl
 |f+1,d,T,i,h,hT=>by
  rw [me nd];rw [tY] at hT;by_cases c:i%2=1
  ·rw [DL c];cases T with
   |nil=>rw [List.length_nil] at hT;omega
   |cons x T=>
    rw [List.length_cons] at hT;have:=zV f (nd x d) T (i/2) (by omega) (by omega);show (push nd f (nd x d) T (i/2)).length=_;rw [this,tY (i+1),show (i+1)/2=i/2+1 by omega,show (i+1)%2=0 by omega,DH]
  ·rw [DM c,List.length_cons,hT,tY (i+1),show (i+1)/2=i/2 by omega,show (i+1)%2=1 by omega];omega
theorem Ca : ∀ (L T:List (List Nat)) (i:Nat),T.length=pc i->(wX nd L T i).length=pc (i+L.length)
 | [],T,i,h=>h
 |d::L,T,i,h=>by rw [tS nd,Ca L _ _ (zV nd i d T i (DD _) h),List.length_cons,GL,JM 1]
theorem push_ok (hnd : ∀ a b,js (nd a b)) : ∀ (f:Nat) {d:List Nat} {T:List (List Nat)} (i:Nat),js d->(∀ t∈T,js t) -> ∀ t∈push nd f d T i,js t
 | 0,d,T,i,hd,hT=>fun t ht=>by
   rw [C3 nd] at ht;rcases FQ.1 ht with rfl|ht
   ·exact hd
   ·exact hT t ht
 |f+1,d,T,i,hd,hT=>by
  rw [me nd];split
  ·cases T with
   |nil=>exact fun t ht=>by rw [EK.1 ht];exact hd
   |cons x T=>exact push_ok hnd f (i/2) (hnd _ _) fun t ht=>hT t (EI _ ht)
  ·intro t ht;rcases FQ.1 ht with rfl|ht
   ·exact hd
   ·exact hT t ht
end
end Go.Proofs.YtdnahgfgoajmcaaGreatDoor
namespace Go.Proofs.YtdnahgfgoajmcaaGreatDoor
open Go Go.Abs Tryz
attribute [local congr] aw
def gQ (P:List (List Nat)):List Value:=P.flatMap bn
theorem vL : ∀ {P:List (List Nat)},(∀ p∈P,js p)->(gQ P).length=P.length*32
 | [],_=>rfl
 |p::P,h=>by have ih:=vL (P:=P) fun q hq=>h q (EI _ hq);have hp:=(aZ (h p ED)).1;unfold gQ at ih |-;rw [E6,DE,ih,hp,List.length_cons];omega
theorem Bu : ∀ {P:List (List Nat)},(∀ p∈P,js p) -> ∀ {j:Nat},j<P.length->((gQ P).drop (j*32)).take 32=bn (P.getD j [])
 | [],_,j,hj=>absurd hj (FP j)
 |p::P,h,j,hj=>by
  have hp:=(aZ (h p ED)).1;cases j with
  |zero=>
   unfold gQ;rw [E6,GI,EP,<-hp,JL];rfl
  |succ j=>
   have ih:=Bu (P:=P) (fun q hq=>h q (EI _ hq)) (j:=j) (by rw [List.length_cons] at hj;omega);unfold gQ at ih |-;rw [E6,show (j+1)*32=32+j*32 by omega,<-List.drop_drop,HW hp,List.getD_cons_succ,ih]
theorem digsC_ok : ∀ {P:List (List Nat)},(∀ p∈P,js p)->Abs.noHoles (gQ P)=true/\aM (gQ P)=true
 | [],_=>⟨rfl,rfl⟩
 |p::P,h=>by have ih:=digsC_ok (P:=P) fun q hq=>h q (EI _ hq);have hp:=aZ (h p ED);unfold gQ at ih |-;unfold Abs.noHoles aM at *;rw [E6,FI,FI,ih.1,ih.2,hp.2.1,hp.2.2];exact ⟨rfl,rfl⟩
end Go.Proofs.YtdnahgfgoajmcaaGreatDoor
namespace Go.Proofs.YtdnahgfgoajmcaaGreatDoor
open Go Go.Abs Tryz
structure uH (h:ai) (N:Nat) (v:Value) (T:List (List Nat)):Prop where
 dig : ∀ t∈T,js t
 form:(T = []/\(v = .slice none 0 0 \/ ∃ b,v = .slice (some ⟨b,0,none⟩) 0 0)) \/ ∃ b m X,v = .slice (some ⟨b,0,some 32⟩) T.length m/\N<=b/\T.length<=m/\h.get b=some (gQ T++X)/\X.length=(m-T.length)*32/\Abs.noHoles X=true/\aM X=true
def stB:Value->Option Nat
 | .slice (some ⟨b,_,some _⟩) _ _=>some b
 |_=>none
theorem uH.nil (h:ai) (N:Nat):uH h N (.slice none 0 0) []:=⟨fun _ h=>(by cases h),.inl ⟨rfl,.inl rfl⟩⟩
theorem uH.lt {h:ai} {N:Nat} {v:Value} {T:List (List Nat)} (x:uH h N v T) {b:Nat} (e:stB v=some b):N<=b/\b<h.next:=by
 rcases x.form with ⟨_,rfl|⟨b',rfl⟩⟩|⟨b',m,X,rfl,h1,h2,h3,_⟩
 ·cases e
 ·cases e
 ·cases e;exact ⟨h1,h.aO h3⟩
theorem uH.keep {h h':ai} {N:Nat} {v:Value} {T:List (List Nat)} (x:uH h N v T) {B:Nat->Prop} (k:az h h' B) (hB : ∀ b,stB v=some b -> ¬B b):uH h' N v T:=by
 refine ⟨x.dig,?_⟩;rcases x.form with f|⟨b',m,X,rfl,h1,h2,h3,h4⟩
 ·exact .inl f
 ·exact .inr ⟨b',m,X,rfl,h1,h2,k.getE h3 (hB b' rfl),h4⟩
theorem uH.old {h h':ai} {N:Nat} {v:Value} {T:List (List Nat)} (x:uH h N v T) (k:aE h h'):uH h' N v T:=x.keep k fun _ _ h=>h
theorem uH.len {h:ai} {N:Nat} {v:Value} {T:List (List Nat)} (x:uH h N v T):lenL v=some (aq T.length):=by rcases x.form with ⟨rfl,rfl|⟨b',rfl⟩⟩|⟨b',m,X,rfl,_⟩<;>rfl
theorem uH.pr {h:ai} {N:Nat} {v:Value} {T:List (List Nat)} (x:uH h N v T):PR h v T/\gS v:=by
 rcases x.form with ⟨rfl,rfl|⟨b',rfl⟩⟩|⟨b',m,X,rfl,h1,h2,h3,h4,h5,h6⟩
 ·exact ⟨⟨⟨_,_,rfl⟩,x.dig,fun j hj=>absurd hj (FP j)⟩,⟨_,_,_,rfl,DD _,fun h=>absurd h (GH 0)⟩⟩
 ·exact ⟨⟨⟨_,_,rfl⟩,x.dig,fun j hj=>absurd hj (FP j)⟩,⟨_,_,_,rfl,DD _,fun h=>absurd h (GH 0)⟩⟩
 ·refine ⟨⟨⟨_,_,rfl⟩,x.dig,fun j hj => ?_⟩,⟨_,_,_,rfl,h2,fun _ b o s e=>by cases e;rfl⟩⟩;have hl:=vL x.dig;have hm:=Cx (z:=32) hj;have e:((gQ T++X).drop (j*32)).take 32=bn (T.getD j []):=by rw [GS (by omega),GA (by rw [EB];omega),Bu x.dig hj]
  refine ⟨b',0+j*32,?_,h.aO h3,fun g hg => ?_⟩
  ·unfold idxS aq;simp only;rw [DL (by omega),Int.toNat_natCast]
  ·have dp:js (T.getD j []):=x.dig _ (by rw [DJ,DB hj];exact EL hj)
   have:=qF (o:=0+j*32) (n:=32) (hg.trans h3) (by rw [DE];omega) (by rw [DH,e];exact (aZ dp).2.1);rw [DH,e] at this;rw [DH];exact this
theorem vP (A B:List (List Nat)):gQ (A++B)=gQ A++gQ B:=by unfold gQ;rw [HR]
theorem re (d:List Nat):gQ [d]=bn d:=by unfold gQ;rw [E6,H8,EU]
theorem uH.pop {h:ai} {N:Nat} {v:Value} {T:List (List Nat)} {d:List Nat} (x:uH h N v (T ++ [d])) : ∃ v',nT 32 v none (some (aq T.length)) none=some v'/\uH h N v' T/\stB v'=stB v:=by
 have lT:(T ++ [d]).length=T.length+1:=by rw [DE,List.length_singleton]
 have hd:=x.dig;have dd:=(aZ (hd d (EW _ ED)))
 rcases x.form with ⟨h0,_⟩|⟨b,m,X,rfl,h1,h2,h3,h4,h5,h6⟩
 ·rw [h0] at lT;cases lT
 ·rw [lT] at h2 h4 |-;have hb:boundsA (T.length+1) m none (some (aq T.length)) none=some (0,T.length,m):=by
   have a1:boundA m m none=some m:=rfl;have a2:boundA (T.length+1) m (some (aq T.length))=some T.length:=by unfold boundA aq;simp only;rw [DL (by omega)];rfl
   unfold boundsA;rw [a1];simp only [a2];rfl
  refine ⟨.slice (some ⟨b,0,some 32⟩) T.length m,?_,⟨fun t ht=>hd t (FD _ ht),.inr ⟨b,m,bn d++X,rfl,h1,by omega,?_,?_,?_,?_⟩⟩,rfl⟩
  ·unfold nT sliceSl;simp only [hb];rw [DL ⟨True.intro,by decide⟩,GI,Nat.add_zero,Nat.sub_zero,Nat.sub_zero]
  ·rw [h3,vP,re,ER]
  ·rw [DE,dd.1,h4];omega
  ·unfold Abs.noHoles at *;rw [FI,dd.2.1,h5];rfl
  ·unfold aM at *;rw [FI,dd.2.2,h6];rfl
theorem first_one {h:ai} {c:Nat} {d:List Nat} (hd:js d) (hc:h.get c=some (bn d)):firstA 32 1 (.slice (some ⟨c,0,none⟩) 1 1) h=some (bn d):=by
 have dd:=aZ hd;have e:((bn d).drop 0).take (1*32)=bn d:=by rw [EP,DX (by rw [dd.1];decide)]
 unfold firstA;simp only;rw [DM (by decide),hc];simp only;rw [e,DL ⟨by rw [dd.1];decide,dd.2.1⟩]
theorem uH.push {h:ai} {N:Nat} {v:Value} {T:List (List Nat)} {d:List Nat} {c:Nat} (x:uH h N v T) (h0:h.n0<=N) (hN:N<=h.next) (hd:js d) (hl:T.length<=1000000) (hc:h.get c=some (bn d)) :
  ∃ v' h',appendA 32 32 v (.slice (some ⟨c,0,none⟩) 1 1) h=some (v',h')/\uH h' N v' (T ++ [d])/\az h h' (fun b=>stB v=some b)/\(stB v'=stB v\/stB v'=some h.next):=by
 have dd:=aZ hd;have hf:=first_one hd hc;have dT : ∀ t∈T ++ [d],js t:=fun t ht=>by
  rcases DU.1 ht with h|h
  ·exact x.dig t h
  ·rw [EK.1 h];exact hd
 have lT:(T ++ [d]).length=T.length+1:=by rw [DE,List.length_singleton]
 have lc:=vL x.dig;have hcond : ∀ n:Nat,n<=1000000->(!(aM (bn d)) || !(decide ((n+1)*32<=140737488355328)) || !(decide (n+1<=4611686018427387904))||decide ((bn d).length≠1*32))=false:=by intro n hn;rw [dd.2.2,DC (by omega:(n+1)*32<=140737488355328),DC (by omega:n+1<=4611686018427387904),DF (by rw [dd.1];decide)];rfl
 have new : ∀ g:ai,N<=g.next->T = []->uH (g.alloc (bn d)) N (.slice (some ⟨g.next,0,some 32⟩) 1 1) (T ++ [d]):=fun g hg e=>by subst e;refine ⟨dT,.inr ⟨g.next,1,[],rfl,hg,DD _,?_,rfl,rfl,rfl⟩⟩;rw [ai.aN,DL rfl,EU,List.nil_append,re]
 rcases x.form with ⟨rfl,rfl|⟨b,rfl⟩⟩|⟨b,m,X,rfl,h1,h2,h3,h4,h5,h6⟩
 ·refine ⟨.slice (some ⟨h.next,0,some 32⟩) 1 1,h.alloc (bn d),?_,new h hN rfl,az.alloc _ _ _,.inr rfl⟩;unfold appendA;simp only [ik,hf];rw [DM (by rw [hcond 0 (by decide)];decide),DM (by decide),DL trivial]
 ·refine ⟨.slice (some ⟨h.next,0,some 32⟩) 1 1,h.alloc (bn d),?_,new h hN rfl,az.alloc _ _ _,.inr rfl⟩;have f0:firstA 32 0 (.slice (some ⟨b,0,none⟩) 0 0) h=some []:=rfl;unfold appendA;simp only [ik,hf,f0];rw [DM (by rw [hcond 0 (by decide)];decide),DM (by decide),DM (by decide)];rfl
 ·have hbn:=h.aO h3;by_cases hm:T.length+1<=m
  ·have st:stL b (0+T.length*32) (bn d) h=some (h.set b (gQ T++(bn d++X.drop 32))):=by
    unfold stL;rw [h3];simp only;rw [DL (by rw [dd.2.2,DC (show h.n0<=b by omega),DC (by rw [DE,dd.1,lc,h4];omega)];rfl)]
    congr 2
    have eX:X=X.take 32++X.drop 32:=(FC _ _).symm
    conv=>lhs;rw [eX]
    exact mf (n:=32) (by rw [lc,DH]) (by rw [DV,h4];omega) dd.1
   refine ⟨.slice (some ⟨b,0,some 32⟩) (T.length+1) m,h.set b (gQ T++(bn d++X.drop 32)),?_,⟨dT,.inr ⟨b,m,X.drop 32,by rw [lT],h1,by rw [lT];exact hm,?_,?_,?_,?_⟩⟩,az.set (by omega) h3 (.inr rfl),.inl rfl⟩
   ·unfold appendA;simp only [ik,hf];rw [DM (by rw [hcond T.length hl];decide),DL hm,DM (by decide),st];rfl
   ·rw [ai.dZ (by omega) h3,vP,re,ER]
   ·rw [EB,h4,lT];omega
   ·unfold Abs.noHoles at *;rw [DR] at *;exact fun y hy=>h5 y (FJ hy)
   ·unfold aM at *;rw [DR] at *;exact fun y hy=>h6 y (FJ hy)
  ·have hmE:m=T.length:=by omega
   subst hmE;have hX:X = []:=DW.1 (by omega);subst hX;rw [EU] at h3;have hf2:firstA 32 T.length (.slice (some ⟨b,0,some 32⟩) T.length T.length) h=some (gQ T):=by
    unfold firstA;simp only;by_cases hz:T.length*32=0
    ·rw [DL hz];have:T = []:=DW.1 (by omega);rw [this];rfl
    ·rw [DM hz,h3];simp only;have e:((gQ T).drop 0).take (T.length*32)=gQ T:=by rw [EP,DX (by omega)]
     rw [e,DL ⟨by omega,(digsC_ok x.dig).1⟩]
   have hk : ∀ y,y<h.next->y≠b->((h.kill b).alloc (gQ T++bn d)).getB y=h.getB y:=by intro y hy hne;rw [ai.cN,DM (by rw [ai.fU];omega)];exact BR (by omega) hbn hne
   refine ⟨.slice (some ⟨h.next,0,some 32⟩) (T.length+1) (T.length+1),(h.kill b).alloc (gQ T++bn d),?_,⟨dT,.inr ⟨h.next,T.length+1,[],by rw [lT],hN,by rw [lT];exact DD _,?_,by rw [lT,IM];rfl,rfl,rfl⟩⟩,⟨rfl,by simp,fun y hy hB=>hk y hy (fun e=>hB (by rw [e];rfl))⟩,.inr rfl⟩
   ·unfold appendA;simp only [ik,hf];rw [DM (by rw [hcond T.length hl];decide),DM (by omega)];simp only [hf2];rw [DM (by rw [lc];simp),DL (by simp [h3];omega)]
   ·rw [ai.aN,DL (by rw [ai.fU]),EU,vP,re]
end Go.Proofs.YtdnahgfgoajmcaaGreatDoor
namespace Go.Proofs.YtdnahgfgoajmcaaGreatDoor
open Go Go.Abs Tryz
attribute [local congr] aw
theorem is106:cx prog 73 f73:=by constructor<;>kernel_rfl
theorem is107:cx prog 76 f76:=by constructor<;>kernel_rfl
theorem is135:cx prog 98 f98:=by constructor<;>kernel_rfl
theorem is54:cx prog 42 f42:=by constructor<;>kernel_rfl
theorem results106:f73.results.toList = [.cell 2 36]:=by kernel_rfl
theorem results54:f42.results.toList = [.cell 2 36]:=by kernel_rfl
theorem results135:f98.results.toList = []:=by kernel_rfl
def nilD:List Nat:=(Ah.wr []).sum
theorem Cu:js nilD:=xp _
set_option maxRecDepth 100000 in
theorem r106 {h:ai} (hG:4<=h.n0) (hz:h.get 3=some bT) : ∃ h',CW 73 [.slice none 0 0] h=some (.agg (bn nilD).toArray,h')/\aE h h':=by obtain ⟨h1,z1,o1,g1,n1⟩:=fresh (List.replicate 32 (.int .u8 0)) h;obtain ⟨h2,e2,o2,g2,n2⟩:=r121 (h:=h1) (by rw [o1.n0];exact hG);have O2:=o1.trans o2;obtain ⟨h3,e3,k3,g3,w3,m3⟩:=r122 (h:=h2) (by rw [O2.n0];exact hG) (aE.get O2 hz) (p:=h1.next) HD0_ok g2 (by rw [O2.n0];have:=h.n0_le_next;have:=o1.next;omega) (a:=none) (n:=0) (c:=0) (l := []) rfl (fun h=>absurd h (by decide)) (fun y hy=>by cases hy) (by decide);have O3:aE h h3:=aE.bK O2 k3 (by have:=o1.next;omega);obtain ⟨h4,e4,o4⟩:=r123 (h:=h3) (by rw [O3.n0];exact hG) (aE.get O3 hz) (p:=h1.next) w3 g3 (by rw [m3];decide);have O4:=O3.trans o4;have e4:CW 97 [ptr h1.next 0] h3=some (.agg (bn nilD).toArray,h4):=e4;have dc:=aZ Cu;have q2:h4.get h.next=some (List.replicate 32 (.int .u8 0)):=aE.get o4 (az.getE k3 (o2.get g1) (by omega));obtain ⟨h5,e5,k5,g5,_,_⟩:=aY (n:=32) (k':=bn nilD) q2 (by rw [O4.n0];exact h.n0_le_next) rfl dc.1 dc.2.2;have L5:=bj g5 dc.1 dc.2.1;refine ⟨h5,aL is106 hG rfl ((t106_eq _ _ _).trans ?_),aE.bK O4 k5 (DD _)⟩;unfold t106;simp -implicitDefEqProofs only [z1, e2, e3, e4, e5, aj];exact dG results106 kD fI (show 2<10 by decide) _ L5
theorem r107 {h:ai} (hG:4<=h.n0) {a:Option Addr} {n c:Nat} : ∃ h',CW 76 [.slice a n c] h=some (.func (.func 98) #[] #[ptr h.next 0],h')/\aE h h'/\h'.get h.next=some [.slice a n c]/\h'.next=h.next+1:=by have b:box (.slice a n c) h=some (ptr h.next 0,h.alloc [.slice a n c]):=rfl;refine ⟨h.alloc [.slice a n c],aL is107 hG rfl ((t107_eq _ _ _).trans ?_),az.alloc _ _ _,by rw [ai.aN,DL rfl],ai.cO ..⟩;unfold t107;simp -implicitDefEqProofs only [b, aj]
theorem geq3 (j:Nat):aF prog .geq 3 (.int .i64 ((j:Int)-1)) (.int .i64 0)=some (.bool (decide (1<=j))):=by
 rw [bG]
 congr 2
 rw [JC];omega
set_option maxRecDepth 100000 in
theorem r135 {h:ai} (hG:4<=h.n0) {L c:Nat} {w:Value} {T:List (List Nat)} (hT:T.length<=1000000) (Inv:Nat->ai->Prop)
  (hread : ∀ j g,Inv j g->ld1 (ptr c 0) g=some (w,g)/\PR g w T)
  (hstep : ∀ j g,j<T.length->Inv (j+1) g -> ∃ g',CW (BS prog L) [aq j,.agg (bn (T.getD j [])).toArray] g=some (.bool true,g')/\Inv j g') (h0:Inv T.length h) :
  ∃ h',CW 98 [.func (.yield L) #[] #[],ptr c 0] h=some (.tuple #[],h')/\Inv 0 h':=by
 have key : ∃ o:bc,t135 CW (.func (.yield L) #[] #[]) (ptr c 0) h=o /\ ∃ h',o=some (.tuple #[],h')/\Inv 0 h':=by
  refine ⟨_,rfl,?_⟩;unfold t135;obtain ⟨l0,P0⟩:=hread _ _ h0;have hll:=PR.len P0;have sb:aF prog .sub 3 (aq T.length) (.int .i64 1)=some (.int .i64 ((T.length:Int)-1)):=by unfold aq;rw [fE,wrap_i64 (by omega) (by omega)]
  simp -implicitDefEqProofs only [l0,hll,sb,aj,ak];refine bH (n:=19) (fin:=fun ex y g=>ex = .exit 0/\Inv 0 g) (Q:=fun o:bc => ∃ h',o=some (.tuple #[],h')/\Inv 0 h')
   (bC (zf CW) (Inv:=fun k y g=>k<=T.length/\y 0 = .func (.yield L) #[] #[]/\y 1=ptr c 0/\y 3 = .int .i64 ((k:Int)-1)/\Inv k g) ?_ T.length (by have:aD=18446744073709551616:=rfl;omega) ⟨DD _,rfl,rfl,rfl,h0⟩) ?_
  ·rintro k y g ⟨hk,y0,y1,y3,hi⟩;unfold qD;have q:=geq3 k;simp -implicitDefEqProofs only [y0,y1,y3,q,aj,ak];obtain ⟨l1,P1⟩:=hread _ _ hi;by_cases hk1:1<=k
   ·obtain ⟨j,rfl⟩ : ∃ j,k=j+1:=⟨k-1,by omega⟩
    obtain ⟨b,o,ix,hb,lp⟩:=P1.2.2 j (by omega);have lg:=lp g rfl;obtain ⟨g',e',hi'⟩:=hstep j g (by omega) hi;have ej:(((j+1:Nat):Int)-1)=(j:Int):=by omega
    have ix':idxS 32 w (.int .i64 (j:Int))=some (ptr b o):=ix;have e'':callA prog CW (.func (.yield L) #[] #[]) [.int .i64 (j:Int),.agg (bn (T.getD j [])).toArray] g=some (.bool true,g'):=e';have sb2:aF prog .sub 3 (.int .i64 (j:Int)) (.int .i64 1)=some (.int .i64 ((j:Int)-1)):=by rw [fE,wrap_i64 (by omega) (by omega)]
    simp -implicitDefEqProofs only [DC hk1,ej,l1,ix',lg,e'',sb2,aV,DP,aj,ak];exact dJ.next j (by omega) ⟨by omega,y0,y1,rfl,hi'⟩
   ·have hk0:k=0:=by omega
    subst hk0;simp -implicitDefEqProofs only [DF hk1];exact dJ.out 0 ⟨rfl,hi⟩
  ·rintro ex z g ⟨rfl,hi⟩;simp -implicitDefEqProofs only [bk,b135_1,EA];rw [dC,results135];exact ⟨g,rfl,hi⟩
 obtain ⟨o9,e,h',e',q⟩:=key;exact ⟨h',aL is135 hG rfl ((t135_eq _ _ _ _).trans (e.trans e')),q⟩
set_option maxRecDepth 100000 in
theorem tre1 {h:ai} (hG:4<=h.n0) (hz:h.get 3=some bT) {N d i:Nat} {D:List Nat} {vs:Value} {S:List (List Nat)} (hN:h.n0<=N) (hNn:N<=d) (hS:uH h N vs S.reverse) (hD:js D) (hd:h.get d=some (bn D)) (hds : ∀ b,stB vs=some b -> ¬b=d) (hi:i<=1048576) (hp:S.length=pc i)
  {q15 q16 q17 q2:Value} {x:Nat->Value} (x3:x 3=vs) (x6:x 6=ptr d 0) (x7:x 7=aq i) (x15:x 15=q15) (x16:x 16=q16) (x17:x 17=q17) (x2:x 2=q2) :
  Fin 66 (fun ex y g=>ex = .exit 2/\y 6=ptr d 0/\y 15=q15/\y 16=q16/\y 17=q17/\y 2=q2/\az h g (· = d) /\ ∃ D' S' vs',y 3=vs'/\uH g N vs' S'.reverse/\stB vs'=stB vs/\js D'/\g.get d=some (bn D')/\push dB i D S i=D'::S') (iter (codeA prog CW (ao f42 [1,1,1,0,1,0,0,1,1,0,0,1,1,0,1,0,0])) aD (aK 66 x) h):=by
 refine bC (lO CW) (Inv:=fun k y g => ∃ i' D' S' vs',i'<=k/\i'<=1048576/\y 3=vs'/\y 6=ptr d 0/\y 7=aq i'/\y 15=q15/\y 16=q16/\y 17=q17/\y 2=q2/\az h g (· = d)/\uH g N vs' S'.reverse/\stB vs'=stB vs/\js D'/\g.get d=some (bn D')/\S'.length=pc i'/\push dB k D' S' i'=push dB i D S i) ?_ i (by have:aD=18446744073709551616:=rfl;omega) ⟨i,D,S,vs,DD _,hi,x3,x6,x7,x15,x16,x17,x2,az.refl _ _,hS,rfl,hD,hd,hp,rfl⟩;rintro k y g ⟨i',D',S',vs',hk,hi',y3,y6,y7,y15,y16,y17,y2,K,sk,hb,dD,gd,hp',hpu⟩;have e1:aF prog .eql 3 (aq (i'%2)) (.int .i64 1)=some (.bool (decide (i'%2=1))):=eql1 _;unfold fp;simp -implicitDefEqProofs only [y7,and1 hi',e1,aj,ak];by_cases c:i'%2=1
 ·rw [tY,c] at hp';cases k with
  |zero=>omega
  |succ k=>
   cases S' with
   |nil=>rw [List.length_nil] at hp';omega
   |cons p S'=>
    rw [List.length_cons] at hp';have hp'':S'.length=pc (i'/2):=by omega
    rw [List.reverse_cons] at sk;obtain ⟨P,gs⟩:=sk.pr;obtain ⟨b,o,ix,dp,lp⟩:=PR.iC P;obtain ⟨v2,e2,sk2,hb2⟩:=sk.pop;have hll:=sk.len;rw [DE,List.length_singleton] at hll;have Lp:=lp g (az.refl _ _);have cD:=aZ dD;have L6:=bj gd cD.1 cD.2.1;have hSl:S'.reverse.length<=1000000:=by
     rw [List.length_reverse];have hpc : ∀ (f j:Nat),CN f j<=f:=by
      intro f;induction f with
      |zero=>intro j;exact DD _
      |succ f ih=>
       intro j;have:=ih (j/2);show j%2+CN f (j/2)<=f+1;omega
     have:=hpc (i'/2) (i'/2);unfold pc at hp'';omega
    have sb:aF prog .sub 3 (aq (S'.reverse.length+1)) (.int .i64 1)=some (aq S'.reverse.length):=sub_n1 (by omega) (by omega);have G2:4<=g.n0:=by rw [K.n0];exact hG
    have hdn:g.n0<=d:=by rw [K.n0];omega
    have Z2:g.get 3=some bT:=az.getE K hz (by omega);obtain ⟨g4,e4,o4⟩:=r70 (h:=g) G2 Z2 dp dD;have dn:=aZ (mh p D');obtain ⟨g5,e5,k5,g5',_,n5⟩:=aY (n:=32) (k':=bn (dB p D')) (aE.get o4 gd) (by rw [o4.n0];exact hdn) cD.1 dn.1 dn.2.2;have sh:aF prog .shr 3 (aq i') (.int .u64 1)=some (aq (i'/2)):=shr1;simp -implicitDefEqProofs only [DC c, y3, y6, hll, sb, ix, Lp, L6, e4, e5, e2, sh, aj, ak];refine dJ.next k (by omega) ⟨i'/2,dB p D',S',v2,by omega,by omega,rfl,y6,rfl,y15,y16,y17,y2,(K.trans (o4.mono (fun _ _ h=>h.elim))).trans k5,?_,hb2.trans hb,mh _ _,g5',hp'',?_⟩
    ·refine (sk2.old o4).keep k5 fun b' hb' => ?_;rw [hb2,hb] at hb';exact hds b' hb'
    ·rw [me,DL c] at hpu;exact hpu
 ·simp -implicitDefEqProofs only [DF c];refine dJ.out 2 ⟨rfl,y6,y15,y16,y17,y2,K,D',S',vs',y3,sk,hb,dD,gd,?_⟩;rw [<-hpu];cases k with
  |zero=>rfl
  |succ k=>rw [me,DM c]
theorem bsl_dig (g:ai) {D:List Nat} (dD:js D):dg 32 (.agg (List.replicate 32 (.int .u8 0)).toArray) 1 [(0,.agg (bn D).toArray)] g=some (.slice (some ⟨g.next,0,none⟩) 1 1,g.alloc (bn D)):=by
 have c:=aZ dD;have e1:(Value.agg (bn D).toArray).cells=(bn D).toArray:=rfl;have hz:dj (Value.agg (List.replicate 32 (.int .u8 0)).toArray).cells.toList 1=List.replicate 32 (.int .u8 0):=rfl;have e2:fillL (List.replicate 32 (.int .u8 0)) [(0*32,32,Value.agg (bn D).toArray)]=some (bn D):=by
  unfold fillL;rw [e1,DL (by simp [c.1])];unfold fillL
  congr 1
  unfold splice;rw [GI,List.take_zero,List.nil_append,DH,GU (by rw [IC];simp [c.1]),EU]
 have hc:(bI (Value.agg (List.replicate 32 (.int .u8 0)).toArray).cells.toList&&(Value.agg (List.replicate 32 (.int .u8 0)).toArray).cells.size=32&&0<32&&1*32<=16777216&&aM ([((0:Nat),Value.agg (bn D).toArray)].flatMap fun x=>x.2.cells.toList))=true:=by rw [E6,H8,EU,e1,c.2.2];rfl
 unfold dg;rw [DL (by simpa using hc),hz,FR,HP];simp only [e2]
theorem pc_le (i:Nat):pc i<=i:=by
 have hpc : ∀ (f j:Nat),CN f j<=f:=by
  intro f;induction f with
  |zero=>intro j;exact DD _
  |succ f ih=>
   intro j;have:=ih (j/2);show j%2+CN f (j/2)<=f+1;omega
 exact hpc i i
def yW (L:List av):List (List Nat):=L.map pF
theorem lvs_take {L:List av} {i:Nat} (hi:i<L.length):yW (L.take (i+1))=yW (L.take i) ++ [pF (L.getD i av.z)]:=by unfold yW;rw [JI,FH,DB hi,DJ,DB hi];rfl
set_option maxRecDepth 100000 in
theorem tre2 {h:ai} (hG:4<=h.n0) (hz:h.get 3=some bT) {N d2:Nat} {v:Value} {L:List av} (hN:N=h.next) (hv:kz h v L) (hval : ∀ r∈L,dX r=true) (hl:L.length<=1000000)
  {x:Nat->Value} (x3:x 3 = .slice none 0 0) (x15:x 15=v) (x16:x 16=aq L.length) (x17:x 17=aq 0) (x2:x 2=ptr d2 0) :
  Fin 66 (fun ex y g=>ex = .exit 0/\y 2=ptr d2 0/\aE h g/\uH g N (y 3) (wX dB (yW L) [] 0).reverse) (iter (codeA prog CW (ao f42 [1,1,1,0,1,0,0])) aD (aK 66 x) h):=by
 refine bC (uU CW) (Inv:=fun k y g => ∃ i,i+k=L.length/\y 15=v/\y 16=aq L.length/\y 17=aq i/\y 2=ptr d2 0/\aE h g/\uH g N (y 3) (wX dB (yW (L.take i)) [] 0).reverse) ?_ L.length (by have:aD=18446744073709551616:=rfl;omega) ⟨0,by omega,x15,x16,x17,x2,az.refl _ _,by rw [x3];exact uH.nil h N⟩;rintro k y g ⟨i,hik,y15,y16,y17,y2,O,sk⟩;unfold nn;simp -implicitDefEqProofs only [y16,y17,ie,aj,ak];by_cases hi:i<L.length
 ·obtain ⟨b,o,ix,wr,mr,lp⟩:=hv.at hi;have vr:=hval _ mr;have htk:=lvs_take hi;have hli:(yW (L.take i)).length=i:=by unfold yW;rw [DY,DV];omega
  have hsl:=Ca dB (yW (L.take i)) [] 0 rfl;rw [hli,DH] at hsl;generalize hr:L.getD i av.z=r at *;generalize hSS:wX dB (yW (L.take i)) [] 0=S at *;have L1:=lp g O;have cr:=aQ wr;obtain ⟨g1,z1,o1,q1,n1⟩:=fresh (bW av.z) g;obtain ⟨g2,e2,k2,q2,_,n2⟩:=aY (n:=39) (k':=bW r) q1 (by rw [o1.n0];exact g.n0_le_next) rfl cr.1 cr.2.2;have o2:aE g g2:=aE.bK o1 k2 (DD _);have L2:=bj q2 cr.1 cr.2.1;have O2:=O.trans o2;obtain ⟨g3,e3,o3⟩:=r69 (h:=g2) (by rw [O2.n0];exact hG) (aE.get O2 hz) wr vr;have O3:=O2.trans o3;obtain ⟨g4,z4,o4,q4,n4⟩:=fresh (List.replicate 32 (.int .u8 0)) g3;have dl:=aZ (pP r);obtain ⟨g5,e5,k5,q5,_,n5⟩:=aY (n:=32) (k':=bn (pF r)) q4 (by rw [o4.n0];exact g3.n0_le_next) rfl dl.1 dl.2.2;have o5:aE g3 g5:=aE.bK o4 k5 (DD _);have O5:=O3.trans o5;have sk5:uH g5 N (y 3) S.reverse:=((sk.old o2).old o3).old o5;have hNlt:N<=g3.next:=by have:=O3.next;omega
  have z1:eH mE g=some (ptr g.next 0,g1):=z1;simp -implicitDefEqProofs only [DC hi,y15,ix,L1,z1,e2,L2,e3,z4,e5,aj,ak];refine bH (n:=66) (Q:=fun o=>dJ 66 _ _ k o) (tre1 (h:=g5) (by rw [O5.n0];exact hG) (aE.get O5 hz) (N:=N) (d:=g3.next) (i:=i) (S:=S) (vs:=y 3) (q15:=v) (q16:=aq L.length) (q17:=aq i) (q2:=ptr d2 0) (by rw [O5.n0];have:=h.n0_le_next;omega) hNlt sk5 (pP r) q5 (fun b' hb'=>by have:=(sk.lt hb').2;have:=O3.next;have:=o2.next;have:=o3.next;omega) (by omega) hsl rfl rfl rfl y15 y16 y17 y2) ?_
  rintro _ z g6 ⟨rfl,z6,z15,z16,z17,z2,K6,D',S',vs',z3,sk6,hb6,dD,gd,hpu⟩;simp -implicitDefEqProofs only [bk,b54_20,EA,Cm];unfold u5;have O6:aE h g6:=aE.bK O5 K6 (by omega);have cD:=aZ dD;have L6:=bj gd cD.1 cD.2.1;have b7:dg 32 (.agg (List.replicate 32 (.int .u8 0)).toArray) 1 [(0,.agg (bn D').toArray)] g6=some (.slice (some ⟨g6.next,0,none⟩) 1 1,g6.alloc (bn D')):=bsl_dig g6 dD;have o7:aE g6 (g6.alloc (bn D')):=az.alloc _ _ _;have q7:(g6.alloc (bn D')).get g6.next=some (bn D'):=by rw [ai.aN,DL rfl]
  have hS'l:S'.reverse.length<=1000000:=by have:=zV dB i (pF r) S i (DD _) hsl;rw [hpu,List.length_cons] at this;have hpc:=pc_le (i+1);rw [List.length_reverse];omega
  obtain ⟨v8,g8,e8,sk8,k8,hb8⟩:=(sk6.old o7).push (c:=g6.next) (by rw [o7.n0,O6.n0];have:=h.n0_le_next;omega) (by have:=O6.next;have:=o7.next;omega) dD hS'l q7;have O8:aE h g8:=(O6.trans o7).also k8 (fun b' hb' hs=>by have:=((sk6.old o7).lt hs).1;omega)
  simp -implicitDefEqProofs only [z3, z6, L6, b7, e8, aj, Cg];unfold vm;have a17:aF prog .add 3 (aq i) (.int .i64 1)=some (aq (i+1)):=dR (by omega);have z17':up z [(3,v8),(43,vs'),(44,.agg (bn D').toArray),(45,.slice (some ⟨g6.next,0,none⟩) 1 1),(46,v8)] 17=aq i:=z17;simp -implicitDefEqProofs only [z17',a17,aj,ak];refine dJ.next (k-1) (by omega) ⟨i+1,by omega,z15,z16,rfl,z2,O8,?_⟩;have e9:(wX dB (yW (L.take (i+1))) [] 0).reverse=S'.reverse ++ [D']:=by rw [htk,stk_snoc,hSS,hli,hpu,List.reverse_cons]
  rw [e9];exact sk8
 ·have:i=L.length:=by omega
  subst this;simp -implicitDefEqProofs only [DF hi];rw [GN] at sk;exact dJ.out 0 ⟨rfl,y2,O,sk⟩
theorem rng54:ao f42 [1,1,1,1,1,0,1,0] = .rangeFunc (.tmp 59) #[60,61] (rgA (ao f42 [1,1,1,1,1,0,1,0])) (rgB (ao f42 [1,1,1,1,1,0,1,0])):=by kernel_rfl
theorem rng54a:codeOk prog (rgA (ao f42 [1,1,1,1,1,0,1,0]))=true:=by kernel_rfl
theorem rng54b:codeOk prog (rgB (ao f42 [1,1,1,1,1,0,1,0]))=true:=by kernel_rfl
theorem body135:hasBody prog 98=true:=by kernel_rfl
theorem take_rev {T:List (List Nat)} {j:Nat} (hj:j<T.length):(T.take (j+1)).reverse=T.getD j []::(T.take j).reverse:=by rw [JI,DB hj,DJ,DB hj];simp
set_option maxRecDepth 100000 in
theorem tre3 {h:ai} (hG:4<=h.n0) (hz:h.get 3=some bT) {d c:Nat} {w:Value} {T:List (List Nat)} {D:List Nat} {x:Nat->Value} (x8:x 8=ptr d 0) (x59:x 59 = .func (.func 98) #[] #[ptr c 0])
  (hw:PR h w T) (hww:eK w=false) (hT:T.length<=1000000) (hwd : ∀ j b o,j<T.length->idxS 32 w (aq j)=some (ptr b o) -> ¬b=d) (hc:h.get c=some [w]) (hcd : ¬c=d) (hd:h.get d=some (bn D)) (hD:js D) (hd0:h.n0<=d) (hd3 : ¬3=d) :
  ∃ h',codeA prog CW (ao f42 [1,1,1,1,1,0,1,0]) (aK 66 x) h=some (.normal,aK 66 x,h')/\az h h' (· = d)/\h'.get d=some (bn (finS dB (D::T.reverse))):=by
 have hdn:=h.aO hd;have hcn:=h.aO hc;generalize hA:rgA (ao f42 [1,1,1,1,1,0,1,0])=ca at *;generalize hB:rgB (ao f42 [1,1,1,1,1,0,1,0])=cb at *;have L0:=Ag.new h (aK 66 x) [60,61] ca cb;have k0:aE h (h.br (.obj (.loop .ready none (aK 66 x) [60,61] ca cb))):=az.allocO _ _ _;have n0:(h.br (.obj (.loop .ready none (aK 66 x) [60,61] ca cb))).next=h.next+1:=rfl;have hk : ∀ g,az (h.br (.obj (.loop .ready none (aK 66 x) [60,61] ca cb))) g (fun b=>b=d\/b=h.next)->az h g (fun b=>b=d\/b=h.next):=fun g k=>(k0.mono (fun _ _ h=>h.elim)).trans k;generalize hh0:h.br (.obj (.loop .ready none (aK 66 x) [60,61] ca cb))=h0 at *;obtain ⟨h2,e2,K2,R2,g2,_⟩:=r135 (h:=h0) (by rw [k0.n0];exact hG) (L:=h.next) (c:=c) (w:=w) (T:=T) hT
  (fun j g=>az h g (fun b=>b=d\/b=h.next)/\Ag g h.next (aK 66 x) [60,61] ca cb/\h0.next<=g.next /\ ∃ D',g.get d=some (bn D')/\js D'/\(T.take j).reverse.foldl (fun d x=>dB x d) D'=T.reverse.foldl (fun d x=>dB x d) D)
  (fun j g ⟨K,_,_,_⟩=>by
   refine ⟨?_,hw.1,hw.2.1,fun j hj => ?_⟩
   ·exact aW (K.getE hc (fun q=>by rcases q with q|q<;>omega)) (by rfl) hww
   ·obtain ⟨b,o,h1,h2,h3⟩:=hw.2.2 j hj;have hne:=hwd j b o hj h1;have hb:g.get b=h.get b:=az.get K b h2 (fun q=>by rcases q with q|q<;>omega);exact ⟨b,o,h1,EJ h2 K.next,fun g' e=>h3 g' (e.trans hb)⟩)
  (fun j g hj ⟨K,R,hn,D',gd,dD,hf⟩=>by
   have G:4<=g.n0:=by rw [K.n0];exact hG
   have hp:js (T.getD j []):=hw.2.1 _ (by rw [DJ,DB hj];exact EL hj)
   rw [take_rev hj,List.foldl_cons] at hf;generalize T.getD j []=p at *;have cp:=aZ hp;have cD:=aZ dD;obtain ⟨g3,z3,o3,g3',n3⟩:=fresh (List.replicate 32 (.int .u8 0)) g;obtain ⟨g4,e4,k4,g4',_,n4⟩:=aY (n:=32) (k':=bn p) g3' (by rw [o3.n0];exact g.n0_le_next) rfl cp.1 cp.2.2;have o4:aE g g4:=aE.bK o3 k4 (DD _);have ha:codeA prog CW ca (fo (aK 66 x) ([60,61].zip [aq j,.agg (bn p).toArray])) g=some (.normal,aK 66 (up (up (up x [(60,aq j)]) [(61,.agg (bn p).toArray)]) [(10,ptr g.next 0)]),g4):=by show codeA prog CW ca (((aK 66 x).set 60 (aq j)).set 61 (.agg (bn p).toArray)) g=_;rw [qS,qS,<-hA,rG];unfold jK;have y61:up (up x [(60,aq j)]) [(61,.agg (bn p).toArray)] 61 = .agg (bn p).toArray:=rfl;simp -implicitDefEqProofs only [y61, z3, e4, aj]
   have R4:Ag g4 h.next (aK 66 x) [60,61] ca cb:=R.keep o4 (fun h=>h);have R4':=R4;unfold Ag at R4';have kS:az g4 (g4.setO h.next (.loop .busy none (aK 66 x) [60,61] ca cb)) (· = h.next):=az.setO R4' rfl;have gS : ∀ b,(g4.setO h.next (.loop .busy none (aK 66 x) [60,61] ca cb)).get b=g4.get b:=fun b=>ai.ug R4' _ b;have nS:(g4.setO h.next (.loop .busy none (aK 66 x) [60,61] ca cb)).next=g4.next:=rfl;generalize hg5:g4.setO h.next (.loop .busy none (aK 66 x) [60,61] ca cb)=g5 at *;have G5:4<=g5.n0:=by rw [kS.n0,o4.n0];exact G
   have q10:g5.get g.next=some (bn p):=(gS _).trans g4';have q8:g5.get d=some (bn D'):=(gS _).trans (aE.get o4 gd);have Z5:g5.get 3=some bT:=(gS _).trans (aE.get o4 (K.getE hz (fun q=>by have:=h.aO hz;rcases q with q|q<;>omega)))
   have l10:=bj q10 cp.1 cp.2.1;have l8:=bj q8 cD.1 cD.2.1;obtain ⟨g6,e6,o6⟩:=r70 (h:=g5) G5 Z5 hp dD;have dn:=aZ (mh p D');obtain ⟨g7,e7,k7,g7',_,n7⟩:=aY (n:=32) (k':=bn (dB p D')) (aE.get o6 q8) (by rw [o6.n0,kS.n0,o4.n0,K.n0];exact hd0) cD.1 dn.1 dn.2.2;have hb:codeA prog CW cb (aK 66 (up (up (up x [(60,aq j)]) [(61,.agg (bn p).toArray)]) [(10,ptr g.next 0)])) g5=some (.normal,aK 66 (up (up (up (up x [(60,aq j)]) [(61,.agg (bn p).toArray)]) [(10,ptr g.next 0)]) [(62,.agg (bn p).toArray),(63,.agg (bn D').toArray),(64,.agg (bn (dB p D')).toArray)]),g7):=by rw [<-hB,rH];unfold jM;have y10:up (up (up x [(60,aq j)]) [(61,.agg (bn p).toArray)]) [(10,ptr g.next 0)] 10=ptr g.next 0:=rfl;have y8:up (up (up x [(60,aq j)]) [(61,.agg (bn p).toArray)]) [(10,ptr g.next 0)] 8=ptr d 0:=x8;simp -implicitDefEqProofs only [y10, y8, l10, l8, e6, e7, aj]
   have k57:az g5 g7 (· = d):=(o6.mono (fun _ _ h=>h.elim)).trans k7;obtain ⟨g8,e8,R8,n8,m8,s8,b8⟩:=Ag.round (B:=(· = d)) R rfl (by rw [<-hA];exact rng54a) (by rw [<-hB];exact rng54b) ha (o4.mono (fun _ _ h=>h.elim)) (show ¬h.next=d by omega) (by rw [hg5];exact hb) (by rw [hg5];exact k57);have hnx:g.next<=g8.next:=by have:=o4.next;have:=k57.next;omega
   have K8:az g g8 (fun b=>b=d\/b=h.next):=by refine ⟨m8,hnx,fun b hb hq => ?_⟩;have q1 : ¬b=d:=fun q=>hq (.inl q);have q2 : ¬b=h.next:=fun q=>hq (.inr q);have n4':=o4.next;rw [b8 b q2,k57.getB b (by omega) q1,kS.getB b (by omega) q2];exact az.getB o4 b hb (fun h=>h)
   exact ⟨g8,CW_yield G e8,K.trans K8,R8,by omega,dB p D',(s8 d).trans g7',mh _ _,hf⟩)
  ⟨hk _ (az.refl _ _),L0,DD _,D,aE.get k0 hd,hD,by rw [GN]⟩
 obtain ⟨D',gd',dD',hf⟩ : ∃ D',h2.get d=some (bn D')/\js D'/\(T.take 0).reverse.foldl (fun d x=>dB x d) D'=T.reverse.foldl (fun d x=>dB x d) D:=by
  obtain ⟨_,D',q1,q2,q3⟩:=(⟨g2,‹_›⟩:(h0.next<=h2.next)/\_)
  exact ⟨D',q1,q2,q3⟩
 obtain ⟨h3,e3,k3,n3⟩:=R2.fin (e0:=aK 66 x);have hv:ev (aK 66 x) (.tmp 59) = .func (.func 98) #[] #[ptr c 0]:=(ev_mkF (by decide) x).trans x59;refine ⟨h3,?_,?_,?_⟩
 ·refine (zZ (v := .tuple #[]) (h2:=h2) (ps := #[60,61]) rng54 hv body135 ?_).trans e3;rw [hA,hB];show CW 98 [.func (.yield h.next) #[] #[],ptr c 0] (h.br (.obj (.loop .ready none (aK 66 x) [60,61] ca cb)))=_;rw [hh0];exact e2
 ·refine ⟨k3.n0.trans K2.n0,D7 K2.next k3.next,fun b hb hq => ?_⟩;rw [k3.getB b (by have:=K2.next;omega) (by omega),K2.getB b hb (fun q=>by rcases q with q|q;exact hq q;omega)]
 ·rw [k3.getE gd' (by omega)];rw [List.take_zero,List.reverse_nil,List.foldl_nil] at hf;rw [hf];rfl
def cM (L:List av):List Nat:=if L.length=0 then nilD else qf dB (yW L)
theorem pc_pos : ∀ (i:Nat),pc i=0->i=0:=by
 intro i;induction i using Nat.strongRecOn with
 |_ i ih=>
  intro h;rw [tY] at h;by_cases c:i=0
  ·exact c
  ·have:=ih (i/2) (by omega) (by omega);omega
theorem treeG_ok : ∀ (f:Nat) (L:List (List Nat)),(∀ t∈L,js t)->1<=L.length->L.length<=f->js (pv dB f L)
 | 0,L,_,h1,h2=>by omega
 |f+1,L,hd,h1,h2=>by
  rw [xo];split
  ·match L,h1 with
   |d::_,_=>exact hd d ED
  ·exact mh _ _
theorem fR (L:List av):js (cM L):=by
 unfold cM;split
 ·exact Cu
 ·have hl:(yW L).length=L.length:=DY _;exact treeG_ok _ _ (fun t ht=>by obtain ⟨r,_,rfl⟩:=E0.1 ht;exact pP r) (by omega) (DD _)
theorem stk_ok : ∀ (M S:List (List Nat)) (i:Nat),(∀ t∈M,js t)->(∀ t∈S,js t) -> ∀ t∈wX dB M S i,js t
 | [],_,_,_,hS=>hS
 |d::M,_,i,hM,hS=>stk_ok M _ _ (fun t ht=>hM t (EI _ ht)) (push_ok dB (fun a b=>mh a b) i i (hM d ED) hS)
set_option maxRecDepth 100000 in
theorem r54 {h:ai} (hG:4<=h.n0) (hz:h.get 3=some bT) {v:Value} {L:List av} (hv:kz h v L) (hval : ∀ r∈L,dX r=true) (hl:L.length<=1000000) :
  ∃ h',CW 42 [v] h=some (.agg (bn (cM L)).toArray,h')/\aE h h':=by
 obtain ⟨h1,z1,o1,g1,n1⟩:=fresh (List.replicate 32 (.int .u8 0)) h;have hll:=hv.len;have q0:=eql0 L.length;by_cases c:L.length=0
 ·rw [DC c] at q0;obtain ⟨h2,e2,o2⟩:=r106 (h:=h1) (by rw [o1.n0];exact hG) (aE.get o1 hz);have dn:=aZ Cu;have O2:=o1.trans o2;obtain ⟨h3,e3,k3,g3,_,n3⟩:=aY (n:=32) (k':=bn nilD) (aE.get o2 g1) (by rw [O2.n0];exact h.n0_le_next) rfl dn.1 dn.2.2;have L3:=bj g3 dn.1 dn.2.1;have ev:cM L=nilD:=by unfold cM;rw [DL c]
  rw [ev];refine ⟨h3,aL is54 hG rfl ((t54_eq _ _ _).trans ?_),aE.bK O2 k3 (DD _)⟩;unfold t54;simp -implicitDefEqProofs only [z1,hll,q0,e2,e3,aj,ak];exact dG results54 kD fI (show 2<66 by decide) _ L3
 ·rw [DF c] at q0;have hlv:(yW L).length=L.length:=DY _;have hfin:=fin_stk dB L.length (yW L) hlv (by omega) (by omega);have hsl:=Ca dB (yW L) [] 0 rfl;rw [hlv,DH] at hsl;have hso:=stk_ok (yW L) [] 0 (fun t ht=>by obtain ⟨r,_,rfl⟩:=E0.1 ht;exact pP r) (fun t ht=>by cases ht);have ev:cM L=qf dB (yW L):=by unfold cM;rw [DM c]
  have key : ∃ o:bc,t54 CW v h=o /\ ∃ h',o=some (.agg (bn (cM L)).toArray,h')/\aE h h':=by
   refine ⟨_,rfl,?_⟩;unfold t54;simp -implicitDefEqProofs only [z1,hll,q0,aj,ak];refine bH (n:=66) (Q:=fun o:bc => ∃ h',o=some (.agg (bn (cM L)).toArray,h')/\aE h h') (tre2 (h:=h1) (by rw [o1.n0];exact hG) (aE.get o1 hz) (N:=h1.next) (d2:=h.next) rfl (hv.mono o1) hval hl rfl rfl rfl rfl rfl) ?_;rintro _ y g ⟨rfl,y2,O,sk⟩;simp -implicitDefEqProofs only [bk,b54_7,EA,t54k54_5_eq];unfold yT;generalize hSS:wX dB (yW L) [] 0=S at *;cases S with
   |nil=>
    have:=pc_pos L.length (by rw [<-hsl];rfl);exact absurd this c
   |cons D S'=>
    rw [List.reverse_cons] at sk;have hlen:=sk.len;rw [DE,List.length_singleton] at hlen;have hS'l:S'.reverse.length<=1000000:=by have:=pc_le L.length;rw [List.length_cons] at hsl;rw [List.length_reverse];omega
    obtain ⟨P,gs⟩:=sk.pr;obtain ⟨b,o,ix,dD,lp⟩:=PR.iC P;have Lp:=lp g (az.refl _ _);have cD:=aZ dD;have sb:aF prog .sub 3 (aq (S'.reverse.length+1)) (.int .i64 1)=some (aq S'.reverse.length):=sub_n1 (by omega) (by omega);obtain ⟨g2,z2,o2,q2,m2⟩:=fresh (List.replicate 32 (.int .u8 0)) g;obtain ⟨g3,e3,k3,q3,_,m3⟩:=aY (n:=32) (k':=bn D) q2 (by rw [o2.n0];exact g.n0_le_next) rfl cD.1 cD.2.2;have o3:aE g g3:=aE.bK o2 k3 (DD _);obtain ⟨w,ew,skw,hbw⟩:=(sk.old o3).pop;obtain ⟨Pw,gw⟩:=skw.pr;have hbl : ∀ b',stB w=some b'->b'<g.next:=fun b' hb'=>(sk.lt (hbw▸hb')).2;obtain ⟨wa,wc,rfl⟩:=Pw.1;have OO3:aE h g3:=(o1.trans O).trans o3;obtain ⟨g4,e4,o4,q4,m4⟩:=r107 (h:=g3) (by rw [OO3.n0];exact hG) (a:=wa) (n:=S'.reverse.length) (c:=wc);have OO4:=OO3.trans o4;simp -implicitDefEqProofs only [hlen,sb,ix,Lp,z2,e3,ew,e4,aj,ak];have hz3 : ¬3=g.next:=by have:=h.aO hz;have:=o1.next;have:=O.next;omega
    obtain ⟨g5,e5,k5,q5⟩:=tre3 (h:=g4) (by rw [OO4.n0];exact hG) (aE.get OO4 hz) (d:=g.next) (c:=g3.next) (w := .slice wa S'.reverse.length wc) (T:=S'.reverse) (D:=D) (x:=up y [(8,ptr g.next 0),(48,y 3),(49,y 3),(50,aq (S'.reverse.length+1)),(51,aq S'.reverse.length),(52,ptr b o),(53,.agg (bn D).toArray),(54,y 3),(55,y 3),(56,aq (S'.reverse.length+1)),(57,aq S'.reverse.length),(58,.slice wa S'.reverse.length wc),(59,.func (.func 98) #[] #[ptr g3.next 0])]) rfl rfl (Pw.mono o4) rfl hS'l (fun j b' o' hj e=>by
      have:stB (.slice wa S'.reverse.length wc)=some b':=by
       rcases skw.form with ⟨h0,_⟩|⟨bb,m,X,h1,_⟩
       ·rw [h0] at hj;exact absurd hj (FP j)
       ·rw [h1] at e |-;unfold idxS aq at e;simp only at e;split at e
        ·cases e;rfl
        ·cases e
      have:=hbl b' this;omega) q4 (by have:=o3.next;have:=m2;omega) (aE.get o4 q3) dD (by rw [OO4.n0];have:=h.n0_le_next;have:=o1.next;have:=O.next;omega) hz3
    rw [e5];show ∃ h',k54_9 CW (aK 66 _) g5=some (.agg (bn (cM L)).toArray,h')/\aE h h';rw [t54k54_9_eq];unfold yG;rw [List.reverse_reverse,hfin,<-ev] at q5;have ct:=aZ (fR L);have L8:=bj q5 ct.1 ct.2.1;have y2':up y [(8,ptr g.next 0),(48,y 3),(49,y 3),(50,aq (S'.reverse.length+1)),(51,aq S'.reverse.length),(52,ptr b o),(53,.agg (bn D).toArray),(54,y 3),(55,y 3),(56,aq (S'.reverse.length+1)),(57,aq S'.reverse.length),(58,.slice wa S'.reverse.length wc),(59,.func (.func 98) #[] #[ptr g3.next 0])] 2=ptr h.next 0:=y2;have y8':up y [(8,ptr g.next 0),(48,y 3),(49,y 3),(50,aq (S'.reverse.length+1)),(51,aq S'.reverse.length),(52,ptr b o),(53,.agg (bn D).toArray),(54,y 3),(55,y 3),(56,aq (S'.reverse.length+1)),(57,aq S'.reverse.length),(58,.slice wa S'.reverse.length wc),(59,.func (.func 98) #[] #[ptr g3.next 0])] 8=ptr g.next 0:=rfl;have hne : ¬h.next=g.next:=by have:=O.next;omega
    obtain ⟨g6,e6,k6,q6,_,m6⟩:=aY (n:=32) (k':=bn (cM L)) (k5.getE (aE.get ((O.trans o3).trans o4) g1) hne) (by rw [k5.n0,OO4.n0];exact h.n0_le_next) rfl ct.1 ct.2.2;have L6:=bj q6 ct.1 ct.2.1;have hO5:aE h g5:=aE.bK OO4 k5 (by have:=o1.next;have:=O.next;omega);simp -implicitDefEqProofs only [y2', y8', L8, e6, aj];refine ⟨g6,?_,aE.bK hO5 k6 (DD _)⟩;refine dG results54 kD fI (show 2<66 by decide) _ ?_;rw [show up (up y [(8,ptr g.next 0),(48,y 3),(49,y 3),(50,aq (S'.reverse.length+1)),(51,aq S'.reverse.length),(52,ptr b o),(53,.agg (bn D).toArray),(54,y 3),(55,y 3),(56,aq (S'.reverse.length+1)),(57,aq S'.reverse.length),(58,.slice wa S'.reverse.length wc),(59,.func (.func 98) #[] #[ptr g3.next 0])]) [(65,.agg (bn (cM L)).toArray)] 2=ptr h.next 0 from y2'];exact L6
  obtain ⟨o9,e,h',e',q⟩:=key;exact ⟨h',aL is54 hG rfl ((t54_eq _ _ _).trans (e.trans e')),q⟩
end Go.Proofs.YtdnahgfgoajmcaaGreatDoor
namespace Go.Proofs.YtdnahgfgoajmcaaGreatDoor
open Go Go.Abs Tryz
theorem treeV_one (r:av):cM [r]=pF r:=by unfold cM yW;rw [DM (by rw [List.length_singleton];decide),FR,HP,treeN_one]
theorem treeV_two {M:List av} (h:2<=M.length):cM M=uC (cM (M.take (dU M.length))) (cM (M.drop (dU M.length))):=by
 have a1:=qp M.length;have a2:=tM h;have hl:(yW M).length=M.length:=DY _;have e : ∀ K:List av,K.length≠0->cM K=qf dB (yW K):=fun K hK=>by unfold cM;rw [DM hK]
 rw [e M (by omega),e (M.take (dU M.length)) (by rw [DV];omega),e (M.drop (dU M.length)) (by rw [EB];omega),vB dB (L:=yW M) (by omega),hl,node_same];unfold yW;rw [<-List.map_take,<-List.map_drop]
end Go.Proofs.YtdnahgfgoajmcaaGreatDoor
namespace Go.Proofs.YtdnahgfgoajmcaaGreatDoor
open Go Go.Abs Tryz
attribute [local congr] aw
theorem is55:cx prog 33 f33:=by constructor<;>kernel_rfl
theorem results55:f33.results.toList = [.cell 2 36]:=by kernel_rfl
set_option maxRecDepth 100000 in
theorem r55 : ∀ (n:Nat) {h:ai},4<=h.n0->GR h->GZ h -> ∀ {L:List av} {v:Value},L.length=n->n<=1048576->kz h v L->gR v->(∀ r∈L,dX r=true) ->
  ∃ h',CW 33 [v] h=some (.agg (bn (cM L)).toArray,h')/\aE h h':=by
 intro n;induction n using Nat.strongRecOn with
 |_ n ih=>
  intro h hG hr hz L v hL hn hv hg hval;obtain ⟨h1,z1,o1,g1,n1⟩:=fresh (List.replicate 32 (.int .u8 0)) h;have hll:=hv.len;rw [hL] at hll;have q0:=eql0 n;have q1:=eql1 n;by_cases c:n=0
  ·rw [DC c] at q0;obtain ⟨h2,e2,o2⟩:=r108 (h:=h1) (by rw [o1.n0];exact hG) (hr.old o1) (a:=none) (n:=0) (c:=0) (l := []) rfl (by decide);have ev:cM L=rI H0 []:=by unfold cM;rw [DL (by omega)];exact zv []
   rw [<-ev] at e2;have e2:CW 69 [.slice none 0 0] h1=some (.agg (bn (cM L)).toArray,h2):=e2;have dn:=aZ (fR L);have O2:=o1.trans o2;obtain ⟨h3,e3,k3,g3,_,n3⟩:=aY (n:=32) (k':=bn (cM L)) (aE.get o2 g1) (by rw [O2.n0];exact h.n0_le_next) rfl dn.1 dn.2.2;have L3:=bj g3 dn.1 dn.2.1;refine ⟨h3,aL is55 hG rfl ((t55_eq _ _ _).trans ?_),aE.bK O2 k3 (DD _)⟩;unfold t55;simp -implicitDefEqProofs only [z1,hll,q0,e2,e3,aj,ak];exact dG results55 kD fI (show 2<27 by decide) _ L3
  ·rw [DF c] at q0;by_cases c1:n=1
   ·rw [DC c1] at q1;obtain ⟨b,o,ix,wr,mr,lp⟩:=hv.at (j:=0) (by omega);have vr:=hval _ mr;have ev:cM L=zT (L.getD 0 av.z):=by
     match L,hL with
     | [r],_=>rw [treeV_one,leaf_same,List.getD_cons_zero]
     | [],hL=>exact absurd hL.symm c
     |_::_::_,hL=>rw [List.length_cons,List.length_cons] at hL;omega
    generalize L.getD 0 av.z=r at *;have L1:=lp h1 o1;obtain ⟨h2,e2,o2⟩:=r72 (h:=h1) (by rw [o1.n0];exact hG) (hr.old o1) (hz.old o1) wr vr;rw [<-ev] at e2;have dn:=aZ (fR L);have O2:=o1.trans o2;obtain ⟨h3,e3,k3,g3,_,n3⟩:=aY (n:=32) (k':=bn (cM L)) (aE.get o2 g1) (by rw [O2.n0];exact h.n0_le_next) rfl dn.1 dn.2.2;have L3:=bj g3 dn.1 dn.2.1;have ix:idxS 39 v (.int .i64 0)=some (ptr b o):=ix;refine ⟨h3,aL is55 hG rfl ((t55_eq _ _ _).trans ?_),aE.bK O2 k3 (DD _)⟩;unfold t55;simp -implicitDefEqProofs only [z1,hll,q0,q1,ix,L1,e2,e3,aj,ak];exact dG results55 kD fI (show 2<27 by decide) _ L3
   ·rw [DF c1] at q1;have hh1:=qp n;have hh2:=tM (n:=n) (by omega);have ev:=treeV_two (M:=L) (by omega);rw [hL] at ev;obtain ⟨wt,et,rt,gt⟩:=hv.take hg (k:=dU n) (by omega);obtain ⟨wd,ed,rd,gd⟩:=hv.drop hg (k:=dU n) (by omega);have e109:=r109 (h:=h1) (by rw [o1.n0];exact hG) hn;obtain ⟨h2,e2,o2⟩:=ih (dU n) (by omega) (h:=h1) (by rw [o1.n0];exact hG) (hr.old o1) (hz.old o1) (L:=L.take (dU n)) (v:=wt) (by rw [DV];omega) (by omega) (rt.mono o1) gt (fun r hr=>hval r (EZ hr));have O2:=o1.trans o2;obtain ⟨h3,e3,o3⟩:=ih (n-dU n) (by omega) (h:=h2) (by rw [O2.n0];exact hG) (hr.old O2) (hz.old O2) (L:=L.drop (dU n)) (v:=wd) (by rw [EB];omega) (by omega) (rd.mono O2) gd (fun r hr=>hval r (FJ hr));have O3:=O2.trans o3;obtain ⟨h4,e4,o4⟩:=r110 (h:=h3) (by rw [O3.n0];exact hG) (hr.old O3) (fR (L.take (dU n))) (fR (L.drop (dU n)));rw [<-ev] at e4;have O4:=O3.trans o4;have dn:=aZ (fR L);obtain ⟨h5,e5,k5,g5,_,n5⟩:=aY (n:=32) (k':=bn (cM L)) (aE.get ((o2.trans o3).trans o4) g1) (by rw [O4.n0];exact h.n0_le_next) rfl dn.1 dn.2.2;have L5:=bj g5 dn.1 dn.2.1;refine ⟨h5,aL is55 hG rfl ((t55_eq _ _ _).trans ?_),aE.bK O4 k5 (DD _)⟩;unfold t55;simp -implicitDefEqProofs only [z1,hll,q0,q1,e109,et,e2,ed,e3,e4,e5,aj,ak];exact dG results55 kD fI (show 2<27 by decide) _ L5
end Go.Proofs.YtdnahgfgoajmcaaGreatDoor
