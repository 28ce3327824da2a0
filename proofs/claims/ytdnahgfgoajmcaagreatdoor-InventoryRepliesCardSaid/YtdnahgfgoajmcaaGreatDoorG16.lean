/-
  A part of the proof, spaces and names shortened by a program (a claim may hold 1,500,000 bytes).
  Conditions: as each theorem states.
-/
import Derived.Test.YtdnahgfgoajmcaaGreatDoorG15
namespace Go.Proofs.YtdnahgfgoajmcaaGreatDoor
open Go Go.Abs Tryz
attribute [local congr] aq
def rR (N v:Nat):Nat->List Nat
 | 0=>128::List.replicate 71 0
 |j+1=>(rR N v j).set (N+j) (v/2^(56-8*j)%256)
def gH (n:Nat):List Nat:=(rR (64-(n+8)%64) (n*8) 8).take (64-(n+8)%64+8)
def mI (S:List (BitVec 32)):Nat->List Nat
 | 0=>List.replicate 32 0
 |j+1=>(mI S j).set j ((S.getD (j/4) 0).toNat/2^(24-8*(j%4))%256)
def HD.sum (s:HD):List Nat:=mI (s.wr (gH s.n)).S 32
theorem th (N v:Nat) : ∀ j,(rR N v j).length=72
 | 0=>rfl
 |j+1=>by rw [rR,HA,th N v j]
theorem pb (S:List (BitVec 32)) : ∀ j,(mI S j).length=32
 | 0=>rfl
 |j+1=>by rw [mI,HA,pb S j]
theorem bys_set {l:List Nat} (h:w9 l) (i:Nat) {x:Nat} (hx:x<256):w9 (l.set i x):=fun y hy=>by
 rcases GL hy with h1|h1
 ·exact h y h1
 ·omega
theorem padT_bys (N v:Nat) : ∀ j,w9 (rR N v j)
 | 0=>fun x hx=>by
   have hx:x∈128::List.replicate 71 0:=hx;rcases FJ.1 hx with h|h
   ·omega
   ·have:=F6 h;omega
 |j+1=>bys_set (padT_bys N v j) _ (GV _ (by decide))
theorem zC (S:List (BitVec 32)) : ∀ j,w9 (mI S j)
 | 0=>fun x hx=>by have:=F6 (show x∈List.replicate 32 0 from hx);omega
 |j+1=>bys_set (zC S j) _ (GV _ (by decide))
theorem xv (s:HD):ic s.sum:=⟨pb _ 32,zC _ 32⟩
theorem eC (l:List (BitVec 32)):Abs.noHoles (eV l)=true/\aJ (eV l)=true:=by
 induction l with
 |nil=>exact ⟨rfl,rfl⟩
 |cons x l ih=>exact ⟨ih.1,ih.2⟩
theorem hash_ok (s:HD):Abs.noHoles s.cells=true/\aJ s.cells=true:=by have a:=eC s.S;unfold HD.cells dP;exact ⟨iK _ _ a.1 (iK _ _ (fQ _) rfl),gM _ _ a.2 (gM _ _ (pz _) rfl)⟩
theorem sum1 {h:ad} {b N v:Nat} (hN:N<=64) (_:v<18446744073709551616) (hb:h.n0<=b) (hw:h.get b=some (aY (rR N v 0))) {p2 p3:Value}
  {x:Nat->Value} (x2:x 2=p2) (x3:x 3=p3) (x4:x 4=ptr b 0) (x5:x 5=ak N) (x6:x 6 = .int .u64 (v:Int)) (x30:x 30=ak 0) :
  Fin 66 (fun ex y g=>ex = .exit 0/\y 2=p2/\y 3=p3/\y 4=ptr b 0/\y 5=ak N/\az h g (· = b)/\g.get b=some (aY (rR N v 8))/\g.next=h.next) (iter (codeA prog CW (au f97 [1,1,1,1,1,1,1,0,1,0,0])) aB (aL 66 x) h):=by
 refine bk (nL CW) (Inv:=fun k y g => ∃ j,j+k=8/\y 2=p2/\y 3=p3/\y 4=ptr b 0/\y 5=ak N/\y 6 = .int .u64 (v:Int)/\y 30=ak j/\az h g (· = b)/\g.get b=some (aY (rR N v j))/\g.next=h.next) ?_ 8 (by have:aB=18446744073709551616:=rfl;omega) ⟨0,DG _,x2,x3,x4,x5,x6,x30,az.refl _ _,hw,rfl⟩;rintro k y g ⟨j,hjk,y2,y3,y4,y5,y6,y30,K,gw,gn⟩;unfold gA;have l8:aC prog .lss 3 (ak j) (.int .i64 8)=some (.bool (decide (j<8))):=eK j 8;simp -implicitDefEqProofs only [y30,l8,ae,af];by_cases hj:j<8
 ·have a1:aC prog .add 3 (ak N) (ak j)=some (ak (N+j)):=addc (c:=j) (by omega);have m1:aC prog .mul 3 (.int .i64 8) (ak j)=some (ak (8*j)):=by unfold ak;rw [iC,show (8:Int)*(j:Int)=((8*j:Nat):Int) by omega,wrap_i64 (by omega) (by omega)]
  have s1:aC prog .sub 3 (.int .i64 56) (ak (8*j))=some (ak (56-8*j)):=by unfold ak;rw [fi,show (56:Int)-((8*j:Nat):Int)=((56-8*j:Nat):Int) by omega,wrap_i64 (by omega) (by omega)]
  have r1:aC prog .shr 32 (.int .u64 (v:Int)) (ak (56-8*j))=some (.int .u64 ((v/2^(56-8*j):Nat):Int)):=ez prog 32 (by show 56-8*j<=64;omega);have c1:jC .u8 (.int .u64 ((v/2^(56-8*j):Nat):Int)) g=some (u8 (v/2^(56-8*j)%256),g):=by rw [du,fZ];rfl
  have ix:idxA 72 1 (ptr b 0) (ak (N+j))=some (ptr b (N+j)):=by rw [mA (by omega),DG]
  obtain ⟨g2,e2,k2,t2,_,n2⟩:=stored (o:=N+j) (v:=u8 (v/2^(56-8*j)%256)) gw (by rw [K.n0];exact hb) (by rw [DS,th];omega) rfl rfl;simp -implicitDefEqProofs only [DA hj, y4, y5, y6, a1, m1, s1, r1, c1, ix, e2, dh (show j+1<=9223372036854775807 by omega), ae, af];refine cR.next (k-1) (by omega) ⟨j+1,by omega,y2,y3,y4,y5,y6,rfl,K.trans k2,?_,n2.trans gn⟩;rw [t2,rR];show some ((List.map u8 (rR N v j)).set (N+j) (u8 (v/2^(56-8*j)%256)))=some (List.map u8 ((rR N v j).set (N+j) (v/2^(56-8*j)%256)));rw [I4]
 ·have:j=8:=by omega
  subst this;simp -implicitDefEqProofs only [DB hj];exact cR.out 0 ⟨rfl,y2,y3,y4,y5,K,gw,gn⟩
theorem sum2 {h:ad} {b p:Nat} {S:List (BitVec 32)} {B:List Nat} {n:Nat} (hS:S.length=8) (hp:h.get p=some (dP S B n)) (hpb:p≠b) (hb:h.n0<=b) (hw:h.get b=some (aY (mI S 0))) {p2:Value}
  {x:Nat->Value} (x2:x 2=p2) (x3:x 3=ptr p 0) (x8:x 8=ptr b 0) (x48:x 48=ak 0) :
  Fin 66 (fun ex y g=>ex = .exit 2/\y 2=p2/\y 8=ptr b 0/\az h g (· = b)/\g.get b=some (aY (mI S 32))/\g.next=h.next) (iter (codeA prog CW (au f97 [1,1,1,1,1,1,1,1,1,1,0,1,0,0])) aB (aL 66 x) h):=by
 refine bk (kZ CW) (Inv:=fun k y g => ∃ j,j+k=32/\y 2=p2/\y 3=ptr p 0/\y 8=ptr b 0/\y 48=ak j/\az h g (· = b)/\g.get b=some (aY (mI S j))/\g.next=h.next) ?_ 32 (by have:aB=18446744073709551616:=rfl;omega) ⟨0,DG _,x2,x3,x8,x48,az.refl _ _,hw,rfl⟩;rintro k y g ⟨j,hjk,y2,y3,y8,y48,K,gw,gn⟩;unfold fe;have l32:aC prog .lss 3 (ak j) (.int .i64 32)=some (.bool (decide (j<32))):=eK j 32;simp -implicitDefEqProofs only [y48,l32,ae,af];by_cases hj:j<32
 ·have q1:aC prog .quo 3 (ak j) (.int .i64 4)=some (ak (j/4)):=by unfold ak;rw [Dd prog 3 .i64 _ 4 (by decide),show Int.tdiv (j:Int) 4=((j/4:Nat):Int) from rfl,wrap_i64 (by omega) (by omega)]
  have r1:aC prog .rem 3 (ak j) (.int .i64 4)=some (ak (j%4)):=by unfold ak;rw [tq prog 3 .i64 _ 4 (by decide)];rfl
  have m1:aC prog .mul 3 (.int .i64 8) (ak (j%4))=some (ak (8*(j%4))):=by unfold ak;rw [iC,show (8:Int)*((j%4:Nat):Int)=((8*(j%4):Nat):Int) by omega,wrap_i64 (by omega) (by omega)]
  have s1:aC prog .sub 3 (.int .i64 24) (ak (8*(j%4)))=some (ak (24-8*(j%4))):=by unfold ak;rw [fi,show (24:Int)-((8*(j%4):Nat):Int)=((24-8*(j%4):Nat):Int) by omega,wrap_i64 (by omega) (by omega)]
  have gp:g.get p=some (dP S B n):=az.getE K hp hpb;have lp:ld1 (ptr p (j/4)) g=some (wv (S.getD (j/4) 0),g):=aU gp (vD (by omega)) rfl;have ixp:idxA 8 1 (ptr p 0) (ak (j/4))=some (ptr p (j/4)):=by rw [mA (by omega),DG]
  have ixb:idxA 32 1 (ptr b 0) (ak j)=some (ptr b j):=by rw [mA hj,DG]
  have sh:aC prog .shr 139 (wv (S.getD (j/4) 0)) (ak (24-8*(j%4)))=some (.int .u32 (((S.getD (j/4) 0).toNat/2^(24-8*(j%4)):Nat):Int)):=ez prog 139 (by show 24-8*(j%4)<=32;omega);have c1:jC .u8 (.int .u32 (((S.getD (j/4) 0).toNat/2^(24-8*(j%4)):Nat):Int)) g=some (u8 ((S.getD (j/4) 0).toNat/2^(24-8*(j%4))%256),g):=by rw [du,fZ];rfl
  obtain ⟨g2,e2,k2,t2,_,n2⟩:=stored (o:=j) (v:=u8 ((S.getD (j/4) 0).toNat/2^(24-8*(j%4))%256)) gw (by rw [K.n0];exact hb) (by rw [DS,pb];omega) rfl rfl;simp -implicitDefEqProofs only [DA hj, y3, y8, q1, r1, m1, s1, ay, DG, ixp, lp, sh, c1, ixb, e2, dh (show j+1<=9223372036854775807 by omega), ae, af];refine cR.next (k-1) (by omega) ⟨j+1,by omega,y2,y3,y8,rfl,K.trans k2,?_,n2.trans gn⟩;rw [t2,mI];show some ((List.map u8 (mI S j)).set j (u8 ((S.getD (j/4) 0).toNat/2^(24-8*(j%4))%256)))=some (List.map u8 ((mI S j).set j ((S.getD (j/4) 0).toNat/2^(24-8*(j%4))%256)));rw [I4]
 ·have:j=32:=by omega
  subst this;simp -implicitDefEqProofs only [DB hj];exact cR.out 2 ⟨rfl,y2,y8,K,gw,gn⟩
abbrev zHash:List Value:=zlit4
theorem is123:bP prog 97 f97:=by constructor<;>kernel_rfl
theorem is121:bP prog 95 f95:=by constructor<;>kernel_rfl
theorem results123:f97.results.toList = [.cell 2 36]:=by kernel_rfl
set_option maxRecDepth 100000 in
theorem r123 {h:ad} (hG:4<=h.n0) (hz:h.get 3=some bX) {p:Nat} {s:HD} (o:s.Ok) (hp:h.get p=some s.cells) (hn:s.n<=100000) :
  ∃ h',CW 97 [ptr p 0] h=some (.agg (aY s.sum).toArray,h')/\aA h h':=by
 have hplt:=h.aO hp;have clen:s.cells.length=73:=by show (dP s.S s.B s.n).length=73;rw [hash_len,o.S,o.B]
 have hok:=hash_ok s;obtain ⟨h1,z1,o1,g1,n1⟩:=fresh (List.replicate 32 (.int .u8 0)) h;have L1:=bc (n:=73) (aA.get o1 hp) clen hok.1;obtain ⟨h2,z2,o2,g2,n2⟩:=fresh zHash h1;obtain ⟨h3,e3,k3,g3,_,n3⟩:=aX (n:=73) (k':=s.cells) g2 (by rw [o2.n0];exact h1.n0_le_next) rfl clen hok.2;have o3:aA h1 h3:=aA.bx o2 k3 (DF _);obtain ⟨h4,z4,o4,g4,n4⟩:=fresh (List.replicate 72 (.int .u8 0)) h3;have hp4:h4.n0<=h3.next:=by rw [o4.n0];exact h3.n0_le_next
 have ix0:idxA 72 1 (ptr h3.next 0) (.int .i64 0)=some (ptr h3.next 0):=by have:=mA (N:=72) (b:=h3.next) (o:=0) (i:=0) (by decide);exact this
 obtain ⟨h5,e5,k5,g5,_,n5⟩:=stored (o:=0) (v := .int .u8 128) g4 hp4 (by decide) rfl rfl;have o5:aA h3 h5:=aA.bx o4 k5 (DF _);have O5:aA h h5:=(o1.trans o3).trans o5;have l72:ld1 (ptr p 72) h5=some (ak s.n,h5):=aU (aA.get O5 hp) (by show (dP s.S s.B s.n)[72]? = _;unfold dP;rw [EG (by simp [o.S]),EG (by simp [o.S,o.B])];simp [o.S,o.B]) rfl
 have a8:aC prog .add 3 (ak s.n) (.int .i64 8)=some (ak (s.n+8)):=by unfold ak;rw [lN,show (s.n:Int)+8=((s.n+8:Nat):Int) by omega,wrap_i64 (by omega) (by omega)]
 have rm:aC prog .rem 3 (ak (s.n+8)) (.int .i64 64)=some (ak ((s.n+8)%64)):=by unfold ak;rw [tq prog 3 .i64 _ 64 (by decide)];rfl
 have hm:(s.n+8)%64<64:=GV _ (by decide);have sb:aC prog .sub 3 (.int .i64 64) (ak ((s.n+8)%64))=some (ak (64-(s.n+8)%64)):=by unfold ak;rw [fi,show (64:Int)-(((s.n+8)%64:Nat):Int)=((64-(s.n+8)%64:Nat):Int) by omega,wrap_i64 (by omega) (by omega)]
 have cu:jC .u64 (ak s.n) h5=some (.int .u64 (s.n:Int),h5):=by unfold ak;rw [du,wrap_u64 (by omega) (by omega)]
 have ml:aC prog .mul 32 (.int .u64 (s.n:Int)) (.int .u64 8)=some (.int .u64 ((s.n*8:Nat):Int)):=by rw [iC,show (s.n:Int)*8=((s.n*8:Nat):Int) by omega,wrap_u64 (by omega) (by omega)]
 have hpad:gH s.n=(rR (64-(s.n+8)%64) (s.n*8) 8).take (64-(s.n+8)%64+8):=rfl;have hplen:(gH s.n).length=64-(s.n+8)%64+8:=by rw [hpad,DW,th];omega
 have hsum:s.sum=mI (s.wr (gH s.n)).S 32:=rfl;generalize hNN:64-(s.n+8)%64=N at *;have hN:N<=64:=by omega
 have hp5:h5.n0<=h3.next:=by rw [k5.n0];exact hp4
 have key : ∃ o:aS,t123 CW (ptr p 0) h=o /\ ∃ h',o=some (.agg (aY s.sum).toArray,h')/\aA h h':=by
  refine ⟨_,rfl,?_⟩;unfold t123;simp -implicitDefEqProofs only [z1,eql158,bR,L1,z2,e3,z4,ix0,e5,ay,DG,l72,a8,rm,sb,cu,ml,ae,af];refine bq (Q:=fun o:aS => ∃ h',o=some (.agg (aY s.sum).toArray,h')/\aA h h') (sum1 (N:=N) (v:=s.n*8) hN (by omega) hp5 g5 (p2:=ptr h.next 0) (p3:=ptr h1.next 0) rfl rfl rfl rfl rfl rfl) ?_;rintro _ y g6 ⟨rfl,y2,y3,y4,y5,K6,G6,N6⟩;simp -implicitDefEqProofs only [aV,b123_11,DY,AR];unfold rJ;have O6:aA h3 g6:=o5.also K6 (fun d hd e=>by omega);have OO6:aA h g6:=(o1.trans o3).trans O6;have b8:aC prog .add 3 (ak N) (.int .i64 8)=some (ak (N+8)):=addc (c:=8) (by omega);have sa:sliceArr 72 1 (ptr h3.next 0) none (some (ak (N+8))) none=some (.slice (some ⟨h3.next,0,none⟩) (N+8) 72):=by
   have b1:boundA 72 72 (some (ak (N+8)))=some (N+8):=by unfold boundA ak;simp only;rw [DL (by omega),Int.toNat_natCast]
   unfold sliceArr;have b2:boundA 72 72 (none:Option Value)=some 72:=rfl;have b3:boundA 0 (N+8) (none:Option Value)=some 0:=rfl;simp only [boundsA,b1,b2,b3];show some (Value.slice (some ⟨h3.next,if 72=0 then 0 else 0+0*1,none⟩) (N+8-0) (72-0))=_;rw [DM (by decide)];rfl
  have sl:=cG (off:=0) (n:=N+8) (s:=none) G6 (by rw [th];omega) (padT_bys _ _ _);rw [EJ,<-hpad] at sl;have hg6:4<=g6.n0:=by rw [OO6.n0];exact hG
  have G3:g6.get h1.next=some s.cells:=aA.get O6 g3;obtain ⟨h7,e7,k7,g7,w7,m7⟩:=r122 (h:=g6) hg6 (aA.get OO6 hz) (p:=h1.next) (s:=s) o G3 (by rw [OO6.n0];have:=h.n0_le_next;omega) (c:=72) sl (fun _=>by unfold hI;rw [HR (show N+8<=72 by omega)];rfl) (fun y hy _ e=>by cases hy;have:h3.next=h1.next:=e;omega) (by omega)
  obtain ⟨h8,z8,o8,g8,n8⟩:=fresh (List.replicate 32 (.int .u8 0)) h7;have m6:=O6.next;have q7:=k7.next;simp -implicitDefEqProofs only [y5,b8,y4,sa,y3,e7,z8,ae,af];refine bq (Q:=fun o:aS => ∃ h',o=some (.agg (aY s.sum).toArray,h')/\aA h h') (sum2 (p:=h1.next) (b:=h7.next) w7.S (aA.get o8 g7) (by have:=h7.aO g7;omega) (by rw [o8.n0];exact h7.n0_le_next) g8 (p2:=ptr h.next 0) y2 y3 rfl rfl) ?_;rintro _ y' g9 ⟨rfl,y2',y8',K9,G9,N9⟩;simp -implicitDefEqProofs only [aV,b123_16,DY,zQ];unfold pV;have dc:=bm (xv s);rw [<-hsum] at G9;have L9:=bc G9 dc.1 dc.2.1;have O7:aA h h7:=aA.bx OO6 k7 (by omega);have O9:aA h g9:=(O7.trans o8).also K9 (fun d hd e=>by have:=O7.next;omega);have g1':g9.get h.next=some (List.replicate 32 (.int .u8 0)):=by have e1:h3.get h.next=some (List.replicate 32 (.int .u8 0)):=aA.get o3 g1;have e6:g6.get h.next=some (List.replicate 32 (.int .u8 0)):=aA.get O6 e1;have e7':h7.get h.next=some (List.replicate 32 (.int .u8 0)):=az.getE k7 e6 (by omega);exact az.getE K9 (aA.get o8 e7') (by omega)
  obtain ⟨h10,e10,k10,g10,_,_⟩:=aX (n:=32) (k':=aY s.sum) g1' (by rw [O9.n0];exact h.n0_le_next) rfl dc.1 dc.2.2;have L10:=bc g10 dc.1 dc.2.1;simp -implicitDefEqProofs only [y8',L9,y2',e10,ae];refine ⟨h10,?_,aA.bx O9 k10 (DF _)⟩;exact cX results123 lU fY (show 2<66 by decide) _ (by show cx 32 (y' 2) h10=_;rw [y2'];exact L10)
 obtain ⟨o1,e,h',e',r⟩:=key;exact ⟨h',aD is123 hG rfl ((t123_eq _ _ _).trans (e.trans e')),r⟩
def H0:List (BitVec 32) := [1779033703,3144134277,1013904242,2773480762,1359893119,2600822924,528734635,1541459225].map (BitVec.ofNat 32)
def zX:HD:=⟨H0,List.replicate 64 0,0⟩
theorem HD0_ok:zX.Ok:=⟨rfl,rfl,fun x hx=>by have:=F6 (show x∈List.replicate 64 0 from hx);omega⟩
theorem bldH:ei (List.replicate 8 (.int .u32 0)) [(0,1,.int .u32 1779033703),(1,1,.int .u32 3144134277),(2,1,.int .u32 1013904242),(3,1,.int .u32 2773480762),(4,1,.int .u32 1359893119),(5,1,.int .u32 2600822924),(6,1,.int .u32 528734635),(7,1,.int .u32 1541459225)]=some (.agg (eV H0).toArray):=by kernel_rfl
theorem bldH2:ei zHash [(0,8,.agg (eV H0).toArray)]=some (.agg zX.cells.toArray):=by kernel_rfl
theorem r121 {h:ad} (hG:4<=h.n0) : ∃ h',CW 95 [] h=some (ptr h.next 0,h')/\aA h h'/\h'.get h.next=some zX.cells/\h'.next=h.next+1:=by have b:=dG h zX.cells (hash_ok zX).2;refine ⟨h.alloc zX.cells,aD is121 hG rfl ((t121_eq _ _).trans ?_),az.alloc _ _ _,by rw [ad.aF,DL rfl],ad.cq ..⟩;unfold t121;simp -implicitDefEqProofs only [bldH,bldH2,b,ae,af]
theorem is69:bP prog 74 f74:=by constructor<;>kernel_rfl
theorem is70:bP prog 75 f75:=by constructor<;>kernel_rfl
theorem results69:f74.results.toList = [.cell 2 36]:=by kernel_rfl
theorem results70:f75.results.toList = [.cell 4 36]:=by kernel_rfl
def pK (r:ao):List Nat:=((zX.wr [0]).wr (jI r)).sum
def dg (a b:List Nat):List Nat:=(((zX.wr [1]).wr a).wr b).sum
theorem pT (r:ao):ic (pK r):=xv _
theorem kM (a b:List Nat):ic (dg a b):=xv _
set_option maxRecDepth 100000 in
theorem r69 {h:ad} (hG:4<=h.n0) (hz:h.get 3=some bX) {r:ao} (w:r.Wf) (v:de r=true) : ∃ h',CW 74 [.agg (bL r).toArray] h=some (.agg (aY (pK r)).toArray,h')/\aA h h':=by
 obtain ⟨h1,b1,o1,g1,n1⟩:=cJ h w;obtain ⟨h2,z2,o2,g2,n2⟩:=fresh (List.replicate 32 (.int .u8 0)) h1;have L2:=bc (o2.get g1) (aM w).1 (aM w).2.1;have O2:=o1.trans o2;obtain ⟨a,c,h3,e3,s3,o3,ha,gd⟩:=r43 (h:=h2) (by rw [O2.n0];exact hG) w v;have O3:=O2.trans o3;obtain ⟨h4,e4,o4,g4,n4⟩:=r121 (h:=h3) (by rw [O3.n0];exact hG);have O4:=O3.trans o4;have b5:cg 1 (.int .u8 0) 1 [(0,.int .u8 0)] h4=some (.slice (some ⟨h4.next,0,none⟩) 1 1,h4.alloc [u8 0]):=r9 h4 0;have o5:aA h4 (h4.alloc [u8 0]):=az.alloc _ _ _;have s5:=jD h4 (x:=0) (by decide);have O5:=O4.trans o5;obtain ⟨h6,e6,k6,g6,w6,m6⟩:=r122 (h:=h4.alloc [u8 0]) (by rw [O5.n0];exact hG) (aA.get O5 hz) (p:=h3.next) HD0_ok (aA.get o5 g4) (by rw [O5.n0];have:=h.n0_le_next;have:=O3.next;omega) (c:=1) s5 (fun _=>rfl) (fun y hy _ e=>by cases hy;have:h4.next=h3.next:=e;omega) (by show 0+1<=1000000;omega);have O6:aA h h6:=aA.bx O5 k6 (by have:=O3.next;omega);have s6:av a 53 h6=some (jI r):=k6.bytes (aA.bytes (o4.trans o5) s3) (fun y hy _ e=>by
  have q:=ha y hy;have:y.block<h3.next:=by obtain ⟨b',off',s',k',hx,hk',_⟩:=(aK s3).2.2 (by decide);rw [hy] at hx;cases hx;exact h3.aO hk'
  omega)
 obtain ⟨h7,e7,k7,g7,w7,m7⟩:=r122 (h:=h6) (by rw [O6.n0];exact hG) (aA.get O6 hz) (p:=h3.next) w6 g6 (by rw [O6.n0];have:=h.n0_le_next;have:=O3.next;omega) (c:=c) s6 (fun _=>gd) (fun y hy _ e=>by
  have q:=ha y hy;have:y.block<h3.next:=by obtain ⟨b',off',s',k',hx,hk',_⟩:=(aK s3).2.2 (by decide);rw [hy] at hx;cases hx;exact h3.aO hk'
  omega) (by rw [m6];show 0+1+53<=1000000;omega)
 have O7:aA h h7:=aA.bx O6 k7 (by have:=O3.next;omega);obtain ⟨h8,e8,o8⟩:=r123 (h:=h7) (by rw [O7.n0];exact hG) (aA.get O7 hz) (p:=h3.next) w7 g7 (by rw [m7,m6];show 0+1+53<=100000;omega);have O8:=O7.trans o8;have e8:CW 97 [ptr h3.next 0] h7=some (.agg (aY (pK r)).toArray,h8):=e8;have dc:=bm (pT r);have hne : ¬h1.next=h3.next:=by have:=o3.next;omega
 have q2:h8.get h1.next=some (List.replicate 32 (.int .u8 0)):=aA.get o8 (az.getE k7 (az.getE k6 (aA.get (o4.trans o5) (o3.get g2)) hne) hne);obtain ⟨h9,e9,k9,g9,_,_⟩:=aX (n:=32) (k':=aY (pK r)) q2 (by rw [O8.n0];have:=h.n0_le_next;have:=o1.next;omega) rfl dc.1 dc.2.2;have L9:=bc g9 dc.1 dc.2.1;refine ⟨h9,aD is69 hG rfl ((t69_eq _ _ _).trans ?_),aA.bx O8 k9 (by have:=o1.next;omega)⟩;unfold t69;simp -implicitDefEqProofs only [b1,z2,L2,e3,ext0,ext1,e4,b5,e6,e7,e8,e9,ae,af];exact cX results69 lU fY (show 2<20 by decide) _ L9
set_option maxRecDepth 100000 in
theorem r70 {h:ad} (hG:4<=h.n0) (hz:h.get 3=some bX) {a b:List Nat} (wa:ic a) (wb:ic b) : ∃ h',CW 75 [.agg (aY a).toArray,.agg (aY b).toArray] h=some (.agg (aY (dg a b)).toArray,h')/\aA h h':=by
 have ca:=bm wa;have cb:=bm wb;have b1:=dG h _ ca.2.2;have o1:aA h (h.alloc (aY a)):=az.alloc _ _ _;have g1:(h.alloc (aY a)).get h.next=some (aY a):=by rw [ad.aF,DL rfl]
 have n1:(h.alloc (aY a)).next=h.next+1:=ad.cq ..;generalize h.alloc (aY a)=h1 at *;have b2:=dG h1 _ cb.2.2;have o2:aA h1 (h1.alloc (aY b)):=az.alloc _ _ _;have g2:(h1.alloc (aY b)).get h1.next=some (aY b):=by rw [ad.aF,DL rfl]
 have n2:(h1.alloc (aY b)).next=h1.next+1:=ad.cq ..;generalize h1.alloc (aY b)=h2 at *;obtain ⟨h3,z3,o3,g3,n3⟩:=fresh (List.replicate 32 (.int .u8 0)) h2;have O3:=(o1.trans o2).trans o3;obtain ⟨h4,e4,o4,g4,n4⟩:=r121 (h:=h3) (by rw [O3.n0];exact hG);have O4:=O3.trans o4;have b5:cg 1 (.int .u8 0) 1 [(0,.int .u8 1)] h4=some (.slice (some ⟨h4.next,0,none⟩) 1 1,h4.alloc [u8 1]):=r9 h4 1;have o5:aA h4 (h4.alloc [u8 1]):=az.alloc _ _ _;have s5:=jD h4 (x:=1) (by decide);have O5:=O4.trans o5;have hpl:h.n0<=h3.next:=by have:=h.n0_le_next;have:=O3.next;omega
 obtain ⟨h6,e6,k6,g6,w6,m6⟩:=r122 (h:=h4.alloc [u8 1]) (by rw [O5.n0];exact hG) (aA.get O5 hz) (p:=h3.next) HD0_ok (aA.get o5 g4) (by rw [O5.n0];exact hpl) (c:=1) s5 (fun _=>rfl) (fun y hy _ e=>by cases hy;have:h4.next=h3.next:=e;omega) (by show 0+1<=1000000;omega);have O6:aA h h6:=aA.bx O5 k6 (by have:=O3.next;omega);have q1:h6.get h.next=some (aY a):=az.getE k6 (aA.get (((o2.trans o3).trans o4).trans o5) g1) (by omega);have q2:h6.get h1.next=some (aY b):=az.getE k6 (aA.get ((o3.trans o4).trans o5) g2) (by omega);have t1:=cG (off:=0) (n:=32) (s:=none) q1 (by rw [wa.1];decide) wa.2;rw [EJ,D1 (by rw [wa.1];decide)] at t1;obtain ⟨h7,e7,k7,g7,w7,m7⟩:=r122 (h:=h6) (by rw [O6.n0];exact hG) (aA.get O6 hz) (p:=h3.next) w6 g6 (by rw [O6.n0];exact hpl) (c:=32) t1 (fun _=>rfl) (fun y hy _ e=>by cases hy;have:h.next=h3.next:=e;omega) (by rw [m6];show 0+1+32<=1000000;omega);have O7:aA h h7:=aA.bx O6 k7 (by have:=O3.next;omega);have t2:=cG (off:=0) (n:=32) (s:=none) (az.getE k7 q2 (by omega)) (by rw [wb.1];decide) wb.2;rw [EJ,D1 (by rw [wb.1];decide)] at t2;obtain ⟨h8,e8,k8,g8,w8,m8⟩:=r122 (h:=h7) (by rw [O7.n0];exact hG) (aA.get O7 hz) (p:=h3.next) w7 g7 (by rw [O7.n0];exact hpl) (c:=32) t2 (fun _=>rfl) (fun y hy _ e=>by cases hy;have:h1.next=h3.next:=e;omega) (by rw [m7,m6];show 0+1+32+32<=1000000;omega);have O8:aA h h8:=aA.bx O7 k8 (by have:=O3.next;omega);obtain ⟨h9,e9,o9⟩:=r123 (h:=h8) (by rw [O8.n0];exact hG) (aA.get O8 hz) (p:=h3.next) w8 g8 (by rw [m8,m7,m6];show 0+1+32+32<=100000;omega);have O9:=O8.trans o9;have e9:CW 97 [ptr h3.next 0] h8=some (.agg (aY (dg a b)).toArray,h9):=e9;have dc:=bm (kM a b);have hne : ¬h2.next=h3.next:=by omega
 have q3:h9.get h2.next=some (List.replicate 32 (.int .u8 0)):=aA.get o9 (az.getE k8 (az.getE k7 (az.getE k6 (aA.get (o4.trans o5) g3) hne) hne) hne);obtain ⟨h10,e10,k10,g10,_,_⟩:=aX (n:=32) (k':=aY (dg a b)) q3 (by rw [O9.n0];have:=h.n0_le_next;omega) rfl dc.1 dc.2.2;have L10:=bc g10 dc.1 dc.2.1;refine ⟨h10,aD is70 hG rfl ((t70_eq _ _ _ _).trans ?_),aA.bx O9 k10 (by omega)⟩;unfold t70;simp -implicitDefEqProofs only [b1,b2,z3,e4,b5,e6,ym,e7,e8,e9,e10,ae,af];exact cX results70 lU fY (show 4<18 by decide) _ L10
theorem is161:bP prog 122 f122:=by constructor<;>kernel_rfl
theorem Ac {h:ad} (hG:4<=h.n0) (x:BitVec 32) {k:Nat} (hk:k<=32):CW 122 [wv x,.int .u64 (k:Int)] h=some (wv (dR x k),h):=by
 refine aD is161 hG rfl ((t161_eq _ _ _ _).trans ?_);unfold t161;have e2:aC prog .sub 120 (.int .u64 32) (.int .u64 (k:Int))=some (.int .u64 ((32-k:Nat):Int)):=by rw [fi,show (32:Int)-(k:Int)=((32-k:Nat):Int) by omega,wrap_u64 (by omega) (by omega)]
 simp -implicitDefEqProofs only [e2,vN x (show 32-k<=32 by omega),BF x hk,w_or,ae,af];unfold dR;rw [BitVec.or_comm]
def gW (B:List Nat):Nat->List (BitVec 32)
 | 0 => []
 |i+1=>gW B i ++ [if i<16 then wAt B i else po (gW B i)]
theorem schW_len (B:List Nat) : ∀ i,(gW B i).length=i
 | 0=>rfl
 |i+1=>by rw [gW,DH,schW_len B i];rfl
theorem schW_16 (B:List Nat) : ∀ i,i<=16->gW B i=(List.range i).map (wAt B)
 | 0,_=>rfl
 |i+1,h=>by rw [gW,schW_16 B i (by omega),DL (by omega),H8,FG];rfl
theorem schW_ext (B:List Nat) : ∀ i,gW B (16+i)=jJ i (vm B)
 | 0=>schW_16 B 16 (by decide)
 |i+1=>by rw [show 16+(i+1)=(16+i)+1 from rfl,gW,DM (by omega),schW_ext B i,uV]
theorem schW_64 (B:List Nat):gW B 64=jJ 48 (vm B):=schW_ext B 48
theorem chkW (x:BitVec 32) (h:ad):bF true (some (wv x,h)) (wv x)=true:=ze .u32 _ _
set_option maxRecDepth 100000 in
theorem rnd1 {h:ad} (hG:4<=h.n0) {b:Nat} {B:List Nat} (hBl:B.length=64) {a:Option Addr} {c:Nat} (hB:av a 64 h=some B) (ha : ∀ y,a=some y -> ¬y.block=b) (hb:h.n0<=b) (hw:h.get b=some (oH []))
  {p3 p4 p6:Value} {x:Nat->Value} (x2:x 2 = .slice a 64 c) (x3:x 3=p3) (x4:x 4=p4) (x6:x 6=p6) (x7:x 7=ptr b 0) (x8:x 8=ak 0) :
  Fin 206 (fun ex y g=>ex = .exit 0/\y 3=p3/\y 4=p4/\y 6=p6/\y 7=ptr b 0/\az h g (· = b)/\g.get b=some (oH (jJ 48 (vm B)))/\g.next=h.next) (iter (codeA prog CW (au f113 [1,1,0,1,0,0])) aB (aL 206 x) h):=by
 have hby:w9 B:=(aK hB).2.1;refine bk (ug CW) (Inv:=fun k y g => ∃ i,i+k=64/\y 2 = .slice a 64 c/\y 3=p3/\y 4=p4/\y 6=p6/\y 7=ptr b 0/\y 8=ak i/\az h g (· = b)/\g.get b=some (oH (gW B i))/\g.next=h.next) ?_ 64 (by have:aB=18446744073709551616:=rfl;omega) ⟨0,DG _,x2,x3,x4,x6,x7,x8,az.refl _ _,hw,rfl⟩;rintro k y g ⟨i,hik,y2,y3,y4,y6,y7,y8,K,gw,gn⟩;unfold jY;have l64:aC prog .lss 3 (ak i) (.int .i64 64)=some (.bool (decide (i<64))):=eK i 64;have l16:aC prog .lss 3 (ak i) (.int .i64 16)=some (.bool (decide (i<16))):=eK i 16;simp -implicitDefEqProofs only [y8,l64,ae,af];by_cases hi:i<64
 ·simp -implicitDefEqProofs only [DA hi,l16,ae,af];have len:=schW_len B i;have ix : ∀ j,j<64->idxA 64 1 (ptr b 0) (ak j)=some (ptr b j):=fun j hj=>by rw [mA hj,DG]
  have hg:4<=g.n0:=by rw [K.n0];exact hG
  by_cases h16:i<16
  ·have sl:av a 64 g=some B:=K.bytes hB (fun y hy _=>ha y hy);obtain ⟨_,q0,_,i0,d0⟩:=xF (c:=c) (i:=4*i) sl (by omega);obtain ⟨_,q1,_,i1,d1⟩:=xF (c:=c) (i:=4*i+1) sl (by omega);obtain ⟨_,q2,_,i2,d2⟩:=xF (c:=c) (i:=4*i+2) sl (by omega);obtain ⟨_,q3,_,i3,d3⟩:=xF (c:=c) (i:=4*i+3) sl (by omega);have c0:=px _ (jw hby (j:=4*i) (by omega)) g;have c1:=px _ (jw hby (j:=4*i+1) (by omega)) g;have c2:=px _ (jw hby (j:=4*i+2) (by omega)) g;have c3:=px _ (jw hby (j:=4*i+3) (by omega)) g;have a1:aC prog .add 3 (ak (4*i)) (.int .i64 1)=some (ak (4*i+1)):=addc (c:=1) (by omega);have a2:aC prog .add 3 (ak (4*i)) (.int .i64 2)=some (ak (4*i+2)):=addc (c:=2) (by omega);have a3:aC prog .add 3 (ak (4*i)) (.int .i64 3)=some (ak (4*i+3)):=addc (c:=3) (by omega);have sh24 : ∀ x:BitVec 32,aC prog .shl 139 (wv x) (.int .u64 24)=some (wv (x <<< 24)):=fun x=>vN x (k:=24) (by decide);have sh16 : ∀ x:BitVec 32,aC prog .shl 139 (wv x) (.int .u64 16)=some (wv (x <<< 16)):=fun x=>vN x (k:=16) (by decide);have sh8 : ∀ x:BitVec 32,aC prog .shl 139 (wv x) (.int .u64 8)=some (wv (x <<< 8)):=fun x=>vN x (k:=8) (by decide);obtain ⟨g2,e2,k2,s2,_,m2⟩:=stored (o:=i) (v:=wv (wAt B i)) gw (by rw [K.n0];exact hb) (by rw [tB (by omega)];omega) rfl rfl;have hw4:wv (BitVec.ofNat 32 (B.getD (4*i) 0) <<< 24 ||| BitVec.ofNat 32 (B.getD (4*i+1) 0) <<< 16 ||| BitVec.ofNat 32 (B.getD (4*i+2) 0) <<< 8 ||| BitVec.ofNat 32 (B.getD (4*i+3) 0))=wv (wAt B i):=rfl;simp -implicitDefEqProofs only [DA h16, y2, y7, mul4 (show i<1000 by omega), i0, i1, i2, i3, d0, d1, d2, d3, c0, c1, c2, c3, a1, a2, a3, sh24, sh16, sh8, w_or, hw4, ix i hi, e2, dh (show i+1<=9223372036854775807 by omega), ae, af];refine cR.next (k-1) (by omega) ⟨i+1,by omega,y2,y3,y4,y6,y7,rfl,K.trans k2,?_,m2.trans gn⟩;rw [s2,tb len hi,gW,DL h16]
  ·have s15:aC prog .sub 3 (ak i) (.int .i64 15)=some (ak (i-15)):=subc (c:=15) (by omega) (by omega);have s2:aC prog .sub 3 (ak i) (.int .i64 2)=some (ak (i-2)):=subc (c:=2) (by omega) (by omega);have s16:aC prog .sub 3 (ak i) (.int .i64 16)=some (ak (i-16)):=subc (c:=16) (by omega) (by omega);have s7:aC prog .sub 3 (ak i) (.int .i64 7)=some (ak (i-7)):=subc (c:=7) (by omega) (by omega);have lw : ∀ j,j<i->ld1 (ptr b j) g=some (wv ((gW B i).getD j 0),g):=fun j hj=>aU gw (xu (by omega)) rfl;have lX:=lw (i-15) (by omega);have lY:=lw (i-2) (by omega);have rt7:CW 122 [wv ((gW B i).getD (i-15) 0),.int .u64 7] g=some (wv (dR ((gW B i).getD (i-15) 0) 7),g):=Ac hg _ (k:=7) (by decide);have rt18:CW 122 [wv ((gW B i).getD (i-15) 0),.int .u64 18] g=some (wv (dR ((gW B i).getD (i-15) 0) 18),g):=Ac hg _ (k:=18) (by decide);have rt17:CW 122 [wv ((gW B i).getD (i-2) 0),.int .u64 17] g=some (wv (dR ((gW B i).getD (i-2) 0) 17),g):=Ac hg _ (k:=17) (by decide);have rt19:CW 122 [wv ((gW B i).getD (i-2) 0),.int .u64 19] g=some (wv (dR ((gW B i).getD (i-2) 0) 19),g):=Ac hg _ (k:=19) (by decide);have sh3 : ∀ x:BitVec 32,aC prog .shr 139 (wv x) (.int .u64 3)=some (wv (x >>> 3)):=fun x=>BF x (k:=3) (by decide);have sh10 : ∀ x:BitVec 32,aC prog .shr 139 (wv x) (.int .u64 10)=some (wv (x >>> 10)):=fun x=>BF x (k:=10) (by decide);have hN:wv ((dR ((gW B i).getD (i-2) 0) 17 ^^^ dR ((gW B i).getD (i-2) 0) 19 ^^^ (gW B i).getD (i-2) 0 >>> 10)+(gW B i).getD (i-7) 0+(dR ((gW B i).getD (i-15) 0) 7 ^^^ dR ((gW B i).getD (i-15) 0) 18 ^^^ (gW B i).getD (i-15) 0 >>> 3)+(gW B i).getD (i-16) 0)=wv (po (gW B i)):=by
    unfold po s0w s1w;rw [len]
    congr 1
    ac_rfl
   obtain ⟨g2,e2,k2,t2,_,m2⟩:=stored (o:=i) (v:=wv (po (gW B i))) gw (by rw [K.n0];exact hb) (by rw [tB (by omega)];omega) rfl rfl;simp -implicitDefEqProofs only [DB h16, y7, s15, s2, s16, s7, ix (i-15) (by omega), ix (i-2) (by omega), ix (i-16) (by omega), ix (i-7) (by omega), ix i hi, lX, lY, lw (i-16) (by omega), lw (i-7) (by omega), rt7, rt18, rt17, rt19, w_xor, sh3, sh10, By, hN, e2, chkW, FD, dh (show i+1<=9223372036854775807 by omega), ae, af];refine cR.next (k-1) (by omega) ⟨i+1,by omega,y2,y3,y4,y6,y7,rfl,K.trans k2,?_,m2.trans gn⟩;rw [t2,tb len hi,gW,DM h16]
 ·have:i=64:=by omega
  subst this;simp -implicitDefEqProofs only [DB hi];rw [schW_64] at gw;exact cR.out 0 ⟨rfl,y3,y4,y6,y7,K,gw,gn⟩
theorem ch_eq (e f g:BitVec 32):(e &&& f) ^^^ (~~~e &&& g)=g ^^^ (e &&& (f ^^^ g)):=by apply BitVec.eq_of_getLsbD_eq;intro i hi;simp only [BitVec.getLsbD_xor,BitVec.getLsbD_and,BitVec.getLsbD_not,hi,decide_true,EE];cases e.getLsbD i<;>cases f.getLsbD i<;>cases g.getLsbD i<;>rfl
theorem maj_eq (a b c:BitVec 32):(a &&& b) ^^^ (a &&& c) ^^^ (b &&& c)=(a &&& b) ||| (c &&& (a ||| b)):=by apply BitVec.eq_of_getLsbD_eq;intro i hi;simp only [BitVec.getLsbD_xor,BitVec.getLsbD_and,BitVec.getLsbD_or];cases a.getLsbD i<;>cases b.getLsbD i<;>cases c.getLsbD i<;>rfl
theorem rots161 {h:ad} (hG:4<=h.n0) (x:BitVec 32):CW 122 [wv x,.int .u64 6] h=some (wv (dR x 6),h)/\CW 122 [wv x,.int .u64 11] h=some (wv (dR x 11),h)/\CW 122 [wv x,.int .u64 25] h=some (wv (dR x 25),h)/\CW 122 [wv x,.int .u64 2] h=some (wv (dR x 2),h)/\CW 122 [wv x,.int .u64 13] h=some (wv (dR x 13),h)/\CW 122 [wv x,.int .u64 22] h=some (wv (dR x 22),h):=
 ⟨Ac hG x (k:=6) (by decide),Ac hG x (k:=11) (by decide),Ac hG x (k:=25) (by decide),Ac hG x (k:=2) (by decide),Ac hG x (k:=13) (by decide),Ac hG x (k:=22) (by decide)⟩
theorem St.l_ok (s:St):(eV s.l).length=8/\Abs.noHoles (eV s.l)=true/\aJ (eV s.l)=true:=⟨rfl,(eC _).1,(eC _).2⟩
set_option maxRecDepth 100000 in
theorem rnd2 {h:ad} (hG:4<=h.n0) {b kb q p:Nat} {W:List (BitVec 32)} (hl:W.length=64) (hw:h.get b=some (oH W)) (hk:h.get kb=some (eV pH)) (hq0:h.n0<=q) (hqb : ¬b=q) (hqk : ¬kb=q) {s:St} (hq:h.get q=some (eV s.l))
  {p6:Value} {x:Nat->Value} (x3:x 3=ptr p 0) (x4:x 4=ptr kb 0) (x6:x 6=p6) (x7:x 7=ptr b 0) (x11:x 11=ptr q 0) (x12:x 12=ak 0) :
  Fin 206 (fun ex y g=>ex = .exit 2/\y 3=ptr p 0/\y 6=p6/\y 11=ptr q 0/\az h g (· = q)/\g.get q=some (eV (wY W 64 s).l)/\g.next=h.next) (iter (codeA prog CW (au f113 [1,1,1,1,0,1,0,0])) aB (aL 206 x) h):=by
 refine bk (qO CW) (Inv:=fun k y g => ∃ i,i+k=64/\y 3=ptr p 0/\y 4=ptr kb 0/\y 6=p6/\y 7=ptr b 0/\y 11=ptr q 0/\y 12=ak i/\az h g (· = q)/\g.get q=some (eV (wY W i s).l)/\g.next=h.next) ?_ 64 (by have:aB=18446744073709551616:=rfl;omega) ⟨0,DG _,x3,x4,x6,x7,x11,x12,az.refl _ _,hq,rfl⟩;rintro k y g ⟨i,hik,y3,y4,y6,y7,y11,y12,K,gq,gn⟩;unfold jb;have l64:aC prog .lss 3 (ak i) (.int .i64 64)=some (.bool (decide (i<64))):=eK i 64;simp -implicitDefEqProofs only [y12,l64,ae,af];by_cases hi:i<64
 ·have hg:4<=g.n0:=by rw [K.n0];exact hG
  have ixb:idxA 64 1 (ptr b 0) (ak i)=some (ptr b i):=by rw [mA hi,DG]
  have ixk:idxA 64 1 (ptr kb 0) (ak i)=some (ptr kb i):=by rw [mA hi,DG]
  have lw:ld1 (ptr b i) g=some (wv (W.getD i 0),g):=aU (az.getE K hw hqb) (xu (by omega)) rfl;have lk:ld1 (ptr kb i) g=some (wv (pH.getD i 0),g):=aU (az.getE K hk hqk) (by rw [EF,DK,DC (by rw [xA];exact hi)];rfl) rfl
  have ix : ∀ j,j<8->idxA 8 1 (ptr q 0) (ak j)=some (ptr q j):=fun j hj=>by rw [mA hj,DG]
  have i0:idxA 8 1 (ptr q 0) (.int .i64 0)=some (ptr q 0):=ix 0 (by decide);have i1:idxA 8 1 (ptr q 0) (.int .i64 1)=some (ptr q 1):=ix 1 (by decide);have i2:idxA 8 1 (ptr q 0) (.int .i64 2)=some (ptr q 2):=ix 2 (by decide);have i3:idxA 8 1 (ptr q 0) (.int .i64 3)=some (ptr q 3):=ix 3 (by decide);have i4:idxA 8 1 (ptr q 0) (.int .i64 4)=some (ptr q 4):=ix 4 (by decide);have i5:idxA 8 1 (ptr q 0) (.int .i64 5)=some (ptr q 5):=ix 5 (by decide);have i6:idxA 8 1 (ptr q 0) (.int .i64 6)=some (ptr q 6):=ix 6 (by decide);have i7:idxA 8 1 (ptr q 0) (.int .i64 7)=some (ptr q 7):=ix 7 (by decide);generalize hs:wY W i s=u at *;have d0:ld1 (ptr q 0) g=some (wv u.a,g):=aU gq rfl rfl;have d1:ld1 (ptr q 1) g=some (wv u.b,g):=aU gq rfl rfl;have d2:ld1 (ptr q 2) g=some (wv u.c,g):=aU gq rfl rfl;have d3:ld1 (ptr q 3) g=some (wv u.d,g):=aU gq rfl rfl;have d4:ld1 (ptr q 4) g=some (wv u.e,g):=aU gq rfl rfl;have d5:ld1 (ptr q 5) g=some (wv u.f,g):=aU gq rfl rfl;have d6:ld1 (ptr q 6) g=some (wv u.g,g):=aU gq rfl rfl;have d7:ld1 (ptr q 7) g=some (wv u.i,g):=aU gq rfl rfl;obtain ⟨re6,re11,re25,_⟩:=rots161 hg u.e;obtain ⟨_,_,_,ra2,ra13,ra22⟩:=rots161 hg u.a;generalize hu:stepS u (pH.getD i 0) (W.getD i 0)=u' at *;have ok:=St.l_ok u';obtain ⟨g2,e2,k2,t2,_,n2⟩:=aX (n:=8) (k':=eV u'.l) gq (by rw [K.n0];exact hq0) rfl rfl ok.2.2;have bl:=bld8 (t1S u (pH.getD i 0) (W.getD i 0)+t2S u) u.a u.b u.c (u.d+t1S u (pH.getD i 0) (W.getD i 0)) u.e u.f u.g;have e2:eo 8 (ptr q 0) (.agg (eV [t1S u (pH.getD i 0) (W.getD i 0)+t2S u,u.a,u.b,u.c,u.d+t1S u (pH.getD i 0) (W.getD i 0),u.e,u.f,u.g]).toArray) g=some (undef,g2):=by rw [<-hu] at e2;exact e2
  have ht1:wv (u.i+(dR u.e 6 ^^^ dR u.e 11 ^^^ dR u.e 25)+(u.g ^^^ (u.e &&& (u.f ^^^ u.g)))+pH.getD i 0+W.getD i 0)=wv (t1S u (pH.getD i 0) (W.getD i 0)):=rfl;have ht2:wv ((dR u.a 2 ^^^ dR u.a 13 ^^^ dR u.a 22)+((u.a &&& u.b) ||| (u.c &&& (u.a ||| u.b))))=wv (t2S u):=rfl;simp -implicitDefEqProofs only [DA hi, y4, y7, y11, i0, i1, i2, i3, i4, i5, i6, i7, d0, d1, d2, d3, d4, d5, d6, d7, w_not, w_and, w_xor, ch_eq, maj_eq, re6, re11, re25, ra2, ra13, ra22, ixb, ixk, lw, lk, By, ht1, ht2, bl, e2, chkW, FD, dh (show i+1<=9223372036854775807 by omega), ae, af];refine cR.next (k-1) (by omega) ⟨i+1,by omega,y3,y4,y6,y7,y11,rfl,K.trans k2,?_,n2.trans gn⟩;rw [t2,wY,hs,hu]
 ·have:i=64:=by omega
  subst this;simp -implicitDefEqProofs only [DB hi];exact cR.out 2 ⟨rfl,y3,y6,y11,K,gq,gn⟩
theorem wvs_at {L:List (BitVec 32)} {i:Nat} (hi:i<L.length):(eV L)[i]? = some (wv (L.getD i 0)):=by rw [EF,DK,DC hi];rfl
theorem rnd3 {h:ad} {p q:Nat} {S L:List (BitVec 32)} (hS:S.length=8) (hL:L.length=8) (hp:h.get p=some (eV S)) (hp0:h.n0<=p) (hq:h.get q=some (eV L)) (hne : ¬q=p)
  {p6:Value} {x:Nat->Value} (x3:x 3=ptr p 0) (x6:x 6=p6) (x11:x 11=ptr q 0) (x19:x 19=ak 0) :
  Fin 206 (fun ex y g=>ex = .exit 4/\y 3=ptr p 0/\y 6=p6/\az h g (· = p)/\g.get p=some (eV (addS S L))/\g.next=h.next) (iter (codeA prog CW (au f113 [1,1,1,1,1,0,1,0,0])) aB (aL 206 x) h):=by
 have hm0:wZ S L 0=S:=rfl;have hm8:wZ S L 8=addS S L:=by obtain ⟨a,b,c,d,e,f,g,j,rfl⟩:=yP hS;obtain ⟨a',b',c',d',e',f',g',j',rfl⟩:=yP hL;rfl
 refine bk (oS CW) (Inv:=fun k y g => ∃ i,i+k=8/\y 3=ptr p 0/\y 6=p6/\y 11=ptr q 0/\y 19=ak i/\az h g (· = p)/\g.get p=some (eV (wZ S L i))/\g.next=h.next) ?_ 8 (by have:aB=18446744073709551616:=rfl;omega) ⟨0,DG _,x3,x6,x11,x19,az.refl _ _,by rw [hm0];exact hp,rfl⟩;rintro k y g ⟨i,hik,y3,y6,y11,y19,K,gp,gn⟩;unfold iA;have l8:aC prog .lss 3 (ak i) (.int .i64 8)=some (.bool (decide (i<8))):=eK i 8;simp -implicitDefEqProofs only [y19,l8,ae,af];by_cases hi:i<8
 ·obtain ⟨m1,m2,m3⟩:=mix_step hS hL hi;have ixp:idxA 8 1 (ptr p 0) (ak i)=some (ptr p i):=by rw [mA hi,DG]
  have ixq:idxA 8 1 (ptr q 0) (ak i)=some (ptr q i):=by rw [mA hi,DG]
  have lp:ld1 (ptr p i) g=some (wv (S.getD i 0),g):=by rw [<-m1];exact aU gp (wvs_at (by omega)) rfl
  have lq:ld1 (ptr q i) g=some (wv (L.getD i 0),g):=aU (az.getE K hq hne) (wvs_at (by omega)) rfl;obtain ⟨g2,e2,k2,t2,_,n2⟩:=stored (o:=i) (v:=wv (S.getD i 0+L.getD i 0)) gp (by rw [K.n0];exact hp0) (by rw [DS,m3];omega) rfl rfl;simp -implicitDefEqProofs only [DA hi, y3, y11, ixp, ixq, lp, lq, By, e2, dh (show i+1<=9223372036854775807 by omega), ae, af];refine cR.next (k-1) (by omega) ⟨i+1,by omega,y3,y6,y11,rfl,K.trans k2,?_,n2.trans gn⟩;rw [t2,<-m2];show some ((List.map wv (wZ S L i)).set i (wv (S.getD i 0+L.getD i 0)))=some (List.map wv ((wZ S L i).set i (S.getD i 0+L.getD i 0)));rw [I4]
 ·have:i=8:=by omega
  subst this;simp -implicitDefEqProofs only [DB hi];rw [hm8] at gp;exact cR.out 4 ⟨rfl,y3,y6,K,gp,gn⟩
theorem is153:bP prog 113 f113:=by constructor<;>kernel_rfl
theorem aggT8:rH prog 141=some true:=by kernel_rfl
theorem sizT8:cK prog 141=some 8:=by kernel_rfl
theorem results153:f113.results.toList = [.cell 6 141]:=by kernel_rfl
set_option maxRecDepth 100000 in
theorem r153 {h:ad} (hG:4<=h.n0) {S:List (BitVec 32)} (hS:S.length=8) {B:List Nat} (hBl:B.length=64) {a:Option Addr} {c:Nat} (hB:av a 64 h=some B) :
  ∃ h',CW 113 [.agg (eV S).toArray,.agg (eV pH).toArray,.slice a 64 c] h=some (.agg (eV (fX S B)).toArray,h')/\aA h h':=by
 have hS2:=eC S;have hK2:=eC pH;have b1:=dG h _ hS2.2;have o1:aA h (h.alloc (eV S)):=az.alloc _ _ _;have g1:(h.alloc (eV S)).get h.next=some (eV S):=by rw [ad.aF,DL rfl]
 have n1:(h.alloc (eV S)).next=h.next+1:=ad.cq ..;generalize h.alloc (eV S)=h1 at *;have b2:=dG h1 _ hK2.2;have o2:aA h1 (h1.alloc (eV pH)):=az.alloc _ _ _;have g2:(h1.alloc (eV pH)).get h1.next=some (eV pH):=by rw [ad.aF,DL rfl]
 have n2:(h1.alloc (eV pH)).next=h1.next+1:=ad.cq ..;generalize h1.alloc (eV pH)=h2 at *;obtain ⟨h3,z3,o3,g3,n3⟩:=fresh (List.replicate 8 (.int .u32 0)) h2;obtain ⟨h4,z4,o4,g4,n4⟩:=fresh (List.replicate 64 (.int .u32 0)) h3;have O4:aA h h4:=((o1.trans o2).trans o3).trans o4;have hlt : ∀ y,a=some y -> ¬y.block=h3.next:=fun y hy e=>by obtain ⟨b',off',s',k',hx,hk',_⟩:=(aK hB).2.2 (by decide);rw [hy] at hx;cases hx;have:=h.aO hk';have:b'=h3.next:=e;omega
 have hn0:=h.n0_le_next;have key : ∃ o:aS,t153 CW (.agg (eV S).toArray) (.agg (eV pH).toArray) (.slice a 64 c) h=o /\ ∃ h',o=some (.agg (eV (fX S B)).toArray,h')/\aA h h':=by
  refine ⟨_,rfl,?_⟩;unfold t153;simp -implicitDefEqProofs only [b1, b2, z3, z4, ae];refine bq (Q:=fun o:aS => ∃ h',o=some (.agg (eV (fX S B)).toArray,h')/\aA h h') (rnd1 (b:=h3.next) (by rw [O4.n0];exact hG) hBl (aA.bytes O4 hB) hlt (by rw [O4.n0];omega) g4 (p3:=ptr h.next 0) (p4:=ptr h1.next 0) (p6:=ptr h2.next 0) rfl rfl rfl rfl rfl rfl) ?_;rintro _ y g5 ⟨rfl,y3,y4,y6,y7,K5,G5,N5⟩;simp -implicitDefEqProofs only [aV,b153_4,DY,AO];unfold rL;have O5:aA h3 g5:=aA.bx o4 K5 (DF _);have OO5:aA h g5:=((o1.trans o2).trans o3).trans O5;have P5:g5.get h.next=some (eV S):=aA.get ((o2.trans o3).trans O5) g1;have L5:=bc (n:=8) P5 (by rw [DS,hS]) hS2.1;obtain ⟨h6,z6,o6,g6,n6⟩:=fresh (List.replicate 8 (.int .u32 0)) g5;obtain ⟨h7,e7,k7,g7,_,n7⟩:=aX (n:=8) (k':=eV S) g6 (by rw [o6.n0];exact g5.n0_le_next) rfl (by rw [DS,hS]) hS2.2;have O7:aA g5 h7:=aA.bx o6 k7 (DF _);simp -implicitDefEqProofs only [y3,L5,z6,e7,ae];have hSl:eV S=eV (St.l ⟨S.getD 0 0,S.getD 1 0,S.getD 2 0,S.getD 3 0,S.getD 4 0,S.getD 5 0,S.getD 6 0,S.getD 7 0⟩):=by obtain ⟨a,b,c,d,e,f,g,j,rfl⟩:=yP hS;rfl
  have n5:=O5.next;refine bq (Q:=fun o:aS => ∃ h',o=some (.agg (eV (fX S B)).toArray,h')/\aA h h') (rnd2 (h:=h7) (b:=h3.next) (kb:=h1.next) (q:=g5.next) (p:=h.next) (by rw [O7.n0,OO5.n0];exact hG) (W:=jJ 48 (vm B)) (by rw [td];simp [vm]) (aA.get O7 G5) (aA.get O7 (aA.get (o3.trans O5) g2)) (by rw [O7.n0];exact g5.n0_le_next) (by omega) (by omega) (by rw [g7];exact FZ some hSl) (p6:=ptr h2.next 0) y3 y4 y6 y7 rfl rfl) ?_;rintro _ y' g8 ⟨rfl,y3',y6',y11',K8,G8,N8⟩;simp -implicitDefEqProofs only [aV,b153_8,DY,Ap];unfold sI;simp -implicitDefEqProofs only [ae];have O8:aA g5 g8:=aA.bx O7 K8 (DF _);refine bq (Q:=fun o:aS => ∃ h',o=some (.agg (eV (fX S B)).toArray,h')/\aA h h') (rnd3 (h:=g8) (p:=h.next) (q:=g5.next) hS rfl (aA.get O8 P5) (by rw [O8.n0,OO5.n0];omega) G8 (by have:=OO5.next;omega) (p6:=ptr h2.next 0) y3' y6' y11' rfl) ?_;rintro _ y9 g9 ⟨rfl,y39,y69,K9,G9,N9⟩;simp -implicitDefEqProofs only [aV,b153_22,DY,yK];unfold pk;have hcomp:addS S (wY (jJ 48 (vm B)) 64 ⟨S.getD 0 0,S.getD 1 0,S.getD 2 0,S.getD 3 0,S.getD 4 0,S.getD 5 0,S.getD 6 0,S.getD 7 0⟩).l=fX S B:=rfl;rw [hcomp] at G9;have cl:(eV (fX S B)).length=8:=by rw [DS,mX hS]
  have L9:=bc (n:=8) G9 cl (eC _).1;have O9:aA h g9:=(OO5.trans O8).also K9 (fun d hd e=>by omega);have q3:g9.get h2.next=some (List.replicate 8 (.int .u32 0)):=az.getE K9 (aA.get O8 (aA.get O5 g3)) (by omega);obtain ⟨h10,e10,k10,g10,_,_⟩:=aX (n:=8) (k':=eV (fX S B)) q3 (by rw [O9.n0];omega) rfl cl (eC _).2;have L10:=bc (n:=8) g10 cl (eC _).1;simp -implicitDefEqProofs only [y39,L9,y69,e10,ae];refine ⟨h10,?_,aA.bx O9 k10 (by omega)⟩;exact cX results153 aggT8 sizT8 (show 6<206 by decide) _ (by show cx 8 (y9 6) h10=_;rw [y69];exact L10)
 obtain ⟨o9,e,h',e',r⟩:=key;exact ⟨h',aD is153 hG rfl ((t153_eq _ _ _ _ _).trans (e.trans e')),r⟩
theorem fd1 {h0 h:ad} {v:Value} {l:List Nat} {z:Nat} (K:aA h0 h) (o:eS h h0.next v l) (hl:l.length<=1000000) (hz:(l.length+z)%64=56) (hz2:z<64) {q0 q4 q5 q6:Value} {x:Nat->Value} (x0:x 0=q0) (x4:x 4=q4) (x5:x 5=q5) (x6:x 6=q6) (x7:x 7=v) :
  Fin 74 (fun ex y g=>ex = .exit 0/\y 0=q0/\y 4=q4/\y 5=q5/\y 6=q6/\eS g h0.next (y 7) (l++List.replicate z 0)/\aA h0 g) (iter (codeA prog CW (au f93 [1,1,0,0,0])) aB (aL 74 x) h):=by
 refine bk (uz CW) (Inv:=fun k y g => ∃ l',y 0=q0/\y 4=q4/\y 5=q5/\y 6=q6/\eS g h0.next (y 7) l'/\aA h0 g/\(l'.length+k)%64=56/\k<64/\l'++List.replicate k 0=l++List.replicate z 0/\l'.length<=1000064-k) ?_ z (by have:aB=18446744073709551616:=rfl;omega) ⟨l,x0,x4,x5,x6,by rw [x7];exact o,K,hz,hz2,rfl,by omega⟩;rintro k y g ⟨l',y0,y4,y5,y6,O,K',hm,hk,hc,hb⟩;unfold lW;obtain ⟨a,c,hv,s,_,_⟩:=O.bytes;have hll:lenL (y 7)=some (ak l'.length):=by rw [hv];rfl
 have hr:aC prog .rem 3 (ak l'.length) (.int .i64 64)=some (ak (l'.length%64)):=by unfold ak;rw [tq prog 3 .i64 _ 64 (by decide)];rfl
 cases k with
 |zero=>
  have h56:l'.length%64=56:=by omega
  have hn:aC prog .neq 3 (ak (l'.length%64)) (.int .i64 56)=some (.bool false):=by unfold ak;rw [aZ,h56];rfl
  simp -implicitDefEqProofs only [hll,hr,hn,ae,af];refine cR.out 0 ⟨rfl,y0,y4,y5,y6,?_,K'⟩;rw [<-hc,List.replicate_zero,EN];exact O
 |succ k=>
  have h56:l'.length%64≠56:=by omega
  have hn:aC prog .neq 3 (ak (l'.length%64)) (.int .i64 56)=some (.bool true):=by
   unfold ak;rw [aZ]
   congr 2
   simp only [bne_iff_ne,ne_eq];omega
  have b0:cg 1 (.int .u8 0) 1 [(0,.int .u8 0)] g=some (.slice (some ⟨g.next,0,none⟩) 1 1,g.alloc [u8 0]):=r9 g 0;obtain ⟨v',g2,e2,O2,K2⟩:=xj (x:=0) K' O (by decide) (by omega);simp -implicitDefEqProofs only [hll,hr,hn,b0,e2,ae,af];refine cR.next k (by omega) ⟨l' ++ [0],y0,y4,y5,y6,O2,K2,by simp;omega,by omega,?_,by simp;omega⟩;rw [<-hc,EC];rfl
theorem fd2 {h0 h:ad} {v:Value} {l:List Nat} {N:Nat} (_:N<18446744073709551616) (K:aA h0 h) (o:eS h h0.next v l) (hl:l.length<=1000064) {q4 q5 q6:Value} {x:Nat->Value} (x4:x 4=q4) (x5:x 5=q5) (x6:x 6=q6) (x7:x 7=v) (x8:x 8 = .int .u64 (N:Int)) (x9:x 9 = .int .i64 7) :
  Fin 74 (fun ex y g=>ex = .exit 2/\y 4=q4/\y 5=q5/\y 6=q6/\eS g h0.next (y 7) (l++fL 8 N)/\aA h0 g) (iter (codeA prog CW (au f93 [1,1,1,1,0,1,0,0])) aB (aL 74 x) h):=by
 refine bk (qQ CW) (Inv:=fun k y g => ∃ l',k<=8/\y 4=q4/\y 5=q5/\y 6=q6/\y 8 = .int .u64 (N:Int)/\y 9 = .int .i64 ((k:Int)-1)/\eS g h0.next (y 7) l'/\aA h0 g/\l'++fL k N=l++fL 8 N/\l'.length<=1000072) ?_ 8 (by have:aB=18446744073709551616:=rfl;omega) ⟨l,by omega,x4,x5,x6,x8,x9,by rw [x7];exact o,K,rfl,by omega⟩;rintro k y g ⟨l',hk,y4,y5,y6,y8,y9,O,K',hc,hb⟩;unfold je;have hlen:l'.length+k=l.length+8:=by have:=FZ List.length hc;simpa [bO] using this
 cases k with
 |zero=>
  have y9':y 9 = .int .i64 (-1):=y9;have hg:aC prog .geq 3 (.int .i64 (-1)) (.int .i64 0)=some (.bool false):=by rw [bH];rfl
  simp -implicitDefEqProofs only [y9',hg,ae,af];refine cR.out 2 ⟨rfl,y4,y5,y6,?_,K'⟩;rw [<-hc,fL,EN];exact O
 |succ k=>
  have y9':y 9=ak k:=by
   rw [y9];unfold ak
   congr 1
   omega
  have hg:aC prog .geq 3 (ak k) (.int .i64 0)=some (.bool true):=by unfold ak;rw [bH,DA (by omega)]
  have cu:jC .u64 (ak k) g=some (.int .u64 (k:Int),g):=by unfold ak;rw [du,wrap_u64 (by omega) (by omega)]
  have ml:aC prog .mul 120 (.int .u64 8) (.int .u64 (k:Int))=some (.int .u64 ((8*k:Nat):Int)):=by rw [iC,show (8:Int)*(k:Int)=((8*k:Nat):Int) by omega,wrap_u64 (by omega) (by omega)]
  have sh:aC prog .shr 32 (.int .u64 (N:Int)) (.int .u64 ((8*k:Nat):Int))=some (.int .u64 ((N/2^(8*k):Nat):Int)):=ez prog 32 (by show 8*k<=64;omega);have c8:jC .u8 (.int .u64 ((N/2^(8*k):Nat):Int)) g=some (u8 (N/256^k%256),g):=by rw [du,fZ,Nat.pow_mul];rfl
  have b1:=r9 g (N/256^k%256);obtain ⟨v',g2,e2,O2,K2⟩:=xj (x:=N/256^k%256) K' O (GV _ (by decide)) (by omega);have sb:aC prog .sub 3 (ak k) (.int .i64 1)=some (.int .i64 ((k:Int)-1)):=by unfold ak;rw [fi,wrap_i64 (by omega) (by omega)]
  simp -implicitDefEqProofs only [y9',hg,y8,cu,ml,sh,c8,b1,e2,sb,ae,af];refine cR.next k (by omega) ⟨l' ++ [N/256^k%256],by omega,y4,y5,y6,y8,rfl,O2,K2,?_,by simp;omega⟩;rw [<-hc,EC];rfl
def gC:Nat->List Nat->List (BitVec 32)->List (BitVec 32)
 | 0,_,S=>S
 |t+1,m,S=>gC t (m.drop 64) (fX S (m.take 64))
theorem BQ : ∀ (t:Nat) (m:List Nat) (S:List (BitVec 32)),S.length=8->(gC t m S).length=8
 | 0,_,_,h=>h
 |t+1,_,_,h=>BQ t _ _ (mX h)
theorem ixT {N b:Nat} {j:Nat} (hj:j<N):idxA N 1 (ptr b 0) (ak j)=some (ptr b j):=by rw [mA hj,DG]
set_option maxRecDepth 100000 in
theorem fd3 {h:ad} (hG:4<=h.n0) {p kb t:Nat} {S:List (BitVec 32)} {m:List Nat} {a:Option Addr} {c:Nat} (hS:S.length=8) (hp:h.get p=some (eV S)) (hp0:h.n0<=p) (hk:h.get kb=some (eV pH)) (hkp : ¬kb=p) (hm:av a (64*t) h=some m) (hg:hI a (64*t) c=true) (ha : ∀ y,a=some y -> ¬y.block=p) (ht:t<=100000)
  {q6:Value} {x:Nat->Value} (x4:x 4=ptr kb 0) (x5:x 5=ptr p 0) (x6:x 6=q6) (x7:x 7 = .slice a (64*t) c) (x10:x 10=ak 0) :
  Fin 74 (fun ex y g=>ex = .exit 4/\y 5=ptr p 0/\y 6=q6/\az h g (· = p)/\g.get p=some (eV (gC t m S))) (iter (codeA prog CW (au f93 [1,1,1,1,1,0,1,0,0])) aB (aL 74 x) h):=by
 have hml:m.length=64*t:=(aK hm).1;refine bk (oM CW) (Inv:=fun k y g => ∃ i S',i+k=t/\y 4=ptr kb 0/\y 5=ptr p 0/\y 6=q6/\y 7 = .slice a (64*t) c/\y 10=ak (64*i)/\S'.length=8/\az h g (· = p)/\g.get p=some (eV S')/\gC k (m.drop (64*i)) S'=gC t m S) ?_ t (by have:aB=18446744073709551616:=rfl;omega) ⟨0,S,DG _,x4,x5,x6,x7,x10,hS,az.refl _ _,hp,rfl⟩;rintro k y g ⟨i,S',hik,y4,y5,y6,y7,y10,hS',K,gp,hf⟩;unfold iE;have hll:lenL (.slice a (64*t) c)=some (ak (64*t)):=rfl;simp -implicitDefEqProofs only [y10,y7,hll,eK,ae,af];cases k with
 |zero=>
  have hi : ¬64*i<64*t:=by omega
  simp -implicitDefEqProofs only [DB hi];exact cR.out 4 ⟨rfl,y5,y6,K,by rw [<-hf];exact gp⟩
 |succ k=>
  have hi:64*i<64*t:=by omega
  have hgn:4<=g.n0:=by rw [K.n0];exact hG
  have l5:=bc (n:=8) gp (by rw [DS,hS']) (eC S').1;have l4:=bc (n:=64) (az.getE K hk hkp) (by rw [DS,xA]) (eC pH).1;have sl:av a (64*t) g=some m:=K.bytes hm (fun y hy _=>ha y hy);have a1:aC prog .add 3 (ak (64*i)) (.int .i64 64)=some (ak (64*i+64)):=by unfold ak;rw [lN,show ((64*i:Nat):Int)+64=((64*i+64:Nat):Int) by omega,wrap_i64 (by omega) (by omega)]
  obtain ⟨a2,c2,es,ss,gs,bs⟩:=BU (vl:=some (ak (64*i))) (vh:=some (ak (64*i+64))) (lo:=64*i) (hi:=64*i+64) hg sl (by omega) (by omega) (by
    have:=goodS_le hg;unfold boundA ak;simp only;rw [DL (by omega),Int.toNat_natCast]) (by
    unfold boundA ak;simp only;rw [DL (by omega),Int.toNat_natCast])
  rw [show 64*i+64-64*i=64 by omega] at es ss;have hBl:((m.drop (64*i)).take 64).length=64:=by rw [DW,D8];omega
  obtain ⟨g2,e2,o2⟩:=r153 (h:=g) hgn hS' hBl (c:=c2) ss;have cl:(eV (fX S' ((m.drop (64*i)).take 64))).length=8:=by rw [DS,mX hS']
  obtain ⟨g3,e3,k3,g3',_,_⟩:=aX (n:=8) (k':=eV (fX S' ((m.drop (64*i)).take 64))) (aA.get o2 gp) (by rw [o2.n0,K.n0];exact hp0) (by rw [DS,hS']) cl (eC _).2;simp -implicitDefEqProofs only [DA hi,y4,y5,l5,l4,a1,es,e2,e3,ae,af];refine cR.next k (by omega) ⟨i+1,fX S' ((m.drop (64*i)).take 64),by omega,y4,y5,y6,y7,rfl,mX hS',(K.trans (o2.mono (fun _ _ h=>h.elim))).trans k3,g3',?_⟩;rw [<-hf,gC,E8];rfl
theorem fd4 {h:ad} {b p:Nat} {S:List (BitVec 32)} (hS:S.length=8) (hp:h.get p=some (eV S)) (hpb:p≠b) (hb:h.n0<=b) (hw:h.get b=some (aY (mI S 0))) {q6:Value}
  {x:Nat->Value} (x5:x 5=ptr p 0) (x6:x 6=q6) (x11:x 11=ptr b 0) (x12:x 12=ak 0) :
  Fin 74 (fun ex y g=>ex = .exit 6/\y 6=q6/\y 11=ptr b 0/\az h g (· = b)/\g.get b=some (aY (mI S 32))) (iter (codeA prog CW (au f93 [1,1,1,1,1,1,1,0,1,0,0])) aB (aL 74 x) h):=by
 refine bk (nI CW) (Inv:=fun k y g => ∃ j,j+k=32/\y 5=ptr p 0/\y 6=q6/\y 11=ptr b 0/\y 12=ak j/\az h g (· = b)/\g.get b=some (aY (mI S j))) ?_ 32 (by have:aB=18446744073709551616:=rfl;omega) ⟨0,DG _,x5,x6,x11,x12,az.refl _ _,hw⟩;rintro k y g ⟨j,hjk,y5,y6,y11,y12,K,gw⟩;unfold gy;have l32:aC prog .lss 3 (ak j) (.int .i64 32)=some (.bool (decide (j<32))):=eK j 32;simp -implicitDefEqProofs only [y12,l32,ae,af];by_cases hj:j<32
 ·have q1:aC prog .quo 3 (ak j) (.int .i64 4)=some (ak (j/4)):=by unfold ak;rw [Dd prog 3 .i64 _ 4 (by decide),show Int.tdiv (j:Int) 4=((j/4:Nat):Int) from rfl,wrap_i64 (by omega) (by omega)]
  have r1:aC prog .rem 3 (ak j) (.int .i64 4)=some (ak (j%4)):=by unfold ak;rw [tq prog 3 .i64 _ 4 (by decide)];rfl
  have cu:jC .u64 (ak (j%4)) g=some (.int .u64 ((j%4:Nat):Int),g):=by unfold ak;rw [du,wrap_u64 (by omega) (by omega)]
  have m1:aC prog .mul 120 (.int .u64 8) (.int .u64 ((j%4:Nat):Int))=some (.int .u64 ((8*(j%4):Nat):Int)):=by rw [iC,show (8:Int)*((j%4:Nat):Int)=((8*(j%4):Nat):Int) by omega,wrap_u64 (by omega) (by omega)]
  have s1:aC prog .sub 120 (.int .u64 24) (.int .u64 ((8*(j%4):Nat):Int))=some (.int .u64 ((24-8*(j%4):Nat):Int)):=by rw [fi,show (24:Int)-((8*(j%4):Nat):Int)=((24-8*(j%4):Nat):Int) by omega,wrap_u64 (by omega) (by omega)]
  have lp:ld1 (ptr p (j/4)) g=some (wv (S.getD (j/4) 0),g):=aU (az.getE K hp hpb) (wvs_at (by omega)) rfl;have sh:aC prog .shr 139 (wv (S.getD (j/4) 0)) (.int .u64 ((24-8*(j%4):Nat):Int))=some (.int .u32 (((S.getD (j/4) 0).toNat/2^(24-8*(j%4)):Nat):Int)):=ez prog 139 (by show 24-8*(j%4)<=32;omega);have c1:jC .u8 (.int .u32 (((S.getD (j/4) 0).toNat/2^(24-8*(j%4)):Nat):Int)) g=some (u8 ((S.getD (j/4) 0).toNat/2^(24-8*(j%4))%256),g):=by rw [du,fZ];rfl
  obtain ⟨g2,e2,k2,t2,_,n2⟩:=stored (o:=j) (v:=u8 ((S.getD (j/4) 0).toNat/2^(24-8*(j%4))%256)) gw (by rw [K.n0];exact hb) (by rw [DS,pb];omega) rfl rfl;simp -implicitDefEqProofs only [DA hj, y5, y11, q1, r1, cu, m1, s1, ixT (show j/4<8 by omega), lp, sh, c1, ixT hj, e2, dh (show j+1<=9223372036854775807 by omega), ae, af];refine cR.next (k-1) (by omega) ⟨j+1,by omega,y5,y6,y11,rfl,K.trans k2,?_⟩;rw [t2,mI];show some ((List.map u8 (mI S j)).set j (u8 ((S.getD (j/4) 0).toNat/2^(24-8*(j%4))%256)))=some (List.map u8 ((mI S j).set j ((S.getD (j/4) 0).toNat/2^(24-8*(j%4))%256)));rw [I4]
 ·have:j=32:=by omega
  subst this;simp -implicitDefEqProofs only [DB hj];exact cR.out 6 ⟨rfl,y6,y11,K,gw⟩
theorem is136:bP prog 93 f93:=by constructor<;>kernel_rfl
theorem results136:f93.results.toList = [.cell 6 36]:=by kernel_rfl
def jf (n:Nat):Nat:=(119-n%64)%64
def padM (l:List Nat):List Nat:=((l ++ [128])++List.replicate (jf l.length) 0)++fL 8 (l.length*8)
def jQ (l:List Nat):Nat:=(l.length+jf l.length+9)/64
theorem wA (n:Nat):(n+1+jf n)%64=56/\jf n<64:=by unfold jf;omega
theorem padM_len (l:List Nat):(padM l).length=64*jQ l:=by have:=wA l.length;unfold padM jQ;simp only [DH,HS,bO,List.length_cons,List.length_nil];omega
def qU (S:List (BitVec 32)) (l:List Nat):List Nat:=mI (gC (jQ l) (padM l) S) 32
theorem xi (S:List (BitVec 32)) (l:List Nat):ic (qU S l):=⟨pb _ 32,zC _ 32⟩
set_option maxRecDepth 100000 in
theorem r136 {h:ad} (hG:4<=h.n0) {S:List (BitVec 32)} (hS:S.length=8) {a:Option Addr} {n c:Nat} {l:List Nat} (hl:av a n h=some l) (hn:n<=20000) :
  ∃ h',CW 93 [.slice a n c,.agg (eV pH).toArray,.agg (eV S).toArray] h=some (.agg (aY (qU S l)).toArray,h')/\aA h h':=by
 have hlen:l.length=n:=(aK hl).1;have hS2:=eC S;have hK2:=eC pH;have b1:=dG h _ hK2.2;have o1:aA h (h.alloc (eV pH)):=az.alloc _ _ _;have g1:(h.alloc (eV pH)).get h.next=some (eV pH):=by rw [ad.aF,DL rfl]
 have n1:(h.alloc (eV pH)).next=h.next+1:=ad.cq ..;generalize h.alloc (eV pH)=h1 at *;have b2:=dG h1 _ hS2.2;have o2:aA h1 (h1.alloc (eV S)):=az.alloc _ _ _;have g2:(h1.alloc (eV S)).get h1.next=some (eV S):=by rw [ad.aF,DL rfl]
 have n2:(h1.alloc (eV S)).next=h1.next+1:=ad.cq ..;generalize h1.alloc (eV S)=h2 at *;obtain ⟨h3,z3,o3,g3,n3⟩:=fresh (List.replicate 32 (.int .u8 0)) h2;have O3:aA h h3:=(o1.trans o2).trans o3;have b4:=iY h3;have o4:aA h3 (h3.alloc []):=az.alloc _ _ _;have w4:eS (h3.alloc []) h3.next (.slice (some ⟨h3.next,0,none⟩) 0 0) []:=⟨qV.empty _ (DF _),by simp⟩
 obtain ⟨v5,h5,e5,w5,o5⟩:=yq (c:=c) o4 w4 (aA.bytes (O3.trans o4) hl) (by show 0+n<=100000000;omega);rw [List.nil_append] at w5;have b6:cg 1 (.int .u8 0) 1 [(0,.int .u8 128)] h5=some (.slice (some ⟨h5.next,0,none⟩) 1 1,h5.alloc [u8 128]):=r9 h5 128;obtain ⟨v6,h6,e6,w6,o6⟩:=xj (x:=128) o5 w5 (by decide) (by omega);have zs:=wA l.length;have hn0:=h.n0_le_next;have key : ∃ o:aS,t136 CW (.slice a n c) (.agg (eV pH).toArray) (.agg (eV S).toArray) h=o /\ ∃ h',o=some (.agg (aY (qU S l)).toArray,h')/\aA h h':=by
  refine ⟨_,rfl,?_⟩;unfold t136;simp -implicitDefEqProofs only [b1,b2,z3,b4,e5,b6,e6,ae];refine bq (Q:=fun o:aS => ∃ h',o=some (.agg (aY (qU S l)).toArray,h')/\aA h h') (fd1 (h0:=h3) (z:=jf l.length) o6 w6 (by simp;omega) (by simp only [DH,List.length_cons,List.length_nil];omega) zs.2 (q0 := .slice a n c) (q4:=ptr h.next 0) (q5:=ptr h1.next 0) (q6:=ptr h2.next 0) rfl rfl rfl rfl rfl) ?_;rintro _ y g7 ⟨rfl,y0,y4,y5,y6,w7,o7⟩;simp -implicitDefEqProofs only [aV,b136_3,DY,AH];unfold sD;have hll:lenL (.slice a n c)=some (ak n):=rfl;have cu:jC .u64 (ak n) g7=some (.int .u64 (n:Int),g7):=by unfold ak;rw [du,wrap_u64 (by omega) (by omega)]
  have ml:aC prog .mul 32 (.int .u64 (n:Int)) (.int .u64 8)=some (.int .u64 ((l.length*8:Nat):Int)):=by rw [iC,show (n:Int)*8=((l.length*8:Nat):Int) by omega,wrap_u64 (by omega) (by omega)]
  simp -implicitDefEqProofs only [y0,hll,cu,ml,ae,af];refine bq (Q:=fun o:aS => ∃ h',o=some (.agg (aY (qU S l)).toArray,h')/\aA h h') (fd2 (h0:=h3) (N:=l.length*8) (by omega) o7 w7 (by simp only [DH,List.length_cons,List.length_nil,HS];omega) y4 y5 y6 rfl rfl rfl) ?_;rintro _ y' g8 ⟨rfl,y4',y5',y6',w8,o8⟩;simp -implicitDefEqProofs only [aV,b136_7,DY,Aq];unfold rF;simp -implicitDefEqProofs only [ae];obtain ⟨a8,c8,hv8,s8,gd8,hN8,_⟩:=w8.bytes;have hpl:(((l ++ [128])++List.replicate (jf l.length) 0)++fL 8 (l.length*8)).length=64*jQ l:=padM_len l;rw [hpl] at hv8 s8 gd8;have OO8:aA h g8:=O3.trans o8;have P8:g8.get h1.next=some (eV S):=aA.get (o3.trans o8) g2;have Q8:g8.get h.next=some (eV pH):=aA.get ((o2.trans o3).trans o8) g1;have hbl:jQ l<=100000:=by unfold jQ;omega
  refine bq (Q:=fun o:aS => ∃ h',o=some (.agg (aY (qU S l)).toArray,h')/\aA h h') (fd3 (h:=g8) (by rw [OO8.n0];exact hG) (p:=h1.next) (kb:=h.next) (t:=jQ l) hS P8 (by rw [OO8.n0];omega) Q8 (by omega) s8 gd8 (fun y hy e=>by have:=hN8 y hy;omega) hbl (q6:=ptr h2.next 0) y4' y5' y6' hv8 rfl) ?_;rintro _ y9 g9 ⟨rfl,y59,y69,K9,G9⟩;simp -implicitDefEqProofs only [aV,b136_13,DY,yJ];unfold pN;obtain ⟨h10,z10,o10,g10,n10⟩:=fresh (List.replicate 32 (.int .u8 0)) g9;simp -implicitDefEqProofs only [z10,ae];have O9:aA h g9:=OO8.also K9 (fun d hd e=>by omega);have m9:=K9.next;have m8:=o8.next;refine bq (Q:=fun o:aS => ∃ h',o=some (.agg (aY (qU S l)).toArray,h')/\aA h h') (fd4 (h:=h10) (b:=g9.next) (p:=h1.next) (BQ _ _ _ hS) (aA.get o10 G9) (by omega) (by rw [o10.n0];exact g9.n0_le_next) g10 (q6:=ptr h2.next 0) y59 y69 rfl rfl) ?_;rintro _ y11 g11 ⟨rfl,y611,y1111,K11,G11⟩;simp -implicitDefEqProofs only [aV,b136_21,DY,yb];unfold oL;have dc:=bm (xi S l);have G11:g11.get g9.next=some (aY (qU S l)):=G11;have L11:=bc G11 dc.1 dc.2.1;have O11:aA h g11:=(O9.trans o10).also K11 (fun d hd e=>by have:=O9.next;omega);have q3:g11.get h2.next=some (List.replicate 32 (.int .u8 0)):=az.getE K11 (aA.get o10 (az.getE K9 (aA.get o8 g3) (by omega))) (by omega);obtain ⟨h12,e12,k12,g12,_,_⟩:=aX (n:=32) (k':=aY (qU S l)) q3 (by rw [O11.n0];omega) rfl dc.1 dc.2.2;have L12:=bc g12 dc.1 dc.2.1;simp -implicitDefEqProofs only [y1111,L11,y611,e12,ae];refine ⟨h12,?_,aA.bx O11 k12 (by omega)⟩;exact cX results136 lU fY (show 6<74 by decide) _ (by show cx 32 (y11 6) h12=_;rw [y611];exact L12)
 obtain ⟨o9,e,h',e',r⟩:=key;exact ⟨h',aD is136 hG rfl ((t136_eq _ _ _ _ _).trans (e.trans e')),r⟩
def GR (h:ad):Prop:=h.get 1=some (eV pH)
theorem GR.old {h h':ad} (x:GR h) (o:aA h h'):GR h':=aA.get o x
theorem is108:bP prog 69 f69:=by constructor<;>kernel_rfl
theorem is72:bP prog 70 f70:=by constructor<;>kernel_rfl
theorem is110:bP prog 72 f72:=by constructor<;>kernel_rfl
theorem results108:f69.results.toList = [.cell 2 36]:=by kernel_rfl
theorem results72:f70.results.toList = [.cell 2 36]:=by kernel_rfl
theorem results110:f72.results.toList = [.cell 4 36]:=by kernel_rfl
set_option maxRecDepth 100000 in
theorem r108 {h:ad} (hG:4<=h.n0) (hr:GR h) {a:Option Addr} {n c:Nat} {l:List Nat} (hl:av a n h=some l) (hn:n<=20000) :
  ∃ h',CW 69 [.slice a n c] h=some (.agg (aY (qU H0 l)).toArray,h')/\aA h h':=by
 obtain ⟨h1,z1,o1,g1,n1⟩:=fresh (List.replicate 32 (.int .u8 0)) h;have L1:=bc (n:=64) (aA.get o1 hr) (by rw [DS,xA]) (eC pH).1;obtain ⟨h2,e2,o2⟩:=r136 (h:=h1) (by rw [o1.n0];exact hG) (S:=H0) rfl (c:=c) (aA.bytes o1 hl) hn;have dc:=bm (xi H0 l);obtain ⟨h3,e3,k3,g3,_,_⟩:=aX (n:=32) (k':=aY (qU H0 l)) (o2.get g1) (by rw [o2.n0,o1.n0];exact h.n0_le_next) rfl dc.1 dc.2.2;have L3:=bc g3 dc.1 dc.2.1;refine ⟨h3,aD is108 hG rfl ((t108_eq _ _ _).trans ?_),aA.bx (o1.trans o2) k3 (DF _)⟩;unfold t108;simp -implicitDefEqProofs only [z1,L1,bldH,e2,e3,ae,af];exact cX results108 lU fY (show 2<7 by decide) _ L3
def yQ (r:ao):List Nat:=qU H0 ([0]++jI r)
def uq (a b:List Nat):List Nat:=qU H0 (([1]++a)++b)
set_option maxRecDepth 100000 in
theorem r72 {h:ad} (hG:4<=h.n0) (hr:GR h) (hz:GZ h) {r:ao} (w:r.Wf) (v:de r=true) : ∃ h',CW 70 [.agg (bL r).toArray] h=some (.agg (aY (yQ r)).toArray,h')/\aA h h':=by
 obtain ⟨h1,b1,o1,g1,n1⟩:=cJ h w;obtain ⟨h2,z2,o2,g2,n2⟩:=fresh (List.replicate 32 (.int .u8 0)) h1;have L2:=bc (o2.get g1) (aM w).1 (aM w).2.1;have O2:=o1.trans o2;obtain ⟨v3,h3,e3,w3,o3⟩:=r46 (h:=h2) (by rw [O2.n0];exact hG) (hz.old O2) w v;have O3:=O2.trans o3;obtain ⟨a3,c3,rfl,s3,_,_⟩:=w3.bytes;rw [za w] at s3 e3;have b4:cg 1 (.int .u8 0) 1 [(0,.int .u8 0)] h3=some (.slice (some ⟨h3.next,0,none⟩) 1 1,h3.alloc [u8 0]):=r9 h3 0;have o4:aA h3 (h3.alloc [u8 0]):=az.alloc _ _ _;obtain ⟨v5,h5,e5,w5,o5⟩:=sA (c:=c3) (jD h3 (x:=0) (by decide)) (aA.bytes o4 s3) (by decide) (by decide);have O5:=(O3.trans o4).trans o5;obtain ⟨a5,c5,rfl,s5,_,_⟩:=w5.bytes;have l5:([0]++jI r).length=54:=by rw [DH,za w];rfl
 rw [l5] at s5 e5;obtain ⟨h6,e6,o6⟩:=r108 (h:=h5) (by rw [O5.n0];exact hG) (hr.old O5) (c:=c5) s5 (by decide);have e6:CW 69 [.slice a5 54 c5] h5=some (.agg (aY (yQ r)).toArray,h6):=e6;have O6:=O5.trans o6;have dc:=bm (show ic (yQ r) from xi _ _);obtain ⟨h7,e7,k7,g7,_,_⟩:=aX (n:=32) (k':=aY (yQ r)) (aA.get (((o3.trans o4).trans o5).trans o6) g2) (by rw [O6.n0];have:=h.n0_le_next;have:=o1.next;omega) rfl dc.1 dc.2.2;have L7:=bc g7 dc.1 dc.2.1;refine ⟨h7,aD is72 hG rfl ((t72_eq _ _ _).trans ?_),aA.bx O6 k7 (by have:=o1.next;omega)⟩;unfold t72;simp -implicitDefEqProofs only [b1,z2,L2,e3,ext0,ext1,b4,e5,e6,e7,ae,af];exact cX results72 lU fY (show 2<14 by decide) _ L7
set_option maxRecDepth 100000 in
theorem r110 {h:ad} (hG:4<=h.n0) (hr:GR h) {a b:List Nat} (wa:ic a) (wb:ic b) : ∃ h',CW 72 [.agg (aY a).toArray,.agg (aY b).toArray] h=some (.agg (aY (uq a b)).toArray,h')/\aA h h':=by
 have ca:=bm wa;have cb:=bm wb;have b1:=dG h _ ca.2.2;have o1:aA h (h.alloc (aY a)):=az.alloc _ _ _;have g1:(h.alloc (aY a)).get h.next=some (aY a):=by rw [ad.aF,DL rfl]
 have n1:(h.alloc (aY a)).next=h.next+1:=ad.cq ..;generalize h.alloc (aY a)=h1 at *;have b2:=dG h1 _ cb.2.2;have o2:aA h1 (h1.alloc (aY b)):=az.alloc _ _ _;have g2:(h1.alloc (aY b)).get h1.next=some (aY b):=by rw [ad.aF,DL rfl]
 have n2:(h1.alloc (aY b)).next=h1.next+1:=ad.cq ..;generalize h1.alloc (aY b)=h2 at *;obtain ⟨h3,z3,o3,g3,n3⟩:=fresh (List.replicate 32 (.int .u8 0)) h2;have O3:=(o1.trans o2).trans o3;have b5:cg 1 (.int .u8 0) 1 [(0,.int .u8 1)] h3=some (.slice (some ⟨h3.next,0,none⟩) 1 1,h3.alloc [u8 1]):=r9 h3 1;have o4:aA h3 (h3.alloc [u8 1]):=az.alloc _ _ _;have s1 : ∀ g,aA h1 g->av (some ⟨h.next,0,none⟩) 32 g=some a:=fun g o=>by have:=cG (off:=0) (n:=32) (s:=none) (aA.get o g1) (by rw [wa.1];decide) wa.2;rw [EJ,D1 (by rw [wa.1];decide)] at this;exact this
 have s2 : ∀ g,aA h2 g->av (some ⟨h1.next,0,none⟩) 32 g=some b:=fun g o=>by have:=cG (off:=0) (n:=32) (s:=none) (aA.get o g2) (by rw [wb.1];decide) wb.2;rw [EJ,D1 (by rw [wb.1];decide)] at this;exact this
 obtain ⟨v5,h5,e5,w5,o5⟩:=sA (c:=32) (jD h3 (x:=1) (by decide)) (s1 _ ((o2.trans o3).trans o4)) (by decide) (by decide);have O5:=(o3.trans o4).trans o5;have w5':eS h5 h3.next v5 ([1]++a):=w5.weak o4.next;obtain ⟨v6,h6,e6,w6,o6⟩:=yq (h0:=h3) (c:=32) (o4.trans o5) w5' (s2 _ O5) (by rw [DH,wa.1];decide);have OO6:aA h h6:=O3.trans o6;obtain ⟨a6,c6,rfl,s6,_,_⟩:=w6.bytes;have l6:(([1]++a)++b).length=65:=by rw [DH,DH,wa.1,wb.1];rfl
 rw [l6] at s6 e6;obtain ⟨h7,e7,o7⟩:=r108 (h:=h6) (by rw [OO6.n0];exact hG) (hr.old OO6) (c:=c6) s6 (by decide);have e7:CW 69 [.slice a6 65 c6] h6=some (.agg (aY (uq a b)).toArray,h7):=e7;have O7:=OO6.trans o7;have dc:=bm (show ic (uq a b) from xi _ _);obtain ⟨h8,e8,k8,g8,_,_⟩:=aX (n:=32) (k':=aY (uq a b)) (aA.get (o6.trans o7) g3) (by rw [O7.n0];have:=h.n0_le_next;omega) rfl dc.1 dc.2.2;have L8:=bc g8 dc.1 dc.2.1;refine ⟨h8,aD is110 hG rfl ((t110_eq _ _ _ _).trans ?_),aA.bx O7 k8 (by omega)⟩;unfold t110;simp -implicitDefEqProofs only [b1,b2,z3,ym,b5,e5,e6,e7,e8,ae,af];exact cX results110 lU fY (show 4<11 by decide) _ L8
end Go.Proofs.YtdnahgfgoajmcaaGreatDoor
namespace Go.Proofs.YtdnahgfgoajmcaaGreatDoor
open Go Go.Abs Tryz
theorem lu : ∀ (f:Nat) (s:HD) (l:List Nat),s.B.length=64->l.length<=f ->
  (HD.wrN f s l).S=gC ((s.n%64+l.length)/64) (s.B.take (s.n%64)++l) s.S/\(HD.wrN f s l).B.take ((s.n+l.length)%64)=(s.B.take (s.n%64)++l).drop (64*((s.n%64+l.length)/64))/\(HD.wrN f s l).n=s.n+l.length/\(HD.wrN f s l).B.length=64:=by
 have bN : ∀ (s:HD),s.B.length=64->s.S=gC ((s.n%64+([]:List Nat).length)/64) (s.B.take (s.n%64) ++ []) s.S/\s.B.take ((s.n+([]:List Nat).length)%64)=(s.B.take (s.n%64) ++ []).drop (64*((s.n%64+([]:List Nat).length)/64))/\s.n=s.n+([]:List Nat).length/\s.B.length=64:=by
  intro s hB;have h0:(s.n%64+([]:List Nat).length)/64=0:=by simp only [List.length_nil];omega
  rw [h0];refine ⟨rfl,?_,rfl,hB⟩;rw [EN,Nat.mul_zero,EJ];rfl
 intro f;induction f with
 |zero=>
  intro s l hB hl;have:l = []:=DU.1 (by omega);subst this;exact bN s hB
 |succ f ih=>
  intro s l hB hl;rw [HD.wrN];by_cases e:l = []
  ·subst e;rw [DL rfl];exact bN s hB
  ·rw [DM e];have hp:0<l.length:=HN.2 e;have hm:s.n%64<64:=GV _ (by decide);generalize hat:s.n%64=a at *;generalize hk:min l.length (64-a)=k at *;have hPB:(s.put l).B=s.B.take a++(l.take k++s.B.drop (a+k)):=by unfold HD.put;simp only [hat,hk]
   have hPn:(s.put l).n=s.n+k:=by unfold HD.put;simp only [hat,hk]
   have hPS:(s.put l).S=if a+k=64 then fX s.S (s.B.take a++(l.take k++s.B.drop (a+k))) else s.S:=by unfold HD.put;simp only [hat,hk]
   have hPl:(s.put l).B.length=64:=by rw [hPB];simp only [DH,DW,D8,hB];omega
   obtain ⟨i1,i2,i3,i4⟩:=ih (s.put l) (l.drop k) hPl (by rw [D8];omega);have hdl:(l.drop k).length=l.length-k:=D8;rw [hPn,hdl] at i1 i2 i3;by_cases hc:a+k=64
   ·have a0:(s.n+k)%64=0:=by omega
    have t1:(a+l.length)/64=(l.length-k)/64+1:=by omega
    have hB2:s.B.take a++(l.take k++s.B.drop (a+k))=(s.B.take a++l).take 64:=by rw [hc,FR (by omega),EN,List.take_append,DW,hB,HB (by omega),HI,Nat.min_eq_right (by omega),show 64-a=k by omega]
    have hD2:l.drop k=(s.B.take a++l).drop 64:=by have q:(s.B.take a).drop 64 = []:=FR (by rw [DW];omega);rw [List.drop_append,DW,hB,HB (by omega),q,List.nil_append,show 64-a=k by omega]
    rw [a0,List.take_zero,List.nil_append,DG] at i1 i2;rw [hPS,DL hc,hB2] at i1;refine ⟨?_,?_,by rw [i3];omega,i4⟩
    ·rw [i1,t1,gC,<-hD2]
    ·rw [show (s.n+l.length)%64=(s.n+k+(l.length-k))%64 by congr 1;omega,i2,t1,hD2,E8]
     congr 1
     omega
   ·have hkl:k=l.length:=by omega
    have d0:l.drop k = []:=FR (by omega);have a1:(s.n+k)%64=a+l.length:=by omega
    have t0:(a+l.length)/64=0:=by omega
    have z0:((s.n+k)%64+(l.length-k))/64=0:=by omega
    rw [z0] at i1 i2;rw [d0] at i1 i2 i3 i4 |-;rw [hPS,DM hc] at i1;refine ⟨?_,?_,by rw [i3];omega,i4⟩
    ·rw [i1,t0];rfl
    ·rw [show (s.n+l.length)%64=(s.n+k+(l.length-k))%64 by congr 1;omega,i2,t0,a1,hPB];rw [Nat.mul_zero,EJ,EJ,EN,<-List.append_assoc,FU (by simp [hB];omega),D1 (by simp [hB];omega),hkl,E9]
theorem vC : ∀ (t u:Nat) (m:List Nat) (S:List (BitVec 32)),gC (t+u) m S=gC u (m.drop (64*t)) (gC t m S)
 | 0,u,m,S=>by rw [DG,Nat.mul_zero,EJ,gC]
 |t+1,u,m,S=>by rw [show t+1+u=(t+u)+1 by omega,gC,vC t u,gC,E8,show 64+64*t=64*(t+1) by omega]
theorem vf : ∀ (t:Nat) (m x:List Nat) (S:List (BitVec 32)),64*t<=m.length->gC t (m++x) S=gC t m S
 | 0,_,_,_,_=>rfl
 |t+1,m,x,S,h=>by rw [gC,gC,FU (by omega),GA (by omega),vf t _ x _ (by rw [D8];omega)]
theorem beB8_at (v:Nat) {j:Nat} (hj:j<8):(fL 8 v)[j]? = some (v/2^(56-8*j)%256):=by
 match j,hj with
 | 0,_=>rfl
 | 1,_=>rfl
 | 2,_=>rfl
 | 3,_=>rfl
 | 4,_=>rfl
 | 5,_=>rfl
 | 6,_=>rfl
 | 7,_=>rfl
theorem Bc {N:Nat} (h1:1<=N) (h2:N<=64) (v:Nat) : ∀ j,j<=8->rR N v j=(128::List.replicate (N-1) 0)++((fL 8 v).take j++List.replicate (72-N-j) 0)
 | 0,_=>by
   rw [rR,List.take_zero,List.nil_append,List.cons_append,List.replicate_append_replicate]
   congr 2
   omega
 |j+1,h=>by
  rw [rR,Bc h1 h2 v j (by omega)];have hT:(fL 8 v).take (j+1)=(fL 8 v).take j ++ [v/2^(56-8*j)%256]:=by rw [IP,beB8_at v (by omega)];rfl
  have hR:List.replicate (72-N-j) 0=0::List.replicate (72-N-(j+1)) 0:=by rw [show 72-N-j=(72-N-(j+1))+1 by omega,List.replicate_succ]
  rw [hT,hR,<-List.append_assoc,set_nat (A:=(128::List.replicate (N-1) 0)++(fL 8 v).take j) (B':=(v/2^(56-8*j)%256)::List.replicate (72-N-(j+1)) 0) 0 (by simp [bO];omega) rfl];simp only [EC,List.cons_append,List.nil_append]
theorem padOf_eq (n:Nat):gH n=([128]++List.replicate (jf n) 0)++fL 8 (n*8):=by
 have hz:64-(n+8)%64-1=jf n:=by unfold jf;omega
 have hm:(n+8)%64<64:=GV _ (by decide);unfold gH;rw [Bc (by omega) (by omega) _ 8 (DF _),hz,D1 (l:=fL 8 (n*8)) (by rw [bO];decide)];have e:(128::List.replicate (jf n) 0)++(fL 8 (n*8)++List.replicate (72-(64-(n+8)%64)-8) 0)=(([128]++List.replicate (jf n) 0)++fL 8 (n*8))++List.replicate (72-(64-(n+8)%64)-8) 0:=by simp only [EC,List.cons_append,List.nil_append]
 rw [e,FU (by simp [bO];omega),D1 (by simp [bO];omega)]
theorem HD.B4 (s:HD):s.sum=mI (s.wr (gH s.n)).S 32:=rfl
theorem HD.uZ (s:HD) (l:List Nat):s.wr l=HD.wrN l.length s l:=rfl
theorem xP (l:List Nat):(zX.wr l).sum=qU H0 l:=by
 obtain ⟨a1,a2,a3,a4⟩:=lu l.length zX l rfl (DF _);have n0:zX.n=0:=rfl;rw [n0] at a1 a2 a3;have e0:(0:Nat)%64=0:=rfl;rw [e0,List.take_zero,List.nil_append,DG] at a1 a2;rw [DG] at a3;obtain ⟨b1,_,_,_⟩:=lu (gH l.length).length (zX.wr l) (gH l.length) a4 (DF _);have a3:(zX.wr l).n=l.length:=a3;have a2:(zX.wr l).B.take (l.length%64)=l.drop (64*(l.length/64)):=a2;have a1:(zX.wr l).S=gC (l.length/64) l H0:=a1;rw [a3,a2,a1] at b1;have hp:padM l=l++gH l.length:=by rw [padOf_eq];unfold padM;simp only [EC]
 have hpl:(gH l.length).length=jf l.length+9:=by rw [padOf_eq];simp [bO]
 have hb:jQ l=l.length/64+(l.length%64+(gH l.length).length)/64:=by unfold jQ;rw [hpl];omega
 have q:(zX.wr l).sum=mI ((zX.wr l).wr (gH (zX.wr l).n)).S 32:=HD.B4 _;rw [q,a3,HD.uZ (zX.wr l) (gH l.length),b1];unfold qU;rw [hb,hp,vC,vf (l.length/64) l (gH l.length) H0 (by omega),GA (by omega)]
theorem sum_congr {s u:HD} (hs:s.B.length=64) (hu:u.B.length=64) (hS:s.S=u.S) (hn:s.n=u.n) (hB:s.B.take (s.n%64)=u.B.take (u.n%64)):s.sum=u.sum:=by obtain ⟨a1,_⟩:=lu (gH s.n).length s (gH s.n) hs (DF _);obtain ⟨b1,_⟩:=lu (gH u.n).length u (gH u.n) hu (DF _);rw [HD.B4,HD.B4,HD.uZ s (gH s.n),HD.uZ u (gH u.n),a1,b1,hS,hB,hn]
theorem wr_two {s:HD} (hs:s.B.length=64) (a b:List Nat):((s.wr a).wr b).sum=(s.wr (a++b)).sum:=by
 obtain ⟨a1,a2,a3,a4⟩:=lu a.length s a hs (DF _);rw [<-HD.uZ s a] at a1 a2 a3 a4;obtain ⟨b1,b2,b3,b4⟩:=lu b.length (s.wr a) b a4 (DF _);rw [<-HD.uZ (s.wr a) b] at b1 b2 b3 b4;obtain ⟨c1,c2,c3,c4⟩:=lu (a++b).length s (a++b) hs (DF _);rw [<-HD.uZ s (a++b)] at c1 c2 c3 c4;rw [a3] at b1 b2 b3;rw [a2] at b1 b2;rw [DH] at c1 c2 c3;have hP:(s.B.take (s.n%64)).length=s.n%64:=by have:s.n%64<64:=GV _ (by decide);rw [DW,hs,HB (by omega)]
 have ht:(s.n%64+(a.length+b.length))/64=(s.n%64+a.length)/64+((s.n+a.length)%64+b.length)/64:=by omega
 have hle:64*((s.n%64+a.length)/64)<=(s.B.take (s.n%64)++a).length:=by rw [DH,hP];omega
 have hd:(s.B.take (s.n%64)++(a++b)).drop (64*((s.n%64+a.length)/64))=(s.B.take (s.n%64)++a).drop (64*((s.n%64+a.length)/64))++b:=by rw [<-List.append_assoc,GA hle]
 refine sum_congr b4 c4 ?_ (by rw [b3,c3];omega) ?_
 ·rw [b1,c1,a1,ht,vC,hd,<-List.append_assoc,vf _ _ b _ hle]
 ·rw [b3,b2,c3,show s.n+(a.length+b.length)=s.n+a.length+b.length by omega,show (s.n+a.length+b.length)%64=(s.n+(a.length+b.length))%64 by congr 1;omega,c2,ht,Nat.mul_add,<-List.drop_drop,hd]
theorem leaf_same (r:ao):pK r=yQ r:=by unfold pK yQ;rw [wr_two rfl,xP]
theorem node_same (a b:List Nat):dg a b=uq a b:=by have h1:(zX.wr [1]).B.length=64:=(lu 1 zX [1] rfl (DF _)).2.2.2;unfold dg uq;rw [wr_two h1,wr_two rfl,xP,EC]
end Go.Proofs.YtdnahgfgoajmcaaGreatDoor
namespace Go.Proofs.YtdnahgfgoajmcaaGreatDoor
open Go Go.Abs Tryz
attribute [local congr] aq
def jy:Nat->Nat->Nat->Nat
 | 0,m,_=>m
 |f+1,m,n=>if 2*m<n then jy f (2*m) n else m
def dE (n:Nat):Nat:=jy 30 1 n
theorem is109:bP prog 71 f71:=by constructor<;>kernel_rfl
theorem r109 {h:ad} (hG:4<=h.n0) {n:Nat} (hn:n<=1048576):CW 71 [ak n] h=some (ak (dE n),h):=by
 refine aD is109 hG rfl ((t109_eq _ _ _).trans ?_);unfold t109;simp -implicitDefEqProofs only [ae];refine bq (n:=11) (fin:=fun ex y g=>ex = .exit 0/\g=h/\y 3=ak (dE n)) (Q:=fun o:aS=>o=some (ak (dE n),h))
  (bk (vd CW) (Inv:=fun k y g => ∃ m,y 0=ak n/\y 3=ak m/\g=h/\m<=1048576/\jy k m n=dE n/\n<=m*2^(k+1)) ?_ 30 (by have:aB=18446744073709551616:=rfl;omega) ⟨1,rfl,rfl,rfl,by decide,rfl,by omega⟩) ?_
 ·rintro k y g ⟨m,y0,y3,rfl,hm,hh,hb⟩;unfold mu;have m1:aC prog .mul 3 (.int .i64 2) (ak m)=some (ak (2*m)):=by unfold ak;rw [iC,show (2:Int)*(m:Int)=((2*m:Nat):Int) by omega,wrap_i64 (by omega) (by omega)]
  have m2:aC prog .mul 3 (ak m) (.int .i64 2)=some (ak (2*m)):=by unfold ak;rw [iC,show (m:Int)*2=((2*m:Nat):Int) by omega,wrap_i64 (by omega) (by omega)]
  simp -implicitDefEqProofs only [y0,y3,m1,eK,ae,af];by_cases hlt:2*m<n
  ·cases k with
   |zero=>omega
   |succ k=>
    simp -implicitDefEqProofs only [DA hlt, m2, ae, af];refine cR.next k (by omega) ⟨2*m,y0,rfl,rfl,by omega,?_,?_⟩
    ·rw [<-hh,jy,DL hlt]
    ·calc n<=m*2^(k+1+1):=hb
      _=2*m*2^(k+1):=by rw [Nat.pow_succ 2 (k+1),JF (2^(k+1)) 2,<-Nat.mul_assoc,JF m 2]
  ·simp -implicitDefEqProofs only [DB hlt];refine cR.out 0 ⟨rfl,rfl,?_⟩;rw [<-hh];show y 3=_;rw [y3];cases k with
   |zero=>rfl
   |succ k=>rw [jy,DM hlt]
 ·rintro ex z g ⟨rfl,rfl,z3⟩;simp -implicitDefEqProofs only [aV,b109_3,DY,Av];unfold sj;rw [z3];rfl
def lvl:Nat->Nat->Nat->Nat×Nat
 | 0,i,b=>(i,b)
 |f+1,i,b=>if i%2=0/\i≠0 then lvl f (i/2) (b/2) else (i,b)
theorem and1 {i:Nat} (hi:i<=1048576):aC prog .and 3 (ak i) (.int .i64 1)=some (ak (i%2)):=by
 unfold ak;rw [dZ];unfold jP pe;simp only;have e1:BitVec.ofInt (IntKind.bits .i64) ((i:Nat):Int)=BitVec.ofNat 64 i:=by show BitVec.ofInt 64 _=_;rw [BitVec.ofInt_natCast]
 have e2:BitVec.ofInt (IntKind.bits .i64) 1=BitVec.ofNat 64 1:=rfl;rw [e1,e2];have e3:(BitVec.ofNat 64 i &&& BitVec.ofNat 64 1).toNat=i%2:=by rw [BitVec.toNat_and,HV,HV,GG (by omega),show 1%2^64=1 from rfl,Nat.and_one_is_mod]
 show some (Value.int .i64 (IntKind.wrap .i64 (((BitVec.ofNat 64 i &&& BitVec.ofNat 64 1).toNat:Nat):Int)))=_;rw [e3,wrap_i64 (by omega) (by omega)]
theorem shr1 {i:Nat}:aC prog .shr 3 (ak i) (.int .u64 1)=some (ak (i/2)):=ez prog 3 (k := .i64) (k' := .u64) (b:=1) (by decide)
def PR (h:ad) (v:Value) (P:List (List Nat)):Prop:=
 (∃ a c,v = .slice a P.length c)/\(∀ p∈P,ic p) /\ ∀ j,j<P.length -> ∃ b o,idxS 32 v (ak j)=some (ptr b o)/\b<h.next /\ ∀ g:ad,g.get b=h.get b->cx 32 (ptr b o) g=some (.agg (aY (P.getD j [])).toArray,g)
def vr:List (List Nat)->Nat->Nat->List Nat->Option (Nat×List Nat)
 | [],_,b,D=>some (b,D)
 |p::P,i,b,D=>if b=0 then none else if i%2=1\/i=b then vr P ((lvl i i b).1/2) ((lvl i i b).2/2) (dg p D) else vr P (i/2) (b/2) (dg D p)
theorem eql0 (b:Nat):aC prog .eql 3 (ak b) (.int .i64 0)=some (.bool (decide (b=0))):=by
 unfold ak;rw [bA]
 congr 2
 rw [HZ];simp only [beq_iff_eq,DR];omega
theorem PR.mono {h h':ad} {v:Value} {P:List (List Nat)} (x:PR h v P) (o:aA h h'):PR h' v P:=by refine ⟨x.1,x.2.1,fun j hj => ?_⟩;obtain ⟨b,q,h1,h2,h3⟩:=x.2.2 j hj;have hb:h'.get b=h.get b:=az.get o b h2 (fun h=>h);exact ⟨b,q,h1,ED h2 o.next,fun g e=>h3 g (e.trans hb)⟩
theorem halfG_ge : ∀ (f m n:Nat),m<=jy f m n
 | 0,m,n=>DF _
 |f+1,m,n=>by
  rw [jy];split
  ·exact D5 (by omega) (halfG_ge f (2*m) n)
  ·exact DF _
theorem halfG_lt : ∀ (f m n:Nat),m<n->jy f m n<n
 | 0,m,n,h=>h
 |f+1,m,n,h=>by
  rw [jy];split
  ·exact halfG_lt f (2*m) n (by assumption)
  ·exact h
theorem ph (n:Nat):1<=dE n:=halfG_ge _ _ _
theorem uh {n:Nat} (h:2<=n):dE n<n:=halfG_lt _ _ _ h
theorem eql1 (n:Nat):aC prog .eql 3 (ak n) (.int .i64 1)=some (.bool (decide (n=1))):=by
 unfold ak;rw [bA]
 congr 2
 rw [HZ];simp only [beq_iff_eq,DR];omega
theorem sub_nn {a b:Nat} (h:b<=a) (ha:a<9223372036854775808):aC prog .sub 3 (ak a) (ak b)=some (ak (a-b)):=by unfold ak;rw [fi,show (a:Int)-(b:Int)=((a-b:Nat):Int) by omega,wrap_i64 (by omega) (by omega)]
theorem sub_n1 {a:Nat} (h:1<=a) (ha:a<9223372036854775808):aC prog .sub 3 (ak a) (.int .i64 1)=some (ak (a-1)):=sub_nn (b:=1) h ha
def gS (v:Value):Prop := ∃ a n c,v = .slice a n c/\n<=c/\(0<n -> ∀ b o s,a=some ⟨b,o,some s⟩->s=32)
theorem PR.gY {h:ad} {v:Value} {P:List (List Nat)} {p:List Nat} (x:PR h v (P ++ [p])) : ∃ b o,idxS 32 v (ak P.length)=some (ptr b o)/\ic p /\ ∀ g:ad,aA h g->cx 32 (ptr b o) g=some (.agg (aY p).toArray,g):=by
 obtain ⟨b,o,e1,e2,e3⟩:=x.2.2 P.length (by rw [DH,List.length_singleton];omega);have e4:(P ++ [p]).getD P.length []=p:=by rw [DK,EG (DF _),H4];rfl
 rw [e4] at e3;exact ⟨b,o,e1,x.2.1 p (IY _ ER),fun g og=>e3 g (az.get og b e2 (fun h=>h))⟩
theorem PR.len {h:ad} {v:Value} {P:List (List Nat)} (x:PR h v P):lenL v=some (ak P.length):=by obtain ⟨⟨a,c,rfl⟩,_,_⟩:=x;rfl
end Go.Proofs.YtdnahgfgoajmcaaGreatDoor
namespace Go.Proofs.YtdnahgfgoajmcaaGreatDoor
open Go Go.Abs Tryz
theorem qJ (f m n:Nat):jy (f+1) m n=if 2*m<n then jy f (2*m) n else m:=rfl
theorem yc : ∀ (f m n:Nat),n<=m*2^(f+1)->jy (f+1) m n=jy f m n
 | 0,m,n,h=>by rw [qJ,DM (by omega)];rfl
 |f+1,m,n,h=>by
  rw [qJ (f+1) m n,qJ f m n];split
  ·exact yc f (2*m) n (by
    calc n<=m*2^(f+1+1):=h
     _=2*m*2^(f+1):=by rw [Nat.pow_succ 2 (f+1),JF (2^(f+1)) 2,<-Nat.mul_assoc,JF m 2])
  ·rfl
theorem BO : ∀ (f m n:Nat),jy f (2*m) n=2*jy f m ((n+1)/2)
 | 0,m,n=>rfl
 |f+1,m,n=>by
  rw [qJ,qJ];by_cases c:2*(2*m)<n
  ·rw [DL c,DL (by omega),BO f (2*m) n]
  ·rw [DM c,DM (by omega)]
theorem half_two {n:Nat} (h:3<=n) (hn:n<=1048576):dE n=2*dE ((n+1)/2):=by unfold dE;rw [show jy 30 1 n=jy 29 (2*1) n by rw [qJ,DL (by omega)],BO 29 1 n,yc 29 1 _ (by omega)]
def stp (i:Nat) (p D:List Nat):List Nat:=if i%2=1 then uq p D else uq D p
section
variable (nd:List Nat->List Nat->List Nat)
def pj:Nat->List (List Nat)->List Nat
 | 0,_ => []
 |f+1,L=>if L.length<=1 then L.headD [] else nd (pj f (L.take (dE L.length))) (pj f (L.drop (dE L.length)))
def pS (L:List (List Nat)):List Nat:=pj nd L.length L
theorem xz (f:Nat) (L:List (List Nat)):pj nd (f+1) L=if L.length<=1 then L.headD [] else nd (pj nd f (L.take (dE L.length))) (pj nd f (L.drop (dE L.length))):=rfl
theorem nF : ∀ (f g:Nat) (L:List (List Nat)),L.length<=f->L.length<=g->pj nd f L=pj nd g L
 | 0,0,L,_,_=>rfl
 | 0,g+1,L,h,_=>by have:L = []:=DU.1 (by omega);subst this;rfl
 |f+1,0,L,_,h=>by have:L = []:=DU.1 (by omega);subst this;rfl
 |f+1,g+1,L,h1,h2=>by
  rw [xz nd,xz nd];split
  ·rfl
  ·rename_i c;have a1:=ph L.length;have a2:=uh (n:=L.length) (by omega);rw [nF f g (L.take (dE L.length)) (by rw [DW];omega) (by rw [DW];omega),nF f g (L.drop (dE L.length)) (by rw [D8];omega) (by rw [D8];omega)]
theorem vL {L:List (List Nat)} (h:2<=L.length):pS nd L=nd (pS nd (L.take (dE L.length))) (pS nd (L.drop (dE L.length))):=by
 have a1:=ph L.length;have a2:=uh h;unfold pS;obtain ⟨f,hf⟩ : ∃ f,L.length=f+1:=⟨L.length-1,by omega⟩
 rw [show pj nd L.length L=pj nd (f+1) L by rw [hf],xz nd,DM (by omega),nF nd f (L.take (dE L.length)).length _ (by rw [DW];omega) (DF _),nF nd f (L.drop (dE L.length)).length _ (by rw [D8];omega) (DF _)]
theorem treeN_one (d:List Nat):pS nd [d]=d:=rfl
def iP:List (List Nat)->List (List Nat)
 |a::b::L=>nd a b::iP L
 |L=>L
theorem qf (a b:List Nat) (L:List (List Nat)):iP nd (a::b::L)=nd a b::iP nd L:=rfl
theorem qL : ∀ (L:List (List Nat)),(iP nd L).length=(L.length+1)/2
 | []=>rfl
 | [a]=>by rw [show iP nd [a] = [a] from rfl,List.length_singleton]
 |a::b::L=>by rw [qf nd,List.length_cons,qL L,List.length_cons,List.length_cons];omega
theorem xV : ∀ (k:Nat) (L:List (List Nat)),(iP nd L).take k=iP nd (L.take (2*k))
 | 0,L=>by rw [Nat.mul_zero,List.take_zero,List.take_zero];rfl
 |k+1,[]=>rfl
 |k+1,[a]=>by rw [show 2*(k+1)=(2*k+1)+1 by omega,List.take_succ_cons,List.take_nil,show iP nd [a] = [a] from rfl,List.take_succ_cons,List.take_nil]
 |k+1,a::b::L=>by rw [qf nd,List.take_succ_cons,xV k L,show 2*(k+1)=(2*k+1)+1 by omega,List.take_succ_cons,List.take_succ_cons,qf nd]
theorem zh : ∀ (k:Nat) (L:List (List Nat)),(iP nd L).drop k=iP nd (L.drop (2*k))
 | 0,L=>by rw [Nat.mul_zero,EJ,EJ]
 |k+1,[]=>by rw [List.drop_nil];rfl
 |k+1,[a]=>by rw [show 2*(k+1)=(2*k+1)+1 by omega,HK,List.drop_nil];rw [show iP nd [a] = [a] from rfl,HK,List.drop_nil];rfl
 |k+1,a::b::L=>by rw [qf nd,HK,zh k L,show 2*(k+1)=(2*k+1)+1 by omega,HK,HK]
theorem treeN_pairs : ∀ (n:Nat) (L:List (List Nat)),L.length=n->n<=1048576->pS nd (iP nd L)=pS nd L:=by
 intro n;induction n using Nat.strongRecOn with
 |_ n ih=>
  intro L hL hn
  match L,hL with
  | [],_=>rfl
  | [a],_=>rfl
  | [a,b],_=>rfl
  |a::b::c::L,hL=>
   have h3:3<=n:=by rw [List.length_cons,List.length_cons,List.length_cons] at hL;omega
   generalize a::b::c::L=M at *;have ht:=half_two h3 hn;have hp:=ph ((n+1)/2);have hl:=uh (n:=n) (by omega);have pl:=qL nd M;rw [hL] at pl;rw [vL nd (L:=iP nd M) (by omega),vL nd (L:=M) (by omega),pl,xV nd,zh nd,hL,ht];rw [ih (M.take (2*dE ((n+1)/2))).length (by rw [DW];omega) _ rfl (by rw [DW];omega),ih (M.drop (2*dE ((n+1)/2))).length (by rw [D8];omega) _ rfl (by rw [D8];omega)]
def push:Nat->List Nat->List (List Nat)->Nat->List (List Nat)
 | 0,d,T,_=>d::T
 |f+1,d,T,i=>if i%2=1 then (match T with|x::T=>push f (nd x d) T (i/2) | [] => [d]) else d::T
theorem kC (f:Nat) (d:List Nat) (T:List (List Nat)) (i:Nat):push nd (f+1) d T i=if i%2=1 then (match T with|x::T=>push nd f (nd x d) T (i/2) | [] => [d]) else d::T:=rfl
theorem B9 (d:List Nat) (T:List (List Nat)) (i:Nat):push nd 0 d T i=d::T:=rfl
theorem BI : ∀ (f g:Nat) (d:List Nat) (T:List (List Nat)) (i:Nat),i<=f->i<=g->push nd f d T i=push nd g d T i
 | 0,0,d,T,i,_,_=>rfl
 | 0,g+1,d,T,i,h,_=>by rw [B9 nd,kC nd,DM (by omega)]
 |f+1,0,d,T,i,_,h=>by rw [B9 nd,kC nd,DM (by omega)]
 |f+1,g+1,d,T,i,h1,h2=>by
  rw [kC nd,kC nd];split
  ·cases T with
   |nil=>rfl
   |cons x T=>exact BI f g (nd x d) T (i/2) (by omega) (by omega)
  ·rfl
def wX:List (List Nat)->List (List Nat)->Nat->List (List Nat)
 | [],T,_=>T
 |d::L,T,i=>wX L (push nd i d T i) (i+1)
theorem sV (d:List Nat) (L T:List (List Nat)) (i:Nat):wX nd (d::L) T i=wX nd L (push nd i d T i) (i+1):=rfl
theorem stk_z (T:List (List Nat)) (i:Nat):wX nd [] T i=T:=rfl
theorem qD : ∀ (L M T:List (List Nat)) (i:Nat),wX nd (L++M) T i=wX nd M (wX nd L T i) (i+L.length)
 | [],M,T,i=>rfl
 |d::L,M,T,i=>by rw [List.cons_append,sV nd,sV nd,qD L M,List.length_cons,F4,IX 1]
def finS:List (List Nat)->List Nat
 | [] => []
 |d::T=>T.foldl (fun d x=>nd x d) d
theorem zG : ∀ (f:Nat) (d:List Nat) (T:List (List Nat)) (i:Nat),finS nd (push nd f d T i)=finS nd (d::T)
 | 0,d,T,i=>rfl
 |f+1,d,T,i=>by
  rw [kC nd];split
  ·cases T with
   |nil=>rfl
   |cons x T=>
    show finS nd (push nd f (nd x d) T (i/2))=_;rw [zG f];rfl
  ·rfl
theorem uH : ∀ (k:Nat) (L M:List (List Nat)),L.length=2*k->iP nd (L++M)=iP nd L++iP nd M
 | 0,L,M,h=>by have:L = []:=DU.1 (by omega);subst this;rfl
 |k+1,L,M,h=>by
  match L,h with
  | [],h=>rw [List.length_nil] at h;omega
  | [a],h=>rw [List.length_cons,List.length_nil] at h;omega
  |a::b::L,h=>
   rw [List.cons_append,List.cons_append,qf nd,qf nd,uH k L M (by rw [List.length_cons,List.length_cons] at h;omega),List.cons_append]
theorem yL : ∀ (k:Nat) (L:List (List Nat)),L.length=2*k->wX nd L [] 0=wX nd (iP nd L) [] 0
 | 0,L,h=>by have:L = []:=DU.1 (by omega);subst this;rfl
 |k+1,L,h=>by
  have e1:L=L.take (2*k)++L.drop (2*k):=(EL _ _).symm;have l1:(L.take (2*k)).length=2*k:=by rw [DW];omega
  have l2:(L.drop (2*k)).length=2:=by rw [D8];omega
  generalize L.take (2*k)=A at *;generalize L.drop (2*k)=B at *;subst e1
  match B,l2 with
  | [a,b],_=>
    have ih:=yL k A l1;have pl:=qL nd A;rw [l1] at pl;have e2:push nd (2*k) a (wX nd A [] 0) (2*k)=a::wX nd A [] 0:=by
     cases k with
     |zero=>rfl
     |succ k=>rw [show 2*(k+1)=(2*k+1)+1 by omega,kC nd,DM (by omega)]
    rw [qD nd,l1,uH nd k A _ l1,qD nd,pl,<-ih,DG,sV nd,sV nd,stk_z nd,e2,kC nd,DL (by omega)];show push nd (2*k) (nd a b) (wX nd A [] 0) ((2*k+1)/2)=wX nd [nd a b] _ _;rw [sV nd,stk_z nd,DG,show (2*k+1)/2=k by omega];exact BI nd _ _ _ _ _ (by omega) (by omega)
theorem fin_stk : ∀ (n:Nat) (L:List (List Nat)),L.length=n->1<=n->n<=1048576->finS nd (wX nd L [] 0)=pS nd L:=by
 intro n;induction n using Nat.strongRecOn with
 |_ n ih=>
  intro L hL h1 hn;by_cases c1:n=1
  ·subst c1
   match L,hL with
   | [d],_=>rfl
  ·have pl:=qL nd L;rw [hL] at pl;have e:=ih ((n+1)/2) (by omega) (iP nd L) pl (by omega) (by omega);rw [treeN_pairs nd n L hL hn] at e;rw [<-e];by_cases c2:n%2=0
   ·rw [yL nd (n/2) L (by omega)]
   ·have e1:L=L.take (2*(n/2))++L.drop (2*(n/2)):=(EL _ _).symm;have l1:(L.take (2*(n/2))).length=2*(n/2):=by rw [DW];omega
    have l2:(L.drop (2*(n/2))).length=1:=by rw [D8];omega
    generalize L.take (2*(n/2))=A at *;generalize L.drop (2*(n/2))=B at *;subst e1
    match B,l2 with
    | [a],_=>
      rw [uH nd (n/2) A _ l1,qD nd,qD nd,yL nd (n/2) A l1];show finS nd (wX nd [a] _ _)=finS nd (wX nd [a] _ _);rw [sV nd,stk_z nd,sV nd,stk_z nd,zG nd,zG nd]
theorem stk_snoc (L:List (List Nat)) (d:List Nat):wX nd (L ++ [d]) [] 0=push nd L.length d (wX nd L [] 0) L.length:=by rw [qD nd,sV nd,stk_z nd,DG]
def Cp:Nat->Nat->Nat
 | 0,_=>0
 |f+1,i=>i%2+Cp f (i/2)
def pc (i:Nat):Nat:=Cp i i
theorem tn : ∀ (f g i:Nat),i<=f->i<=g->Cp f i=Cp g i
 | 0,0,i,_,_=>rfl
 | 0,g+1,i,h,_=>by
   have:i=0:=by omega
   subst this;rw [Cp,show Cp (g+1) 0=0+Cp g 0 from rfl,<-tn 0 g 0 (DF _) (FN _)];rfl
 |f+1,0,i,_,h=>by
  have:i=0:=by omega
  subst this;rw [show Cp (f+1) 0=0+Cp f 0 from rfl,tn f 0 0 (FN _) (DF _)];rfl
 |f+1,g+1,i,h1,h2=>by rw [show Cp (f+1) i=i%2+Cp f (i/2) from rfl,show Cp (g+1) i=i%2+Cp g (i/2) from rfl,tn f g (i/2) (by omega) (by omega)]
theorem tw (i:Nat):pc i=i%2+pc (i/2):=by
 cases i with
 |zero=>rfl
 |succ i=>
  unfold pc;rw [show Cp (i+1) (i+1)=(i+1)%2+Cp i ((i+1)/2) from rfl,tn i ((i+1)/2) _ (by omega) (DF _)]
theorem yG : ∀ (f:Nat) (d:List Nat) (T:List (List Nat)) (i:Nat),i<=f->T.length=pc i->(push nd f d T i).length=pc (i+1)
 | 0,d,T,i,h,hT=>by
   have:i=0:=by omega
   subst this;rw [B9 nd,List.length_cons,hT];rfl
 |f+1,d,T,i,h,hT=>by
  rw [kC nd];rw [tw] at hT;by_cases c:i%2=1
  ·rw [DL c];cases T with
   |nil=>rw [List.length_nil] at hT;omega
   |cons x T=>
    rw [List.length_cons] at hT;have:=yG f (nd x d) T (i/2) (by omega) (by omega);show (push nd f (nd x d) T (i/2)).length=_;rw [this,tw (i+1),show (i+1)/2=i/2+1 by omega,show (i+1)%2=0 by omega,DG]
  ·rw [DM c,List.length_cons,hT,tw (i+1),show (i+1)/2=i/2 by omega,show (i+1)%2=1 by omega];omega
theorem CY : ∀ (L T:List (List Nat)) (i:Nat),T.length=pc i->(wX nd L T i).length=pc (i+L.length)
 | [],T,i,h=>h
 |d::L,T,i,h=>by rw [sV nd,CY L _ _ (yG nd i d T i (DF _) h),List.length_cons,F4,IX 1]
theorem push_ok (hnd : ∀ a b,ic (nd a b)) : ∀ (f:Nat) {d:List Nat} {T:List (List Nat)} (i:Nat),ic d->(∀ t∈T,ic t) -> ∀ t∈push nd f d T i,ic t
 | 0,d,T,i,hd,hT=>fun t ht=>by
   rw [B9 nd] at ht;rcases FJ.1 ht with rfl|ht
   ·exact hd
   ·exact hT t ht
 |f+1,d,T,i,hd,hT=>by
  rw [kC nd];split
  ·cases T with
   |nil=>exact fun t ht=>by rw [EH.1 ht];exact hd
   |cons x T=>exact push_ok hnd f (i/2) (hnd _ _) fun t ht=>hT t (EM _ ht)
  ·intro t ht;rcases FJ.1 ht with rfl|ht
   ·exact hd
   ·exact hT t ht
end
end Go.Proofs.YtdnahgfgoajmcaaGreatDoor
namespace Go.Proofs.YtdnahgfgoajmcaaGreatDoor
open Go Go.Abs Tryz
attribute [local congr] aq
def fT (P:List (List Nat)):List Value:=P.flatMap aY
theorem uF : ∀ {P:List (List Nat)},(∀ p∈P,ic p)->(fT P).length=P.length*32
 | [],_=>rfl
 |p::P,h=>by have ih:=uF (P:=P) fun q hq=>h q (EM _ hq);have hp:=(bm (h p ER)).1;unfold fT at ih |-;rw [E4,DH,ih,hp,List.length_cons];omega
theorem Bg : ∀ {P:List (List Nat)},(∀ p∈P,ic p) -> ∀ {j:Nat},j<P.length->((fT P).drop (j*32)).take 32=aY (P.getD j [])
 | [],_,j,hj=>absurd hj (E0 j)
 |p::P,h,j,hj=>by
  have hp:=(bm (h p ER)).1;cases j with
  |zero=>
   unfold fT;rw [E4,GK,EJ,<-hp,IW];rfl
  |succ j=>
   have ih:=Bg (P:=P) (fun q hq=>h q (EM _ hq)) (j:=j) (by rw [List.length_cons] at hj;omega);unfold fT at ih |-;rw [E4,show (j+1)*32=32+j*32 by omega,<-List.drop_drop,GF hp,List.getD_cons_succ,ih]
theorem digsC_ok : ∀ {P:List (List Nat)},(∀ p∈P,ic p)->Abs.noHoles (fT P)=true/\aJ (fT P)=true
 | [],_=>⟨rfl,rfl⟩
 |p::P,h=>by have ih:=digsC_ok (P:=P) fun q hq=>h q (EM _ hq);have hp:=bm (h p ER);unfold fT at ih |-;unfold Abs.noHoles aJ at *;rw [E4,E6,E6,ih.1,ih.2,hp.2.1,hp.2.2];exact ⟨rfl,rfl⟩
end Go.Proofs.YtdnahgfgoajmcaaGreatDoor
namespace Go.Proofs.YtdnahgfgoajmcaaGreatDoor
open Go Go.Abs Tryz
structure ux (h:ad) (N:Nat) (v:Value) (T:List (List Nat)):Prop where
 dig : ∀ t∈T,ic t
 form:(T = []/\(v = .slice none 0 0 \/ ∃ b,v = .slice (some ⟨b,0,none⟩) 0 0)) \/ ∃ b m X,v = .slice (some ⟨b,0,some 32⟩) T.length m/\N<=b/\T.length<=m/\h.get b=some (fT T++X)/\X.length=(m-T.length)*32/\Abs.noHoles X=true/\aJ X=true
def stB:Value->Option Nat
 | .slice (some ⟨b,_,some _⟩) _ _=>some b
 |_=>none
theorem ux.nil (h:ad) (N:Nat):ux h N (.slice none 0 0) []:=⟨fun _ h=>(by cases h),.inl ⟨rfl,.inl rfl⟩⟩
theorem ux.lt {h:ad} {N:Nat} {v:Value} {T:List (List Nat)} (x:ux h N v T) {b:Nat} (e:stB v=some b):N<=b/\b<h.next:=by
 rcases x.form with ⟨_,rfl|⟨b',rfl⟩⟩|⟨b',m,X,rfl,h1,h2,h3,_⟩
 ·cases e
 ·cases e
 ·cases e;exact ⟨h1,h.aO h3⟩
theorem ux.keep {h h':ad} {N:Nat} {v:Value} {T:List (List Nat)} (x:ux h N v T) {B:Nat->Prop} (k:az h h' B) (hB : ∀ b,stB v=some b -> ¬B b):ux h' N v T:=by
 refine ⟨x.dig,?_⟩;rcases x.form with f|⟨b',m,X,rfl,h1,h2,h3,h4⟩
 ·exact .inl f
 ·exact .inr ⟨b',m,X,rfl,h1,h2,k.getE h3 (hB b' rfl),h4⟩
theorem ux.old {h h':ad} {N:Nat} {v:Value} {T:List (List Nat)} (x:ux h N v T) (k:aA h h'):ux h' N v T:=x.keep k fun _ _ h=>h
theorem ux.len {h:ad} {N:Nat} {v:Value} {T:List (List Nat)} (x:ux h N v T):lenL v=some (ak T.length):=by rcases x.form with ⟨rfl,rfl|⟨b',rfl⟩⟩|⟨b',m,X,rfl,_⟩<;>rfl
theorem ux.pr {h:ad} {N:Nat} {v:Value} {T:List (List Nat)} (x:ux h N v T):PR h v T/\gS v:=by
 rcases x.form with ⟨rfl,rfl|⟨b',rfl⟩⟩|⟨b',m,X,rfl,h1,h2,h3,h4,h5,h6⟩
 ·exact ⟨⟨⟨_,_,rfl⟩,x.dig,fun j hj=>absurd hj (E0 j)⟩,⟨_,_,_,rfl,DF _,fun h=>absurd h (F9 0)⟩⟩
 ·exact ⟨⟨⟨_,_,rfl⟩,x.dig,fun j hj=>absurd hj (E0 j)⟩,⟨_,_,_,rfl,DF _,fun h=>absurd h (F9 0)⟩⟩
 ·refine ⟨⟨⟨_,_,rfl⟩,x.dig,fun j hj => ?_⟩,⟨_,_,_,rfl,h2,fun _ b o s e=>by cases e;rfl⟩⟩;have hl:=uF x.dig;have hm:=BX (z:=32) hj;have e:((fT T++X).drop (j*32)).take 32=aY (T.getD j []):=by rw [GA (by omega),FU (by rw [D8];omega),Bg x.dig hj]
  refine ⟨b',0+j*32,?_,h.aO h3,fun g hg => ?_⟩
  ·unfold idxS ak;simp only;rw [DL (by omega),Int.toNat_natCast]
  ·have dp:ic (T.getD j []):=x.dig _ (by rw [DK,DC hj];exact EA hj)
   have:=nT (o:=0+j*32) (n:=32) (hg.trans h3) (by rw [DH];omega) (by rw [DG,e];exact (bm dp).2.1);rw [DG,e] at this;rw [DG];exact this
theorem uN (A B:List (List Nat)):fT (A++B)=fT A++fT B:=by unfold fT;rw [HL]
theorem qH (d:List Nat):fT [d]=aY d:=by unfold fT;rw [E4,HO,EN]
theorem ux.pop {h:ad} {N:Nat} {v:Value} {T:List (List Nat)} {d:List Nat} (x:ux h N v (T ++ [d])) : ∃ v',iw 32 v none (some (ak T.length)) none=some v'/\ux h N v' T/\stB v'=stB v:=by
 have lT:(T ++ [d]).length=T.length+1:=by rw [DH,List.length_singleton]
 have hd:=x.dig;have dd:=(bm (hd d (IY _ ER)))
 rcases x.form with ⟨h0,_⟩|⟨b,m,X,rfl,h1,h2,h3,h4,h5,h6⟩
 ·rw [h0] at lT;cases lT
 ·rw [lT] at h2 h4 |-;have hb:boundsA (T.length+1) m none (some (ak T.length)) none=some (0,T.length,m):=by
   have a1:boundA m m none=some m:=rfl;have a2:boundA (T.length+1) m (some (ak T.length))=some T.length:=by unfold boundA ak;simp only;rw [DL (by omega)];rfl
   unfold boundsA;rw [a1];simp only [a2];rfl
  refine ⟨.slice (some ⟨b,0,some 32⟩) T.length m,?_,⟨fun t ht=>hd t (I9 _ ht),.inr ⟨b,m,aY d++X,rfl,h1,by omega,?_,?_,?_,?_⟩⟩,rfl⟩
  ·unfold iw sliceSl;simp only [hb];rw [DL ⟨True.intro,by decide⟩,GK,Nat.add_zero,Nat.sub_zero,Nat.sub_zero]
  ·rw [h3,uN,qH,EC]
  ·rw [DH,dd.1,h4];omega
  ·unfold Abs.noHoles at *;rw [E6,dd.2.1,h5];rfl
  ·unfold aJ at *;rw [E6,dd.2.2,h6];rfl
theorem first_one {h:ad} {c:Nat} {d:List Nat} (hd:ic d) (hc:h.get c=some (aY d)):firstA 32 1 (.slice (some ⟨c,0,none⟩) 1 1) h=some (aY d):=by
 have dd:=bm hd;have e:((aY d).drop 0).take (1*32)=aY d:=by rw [EJ,D1 (by rw [dd.1];decide)]
 unfold firstA;simp only;rw [DM (by decide),hc];simp only;rw [e,DL ⟨by rw [dd.1];decide,dd.2.1⟩]
theorem ux.push {h:ad} {N:Nat} {v:Value} {T:List (List Nat)} {d:List Nat} {c:Nat} (x:ux h N v T) (h0:h.n0<=N) (hN:N<=h.next) (hd:ic d) (hl:T.length<=1000000) (hc:h.get c=some (aY d)) :
  ∃ v' h',appendA 32 32 v (.slice (some ⟨c,0,none⟩) 1 1) h=some (v',h')/\ux h' N v' (T ++ [d])/\az h h' (fun b=>stB v=some b)/\(stB v'=stB v\/stB v'=some h.next):=by
 have dd:=bm hd;have hf:=first_one hd hc;have dT : ∀ t∈T ++ [d],ic t:=fun t ht=>by
  rcases D9.1 ht with h|h
  ·exact x.dig t h
  ·rw [EH.1 h];exact hd
 have lT:(T ++ [d]).length=T.length+1:=by rw [DH,List.length_singleton]
 have lc:=uF x.dig;have hcond : ∀ n:Nat,n<=1000000->(!(aJ (aY d)) || !(decide ((n+1)*32<=140737488355328)) || !(decide (n+1<=4611686018427387904))||decide ((aY d).length≠1*32))=false:=by intro n hn;rw [dd.2.2,DA (by omega:(n+1)*32<=140737488355328),DA (by omega:n+1<=4611686018427387904),DB (by rw [dd.1];decide)];rfl
 have new : ∀ g:ad,N<=g.next->T = []->ux (g.alloc (aY d)) N (.slice (some ⟨g.next,0,some 32⟩) 1 1) (T ++ [d]):=fun g hg e=>by subst e;refine ⟨dT,.inr ⟨g.next,1,[],rfl,hg,DF _,?_,rfl,rfl,rfl⟩⟩;rw [ad.aF,DL rfl,EN,List.nil_append,qH]
 rcases x.form with ⟨rfl,rfl|⟨b,rfl⟩⟩|⟨b,m,X,rfl,h1,h2,h3,h4,h5,h6⟩
 ·refine ⟨.slice (some ⟨h.next,0,some 32⟩) 1 1,h.alloc (aY d),?_,new h hN rfl,az.alloc _ _ _,.inr rfl⟩;unfold appendA;simp only [ie,hf];rw [DM (by rw [hcond 0 (by decide)];decide),DM (by decide),DL trivial]
 ·refine ⟨.slice (some ⟨h.next,0,some 32⟩) 1 1,h.alloc (aY d),?_,new h hN rfl,az.alloc _ _ _,.inr rfl⟩;have f0:firstA 32 0 (.slice (some ⟨b,0,none⟩) 0 0) h=some []:=rfl;unfold appendA;simp only [ie,hf,f0];rw [DM (by rw [hcond 0 (by decide)];decide),DM (by decide),DM (by decide)];rfl
 ·have hbn:=h.aO h3;by_cases hm:T.length+1<=m
  ·have st:stL b (0+T.length*32) (aY d) h=some (h.set b (fT T++(aY d++X.drop 32))):=by
    unfold stL;rw [h3];simp only;rw [DL (by rw [dd.2.2,DA (show h.n0<=b by omega),DA (by rw [DH,dd.1,lc,h4];omega)];rfl)]
    congr 2
    have eX:X=X.take 32++X.drop 32:=(EL _ _).symm
    conv=>lhs;rw [eX]
    exact ku (n:=32) (by rw [lc,DG]) (by rw [DW,h4];omega) dd.1
   refine ⟨.slice (some ⟨b,0,some 32⟩) (T.length+1) m,h.set b (fT T++(aY d++X.drop 32)),?_,⟨dT,.inr ⟨b,m,X.drop 32,by rw [lT],h1,by rw [lT];exact hm,?_,?_,?_,?_⟩⟩,az.set (by omega) h3 (.inr rfl),.inl rfl⟩
   ·unfold appendA;simp only [ie,hf];rw [DM (by rw [hcond T.length hl];decide),DL hm,DM (by decide),st];rfl
   ·rw [ad.dF (by omega) h3,uN,qH,EC]
   ·rw [D8,h4,lT];omega
   ·unfold Abs.noHoles at *;rw [DT] at *;exact fun y hy=>h5 y (FV hy)
   ·unfold aJ at *;rw [DT] at *;exact fun y hy=>h6 y (FV hy)
  ·have hmE:m=T.length:=by omega
   subst hmE;have hX:X = []:=DU.1 (by omega);subst hX;rw [EN] at h3;have hf2:firstA 32 T.length (.slice (some ⟨b,0,some 32⟩) T.length T.length) h=some (fT T):=by
    unfold firstA;simp only;by_cases hz:T.length*32=0
    ·rw [DL hz];have:T = []:=DU.1 (by omega);rw [this];rfl
    ·rw [DM hz,h3];simp only;have e:((fT T).drop 0).take (T.length*32)=fT T:=by rw [EJ,D1 (by omega)]
     rw [e,DL ⟨by omega,(digsC_ok x.dig).1⟩]
   have hk : ∀ y,y<h.next->y≠b->((h.kill b).alloc (fT T++aY d)).getB y=h.getB y:=by intro y hy hne;rw [ad.cF,DM (by rw [ad.gh];omega)];exact BK (by omega) hbn hne
   refine ⟨.slice (some ⟨h.next,0,some 32⟩) (T.length+1) (T.length+1),(h.kill b).alloc (fT T++aY d),?_,⟨dT,.inr ⟨h.next,T.length+1,[],by rw [lT],hN,by rw [lT];exact DF _,?_,by rw [lT,H4];rfl,rfl,rfl⟩⟩,⟨rfl,by simp,fun y hy hB=>hk y hy (fun e=>hB (by rw [e];rfl))⟩,.inr rfl⟩
   ·unfold appendA;simp only [ie,hf];rw [DM (by rw [hcond T.length hl];decide),DM (by omega)];simp only [hf2];rw [DM (by rw [lc];simp),DL (by simp [h3];omega)]
   ·rw [ad.aF,DL (by rw [ad.gh]),EN,uN,qH]
end Go.Proofs.YtdnahgfgoajmcaaGreatDoor
namespace Go.Proofs.YtdnahgfgoajmcaaGreatDoor
open Go Go.Abs Tryz
attribute [local congr] aq
theorem is106:bP prog 73 f73:=by constructor<;>kernel_rfl
theorem is107:bP prog 76 f76:=by constructor<;>kernel_rfl
theorem is135:bP prog 98 f98:=by constructor<;>kernel_rfl
theorem is54:bP prog 42 f42:=by constructor<;>kernel_rfl
theorem results106:f73.results.toList = [.cell 2 36]:=by kernel_rfl
theorem results54:f42.results.toList = [.cell 2 36]:=by kernel_rfl
theorem results135:f98.results.toList = []:=by kernel_rfl
def nilD:List Nat:=(zX.wr []).sum
theorem CE:ic nilD:=xv _
set_option maxRecDepth 100000 in
theorem r106 {h:ad} (hG:4<=h.n0) (hz:h.get 3=some bX) : ∃ h',CW 73 [.slice none 0 0] h=some (.agg (aY nilD).toArray,h')/\aA h h':=by obtain ⟨h1,z1,o1,g1,n1⟩:=fresh (List.replicate 32 (.int .u8 0)) h;obtain ⟨h2,e2,o2,g2,n2⟩:=r121 (h:=h1) (by rw [o1.n0];exact hG);have O2:=o1.trans o2;obtain ⟨h3,e3,k3,g3,w3,m3⟩:=r122 (h:=h2) (by rw [O2.n0];exact hG) (aA.get O2 hz) (p:=h1.next) HD0_ok g2 (by rw [O2.n0];have:=h.n0_le_next;have:=o1.next;omega) (a:=none) (n:=0) (c:=0) (l := []) rfl (fun h=>absurd h (by decide)) (fun y hy=>by cases hy) (by decide);have O3:aA h h3:=aA.bx O2 k3 (by have:=o1.next;omega);obtain ⟨h4,e4,o4⟩:=r123 (h:=h3) (by rw [O3.n0];exact hG) (aA.get O3 hz) (p:=h1.next) w3 g3 (by rw [m3];decide);have O4:=O3.trans o4;have e4:CW 97 [ptr h1.next 0] h3=some (.agg (aY nilD).toArray,h4):=e4;have dc:=bm CE;have q2:h4.get h.next=some (List.replicate 32 (.int .u8 0)):=aA.get o4 (az.getE k3 (o2.get g1) (by omega));obtain ⟨h5,e5,k5,g5,_,_⟩:=aX (n:=32) (k':=aY nilD) q2 (by rw [O4.n0];exact h.n0_le_next) rfl dc.1 dc.2.2;have L5:=bc g5 dc.1 dc.2.1;refine ⟨h5,aD is106 hG rfl ((t106_eq _ _ _).trans ?_),aA.bx O4 k5 (DF _)⟩;unfold t106;simp -implicitDefEqProofs only [z1, e2, e3, e4, e5, ae];exact cX results106 lU fY (show 2<10 by decide) _ L5
theorem r107 {h:ad} (hG:4<=h.n0) {a:Option Addr} {n c:Nat} : ∃ h',CW 76 [.slice a n c] h=some (.func (.func 98) #[] #[ptr h.next 0],h')/\aA h h'/\h'.get h.next=some [.slice a n c]/\h'.next=h.next+1:=by have b:box (.slice a n c) h=some (ptr h.next 0,h.alloc [.slice a n c]):=rfl;refine ⟨h.alloc [.slice a n c],aD is107 hG rfl ((t107_eq _ _ _).trans ?_),az.alloc _ _ _,by rw [ad.aF,DL rfl],ad.cq ..⟩;unfold t107;simp -implicitDefEqProofs only [b, ae]
theorem geq3 (j:Nat):aC prog .geq 3 (.int .i64 ((j:Int)-1)) (.int .i64 0)=some (.bool (decide (1<=j))):=by
 rw [bH]
 congr 2
 rw [HQ];omega
set_option maxRecDepth 100000 in
theorem r135 {h:ad} (hG:4<=h.n0) {L c:Nat} {w:Value} {T:List (List Nat)} (hT:T.length<=1000000) (Inv:Nat->ad->Prop)
  (hread : ∀ j g,Inv j g->ld1 (ptr c 0) g=some (w,g)/\PR g w T)
  (hstep : ∀ j g,j<T.length->Inv (j+1) g -> ∃ g',CW (Bs prog L) [ak j,.agg (aY (T.getD j [])).toArray] g=some (.bool true,g')/\Inv j g') (h0:Inv T.length h) :
  ∃ h',CW 98 [.func (.yield L) #[] #[],ptr c 0] h=some (.tuple #[],h')/\Inv 0 h':=by
 have key : ∃ o:aS,t135 CW (.func (.yield L) #[] #[]) (ptr c 0) h=o /\ ∃ h',o=some (.tuple #[],h')/\Inv 0 h':=by
  refine ⟨_,rfl,?_⟩;unfold t135;obtain ⟨l0,P0⟩:=hread _ _ h0;have hll:=PR.len P0;have sb:aC prog .sub 3 (ak T.length) (.int .i64 1)=some (.int .i64 ((T.length:Int)-1)):=by unfold ak;rw [fi,wrap_i64 (by omega) (by omega)]
  simp -implicitDefEqProofs only [l0,hll,sb,ae,af];refine bq (n:=19) (fin:=fun ex y g=>ex = .exit 0/\Inv 0 g) (Q:=fun o:aS => ∃ h',o=some (.tuple #[],h')/\Inv 0 h')
   (bk (xY CW) (Inv:=fun k y g=>k<=T.length/\y 0 = .func (.yield L) #[] #[]/\y 1=ptr c 0/\y 3 = .int .i64 ((k:Int)-1)/\Inv k g) ?_ T.length (by have:aB=18446744073709551616:=rfl;omega) ⟨DF _,rfl,rfl,rfl,h0⟩) ?_
  ·rintro k y g ⟨hk,y0,y1,y3,hi⟩;unfold oW;have q:=geq3 k;simp -implicitDefEqProofs only [y0,y1,y3,q,ae,af];obtain ⟨l1,P1⟩:=hread _ _ hi;by_cases hk1:1<=k
   ·obtain ⟨j,rfl⟩ : ∃ j,k=j+1:=⟨k-1,by omega⟩
    obtain ⟨b,o,ix,hb,lp⟩:=P1.2.2 j (by omega);have lg:=lp g rfl;obtain ⟨g',e',hi'⟩:=hstep j g (by omega) hi;have ej:(((j+1:Nat):Int)-1)=(j:Int):=by omega
    have ix':idxS 32 w (.int .i64 (j:Int))=some (ptr b o):=ix;have e'':callA prog CW (.func (.yield L) #[] #[]) [.int .i64 (j:Int),.agg (aY (T.getD j [])).toArray] g=some (.bool true,g'):=e';have sb2:aC prog .sub 3 (.int .i64 (j:Int)) (.int .i64 1)=some (.int .i64 ((j:Int)-1)):=by rw [fi,wrap_i64 (by omega) (by omega)]
    simp -implicitDefEqProofs only [DA hk1,ej,l1,ix',lg,e'',sb2,aT,DP,ae,af];exact cR.next j (by omega) ⟨by omega,y0,y1,rfl,hi'⟩
   ·have hk0:k=0:=by omega
    subst hk0;simp -implicitDefEqProofs only [DB hk1];exact cR.out 0 ⟨rfl,hi⟩
  ·rintro ex z g ⟨rfl,hi⟩;simp -implicitDefEqProofs only [aV,b135_1,DY];rw [cE,results135];exact ⟨g,rfl,hi⟩
 obtain ⟨o9,e,h',e',q⟩:=key;exact ⟨h',aD is135 hG rfl ((t135_eq _ _ _ _).trans (e.trans e')),q⟩
set_option maxRecDepth 100000 in
theorem tre1 {h:ad} (hG:4<=h.n0) (hz:h.get 3=some bX) {N d i:Nat} {D:List Nat} {vs:Value} {S:List (List Nat)} (hN:h.n0<=N) (hNn:N<=d) (hS:ux h N vs S.reverse) (hD:ic D) (hd:h.get d=some (aY D)) (hds : ∀ b,stB vs=some b -> ¬b=d) (hi:i<=1048576) (hp:S.length=pc i)
  {q15 q16 q17 q2:Value} {x:Nat->Value} (x3:x 3=vs) (x6:x 6=ptr d 0) (x7:x 7=ak i) (x15:x 15=q15) (x16:x 16=q16) (x17:x 17=q17) (x2:x 2=q2) :
  Fin 66 (fun ex y g=>ex = .exit 2/\y 6=ptr d 0/\y 15=q15/\y 16=q16/\y 17=q17/\y 2=q2/\az h g (· = d) /\ ∃ D' S' vs',y 3=vs'/\ux g N vs' S'.reverse/\stB vs'=stB vs/\ic D'/\g.get d=some (aY D')/\push dg i D S i=D'::S') (iter (codeA prog CW (au f42 [1,1,1,0,1,0,0,1,1,0,0,1,1,0,1,0,0])) aB (aL 66 x) h):=by
 refine bk (kz CW) (Inv:=fun k y g => ∃ i' D' S' vs',i'<=k/\i'<=1048576/\y 3=vs'/\y 6=ptr d 0/\y 7=ak i'/\y 15=q15/\y 16=q16/\y 17=q17/\y 2=q2/\az h g (· = d)/\ux g N vs' S'.reverse/\stB vs'=stB vs/\ic D'/\g.get d=some (aY D')/\S'.length=pc i'/\push dg k D' S' i'=push dg i D S i) ?_ i (by have:aB=18446744073709551616:=rfl;omega) ⟨i,D,S,vs,DF _,hi,x3,x6,x7,x15,x16,x17,x2,az.refl _ _,hS,rfl,hD,hd,hp,rfl⟩;rintro k y g ⟨i',D',S',vs',hk,hi',y3,y6,y7,y15,y16,y17,y2,K,sk,hb,dD,gd,hp',hpu⟩;have e1:aC prog .eql 3 (ak (i'%2)) (.int .i64 1)=some (.bool (decide (i'%2=1))):=eql1 _;unfold eJ;simp -implicitDefEqProofs only [y7,and1 hi',e1,ae,af];by_cases c:i'%2=1
 ·rw [tw,c] at hp';cases k with
  |zero=>omega
  |succ k=>
   cases S' with
   |nil=>rw [List.length_nil] at hp';omega
   |cons p S'=>
    rw [List.length_cons] at hp';have hp'':S'.length=pc (i'/2):=by omega
    rw [List.reverse_cons] at sk;obtain ⟨P,gs⟩:=sk.pr;obtain ⟨b,o,ix,dp,lp⟩:=PR.gY P;obtain ⟨v2,e2,sk2,hb2⟩:=sk.pop;have hll:=sk.len;rw [DH,List.length_singleton] at hll;have Lp:=lp g (az.refl _ _);have cD:=bm dD;have L6:=bc gd cD.1 cD.2.1;have hSl:S'.reverse.length<=1000000:=by
     rw [List.length_reverse];have hpc : ∀ (f j:Nat),Cp f j<=f:=by
      intro f;induction f with
      |zero=>intro j;exact DF _
      |succ f ih=>
       intro j;have:=ih (j/2);show j%2+Cp f (j/2)<=f+1;omega
     have:=hpc (i'/2) (i'/2);unfold pc at hp'';omega
    have sb:aC prog .sub 3 (ak (S'.reverse.length+1)) (.int .i64 1)=some (ak S'.reverse.length):=sub_n1 (by omega) (by omega);have G2:4<=g.n0:=by rw [K.n0];exact hG
    have hdn:g.n0<=d:=by rw [K.n0];omega
    have Z2:g.get 3=some bX:=az.getE K hz (by omega);obtain ⟨g4,e4,o4⟩:=r70 (h:=g) G2 Z2 dp dD;have dn:=bm (kM p D');obtain ⟨g5,e5,k5,g5',_,n5⟩:=aX (n:=32) (k':=aY (dg p D')) (aA.get o4 gd) (by rw [o4.n0];exact hdn) cD.1 dn.1 dn.2.2;have sh:aC prog .shr 3 (ak i') (.int .u64 1)=some (ak (i'/2)):=shr1;simp -implicitDefEqProofs only [DA c, y3, y6, hll, sb, ix, Lp, L6, e4, e5, e2, sh, ae, af];refine cR.next k (by omega) ⟨i'/2,dg p D',S',v2,by omega,by omega,rfl,y6,rfl,y15,y16,y17,y2,(K.trans (o4.mono (fun _ _ h=>h.elim))).trans k5,?_,hb2.trans hb,kM _ _,g5',hp'',?_⟩
    ·refine (sk2.old o4).keep k5 fun b' hb' => ?_;rw [hb2,hb] at hb';exact hds b' hb'
    ·rw [kC,DL c] at hpu;exact hpu
 ·simp -implicitDefEqProofs only [DB c];refine cR.out 2 ⟨rfl,y6,y15,y16,y17,y2,K,D',S',vs',y3,sk,hb,dD,gd,?_⟩;rw [<-hpu];cases k with
  |zero=>rfl
  |succ k=>rw [kC,DM c]
theorem bsl_dig (g:ad) {D:List Nat} (dD:ic D):cg 32 (.agg (List.replicate 32 (.int .u8 0)).toArray) 1 [(0,.agg (aY D).toArray)] g=some (.slice (some ⟨g.next,0,none⟩) 1 1,g.alloc (aY D)):=by
 have c:=bm dD;have e1:(Value.agg (aY D).toArray).cells=(aY D).toArray:=rfl;have hz:cU (Value.agg (List.replicate 32 (.int .u8 0)).toArray).cells.toList 1=List.replicate 32 (.int .u8 0):=rfl;have e2:fillL (List.replicate 32 (.int .u8 0)) [(0*32,32,Value.agg (aY D).toArray)]=some (aY D):=by
  unfold fillL;rw [e1,DL (by simp [c.1])];unfold fillL
  congr 1
  unfold splice;rw [GK,List.take_zero,List.nil_append,DG,FR (by rw [HS];simp [c.1]),EN]
 have hc:(bJ (Value.agg (List.replicate 32 (.int .u8 0)).toArray).cells.toList&&(Value.agg (List.replicate 32 (.int .u8 0)).toArray).cells.size=32&&0<32&&1*32<=16777216&&aJ ([((0:Nat),Value.agg (aY D).toArray)].flatMap fun x=>x.2.cells.toList))=true:=by rw [E4,HO,EN,e1,c.2.2];rfl
 unfold cg;rw [DL (by simpa using hc),hz,FL,HH];simp only [e2]
theorem pc_le (i:Nat):pc i<=i:=by
 have hpc : ∀ (f j:Nat),Cp f j<=f:=by
  intro f;induction f with
  |zero=>intro j;exact DF _
  |succ f ih=>
   intro j;have:=ih (j/2);show j%2+Cp f (j/2)<=f+1;omega
 exact hpc i i
def ya (L:List ao):List (List Nat):=L.map pK
theorem lvs_take {L:List ao} {i:Nat} (hi:i<L.length):ya (L.take (i+1))=ya (L.take i) ++ [pK (L.getD i ao.z)]:=by unfold ya;rw [IP,FG,DC hi,DK,DC hi];rfl
set_option maxRecDepth 100000 in
theorem tre2 {h:ad} (hG:4<=h.n0) (hz:h.get 3=some bX) {N d2:Nat} {v:Value} {L:List ao} (hN:N=h.next) (hv:jK h v L) (hval : ∀ r∈L,de r=true) (hl:L.length<=1000000)
  {x:Nat->Value} (x3:x 3 = .slice none 0 0) (x15:x 15=v) (x16:x 16=ak L.length) (x17:x 17=ak 0) (x2:x 2=ptr d2 0) :
  Fin 66 (fun ex y g=>ex = .exit 0/\y 2=ptr d2 0/\aA h g/\ux g N (y 3) (wX dg (ya L) [] 0).reverse) (iter (codeA prog CW (au f42 [1,1,1,0,1,0,0])) aB (aL 66 x) h):=by
 refine bk (uU CW) (Inv:=fun k y g => ∃ i,i+k=L.length/\y 15=v/\y 16=ak L.length/\y 17=ak i/\y 2=ptr d2 0/\aA h g/\ux g N (y 3) (wX dg (ya (L.take i)) [] 0).reverse) ?_ L.length (by have:aB=18446744073709551616:=rfl;omega) ⟨0,by omega,x15,x16,x17,x2,az.refl _ _,by rw [x3];exact ux.nil h N⟩;rintro k y g ⟨i,hik,y15,y16,y17,y2,O,sk⟩;unfold lZ;simp -implicitDefEqProofs only [y16,y17,eK,ae,af];by_cases hi:i<L.length
 ·obtain ⟨b,o,ix,wr,mr,lp⟩:=hv.at hi;have vr:=hval _ mr;have htk:=lvs_take hi;have hli:(ya (L.take i)).length=i:=by unfold ya;rw [DS,DW];omega
  have hsl:=CY dg (ya (L.take i)) [] 0 rfl;rw [hli,DG] at hsl;generalize hr:L.getD i ao.z=r at *;generalize hSS:wX dg (ya (L.take i)) [] 0=S at *;have L1:=lp g O;have cr:=aM wr;obtain ⟨g1,z1,o1,q1,n1⟩:=fresh (bL ao.z) g;obtain ⟨g2,e2,k2,q2,_,n2⟩:=aX (n:=39) (k':=bL r) q1 (by rw [o1.n0];exact g.n0_le_next) rfl cr.1 cr.2.2;have o2:aA g g2:=aA.bx o1 k2 (DF _);have L2:=bc q2 cr.1 cr.2.1;have O2:=O.trans o2;obtain ⟨g3,e3,o3⟩:=r69 (h:=g2) (by rw [O2.n0];exact hG) (aA.get O2 hz) wr vr;have O3:=O2.trans o3;obtain ⟨g4,z4,o4,q4,n4⟩:=fresh (List.replicate 32 (.int .u8 0)) g3;have dl:=bm (pT r);obtain ⟨g5,e5,k5,q5,_,n5⟩:=aX (n:=32) (k':=aY (pK r)) q4 (by rw [o4.n0];exact g3.n0_le_next) rfl dl.1 dl.2.2;have o5:aA g3 g5:=aA.bx o4 k5 (DF _);have O5:=O3.trans o5;have sk5:ux g5 N (y 3) S.reverse:=((sk.old o2).old o3).old o5;have hNlt:N<=g3.next:=by have:=O3.next;omega
  have z1:dB kr g=some (ptr g.next 0,g1):=z1;simp -implicitDefEqProofs only [DA hi,y15,ix,L1,z1,e2,L2,e3,z4,e5,ae,af];refine bq (n:=66) (Q:=fun o=>cR 66 _ _ k o) (tre1 (h:=g5) (by rw [O5.n0];exact hG) (aA.get O5 hz) (N:=N) (d:=g3.next) (i:=i) (S:=S) (vs:=y 3) (q15:=v) (q16:=ak L.length) (q17:=ak i) (q2:=ptr d2 0) (by rw [O5.n0];have:=h.n0_le_next;omega) hNlt sk5 (pT r) q5 (fun b' hb'=>by have:=(sk.lt hb').2;have:=O3.next;have:=o2.next;have:=o3.next;omega) (by omega) hsl rfl rfl rfl y15 y16 y17 y2) ?_
  rintro _ z g6 ⟨rfl,z6,z15,z16,z17,z2,K6,D',S',vs',z3,sk6,hb6,dD,gd,hpu⟩;simp -implicitDefEqProofs only [aV,b54_20,DY,CL];unfold vw;have O6:aA h g6:=aA.bx O5 K6 (by omega);have cD:=bm dD;have L6:=bc gd cD.1 cD.2.1;have b7:cg 32 (.agg (List.replicate 32 (.int .u8 0)).toArray) 1 [(0,.agg (aY D').toArray)] g6=some (.slice (some ⟨g6.next,0,none⟩) 1 1,g6.alloc (aY D')):=bsl_dig g6 dD;have o7:aA g6 (g6.alloc (aY D')):=az.alloc _ _ _;have q7:(g6.alloc (aY D')).get g6.next=some (aY D'):=by rw [ad.aF,DL rfl]
  have hS'l:S'.reverse.length<=1000000:=by have:=yG dg i (pK r) S i (DF _) hsl;rw [hpu,List.length_cons] at this;have hpc:=pc_le (i+1);rw [List.length_reverse];omega
  obtain ⟨v8,g8,e8,sk8,k8,hb8⟩:=(sk6.old o7).push (c:=g6.next) (by rw [o7.n0,O6.n0];have:=h.n0_le_next;omega) (by have:=O6.next;have:=o7.next;omega) dD hS'l q7;have O8:aA h g8:=(O6.trans o7).also k8 (fun b' hb' hs=>by have:=((sk6.old o7).lt hs).1;omega)
  simp -implicitDefEqProofs only [z3, z6, L6, b7, e8, ae, CB];unfold uD;have a17:aC prog .add 3 (ak i) (.int .i64 1)=some (ak (i+1)):=dh (by omega);have z17':up z [(3,v8),(43,vs'),(44,.agg (aY D').toArray),(45,.slice (some ⟨g6.next,0,none⟩) 1 1),(46,v8)] 17=ak i:=z17;simp -implicitDefEqProofs only [z17',a17,ae,af];refine cR.next (k-1) (by omega) ⟨i+1,by omega,z15,z16,rfl,z2,O8,?_⟩;have e9:(wX dg (ya (L.take (i+1))) [] 0).reverse=S'.reverse ++ [D']:=by rw [htk,stk_snoc,hSS,hli,hpu,List.reverse_cons]
  rw [e9];exact sk8
 ·have:i=L.length:=by omega
  subst this;simp -implicitDefEqProofs only [DB hi];rw [E9] at sk;exact cR.out 0 ⟨rfl,y2,O,sk⟩
end Go.Proofs.YtdnahgfgoajmcaaGreatDoor
