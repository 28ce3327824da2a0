/-
  A part of the proof, spaces and names shortened by a program (a claim may hold 1,500,000 bytes).
  Conditions: as each theorem states.
-/
import Derived.Test.YtjghlcdidopcpaaGreatDoorG14
namespace Go.Proofs.YtjghlcdidopcpaaGreatDoor
open Go Go.Abs
attribute [local congr] aU
theorem chkI (k:IntKind) (n:Int) (h:aj):dH true (some (.int k n,h)) (.int k n)=true:=by simp [dH,same,fb]
theorem rec_fin {h0 h:aj} {b:Nat} {k:dB} {r:bK} (w:r.Wf) (o:Old h0 h) (hb:h0.next≤b) (g:h.get b=some k) (hk:k.length=39) : ∃ h',bw 39 (ptr b 0) (.agg (recC r).toArray) h=some (undef,h')∧bD 39 (ptr b 0) h'=some (.agg (recC r).toArray,h')∧Old h0 h':=by
 have hn:h.n0≤b:=by rw [o.n0];exact Nat.le_trans h0.aK hb
 have c:=bL w
 obtain ⟨h',e1,k1,g1,_,_⟩:=bJ (n:=39) g hn hk c.1 c.2.2
 exact ⟨h',e1,cA g1 c.1 c.2.1,Old.eF o k1 hb⟩
theorem bld_r0:bU Zr []=some (.agg (recC bK.z).toArray):=rfl
theorem bld_r (k:Nat) (ho:Int) (i n:Nat) (he:Bool) (a b:Int):bU Zr [(0,1,.int .u8 (k:Int)),(33,1,.int .i64 ho),(34,1,.int .u64 (i:Int)),(35,1,.int .u64 (n:Int)),(36,1,.bool he),(37,1,.int .i64 a),(38,1,.int .i64 b)]=some (.agg (recC ⟨k,z32,ho,i,n,he,a,b⟩).toArray):=by kernel_rfl
theorem rec_put {r:bK} (hr:r.obj.length=32) {i x:Nat} (hi:i<32):(recC r).set (1+i) (u8 x)=recC { r with obj:=r.obj.set i x }:=by
 unfold recC bP
 rw [Nat.add_comm 1 i,List.set_cons_succ,List.set_append_left _ _ (by rw [List.length_map,hr];exact hi),←List.map_set]
theorem b82_exit (C:au) (e:Env) (h:aj):b82_8 C 0 e h=k82s6 C e h:=rfl
theorem results82:Tryz.f82.results.toList = [.cell 2 61,.tmp 3]:=by kernel_rfl
def obInv (h0:aj) (V:Nat) (a:Option Addr) (n c R:Nat) (l:List Nat) (r:bK) (k:Nat) (y:Nat→Value) (g:aj):Prop:=
 ∃ i,i+k=32∧y 5=aH i∧y 0 = .slice a n c∧y 4=ptr V 0∧y 2=ptr R 0∧Kept h0 g (· = V)∧g.get V=some (recC { r with obj:=upTo ((l.drop 1).take 32) 32 i })
def obFin (h0:aj) (V R:Nat) (l:List Nat) (r:bK) (ex:Ex) (y:Nat→Value) (g:aj):Prop:=
 ex = .exit 0∧y 4=ptr V 0∧y 2=ptr R 0∧Kept h0 g (· = V)∧g.get V=some (recC { r with obj:=(l.drop 1).take 32 })
theorem obRound {h0:aj} {V:Nat} {a:Option Addr} {n c R:Nat} {l:List Nat} {r:bK} (e:ay a n h0=some l) (hn:n=53) (hV:h0.n0≤V) (ha : ∀ y,a=some y→0<n→y.block≠V) : ∀ k y g,obInv h0 V a n c R l r k y g→dd 62 (obInv h0 V a n c R l r) (obFin h0 V R l r) k (fI CW y g):=by
 rintro k y g ⟨i,hik,y5,y0,y4,y2,K,gV⟩
 have hl:=(aw e).1
 have hl32:((l.drop 1).take 32).length=32:=by rw [List.length_take,List.length_drop];omega
 have l32:bin Tryz.prog .lss 3 (aH i) (.int .i64 32)=some (.bool (decide (i<32))):=dg i 32
 unfold fI
 by_cases hi:i<32
 ·rw [decide_eq_true hi] at l32
  have eg:ay a n g=some l:=K.bytes e (fun y hy hn=>ha y hy hn)
  obtain ⟨b,q,_,i1,i2⟩:=byte_at (c:=c) (i:=1+i) eg (by omega)
  have ad:bin Tryz.prog .add 3 (.int .i64 1) (aH i)=some (aH (1+i)):=add3 (a:=1) (b:=i) (by omega)
  have i3:idxA 32 1 (ptr V 1) (aH i)=some (ptr V (1+i)):=by
   unfold idxA aH
   simp only
   rw [if_pos (by omega),al,Int.toNat_natCast,Nat.mul_one]
  have hx:l.getD (1+i) 0=((l.drop 1).take 32).getD i 0:=by
   simp only [List.getD_eq_getElem?_getD,List.getElem?_take,List.getElem?_drop,if_pos hi]
  rw [hx] at i2
  obtain ⟨g',e',k',g1,_,_⟩:=stored (o:=1+i) (v:=u8 (((l.drop 1).take 32).getD i 0)) gV (by rw [K.n0];exact hV) (by rw [recC_len (by exact upTo_len hl32 (by omega))];omega) rfl rfl
  rw [rec_put (upTo_len hl32 (by omega)) hi] at g1
  have g1:g'.get V=some (recC { r with obj:=(upTo ((l.drop 1).take 32) 32 i).set i (((l.drop 1).take 32).getD i 0) }):=g1
  rw [upTo_set hl32 hi] at g1
  simp -implicitDefEqProofs only [y5, y0, y4, l32, ad, i1, i2, i3, e', ee (show i+1≤9223372036854775807 by omega), af, ak, al, Nat.zero_add]
  exact dd.next (k-1) (by omega) ⟨i+1,by omega,rfl,y0,y4,y2,K.trans k',g1⟩
 ·rw [decide_eq_false hi] at l32
  obtain rfl:i=32:=by omega
  rw [upTo_all hl32] at gV
  simp -implicitDefEqProofs only [y5, l32, af, ak]
  exact dd.out 0 ⟨rfl,y4,y2,K,gV⟩
def rec0 (l:List Nat):bK:={ decRx l with obj:=z32 }
structure E82 (h h1:aj) (a:Option Addr) (n c:Nat) (l:List Nat) (y:Nat→Value):Prop where
 hG:4≤h.n0
 hz:GZ h
 hl:ay a n h=some l
 hg:cn a n c=true
 o1:Old h h1
 g1:h1.get h.next=some Zr
 n1:h1.next=h.next+1
 y0:y 0 = .slice a n c
 y2:y 2=ptr h.next 0
section
variable {h h1:aj} {a:Option Addr} {n c:Nat} {l:List Nat} {y:Nat→Value}
theorem E82.go (E:E82 h h1 a n c l y) {y':Nat→Value} (e0:y' 0=y 0) (e2:y' 2=y 2):E82 h h1 a n c l y':=⟨E.hG,E.hz,E.hl,E.hg,E.o1,E.g1,E.n1,e0.trans E.y0,e2.trans E.y2⟩
theorem fin82 (y:Nat→Value) (r:bK) (e:Int) {b:Nat} (g':aj) (y2:y 2=ptr b 0) (y3:y 3 = .int .i64 e) (ld:bD 39 (ptr b 0) g'=some (.agg (recC r).toArray,g')):ar Tryz.prog Tryz.f82.results.toList (aJ 62 y) g'=some (.tuple #[.agg (recC r).toArray,.int .i64 e],g'):=by
 rw [←y2] at ld
 rw [←y3]
 exact bp results82 agg61 siz61 (show 2<62 by decide) (show 3<62 by decide) y ld
theorem E82.zero (E:E82 h h1 a n c l y) : ∃ hz1,bw 39 (ptr h.next 0) (.agg (recC bK.z).toArray) h1=some (undef,hz1)∧bD 39 (ptr h.next 0) hz1=some (.agg (recC bK.z).toArray,hz1)∧Old h hz1:=rec_fin bK.fZ E.o1 (Nat.le_refl _) E.g1 rfl
theorem x82_1 (E:E82 h h1 a n c l y) (c1:l.length<53) : ∃ h',k82s1 CW (aJ 62 y) h1=some (.tuple #[.agg (recC bK.z).toArray,.int .i64 4],h')∧Old h h':=by
 have hlen:=(aw E.hl).1
 have hln:bG (.slice a n c)=some (aH n):=rfl
 have l53:bin Tryz.prog .lss 3 (aH n) (.int .i64 53)=some (.bool (decide (n<53))):=dg n 53
 rw [decide_eq_true (by omega)] at l53
 obtain ⟨hz1,e1,ld1z,O1⟩:=E.zero
 refine ⟨hz1,?_,O1⟩
 rw [t82s1_eq]
 unfold t82s1
 simp -implicitDefEqProofs only [E.y0, E.y2, hln, l53, bld_r0, e1, af, ak]
 exact fin82 _ _ _ _ E.y2 rfl ld1z
theorem s82_1 (E:E82 h h1 a n c l y) (c1 : ¬l.length<53) : ∃ y',k82s1 CW (aJ 62 y) h1=k82s2 CW (aJ 62 y') h1∧E82 h h1 a n c l y':=by
 have hlen:=(aw E.hl).1
 have hln:bG (.slice a n c)=some (aH n):=rfl
 have l53:bin Tryz.prog .lss 3 (aH n) (.int .i64 53)=some (.bool (decide (n<53))):=dg n 53
 rw [decide_eq_false (by omega)] at l53
 rw [t82s1_eq]
 unfold t82s1
 simp -implicitDefEqProofs only [E.y0, hln, l53, af, ak]
 exact ⟨_,rfl,E.go rfl rfl⟩
theorem x82_2 (E:E82 h h1 a n c l y) (c1:53<l.length) : ∃ h',k82s2 CW (aJ 62 y) h1=some (.tuple #[.agg (recC bK.z).toArray,.int .i64 3],h')∧Old h h':=by
 have hlen:=(aw E.hl).1
 have hln:bG (.slice a n c)=some (aH n):=rfl
 have l53:bin Tryz.prog .gtr 3 (aH n) (.int .i64 53)=some (.bool (decide (53<n))):=gtr3 n 53
 rw [decide_eq_true (by omega)] at l53
 obtain ⟨hz1,e1,ld1z,O1⟩:=E.zero
 refine ⟨hz1,?_,O1⟩
 rw [t82s2_eq]
 unfold t82s2
 simp -implicitDefEqProofs only [E.y0, E.y2, hln, l53, bld_r0, e1, af, ak]
 exact fin82 _ _ _ _ E.y2 rfl ld1z
theorem s82_2 (E:E82 h h1 a n c l y) (c1 : ¬53<l.length) : ∃ y',k82s2 CW (aJ 62 y) h1=k82s3 CW (aJ 62 y') h1∧E82 h h1 a n c l y':=by
 have hlen:=(aw E.hl).1
 have hln:bG (.slice a n c)=some (aH n):=rfl
 have l53:bin Tryz.prog .gtr 3 (aH n) (.int .i64 53)=some (.bool (decide (53<n))):=gtr3 n 53
 rw [decide_eq_false (by omega)] at l53
 rw [t82s2_eq]
 unfold t82s2
 simp -implicitDefEqProofs only [E.y0, hln, l53, af, ak]
 exact ⟨_,rfl,E.go rfl rfl⟩
theorem E82.byte (E:E82 h h1 a n c l y) (h53:l.length=53) (i:Nat) (hi:i<53) : ∃ pt,bB 1 (.slice a n c) (aH i)=some pt∧aN pt h1=some (.int .u8 ((be ((l.drop i).take 1):Nat):Int),h1):=by
 have hlen:=(aw E.hl).1
 obtain ⟨pt,i1,i2⟩:=byte_rd (c:=c) (i:=i) E.hl (by omega)
 refine ⟨pt,i1,?_⟩
 rw [drop_one (by omega),be_one]
 exact i2 h1 E.o1
theorem x82_3 (E:E82 h h1 a n c l y) (h53:l.length=53) (c1:1<be ((l.drop 50).take 1)) : ∃ h',k82s3 CW (aJ 62 y) h1=some (.tuple #[.agg (recC bK.z).toArray,.int .i64 5],h')∧Old h h':=by
 obtain ⟨p50,j50,f50⟩:=E.byte h53 50 (by decide)
 have j50:bB 1 (.slice a n c) (.int .i64 50)=some p50:=j50
 have q50:bin Tryz.prog .gtr 5 (.int .u8 ((be ((l.drop 50).take 1):Nat):Int)) (.int .u8 1)=some (.bool true):=by rw [aB,decide_eq_true (by omega)]
 obtain ⟨hz1,e1,ld1z,O1⟩:=E.zero
 refine ⟨hz1,?_,O1⟩
 rw [t82s3_eq]
 unfold t82s3
 simp -implicitDefEqProofs only [E.y0, E.y2, j50, f50, q50, bld_r0, e1, af, ak]
 exact fin82 _ _ _ _ E.y2 rfl ld1z
theorem s82_3 (E:E82 h h1 a n c l y) (h53:l.length=53) (c1 : ¬1<be ((l.drop 50).take 1)) : ∃ y',k82s3 CW (aJ 62 y) h1=k82s4 CW (aJ 62 y') h1∧E82 h h1 a n c l y':=by
 obtain ⟨p50,j50,f50⟩:=E.byte h53 50 (by decide)
 have j50:bB 1 (.slice a n c) (.int .i64 50)=some p50:=j50
 have q50:bin Tryz.prog .gtr 5 (.int .u8 ((be ((l.drop 50).take 1):Nat):Int)) (.int .u8 1)=some (.bool false):=by rw [aB,decide_eq_false (by omega)]
 rw [t82s3_eq]
 unfold t82s3
 simp -implicitDefEqProofs only [E.y0, j50, f50, q50, af, ak]
 exact ⟨_,rfl,E.go rfl rfl⟩
theorem rec0_wf (hby:Bys l) (h53:l.length=53):(rec0 l).Wf:={ decRx_wf h53 hby with obj:=z32_ok }
theorem s82_4 (E:E82 h h1 a n c l y) (h53:l.length=53) : ∃ y' h2,k82s4 CW (aJ 62 y) h1=k82s5 CW (aJ 62 y') h2∧E82 h h1 a n c l y'∧y' 4=ptr h1.next 0∧h2.get h1.next=some (recC (rec0 l))∧Old h1 h2:=by
 have hlen:=(aw E.hl).1
 have hby:Bys l:=(aw E.hl).2.1
 obtain ⟨p50,j50,f50⟩:=E.byte h53 50 (by decide)
 obtain ⟨p0,j0,f0⟩:=E.byte h53 0 (by decide)
 obtain ⟨p33,j33,f33⟩:=E.byte h53 33 (by decide)
 obtain ⟨p51,j51,f51⟩:=E.byte h53 51 (by decide)
 obtain ⟨p52,j52,f52⟩:=E.byte h53 52 (by decide)
 have j50:bB 1 (.slice a n c) (.int .i64 50)=some p50:=j50
 have j0:bB 1 (.slice a n c) (.int .i64 0)=some p0:=j0
 have j33:bB 1 (.slice a n c) (.int .i64 33)=some p33:=j33
 have j51:bB 1 (.slice a n c) (.int .i64 51)=some p51:=j51
 have j52:bB 1 (.slice a n c) (.int .i64 52)=some p52:=j52
 have hl1:=Old.bytes E.o1 E.hl
 have hG1:4≤h1.n0:=by rw [E.o1.n0];exact E.hG
 obtain ⟨a1,d1,s1,t1,_⟩:=slR_mid (c:=c) (lo:=34) (hi:=42) E.hg hl1 (by decide) (by omega)
 obtain ⟨a2,d2,s2,t2,_⟩:=slR_mid (c:=c) (lo:=42) (hi:=50) E.hg hl1 (by decide) (by omega)
 have s1:slR 1 (.slice a n c) (some (.int .i64 34)) (some (.int .i64 42)) none=some (.slice a1 8 d1):=s1
 have s2:slR 1 (.slice a n c) (some (.int .i64 42)) (some (.int .i64 50)) none=some (.slice a2 8 d2):=s2
 have e34:CW 38 [.slice a1 8 d1] h1=some (.int .u64 ((be ((l.drop 34).take 8):Nat):Int),h1):=r38 hG1 t1 (by decide)
 have e42:CW 38 [.slice a2 8 d2] h1=some (.int .u64 ((be ((l.drop 42).take 8):Nat):Int),h1):=r38 hG1 t2 (by decide)
 have cv : ∀ i,fc .i64 (.int .u8 ((be ((l.drop i).take 1):Nat):Int)) h1=some (.int .i64 ((be ((l.drop i).take 1):Nat):Int),h1):=fun i=>by
  have:=be1_lt hby i
  rw [bq,wrap_i64 (by omega) (by omega)]
 have c33:=cv 33
 have c51:=cv 51
 have c52:=cv 52
 have qe:bin Tryz.prog .eql 5 (.int .u8 ((be ((l.drop 50).take 1):Nat):Int)) (.int .u8 1)=some (.bool (be ((l.drop 50).take 1)==1)):=by
  rw [az]
  congr 2
  rw [Bool.eq_iff_iff]
  simp only [beq_iff_eq]
  omega
 rw [List.drop_zero] at f0
 have bR:bU Zr [(0,1,.int .u8 ((be (l.take 1):Nat):Int)),(33,1,.int .i64 ((be ((l.drop 33).take 1):Nat):Int)),(34,1,.int .u64 ((be ((l.drop 34).take 8):Nat):Int)),(35,1,.int .u64 ((be ((l.drop 42).take 8):Nat):Int)),(36,1,.bool (be ((l.drop 50).take 1)==1)),(37,1,.int .i64 ((be ((l.drop 51).take 1):Nat):Int)),(38,1,.int .i64 ((be ((l.drop 52).take 1):Nat):Int))]=some (.agg (recC (rec0 l)).toArray):=bld_r ..
 have wq:=rec0_wf hby h53
 have cq:=bL wq
 generalize rec0 l=q at *
 obtain ⟨h2,z2,o2,g2,n2⟩:=fresh Zr h1
 obtain ⟨h3,e3,k3,g3,_,n3⟩:=bJ (n:=39) (k':=recC q) g2 (by rw [o2.n0];exact h1.aK) rfl cq.1 cq.2.2
 have o13:Old h1 h3:=Old.eF o2 k3 (Nat.le_refl _)
 rw [t82s4_eq]
 unfold t82s4
 simp -implicitDefEqProofs only [E.y0, j0, f0, j33, f33, c33, s1, e34, s2, e42, j50, f50, qe, j51, f51, c51, j52, f52, c52, bR, z2, e3, chkI, af, ak, Bool.and_self]
 exact ⟨_,h3,rfl,E.go rfl rfl,rfl,g3,o13⟩
theorem s82_5 (E:E82 h h1 a n c l y) (h53:l.length=53) {h2:aj} (y4:y 4=ptr h1.next 0) (g2:h2.get h1.next=some (recC (rec0 l))) (o:Old h1 h2) : ∃ y' g,k82s5 CW (aJ 62 y) h2=k82s6 CW (aJ 62 y') g∧y' 4=ptr h1.next 0∧y' 2=ptr h.next 0∧g.get h1.next=some (recC (decRx l))∧Old h g∧g.get h.next=some Zr:=by
 have hlen:=(aw E.hl).1
 rw [t82s5_eq]
 unfold t82s5
 rw [af]
 have hlt : ∀ z,a=some z→0<n→z.block<h.next:=fun z hz h0=>by
  obtain ⟨b,off,s,k,e,hk,_⟩:=(aw E.hl).2.2 h0
  rw [hz] at e
  cases e
  exact h.bc hk
 refine bY (Q:=fun o:Out => ∃ y' g,o=k82s6 CW (aJ 62 y') g∧y' 4=ptr h1.next 0∧y' 2=ptr h.next 0∧g.get h1.next=some (recC (decRx l))∧Old h g∧g.get h.next=some Zr)
  (bZ (t82l82_11111010_eq CW) (obRound (h0:=h2) (V:=h1.next) (a:=a) (n:=n) (c:=c) (R:=h.next) (l:=l) (r:=rec0 l) (Old.bytes (E.o1.trans o) E.hl) (by omega) (by rw [o.n0];exact h1.aK) (fun z hz h0 e=>by have:=hlt z hz h0;have:=E.n1;omega)) 32 (by decide)
   ⟨0,rfl,rfl,E.y0,y4,E.y2,Kept.refl _ _,g2⟩) ?_
 rintro ex w g ⟨rfl,w4,w2,K,gV⟩
 have n1:=E.n1
 rw [bE,b82_exit]
 exact ⟨w,g,rfl,w4,w2,gV,(E.o1.trans o).cE K (fun d hd e=>by omega),K.dj (Old.get o E.g1) (by omega)⟩
theorem s82_6 (hG:4≤h.n0) (hz:GZ h) (hby:Bys l) (h53:l.length=53) {g:aj} {w:Nat→Value} (w4:w 4=ptr h1.next 0) (w2:w 2=ptr h.next 0) (gV:g.get h1.next=some (recC (decRx l))) (OK:Old h g) (gR:g.get h.next=some Zr) (q:bK×Int) (hq:q=if recB (decRx l)=true then (decRx l,(0:Int)) else (bK.z,2)) :
  ∃ h',k82s6 CW (aJ 62 w) g=some (.tuple #[.agg (recC q.1).toArray,.int .i64 q.2],h')∧Old h h':=by
 have w53:=decRx_wf h53 hby
 have cd:=bL w53
 have ldv:bD 39 (ptr h1.next 0) g=some (.agg (recC (decRx l)).toArray,g):=cA gV cd.1 cd.2.1
 obtain ⟨g',e62,o62⟩:=r62 (h:=g) (by rw [OK.n0];exact hG) (hz.bA OK) w53
 have gR:=Old.get o62 gR
 have ldv':bD 39 (ptr h1.next 0) g'=some (.agg (recC (decRx l)).toArray,g'):=cA (Old.get o62 gV) cd.1 cd.2.1
 rw [t82s6_eq]
 unfold t82s6
 cases c4:recB (decRx l) with
 |false=>
  rw [c4] at e62 hq
  rw [if_neg (by decide)] at hq
  subst hq
  obtain ⟨g2',e9,l9,O9⟩:=rec_fin bK.fZ (OK.trans o62) (Nat.le_refl _) gR rfl
  refine ⟨g2',?_,O9⟩
  simp -implicitDefEqProofs only [w4, w2, ldv, e62, bld_r0, e9, af, ak, Bool.not_false, av]
  exact fin82 _ _ _ _ w2 rfl l9
 |true=>
  rw [c4] at e62 hq
  rw [if_pos rfl] at hq
  subst hq
  obtain ⟨g2',e9,l9,O9⟩:=rec_fin w53 (OK.trans o62) (Nat.le_refl _) gR rfl
  refine ⟨g2',?_,O9⟩
  simp -implicitDefEqProofs only [w4, w2, ldv, e62, ldv', e9, af, ak, Bool.not_true, av]
  exact fin82 _ _ _ _ w2 rfl l9
theorem is82:bO Tryz.prog 82 Tryz.f82:=⟨by kernel_rfl,by kernel_rfl,by kernel_rfl,by kernel_rfl⟩
theorem r82 (hG:4≤h.n0) (hz:GZ h) (hl:ay a n h=some l) (hg:cn a n c=true) : ∃ h',CW 82 [.slice a n c] h=some (.tuple #[.agg (recC (dA l).1).toArray,.int .i64 (dA l).2],h')∧Old h h':=by
 have key : ∃ h',k82s0 CW (aJ 62 (bs [.slice a n c])) h=some (.tuple #[.agg (recC (dA l).1).toArray,.int .i64 (dA l).2],h')∧Old h h':=by
  obtain ⟨h1,z1,o1,g1,n1⟩:=fresh Zr h
  have hby:Bys l:=(aw hl).2.1
  have st : ∃ y,k82s0 CW (aJ 62 (bs [.slice a n c])) h=k82s1 CW (aJ 62 y) h1∧E82 h h1 a n c l y:=by
   rw [t82s0_eq]
   unfold t82s0
   simp -implicitDefEqProofs only [z1, af]
   exact ⟨_,rfl,hG,hz,hl,hg,o1,g1,n1,rfl,rfl⟩
  obtain ⟨y1,e1,E1⟩:=st
  rw [e1]
  by_cases c1:l.length<53
  ·have hd:dA l=(bK.z,4):=by unfold dA;rw [if_pos c1]
   rw [hd]
   exact x82_1 E1 c1
  obtain ⟨y2,e2,E2⟩:=s82_1 E1 c1
  rw [e2]
  by_cases c2:53<l.length
  ·have hd:dA l=(bK.z,3):=by unfold dA;rw [if_neg c1,if_pos c2]
   rw [hd]
   exact x82_2 E2 c2
  obtain ⟨y3,e3,E3⟩:=s82_2 E2 c2
  rw [e3]
  have h53:l.length=53:=by omega
  by_cases c3:1<be ((l.drop 50).take 1)
  ·have hd:dA l=(bK.z,5):=by unfold dA;rw [if_neg c1,if_neg c2,if_pos c3]
   rw [hd]
   exact x82_3 E3 h53 c3
  obtain ⟨y4,e4,E4⟩:=s82_3 E3 h53 c3
  obtain ⟨y5,h2,e5,E5,f4,g2,o2⟩:=s82_4 E4 h53
  obtain ⟨y6,g,e6,w4,w2,gV,OK,gR⟩:=s82_5 E5 h53 f4 g2 o2
  rw [e4,e5,e6]
  exact s82_6 hG hz hby h53 w4 w2 gV OK gR (dA l) (by unfold dA;rw [if_neg c1,if_neg c2,if_neg c3])
 obtain ⟨h',e,o⟩:=key
 exact ⟨h',aF is82 hG rfl ((t82_eq _ _ _).trans e),o⟩
end
end Go.Proofs.YtjghlcdidopcpaaGreatDoor

namespace Go.Proofs.YtjghlcdidopcpaaGreatDoor
open Go Go.Abs
attribute [local congr] aU
theorem b122_exit (C:au) (e:Env) (h:aj):b122_4 C 0 e h=k122_2 C e h:=rfl
theorem results122:Tryz.f122.results.toList = [.cell 4 28]:=by kernel_rfl
def ptInv (h0:aj) (D:Nat) (a:Option Addr) (n c at_ R:Nat) (l:List Nat) (k:Nat) (y:Nat→Value) (g:aj):Prop:=
 ∃ i,i+k=32∧y 6=aH i∧y 0 = .slice a n c∧y 1=aH at_∧y 4=ptr R 0∧y 5=ptr D 0∧Kept h0 g (· = D)∧g.get D=some (bP (upTo ((l.drop at_).take 32) 32 i))
def ptFin (h0:aj) (D at_ R:Nat) (l:List Nat) (ex:Ex) (y:Nat→Value) (g:aj):Prop:=
 ex = .exit 0∧y 4=ptr R 0∧y 5=ptr D 0∧Kept h0 g (· = D)∧g.get D=some (bP ((l.drop at_).take 32))
theorem ptRound {h0:aj} {D:Nat} {a:Option Addr} {n c at_ R:Nat} {l:List Nat} (e:ay a n h0=some l) (hn:n≤1000000) (hat:at_+32≤n) (hD:h0.n0≤D) (ha : ∀ y,a=some y→0<n→y.block≠D) : ∀ k y g,ptInv h0 D a n c at_ R l k y g→dd 20 (ptInv h0 D a n c at_ R l) (ptFin h0 D at_ R l) k (gx CW y g):=by
 rintro k y g ⟨i,hik,y6,y0,y1,y4,y5,K,gD⟩
 have hl:=(aw e).1
 have hl32:((l.drop at_).take 32).length=32:=by rw [List.length_take,List.length_drop];omega
 have l32:bin Tryz.prog .lss 3 (aH i) (.int .i64 32)=some (.bool (decide (i<32))):=dg i 32
 unfold gx
 by_cases hi:i<32
 ·rw [decide_eq_true hi] at l32
  have eg:ay a n g=some l:=K.bytes e (fun y hy hn=>ha y hy hn)
  obtain ⟨b,q,_,i1,i2⟩:=byte_at (c:=c) (i:=at_+i) eg (by omega)
  have ad:bin Tryz.prog .add 3 (aH at_) (aH i)=some (aH (at_+i)):=add3 (by omega)
  have i3:=idxA32 D i hi
  have hx:l.getD (at_+i) 0=((l.drop at_).take 32).getD i 0:=by
   simp only [List.getD_eq_getElem?_getD,List.getElem?_take,List.getElem?_drop,if_pos hi]
  rw [hx] at i2
  obtain ⟨g',e',k',g1,_,_⟩:=stored (o:=i) (v:=u8 (((l.drop at_).take 32).getD i 0)) gD (by rw [K.n0];exact hD) (by rw [List.length_map,upTo_len hl32 (by omega)];exact hi) rfl rfl
  rw [show (bP (upTo ((l.drop at_).take 32) 32 i)).set i (u8 (((l.drop at_).take 32).getD i 0))=bP (upTo ((l.drop at_).take 32) 32 (i+1)) by rw [←upTo_set hl32 hi];exact (List.map_set ..).symm] at g1
  simp -implicitDefEqProofs only [y6, y0, y1, y5, l32, ad, i1, i2, i3, e', ee (show i+1≤9223372036854775807 by omega), af, ak]
  exact dd.next (k-1) (by omega) ⟨i+1,by omega,rfl,y0,y1,y4,y5,K.trans k',g1⟩
 ·rw [decide_eq_false hi] at l32
  obtain rfl:i=32:=by omega
  rw [upTo_all hl32] at gD
  simp -implicitDefEqProofs only [y6, l32, af, ak]
  exact dd.out 0 ⟨rfl,y4,y5,K,gD⟩
theorem is122:bO Tryz.prog 122 Tryz.f122:=⟨by kernel_rfl,by kernel_rfl,by kernel_rfl,by kernel_rfl⟩
theorem r122 {h:aj} {a:Option Addr} {n c:Nat} {l:List Nat} (hG:4≤h.n0) (hl:ay a n h=some l) (hn:n≤1000000) {at_:Nat} (hat:at_+32≤n) : ∃ h',CW 122 [.slice a n c,aH at_] h=some (.agg (bP ((l.drop at_).take 32)).toArray,h')∧Old h h':=by
 have key : ∃ h',t122 CW (.slice a n c) (aH at_) h=some (.agg (bP ((l.drop at_).take 32)).toArray,h')∧Old h h':=by
  have hlen:=(aw hl).1
  have hl32:((l.drop at_).take 32).length=32:=by rw [List.length_take,List.length_drop];omega
  obtain ⟨h1,z1,o1,g1,n1⟩:=fresh (List.replicate 32 (.int .u8 0)) h
  obtain ⟨h2,z2,o2,g2,n2⟩:=fresh (List.replicate 32 (.int .u8 0)) h1
  have hlt : ∀ z,a=some z→0<n→z.block<h.next:=fun z hz h0=>by
   obtain ⟨b,off,s,k,e,hk,_⟩:=(aw hl).2.2 h0
   rw [hz] at e
   cases e
   exact h.bc hk
  unfold t122
  simp -implicitDefEqProofs only [z1,z2,af]
  refine bY (Q:=fun o:Out => ∃ h',o=some (Value.agg (bP ((l.drop at_).take 32)).toArray,h')∧Old h h') (bZ (t122l122_11010_eq CW) (ptRound (h0:=h2) (D:=h1.next) (a:=a) (n:=n) (c:=c) (at_:=at_) (R:=h.next) (l:=l) (Old.bytes (o1.trans o2) hl) hn hat (by rw [o2.n0];exact h1.aK) (fun z hz h0 e=>by have:=hlt z hz h0;omega)) 32 (by decide)
   ⟨0,rfl,rfl,rfl,rfl,rfl,rfl,Kept.refl _ _,g2⟩) ?_
  rintro ex w g ⟨rfl,w4,w5,K,gD⟩
  rw [bE,b122_exit,t122k122_2_eq]
  unfold t122k122_2
  have dl:bD 32 (ptr h1.next 0) g=some (.agg (bP ((l.drop at_).take 32)).toArray,g):=cA gD (by rw [List.length_map];exact hl32) (cJ _).1
  have OK:Old h g:=(o1.trans o2).cE K (fun d hd e=>by omega)
  have GR:g.get h.next=some (List.replicate 32 (.int .u8 0)):=K.dj (Old.get o2 g1) (by omega)
  obtain ⟨g',e',k',g'',_,_⟩:=bJ (n:=32) (k':=bP ((l.drop at_).take 32)) GR (by rw [OK.n0];exact h.aK) rfl (by rw [List.length_map];exact hl32) (cJ _).2
  have ld2:bD 32 (ptr h.next 0) g'=some (.agg (bP ((l.drop at_).take 32)).toArray,g'):=cA g'' (by rw [List.length_map];exact hl32) (cJ _).1
  refine ⟨g',?_,OK.cE k' (fun d hd e=>by omega)⟩
  simp -implicitDefEqProofs only [w4,w5,dl,e',af]
  rw [←w4] at ld2
  exact eP results122 agg28 siz28 (show 4<20 by decide) (up w [_]) ld2
 obtain ⟨h',e,o⟩:=key
 exact ⟨h',aF is122 hG rfl ((t122_eq _ _ _ _).trans e),o⟩
def man0 (l:List Nat):dp:=⟨(l.getD 2 0:Nat),(l.getD 3 0:Nat),(l.getD 4 0:Nat),(l.getD 5 0*256+l.getD 6 0:Nat),z32,[]⟩
def pcs (l:List Nat) (n:Nat):List (List Nat):=(List.range n).map fun i=>(l.drop (39+32*i)).take 32
def manF (l:List Nat):dp:={ man0 l with obj:=(l.drop 7).take 32,pieces:=pcs l (l.getD 4 0) }
def manG (l:List Nat):Bool:=dW (man0 l).gk (man0 l).gn (man0 l).gt&&decide ((man0 l).gs≤8192)
def ofM (l:List Nat):dp×Int:=
 if l.length<7 then (dp.z,4) else if l.getD 0 0≠77∨l.getD 1 0≠1 then (dp.z,5) else if manG l=false then (dp.z,2) else
 if l.length<39+32*l.getD 4 0 then (dp.z,4) else if 39+32*l.getD 4 0<l.length then (dp.z,5) else (manF l,0)
theorem pDigs_err : ∀ (n:Nat) (s:Rd),s.e≠0→(br n s).2=s
 | 0,s,_=>rfl
 |n+1,s,h=>by
  have e:(s.take 32).2=s:=by rw [Rd.take_err h]
  show (br n (s.take 32).2).2=s
  rw [e,pDigs_err n s h]
theorem pDigs_ok : ∀ (n:Nat) (r:List Nat),32*n≤r.length→br n ⟨r,0⟩=((List.range n).map (fun i=>(r.drop (32*i)).take 32),⟨r.drop (32*n),0⟩)
 | 0,r,_=>by simp [br]
 |n+1,r,h=>by
  have t:(⟨r,0⟩:Rd).take 32=(r.take 32,⟨r.drop 32,0⟩):=Rd.ef rfl (by show 32≤r.length;omega)
  have ih:=pDigs_ok n (r.drop 32) (by rw [List.length_drop];omega)
  rw [br,t]
  simp only
  rw [ih,pad_full (by rw [List.length_take];omega),List.range_succ_eq_map]
  simp only [List.map_cons,List.map_map,List.drop_drop]
  refine Prod.ext ?_ (Rd.ext ?_ rfl)
  ·show _::_=_::_
   rw [Nat.mul_zero,List.drop_zero]
   congr 1
   refine List.map_congr_left fun i _ => ?_
   show List.take 32 (List.drop (32+32*i) r)=List.take 32 (List.drop (32*(i+1)) r)
   congr 2
   omega
  ·show List.drop _ _=List.drop _ _
   congr 1
   omega
theorem pDigs_short : ∀ (n:Nat) (r:List Nat),r.length<32*n→(br n ⟨r,0⟩).2.fin=4
 | 0,r,h=>absurd h (by omega)
 |n+1,r,h=>by
  show (br n ((⟨r,0⟩:Rd).take 32).2).2.fin=4
  by_cases h32:32≤r.length
  ·have t:(⟨r,0⟩:Rd).take 32=(r.take 32,⟨r.drop 32,0⟩):=Rd.ef rfl h32
   rw [t]
   exact pDigs_short n (r.drop 32) (by rw [List.length_drop];omega)
  ·have t:(⟨r,0⟩:Rd).take 32=([],⟨r,4⟩):=Rd.eO rfl (by show r.length<32;omega)
   rw [t,pDigs_err n _ (show (4:Int)≠0 by decide)]
   rfl
theorem rd_at (l:List Nat) (i n:Nat) (h:i+n≤l.length):(⟨l.drop i,0⟩:Rd).num n=(be ((l.drop i).take n),⟨l.drop (i+n),0⟩):=by
 unfold Rd.num
 rw [Rd.ef rfl (by show n≤(l.drop i).length;rw [List.length_drop];omega)]
 simp only [List.drop_drop]
theorem pHead_ok {l:List Nat} (h:7≤l.length):pHead l=(l.getD 0 0*256+l.getD 1 0,l.getD 2 0,l.getD 3 0,l.getD 4 0,l.getD 5 0*256+l.getD 6 0,⟨l.drop 7,0⟩):=by
 have two : ∀ i,i+2≤l.length→be ((l.drop i).take 2)=l.getD i 0*256+l.getD (i+1) 0:=fun i hi=>by
  have h1:=drop_one (l:=l) (i:=i) (by omega)
  have h2:=drop_one (l:=l) (i:=i+1) (by omega)
  have:(l.drop i).take 2 = [l.getD i 0,l.getD (i+1) 0]:=by
   have e:(l.drop i).take 2=(l.drop i).take 1++((l.drop i).drop 1).take 1:=by rw [←List.take_add]
   rw [e,h1,List.drop_drop,h2]
   rfl
  rw [this,be_two]
 have one : ∀ i,i<l.length→be ((l.drop i).take 1)=l.getD i 0:=fun i hi=>by rw [drop_one hi,be_one]
 unfold pHead
 have r0:=rd_at l 0 2 (by omega)
 rw [List.drop_zero] at r0
 rw [r0]
 simp only [Nat.zero_add]
 rw [rd_at l 2 1 (by omega)]
 simp only [Nat.reduceAdd]
 rw [rd_at l 3 1 (by omega)]
 simp only [Nat.reduceAdd]
 rw [rd_at l 4 1 (by omega)]
 simp only [Nat.reduceAdd]
 rw [rd_at l 5 2 (by omega)]
 have t0:=two 0 (by omega)
 rw [List.drop_zero] at t0
 rw [t0,one 2 (by omega),one 3 (by omega),one 4 (by omega),two 5 (by omega)]
theorem pHead_short {l:List Nat} (h:l.length<7):(pHead l).2.2.2.2.2.e=4:=by
 have q:(((((((⟨l,0⟩:Rd).take 2).2.take 1).2.take 1).2.take 1).2.take 2).2.e=4):=by
  have h04:=Rd.take_04 (n:=2) (Rd.take_04 (n:=1) (Rd.take_04 (n:=1) (Rd.take_04 (n:=1) (Rd.take_04 (n:=2) (s:=(⟨l,0⟩:Rd)) (.inl rfl)))))
  rcases h04 with h0|h0
  ·exfalso
   obtain ⟨q1,q2,_⟩:=Rd.take_e h0
   obtain ⟨q3,q4,q5⟩:=Rd.take_e q1
   obtain ⟨q6,q7,q8⟩:=Rd.take_e q3
   obtain ⟨q9,q10,q11⟩:=Rd.take_e q6
   obtain ⟨q12,ew,q14⟩:=Rd.take_e q9
   rw [q5] at q2
   rw [q8] at q2 q4
   rw [q11] at q2 q4 q7
   rw [q14] at q2 q4 q7 q10
   simp only [List.length_drop] at q2 q4 q7 q10 ew
   omega
  ·exact h0
 exact q
theorem ofM_eq {l:List Nat} (hb:Bys l):ofM l=cM l:=by
 have gd : ∀ i,l.getD i 0<256:=fun i=>by
  rw [List.getD_eq_getElem?_getD]
  cases h:l[i]? with
  |none=>decide
  |some x=>exact hb x (List.mem_of_getElem? h)
 unfold ofM cM
 by_cases c1:l.length<7
 ·have e:=pHead_short c1
  rw [if_pos c1]
  simp only
  rw [if_pos (by rw [e];decide),e]
 rw [if_neg c1]
 have e:=pHead_ok (l:=l) (by omega)
 simp only [e]
 rw [if_neg (show ¬((0:Int)≠0) by decide)]
 have g0:=gd 0
 have g1:=gd 1
 by_cases c2:l.getD 0 0≠77∨l.getD 1 0≠1
 ·rw [if_pos c2,if_pos (show l.getD 0 0*256+l.getD 1 0≠19713 by omega)]
 rw [if_neg c2,if_neg (show ¬l.getD 0 0*256+l.getD 1 0≠19713 by omega)]
 have hm:manG l=false↔dW (l.getD 2 0:Nat) (l.getD 3 0:Nat) (l.getD 4 0:Nat)=false∨(8192:Int)<(l.getD 5 0*256+l.getD 6 0:Nat):=by
  unfold manG man0
  simp only [Bool.and_eq_false_iff,decide_eq_false_iff_not]
  constructor
  ·rintro (h|h)
   ·exact .inl h
   ·exact .inr (by omega)
  ·rintro (h|h)
   ·exact .inl h
   ·exact .inr (by omega)
 by_cases c3:manG l=false
 ·rw [if_pos c3,if_pos (hm.1 c3)]
 rw [if_neg c3,if_neg (fun h=>c3 (hm.2 h))]
 by_cases h39:39≤l.length
 ·have t:(⟨l.drop 7,0⟩:Rd).take 32=((l.drop 7).take 32,⟨l.drop 39,0⟩):=by
   rw [Rd.ef rfl (by show 32≤(l.drop 7).length;rw [List.length_drop];omega)]
   simp only [List.drop_drop]
  rw [t]
  simp only
  by_cases c4:l.length<39+32*l.getD 4 0
  ·have f:=pDigs_short (l.getD 4 0) (l.drop 39) (by rw [List.length_drop];omega)
   rw [if_pos c4,f,if_pos (by decide)]
  rw [if_neg c4]
  have f:=pDigs_ok (l.getD 4 0) (l.drop 39) (by rw [List.length_drop];omega)
  rw [f]
  simp only
  by_cases c5:39+32*l.getD 4 0<l.length
  ·have ff:(⟨(l.drop 39).drop (32*l.getD 4 0),0⟩:Rd).fin=5:=by
    unfold Rd.fin
    rw [if_pos rfl,if_neg (fun h=>by
     have:=congrArg List.length h
     simp only [List.length_drop,List.length_nil] at this
     omega)]
   rw [if_pos c5,ff,if_pos (by decide)]
  rw [if_neg c5]
  have ff:(⟨(l.drop 39).drop (32*l.getD 4 0),0⟩:Rd).fin=0:=by
   unfold Rd.fin
   rw [if_pos rfl,if_pos (List.length_eq_zero_iff.1 (by show (List.drop _ _).length=0;simp only [List.length_drop];omega))]
  rw [ff,if_neg (by decide)]
  refine Prod.ext ?_ rfl
  rw [pad_full (by rw [List.length_take,List.length_drop];omega)]
  have q:pcs l (l.getD 4 0)=(List.range (l.getD 4 0)).map (fun i=>((l.drop 39).drop (32*i)).take 32):=List.map_congr_left fun i _=>by rw [List.drop_drop]
  show manF l=_
  unfold manF man0
  rw [q]
 ·have t:(⟨l.drop 7,0⟩:Rd).take 32=([],⟨l.drop 7,4⟩):=Rd.eO rfl (by show (l.drop 7).length<32;rw [List.length_drop];omega)
  rw [if_pos (by omega),t]
  simp only
  rw [pDigs_err _ _ (show (4:Int)≠0 by decide)]
  show _=if (4:Int)≠0 then _ else _
  rw [if_pos (by decide)]
  rfl
theorem bld_m0:bU Zg []=some (.agg (cK dp.z (.slice none 0 0)).toArray):=rfl
theorem bld_m (k n t s:Int):bU Zg [(0,1,.int .i64 k),(1,1,.int .i64 n),(2,1,.int .i64 t),(3,1,.int .i64 s)]=some (.agg (cK ⟨k,n,t,s,z32,[]⟩ (.slice none 0 0)).toArray):=by kernel_rfl
theorem man_fin {h0 h:aj} {b:Nat} {k:dB} {m:dp} {v:Value} (c:(cK m v).length=37∧Abs.bH (cK m v)=true∧aQ (cK m v)=true) (o:Old h0 h) (hb:h0.next≤b) (g:h.get b=some k) (hk:k.length=37) : ∃ h',bw 37 (ptr b 0) (.agg (cK m v).toArray) h=some (undef,h')∧bD 37 (ptr b 0) h'=some (.agg (cK m v).toArray,h')∧Old h0 h'∧Kept h h' (· = b):=by
 have hn:h.n0≤b:=by rw [o.n0];exact Nat.le_trans h0.aK hb
 obtain ⟨h',e1,k1,g1,_,_⟩:=bJ (n:=37) g hn hk c.1 c.2.2
 exact ⟨h',e1,cA g1 c.1 c.2.1,Old.eF o k1 hb,k1⟩
theorem results83:Tryz.f83.results.toList = [.cell 2 32,.tmp 3]:=by kernel_rfl
theorem b83_exit (C:au) (e:Env) (h:aj):b83_12 C 0 e h=k83_10 C e h:=rfl
structure E83 (h h1:aj) (a:Option Addr) (n c:Nat) (l:List Nat) (y:Nat→Value):Prop where
 hG:4≤h.n0
 hl:ay a n h=some l
 hn:n≤70000
 o1:Old h h1
 g1:h1.get h.next=some Zg
 y0:y 0 = .slice a n c
 y2:y 2=ptr h.next 0
section
variable {h h1:aj} {a:Option Addr} {n c:Nat} {l:List Nat} {y:Nat→Value}
theorem E83.go (E:E83 h h1 a n c l y) {y':Nat→Value} (e0:y' 0=y 0) (e2:y' 2=y 2):E83 h h1 a n c l y':=⟨E.hG,E.hl,E.hn,E.o1,E.g1,e0.trans E.y0,e2.trans E.y2⟩
theorem E83.more (E:E83 h h1 a n c l y) {y':Nat→Value} {h2:aj} (o:Old h1 h2) (e0:y' 0=y 0) (e2:y' 2=y 2):E83 h h2 a n c l y':=⟨E.hG,E.hl,E.hn,E.o1.trans o,Old.get o E.g1,e0.trans E.y0,e2.trans E.y2⟩
theorem fin83 (y:Nat→Value) (w:dB) (e:Int) {b:Nat} (g':aj) (y2:y 2=ptr b 0) (y3:y 3 = .int .i64 e) (ld:bD 37 (ptr b 0) g'=some (.agg w.toArray,g')):ar Tryz.prog Tryz.f83.results.toList (aJ 94 y) g'=some (.tuple #[.agg w.toArray,.int .i64 e],g'):=by
 rw [←y2] at ld
 rw [←y3]
 exact bp results83 agg32 siz32' (show 2<94 by decide) (show 3<94 by decide) y ld
theorem E83.zero (E:E83 h h1 a n c l y) : ∃ hz1,bw 37 (ptr h.next 0) (.agg (cK dp.z (.slice none 0 0)).toArray) h1=some (undef,hz1)∧bD 37 (ptr h.next 0) hz1=some (.agg (cK dp.z (.slice none 0 0)).toArray,hz1)∧Old h hz1:=by
 obtain ⟨h',e1,e2,e3,_⟩:=man_fin (m:=dp.z) (v := .slice none 0 0) (fH rfl ⟨rfl,rfl⟩) E.o1 (Nat.le_refl _) E.g1 rfl
 exact ⟨h',e1,e2,e3⟩
theorem E83.len (E:E83 h h1 a n c l y):l.length=n:=(aw E.hl).1
theorem E83.byte (E:E83 h h1 a n c l y) (i:Nat) (hi:i<l.length) : ∃ pt,bB 1 (.slice a n c) (aH i)=some pt∧aN pt h1=some (.int .u8 ((l.getD i 0:Nat):Int),h1)∧l.getD i 0<256∧fc .i64 (.int .u8 ((l.getD i 0:Nat):Int)) h1=some (.int .i64 ((l.getD i 0:Nat):Int),h1):=by
 obtain ⟨pt,i1,i2⟩:=byte_rd (c:=c) (i:=i) E.hl (by rw [←E.len];exact hi)
 have hb:l.getD i 0<256:=by
  rw [List.getD_eq_getElem?_getD,List.getElem?_eq_getElem hi]
  exact (aw E.hl).2.1 _ (List.getElem_mem _)
 exact ⟨pt,i1,i2 h1 E.o1,hb,by rw [bq,wrap_i64 (by omega) (by omega)]⟩
theorem x83_1 (E:E83 h h1 a n c l y) (c1:l.length<7) : ∃ h',k83s1 CW (aJ 94 y) h1=some (.tuple #[.agg (cK dp.z (.slice none 0 0)).toArray,.int .i64 4],h')∧Old h h':=by
 have hln:bG (.slice a n c)=some (aH n):=rfl
 have l7:bin Tryz.prog .lss 3 (aH n) (.int .i64 7)=some (.bool (decide (n<7))):=dg n 7
 rw [decide_eq_true (by rw [←E.len];exact c1)] at l7
 obtain ⟨hz1,e1,ld1z,O1⟩:=E.zero
 refine ⟨hz1,?_,O1⟩
 rw [t83s1_eq]
 unfold t83s1
 simp -implicitDefEqProofs only [E.y0, E.y2, hln, l7, bld_m0, e1, af, ak]
 exact fin83 _ _ _ _ E.y2 rfl ld1z
theorem s83_1 (E:E83 h h1 a n c l y) (c1 : ¬l.length<7) : ∃ y',k83s1 CW (aJ 94 y) h1=k83s2 CW (aJ 94 y') h1∧E83 h h1 a n c l y':=by
 have hln:bG (.slice a n c)=some (aH n):=rfl
 have l7:bin Tryz.prog .lss 3 (aH n) (.int .i64 7)=some (.bool (decide (n<7))):=dg n 7
 rw [decide_eq_false (by rw [←E.len];exact c1)] at l7
 rw [t83s1_eq]
 unfold t83s1
 simp -implicitDefEqProofs only [E.y0, hln, l7, af, ak]
 exact ⟨_,rfl,E.go rfl rfl⟩
theorem x83_2 (E:E83 h h1 a n c l y) (c1 : ¬l.length<7) (c2:l.getD 0 0≠77∨l.getD 1 0≠1) : ∃ h',k83s2 CW (aJ 94 y) h1=some (.tuple #[.agg (cK dp.z (.slice none 0 0)).toArray,.int .i64 5],h')∧Old h h':=by
 obtain ⟨p0,j0,f0,_⟩:=E.byte 0 (by omega)
 obtain ⟨p1,j1,f1,_⟩:=E.byte 1 (by omega)
 have j0:bB 1 (.slice a n c) (.int .i64 0)=some p0:=j0
 have j1:bB 1 (.slice a n c) (.int .i64 1)=some p1:=j1
 have q0:bin Tryz.prog .neq 5 (.int .u8 ((l.getD 0 0:Nat):Int)) (.int .u8 77)=some (.bool (((l.getD 0 0:Nat):Int) != 77)):=ax ..
 have q1:bin Tryz.prog .neq 5 (.int .u8 ((l.getD 1 0:Nat):Int)) (.int .u8 1)=some (.bool (((l.getD 1 0:Nat):Int) != 1)):=ax ..
 obtain ⟨hz1,e1,ld1z,O1⟩:=E.zero
 refine ⟨hz1,?_,O1⟩
 rw [t83s2_eq]
 unfold t83s2
 generalize l.getD 0 0=x0 at *
 generalize l.getD 1 0=x1 at *
 by_cases d0:x0=77
 ·rw [show (((x0:Nat):Int) != 77)=false by rw [d0];rfl] at q0
  rw [show (((x1:Nat):Int) != 1)=true by simp;omega] at q1
  simp -implicitDefEqProofs only [E.y0, E.y2, j0, f0, q0, j1, f1, q1, bld_m0, e1, af, ak, ao, beq_self_eq_true, ai, Bool.false_eq_true, if_false]
  exact fin83 _ _ _ _ E.y2 rfl ld1z
 ·rw [show (((x0:Nat):Int) != 77)=true by simp;omega] at q0
  simp -implicitDefEqProofs only [E.y0, E.y2, j0, f0, q0, bld_m0, e1, af, ak, ao, sf, ah, if_true]
  exact fin83 _ _ _ _ E.y2 rfl ld1z
theorem s83_2 (E:E83 h h1 a n c l y) (c1 : ¬l.length<7) (c2 : ¬(l.getD 0 0≠77∨l.getD 1 0≠1)) : ∃ y',k83s2 CW (aJ 94 y) h1=k83s3 CW (aJ 94 y') h1∧E83 h h1 a n c l y':=by
 obtain ⟨p0,j0,f0,_⟩:=E.byte 0 (by omega)
 obtain ⟨p1,j1,f1,_⟩:=E.byte 1 (by omega)
 have j0:bB 1 (.slice a n c) (.int .i64 0)=some p0:=j0
 have j1:bB 1 (.slice a n c) (.int .i64 1)=some p1:=j1
 have q0:bin Tryz.prog .neq 5 (.int .u8 ((l.getD 0 0:Nat):Int)) (.int .u8 77)=some (.bool (((l.getD 0 0:Nat):Int) != 77)):=ax ..
 have q1:bin Tryz.prog .neq 5 (.int .u8 ((l.getD 1 0:Nat):Int)) (.int .u8 1)=some (.bool (((l.getD 1 0:Nat):Int) != 1)):=ax ..
 rw [t83s2_eq]
 unfold t83s2
 generalize l.getD 0 0=x0 at *
 generalize l.getD 1 0=x1 at *
 rw [show (((x0:Nat):Int) != 77)=false by rw [show x0=77 by omega];rfl] at q0
 rw [show (((x1:Nat):Int) != 1)=false by rw [show x1=1 by omega];rfl] at q1
 simp -implicitDefEqProofs only [E.y0, j0, f0, q0, j1, f1, q1, af, ak, ao, beq_self_eq_true, ai, Bool.false_eq_true, if_false]
 exact ⟨_,rfl,E.go rfl rfl⟩
structure M83 (h h1:aj) (a:Option Addr) (n c:Nat) (l:List Nat) (y:Nat→Value) (V:Nat) (m:dp):Prop where
 E:E83 h h1 a n c l y
 y4:y 4=ptr V 0
 gV:h1.get V=some (cK m (.slice none 0 0))
 hV:h.next<V
 hm:m.obj.length=32
theorem s83_3 (E:E83 h h1 a n c l y) (c1 : ¬l.length<7) : ∃ y' h2 V,k83s3 CW (aJ 94 y) h1=k83s4 CW (aJ 94 y') h2∧M83 h h2 a n c l y' V (man0 l):=by
 obtain ⟨p2,j2,f2,b2,v2⟩:=E.byte 2 (by omega)
 obtain ⟨p3,j3,f3,b3,v3⟩:=E.byte 3 (by omega)
 obtain ⟨p4,j4,f4,b4,v4⟩:=E.byte 4 (by omega)
 obtain ⟨p5,j5,f5,b5,v5⟩:=E.byte 5 (by omega)
 obtain ⟨p6,j6,f6,b6,v6⟩:=E.byte 6 (by omega)
 have j2:bB 1 (.slice a n c) (.int .i64 2)=some p2:=j2
 have j3:bB 1 (.slice a n c) (.int .i64 3)=some p3:=j3
 have j4:bB 1 (.slice a n c) (.int .i64 4)=some p4:=j4
 have j5:bB 1 (.slice a n c) (.int .i64 5)=some p5:=j5
 have j6:bB 1 (.slice a n c) (.int .i64 6)=some p6:=j6
 have mu:bin Tryz.prog .mul 3 (.int .i64 ((l.getD 5 0:Nat):Int)) (.int .i64 256)=some (aH (l.getD 5 0*256)):=by
  rw [bin_mul,wrap_i64 (by omega) (by omega)]
  rfl
 have ad:bin Tryz.prog .add 3 (aH (l.getD 5 0*256)) (.int .i64 ((l.getD 6 0:Nat):Int))=some (aH (l.getD 5 0*256+l.getD 6 0)):=add3 (by omega)
 have bm:=bld_m (l.getD 2 0:Nat) (l.getD 3 0:Nat) (l.getD 4 0:Nat) (l.getD 5 0*256+l.getD 6 0:Nat)
 have bm:bU Zg [(0,1,.int .i64 ((l.getD 2 0:Nat):Int)),(1,1,.int .i64 ((l.getD 3 0:Nat):Int)),(2,1,.int .i64 ((l.getD 4 0:Nat):Int)),(3,1,aH (l.getD 5 0*256+l.getD 6 0))]=some (.agg (cK (man0 l) (.slice none 0 0)).toArray):=bm
 have hm:(man0 l).obj.length=32:=rfl
 obtain ⟨h2,z2,o2,g2,n2⟩:=fresh Zg h1
 obtain ⟨h3,e3,_,o3,k3⟩:=man_fin (m:=man0 l) (v := .slice none 0 0) (fH hm ⟨rfl,rfl⟩) o2 (Nat.le_refl _) g2 rfl
 obtain ⟨h3',e3',_,g3,_,_⟩:=bJ (n:=37) (k':=cK (man0 l) (.slice none 0 0)) g2 (by rw [o2.n0];exact h1.aK) rfl (fH hm ⟨rfl,rfl⟩).1 (fH hm ⟨rfl,rfl⟩).2.2
 rw [e3] at e3'
 cases e3'
 have hlt:=h1.bc E.g1
 rw [t83s3_eq]
 unfold t83s3
 generalize man0 l=m0 at *
 simp -implicitDefEqProofs only [E.y0, j2, f2, v2, j3, f3, v3, j4, f4, v4, j5, f5, v5, j6, f6, v6, mu, ad, bm, z2, e3, af, ak]
 exact ⟨_,h3,h1.next,rfl,⟨E.more o3 rfl rfl,rfl,g3,hlt,hm⟩⟩
variable {V:Nat} {m:dp}
theorem M83.ld (M:M83 h h1 a n c l y V m):aN (ptr V 0) h1=some (.int .i64 m.gk,h1)∧aN (ptr V 1) h1=some (.int .i64 m.gn,h1)∧aN (ptr V 2) h1=some (.int .i64 m.gt,h1)∧aN (ptr V 3) h1=some (.int .i64 m.gs,h1):=⟨aV M.gV rfl rfl,aV M.gV rfl rfl,aV M.gV rfl rfl,aV M.gV rfl rfl⟩
theorem x83_4 (M:M83 h h1 a n c l y V m) (c1:(dW m.gk m.gn m.gt&&decide (m.gs≤8192))=false) : ∃ h',k83s4 CW (aJ 94 y) h1=some (.tuple #[.agg (cK dp.z (.slice none 0 0)).toArray,.int .i64 2],h')∧Old h h':=by
 obtain ⟨l0,l1,l2,l3⟩:=M.ld
 have e9:=r92 (h:=h1) (by rw [M.E.o1.n0];exact M.E.hG) m.gk m.gn m.gt
 have q8:bin Tryz.prog .gtr 3 (.int .i64 m.gs) (.int .i64 8192)=some (.bool !(decide (m.gs≤8192))):=by
  rw [aB,←decide_not]
  congr 2
  exact decide_eq_decide.2 (by omega)
 obtain ⟨hz1,e1,ld1z,O1⟩:=M.E.zero
 refine ⟨hz1,?_,O1⟩
 rw [t83s4_eq]
 unfold t83s4
 cases d1:dW m.gk m.gn m.gt with
 |false=>
  simp -implicitDefEqProofs only [M.y4, M.E.y2, l0, l1, l2, e9, d1, bld_m0, e1, af, ak, ao, sf, ah, if_true, Bool.not_false, av, al, Nat.zero_add]
  exact fin83 _ _ _ _ M.E.y2 rfl ld1z
 |true=>
  rw [d1,Bool.true_and] at c1
  rw [c1] at q8
  simp -implicitDefEqProofs only [M.y4, M.E.y2, l0, l1, l2, l3, e9, d1, q8, bld_m0, e1, af, ak, ao, beq_self_eq_true, ai, Bool.false_eq_true, if_false, Bool.not_true, Bool.not_false, av, al, Nat.zero_add]
  exact fin83 _ _ _ _ M.E.y2 rfl ld1z
theorem M83.go (M:M83 h h1 a n c l y V m) {y':Nat→Value} (e0:y' 0=y 0) (e2:y' 2=y 2) (e4:y' 4=y 4):M83 h h1 a n c l y' V m:=⟨M.E.go e0 e2,e4.trans M.y4,M.gV,M.hV,M.hm⟩
theorem s83_4 (M:M83 h h1 a n c l y V m) (c1:(dW m.gk m.gn m.gt&&decide (m.gs≤8192))=true) : ∃ y',k83s4 CW (aJ 94 y) h1=k83s5 CW (aJ 94 y') h1∧M83 h h1 a n c l y' V m:=by
 obtain ⟨l0,l1,l2,l3⟩:=M.ld
 have e9:=r92 (h:=h1) (by rw [M.E.o1.n0];exact M.E.hG) m.gk m.gn m.gt
 have q8:bin Tryz.prog .gtr 3 (.int .i64 m.gs) (.int .i64 8192)=some (.bool !(decide (m.gs≤8192))):=by
  rw [aB,←decide_not]
  congr 2
  exact decide_eq_decide.2 (by omega)
 rw [Bool.and_eq_true] at c1
 rw [c1.2] at q8
 rw [t83s4_eq]
 unfold t83s4
 simp -implicitDefEqProofs only [M.y4, l0, l1, l2, l3, e9, c1.1, q8, af, ak, ao, beq_self_eq_true, ai, Bool.false_eq_true, if_false, Bool.not_true, av, al, Nat.zero_add]
 exact ⟨_,rfl,M.go rfl rfl rfl⟩
theorem mulT {T:Nat} (hT:T<256):bin Tryz.prog .mul 3 (.int .i64 32) (aH T)=some (aH (32*T))∧bin Tryz.prog .add 3 (.int .i64 39) (aH (32*T))=some (aH (39+32*T)):=by
 refine ⟨?_,add3 (a:=39) (b:=32*T) (by omega)⟩
 unfold aH
 rw [bin_mul,wrap_i64 (by omega) (by omega)]
 rfl
theorem x83_5 (M:M83 h h1 a n c l y V m) {T:Nat} (hT:m.gt=(T:Nat)) (hT2:T<256) (c1:l.length<39+32*T) : ∃ h',k83s5 CW (aJ 94 y) h1=some (.tuple #[.agg (cK dp.z (.slice none 0 0)).toArray,.int .i64 4],h')∧Old h h':=by
 obtain ⟨l0,l1,l2,l3⟩:=M.ld
 rw [hT] at l2
 have l2:aN (ptr V 2) h1=some (aH T,h1):=l2
 obtain ⟨m1,m2⟩:=mulT hT2
 have hln:bG (.slice a n c)=some (aH n):=rfl
 have q:=dg n (39+32*T)
 rw [decide_eq_true (by rw [←M.E.len];exact c1)] at q
 obtain ⟨hz1,e1,ld1z,O1⟩:=M.E.zero
 refine ⟨hz1,?_,O1⟩
 rw [t83s5_eq]
 unfold t83s5
 simp -implicitDefEqProofs only [M.E.y0, M.y4, M.E.y2, hln, l2, m1, m2, q, bld_m0, e1, af, ak, al, Nat.zero_add]
 exact fin83 _ _ _ _ M.E.y2 rfl ld1z
theorem s83_5 (M:M83 h h1 a n c l y V m) {T:Nat} (hT:m.gt=(T:Nat)) (hT2:T<256) (c1 : ¬l.length<39+32*T) : ∃ y',k83s5 CW (aJ 94 y) h1=k83s6 CW (aJ 94 y') h1∧M83 h h1 a n c l y' V m:=by
 obtain ⟨l0,l1,l2,l3⟩:=M.ld
 rw [hT] at l2
 have l2:aN (ptr V 2) h1=some (aH T,h1):=l2
 obtain ⟨m1,m2⟩:=mulT hT2
 have hln:bG (.slice a n c)=some (aH n):=rfl
 have q:=dg n (39+32*T)
 rw [decide_eq_false (by rw [←M.E.len];exact c1)] at q
 rw [t83s5_eq]
 unfold t83s5
 simp -implicitDefEqProofs only [M.E.y0, M.y4, hln, l2, m1, m2, q, af, ak, al, Nat.zero_add]
 exact ⟨_,rfl,M.go rfl rfl rfl⟩
theorem x83_6 (M:M83 h h1 a n c l y V m) {T:Nat} (hT:m.gt=(T:Nat)) (hT2:T<256) (c1:39+32*T<l.length) : ∃ h',k83s6 CW (aJ 94 y) h1=some (.tuple #[.agg (cK dp.z (.slice none 0 0)).toArray,.int .i64 5],h')∧Old h h':=by
 obtain ⟨l0,l1,l2,l3⟩:=M.ld
 rw [hT] at l2
 have l2:aN (ptr V 2) h1=some (aH T,h1):=l2
 obtain ⟨m1,m2⟩:=mulT hT2
 have hln:bG (.slice a n c)=some (aH n):=rfl
 have q:bin Tryz.prog .gtr 3 (aH n) (aH (39+32*T))=some (.bool (decide (39+32*T<n))):=gtr3 n (39+32*T)
 rw [decide_eq_true (by rw [←M.E.len];exact c1)] at q
 obtain ⟨hz1,e1,ld1z,O1⟩:=M.E.zero
 refine ⟨hz1,?_,O1⟩
 rw [t83s6_eq]
 unfold t83s6
 simp -implicitDefEqProofs only [M.E.y0, M.y4, M.E.y2, hln, l2, m1, m2, q, bld_m0, e1, af, ak, al, Nat.zero_add]
 exact fin83 _ _ _ _ M.E.y2 rfl ld1z
theorem s83_6 (M:M83 h h1 a n c l y V m) {T:Nat} (hT:m.gt=(T:Nat)) (hT2:T<256) (c1 : ¬39+32*T<l.length) : ∃ y',k83s6 CW (aJ 94 y) h1=k83s7 CW (aJ 94 y') h1∧M83 h h1 a n c l y' V m:=by
 obtain ⟨l0,l1,l2,l3⟩:=M.ld
 rw [hT] at l2
 have l2:aN (ptr V 2) h1=some (aH T,h1):=l2
 obtain ⟨m1,m2⟩:=mulT hT2
 have hln:bG (.slice a n c)=some (aH n):=rfl
 have q:bin Tryz.prog .gtr 3 (aH n) (aH (39+32*T))=some (.bool (decide (39+32*T<n))):=gtr3 n (39+32*T)
 rw [decide_eq_false (by rw [←M.E.len];exact c1)] at q
 rw [t83s6_eq]
 unfold t83s6
 simp -implicitDefEqProofs only [M.E.y0, M.y4, hln, l2, m1, m2, q, af, ak, al, Nat.zero_add]
 exact ⟨_,rfl,M.go rfl rfl rfl⟩
theorem s83_7 (M:M83 h h1 a n c l y V m) (c1:39≤l.length) : ∃ y' h2,k83s7 CW (aJ 94 y) h1=k83s8 CW (aJ 94 y') h2∧M83 h h2 a n c l y' V { m with obj:=(l.drop 7).take 32 }:=by
 obtain ⟨h2,e2,o2⟩:=r122 (h:=h1) (c:=c) (by rw [M.E.o1.n0];exact M.E.hG) (Old.bytes M.E.o1 M.E.hl) (by have:=M.E.hn;omega) (at_:=7) (by rw [←M.E.len];omega)
 have e2:CW 122 [.slice a n c,.int .i64 7] h1=_:=e2
 have hl32:((l.drop 7).take 32).length=32:=by rw [List.length_take,List.length_drop];omega
 have gV:=Old.get o2 M.gV
 have hV:=M.hV
 have hn0:h2.n0≤V:=by rw [o2.n0,M.E.o1.n0];have:=h.aK;omega
 obtain ⟨h3,e3,k3,g3,_,_⟩:=stored_mid (o:=4) (n:=32) (B':=bP ((l.drop 7).take 32)) gV hn0 (by rw [(fH M.hm ⟨rfl,rfl⟩).1];decide) (by rw [List.length_map];exact hl32) (cJ _).2
 rw [mset4 M.hm hl32] at g3
 rw [t83s7_eq]
 unfold t83s7
 simp -implicitDefEqProofs only [M.E.y0, M.y4, e2, e3, af, ak, al, Nat.zero_add]
 refine ⟨_,h3,rfl,⟨⟨M.E.hG,M.E.hl,M.E.hn,(M.E.o1.trans o2).cE k3 (fun d hd e=>by omega),k3.dj (Old.get o2 M.E.g1) (by omega),M.E.y0,M.E.y2⟩,M.y4,g3,hV,hl32⟩⟩
def pmInv (h0 h:aj) (a:Option Addr) (n c:Nat) (l:List Nat) (V T:Nat) (m:dp) (k:Nat) (y:Nat→Value) (g:aj):Prop:=
 ∃ i v,i+k=T∧y 5=aH i∧y 0 = .slice a n c∧y 2=ptr h.next 0∧y 4=ptr V 0∧g.get V=some (cK m v)∧dJ g h0.next 32 v i ((pcs l i).flatMap bP)∧Kept h0 g (· = V)
def pmFin (h0 h:aj) (l:List Nat) (V T:Nat) (m:dp) (ex:Ex) (y:Nat→Value) (g:aj):Prop:=
 ex = .exit 0∧y 2=ptr h.next 0∧y 4=ptr V 0 ∧ ∃ v,g.get V=some (cK m v)∧dJ g h0.next 32 v T ((pcs l T).flatMap bP)∧Kept h0 g (· = V)
theorem pcs_len (l:List Nat) (i:Nat):(pcs l i).length=i:=by unfold pcs;simp
theorem pcs_d32 {l:List Nat} (hb:Bys l) {T:Nat} (hl:39+32*T≤l.length) : ∀ x∈pcs l T,D32 x:=fun x hx=>by
 obtain ⟨i,hi,rfl⟩:=List.mem_map.1 hx
 have:=List.mem_range.1 hi
 exact ⟨by rw [List.length_take,List.length_drop];omega,(hb.drop _).take _⟩
theorem pcs_snoc (l:List Nat) (i:Nat):pcs l (i+1)=pcs l i ++ [(l.drop (39+32*i)).take 32]:=by unfold pcs;rw [List.range_succ,List.map_append];rfl
theorem pm_typed {l:List Nat} (hb:Bys l) {T:Nat} (hl:39+32*T≤l.length) {g:aj} {N:Nat} {v:Value} (o:dJ g N 32 v T ((pcs l T).flatMap bP)):dh g dQ v T ((pcs l T).flatMap bP):=by
 have t:=cY (P:=D32) (fun a ha=>c9 ha) _ (pcs_d32 hb hl)
 rw [pcs_len] at t
 exact own_sl (ks:=dQ) o t
set_option maxRecDepth 100000 in
theorem pmRound {h0:aj} {T:Nat} (hG:4≤h0.n0) (hl:ay a n h0=some l) (hn:n≤70000) (hT:m.gt=(T:Nat)) (hT2:T<256) (hlen:l.length=39+32*T) (hm:m.obj.length=32) (hV:V<h0.next) (hV0:h0.n0≤V) (ha : ∀ z,a=some z→0<n→z.block≠V) :
  ∀ k y g,pmInv h0 h a n c l V T m k y g→dd 94 (pmInv h0 h a n c l V T m) (pmFin h0 h l V T m) k (eo CW y g):=by
 rintro k y g ⟨i,v,hik,y5,y0,y2,y4,gV,O,K⟩
 have hb:Bys l:=(aw hl).2.1
 have hln:=(aw hl).1
 have l2:aN (ptr V 2) g=some (aH T,g):=by
  have:aN (ptr V 2) g=some (.int .i64 m.gt,g):=aV gV rfl rfl
  rw [hT] at this
  exact this
 unfold eo
 by_cases hi:i<T
 ·have hcell:=ba (pm_typed hb (by omega) O)
  have hv:=(pm_typed hb (by omega) O).fb
  have l0:aN (ptr V 36) g=some (v,g):=aV gV (mat36 hm) hcell.1
  obtain ⟨m1,m2⟩:=mulT (T:=i) (by omega)
  obtain ⟨g1,e1,o1⟩:=r122 (h:=g) (c:=c) (by rw [K.n0];exact hG) (K.bytes hl ha) (by omega) (at_:=39+32*i) (by omega)
  have hd32:D32 ((l.drop (39+32*i)).take 32):=⟨by rw [List.length_take,List.length_drop];omega,(hb.drop _).take _⟩
  have ps:=pcs_snoc l i
  generalize (l.drop (39+32*i)).take 32=d at *
  have G1:g1.get V=some (cK m v):=Old.get o1 gV
  have l1:aN (ptr V 36) g1=some (v,g1):=aV G1 (mat36 hm) hcell.1
  have w1:=fM l1 hv
  have hbs:=bsl_one (n:=32) (z:=List.replicate 32 (.int .u8 0)) g1 rfl rfl (by decide) (by decide) (bX hd32) (cJ d).2
  have oa:Old g1 (g1.alloc (bP d)):=Kept.alloc _ _ _
  have ga:(g1.alloc (bP d)).get g1.next=some (bP d):=by rw [aj.aS,if_pos rfl]
  generalize g1.alloc (bP d)=g2 at *
  have S:=slice1 (s:=none) ga (c9 hd32)
  have kk:=o1.trans oa
  have O2:=O.bF kk (fun _ _ h=>h)
  have p2:g2.n0≤h0.next:=by rw [kk.n0,K.n0];exact h0.aK
  obtain ⟨v',g3,e3,O3,k3,_⟩:=eS (by_:=32) O2 p2 (Nat.le_trans K.next kk.next) (by decide) S.slice (S.first (by decide)) (cJ d).2 (cJ d).1 (by rw [bX hd32]) (by omega) (by omega)
  have G3:g3.get V=some (cK m v):=k3.dj (Old.get oa G1) (fun e=>by have:=cG O2 e.1;omega)
  have p3:g3.n0≤V:=by rw [k3.n0,kk.n0,K.n0];exact hV0
  have O3':dJ g3 h0.next 32 v' (i+1) ((pcs l (i+1)).flatMap bP):=by
   rw [ps,List.flatMap_append]
   simpa using O3
  have hcell':=ba (pm_typed hb (by omega) O3')
  obtain ⟨g4,e4,k4,G4,_,n4⟩:=stored (v:=v') (o:=36) G3 p3 (by rw [(fH hm ⟨hcell.1,hcell.2.1⟩).1];decide) hcell'.2.2 hcell'.2.1
  rw [mset36 hm] at G4
  have O4:=O3'.bF k4 (fun b hb e=>by have:=cG O3' hb;omega)
  simp -implicitDefEqProofs only [y5, y4, y0, l2, dg, decide_eq_true hi, l0, m1, m2, e1, hbs, e3, e4, w1, ee (show i+1≤9223372036854775807 by omega), af, ak, Bool.and_self, al, Nat.zero_add]
  refine dd.next (k-1) (by omega) ⟨i+1,v',by omega,rfl,y0,y2,y4,G4,O4,?_⟩
  refine ((K.trans (kk.mono (fun _ _ h=>h.elim))).cE k3 (fun d hd e => ?_)).trans k4
  have:=cG O2 e.1
  omega
 ·obtain rfl:i=T:=by omega
  simp -implicitDefEqProofs only [y5, y4, l2, dg, decide_eq_false hi, af, ak, al, Nat.zero_add]
  exact dd.out 0 ⟨rfl,y2,y4,v,gV,O,K⟩
theorem s83_8 (M:M83 h h1 a n c l y V m) {T:Nat} (hT:m.gt=(T:Nat)) (hT2:T<256) (hlen:l.length=39+32*T) : ∃ v h',k83s8 CW (aJ 94 y) h1=some (.tuple #[.agg (cK m v).toArray,.int .i64 0],h')∧dh h' dQ v T ((pcs l T).flatMap bP)∧(∀ b,slB v=some b→h.next≤b)∧Old h h':=by
 have hb:Bys l:=(aw M.E.hl).2.1
 have hV:=M.hV
 have hVl:=h1.bc M.gV
 have hn0:=h.aK
 have hlt : ∀ z,a=some z→0<n→z.block<h.next:=fun z hz h0=>by
  obtain ⟨b,off,s,k,e,hk,_⟩:=(aw M.E.hl).2.2 h0
  rw [hz] at e
  cases e
  exact h.bc hk
 rw [t83s8_eq]
 unfold t83s8
 rw [af]
 refine bY (Q:=fun o:Out => ∃ v h',o=some (Value.tuple #[.agg (cK m v).toArray,.int .i64 0],h')∧dh h' dQ v T ((pcs l T).flatMap bP)∧(∀ b,slB v=some b→h.next≤b)∧Old h h')
  (bZ (t83l83_11111111010_eq CW) (pmRound (h:=h) (h0:=h1) (V:=V) (m:=m) (c:=c) (T:=T) (by rw [M.E.o1.n0];exact M.E.hG) (Old.bytes M.E.o1 M.E.hl) M.E.hn hT hT2 hlen M.hm hVl (by rw [M.E.o1.n0];omega) (fun z hz h0 e=>by have:=hlt z hz h0;omega)) T (by have:rounds=18446744073709551616:=rfl;omega)
   ⟨0,.slice none 0 0,Nat.zero_add _,rfl,M.E.y0,M.E.y2,M.y4,M.gV,.nil _ _ _,Kept.refl _ _⟩) ?_
 rintro ex w g ⟨rfl,w2,w4,v,gV,O,K⟩
 have S:=pm_typed hb (by omega) O
 have hc:=ba S
 have mo:=fH (m:=m) (v:=v) M.hm ⟨hc.1,hc.2.1⟩
 have OK:Old h g:=M.E.o1.cE K (fun d hd e=>by omega)
 have gR:g.get h.next=some Zg:=K.dj M.E.g1 (by omega)
 have ld:bD 37 (ptr V 0) g=some (.agg (cK m v).toArray,g):=cA gV mo.1 mo.2.1
 obtain ⟨g',e9,l9,O9,k9⟩:=man_fin mo OK (Nat.le_refl _) gR rfl
 have ob : ∀ b,slB v=some b→h1.next≤b:=fun b hb=>own_blk O hb
 have nx:=M.E.o1.next
 rw [bE,b83_exit,t83k83_10_eq]
 unfold t83k83_10
 refine ⟨v,g',?_,S.bF k9 (fun b hb e=>by have:=ob b hb;omega),fun b hb=>by have:=ob b hb;omega,O9⟩
 simp -implicitDefEqProofs only [w2,w4,ld,e9,af]
 exact fin83 _ _ _ _ w2 rfl l9
theorem is83:bO Tryz.prog 83 Tryz.f83:=⟨by kernel_rfl,by kernel_rfl,by kernel_rfl,by kernel_rfl⟩
theorem r83 (hG:4≤h.n0) (hl:ay a n h=some l) (hn:n≤70000) : ∃ v h',CW 83 [.slice a n c] h=some (.tuple #[.agg (cK (cM l).1 v).toArray,.int .i64 (cM l).2],h')∧Old h h'∧(cM l).1.Wf∧dh h' dQ v (cM l).1.pieces.length ((cM l).1.pieces.flatMap bP)∧(∀ b,slB v=some b→h.next≤b):=by
 have hby:Bys l:=(aw hl).2.1
 have z : ∀ {q:Int} {o:Out},(∃ h',o=some (Value.tuple #[.agg (cK dp.z (.slice none 0 0)).toArray,.int .i64 q],h')∧Old h h') → ∃ v h',o=some (Value.tuple #[.agg (cK dp.z v).toArray,.int .i64 q],h')∧Old h h'∧dp.z.Wf∧dh h' dQ v dp.z.pieces.length (dp.z.pieces.flatMap bP)∧(∀ b,slB v=some b→h.next≤b):=fun {q o} h=>by
  obtain ⟨h',e,o⟩:=h
  exact ⟨_,h',e,o,dp.fZ,.nil _ _,fun b hb=>by cases hb⟩
 have key : ∃ v h',k83s0 CW (aJ 94 (bs [.slice a n c])) h=some (.tuple #[.agg (cK (ofM l).1 v).toArray,.int .i64 (ofM l).2],h')∧Old h h'∧(ofM l).1.Wf∧dh h' dQ v (ofM l).1.pieces.length ((ofM l).1.pieces.flatMap bP)∧(∀ b,slB v=some b→h.next≤b):=by
  obtain ⟨h1,z1,o1,g1,n1⟩:=fresh Zg h
  have st : ∃ y,k83s0 CW (aJ 94 (bs [.slice a n c])) h=k83s1 CW (aJ 94 y) h1∧E83 h h1 a n c l y:=by
   rw [t83s0_eq]
   unfold t83s0
   simp -implicitDefEqProofs only [z1, af]
   exact ⟨_,rfl,hG,hl,hn,o1,g1,rfl,rfl⟩
  obtain ⟨y1,e1,E1⟩:=st
  rw [e1]
  by_cases c1:l.length<7
  ·have hd:ofM l=(dp.z,4):=by unfold ofM;rw [if_pos c1]
   rw [hd]
   exact z (x83_1 E1 c1)
  obtain ⟨y2,e2,E2⟩:=s83_1 E1 c1
  rw [e2]
  by_cases c2:l.getD 0 0≠77∨l.getD 1 0≠1
  ·have hd:ofM l=(dp.z,5):=by unfold ofM;rw [if_neg c1,if_pos c2]
   rw [hd]
   exact z (x83_2 E2 c1 c2)
  obtain ⟨y3,e3,E3⟩:=s83_2 E2 c1 c2
  obtain ⟨y4,h4,V,e4,M4⟩:=s83_3 E3 c1
  rw [e3,e4]
  have hT:(man0 l).gt=(l.getD 4 0:Nat):=rfl
  have hT2:l.getD 4 0<256:=by
   rw [List.getD_eq_getElem?_getD,List.getElem?_eq_getElem (by omega)]
   exact hby _ (List.getElem_mem _)
  by_cases c3:manG l=false
  ·have hd:ofM l=(dp.z,2):=by unfold ofM;rw [if_neg c1,if_neg c2,if_pos c3]
   rw [hd]
   exact z (x83_4 M4 c3)
  have c3':manG l=true:=by cases h:manG l with|true=>rfl|false=>exact absurd h c3
  obtain ⟨y5,e5,M5⟩:=s83_4 M4 c3'
  rw [e5]
  by_cases c4:l.length<39+32*l.getD 4 0
  ·have hd:ofM l=(dp.z,4):=by unfold ofM;rw [if_neg c1,if_neg c2,if_neg c3,if_pos c4]
   rw [hd]
   exact z (x83_5 M5 hT hT2 c4)
  obtain ⟨y6,e6,M6⟩:=s83_5 M5 hT hT2 c4
  rw [e6]
  by_cases c5:39+32*l.getD 4 0<l.length
  ·have hd:ofM l=(dp.z,5):=by unfold ofM;rw [if_neg c1,if_neg c2,if_neg c3,if_neg c4,if_pos c5]
   rw [hd]
   exact z (x83_6 M6 hT hT2 c5)
  obtain ⟨y7,e7,M7⟩:=s83_6 M6 hT hT2 c5
  obtain ⟨y8,h8,e8,M8⟩:=s83_7 M7 (by omega)
  obtain ⟨v,h9,e9,S,ob,O9⟩:=s83_8 M8 (T:=l.getD 4 0) hT hT2 (by omega)
  have hd:ofM l=(manF l,0):=by unfold ofM;rw [if_neg c1,if_neg c2,if_neg c3,if_neg c4,if_neg c5]
  rw [e7,e8,hd]
  have gd : ∀ i,l.getD i 0<256:=fun i=>by
   rw [List.getD_eq_getElem?_getD]
   cases h:l[i]? with
   |none=>decide
   |some x=>exact hby x (List.mem_of_getElem? h)
  have w:(manF l).Wf:=by
   have g2:=gd 2
   have g3:=gd 3
   have g4:=gd 4
   have g5:=gd 5
   have g6:=gd 6
   refine ⟨i64_n (by omega),i64_n (by omega),i64_n (by omega),i64_n (n:=l.getD 5 0*256+l.getD 6 0) (by omega),⟨?_,(hby.drop _).take _⟩,pcs_d32 hby (by omega)⟩
   show ((l.drop 7).take 32).length=32
   rw [List.length_take,List.length_drop]
   omega
  refine ⟨v,h9,?_,O9,w,?_,ob⟩
  ·exact e9
  ·show dh h9 dQ v (pcs l (l.getD 4 0)).length _
   rw [pcs_len]
   exact S
 obtain ⟨v,h',e,r⟩:=key
 rw [ofM_eq hby] at e r
 exact ⟨v,h',aF is83 hG rfl ((t83_eq _ _ _).trans e),r⟩
end
end Go.Proofs.YtjghlcdidopcpaaGreatDoor

namespace Go.Proofs.YtjghlcdidopcpaaGreatDoor
open Go Go.Abs
attribute [local congr] aU
theorem Cu.cZ {c:Cu} (hb:Bys c.l) (n:Nat):(c.num n).1<256^n:=be_lt' (by rw [Cu.eD];exact Nat.le_refl _) (Cu.take_bys hb n).1
structure R4 (h0:aj) (N:Nat) (q:aO) (sl:cR) (c:Cu) (x:Nat→Value) (g:aj):Prop where
 hG:4≤h0.n0
 hN:N≤h0.next
 x2:x 2=ptr h0.next 0
 x3:x 3=ptr (h0.next+1) 0
 x4:x 4=ptr (h0.next+2) 0
 x5:x 5=ptr (h0.next+3) 0
 gM:g.get h0.next=some (q.d.cells sl)
 gC:CutB g N (h0.next+1) c
 gR:g.get (h0.next+2)=some Zl
 gD:CutB g N (h0.next+3) ⟨[],false⟩
 qw:q.Wf
 bA:Old h0 g
 nx:h0.next+4≤g.next
section
variable {h0:aj} {N:Nat} {q:aO} {sl:cR} {c:Cu} {x:Nat→Value} {g:aj}
theorem R4.env (R:R4 h0 N q sl c x g) {x':Nat→Value} (e2:x' 2=x 2) (e3:x' 3=x 3) (e4:x' 4=x 4) (e5:x' 5=x 5):R4 h0 N q sl c x' g:=
 ⟨R.hG,R.hN,e2.trans R.x2,e3.trans R.x3,e4.trans R.x4,e5.trans R.x5,R.gM,R.gC,R.gR,R.gD,R.qw,R.bA,R.nx⟩
theorem R4.bF (R:R4 h0 N q sl c x g) {g':aj} {B:Nat→Prop} (k:Kept g g' B) (hB : ∀ b,B b→h0.next+4≤b):R4 h0 N q sl c x g':=by
 have hN:=R.hN
 have nx:=R.nx
 exact ⟨R.hG,R.hN,R.x2,R.x3,R.x4,R.x5,k.dj R.gM (fun b=>by have:=hB _ b;omega),R.gC.bF k (fun b=>by have:=hB _ b;omega) (fun b e=>by have:=hB _ e;omega),k.dj R.gR (fun b=>by have:=hB _ b;omega),R.gD.bF k (fun b=>by have:=hB _ b;omega) (fun b e=>by have:=hB _ e;omega),R.qw,R.bA.cE k (fun d hd e=>by have:=hB _ e;omega),Nat.le_trans nx k.next⟩
theorem R4.go (R:R4 h0 N q sl c x g) {g':aj} (k:Old g g'):R4 h0 N q sl c x g':=R.bF k (fun _ h=>h.elim)
theorem R4.n0 (R:R4 h0 N q sl c x g):g.n0≤h0.next:=by rw [R.bA.n0];exact h0.aK
theorem R4.g4 (R:R4 h0 N q sl c x g):4≤g.n0:=by rw [R.bA.n0];exact R.hG
theorem R4.Ng (R:R4 h0 N q sl c x g):N≤g.next:=Nat.le_trans R.hN R.bA.next
theorem R4.len (R:R4 h0 N q sl c x g):(q.d.cells sl).length=116:=fS (aO.ok R.qw)
theorem R4.wr (R:R4 h0 N q sl c x g) {g':aj} {q':aO} {sl':cR} (k:Kept g g' (· = h0.next)) (gM:g'.get h0.next=some (q'.d.cells sl')) (qw:q'.Wf):R4 h0 N q' sl' c x g':=by
 have hN:=R.hN
 have nx:=R.nx
 exact ⟨R.hG,R.hN,R.x2,R.x3,R.x4,R.x5,gM,R.gC.bF k (fun b=>by omega) (fun b e=>by omega),k.dj R.gR (fun b=>by omega),R.gD.bF k (fun b=>by omega) (fun b e=>by omega),qw,R.bA.cE k (fun d hd e=>by omega),Nat.le_trans nx k.next⟩
theorem R4.put (R:R4 h0 N q sl c x g) {o:Nat} {v:Value} {q':aO} {sl':cR} (ho:o<116) (hc:v.cells = #[v]) (hv:v.oneCell'=true) (e:(q.d.cells sl).set o v=q'.d.cells sl') (qw:q'.Wf) :
  ∃ g',bw 1 (ptr h0.next o) v g=some (undef,g')∧R4 h0 N q' sl' c x g'∧Kept g g' (· = h0.next):=by
 obtain ⟨g',e1,k,g1,_,_⟩:=stored (o:=o) (v:=v) R.gM R.n0 (by rw [R.len];exact ho) hc hv
 rw [e] at g1
 exact ⟨g',e1,R.wr k g1 qw,k⟩
theorem R4.putN (R:R4 h0 N q sl c x g) {o n:Nat} {w:dB} {q':aO} {sl':cR} (ho:o+n≤116) (hc:w.length=n) (hv:aQ w=true) (e:bI (q.d.cells sl) o w=q'.d.cells sl') (qw:q'.Wf) :
  ∃ g',bw n (ptr h0.next o) (.agg w.toArray) g=some (undef,g')∧R4 h0 N q' sl' c x g'∧Kept g g' (· = h0.next):=by
 obtain ⟨g',e1,k,g1,_,_⟩:=stored_mid (o:=o) (n:=n) R.gM R.n0 (by rw [R.len];exact ho) hc hv
 rw [e] at g1
 exact ⟨g',e1,R.wr k g1 qw,k⟩
theorem R4.cutK (R:R4 h0 N q sl c x g) {g':aj} {c':Cu} (k:Kept g g' (· = h0.next+1)) (gC:CutB g' N (h0.next+1) c'):R4 h0 N q sl c' x g':=by
 have hN:=R.hN
 have nx:=R.nx
 exact ⟨R.hG,R.hN,R.x2,R.x3,R.x4,R.x5,k.dj R.gM (fun b=>by omega),gC,k.dj R.gR (fun b=>by omega),R.gD.bF k (fun b=>by omega) (fun b e=>by omega),R.qw,R.bA.cE k (fun d hd e=>by omega),Nat.le_trans nx k.next⟩
theorem R4.cut (R:R4 h0 N q sl c x g) {v:Value} {c':Cu} (V:ej g N v c') : ∃ g',bw 2 (ptr (h0.next+1) 0) v g=some (undef,g')∧R4 h0 N q sl c' x g'∧Kept g g' (· = h0.next+1):=by
 have:=R.n0
 have:=R.hN
 obtain ⟨g',e,k,C,_⟩:=R.gC.put V (by omega) (by omega)
 exact ⟨g',e,R.cutK k C,k⟩
theorem R4.bad (R:R4 h0 N q sl c x g) : ∃ g',bw 1 (ptr (h0.next+1) 1) (.bool true) g=some (undef,g')∧R4 h0 N q sl ⟨c.l,true⟩ x g'∧Kept g g' (· = h0.next+1):=by
 have:=R.n0
 have:=R.hN
 obtain ⟨a,p,e,h1,h2,h3,h4⟩:=R.gC
 obtain ⟨g',e1,k,g1,_,_⟩:=stored (o:=1) (v := .bool true) e (by omega) (show 1<2 by decide) rfl rfl
 exact ⟨g',e1,R.cutK k ⟨a,p,g1,k.bytes h1 (fun y hy hn b=>by have:=h4 y hy hn;have b:y.block=_:=b;omega),h2,h3,h4⟩,k⟩
theorem R4.bys (R:R4 h0 N q sl c x g):Bys c.l:=by
 obtain ⟨a,p,_,h1,_⟩:=R.gC
 exact (aw h1).2.1
theorem R4.ldc (R:R4 h0 N q sl c x g) : ∃ v,bD 2 (ptr (h0.next+1) 0) g=some (v,g)∧ej g N v c:=by
 obtain ⟨v,V,_,l,_⟩:=R.gC.ld
 exact ⟨v,l g rfl,V⟩
theorem R4.num (R:R4 h0 N q sl c x g) {n:Nat} (hn:n≤8) : ∃ v w g1,bD 2 (ptr (h0.next+1) 0) g=some (v,g)∧CW 78 [v,aH n] g=some (.tuple #[.int .u64 ((c.num n).1:Nat),w],g1)∧ej g1 N w (c.num n).2∧R4 h0 N q sl c x g1∧Old g g1:=by
 obtain ⟨v,l,V⟩:=R.ldc
 obtain ⟨w,g1,e,W,o⟩:=r78 R.g4 R.Ng V hn
 exact ⟨v,w,g1,l,e,W,R.go o,o⟩
theorem ej.k0 {g g':aj} {N:Nat} {v:Value} {c:Cu} (W:ej g N v c) {b:Nat} (k:Kept g g' (· = b)) (h:N≤b):ej g' N v c:=W.bF k (fun _ e=>by omega)
theorem R4.kind (R:R4 h0 N q sl c x g):aN (ptr h0.next 0) g=some (.int .u8 (q.kind:Int),g):=aV R.gM rfl rfl
theorem R4.fin (R:R4 h0 N q sl c x g) (H:Has g sl q) (so:sl.off (fun b=>b<h0.next+4)) : ∃ v2 g3 g4,bD 116 (ptr h0.next 0) g=some (mv q sl,g)∧bD 2 (ptr (h0.next+1) 0) g=some (v2,g)∧bw 116 (ptr (h0.next+2) 0) (mv q sl) g=some (undef,g3)∧bw 2 (ptr (h0.next+3) 0) v2 g3=some (undef,g4)∧dH true (bD 2 (ptr (h0.next+1) 0) g3) v2=true∧bD 116 (ptr (h0.next+2) 0) g4=some (mv q sl,g4)∧bD 2 (ptr (h0.next+3) 0) g4=some (v2,g4)∧Has g4 sl q∧ej g4 N v2 c∧Old h0 g4:=by
 have hN:=R.hN
 have n0:=R.n0
 have ok:=cP H.sl (aO.ok H.wf)
 have A:=m_ld H R.gM
 obtain ⟨v2,V,vq,l2,_⟩:=R.gC.ld
 obtain ⟨g3,e3,k3,G3,_,_⟩:=bJ (n:=116) (k':=q.d.cells sl) R.gR (by omega) rfl ok.2.2 ok.2.1
 have D3:=R.gD.bF k3 (by omega) (fun b e=>by omega)
 have V3:=V.k0 k3 (by omega)
 have l3:=l2 g3 (k3.get _ (by have:=R.nx;omega) (by omega))
 obtain ⟨g4,e4,k4,D4,_⟩:=D3.put V3 (by rw [k3.n0];omega) (by omega)
 have G4:=k4.dj G3 (by omega)
 have V4:=V3.k0 k4 (by omega)
 refine ⟨v2,g3,g4,A.all,l2 g rfl,e3,e4,fM l3 vq,cA G4 ok.2.2 ok.1,?_,(H.bF k3 (fun v hv b hb e=>so v hv b hb (by omega))).bF k4 (fun v hv b hb e=>so v hv b hb (by omega)),V4,((R.bA.cE k3 (fun d hd e=>by omega)).cE k4 (fun d hd e=>by omega))⟩
 obtain ⟨a,p,ev,_⟩:=V4
 obtain ⟨a',p',G,_⟩:=D4
 obtain ⟨a'',p'',ev',_⟩:=V3
 subst ev
 obtain ⟨_,_,g,_⟩:=D3
 have hn:g3.n0≤h0.next+3:=by rw [k3.n0];omega
 obtain ⟨g4',e4',_,G4',_,_⟩:=bJ (n:=2) (k':=cutC (.slice a c.l.length p) c.bad) g hn rfl rfl rfl
 rw [e4] at e4'
 cases e4'
 exact cA G4' rfl rfl
theorem R4.start {h:aj} {N:Nat} {m:aO} {v:Value} {c:Cu} (hG:4≤h.n0) (hN:N≤h.next) (H:Has h aZ m) (V:ej h N v c) : ∃ g1 g2 g3 g4,box (mv m aZ) h=some (ptr h.next 0,g1)∧box v g1=some (ptr (h.next+1) 0,g2)∧cL Zl g2=some (ptr (h.next+2) 0,g3)∧cL [(.slice none 0 0),(.bool false)] g3=some (ptr (h.next+3) 0,g4) ∧
  (∀ x:Nat→Value,x 2=ptr h.next 0→x 3=ptr (h.next+1) 0→x 4=ptr (h.next+2) 0→x 5=ptr (h.next+3) 0→R4 h N m aZ c x g4):=by
 obtain ⟨g1,b1,o1,H1,_,n1,ea⟩:=m_box H
 have G1:g1.get h.next=some (m.d.cells aZ):=by rw [ea,aj.aS,if_pos rfl]
 obtain ⟨g2,b2,o2,C2,n2⟩:=(V.bA o1).box
 obtain ⟨g3,b3,o3,G3,n3⟩:=fresh Zl g2
 obtain ⟨g4,b4,o4,D4,n4⟩:=fT g3 N
 rw [n1] at b2 C2 n2
 rw [n2] at b3 G3 n3
 rw [n3] at b4 D4 n4
 refine ⟨g1,g2,g3,g4,b1,b2,b3,b4,fun x e2 e3 e4 e5=>⟨hG,hN,e2,e3,e4,e5,Old.get o4 (Old.get o3 (Old.get o2 G1)),(C2.bA o3).bA o4,Old.get o4 G3,D4,H.wf,((o1.trans o2).trans o3).trans o4,by omega⟩⟩
end
def cTab:Nat→Cu→List eC×Cu
 | 0,c=>([],c)
 |n+1,c=>(⟨(c.num 8).1,((c.num 8).2.num 1).1⟩::(cTab n ((c.num 8).2.num 1).2).1,(cTab n ((c.num 8).2.num 1).2).2)
def rTab1 (m:aO) (c:Cu):aO:={ m with seq:=(c.num 8).1 }
def rTab2 (m:aO) (w:Nat):aO:=if m.kind=3 then { m with target:=w } else { m with origin:=w }
def rTable (m:aO) (c:Cu):aO×Cu:=
 ({ rTab2 (rTab1 m c) ((c.num 8).2.num 1).1 with table:=(cTab (((c.num 8).2.num 1).2.num 1).1 (((c.num 8).2.num 1).2.num 1).2).1 },(cTab (((c.num 8).2.num 1).2.num 1).1 (((c.num 8).2.num 1).2.num 1).2).2)
section
variable {h0:aj} {N:Nat} {q:aO} {sl:cR} {c:Cu} {x:Nat→Value} {g:aj}
theorem s40_1 (R:R4 h0 N q sl c x g) : ∃ x' g',k40s1 CW (aJ 63 x) g=k40s2 CW (aJ 63 x') g'∧R4 h0 N (rTab1 q c) sl (c.num 8).2 x' g':=by
 obtain ⟨v,w,g1,e1,e2,W,R1,o1⟩:=R.num (n:=8) (by decide)
 have e2:CW 78 [v,.int .i64 8] g=_:=e2
 have hb:(c.num 8).1<18446744073709551616:=Cu.cZ R.bys 8
 obtain ⟨g2,e3,R2,k2⟩:=R1.put (o:=3) (v := .int .u64 ((c.num 8).1:Nat)) (q':=rTab1 q c) (sl':=sl) (by decide) rfl rfl rfl { R1.qw with seq:=hb }
 obtain ⟨g3,e4,R3,k3⟩:=R2.cut (W.k0 k2 R.hN)
 rw [t40s1_eq]
 unfold t40s1
 simp -implicitDefEqProofs only [R.x2, R.x3, e1, e2, e3, e4, af, ak, a8, a7, al, Nat.zero_add]
 exact ⟨_,g3,rfl,R3.env rfl rfl rfl rfl⟩
theorem s40_2 (R:R4 h0 N q sl c x g) : ∃ x' g',k40s2 CW (aJ 63 x) g=k40s3 CW (aJ 63 x') g'∧R4 h0 N q sl (c.num 1).2 x' g'∧x' 6 = .int .u64 ((c.num 1).1:Nat):=by
 obtain ⟨v,w,g1,e1,e2,W,R1,o1⟩:=R.num (n:=1) (by decide)
 have e2:CW 78 [v,.int .i64 1] g=_:=e2
 obtain ⟨g3,e4,R3,k3⟩:=R1.cut W
 rw [t40s2_eq]
 unfold t40s2
 simp -implicitDefEqProofs only [R.x3, e1, e2, e4, af, ak, a8, a7]
 exact ⟨_,g3,rfl,R3.env rfl rfl rfl rfl,rfl⟩
theorem s40_3 (R:R4 h0 N q sl c x g) {w:Nat} (x6:x 6 = .int .u64 (w:Nat)) (hw:w<256) : ∃ x' g',k40s3 CW (aJ 63 x) g=k40s4 CW (aJ 63 x') g'∧R4 h0 N (rTab2 q w) sl c x' g':=by
 have q3:bin Tryz.prog .eql 24 (.int .u8 (q.kind:Int)) (.int .u8 3)=some (.bool ((q.kind:Int)==3)):=az ..
 have l0:=R.kind
 have cv:fc .i64 (.int .u64 ((w:Nat):Int)) g=some (.int .i64 (w:Int),g):=by rw [bq,wrap_i64 (by omega) (by omega)]
 rw [t40s3_eq]
 unfold t40s3 rTab2
 by_cases d:q.kind=3
 ·rw [if_pos d]
  rw [show ((q.kind:Int)==3)=true by rw [d];rfl] at q3
  obtain ⟨g2,e3,R2,k2⟩:=R.put (o:=5) (v := .int .i64 (w:Int)) (q':={ q with target:=w }) (sl':=sl) (by decide) rfl rfl rfl { R.qw with target:=i64_n (by omega) }
  simp -implicitDefEqProofs only [R.x2, l0, q3, x6, cv, e3, af, ak, al, Nat.zero_add]
  exact ⟨_,g2,rfl,R2.env rfl rfl rfl rfl⟩
 ·rw [if_neg d]
  rw [show ((q.kind:Int)==3)=false by simp;omega] at q3
  obtain ⟨g2,e3,R2,k2⟩:=R.put (o:=4) (v := .int .i64 (w:Int)) (q':={ q with origin:=w }) (sl':=sl) (by decide) rfl rfl rfl { R.qw with origin:=i64_n (by omega) }
  simp -implicitDefEqProofs only [R.x2, l0, q3, x6, cv, e3, af, ak, al, Nat.zero_add]
  exact ⟨_,g2,rfl,R2.env rfl rfl rfl rfl⟩
theorem s40_4 (R:R4 h0 N q sl c x g) : ∃ x' g',k40s4 CW (aJ 63 x) g=k40s5 CW (aJ 63 x') g'∧R4 h0 N q sl (c.num 1).2 x' g'∧x' 7 = .int .u64 ((c.num 1).1:Nat):=by
 obtain ⟨v,w,g1,e1,e2,W,R1,o1⟩:=R.num (n:=1) (by decide)
 have e2:CW 78 [v,.int .i64 1] g=_:=e2
 obtain ⟨g3,e4,R3,k3⟩:=R1.cut W
 rw [t40s4_eq]
 unfold t40s4
 simp -implicitDefEqProofs only [R.x3, e1, e2, e4, af, ak, a8, a7]
 exact ⟨_,g3,rfl,R3.env rfl rfl rfl rfl,rfl⟩
def rtI (h0 hs:aj) (N n:Nat) (q:aO) (c0:Cu) (k:Nat) (y:Nat→Value) (g:aj):Prop:=
 ∃ i t c v,i+k=n∧y 7 = .int .u64 (n:Nat)∧y 8=aH i∧R4 h0 N { q with table:=t } { aZ with a:=v } c y g∧dJ g hs.next 2 v t.length (t.flatMap di)∧t.length=i∧Kept hs g (fun b=>b=h0.next∨b=h0.next+1)∧cTab n c0=(t++(cTab k c).1,(cTab k c).2)
def rtF (h0 hs:aj) (N n:Nat) (q:aO) (c0:Cu) (ex:Ex) (y:Nat→Value) (g:aj):Prop:=
 ex = .exit 0 ∧ ∃ v,R4 h0 N { q with table:=(cTab n c0).1 } { aZ with a:=v } (cTab n c0).2 y g∧dJ g hs.next 2 v (cTab n c0).1.length ((cTab n c0).1.flatMap di)∧Kept hs g (fun b=>b=h0.next∨b=h0.next+1)
theorem rtR {h0 hs:aj} {N n:Nat} {q:aO} {c0:Cu} (hn:n<256) (hs4:h0.next+4≤hs.next) : ∀ k y g,rtI h0 hs N n q c0 k y g→dd 63 (rtI h0 hs N n q c0) (rtF h0 hs N n q c0) k (fF CW y g):=by
 rintro k y g ⟨i,t,c,v,hik,y7,y8,R,O,hti,K,hp⟩
 have cv:fc .i64 (.int .u64 ((n:Nat):Int)) g=some (aH n,g):=by
  unfold aH
  rw [bq,wrap_i64 (by omega) (by omega)]
 unfold fF
 cases k with
 |zero=>
  have hd:decide (i<n)=false:=decide_eq_false (by omega)
  simp -implicitDefEqProofs only [y8, y7, cv, dg, hd, af, ak]
  have hp:cTab n c0=(t,c):=by rw [hp];simp [cTab]
  refine dd.out 0 ⟨rfl,v,?_,?_⟩
  ·rw [hp];exact R.env rfl rfl rfl rfl
  ·rw [hp];exact ⟨O,K⟩
 |succ k=>
  have hd:decide (i<n)=true:=decide_eq_true (by omega)
  obtain ⟨v1,w1,g1,e1,e2,W1,R1,o1⟩:=R.num (n:=8) (by decide)
  have e2:CW 78 [v1,.int .i64 8] g=_:=e2
  obtain ⟨g2,e3,R2,k2⟩:=R1.cut W1
  obtain ⟨v3,w3,g3,e4,e5,W3,R3,o3⟩:=R2.num (n:=1) (by decide)
  have e5:CW 78 [v3,.int .i64 1] g2=_:=e5
  obtain ⟨g4,e6,R4',k4⟩:=R3.cut W3
  have h8:(c.num 8).1<18446744073709551616:=Cu.cZ R.bys 8
  have h1:((c.num 8).2.num 1).1<256:=Cu.cZ R2.bys 1
  have hcell:isHole v=false:=(ba (own_sl (ks:=memK) O (cY (P:=eC.Wf) (fun a ha=>mem_typed ha) _ R.qw.table))).1
  have l6:aN (ptr h0.next 6) g4=some (v,g4):=aV R4'.gM rfl hcell
  have cv8:fc .u8 (.int .u64 ((((c.num 8).2.num 1).1:Nat):Int)) g4=some (.int .u8 ((((c.num 8).2.num 1).1:Nat):Int),g4):=by rw [bq,wrap_u8 (by omega) (by omega)]
  generalize hm:(⟨(c.num 8).1,((c.num 8).2.num 1).1⟩:eC)=m at *
  have wm:m.Wf:=by rw [←hm];exact ⟨h8,h1⟩
  have hc:di m = [.int .u64 ((c.num 8).1:Int),.int .u8 (((c.num 8).2.num 1).1:Int)]:=by rw [←hm];rfl
  have hb:bU [(.int .u64 0),(.int .u8 0)] [(0,1,.int .u64 ((c.num 8).1:Int)),(1,1,.int .u8 (((c.num 8).2.num 1).1:Int))]=some (.agg (di m).toArray):=by rw [hc];rfl
  have hbs:bslR 2 (.agg #[(.int .u64 0),(.int .u8 0)]) 1 [(0,.agg (di m).toArray)] g4=some (.slice (some ⟨g4.next,0,none⟩) 1 1,g4.alloc (di m)):=by rw [hc];rfl
  have oa:Old g4 (g4.alloc (di m)):=Kept.alloc _ _ _
  have ga:(g4.alloc (di m)).get g4.next=some (di m):=by rw [aj.aS,if_pos rfl]
  generalize g4.alloc (di m)=g5 at *
  have S:=slice1 (s:=none) ga (mem_typed wm)
  have hne : ∀ b,dm v=some b→h0.next+4≤b:=fun b hb=>by have:=cG O hb;omega
  have O5:=(((O.bF o1 (fun _ _ h=>h)).bF k2 (fun b hb e=>by have:=hne b hb;omega)).bF o3 (fun _ _ h=>h)).bF k4 (fun b hb e=>by have:=hne b hb;omega)
  have O5:=O5.bF oa (fun _ _ h=>h)
  have R5:=R4'.go oa
  have p5:g5.n0≤hs.next:=by have:=R5.n0;omega
  have K5:Kept hs g5 (fun b=>b=h0.next∨b=h0.next+1):=((((K.trans (o1.mono (fun _ _ h=>h.elim))).trans (k2.mono (fun _ _ h => .inr h))).trans (o3.mono (fun _ _ h=>h.elim))).trans (k4.mono (fun _ _ h => .inr h))).trans (oa.mono (fun _ _ h=>h.elim))
  have N5:=K5.next
  obtain ⟨v',g6,e7,O6,k6,_⟩:=eS (by_:=16) O5 p5 N5 (by decide) S.slice (S.first (by decide)) (memC_ok m).2 (memC_ok m).1 (by rw [hc];rfl) (by omega) (by omega)
  have R6:=R5.bF k6 (fun b e=>hne b e.1)
  have O6':dJ g6 hs.next 2 v' (t ++ [m]).length ((t ++ [m]).flatMap di):=by
   rw [List.flatMap_append,List.length_append]
   simpa using O6
  have wt : ∀ a∈t ++ [m],a.Wf:=by
   intro a ha
   rcases List.mem_append.1 ha with ha|ha
   ·exact R.qw.table a ha
   ·simp only [List.mem_cons,List.not_mem_nil,or_false] at ha
    subst ha;exact wm
  have hcell':=ba (own_sl (ks:=memK) O6' (cY (P:=eC.Wf) (fun a ha=>mem_typed ha) _ wt))
  obtain ⟨g7,e8,R7,k7⟩:=R6.put (o:=6) (v:=v') (q':={ q with table:=t ++ [m] }) (sl':={ aZ with a:=v' }) (by decide) hcell'.2.2 hcell'.2.1 rfl { R6.qw with table:=wt }
  have O7:=O6'.bF k7 (fun b hb e=>by have:=cG O6' hb;omega)
  simp -implicitDefEqProofs only [y8, y7, cv, dg, hd, R.x2, R.x3, e1, e2, e3, e4, e5, e6, l6, cv8, hb, hbs, e7, e8, ee (show i+1≤9223372036854775807 by omega), af, ak, a8, a7, al, Nat.zero_add]
  refine dd.next k (by omega) ⟨i+1,t ++ [m],_,v',by omega,y7,rfl,R7.env rfl rfl rfl rfl,O7,by rw [List.length_append,hti];rfl,(K5.cE k6 (fun d hd e=>by have:=cG O5 e.1;omega)).trans (k7.mono (fun _ _ h => .inl h)),?_⟩
  rw [hp,←hm]
  simp [cTab]
theorem results40:Tryz.f40.results.toList = [.cell 4 37,.cell 5 82]:=by kernel_rfl
theorem b40_exit (C:au) (e:Env) (h:aj):b40_2 C 0 e h=k40s6 C e h:=rfl
def Ret (h0:aj) (N:Nat) (o:Out) (r:aO×Cu):Prop := ∃ sl v h',o=some (.tuple #[mv r.1 sl,v],h')∧Has h' sl r.1∧ej h' N v r.2∧Old h0 h'∧sl.off (fun b=>b<h0.next)
theorem s40_6 (R:R4 h0 N q sl c x g) (H:Has g sl q) (so:sl.off (fun b=>b<h0.next+4)):Ret h0 N (k40s6 CW (aJ 63 x) g) (q,c):=by
 obtain ⟨v2,g3,g4,e1,e2,e3,e4,ck,l1,l2,H4,V4,O4⟩:=R.fin H so
 refine ⟨sl,v2,g4,?_,H4,V4,O4,fun v hv b hb e=>so v hv b hb (Nat.lt_add_right 4 e)⟩
 rw [t40s6_eq]
 unfold t40s6
 simp -implicitDefEqProofs only [R.x2, R.x3, R.x4, R.x5, e1, e2, e3, e4, ck, af, Bool.and_self]
 rw [←R.x4] at l1
 rw [←R.x5] at l2
 exact fD results40 fq fp agg82 siz82 (show 4<63 by decide) (show 5<63 by decide) (up x _) l1 l2
theorem s40_5 (R:R4 h0 N q aZ c x g) (H:Has g aZ q) (hq:q.table = []) {n:Nat} (hn:n<256) (x7:x 7 = .int .u64 (n:Nat)):Ret h0 N (k40s5 CW (aJ 63 x) g) ({ q with table:=(cTab n c).1 },(cTab n c).2):=by
 rw [t40s5_eq]
 unfold t40s5
 rw [af]
 refine bY (Q:=fun o:Out=>Ret h0 N o ({ q with table:=(cTab n c).1 },(cTab n c).2)) (bZ (t40l40_11111010_eq CW) (rtR (h0:=h0) (hs:=g) (N:=N) (q:=q) (c0:=c) hn R.nx) n (by have:rounds=18446744073709551616:=rfl;omega)
  ⟨0,[],c,.slice none 0 0,Nat.zero_add _,x7,rfl,?_,.nil _ _ _,rfl,Kept.refl _ _,rfl⟩) ?_
 ·have:({ q with table := [] }:aO)=q:=by cases q;simp only at hq;rw [hq]
  rw [this]
  exact R.env rfl rfl rfl rfl
 rintro ex z g' ⟨rfl,v,R',O,K⟩
 rw [bE,b40_exit]
 have S:=own_sl (ks:=memK) O (cY (P:=eC.Wf) (fun a ha=>mem_typed ha) _ R'.qw.table)
 refine s40_6 R' ⟨⟨S,H.sl.b.bF K (fun b hb=>by cases hb),H.sl.c.bF K (fun b hb=>by cases hb),H.sl.d.bF K (fun b hb=>by cases hb),H.sl.e.bF K (fun b hb=>by cases hb),H.sl.f.bF K (fun b hb=>by cases hb)⟩,R'.qw⟩ (off_a (cT _) (fun b hb e => ?_))
 have:=own_blk O hb
 have:=R.nx
 omega
theorem is40:bO Tryz.prog 40 Tryz.f40:=⟨by kernel_rfl,by kernel_rfl,by kernel_rfl,by kernel_rfl⟩
theorem r40 {h:aj} {m:aO} {v:Value} (hG:4≤h.n0) (hN:N≤h.next) (H:Has h aZ m) (hm:m.table = []) (V:ej h N v c):Ret h N (CW 40 [mv m aZ,v] h) (rTable m c):=by
 obtain ⟨g1,g2,g3,g4,b1,b2,b3,b4,st⟩:=R4.start hG hN H V
 have key:Ret h N (k40s0 CW (aJ 63 (bs [mv m aZ,v])) h) (rTable m c):=by
  rw [t40s0_eq]
  unfold t40s0
  simp -implicitDefEqProofs only [show bs [mv m aZ,v] 0=mv m aZ from rfl, show bs [mv m aZ,v] 1=v from rfl, b1, b2, b3, b4, af]
  have R0:=st (up (bs [mv m aZ,v]) [(2,ptr h.next 0),(3,ptr (h.next+1) 0),(4,ptr (h.next+2) 0),(5,ptr (h.next+3) 0)]) rfl rfl rfl rfl
  have H0:Has g4 aZ m:=H.bA R0.bA
  obtain ⟨x1,h1,e1,R1⟩:=s40_1 R0
  rw [e1]
  obtain ⟨x2,h2,e2,R2,x6⟩:=s40_2 R1
  rw [e2]
  have hw:((c.num 8).2.num 1).1<256:=Cu.cZ R1.bys 1
  obtain ⟨x3,h3,e3,R3⟩:=s40_3 R2 x6 hw
  rw [e3]
  obtain ⟨x4,h4,e4,R4',x7⟩:=s40_4 R3
  rw [e4]
  have hn:(((c.num 8).2.num 1).2.num 1).1<256:=Cu.cZ R3.bys 1
  have hq:(rTab2 (rTab1 m c) ((c.num 8).2.num 1).1).table = []:=by
   unfold rTab2 rTab1
   split
   ·exact hm
   ·exact hm
  have H4:Has h4 aZ (rTab2 (rTab1 m c) ((c.num 8).2.num 1).1):=by
   have X:=(H.bA R4'.bA).sl
   refine ⟨?_,R4'.qw⟩
   unfold rTab2 rTab1
   split
   ·exact ⟨X.a,X.b,X.c,X.d,X.e,X.f⟩
   ·exact ⟨X.a,X.b,X.c,X.d,X.e,X.f⟩
  exact s40_5 R4' H4 hq hn x7
 obtain ⟨sl,v',h',e,r⟩:=key
 exact ⟨sl,v',h',aF is40 hG rfl ((t40_eq _ _ _ _).trans e),r⟩
end
end Go.Proofs.YtjghlcdidopcpaaGreatDoor

namespace Go.Proofs.YtjghlcdidopcpaaGreatDoor
open Go Go.Abs
attribute [local congr] aU
def rcut (c:Cu) (e:Int):Cu:=if e=0 then c else ⟨c.l,true⟩
def dC:Nat→Cu→List bK×Cu
 | 0,c=>([],c)
 |n+1,c=>if c.bad=true then ([],c) else ((dA (c.take 53).1).1::(dC n (rcut (c.take 53).2 (dA (c.take 53).1).2)).1,(dC n (rcut (c.take 53).2 (dA (c.take 53).1).2)).2)
def rIt2 (m:aO) (c:Cu):aO:={ m with low:=c.word.1,high:=c.word.2.word.1 }
def rIt4 (m:aO) (c:Cu):aO×Cu:=({ m with count:=(c.num 4).1,root:=((c.num 4).2.take 32).1 },((c.num 4).2.take 32).2)
def wcut (c:Cu) (w:Nat):Cu:=if 1<w then ⟨c.l,true⟩ else c
def rIt5 (m:aO) (c:Cu):aO×Cu:=
 ({ m with want:=(c.num 1).1==1,cp:=(dC ((wcut (c.num 1).2 (c.num 1).1).num 2).1 ((wcut (c.num 1).2 (c.num 1).1).num 2).2).1 },(dC ((wcut (c.num 1).2 (c.num 1).1).num 2).1 ((wcut (c.num 1).2 (c.num 1).1).num 2).2).2)
def rItems (m:aO) (c:Cu):aO×Cu:=if m.kind=4 then rIt4 (rIt2 m c) c.word.2.word.2 else rIt5 (rIt2 m c) c.word.2.word.2
section
variable {h0:aj} {N:Nat} {q:aO} {sl:cR} {c:Cu} {x:Nat→Value} {g:aj}
theorem R4.word (R:R4 h0 N q sl c x g) : ∃ v a p w g1,bD 2 (ptr (h0.next+1) 0) g=some (v,g)∧CW 79 [v] g=some (.tuple #[.slice a c.word.1.length p,w],g1)∧ay a c.word.1.length g1=some c.word.1∧cn a c.word.1.length p=true∧(∀ y,a=some y→g.next≤y.block)∧ej g1 N w c.word.2∧R4 h0 N q sl c x g1∧Old g g1:=by
 obtain ⟨v,l,V⟩:=R.ldc
 obtain ⟨a,p,w,g1,e,s,gd,f,W,o⟩:=r79 R.g4 R.Ng V
 exact ⟨v,a,p,w,g1,l,e,s,gd,f,W,R.go o,o⟩
theorem R4.dig (R:R4 h0 N q sl c x g) : ∃ v w g1,bD 2 (ptr (h0.next+1) 0) g=some (v,g)∧CW 80 [v] g=some (.tuple #[.agg (bP (c.take 32).1).toArray,w],g1)∧ej g1 N w (c.take 32).2∧R4 h0 N q sl c x g1∧Old g g1∧D32 (c.take 32).1:=by
 obtain ⟨v,l,V⟩:=R.ldc
 obtain ⟨w,g1,e,W,o⟩:=r80 R.g4 R.Ng V
 exact ⟨v,w,g1,l,e,W,R.go o,o,Cu.eD _ _,(Cu.take_bys R.bys 32).1⟩
structure H4 (h0:aj) (N:Nat) (q:aO) (sl:cR) (c:Cu) (x:Nat→Value) (g:aj):Prop where
 R:R4 h0 N q sl c x g
 H:SlV g sl q.n q.d
 so:sl.off (fun b=>b<h0.next+4)
theorem H4.go (Z:H4 h0 N q sl c x g) {g':aj} (o:Old g g'):H4 h0 N q sl c x g':=⟨Z.R.go o,Z.H.bA o,Z.so⟩
theorem H4.env (Z:H4 h0 N q sl c x g) {x':Nat→Value} (e2:x' 2=x 2) (e3:x' 3=x 3) (e4:x' 4=x 4) (e5:x' 5=x 5):H4 h0 N q sl c x' g:=⟨Z.R.env e2 e3 e4 e5,Z.H,Z.so⟩
theorem H4.has (Z:H4 h0 N q sl c x g):Has g sl q:=⟨Z.H,Z.R.qw⟩
theorem H4.cut (Z:H4 h0 N q sl c x g) {v:Value} {c':Cu} (V:ej g N v c') : ∃ g',bw 2 (ptr (h0.next+1) 0) v g=some (undef,g')∧H4 h0 N q sl c' x g'∧Kept g g' (· = h0.next+1):=by
 obtain ⟨g',e,R,k⟩:=Z.R.cut V
 exact ⟨g',e,⟨R,Z.H.bF k (fun v hv b hb e=>Z.so v hv b hb (by have e:b=_:=e;omega)),Z.so⟩,k⟩
theorem H4.bad (Z:H4 h0 N q sl c x g) : ∃ g',bw 1 (ptr (h0.next+1) 1) (.bool true) g=some (undef,g')∧H4 h0 N q sl ⟨c.l,true⟩ x g'∧Kept g g' (· = h0.next+1):=by
 obtain ⟨g',e,R,k⟩:=Z.R.bad
 exact ⟨g',e,⟨R,Z.H.bF k (fun v hv b hb e=>Z.so v hv b hb (by have e:b=_:=e;omega)),Z.so⟩,k⟩
theorem H4.put (Z:H4 h0 N q sl c x g) {o:Nat} {v:Value} {q':aO} {sl':cR} (ho:o<116) (hc:v.cells = #[v]) (hv:v.oneCell'=true) (e:(q.d.cells sl).set o v=q'.d.cells sl') (qw:q'.Wf) (H':SlV g sl' q'.n q'.d) (so':sl'.off (fun b=>b<h0.next+4)) :
  ∃ g',bw 1 (ptr h0.next o) v g=some (undef,g')∧H4 h0 N q' sl' c x g'∧Kept g g' (· = h0.next):=by
 obtain ⟨g',e,R,k⟩:=Z.R.put ho hc hv e qw
 exact ⟨g',e,⟨R,H'.bF k (fun v hv b hb e=>so' v hv b hb (by have e:b=_:=e;omega)),so'⟩,k⟩
theorem H4.putN (Z:H4 h0 N q sl c x g) {o n:Nat} {w:dB} {q':aO} {sl':cR} (ho:o+n≤116) (hc:w.length=n) (hv:aQ w=true) (e:bI (q.d.cells sl) o w=q'.d.cells sl') (qw:q'.Wf) (H':SlV g sl' q'.n q'.d) (so':sl'.off (fun b=>b<h0.next+4)) :
  ∃ g',bw n (ptr h0.next o) (.agg w.toArray) g=some (undef,g')∧H4 h0 N q' sl' c x g'∧Kept g g' (· = h0.next):=by
 obtain ⟨g',e,R,k⟩:=Z.R.putN ho hc hv e qw
 exact ⟨g',e,⟨R,H'.bF k (fun v hv b hb e=>so' v hv b hb (by have e:b=_:=e;omega)),so'⟩,k⟩
theorem word_off {p:Nat} {a:Option Addr} {n k:Nat} (f : ∀ y,a=some y→p≤y.block) : ∀ b,slB (.slice a n k)=some b → ¬b<p:=fun b hb e=>by have:=slB_blk f b hb;omega
theorem Cu.word_lt {c:Cu} (hb:Bys c.l):c.word.1.length<65536:=by
 unfold Cu.word
 rw [Cu.eD]
 exact Cu.cZ hb 2
theorem s41_1 (Z:H4 h0 N q sl c x g) : ∃ sl' x' g',k41s1 CW (aJ 94 x) g=k41s2 CW (aJ 94 x') g'∧H4 h0 N { q with low:=c.word.1 } sl' c.word.2 x' g'∧sl'.d=sl.d:=by
 obtain ⟨v,a,p,w,g1,e1,e2,s1,_,f1,W,R1,o1⟩:=Z.R.word
 have Z1:=Z.go o1
 have nx:=Z.R.nx
 obtain ⟨g2,e3,Z2,k2⟩:=Z1.put (o:=7) (v := .slice a c.word.1.length p) (q':={ q with low:=c.word.1 }) (sl':={ sl with b := .slice a c.word.1.length p }) (by decide) rfl rfl rfl { Z1.R.qw with low:=(aw s1).2.1 } ⟨Z1.H.a,sl_bytes s1,Z1.H.c,Z1.H.d,Z1.H.e,Z1.H.f⟩ (off_b Z1.so (word_off (fun y hy=>by have:=f1 y hy;omega)))
 obtain ⟨g3,e4,Z3,k3⟩:=Z2.cut (W.k0 k2 Z.R.hN)
 rw [t41s1_eq]
 unfold t41s1
 simp -implicitDefEqProofs only [Z.R.x2, Z.R.x3, e1, e2, e3, e4, af, ak, a8, a7, al, Nat.zero_add]
 exact ⟨_,_,g3,rfl,Z3.env rfl rfl rfl rfl,rfl⟩
theorem s41_2 (Z:H4 h0 N q sl c x g) : ∃ sl' x' g',k41s2 CW (aJ 94 x) g=k41s3 CW (aJ 94 x') g'∧H4 h0 N { q with high:=c.word.1 } sl' c.word.2 x' g'∧sl'.d=sl.d:=by
 obtain ⟨v,a,p,w,g1,e1,e2,s1,_,f1,W,R1,o1⟩:=Z.R.word
 have Z1:=Z.go o1
 have nx:=Z.R.nx
 obtain ⟨g2,e3,Z2,k2⟩:=Z1.put (o:=8) (v := .slice a c.word.1.length p) (q':={ q with high:=c.word.1 }) (sl':={ sl with c := .slice a c.word.1.length p }) (by decide) rfl rfl rfl { Z1.R.qw with high:=(aw s1).2.1 } ⟨Z1.H.a,Z1.H.b,sl_bytes s1,Z1.H.d,Z1.H.e,Z1.H.f⟩ (off_c Z1.so (word_off (fun y hy=>by have:=f1 y hy;omega)))
 obtain ⟨g3,e4,Z3,k3⟩:=Z2.cut (W.k0 k2 Z.R.hN)
 rw [t41s2_eq]
 unfold t41s2
 simp -implicitDefEqProofs only [Z.R.x2, Z.R.x3, e1, e2, e3, e4, af, ak, a8, a7, al, Nat.zero_add]
 exact ⟨_,_,g3,rfl,Z3.env rfl rfl rfl rfl,rfl⟩
theorem results41:Tryz.f41.results.toList = [.cell 4 37,.cell 5 82]:=by kernel_rfl
theorem b41_exit (C:au) (e:Env) (h:aj):b41_9 C 0 e h=k41s9 C e h:=rfl
theorem x41_3 (Z:H4 h0 N q sl c x g) (d:q.kind=4):Ret h0 N (k41s3 CW (aJ 94 x) g) (rIt4 q c):=by
 have q3:bin Tryz.prog .eql 24 (.int .u8 (q.kind:Int)) (.int .u8 4)=some (.bool ((q.kind:Int)==4)):=az ..
 rw [show ((q.kind:Int)==4)=true by rw [d];rfl] at q3
 have l0:=Z.R.kind
 obtain ⟨v,w,g1,e1,e2,W,R1,o1⟩:=Z.R.num (n:=4) (by decide)
 have e2:CW 78 [v,.int .i64 4] g=_:=e2
 have h4:(c.num 4).1<4294967296:=Cu.cZ Z.R.bys 4
 obtain ⟨g2,e3,Z2,k2⟩:=(Z.go o1).cut W
 have cv:fc .i64 (.int .u64 (((c.num 4).1:Nat):Int)) g2=some (.int .i64 (((c.num 4).1:Nat):Int),g2):=by rw [bq,wrap_i64 (by omega) (by omega)]
 obtain ⟨g3,e4,Z3,k3⟩:=Z2.put (o:=9) (v := .int .i64 ((c.num 4).1:Nat)) (q':={ q with count:=(c.num 4).1 }) (sl':=sl) (by decide) rfl rfl rfl { Z2.R.qw with count:=i64_n h4 } ⟨Z2.H.a,Z2.H.b,Z2.H.c,Z2.H.d,Z2.H.e,Z2.H.f⟩ Z2.so
 obtain ⟨v5,w5,g5,e5,e6,W5,R5,o5,hd⟩:=Z3.R.dig
 have Z5:=Z3.go o5
 obtain ⟨g6,e7,Z6,k6⟩:=Z5.putN (o:=10) (n:=32) (w:=bP ((c.num 4).2.take 32).1) (q':=(rIt4 q c).1) (sl':=sl) (by decide) (bX hd) (cJ _).2 (c10 Z5.R.qw hd.1) { Z5.R.qw with root:=hd } ⟨Z5.H.a,Z5.H.b,Z5.H.c,Z5.H.d,Z5.H.e,Z5.H.f⟩ Z5.so
 obtain ⟨g7,e8,Z7,k7⟩:=Z6.cut (W5.k0 k6 Z.R.hN)
 obtain ⟨v8,g8,g9,f1,f2,f3,f4,ck,l1,l2,H9,V9,O9⟩:=Z7.R.fin Z7.has Z7.so
 refine ⟨sl,v8,g9,?_,H9,V9,O9,fun v hv b hb e=>Z7.so v hv b hb (Nat.lt_add_right 4 e)⟩
 rw [t41s3_eq]
 unfold t41s3
 simp -implicitDefEqProofs only [Z.R.x2, Z.R.x3, Z.R.x4, Z.R.x5, l0, q3, e1, e2, e3, cv, e4, e5, e6, e7, e8, f1, f2, f3, f4, ck, af, ak, Bool.and_true, a8, a7, al, Nat.zero_add]
 rw [←Z.R.x4] at l1
 rw [←Z.R.x5] at l2
 exact fD results41 fq fp agg82 siz82 (show 4<94 by decide) (show 5<94 by decide) (up x _) l1 l2
theorem s41_3 (Z:H4 h0 N q sl c x g) (d : ¬q.kind=4) : ∃ x',k41s3 CW (aJ 94 x) g=k41s4 CW (aJ 94 x') g∧H4 h0 N q sl c x' g:=by
 have q3:bin Tryz.prog .eql 24 (.int .u8 (q.kind:Int)) (.int .u8 4)=some (.bool ((q.kind:Int)==4)):=az ..
 rw [show ((q.kind:Int)==4)=false by simp;omega] at q3
 have l0:=Z.R.kind
 rw [t41s3_eq]
 unfold t41s3
 simp -implicitDefEqProofs only [Z.R.x2, l0, q3, af, ak, al, Nat.zero_add]
 exact ⟨_,rfl,Z.env rfl rfl rfl rfl⟩
theorem s41_4 (Z:H4 h0 N q sl c x g) : ∃ x' g',k41s4 CW (aJ 94 x) g=k41s5 CW (aJ 94 x') g'∧H4 h0 N q sl (c.num 1).2 x' g'∧x' 7 = .int .u64 ((c.num 1).1:Nat):=by
 obtain ⟨v,w,g1,e1,e2,W,R1,o1⟩:=Z.R.num (n:=1) (by decide)
 have e2:CW 78 [v,.int .i64 1] g=_:=e2
 obtain ⟨g3,e4,Z3,k3⟩:=(Z.go o1).cut W
 rw [t41s4_eq]
 unfold t41s4
 simp -implicitDefEqProofs only [Z.R.x3, e1, e2, e4, af, ak, a8, a7]
 exact ⟨_,g3,rfl,Z3.env rfl rfl rfl rfl,rfl⟩
theorem s41_5 (Z:H4 h0 N q sl c x g) {w:Nat} (x7:x 7 = .int .u64 (w:Nat)) : ∃ x' g',k41s5 CW (aJ 94 x) g=k41s6 CW (aJ 94 x') g'∧H4 h0 N q sl (wcut c w) x' g'∧x' 7 = .int .u64 (w:Nat):=by
 have qg:bin Tryz.prog .gtr 25 (.int .u64 ((w:Nat):Int)) (.int .u64 1)=some (.bool (decide (1<w))):=by
  rw [aB]
  congr 2
  exact decide_eq_decide.2 (by omega)
 rw [t41s5_eq]
 unfold t41s5 wcut
 by_cases d:1<w
 ·rw [if_pos d]
  rw [decide_eq_true d] at qg
  obtain ⟨g2,e1,Z2,k2⟩:=Z.bad
  simp -implicitDefEqProofs only [x7, Z.R.x3, qg, e1, af, ak, al, Nat.zero_add]
  exact ⟨_,g2,rfl,Z2.env rfl rfl rfl rfl,x7⟩
 ·rw [if_neg d]
  rw [decide_eq_false d] at qg
  simp -implicitDefEqProofs only [x7, qg, af, ak]
  exact ⟨_,g,rfl,Z.env rfl rfl rfl rfl,x7⟩
theorem s41_6 (Z:H4 h0 N q sl c x g) {w:Nat} (x7:x 7 = .int .u64 (w:Nat)) : ∃ x' g',k41s6 CW (aJ 94 x) g=k41s7 CW (aJ 94 x') g'∧H4 h0 N { q with want:=w==1 } sl c x' g':=by
 have qg:bin Tryz.prog .eql 25 (.int .u64 ((w:Nat):Int)) (.int .u64 1)=some (.bool (w==1)):=by
  rw [az]
  congr 2
  cases h:(w==1) with
  |true=>have:w=1:=by simpa using h
         rw [this];rfl
  |false=>have:w≠1:=by simpa using h
          simp;omega
 obtain ⟨g2,e1,Z2,k2⟩:=Z.put (o:=43) (v := .bool (w==1)) (q':={ q with want:=w==1 }) (sl':=sl) (by decide) rfl rfl (c43 Z.R.qw _) { Z.R.qw with } ⟨Z.H.a,Z.H.b,Z.H.c,Z.H.d,Z.H.e,Z.H.f⟩ Z.so
 rw [t41s6_eq]
 unfold t41s6
 simp -implicitDefEqProofs only [x7, Z.R.x2, qg, e1, af, ak, al, Nat.zero_add]
 exact ⟨_,g2,rfl,Z2.env rfl rfl rfl rfl⟩
theorem s41_7 (Z:H4 h0 N q sl c x g) : ∃ x' g',k41s7 CW (aJ 94 x) g=k41s8 CW (aJ 94 x') g'∧H4 h0 N q sl (c.num 2).2 x' g'∧x' 8 = .int .u64 ((c.num 2).1:Nat):=by
 obtain ⟨v,w,g1,e1,e2,W,R1,o1⟩:=Z.R.num (n:=2) (by decide)
 have e2:CW 78 [v,.int .i64 2] g=_:=e2
 obtain ⟨g3,e4,Z3,k3⟩:=(Z.go o1).cut W
 rw [t41s7_eq]
 unfold t41s7
 simp -implicitDefEqProofs only [Z.R.x3, e1, e2, e4, af, ak, a8, a7]
 exact ⟨_,g3,rfl,Z3.env rfl rfl rfl rfl,rfl⟩
theorem s41_9 (Z:H4 h0 N q sl c x g):Ret h0 N (k41s9 CW (aJ 94 x) g) (q,c):=by
 obtain ⟨v2,g3,g4,e1,e2,e3,e4,ck,l1,l2,H4,V4,O4⟩:=Z.R.fin Z.has Z.so
 refine ⟨sl,v2,g4,?_,H4,V4,O4,fun v hv b hb e=>Z.so v hv b hb (Nat.lt_add_right 4 e)⟩
 rw [t41s9_eq]
 unfold t41s9
 simp -implicitDefEqProofs only [Z.R.x2, Z.R.x3, Z.R.x4, Z.R.x5, e1, e2, e3, e4, ck, af, Bool.and_self]
 rw [←Z.R.x4] at l1
 rw [←Z.R.x5] at l2
 exact fD results41 fq fp agg82 siz82 (show 4<94 by decide) (show 5<94 by decide) (up x _) l1 l2
def riI (h0 hs:aj) (N n:Nat) (q:aO) (sl:cR) (c0:Cu) (k:Nat) (y:Nat→Value) (g:aj):Prop:=
 ∃ i t c v,i+k=n∧y 8 = .int .u64 (n:Nat)∧y 9=aH i∧R4 h0 N { q with cp:=t } { sl with d:=v } c y g∧dJ g hs.next 39 v t.length (t.flatMap recC)∧t.length=i∧Kept hs g (fun b=>b=h0.next∨b=h0.next+1)∧dC n c0=(t++(dC k c).1,(dC k c).2)
def riF (h0 hs:aj) (N n:Nat) (q:aO) (sl:cR) (c0:Cu) (ex:Ex) (y:Nat→Value) (g:aj):Prop:=
 ex = .exit 0 ∧ ∃ v,R4 h0 N { q with cp:=(dC n c0).1 } { sl with d:=v } (dC n c0).2 y g∧dJ g hs.next 39 v (dC n c0).1.length ((dC n c0).1.flatMap recC)∧Kept hs g (fun b=>b=h0.next∨b=h0.next+1)
theorem R4.badl (R:R4 h0 N q sl c x g):aN (ptr (h0.next+1) 1) g=some (.bool c.bad,g):=by
 obtain ⟨_,_,_,_,l,_⟩:=R.gC.ld
 exact l
theorem recs_typed {t:List bK} (w : ∀ a∈t,a.Wf):dV recK t.length (t.flatMap recC):=cY (P:=bK.Wf) (fun a ha=>fP ha) _ w
theorem R4.item (hz:GZ h0) (R:R4 h0 N q sl c x g) : ∃ v a p w g1 g2 g3 g4 g5 g6 g7 b,bD 2 (ptr (h0.next+1) 0) g=some (v,g)∧CW 81 [v,.int .i64 53] g=some (.tuple #[.slice a 53 p,w],g1)∧cL [(.slice none 0 0),(.bool false)] g1=some (ptr g1.next 0,g2)∧bw 2 (ptr g1.next 0) w g2=some (undef,g3) ∧
  CW 82 [.slice a 53 p] g3=some (.tuple #[.agg (recC (dA (c.take 53).1).1).toArray,.int .i64 (dA (c.take 53).1).2],g4)∧cL Zr g4=some (ptr g4.next 0,g5)∧bw 39 (ptr g4.next 0) (.agg (recC (dA (c.take 53).1).1).toArray) g5=some (undef,g6)∧bD 2 (ptr g1.next 0) g6=some (b,g6) ∧
  bw 2 (ptr (h0.next+1) 0) b g6=some (undef,g7)∧bD 39 (ptr g4.next 0) g7=some (.agg (recC (dA (c.take 53).1).1).toArray,g7)∧g7.get g4.next=some (recC (dA (c.take 53).1).1)∧h0.next+1<g4.next∧R4 h0 N q sl (c.take 53).2 x g7∧Kept g g7 (· = h0.next+1)∧(dA (c.take 53).1).1.Wf:=by
 have hN:=R.hN
 have nx:=R.nx
 have n0:=R.n0
 obtain ⟨v,l,V⟩:=R.ldc
 obtain ⟨a,p,w,g1,e1,s1,gd,f1,W,o1⟩:=r81 R.g4 R.Ng V (n:=53) (by decide)
 have e1:CW 81 [v,.int .i64 53] g=_:=e1
 obtain ⟨g2,z2,o2,C2,n2⟩:=fT g1 N
 have m1:=o1.next
 obtain ⟨g3,e3,k3,C3,n3⟩:=C2.put (W.bA o2) (by rw [o2.n0,o1.n0];omega) (by omega)
 have O3:Old g1 g3:=Old.eF o2 k3 (Nat.le_refl _)
 have s3:=Old.bytes O3 s1
 have OO:=o1.trans O3
 have hw:(dA (c.take 53).1).1.Wf:=decR_wf (Cu.take_bys R.bys 53).1
 obtain ⟨g4,e4,o4⟩:=r82 (h:=g3) (c:=p) (by rw [OO.n0];exact R.g4) ((hz.bA R.bA).bA OO) s3 gd
 obtain ⟨g5,z5,o5,G5,n5⟩:=fresh Zr g4
 have OO4:=OO.trans o4
 have cr:=bL hw
 obtain ⟨g6,e6,k6,G6,_,_⟩:=bJ (n:=39) G5 (by rw [o5.n0];exact g4.aK) rfl cr.1 cr.2.2
 have O6:Old g4 g6:=Old.eF o5 k6 (Nat.le_refl _)
 have C6:=(C3.bA o4).bA O6
 obtain ⟨b,V6,_,l6,_⟩:=C6.ld
 have OO6:=OO4.trans O6
 obtain ⟨g7,e7,R7,k7⟩:=(R.go OO6).cut V6
 have m4:=OO4.next
 have G7:=k7.dj G6 (by omega)
 exact ⟨v,a,p,w,g1,g2,g3,g4,g5,g6,g7,b,l,e1,z2,e3,e4,z5,e6,l6 g6 rfl,e7,cA G7 cr.1 cr.2.1,G7,by omega,R7,(OO6.mono (fun _ _ h=>h.elim)).trans k7,hw⟩
theorem R4.push {hs:aj} {t:List bK} {v:Value} {r:bK} (hs4:h0.next+4≤hs.next) (R:R4 h0 N { q with cp:=t } { sl with d:=v } c x g) (O:dJ g hs.next 39 v t.length (t.flatMap recC)) (K:Kept hs g (fun b=>b=h0.next∨b=h0.next+1)) (ht:t.length<65536) (w:r.Wf) :
  aN (ptr h0.next 42) g=some (v,g) ∧ ∃ s g1 v' g2 g3,bslR 39 (.agg Zr.toArray) 1 [(0,.agg (recC r).toArray)] g=some (s,g1)∧cl 39 88 v s g1=some (v',g2)∧bw 1 (ptr h0.next 42) v' g2=some (undef,g3)∧R4 h0 N { q with cp:=t ++ [r] } { sl with d:=v' } c x g3∧dJ g3 hs.next 39 v' (t ++ [r]).length ((t ++ [r]).flatMap recC)∧Kept hs g3 (fun b=>b=h0.next∨b=h0.next+1):=by
 have hcell:isHole v=false:=(ba (own_sl (ks:=recK) O (recs_typed R.qw.cp))).1
 have cr:=bL w
 have hbs:=bsl_one (n:=39) (z:=Zr) g rfl rfl (by decide) (by decide) cr.1 cr.2.2
 have oa:Old g (g.alloc (recC r)):=Kept.alloc _ _ _
 have ga:(g.alloc (recC r)).get g.next=some (recC r):=by rw [aj.aS,if_pos rfl]
 generalize g.alloc (recC r)=g5 at *
 have S:=slice1 (s:=none) ga (fP w)
 have O5:=O.bF oa (fun _ _ h=>h)
 have R5:=R.go oa
 have K5:Kept hs g5 (fun b=>b=h0.next∨b=h0.next+1):=K.trans (oa.mono (fun _ _ h=>h.elim))
 have p5:g5.n0≤hs.next:=by have:=R5.n0;omega
 obtain ⟨v',g6,e7,O6,k6,_⟩:=eS (by_:=88) O5 p5 K5.next (by decide) S.slice (S.first (by decide)) cr.2.2 cr.2.1 (by rw [cr.1]) (by omega) (by omega)
 have R6:=R5.bF k6 (fun b e=>by have:=cG O5 e.1;omega)
 have O6':dJ g6 hs.next 39 v' (t ++ [r]).length ((t ++ [r]).flatMap recC):=by
  rw [List.flatMap_append,List.length_append]
  simpa using O6
 have wt : ∀ a∈t ++ [r],a.Wf:=by
  intro a ha
  rcases List.mem_append.1 ha with ha|ha
  ·exact R.qw.cp a ha
  ·simp only [List.mem_cons,List.not_mem_nil,or_false] at ha
   subst ha;exact w
 have hcell':=ba (own_sl (ks:=recK) O6' (recs_typed wt))
 obtain ⟨g7,e8,R7,k7⟩:=R6.put (o:=42) (v:=v') (q':={ q with cp:=t ++ [r] }) (sl':={ sl with d:=v' }) (by decide) hcell'.2.2 hcell'.2.1 (set42 (aO.ok R6.qw) _) { R6.qw with cp:=wt }
 have O7:=O6'.bF k7 (fun b hb e=>by have:=cG O6' hb;omega)
 exact ⟨aV R.gM (at42 (aO.ok R.qw)) hcell,_,g5,v',g6,g7,hbs,e7,e8,R7,O7,(K5.cE k6 (fun d hd e=>by have:=cG O5 e.1;omega)).trans (k7.mono (fun _ _ h => .inl h))⟩
theorem riR {h0 hs:aj} {N n:Nat} {q:aO} {sl:cR} {c0:Cu} (hz:GZ h0) (hn:n<65536) (hs4:h0.next+4≤hs.next) : ∀ k y g,riI h0 hs N n q sl c0 k y g→dd 94 (riI h0 hs N n q sl c0) (riF h0 hs N n q sl c0) k (eu CW y g):=by
 rintro k y g ⟨i,t,c,v,hik,y8,y9,R,O,hti,K,hp⟩
 have cv:fc .i64 (.int .u64 ((n:Nat):Int)) g=some (aH n,g):=by
  unfold aH
  rw [bq,wrap_i64 (by omega) (by omega)]
 have lb:=R.badl
 unfold eu
 cases k with
 |zero=>
  have hd:decide (i<n)=false:=decide_eq_false (by omega)
  simp -implicitDefEqProofs only [y9, y8, cv, dg, hd, af, ak, ao, fs, ah, Bool.false_eq_true, if_false]
  have hp:dC n c0=(t,c):=by rw [hp];simp [dC]
  refine dd.out 0 ⟨rfl,v,?_,?_⟩
  ·rw [hp];exact R.env rfl rfl rfl rfl
  ·rw [hp];exact ⟨O,K⟩
 |succ k=>
  have hd:decide (i<n)=true:=decide_eq_true (by omega)
  by_cases hb:c.bad=true
  ·rw [hb] at lb
   simp -implicitDefEqProofs only [y9, y8, R.x3, cv, dg, hd, lb, af, ak, ao, beq_self_eq_true, ai, if_true, Bool.not_true, av, al, Nat.zero_add]
   have hp:dC n c0=(t,c):=by rw [hp];simp [dC,hb]
   refine dd.out 0 ⟨rfl,v,?_,?_⟩
   ·rw [hp];exact R.env rfl rfl rfl rfl
   ·rw [hp];exact ⟨O,K⟩
  have hb:c.bad=false:=by simpa using hb
  rw [hb] at lb
  have hcr:dC (k+1) c=((dA (c.take 53).1).1::(dC k (rcut (c.take 53).2 (dA (c.take 53).1).2)).1,(dC k (rcut (c.take 53).2 (dA (c.take 53).1).2)).2):=by
   rw [dC,hb]
   rfl
  obtain ⟨v1,a,p,w,g1,g2,g3,g4,g5,g6,g7,b,e1,e2,e3,e4,e5,e6,e7,e8,e9,l9,G7,hlt,R7,k7,hw⟩:=R.item hz
  have O7:=O.bF k7 (fun b hb e=>by have:=cG O hb;omega)
  have K7:Kept hs g7 (fun b=>b=h0.next∨b=h0.next+1):=K.trans (k7.mono (fun _ _ h => .inr h))
  generalize (dA (c.take 53).1).1=r at *
  have cr:=bL hw
  by_cases he:(dA (c.take 53).1).2=0
  ·rw [he] at e5 hcr
   have qe:bin Tryz.prog .neq 35 (.int .i64 0) (.int .i64 0)=some (.bool false):=rfl
   obtain ⟨bW,s,g8,v',g9,g10,f1,f2,f3,R10,O10,K10⟩:=R7.push hs4 O7 K7 (by omega) hw
   simp -implicitDefEqProofs only [y9, y8, R.x3, R.x2, cv, dg, hd, lb, e1, e2, e3, e4, e5, e6, e7, e8, e9, l9, qe, bW, f1, f2, f3, ee (show i+1≤9223372036854775807 by omega), af, ak, ao, beq_self_eq_true, ai, if_true, Bool.not_false, av, a8, a7, al, Nat.zero_add]
   refine dd.next k (by omega) ⟨i+1,t ++ [r],_,v',by omega,y8,rfl,R10.env rfl rfl rfl rfl,O10,by rw [List.length_append,hti];rfl,K10,?_⟩
   rw [hp,hcr]
   simp [rcut]
  ·have qe:bin Tryz.prog .neq 35 (.int .i64 (dA (c.take 53).1).2) (.int .i64 0)=some (.bool true):=by rw [ax];simpa using he
   obtain ⟨g7',e10,R7',k7'⟩:=R7.bad
   have l9':bD 39 (ptr g4.next 0) g7'=some (.agg (recC r).toArray,g7'):=cA (k7'.dj G7 (by omega)) cr.1 cr.2.1
   have O7':=O7.bF k7' (fun b hb e=>by have:=cG O7 hb;omega)
   have K7':Kept hs g7' (fun b=>b=h0.next∨b=h0.next+1):=K7.trans (k7'.mono (fun _ _ h => .inr h))
   obtain ⟨bW,s,g8,v',g9,g10,f1,f2,f3,R10,O10,K10⟩:=R7'.push hs4 O7' K7' (by omega) hw
   simp -implicitDefEqProofs only [y9, y8, R.x3, R.x2, cv, dg, hd, lb, e1, e2, e3, e4, e5, e6, e7, e8, e9, e10, l9', qe, bW, f1, f2, f3, ee (show i+1≤9223372036854775807 by omega), af, ak, ao, beq_self_eq_true, ai, if_true, Bool.not_false, av, a8, a7, al, Nat.zero_add]
   refine dd.next k (by omega) ⟨i+1,t ++ [r],_,v',by omega,y8,rfl,R10.env rfl rfl rfl rfl,O10,by rw [List.length_append,hti];rfl,K10,?_⟩
   rw [hp,hcr]
   simp [rcut,he]
theorem s41_8 (hz:GZ h0) (Z:H4 h0 N q sl c x g) (hd:sl.d = .slice none 0 0) (hq:q.cp = []) {n:Nat} (hn:n<65536) (x8:x 8 = .int .u64 (n:Nat)):Ret h0 N (k41s8 CW (aJ 94 x) g) ({ q with cp:=(dC n c).1 },(dC n c).2):=by
 rw [t41s8_eq]
 unfold t41s8
 rw [af]
 refine bY (Q:=fun o:Out=>Ret h0 N o ({ q with cp:=(dC n c).1 },(dC n c).2)) (bZ (t41l41_11111111010_eq CW) (riR (h0:=h0) (hs:=g) (N:=N) (q:=q) (sl:=sl) (c0:=c) hz hn Z.R.nx) n (by have:rounds=18446744073709551616:=rfl;omega)
  ⟨0,[],c,.slice none 0 0,Nat.zero_add _,x8,rfl,?_,.nil _ _ _,rfl,Kept.refl _ _,rfl⟩) ?_
 ·have e1:({ q with cp := [] }:aO)=q:=by cases q;simp only at hq;rw [hq]
  have e2:({ sl with d := .slice none 0 0 }:cR)=sl:=by cases sl;simp only at hd;rw [hd]
  rw [e1,e2]
  exact Z.R.env rfl rfl rfl rfl
 rintro ex z g' ⟨rfl,v,R',O,K⟩
 rw [bE,b41_exit]
 have S:=own_sl (ks:=recK) O (recs_typed R'.qw.cp)
 have so:=Z.so
 have nx:=Z.R.nx
 have kk : ∀ w,w=sl.a∨w=sl.b∨w=sl.c∨w=sl.d∨w=sl.e∨w=sl.f → ∀ b,slB w=some b → ¬(b=h0.next∨b=h0.next+1):=fun w hw b hb e=>so w hw b hb (by omega)
 exact s41_9 ⟨R',⟨Z.H.a.bF K (kk _ (.inl rfl)),Z.H.b.bF K (kk _ (.inr (.inl rfl))),Z.H.c.bF K (kk _ (.inr (.inr (.inl rfl)))),S,Z.H.e.bF K (kk _ (.inr (.inr (.inr (.inr (.inl rfl)))))),Z.H.f.bF K (kk _ (.inr (.inr (.inr (.inr (.inr rfl))))))⟩,off_d so (fun b hb e=>by have:=own_blk O hb;omega)⟩
theorem is41:bO Tryz.prog 41 Tryz.f41:=⟨by kernel_rfl,by kernel_rfl,by kernel_rfl,by kernel_rfl⟩
theorem r41 {h:aj} {m:aO} {v:Value} (hz:GZ h) (hG:4≤h.n0) (hN:N≤h.next) (H:Has h aZ m) (hm:m.cp = []) (V:ej h N v c):Ret h N (CW 41 [mv m aZ,v] h) (rItems m c):=by
 obtain ⟨g1,g2,g3,g4,b1,b2,b3,b4,st⟩:=R4.start hG hN H V
 have key:Ret h N (k41s0 CW (aJ 94 (bs [mv m aZ,v])) h) (rItems m c):=by
  rw [t41s0_eq]
  unfold t41s0
  simp -implicitDefEqProofs only [show bs [mv m aZ,v] 0=mv m aZ from rfl, show bs [mv m aZ,v] 1=v from rfl, b1, b2, b3, b4, af]
  have R0:=st (up (bs [mv m aZ,v]) [(2,ptr h.next 0),(3,ptr (h.next+1) 0),(4,ptr (h.next+2) 0),(5,ptr (h.next+3) 0)]) rfl rfl rfl rfl
  have Z0:H4 h N m aZ c _ g4:=⟨R0,(H.bA R0.bA).sl,cT _⟩
  obtain ⟨s1,x1,h1,e1,Z1,d1⟩:=s41_1 Z0
  rw [e1]
  obtain ⟨s2,x2,h2,e2,Z2,d2⟩:=s41_2 Z1
  rw [e2]
  have Z2:H4 h N (rIt2 m c) s2 c.word.2.word.2 x2 h2:=Z2
  unfold rItems
  by_cases hk:m.kind=4
  ·rw [if_pos hk]
   exact x41_3 Z2 hk
  rw [if_neg hk]
  obtain ⟨x3,e3,Z3⟩:=s41_3 Z2 hk
  rw [e3]
  obtain ⟨x4,h4,e4,Z4,x47⟩:=s41_4 Z3
  rw [e4]
  obtain ⟨x5,h5,e5,Z5,x57⟩:=s41_5 Z4 x47
  rw [e5]
  obtain ⟨x6,h6,e6,Z6⟩:=s41_6 Z5 x57
  rw [e6]
  obtain ⟨x7,h7,e7,Z7,x78⟩:=s41_7 Z6
  rw [e7]
  exact s41_8 hz Z7 (d2.trans d1) hm (Cu.cZ Z6.R.bys 2) x78
 obtain ⟨sl,v',h',e,r⟩:=key
 exact ⟨sl,v',h',aF is41 hG rfl ((t41_eq _ _ _ _).trans e),r⟩
end
end Go.Proofs.YtjghlcdidopcpaaGreatDoor

namespace Go.Proofs.YtjghlcdidopcpaaGreatDoor
open Go Go.Abs
attribute [local congr] aU
def rOb1 (m:aO) (c:Cu):aO:={ m with obj:=(c.take 32).1 }
def mOb (m:aO) (x:dp):aO:={ m with gk:=x.gk,gn:=x.gn,gt:=x.gt,gs:=x.gs,dk:=x.obj,pieces:=x.pieces }
def rPc2 (m:aO) (c:Cu):aO×Cu:=({ m with cN:=(c.num 2).1,data:=(c.num 2).2.word.1 },(c.num 2).2.word.2)
def rPc (m:aO) (c:Cu):aO×Cu:=rPc2 (mOb m (cM c.word.1).1) (rcut c.word.2 (cM c.word.1).2)
def rCode (m:aO) (c:Cu):aO×Cu:=({ m with code:=(c.num 2).1 },(c.num 2).2)
def rOb2 (m:aO) (c:Cu):aO×Cu:=if (m.kind==8||m.kind==10)=true then rPc m c else (m,c)
def rOb3 (p:aO×Cu):aO×Cu:=if p.1.kind=11 then rCode p.1 p.2 else p
def fj (m:aO) (c:Cu):aO×Cu:=rOb3 (rOb2 (rOb1 m c) (c.take 32).2)
section
variable {h0:aj} {N:Nat} {q:aO} {sl:cR} {c:Cu} {x:Nat→Value} {g:aj}
theorem s42_1 (Z:H4 h0 N q sl c x g) : ∃ x' g',k42s1 CW (aJ 71 x) g=k42s2 CW (aJ 71 x') g'∧H4 h0 N (rOb1 q c) sl (c.take 32).2 x' g':=by
 obtain ⟨v5,w5,g5,e5,e6,W5,R5,o5,hd⟩:=Z.R.dig
 have Z5:=Z.go o5
 obtain ⟨g6,e7,Z6,k6⟩:=Z5.putN (o:=44) (n:=32) (w:=bP (c.take 32).1) (q':=rOb1 q c) (sl':=sl) (by decide) (bX hd) (cJ _).2 (c44 Z5.R.qw hd.1) { Z5.R.qw with obj:=hd } ⟨Z5.H.a,Z5.H.b,Z5.H.c,Z5.H.d,Z5.H.e,Z5.H.f⟩ Z5.so
 obtain ⟨g7,e8,Z7,k7⟩:=Z6.cut (W5.k0 k6 Z.R.hN)
 rw [t42s1_eq]
 unfold t42s1
 simp -implicitDefEqProofs only [Z.R.x2, Z.R.x3, e5, e6, e7, e8, af, ak, a8, a7, al, Nat.zero_add]
 exact ⟨_,g7,rfl,Z7.env rfl rfl rfl rfl⟩
theorem H4.eM (Z:H4 h0 N q sl c x g) : ∃ v a p w g1 g2 g3 vm g4 g5 g6 b g7,bD 2 (ptr (h0.next+1) 0) g=some (v,g)∧CW 79 [v] g=some (.tuple #[.slice a c.word.1.length p,w],g1)∧cL [(.slice none 0 0),(.bool false)] g1=some (ptr g1.next 0,g2)∧bw 2 (ptr g1.next 0) w g2=some (undef,g3) ∧
  CW 83 [.slice a c.word.1.length p] g3=some (.tuple #[.agg (cK (cM c.word.1).1 vm).toArray,.int .i64 (cM c.word.1).2],g4)∧cL Zg g4=some (ptr g4.next 0,g5)∧bw 37 (ptr g4.next 0) (.agg (cK (cM c.word.1).1 vm).toArray) g5=some (undef,g6)∧bD 2 (ptr g1.next 0) g6=some (b,g6) ∧
  bw 2 (ptr (h0.next+1) 0) b g6=some (undef,g7)∧g7.get g4.next=some (cK (cM c.word.1).1 vm)∧h0.next+1<g4.next∧H4 h0 N q sl c.word.2 x g7∧(cM c.word.1).1.Wf∧dh g7 dQ vm (cM c.word.1).1.pieces.length ((cM c.word.1).1.pieces.flatMap bP)∧(∀ b,slB vm=some b→h0.next+4≤b):=by
 have hN:=Z.R.hN
 have nx:=Z.R.nx
 have n0:=Z.R.n0
 obtain ⟨v,a,p,w,g1,l,e1,s1,gd,f1,W,R1,o1⟩:=Z.R.word
 obtain ⟨g2,z2,o2,C2,n2⟩:=fT g1 N
 have m1:=o1.next
 obtain ⟨g3,e3,k3,C3,n3⟩:=C2.put (W.bA o2) (by rw [o2.n0,o1.n0];omega) (by omega)
 have O3:Old g1 g3:=Old.eF o2 k3 (Nat.le_refl _)
 have s3:=Old.bytes O3 s1
 have OO:=o1.trans O3
 have hlen:c.word.1.length≤70000:=by have:=Cu.word_lt Z.R.bys;omega
 obtain ⟨vm,g4,e4,o4,hw,S4,B4⟩:=r83 (h:=g3) (c:=p) (by rw [OO.n0];exact Z.R.g4) s3 hlen
 obtain ⟨g5,z5,o5,G5,n5⟩:=fresh Zg g4
 have OO4:=OO.trans o4
 have hc:=ba S4
 have cr:=fH (m:=(cM c.word.1).1) (v:=vm) hw.obj.1 ⟨hc.1,hc.2.1⟩
 obtain ⟨g6,e6,k6,G6,_,_⟩:=bJ (n:=37) G5 (by rw [o5.n0];exact g4.aK) rfl cr.1 cr.2.2
 have O6:Old g4 g6:=Old.eF o5 k6 (Nat.le_refl _)
 have C6:=(C3.bA o4).bA O6
 obtain ⟨b,V6,_,l6,_⟩:=C6.ld
 have OO6:=OO4.trans O6
 obtain ⟨g7,e7,Z7,k7⟩:=(Z.go OO6).cut V6
 have m4:=OO4.next
 have m3:=OO.next
 have G7:=k7.dj G6 (by omega)
 have B4' : ∀ b,slB vm=some b→h0.next+4≤b:=fun b hb=>by have:=B4 b hb;omega
 exact ⟨v,a,p,w,g1,g2,g3,vm,g4,g5,g6,b,g7,l,e1,z2,e3,e4,z5,e6,l6 g6 rfl,e7,G7,by omega,Z7,hw,(S4.bA O6).bF k7 (fun b hb e=>by have:=B4' b hb;omega),B4'⟩
theorem H4.pc (Z:H4 h0 N q sl c x g) {b:Nat} {m:dp} {vm:Value} (G:g.get b=some (cK m vm)) (hw:m.Wf) (S:dh g dQ vm m.pieces.length (m.pieces.flatMap bP)) (B : ∀ b,slB vm=some b→h0.next+4≤b) :
  ∃ g1 v w g2 g3 n g4 v5 a p w5 g5 g6 g7 sl',bD 37 (ptr b 0) g=some (.agg (cK m vm).toArray,g)∧bw 37 (ptr h0.next 76) (.agg (cK m vm).toArray) g=some (undef,g1)∧bD 2 (ptr (h0.next+1) 0) g1=some (v,g1)∧CW 78 [v,.int .i64 2] g1=some (.tuple #[n,w],g2)∧bw 2 (ptr (h0.next+1) 0) w g2=some (undef,g3)∧fc .i64 n g3=some (.int .i64 ((c.num 2).1:Nat),g3) ∧
  bw 1 (ptr h0.next 113) (.int .i64 ((c.num 2).1:Nat)) g3=some (undef,g4)∧bD 2 (ptr (h0.next+1) 0) g4=some (v5,g4)∧CW 79 [v5] g4=some (.tuple #[.slice a (c.num 2).2.word.1.length p,w5],g5)∧bw 1 (ptr h0.next 114) (.slice a (c.num 2).2.word.1.length p) g5=some (undef,g6)∧bw 2 (ptr (h0.next+1) 0) w5 g6=some (undef,g7) ∧
  H4 h0 N (rPc2 (mOb q m) c).1 sl' (rPc2 (mOb q m) c).2 x g7:=by
 have nx:=Z.R.nx
 have hc:=ba S
 have cm:=fH (m:=m) (v:=vm) hw.obj.1 ⟨hc.1,hc.2.1⟩
 obtain ⟨g1,e1,Z1,k1⟩:=Z.putN (o:=76) (n:=37) (w:=cK m vm) (q':=mOb q m) (sl':={ sl with e:=vm }) (by decide) cm.1 cm.2.2 (c76 Z.R.qw hw.obj.1) { Z.R.qw with gk:=hw.gk,gn:=hw.gn,gt:=hw.gt,gs:=hw.gs,dk:=hw.obj,pieces:=hw.pieces } ⟨Z.H.a,Z.H.b,Z.H.c,Z.H.d,S,Z.H.f⟩ (off_e Z.so (fun b hb e=>by have:=B b hb;omega))
 obtain ⟨v,w,g2,e2,e3,W,R2,o2⟩:=Z1.R.num (n:=2) (by decide)
 have h2:(c.num 2).1<65536:=Cu.cZ Z.R.bys 2
 obtain ⟨g3,e4,Z3,k3⟩:=(Z1.go o2).cut W
 have cv:fc .i64 (.int .u64 (((c.num 2).1:Nat):Int)) g3=some (.int .i64 (((c.num 2).1:Nat):Int),g3):=by rw [bq,wrap_i64 (by omega) (by omega)]
 obtain ⟨g4,e5,Z4,k4⟩:=Z3.put (o:=113) (v := .int .i64 ((c.num 2).1:Nat)) (q':={ mOb q m with cN:=(c.num 2).1 }) (sl':={ sl with e:=vm }) (by decide) rfl rfl (c113 Z3.R.qw _) { Z3.R.qw with cN:=i64_n (by omega) } ⟨Z3.H.a,Z3.H.b,Z3.H.c,Z3.H.d,Z3.H.e,Z3.H.f⟩ Z3.so
 obtain ⟨v5,a,p,w5,g5,e6,e7,s5,_,f5,W5,R5,o5⟩:=Z4.R.word
 have Z5:=Z4.go o5
 have nx4:=Z4.R.nx
 obtain ⟨g6,e8,Z6,k6⟩:=Z5.put (o:=114) (v := .slice a (c.num 2).2.word.1.length p) (q':=(rPc2 (mOb q m) c).1) (sl':={ sl with e:=vm,f := .slice a (c.num 2).2.word.1.length p }) (by decide) rfl rfl (set114 (aO.ok Z5.R.qw) _) { Z5.R.qw with data:=(aw s5).2.1 } ⟨Z5.H.a,Z5.H.b,Z5.H.c,Z5.H.d,Z5.H.e,sl_bytes s5⟩ (off_f Z5.so (word_off (fun y hy=>by have:=f5 y hy;omega)))
 obtain ⟨g7,e9,Z7,k7⟩:=Z6.cut (W5.k0 k6 Z.R.hN)
 exact ⟨g1,v,w,g2,g3,_,g4,v5,a,p,w5,g5,g6,g7,_,cA G cm.1 cm.2.1,e1,e2,e3,e4,cv,e5,e6,e7,e8,e9,Z7⟩
theorem s42_2 (Z:H4 h0 N q sl c x g) : ∃ sl' x' g',k42s2 CW (aJ 71 x) g=k42s3 CW (aJ 71 x') g'∧H4 h0 N (rOb2 q c).1 sl' (rOb2 q c).2 x' g':=by
 have l0:=Z.R.kind
 have q8:bin Tryz.prog .eql 24 (.int .u8 (q.kind:Int)) (.int .u8 8)=some (.bool ((q.kind:Int)==8)):=az ..
 have q10:bin Tryz.prog .eql 24 (.int .u8 (q.kind:Int)) (.int .u8 10)=some (.bool ((q.kind:Int)==10)):=az ..
 rw [t42s2_eq]
 unfold t42s2 rOb2
 by_cases d:(q.kind==8||q.kind==10)=true
 ·rw [if_pos d]
  have d':q.kind=8∨q.kind=10:=by simpa using d
  obtain ⟨v,a,p,w,g1,g2,g3,vm,g4,g5,g6,b,g7,e1,e2,e3,e4,e5,e6,e7,e8,e9,G7,hlt,Z7,hw,S7,B7⟩:=Z.eM
  unfold rPc
  by_cases he:(cM c.word.1).2=0
  ·have hr:rcut c.word.2 (cM c.word.1).2=c.word.2:=by unfold rcut;rw [if_pos he]
   rw [hr]
   rw [he] at e5
   have qe:bin Tryz.prog .neq 35 (.int .i64 0) (.int .i64 0)=some (.bool false):=rfl
   obtain ⟨g8,v8,w8,g9,g10,n,g11,v5,a5,p5,w5,g12,g13,g14,sl',f0,f1,f2,f3,f4,f5,f6,f7,f8,f9,f10,Z14⟩:=Z7.pc G7 hw S7 B7
   generalize (cM c.word.1).1=m at *
   by_cases k8:q.kind=8
   ·rw [show ((q.kind:Int)==8)=true by rw [k8];rfl] at q8
    simp -implicitDefEqProofs only [Z.R.x2, Z.R.x3, l0, q8, e1, e2, e3, e4, e5, e6, e7, e8, e9, qe, f0, f1, f2, f3, f4, f5, f6, f7, f8, f9, f10, af, ak, ao, sf, ah, if_true, a8, a7, al, Nat.zero_add, Nat.reduceAdd]
    exact ⟨sl',_,g14,rfl,Z14.env rfl rfl rfl rfl⟩
   ·rw [show ((q.kind:Int)==8)=false by simp;omega] at q8
    rw [show ((q.kind:Int)==10)=true by simp;omega] at q10
    simp -implicitDefEqProofs only [Z.R.x2, Z.R.x3, l0, q8, q10, e1, e2, e3, e4, e5, e6, e7, e8, e9, qe, f0, f1, f2, f3, f4, f5, f6, f7, f8, f9, f10, af, ak, ao, beq_self_eq_true, ai, Bool.false_eq_true, if_false, a8, a7, al, Nat.zero_add, Nat.reduceAdd]
    exact ⟨sl',_,g14,rfl,Z14.env rfl rfl rfl rfl⟩
  ·have hr:rcut c.word.2 (cM c.word.1).2=⟨c.word.2.l,true⟩:=by unfold rcut;rw [if_neg he]
   rw [hr]
   have qe:bin Tryz.prog .neq 35 (.int .i64 (cM c.word.1).2) (.int .i64 0)=some (.bool true):=by rw [ax];simpa using he
   obtain ⟨g7',e10,Z7',k7'⟩:=Z7.bad
   obtain ⟨g8,v8,w8,g9,g10,n,g11,v5,a5,p5,w5,g12,g13,g14,sl',f0,f1,f2,f3,f4,f5,f6,f7,f8,f9,f10,Z14⟩:=Z7'.pc (k7'.dj G7 (by omega)) hw (S7.bF k7' (fun b hb e=>by have:=B7 b hb;omega)) B7
   generalize (cM c.word.1).1=m at *
   by_cases k8:q.kind=8
   ·rw [show ((q.kind:Int)==8)=true by rw [k8];rfl] at q8
    simp -implicitDefEqProofs only [Z.R.x2, Z.R.x3, l0, q8, e1, e2, e3, e4, e5, e6, e7, e8, e9, e10, qe, f0, f1, f2, f3, f4, f5, f6, f7, f8, f9, f10, af, ak, ao, sf, ah, if_true, a8, a7, al, Nat.zero_add, Nat.reduceAdd]
    exact ⟨sl',_,g14,rfl,Z14.env rfl rfl rfl rfl⟩
   ·rw [show ((q.kind:Int)==8)=false by simp;omega] at q8
    rw [show ((q.kind:Int)==10)=true by simp;omega] at q10
    simp -implicitDefEqProofs only [Z.R.x2, Z.R.x3, l0, q8, q10, e1, e2, e3, e4, e5, e6, e7, e8, e9, e10, qe, f0, f1, f2, f3, f4, f5, f6, f7, f8, f9, f10, af, ak, ao, beq_self_eq_true, ai, Bool.false_eq_true, if_false, a8, a7, al, Nat.zero_add, Nat.reduceAdd]
    exact ⟨sl',_,g14,rfl,Z14.env rfl rfl rfl rfl⟩
 ·rw [if_neg d]
  have d' : ¬q.kind=8 ∧ ¬q.kind=10:=by simpa using d
  rw [show ((q.kind:Int)==8)=false by simp;omega] at q8
  rw [show ((q.kind:Int)==10)=false by simp;omega] at q10
  simp -implicitDefEqProofs only [Z.R.x2, l0, q8, q10, af, ak, ao, beq_self_eq_true, ai, Bool.false_eq_true, if_false, al, Nat.zero_add, Nat.reduceAdd]
  exact ⟨sl,_,g,rfl,Z.env rfl rfl rfl rfl⟩
theorem s42_3 (Z:H4 h0 N q sl c x g) : ∃ x' g',k42s3 CW (aJ 71 x) g=k42s4 CW (aJ 71 x') g'∧H4 h0 N (rOb3 (q,c)).1 sl (rOb3 (q,c)).2 x' g':=by
 have l0:=Z.R.kind
 have q3:bin Tryz.prog .eql 24 (.int .u8 (q.kind:Int)) (.int .u8 11)=some (.bool ((q.kind:Int)==11)):=az ..
 rw [t42s3_eq]
 unfold t42s3 rOb3
 by_cases d:q.kind=11
 ·rw [if_pos d]
  rw [show ((q.kind:Int)==11)=true by rw [d];rfl] at q3
  obtain ⟨v,w,g1,e1,e2,W,R1,o1⟩:=Z.R.num (n:=2) (by decide)
  have e2:CW 78 [v,.int .i64 2] g=_:=e2
  have h2:(c.num 2).1<65536:=Cu.cZ Z.R.bys 2
  obtain ⟨g2,e3,Z2,k2⟩:=(Z.go o1).cut W
  have cv:fc .i64 (.int .u64 (((c.num 2).1:Nat):Int)) g2=some (.int .i64 (((c.num 2).1:Nat):Int),g2):=by rw [bq,wrap_i64 (by omega) (by omega)]
  obtain ⟨g3,e4,Z3,k3⟩:=Z2.put (o:=115) (v := .int .i64 ((c.num 2).1:Nat)) (q':=(rCode q c).1) (sl':=sl) (by decide) rfl rfl (c115 Z2.R.qw _) { Z2.R.qw with code:=i64_n (by omega) } ⟨Z2.H.a,Z2.H.b,Z2.H.c,Z2.H.d,Z2.H.e,Z2.H.f⟩ Z2.so
  simp -implicitDefEqProofs only [Z.R.x2, Z.R.x3, l0, q3, e1, e2, e3, cv, e4, af, ak, a8, a7, al, Nat.zero_add]
  exact ⟨_,g3,rfl,Z3.env rfl rfl rfl rfl⟩
 ·rw [if_neg d]
  rw [show ((q.kind:Int)==11)=false by simp;omega] at q3
  simp -implicitDefEqProofs only [Z.R.x2, l0, q3, af, ak, al, Nat.zero_add]
  exact ⟨_,g,rfl,Z.env rfl rfl rfl rfl⟩
theorem results42:Tryz.f42.results.toList = [.cell 4 37,.cell 5 82]:=by kernel_rfl
theorem s42_4 (Z:H4 h0 N q sl c x g):Ret h0 N (k42s4 CW (aJ 71 x) g) (q,c):=by
 obtain ⟨v2,g3,g4,e1,e2,e3,e4,ck,l1,l2,H4,V4,O4⟩:=Z.R.fin Z.has Z.so
 refine ⟨sl,v2,g4,?_,H4,V4,O4,fun v hv b hb e=>Z.so v hv b hb (Nat.lt_add_right 4 e)⟩
 rw [t42s4_eq]
 unfold t42s4
 simp -implicitDefEqProofs only [Z.R.x2, Z.R.x3, Z.R.x4, Z.R.x5, e1, e2, e3, e4, ck, af, Bool.and_self]
 rw [←Z.R.x4] at l1
 rw [←Z.R.x5] at l2
 exact fD results42 fq fp agg82 siz82 (show 4<71 by decide) (show 5<71 by decide) (up x _) l1 l2
theorem is42:bO Tryz.prog 42 Tryz.f42:=⟨by kernel_rfl,by kernel_rfl,by kernel_rfl,by kernel_rfl⟩
theorem r42 {h:aj} {m:aO} {v:Value} (hG:4≤h.n0) (hN:N≤h.next) (H:Has h aZ m) (V:ej h N v c):Ret h N (CW 42 [mv m aZ,v] h) (fj m c):=by
 obtain ⟨g1,g2,g3,g4,b1,b2,b3,b4,st⟩:=R4.start hG hN H V
 have key:Ret h N (k42s0 CW (aJ 71 (bs [mv m aZ,v])) h) (fj m c):=by
  rw [t42s0_eq]
  unfold t42s0
  simp -implicitDefEqProofs only [show bs [mv m aZ,v] 0=mv m aZ from rfl, show bs [mv m aZ,v] 1=v from rfl, b1, b2, b3, b4, af]
  have R0:=st (up (bs [mv m aZ,v]) [(2,ptr h.next 0),(3,ptr (h.next+1) 0),(4,ptr (h.next+2) 0),(5,ptr (h.next+3) 0)]) rfl rfl rfl rfl
  have Z0:H4 h N m aZ c _ g4:=⟨R0,(H.bA R0.bA).sl,cT _⟩
  obtain ⟨x1,h1,e1,Z1⟩:=s42_1 Z0
  rw [e1]
  obtain ⟨s2,x2,h2,e2,Z2⟩:=s42_2 Z1
  rw [e2]
  obtain ⟨x3,h3,e3,Z3⟩:=s42_3 Z2
  rw [e3]
  exact s42_4 Z3
 obtain ⟨sl,v',h',e,r⟩:=key
 exact ⟨sl,v',h',aF is42 hG rfl ((t42_eq _ _ _ _).trans e),r⟩
end
end Go.Proofs.YtjghlcdidopcpaaGreatDoor

