/-
  A part of the proof, shortened by a program.
  Conditions: as each theorem states.
-/
import Derived.Test.YtdhpgacmgebjdaaGreatDoorG19
set_option linter.all false
namespace Go.Proofs.YtdhpgacmgebjdaaGreatDoor.W.R
open Go Go.Abs Tryz
noncomputable section
section
attribute [local congr] ax
structure dB where
 gk:Int
 gn:Int
 gt:Int
 gs:Int
 obj:List Nat
 pieces:List (List Nat)
def dB.z:dB:=⟨0,0,0,0,z32,[]⟩
def cR (m:dB) (v:Vl):eh := [.int .i64 m.gk,.int .i64 m.gn,.int .i64 m.gt,.int .i64 m.gs]++(bJ m.obj ++ [v])
structure dB.Wf (m:dB):Prop where
 gk:I64 m.gk
 gn:I64 m.gn
 gt:I64 m.gt
 gs:I64 m.gs
 obj:fO m.obj
 pieces : ∀ x∈m.pieces,fO x
def dB.z_wf:dB.z.Wf:=⟨i64_0,i64_0,i64_0,i64_0,z32_ok,fun x hx=>by cases hx⟩
def bF:Nat->Rd->List (List Nat)×Rd
 | 0,s=>([],s)
 |n+1,s=>(kq (s.take 32).1::(bF n (s.take 32).2).1,(bF n (s.take 32).2).2)
def pHead (l:List Nat):Nat×Nat×Nat×Nat×Nat×Rd:=
 let a0:=(⟨l,0⟩:Rd).fA 2
 let a1:=a0.2.fA 1
 let a2:=a1.2.fA 1
 let a3:=a2.2.fA 1
 let a4:=a3.2.fA 2
 (a0.1,a1.1,a2.1,a3.1,a4.1,a4.2)
def gj (l:List Nat):dB×Int:=
 let q:=pHead l
 let s:=q.2.2.2.2.2
 if s.e≠0 then (dB.z,s.e) else
 if q.1≠19713 then (dB.z,5) else
 if iX q.2.1 q.2.2.1 q.2.2.2.1=false\/(8192:Int)<q.2.2.2.2.1 then (dB.z,2) else
 if (bF q.2.2.2.1 (s.take 32).2).2.fin≠0 then (dB.z,(bF q.2.2.2.1 (s.take 32).2).2.fin) else
 (⟨q.2.1,q.2.2.1,q.2.2.2.1,q.2.2.2.2.1,kq (s.take 32).1,(bF q.2.2.2.1 (s.take 32).2).1⟩,0)
def pad_ok {s:Rd} (hb : ∀ x∈s.l,x<256):fO (kq (s.take 32).1):=by
 refine ⟨pad_len (s.xR 32),fun x hx => ?_⟩;unfold kq at hx;rcases D8.1 hx with hx|hx
 ·exact (s.AX hb 32).1 x hx
 ·have:=ES hx;omega
def gT {m:dB} {v:Vl} (h:m.obj.length=32) (hv:bW v=false/\v.oneCell'=true):(cR m v).length=37/\Abs.noHoles (cR m v)=true/\aM (cR m v)=true:=by unfold cR;refine ⟨?_,od rfl (od (bA _).1 (noH_one hv.1)),oJ rfl (oJ (bA _).2 (by simp [aM,hv.2]))⟩;simp [h]
def CP {n:Nat} {z cells:List Vl} (h:ae) (hz:z.length=n) (hf:bD z=true) (h0:0<n) (hn:n<=16777216) (hl:cells.length=n) (ho:aM cells=true):gK n (.agg z.toArray) 1 [(0,.agg cells.toArray)] h=some (.slice (some ⟨h.next,0,none⟩) 1 1,h.alloc cells):=by
 have c1:(Value.agg z.toArray).cells=z.toArray:=rfl;have c2:(Value.agg cells.toArray).cells=cells.toArray:=rfl;have hzz:dJ z 1=z:=by simp [dJ]
 unfold gK;simp only [c1,FT,IF,GC,c2,FD,List.map_nil,HM,Nat.one_mul,FR];rw [DH (by simp [hf,hz,h0,hn,ho]),hzz];have:=tX (z:=z) (A := []) (B:=z) (C := []) (B':=cells) (o:=0) (n:=n) (rest := []) (by simp) rfl hz hl;rw [this];simp [jq]
def mset4 {m:dB} {v:Vl} {o:List Nat} (h:m.obj.length=32) (ho:o.length=32):splice (cR m v) 4 (bJ o)=cR { m with obj:=o } v:=ot (A := [.int .i64 m.gk,.int .i64 m.gn,.int .i64 m.gt,.int .i64 m.gs]) (B:=bJ m.obj) (n:=32) rfl (by simp [h]) (by simp [ho])
def mset36 {m:dB} {v w:Vl} (h:m.obj.length=32):(cR m v).set 36 w=cR m w:=wY (A := [.int .i64 m.gk,.int .i64 m.gn,.int .i64 m.gt,.int .i64 m.gs]) 32 rfl (wY 0 (by simp [h]) rfl)
def As {m:dB} {v:Vl} (h:m.obj.length=32):(cR m v)[36]? = some v:=get_app (A := [.int .i64 m.gk,.int .i64 m.gn,.int .i64 m.gt,.int .i64 m.gs]) 32 rfl (get_app 0 (by simp [h]) rfl)
def oh {h:ae} {b o n:Nat} {k B':eh} (g:h.get b=some k) (hn:h.n0<=b) (ho:o+n<=k.length) (hB:B'.length=n) (h1:aM B'=true) : ∃ h2,bI n (ptr b o) (.agg B'.toArray) h=some (undef,h2)/\au h h2 (· = b)/\h2.get b=some (splice k o B')/\h2.n0<=b/\h2.next=h.next:=by
 refine ⟨h.set b (splice k o B'),?_,au.set hn g (.inr rfl),ae.bO hn g _,hn,rfl⟩;unfold bI ptr;have hc:(Value.agg B'.toArray).cells=B'.toArray:=rfl;simp only [hc,FR,hB,DV];unfold stL;simp only [g];rw [DH (by
  have:o+B'.length<=k.length:=by omega
  simp only [DN hn,DN this,h1,GW])]
 rfl
def oQ:sK prog 35=some true:=by kernel_rfl
def uL:cQ prog 35=some 37:=by kernel_rfl
def results173:f173.results.toList = [.cell 2 35,.tmp 3]:=by kernel_rfl
def b173_exit (C:ah) (e:aO) (h:ae):CK C 0 e h=Bl C e h:=rfl
def is173:bE prog 173 f173 := .of (by kernel_rfl)
def man_end {h0 h:ae} {b:Nat} {k k':eh} (o:aK h0 h) (hb:h0.next<=b) (g:h.get b=some k) (hk:k.length=37) (c:k'.length=37/\Abs.noHoles k'=true/\aM k'=true) : ∃ h',bI 37 (ptr b 0) (.agg k'.toArray) h=some (undef,h')/\bQ 37 (ptr b 0) h'=some (.agg k'.toArray,h')/\aK h0 h'/\au h h' (· = b):=by
 have hn:h.n0<=b:=by rw [o.n0];exact D9 h0.n0_le_next hb
 obtain ⟨h',e1,k1,g1,_,_⟩:=aN (n:=37) g hn hk c.1 c.2.2;exact ⟨h',e1,aP g1 c.1 c.2.1,aK.bB o k1 hb,k1⟩
structure DmI (hl:ae) (p r D n:Nat) (m:dB) (c2:Vl) (s0:Rd) (k:Nat) (y:Nat->Vl) (g:ae) (i:Nat) (ps:List (List Nat)) (s1:Rd) (v:Vl):Prop where
 ik:i+k=n
 y2:y 2=c2
 y4:y 4=ptr r 0
 y6:y 6=ptr D 0
 y53:y 53=aj n
 y54:y 54=aj i
 gd:g.get D=some (cR m v)
 o:cG g hl.next 32 v ps.length (ps.flatMap bJ)
 w : ∀ x∈ps,fO x
 l:ps.length=i
 R:nb g p r s1
 K:au hl g (fun c=>c=r\/c=D)
 e:bF n s0=(ps++(bF k s1).1,(bF k s1).2)
def dmInv (hl:ae) (p r D n:Nat) (m:dB) (c2:Vl) (s0:Rd) (k:Nat) (y:Nat->Vl) (g:ae):Prop := ∃ i ps s1 v,DmI hl p r D n m c2 s0 k y g i ps s1 v
def dmFin (hl:ae) (p r D n:Nat) (m:dB) (c2:Vl) (s0:Rd) (ex:Ex) (y:Nat->Vl) (g:ae):Prop:=
 ex = .exit 0/\y 2=c2/\y 4=ptr r 0/\y 6=ptr D 0 /\ ∃ v,g.get D=some (cR m v)/\cG g hl.next 32 v (bF n s0).1.length ((bF n s0).1.flatMap bJ)/\(∀ x∈(bF n s0).1,fO x)/\nb g p r (bF n s0).2/\au hl g (fun c=>c=r\/c=D)
def dmRound {hl:ae} {p r D n:Nat} {m:dB} {c2:Vl} {s0:Rd} (hn:n<256) (hm:m.obj.length=32) (hrD:r<D) (hD:D<hl.next) (hD0:hl.n0<=D) : ∀ k y g,dmInv hl p r D n m c2 s0 k y g->dE 71 (dmInv hl p r D n m c2 s0) (dmFin hl p r D n m c2 s0) k (ez CD y g):=by
 rintro k y g ⟨i,ps,s1,v,I⟩;unfold ez;cases k with
 |zero=>
  have hd:decide (i<n)=false:=DW (by have:=I.ik;omega);simp -implicitDefEqProofs only [I.y54,I.y53,gS,hd,af,ak];have he:bF n s0=(ps,s1):=by rw [I.e];simp [bF]
  exact dE.out 0 ⟨rfl,I.y2,I.y4,I.y6,v,I.gd,by rw [he];exact I.o,by rw [he];exact I.w,by rw [he];exact I.R,I.K⟩
 |succ k=>
  have hik:=I.ik;have hd:decide (i<n)=true:=DN (by omega);have hcell:bW v=false/\v.oneCell'=true/\v.cells = #[v]:=dZ (lF (ks:=iT) I.o (dM (P:=fO) (fun a ha=>bT ha) _ I.w));have l0:ld1 (ptr D 36) g=some (v,g):=aH I.gd (As hm) hcell.1;obtain ⟨g1,e1,R1,k1⟩:=q210 I.R;have hd32:=pad_ok I.R.byte;generalize hdg:kq (s1.take 32).1=d at *;have G1:g1.get D=some (cR m v):=k1.getE I.gd (by omega);have l1:ld1 (ptr D 36) g1=some (v,g1):=aH G1 (As hm) hcell.1;have hv:Abs.veq v v=true:=(lF (ks:=iT) I.o (dM (P:=fO) (fun a ha=>bT ha) _ I.w)).veq;have w1:=dq l1 hv;have hbs:=CP (n:=32) (z:=List.replicate 32 (.int .u8 0)) g1 rfl rfl (by decide) (by decide) (bu hd32) (bA d).2;have oa:aK g1 (g1.alloc (bJ d)):=au.alloc _ _ _;have ga:(g1.alloc (bJ d)).get g1.next=some (bJ d):=by rw [ae.aZ,DH rfl]
  generalize g1.alloc (bJ d)=g2 at *;have S:=slice1 (s:=none) ga (bT hd32);have kk:au g g2 (fun c=>c=r):=k1.trans (oa.mono (fun _ _ h=>h.elim));have O2:=I.o.keep kk (fun b hb e=>by have:=iz I.o hb;omega);have p2:g2.n0<=hl.next:=by rw [kk.n0,I.K.n0];exact hl.n0_le_next
  obtain ⟨v',g3,e3,O3,k3,_⟩:=iK (by_:=32) O2 p2 (D9 I.K.next kk.next) (by decide) S.slice (S.first (by decide)) (bA d).2 (bA d).1 (by rw [bu hd32]) (by have:=I.l;omega) (by have:=I.l;omega);have R2:=R1.keepB oa (fun _ _ h=>h);have R3:nb g3 p r _:=R2.keepB k3 (fun b hb e=>by have:=iz O2 e.1;omega);have G3:g3.get D=some (cR m v):=k3.getE (aK.get oa G1) (fun e=>by have:=iz O2 e.1;omega);have p3:g3.n0<=D:=by rw [k3.n0,kk.n0,I.K.n0];exact hD0
  have O3':cG g3 hl.next 32 v' (ps ++ [d]).length ((ps ++ [d]).flatMap bJ):=by rw [GR,DO];simpa using O3
  have hcell':bW v'=false/\v'.oneCell'=true/\v'.cells = #[v']:=dZ (lF (ks:=iT) O3' (dM (P:=fO) (fun a ha=>bT ha) _ (by
   intro x hx;rcases D8.1 hx with hx|hx
   ·exact I.w x hx
   ·simp only [ER,ET,GX] at hx;subst hx;exact hd32)))
  obtain ⟨g4,e4,k4,G4,_,n4⟩:=dr (v:=v') (o:=36) G3 p3 (by rw [(gT hm ⟨hcell.1,hcell.2.1⟩).1];decide) hcell'.2.2 hcell'.2.1;rw [mset36 hm] at G4;have R4:=R3.keepB k4 (fun b hb e=>by omega);have O4:=O3'.keep k4 (fun b hb e=>by have:=iz O3' hb;omega);simp -implicitDefEqProofs only [I.y54,I.y53,gS,hd,I.y6,aw,DC,l0,I.y4,e1,hbs,e3,e4,w1,EJ,eW (show i+1<=9223372036854775807 by omega),af,ak];refine dE.next k (by omega) ⟨i+1,ps ++ [d],_,v',by omega,I.y2,I.y4,I.y6,I.y53,rfl,G4,O4,?_,by rw [DO,I.l];rfl,R4,?_,?_⟩
  ·intro x hx;rcases D8.1 hx with hx|hx
   ·exact I.w x hx
   ·simp only [ER,ET,GX] at hx;subst hx;exact hd32
  ·refine ((I.K.trans (kk.mono (fun _ _ h => .inl h))).also k3 (fun d hd e => ?_)).trans (k4.mono (fun _ _ h => .inr h));have:=iz O2 e.1;omega
  ·rw [I.e,<-hdg];simp [bF]
set_option maxRecDepth 100000 in
def q173 {h:ae} {a:Option Addr} {n c:Nat} {l:List Nat} (hl:ao a n h=some l) (hn:n<=21000) : ∃ v h',CD 173 [.slice a n c] h=some (.tuple #[.agg (cR (gj l).1 v).toArray,.int .i64 (gj l).2],h')/\aK h h'/\(gj l).1.Wf/\nC h' iT v (gj l).1.pieces.length ((gj l).1.pieces.flatMap bJ)/\(∀ b,zK v=some b->h.next<=b):=by
 obtain ⟨hlen,hby,_⟩:=ay hl;obtain ⟨h1,z1,o1,g1,n1⟩:=fresh dP h;have bz:cN dP []=some (.agg (cR dB.z (.slice none 0 0)).toArray):=rfl;have cz:(cR dB.z (.slice none 0 0)).length=37/\Abs.noHoles (cR dB.z (.slice none 0 0))=true/\aM (cR dB.z (.slice none 0 0))=true:=⟨rfl,rfl,rfl⟩
 obtain ⟨r,h2,e2,R2,o2,lr⟩:=r110 (h:=h1) (c:=c) (aK.bytes o1 hl) hn;have R2:nb h2 h1.next r ⟨l,0⟩:=R2;have rl2:=R2.lt;obtain ⟨h3,e3,R3,k3,n3⟩:=q168 R2;obtain ⟨h4,e4,R4,k4,n4⟩:=q111 R3;obtain ⟨h5,e5,R5,k5,n5⟩:=q111 R4;obtain ⟨h6,e6,R6,k6,n6⟩:=q111 R5;obtain ⟨h7,e7,R7,k7,n7⟩:=q168 R6;have b3:((⟨l,0⟩:Rd).fA 2).1<65536:=Rd.nI R2.byte 2;have b4:=Rd.nI R3.byte 1;have b5:=Rd.nI R4.byte 1;have b6:=Rd.nI R5.byte 1;have b7:=Rd.nI R6.byte 2;have hdec:gj l=(let q:=pHead l;let s:=q.2.2.2.2.2;if s.e≠0 then (dB.z,s.e) else if q.1≠19713 then (dB.z,5) else if iX q.2.1 q.2.2.1 q.2.2.2.1=false\/(8192:Int)<q.2.2.2.2.1 then (dB.z,2) else if (bF q.2.2.2.1 (s.take 32).2).2.fin≠0 then (dB.z,(bF q.2.2.2.1 (s.take 32).2).2.fin) else (⟨q.2.1,q.2.2.1,q.2.2.2.1,q.2.2.2.2.1,kq (s.take 32).1,(bF q.2.2.2.1 (s.take 32).2).1⟩,0)):=rfl;have hq:pHead l=(((⟨l,0⟩:Rd).fA 2).1,((((⟨l,0⟩:Rd).fA 2).2).fA 1).1,((((((⟨l,0⟩:Rd).fA 2).2).fA 1).2).fA 1).1,((((((((⟨l,0⟩:Rd).fA 2).2).fA 1).2).fA 1).2).fA 1).1,((((((((((⟨l,0⟩:Rd).fA 2).2).fA 1).2).fA 1).2).fA 1).2).fA 2).1,((((((((((⟨l,0⟩:Rd).fA 2).2).fA 1).2).fA 1).2).fA 1).2).fA 2).2):=rfl;rw [hdec,hq];simp only;generalize ((⟨l,0⟩:Rd).fA 2).1=v0 at *;generalize ((⟨l,0⟩:Rd).fA 2).2=s3 at *;generalize (s3.fA 1).1=v1 at *;generalize (s3.fA 1).2=s4 at *;generalize (s4.fA 1).1=v2 at *;generalize (s4.fA 1).2=s5 at *;generalize (s5.fA 1).1=v3 at *;generalize (s5.fA 1).2=s6 at *;generalize (s6.fA 2).1=v4 at *;generalize (s6.fA 2).2=s7 at *;clear hdec hq;have w1:IntKind.wrap .i64 (v1:Int)=(v1:Int):=bf (by omega) (by omega);have w2:IntKind.wrap .i64 (v2:Int)=(v2:Int):=bf (by omega) (by omega);have w3:IntKind.wrap .i64 (v3:Int)=(v3:Int):=bf (by omega) (by omega);have w4:IntKind.wrap .i64 (v4:Int)=(v4:Int):=bf (by omega) (by omega);have i1:I64 (v1:Int):=⟨by omega,by omega⟩
 have i2:I64 (v2:Int):=⟨by omega,by omega⟩
 have i3:I64 (v3:Int):=⟨by omega,by omega⟩
 have i4:I64 (v4:Int):=⟨by omega,by omega⟩
 have K27:au h2 h7 (fun c=>c=r):=(((k3.trans k4).trans k5).trans k6).trans k7;have O7:aK h1 h7:=o2.also K27 (fun d hd e=>by omega);have bm:cN dP [(0,1,.int .i64 (v1:Int)),(1,1,.int .i64 (v2:Int)),(2,1,.int .i64 (v3:Int)),(3,1,.int .i64 (v4:Int))]=some (.agg (cR ⟨v1,v2,v3,v4,z32,[]⟩ (.slice none 0 0)).toArray):=rfl;obtain ⟨h8,z8,o8,g8,n8⟩:=fresh dP h7;have p8:h8.n0<=h7.next:=by rw [o8.n0];exact h7.n0_le_next
 obtain ⟨h9,e9,k9,g9,p9,n9⟩:=aN (n:=37) (k':=cR ⟨v1,v2,v3,v4,z32,[]⟩ (.slice none 0 0)) g8 p8 rfl rfl rfl;have o79:aK h7 h9:=aK.bB o8 k9 (DG _);have O9:=O7.trans o79;have R9:=R7.keepB o79 (fun _ _ h=>h);have e10:=q170 R9;have g1':=aK.get O9 g1;have rl9:=R9.lt;have m7:=O7.next;have fin0 : ∀ (er:Int) {g:ae},aK h g->g.get h.next=some dP -> ∃ h',bI 37 (ptr h.next 0) (.agg (cR dB.z (.slice none 0 0)).toArray) g=some (undef,h')/\bQ 37 (ptr h.next 0) h'=some (.agg (cR dB.z (.slice none 0 0)).toArray,h')/\aK h h':=fun er g o gg=>by obtain ⟨h',a1,a2,a3,_⟩:=man_end o (DG _) gg rfl cz;exact ⟨h',a1,a2,a3⟩
 by_cases c1:s7.e≠0
 ·rw [DH c1];have q1:aA prog .neq 25 (.int .i64 s7.e) (.int .i64 0)=some (.bool true):=by rw [dj];simpa using c1
  obtain ⟨h',f1,f2,f3⟩:=fin0 s7.e (o1.trans O9) g1';refine ⟨.slice none 0 0,h',aI is173 rfl ((wQ _ _ _).trans ?_),f3,dB.z_wf,.nil _ _,fun b hb=>by cases hb⟩;unfold t173;simp -implicitDefEqProofs only [z1,e2,e3,e4,bY,w1,e5,w2,e6,w3,e7,w4,bm,z8,e9,e10,af,ak,aw,DC,q1,bz,f1];exact eA results173 oQ uL (show 2<71 by decide) (show 3<71 by decide) _ f2
 rw [DL c1];have q1:aA prog .neq 25 (.int .i64 s7.e) (.int .i64 0)=some (.bool false):=by rw [dj];simpa using c1
 by_cases c2:v0≠19713
 ·rw [DH c2];have q2:aA prog .neq 222 (.int .u16 (v0:Int)) (.int .u16 19713)=some (.bool true):=by
   rw [dj];have:(v0:Int)≠19713:=by omega
   simpa using this
  obtain ⟨h',f1,f2,f3⟩:=fin0 5 (o1.trans O9) g1';refine ⟨.slice none 0 0,h',aI is173 rfl ((wQ _ _ _).trans ?_),f3,dB.z_wf,.nil _ _,fun b hb=>by cases hb⟩;unfold t173;simp -implicitDefEqProofs only [z1,e2,e3,e4,bY,w1,e5,w2,e6,w3,e7,w4,bm,z8,e9,e10,af,ak,aw,DC,q1,q2,bz,f1];exact eA results173 oQ uL (show 2<71 by decide) (show 3<71 by decide) _ f2
 rw [DL c2];have q2:aA prog .neq 222 (.int .u16 (v0:Int)) (.int .u16 19713)=some (.bool false):=by
  rw [dj];have:(v0:Int)=19713:=by omega
  simpa using this
 have l0:ld1 (ptr h7.next 0) h9=some (.int .i64 (v1:Int),h9):=aH g9 rfl;have l1:ld1 (ptr h7.next 1) h9=some (.int .i64 (v2:Int),h9):=aH g9 rfl;have l2:ld1 (ptr h7.next 2) h9=some (.int .i64 (v3:Int),h9):=aH g9 rfl;have l3:ld1 (ptr h7.next 3) h9=some (.int .i64 (v4:Int),h9):=aH g9 rfl;have e148:=r103 (h:=h9) (v1:Int) (v2:Int) (v3:Int);by_cases c3:iX v1 v2 v3=false\/(8192:Int)<v4
 ·rw [DH c3];obtain ⟨h',f1,f2,f3⟩:=fin0 2 (o1.trans O9) g1';refine ⟨.slice none 0 0,h',aI is173 rfl ((wQ _ _ _).trans ?_),f3,dB.z_wf,.nil _ _,fun b hb=>by cases hb⟩;unfold t173;cases c4:iX (v1:Int) v2 v3 with
  |false=>
   rw [c4] at e148;simp -implicitDefEqProofs only [z1,e2,e3,e4,bY,w1,e5,w2,e6,w3,e7,w4,bm,z8,e9,e10,af,ak,aw,DC,q1,q2,l0,l1,l2,e148,dt,EG,aR,fs,sf,DP,aD,aX,DB,DS,DV,bz,f1];exact eA results173 oQ uL (show 2<71 by decide) (show 3<71 by decide) _ f2
  |true=>
   rw [c4] at e148;have q4:aA prog .gtr 3 (.int .i64 (v4:Int)) (.int .i64 8192)=some (.bool true):=by
    rw [dD];rcases c3 with c3|c3
    ·rw [c4] at c3;cases c3
    ·rw [DN (by omega)]
   simp -implicitDefEqProofs only [z1,e2,e3,e4,bY,w1,e5,w2,e6,w3,e7,w4,bm,z8,e9,e10,af,ak,aw,DC,q1,q2,l0,l1,l2,l3,e148,q4,dt,EK,aR,fs,sf,DP,aD,aX,DB,DS,DV,bz,f1];exact eA results173 oQ uL (show 2<71 by decide) (show 3<71 by decide) _ f2
 rw [DL c3];have c4:iX (v1:Int) v2 v3=true:=by
  cases hh:iX (v1:Int) v2 v3 with
  |true=>rfl
  |false=>exact absurd (.inl hh) c3
 have c5:v4<=8192:=by have : ¬(8192:Int)<v4:=fun hh=>c3 (.inr hh);omega
 have q4:aA prog .gtr 3 (.int .i64 (v4:Int)) (.int .i64 8192)=some (.bool false):=by rw [dD,DW (by omega)]
 rw [c4] at e148;obtain ⟨h10,e11,R10,k10⟩:=q210 R9;have hd:=pad_ok R9.byte;generalize hdd:kq (s7.take 32).1=d at *;have g10:=k10.getE g9 (by omega);have p10:h10.n0<=h7.next:=by rw [k10.n0];exact p9
 obtain ⟨h11,e12,k11,g11,p11,n11⟩:=oh (o:=4) (n:=32) (B':=bJ d) g10 p10 (show 4+32<=37 by omega) (bu hd) (bA d).2;rw [mset4 rfl hd.1] at g11;have g11:h11.get h7.next=some (cR ⟨v1,v2,v3,v4,d,[]⟩ (.slice none 0 0)):=g11;have R11:=R10.keepB k11 (fun b hb e=>by omega);have O11:aK h1 h11:=(O9.also k10 (fun d hd e=>by omega)).also k11 (fun d hd e=>by omega);have l2':ld1 (ptr h7.next 2) h11=some (.int .i64 (v3:Int),h11):=aH g11 rfl;have hv3:v3<256:=b6;have fin1 : ∀ y,y 2=ptr h.next 0->y 4=ptr r 0->y 6=ptr h7.next 0->y 53=aj v3->y 54=aj 0 -> ∃ v h',dH (iter (codeA prog CD (aq f173 [1,1,1,1,1,1,1,1,0,1,0,0])) az (aS 71 y) h11) (resultsA prog f173.results.toList) (CK CD)=some (.tuple #[.agg (cR (if (bF v3 (s7.take 32).2).2.fin≠0 then (dB.z,(bF v3 (s7.take 32).2).2.fin) else ((⟨v1,v2,v3,v4,d,(bF v3 (s7.take 32).2).1⟩:dB),0)).1 v).toArray,.int .i64 (if (bF v3 (s7.take 32).2).2.fin≠0 then (dB.z,(bF v3 (s7.take 32).2).2.fin) else ((⟨v1,v2,v3,v4,d,(bF v3 (s7.take 32).2).1⟩:dB),0)).2],h')/\aK h h'/\(if (bF v3 (s7.take 32).2).2.fin≠0 then (dB.z,(bF v3 (s7.take 32).2).2.fin) else ((⟨v1,v2,v3,v4,d,(bF v3 (s7.take 32).2).1⟩:dB),0)).1.Wf/\nC h' iT v (if (bF v3 (s7.take 32).2).2.fin≠0 then (dB.z,(bF v3 (s7.take 32).2).2.fin) else ((⟨v1,v2,v3,v4,d,(bF v3 (s7.take 32).2).1⟩:dB),0)).1.pieces.length ((if (bF v3 (s7.take 32).2).2.fin≠0 then (dB.z,(bF v3 (s7.take 32).2).2.fin) else ((⟨v1,v2,v3,v4,d,(bF v3 (s7.take 32).2).1⟩:dB),0)).1.pieces.flatMap bJ)/\(∀ b,zK v=some b->h.next<=b):=fun y y2 y4 y6 y53 y54=>by
  refine cH (Q:=fun o:aY => ∃ v h',o=some (Value.tuple #[.agg (cR (if (bF v3 (s7.take 32).2).2.fin≠0 then (dB.z,(bF v3 (s7.take 32).2).2.fin) else ((⟨v1,v2,v3,v4,d,(bF v3 (s7.take 32).2).1⟩:dB),0)).1 v).toArray,.int .i64 (if (bF v3 (s7.take 32).2).2.fin≠0 then (dB.z,(bF v3 (s7.take 32).2).2.fin) else ((⟨v1,v2,v3,v4,d,(bF v3 (s7.take 32).2).1⟩:dB),0)).2],h')/\aK h h'/\(if (bF v3 (s7.take 32).2).2.fin≠0 then (dB.z,(bF v3 (s7.take 32).2).2.fin) else ((⟨v1,v2,v3,v4,d,(bF v3 (s7.take 32).2).1⟩:dB),0)).1.Wf/\nC h' iT v (if (bF v3 (s7.take 32).2).2.fin≠0 then (dB.z,(bF v3 (s7.take 32).2).2.fin) else ((⟨v1,v2,v3,v4,d,(bF v3 (s7.take 32).2).1⟩:dB),0)).1.pieces.length ((if (bF v3 (s7.take 32).2).2.fin≠0 then (dB.z,(bF v3 (s7.take 32).2).2.fin) else ((⟨v1,v2,v3,v4,d,(bF v3 (s7.take 32).2).1⟩:dB),0)).1.pieces.flatMap bJ)/\(∀ b,zK v=some b->h.next<=b))
   (bL (nu CD) (dmRound (hl:=h11) (p:=h1.next) (r:=r) (D:=h7.next) (n:=v3) (m:=⟨v1,v2,v3,v4,d,[]⟩) (c2:=ptr h.next 0) (s0:=(s7.take 32).2) hv3 hd.1 (by omega) (h11.aL g11) p11) v3 (by have:az=18446744073709551616:=rfl;omega)
   ⟨0,[],(s7.take 32).2,.slice none 0 0,DC _,y2,y4,y6,y53,y54,g11,.nil _ _ _,(fun x hx=>by cases hx),rfl,R11,au.refl _ _,rfl⟩) ?_
  rintro ex z g ⟨rfl,z2,z4,z6,v,G,O,hw,R',K⟩;rw [bh,b173_exit,ym];unfold po;have e36:=q211 R';have O12:aK h1 g:=O11.also K (fun d hd e=>by omega);have gg:=aK.get O12 g1;by_cases c6:(bF v3 (s7.take 32).2).2.fin≠0
  ·rw [DH c6];have q6:aA prog .neq 25 (.int .i64 (bF v3 (s7.take 32).2).2.fin) (.int .i64 0)=some (.bool true):=by rw [dj];simpa using c6
   obtain ⟨h',f1,f2,f3⟩:=fin0 2 (o1.trans O12) gg;refine ⟨.slice none 0 0,h',?_,f3,dB.z_wf,.nil _ _,fun b hb=>by cases hb⟩;simp -implicitDefEqProofs only [z4,e36,q6,z2,bz,f1,af,ak];exact eA results173 oQ uL (show 2<71 by decide) (show 3<71 by decide) _ (by have:up z [(3,.int .i64 (bF v3 (s7.take 32).2).2.fin),(8,.int .i64 (bF v3 (s7.take 32).2).2.fin),(64,ptr r 0),(65,.int .i64 (bF v3 (s7.take 32).2).2.fin),(66,.int .i64 (bF v3 (s7.take 32).2).2.fin),(67,.bool true),(68,.agg (cR dB.z (.slice none 0 0)).toArray),(69,.int .i64 (bF v3 (s7.take 32).2).2.fin)] 2=ptr h.next 0:=z2;rw [this];exact f2)
  ·rw [DL c6];have q6:aA prog .neq 25 (.int .i64 (bF v3 (s7.take 32).2).2.fin) (.int .i64 0)=some (.bool false):=by rw [dj];simpa using c6
   have S:=lF (ks:=iT) O (dM (P:=fO) (fun a ha=>bT ha) _ hw);have hc:=dZ S;have hmc:=gT (m:=⟨v1,v2,v3,v4,d,[]⟩) (v:=v) hd.1 ⟨hc.1,hc.2.1⟩;have lz:=aP G hmc.1 hmc.2.1;obtain ⟨h',f1,f2,f3,k'⟩:=man_end (o1.trans O12) (DG _) gg rfl hmc;refine ⟨v,h',?_,f3,⟨i1,i2,i3,i4,hd,hw⟩,S.keep k' (fun b hb e => ?_),fun b hb => ?_⟩
   ·simp -implicitDefEqProofs only [z4,e36,q6,z6,z2,lz,f1,af,ak];exact eA results173 oQ uL (show 2<71 by decide) (show 3<71 by decide) _ (by have:up z [(3,.int .i64 0),(8,.int .i64 (bF v3 (s7.take 32).2).2.fin),(64,ptr r 0),(65,.int .i64 (bF v3 (s7.take 32).2).2.fin),(66,.int .i64 (bF v3 (s7.take 32).2).2.fin),(67,.bool false),(70,.agg (cR ⟨v1,v2,v3,v4,d,[]⟩ v).toArray)] 2=ptr h.next 0:=z2;rw [this];exact f2)
   ·have:=qW O hb;have:=O11.next;omega
   ·have:=qW O hb;have:=O11.next;omega
 have key : ∃ v h',t173 CD (.slice a n c) h=some (.tuple #[.agg (cR (if (bF v3 (s7.take 32).2).2.fin≠0 then (dB.z,(bF v3 (s7.take 32).2).2.fin) else ((⟨v1,v2,v3,v4,d,(bF v3 (s7.take 32).2).1⟩:dB),0)).1 v).toArray,.int .i64 (if (bF v3 (s7.take 32).2).2.fin≠0 then (dB.z,(bF v3 (s7.take 32).2).2.fin) else ((⟨v1,v2,v3,v4,d,(bF v3 (s7.take 32).2).1⟩:dB),0)).2],h')/\aK h h'/\(if (bF v3 (s7.take 32).2).2.fin≠0 then (dB.z,(bF v3 (s7.take 32).2).2.fin) else ((⟨v1,v2,v3,v4,d,(bF v3 (s7.take 32).2).1⟩:dB),0)).1.Wf/\nC h' iT v (if (bF v3 (s7.take 32).2).2.fin≠0 then (dB.z,(bF v3 (s7.take 32).2).2.fin) else ((⟨v1,v2,v3,v4,d,(bF v3 (s7.take 32).2).1⟩:dB),0)).1.pieces.length ((if (bF v3 (s7.take 32).2).2.fin≠0 then (dB.z,(bF v3 (s7.take 32).2).2.fin) else ((⟨v1,v2,v3,v4,d,(bF v3 (s7.take 32).2).1⟩:dB),0)).1.pieces.flatMap bJ)/\(∀ b,zK v=some b->h.next<=b):=by unfold t173;simp -implicitDefEqProofs only [z1,e2,e3,e4,bY,w1,e5,w2,e6,w3,e7,w4,bm,z8,e9,e10,af,ak,aw,DC,q1,q2,l0,l1,l2,l3,e148,q4,dt,EK,aR,fs,sf,DP,aD,aX,DB,DS,DV,e11,e12,l2'];exact fin1 _ rfl rfl rfl rfl rfl
 obtain ⟨v,h',e,rest⟩:=key;exact ⟨v,h',aI is173 rfl ((wQ _ _ _).trans e),rest⟩
end
end
end Go.Proofs.YtdhpgacmgebjdaaGreatDoor.W.R
namespace Go.Proofs.YtdhpgacmgebjdaaGreatDoor.W
open Go Go.Abs
noncomputable section
end
end Go.Proofs.YtdhpgacmgebjdaaGreatDoor.W
namespace Go.Proofs.YtdhpgacmgebjdaaGreatDoor.W
open Go Go.Abs R
noncomputable section
section
attribute [local congr] ax
structure fT (h:ae) (m:dB) (v:Vl):Prop where
 sl:nC h iT v m.pieces.length (m.pieces.flatMap bJ)
 wf:m.Wf
abbrev mv (m:dB) (v:Vl):Vl := .agg (cR m v).toArray
def fT.old {h g:ae} {m:dB} {v:Vl} (x:fT h m v) (o:aK h g):fT g m v:=⟨x.sl.keep o (fun _ _ h=>h),x.wf⟩
def fT.cell {h:ae} {m:dB} {v:Vl} (x:fT h m v):bW v=false/\v.oneCell'=true/\v.cells = #[v]:=dZ x.sl
def fT.ok {h:ae} {m:dB} {v:Vl} (x:fT h m v):(cR m v).length=37/\Abs.noHoles (cR m v)=true/\aM (cR m v)=true:=gT x.wf.obj.1 ⟨x.cell.1,x.cell.2.1⟩
structure MLd (h:ae) (b:Nat) (m:dB) (v:Vl):Prop where
 l0:ld1 (ptr b 0) h=some (.int .i64 m.gk,h)
 l1:ld1 (ptr b 1) h=some (.int .i64 m.gn,h)
 l2:ld1 (ptr b 2) h=some (.int .i64 m.gt,h)
 l3:ld1 (ptr b 3) h=some (.int .i64 m.gs,h)
 l36:ld1 (ptr b 36) h=some (v,h)
 all:bQ 37 (ptr b 0) h=some (mv m v,h)
def fT.ld {h:ae} {m:dB} {v:Vl} (x:fT h m v) {b:Nat} (g:h.get b=some (cR m v)):MLd h b m v:=
 ⟨aH g rfl,aH g rfl,aH g rfl,aH g rfl,aH g (As x.wf.obj.1) x.cell.1,aP g x.ok.1 x.ok.2.1⟩
def fT.box {h:ae} {m:dB} {v:Vl} (x:fT h m v) : ∃ g,Abs.box (mv m v) h=some (ptr h.next 0,g)/\aK h g/\g.get h.next=some (cR m v)/\MLd g h.next m v/\fT g m v/\g.next=h.next+1:=by
 have o:aK h (h.alloc (cR m v)):=au.alloc _ _ _;have e:(h.alloc (cR m v)).get h.next=some (cR m v):=by rw [ae.aZ,DH rfl]
 exact ⟨_,lC h _ x.ok.2.2,o,e,(x.old o).ld e,x.old o,rfl⟩
def fT.len {h:ae} {m:dB} {v:Vl} (x:fT h m v):cg v=some (.int .i64 (m.pieces.length:Int)):=x.sl.len
def iG (m:dB):Bool := !iX m.gk m.gn m.gt||decide (m.gs<0)||decide (m.gs>8192)||((m.pieces.length:Int) != m.gt)
def btt:(bt (.bool true)==some true)=true:=rfl
def btf:(bt (.bool true)==some false)=false:=rfl
def bft:(bt (.bool false)==some true)=false:=rfl
def bff:(bt (.bool false)==some false)=true:=rfl
def r68 {h:ae} {m:dB} {v:Vl} (x:fT h m v) : ∃ h',CD 68 [mv m v] h=some (.int .i64 (if iG m then 2 else 0),h')/\aK h h':=by obtain ⟨h1,b1,o1,g1,A,x1,n1⟩:=x.box;refine ⟨h1,aI is68 rfl ((t68_eq _ _ _).trans ?_),o1⟩;unfold t68 iG;have e1:=r103 (h:=h1) m.gk m.gn m.gt;cases q0:iX m.gk m.gn m.gt<;>cases q1:decide (m.gs<0)<;>cases q2:decide (m.gs>8192)<;>cases q3:((m.pieces.length:Int) != m.gt)<;>simp -implicitDefEqProofs only [b1,A.l0,A.l1,A.l2,A.l3,A.l36,e1,x1.len,af,ak,btt,btf,bft,bff,aD,aX,DB,DS,DV,aw,DC,EK,EG,dt,cx,dD,dj,q0,q1,q2,q3,IP,IQ,IK,HO]
def tM {m:dB} (v:iG m=false):1<=m.gk/\m.gk<=m.gn/\m.gn<=m.gt/\m.gt<=255/\0<=m.gs/\m.gs<=8192/\(m.pieces.length:Int)=m.gt:=by unfold iG iX at v;simp only [IU,Bool.not_eq_false',DD,DR,HC,bne_eq_false_iff_eq] at v;omega
def r120 {h:ae} {N w lim:Nat} {l m:List Nat} (W:sY h N w lim l) {a:Option Addr} {n c:Nat} (hm:ao a n h=some m) (hfit:l.length+n<=lim) :
  ∃ h',CD 120 [ptr w 0,.slice a n c] h=some (.tuple #[],h')/\sY h' N w lim (l++m)/\uG N h h':=by
 obtain ⟨h1,e1,W1,k1⟩:=r181 W hfit;obtain ⟨v0,w1,w2,_⟩:=W.ex;have hm1:ao a n h1=some m:=k1.bytes hm (dQ hm w1 (by
  intro v hv;simp only [ER,ET,GX] at hv;rcases hv with rfl|rfl|rfl
  ·rfl
  ·rfl
  ·exact w2.nat8))
 have k1:uG N h h1:=k1.mono (fun c _ hc=>by rw [hc];exact W.Nw);obtain ⟨v,v',g,g',a1,a2,a3,a4,a5⟩:=tY (c:=c) W1 hm1 (by have:=W.small;omega);refine ⟨g',aI is120 rfl ((t120_eq _ _ _ _).trans ?_),a4,k1.trans a5⟩;unfold t120;have hl:cg (.slice a n c)=some (aj n):=rfl;simp -implicitDefEqProofs only [af,ak,hl,e1,av,aw,DC,a1,a2,a3]
end
section
attribute [local congr] ax
def i8 (x:Int):Nat:=(x%256).toNat
def i16 (x:Int):Nat:=(x%65536).toNat
def yy {α:Type} {f:α->List Nat} {z:Nat} : ∀ (l:List α),(∀ a∈l,(f a).length=z)->(l.flatMap f).length=l.length*z
 | [],_=>by simp
 |a::l,h=>by have ih:=yy l (fun b hb=>h b (EL _ hb));rw [FT,DO,ih,h a (EW ..),List.length_cons,HG];omega
def flat_snoc {α:Type} {f:α->List Nat} {l:List α} {i:Nat} {a:α} (h:l[i]? = some a):(l.take (i+1)).flatMap f=(l.take i).flatMap f++f a:=by rw [H5,h];simp
def BZ {l:List (List Nat)} {i:Nat} {p:List Nat} (hw : ∀ x∈l,fO x) (hm:l[i]? = some p):el 32 (l.flatMap bJ) i=bJ p:=by
 have key : ∀ (l:List (List Nat)) (i:Nat),(∀ x∈l,fO x)->l[i]? = some p->el 32 (l.flatMap bJ) i=bJ p:=by
  intro l;induction l with
  |nil=>intro i _ h;cases h
  |cons a l ih=>
   intro i hw h;have ha:(bJ a).length=32:=bu (hw a (EW ..));cases i with
   |zero=>
    cases h;unfold el;rw [HM,FO,FT,<-ha,IC]
   |succ i=>
    have h:l[i]? = some p:=h;have:=ih i (fun x hx=>hw x (EL _ hx)) h;unfold el at this |-;rw [FT,show (i+1)*32=(bJ a).length+i*32 by rw [HG,ha];omega,List.drop_length_add_append];exact this
 exact key l i hw hm
def i8_lt (x:Int):i8 x<256:=by unfold i8;omega
def i16_lt (x:Int):i16 x<65536:=by unfold i16;omega
def wrap_i8 (x:Int):IntKind.wrap .u8 x=(i8 x:Nat):=by rw [fZ];unfold i8;omega
def wrap_i16 (x:Int):IntKind.wrap .u16 x=(i16 x:Nat):=by rw [CQ];unfold i16;omega
def dF (m:dB):List Nat:=ej 2 19713++(ej 1 (i8 m.gk)++(ej 1 (i8 m.gn)++(ej 1 (i8 m.gt)++(ej 2 (i16 m.gs)++(m.obj++m.pieces.flatMap id)))))
def lI {m:dB} (w:m.Wf):(dF m).length=38+1+m.pieces.length*32:=by unfold dF;simp only [DO,aQ,w.obj.1,yy (f:=id) (z:=32) _ (fun a ha=>(w.pieces a ha).1)];omega
def mnInv (h0:ae) (N w lim:Nat) (L:List Nat) (v:Vl) (t:List (List Nat)) (k:Nat) (y:Nat->Vl) (g:ae):Prop:=
 ∃ i,i+k=t.length/\y 5=ptr w 0/\y 45=v/\y 46=aj t.length/\y 47=aj i/\uG N h0 g/\sY g N w lim (L++(t.take i).flatMap id)
def mnFin (h0:ae) (N w lim:Nat) (L:List Nat) (t:List (List Nat)) (ex:Ex) (y:Nat->Vl) (g:ae):Prop:=
 ex = .exit 0/\y 5=ptr w 0/\uG N h0 g/\sY g N w lim (L++t.flatMap id)
def arr32 (b o:Nat):sliceArr 32 1 (ptr b o) none none none=some (.slice (some ⟨b,o,none⟩) 32 32):=by unfold sliceArr ptr;have:boundsA 32 32 none none none=some (0,32,32):=rfl;simp only [this,HM,Nat.add_zero,ite_self,Nat.sub_zero]
def sY.old {h g:ae} {N w lim:Nat} {l:List Nat} (W:sY h N w lim l) (o:aK h g):sY g N w lim l:=by obtain ⟨⟨v,h1,h2,h3⟩,a,b,c⟩:=W;exact ⟨⟨v,aK.get o h1,h2.keep o (fun _ _ h=>h),h3⟩,by rw [o.n0];exact a,b,c⟩
def mnRound {h0:ae} {N w lim:Nat} {L:List Nat} {v:Vl} {t:List (List Nat)} (x:nC h0 iT v t.length (t.flatMap bJ)) (hN : ∀ b,zK v=some b->b<N) (hw : ∀ x∈t,fO x) (hl:t.length<=255) (hfit:L.length+t.length*32<=lim) :
  ∀ k y g,mnInv h0 N w lim L v t k y g->dE 59 (mnInv h0 N w lim L v t) (mnFin h0 N w lim L t) k (fa CD y g):=by
 rintro k y g ⟨i,hik,y5,y45,y46,y47,K,W⟩;unfold fa;by_cases hi:i<t.length
 ·obtain ⟨b,q,kb,hb,a1,_,_,_,a2,_⟩:=(x.keep K (fun b hb=>by have:=hN b hb;omega)).at hi;obtain ⟨m,hm⟩ : ∃ m,t[i]? = some m:=⟨t[i],DE hi⟩
  have wm:=hw m (D7 hm);have a1:idxS 32 v (aj i)=some (ptr b (q+i*32)):=a1;have a2:bQ 32 (ptr b (q+i*32)) g=some (.agg (el 32 (t.flatMap bJ) i).toArray,g):=a2;rw [BZ hw hm] at a2;have hlen:((t.take i).flatMap id).length=i*32:=by rw [yy (f:=id) (z:=32) _ (fun a ha=>(hw a (D6 ha)).1),E8,GN (by omega)]
  have hi9:i*32+32<=t.length*32:=mul_le hi;have hNg:N<=g.next:=by have:=W.lt;have:=W.Nw;omega
  obtain ⟨g1,z1,o1,q1,n1⟩:=fresh (List.replicate 32 (.int .u8 0)) g;have p1:g1.n0<=g.next:=by rw [o1.n0];exact g.n0_le_next
  obtain ⟨g2,t2,k2,q2,_,n2⟩:=aN (n:=32) (k':=bJ m) q1 p1 rfl (bu wm) (bA m).2;have o2:aK g g2:=aK.bB o1 k2 (DG _);have sb:ao (some ⟨g.next,0,none⟩) m.length g2=some m:=gN (A := []) (C := []) q2 (by simp) rfl wm.2;have sb0:w<g.next:=W.lt;obtain ⟨g3,e3,W3,k3⟩:=r120 (sY.old W o2) (c:=32) sb (by rw [DO,hlen,wm.1];omega);rw [wm.1] at e3;simp -implicitDefEqProofs only [y47,y46,gS,DN hi,y45,a1,a2,z1,t2,y5,arr32,e3,eW (show i+1<=9223372036854775807 by omega),af,ak];refine dE.next (k-1) (by omega) ⟨i+1,by omega,y5,y45,y46,rfl,(K.trans (o2.mono fun _ _ h=>h.elim)).trans k3,?_⟩;rw [flat_snoc hm,<-List.append_assoc];exact W3
 ·simp -implicitDefEqProofs only [y47,y46,gS,DW hi,af,ak];refine dE.out 0 ⟨rfl,y5,K,?_⟩;rw [D3 (by omega)] at W;exact W
end
end
end Go.Proofs.YtdhpgacmgebjdaaGreatDoor.W
namespace Go.Proofs.YtdhpgacmgebjdaaGreatDoor.W
open Go Go.Abs Tryz R
noncomputable section
section
attribute [local congr] ax
structure RT (h:ae):Prop where
 n0:3<=h.n0
 tab:h.get 1=some cP
def RT.kept {h g:ae} (x:RT h) {B:Nat->Prop} (k:au h g B) (hB : ∀ b,B b->h.n0<=b):RT g:=
 ⟨by rw [k.n0];exact x.n0,k.getE x.tab (fun q=>by have:=hB _ q;have:=x.n0;omega)⟩
def RT.old {h g:ae} (x:RT h) (k:aK h g):RT g:=x.kept k (fun _ q=>q.elim)
structure BS (h:ae) (v:Vl) (l:List Nat):Prop where
 ex : ∃ a c,v = .slice a l.length c/\ao a l.length h=some l/\(0<l.length->cw a l.length c=true)
def BS.old {h g:ae} {v:Vl} {l:List Nat} (x:BS h v l) (o:aK h g):BS g v l:=by obtain ⟨a,c,e,s,q⟩:=x.ex;exact ⟨a,c,e,aK.bytes o s,q⟩
def BS.len {h:ae} {v:Vl} {l:List Nat} (x:BS h v l):cg v=some (aj l.length):=by obtain ⟨a,c,rfl,_⟩:=x.ex;rfl
def BS.cell {h:ae} {v:Vl} {l:List Nat} (x:BS h v l):bW v=false/\v.oneCell'=true/\v.cells = #[v]/\nat8 v=none:=by obtain ⟨a,c,rfl,_⟩:=x.ex;exact ⟨rfl,rfl,rfl,rfl⟩
def BS.veq {h:ae} {v:Vl} {l:List Nat} (x:BS h v l):Abs.veq v v=true:=by obtain ⟨a,c,rfl,_⟩:=x.ex;simp [Abs.veq]
def BS.of {h:ae} {a:Option Addr} {n c:Nat} {l:List Nat} (s:ao a n h=some l) (g:0<n->cw a n c=true):BS h (.slice a n c) l:=by have:=(ay s).1;subst this;exact ⟨a,c,rfl,s,g⟩
def BS.nil (h:ae):BS h (.slice none 0 0) []:=⟨none,0,rfl,rfl,fun h=>absurd h (GZ 0)⟩
def HD0_ok:HD0.Ok:=⟨rfl,rfl,fun x hx=>by have:=ES (show x∈List.replicate 64 0 from hx);omega⟩
def hwrite {h:ae} (T:RT h) {p:Nat} {s:HD} (o:s.Ok) (hp:h.get p=some s.cells) (hp0:h.n0<=p) {v:Vl} {l:List Nat} (x:BS h v l) (hx : ∀ a n c y,v = .slice (some y) n c->a=y.block->0<n->a≠p) (hfit:s.n+l.length<=1000000) :
  ∃ h',CD 130 [ptr p 0,v] h=some (.tuple #[],h')/\au h h' (· = p)/\h'.get p=some (s.wr l).cells/\(s.wr l).Ok/\(s.wr l).n=s.n+l.length:=by
 obtain ⟨a,c,rfl,e,g⟩:=x.ex;exact r130 T.n0 T.tab o hp hp0 e g (fun y hy hn=>by subst hy;exact hx _ _ _ _ rfl rfl hn) hfit
def BS.lt {h:ae} {v:Vl} {l:List Nat} (x:BS h v l) : ∀ a n c y,v = .slice (some y) n c->a=y.block->0<n->a<h.next:=by rintro a n c y rfl rfl hn;obtain ⟨a',c',e,s,_⟩:=x.ex;cases e;obtain ⟨b,o,q,e,hb⟩:=jF s hn;cases e;exact hb
def ux (l:List Nat):List Nat:=(HD0.wr l).sum
def sg (l:List Nat):fO (ux l):=tT _
def is67:bE prog 67 f67 := .of (by kernel_rfl)
def res67:f67.results.toList = [.cell 2 32]:=by kernel_rfl
def yp:cQ prog 32=some 32:=by kernel_rfl
def r67 {h:ae} (T:RT h) {v:Vl} {l:List Nat} (x:BS h v l) (hl:l.length<=50000) : ∃ g,CD 67 [v] h=some (.agg (bJ (ux l)).toArray,g)/\aK h g:=by
 obtain ⟨h1,z1,o1,g1,n1⟩:=fresh (List.replicate 32 (.int .u8 0)) h;obtain ⟨h2,e2,o2,g2,n2⟩:=r129 (h:=h1) (T.old o1).n0;have O2:=o1.trans o2;have p2:h2.n0<=h1.next:=by rw [o2.n0];exact h1.n0_le_next
 obtain ⟨h3,e3,k3,g3,ok3,n3⟩:=hwrite (T.old O2) HD0_ok g2 p2 (x.old O2) (fun a n c y e1 e2 hn=>by have:=x.lt a n c y e1 e2 hn;omega) (by show 0+_<=_;omega);have O3:aK h h3:=aK.bB O2 k3 (by omega);obtain ⟨h4,e4,o4⟩:=r131 (T.old O3).n0 (T.old O3).tab ok3 g3 (by rw [n3];show 0+_<=_;omega);have q4:=aK.get o4 (au.getE k3 (aK.get o2 g1) (by omega));have so:=sg l;obtain ⟨h5,t5,k5,g5,_,_⟩:=aN (n:=32) (k':=bJ (ux l)) q4 (by rw [o4.n0,O3.n0];exact h.n0_le_next) rfl (bu so) (bA _).2;refine ⟨h5,aI is67 rfl ((t67_eq _ _ _).trans ?_),aK.bB (O3.trans o4) k5 (DG _)⟩;unfold t67;have t5:bI 32 (ptr h.next 0) (.agg (bJ (HD0.wr l).sum).toArray) h4=_:=t5;simp -implicitDefEqProofs only [z1,e2,e3,e4,t5,af];exact nr (v := .agg (bJ (ux l)).toArray) res67 yX yp (by decide) _ (aP g5 (bu so) (bA _).1)
def is66:bE prog 66 f66 := .of (by kernel_rfl)
def b66_exit (C:ah) (e:aO) (h:ae):b66_14 C 0 e h=k66_12 C e h:=rfl
def jO (a b:Vl):extractA (.tuple #[a,b]) 0=some a:=rfl
def j7 (a b:Vl):extractA (.tuple #[a,b]) 1=some b:=rfl
def jm (a:Int):aA prog .neq 25 (.int .i64 a) (.int .i64 0)=some (.bool (a != 0)):=dj ..
def uG.of_old {h g k:ae} {N:Nat} (o:aK h g) (a:uG N g k) (hN:h.next<=N):aK h k:=o.also a (fun d hd q=>by omega)
set_option maxRecDepth 100000 in
def r66 {h:ae} {m:dB} {v:Vl} (x:fT h m v) : ∃ w g,CD 66 [mv m v] h=some (.tuple #[w,.int .i64 (if iG m then 2 else 0)],g)/\aK h g/\BS g w (if iG m then [] else dF m):=by
 obtain ⟨h1,b1,o1,g1,A,x1,n1⟩:=x.box;obtain ⟨h2,e2,o2⟩:=r68 x1;have O2:=o1.trans o2;cases v0:iG m with
 |true=>
  rw [v0] at e2;refine ⟨.slice none 0 0,h2,aI is66 rfl ((t66_eq _ _ _).trans ?_),O2,BS.nil _⟩;unfold t66;simp -implicitDefEqProofs only [b1,A.all,e2,DV,jm,show ((2:Int) != 0)=true from rfl,af,ak]
 |false=>
  rw [v0] at e2;obtain ⟨v1,v2,v3,v4,v5,v6,v7⟩:=tM v0;have x2:=x1.old o2;have A2:=x2.ld (aK.get o2 g1);have hmul:aA prog .mul 3 (.int .i64 32) (.int .i64 m.gt)=some (.int .i64 (32*m.gt)):=by rw [jM,bf (by omega) (by omega)]
  have hadd:aA prog .add 3 (.int .i64 39) (.int .i64 (32*m.gt))=some (aj (39+m.pieces.length*32)):=by rw [eR,bf (by omega) (by omega)];exact FP (fun z=>some (Value.int .i64 z)) (by omega)
  obtain ⟨h3,e3,W3,k3⟩:=r116 h2 (lim:=39+m.pieces.length*32) (by omega);have hb:h.next<h2.next:=by have:=o2.next;omega
  have gb : ∀ {g:ae},uG h2.next h2 g->g.get h.next=some (cR m v)/\fT g m v:=fun k=>⟨k.getE (aK.get o2 g1) (by omega),x2.sl.keep k (fun b q=>by have:=x2.sl.lt q;omega),x2.wf⟩
  have ob:=x.wf.obj;have LL : ∀ (l:List Nat) (n:Nat),l.length<=38->n<=1->l.length+n<=39+m.pieces.length*32:=fun _ _ _ _=>by omega
  obtain ⟨h4,e4,W4,k4⟩:=r118 W3 (v:=19713) (by simp only [List.length_nil];omega) (by decide);have K4:=k3.trans k4;have A4:=(gb K4).2.ld (gb K4).1;obtain ⟨h5,e5,W5,k5⟩:=r117 W4 (v:=i8 m.gk) (by simp only [DO,aQ,List.length_nil];omega) (i8_lt _);have K5:=K4.trans k5;have A5:=(gb K5).2.ld (gb K5).1;obtain ⟨h6,e6,W6,k6⟩:=r117 W5 (v:=i8 m.gn) (by simp only [DO,aQ,List.length_nil];omega) (i8_lt _);have K6:=K5.trans k6;have A6:=(gb K6).2.ld (gb K6).1;obtain ⟨h7,e7,W7,k7⟩:=r117 W6 (v:=i8 m.gt) (by simp only [DO,aQ,List.length_nil];omega) (i8_lt _);have K7:=K6.trans k7;have A7:=(gb K7).2.ld (gb K7).1;obtain ⟨h8,e8,W8,k8⟩:=r118 W7 (v:=i16 m.gs) (by simp only [DO,aQ,List.length_nil];omega) (i16_lt _);have K8:=K7.trans k8;obtain ⟨h9,e9,W9,k9⟩:=r120 W8 (n:=m.obj.length) (c:=32) (gN (off:=4) (s:=none) (gb K8).1 (A := [.int .i64 m.gk,.int .i64 m.gn,.int .i64 m.gt,.int .i64 m.gs]) rfl rfl ob.2) (by simp only [DO,aQ,List.length_nil,ob.1];omega);have K9:=K8.trans k9;have A9:=(gb K9).2.ld (gb K9).1;rw [ob.1] at e9;have hL:(((((([]++ej 2 19713)++ej 1 (i8 m.gk))++ej 1 (i8 m.gn))++ej 1 (i8 m.gt))++ej 2 (i16 m.gs))++m.obj).length=39:=by simp only [DO,aQ,List.length_nil,ob.1]
  have e4:CD 118 [ptr h2.next 0,.int .u16 19713] h3=some (.tuple #[],h4):=e4;have key : ∃ w g,t66 CD (mv m v) h=some (.tuple #[w,.int .i64 0],g)/\aK h g/\BS g w (dF m):=by
   unfold t66;simp -implicitDefEqProofs only [b1,A.all,e2,DS,DB,jm,ED,A2.l2,hmul,hadd,e3,e4,A4.l0,wrap_i8,wrap_i16,bY,e5,A5.l1,e6,A6.l2,e7,A7.l3,e8,arr32,e9,A9.l36,x.len,af,ak,aw,DC];refine cH (Q:=fun o:aY => ∃ w g,o=some (Value.tuple #[w,.int .i64 0],g)/\aK h g/\BS g w (dF m)) (bL (nM CD) (mnRound (h0:=h2) (N:=h2.next) (w:=h2.next) (lim:=39+m.pieces.length*32) x2.sl (fun b q=>x2.sl.lt q) x.wf.pieces (by omega) (by rw [hL];exact DG _)) m.pieces.length (by have:az=18446744073709551616:=rfl;omega)
    ⟨0,DC _,rfl,rfl,rfl,rfl,K9,by simpa using W9⟩) ?_
   rintro ex z g ⟨rfl,z5,K,W'⟩;rw [bh,b66_exit,BM];unfold uQ;have hE:(((((([]++ej 2 19713)++ej 1 (i8 m.gk))++ej 1 (i8 m.gn))++ej 1 (i8 m.gt))++ej 2 (i16 m.gs))++m.obj)++m.pieces.flatMap id=dF m:=by unfold dF;simp only [DY,List.nil_append]
   rw [hE] at W';obtain ⟨a,c,h',e,sb,gs,o,f⟩:=r121 W' (by rw [lI x.wf];omega);exact ⟨_,h',by simp -implicitDefEqProofs only [z5,e,jO,j7,af,ak],(uG.of_old O2 K (by omega)).trans o,.of sb (fun _=>gs)⟩
  obtain ⟨w,g,e,o,b⟩:=key;exact ⟨w,g,aI is66 rfl ((t66_eq _ _ _).trans e),o,b⟩
end
section
attribute [local congr] ax
def j8 (m:dB):List Nat:=if iG m then z32 else ux (dF m)
def z32_d:fO z32:=⟨rfl,fun x hx=>by have:=ES hx;omega⟩
def u7 (m:dB):fO (j8 m):=by unfold j8;split;exact z32_d;exact sg _
def is24:bE prog 24 f24 := .of (by kernel_rfl)
def res24:f24.results.toList = [.cell 2 32,.tmp 3]:=by kernel_rfl
def bld32:cN (List.replicate 32 (.int .u8 0)) []=some (.agg (bJ z32).toArray):=by kernel_rfl
def r24 {h:ae} (T:RT h) {m:dB} {v:Vl} (x:fT h m v) : ∃ g,CD 24 [mv m v] h=some (.tuple #[.agg (bJ (j8 m)).toArray,.int .i64 (if iG m then 2 else 0)],g)/\aK h g:=by
 obtain ⟨h1,b1,o1,g1,A,x1,n1⟩:=x.box;obtain ⟨h2,z2,o2,g2,n2⟩:=fresh (List.replicate 32 (.int .u8 0)) h1;obtain ⟨w,h3,e3,o3,bw⟩:=r66 (x1.old o2);have A2:=(x1.old o2).ld (aK.get o2 g1);have O3:=(o1.trans o2).trans o3;have io:=u7 m;have nn : ∀ {g:ae},aK h3 g->g.n0<=h1.next:=fun o=>by rw [o.n0,O3.n0,n1];have:=h.n0_le_next;omega
 cases vb:iG m with
 |true=>
  rw [vb] at e3;obtain ⟨h5,t5,k5,g5,_,_⟩:=aN (n:=32) (k':=bJ (j8 m)) (aK.get o3 g2) (nn (au.refl _ _)) rfl (bu io) (bA _).2;have hi:j8 m=z32:=by unfold j8;rw [vb];rfl
  refine ⟨h5,aI is24 rfl ((t24_eq _ _ _).trans ?_),aK.bB O3 k5 (by omega)⟩;unfold t24;rw [hi] at t5 g5 |-;simp -implicitDefEqProofs only [b1,z2,A2.all,e3,jO,j7,DV,jm,show ((2:Int) != 0)=true from rfl,bld32,t5,af,ak];exact eA res24 yX yp (by decide) (by decide) _ (aP g5 rfl (bA _).1)
 |false=>
  rw [vb] at e3 bw;obtain ⟨h4,e4,o4⟩:=r67 (T.old O3) bw (by rw [DL (by simp),lI x.wf];have:=(tM vb);omega);have hi:ux (dF m)=j8 m:=by unfold j8;rw [vb];rfl
  rw [DL (by simp),hi] at e4;obtain ⟨h5,t5,k5,g5,_,_⟩:=aN (n:=32) (k':=bJ (j8 m)) (aK.get o4 (aK.get o3 g2)) (nn o4) rfl (bu io) (bA _).2;refine ⟨h5,aI is24 rfl ((t24_eq _ _ _).trans ?_),aK.bB (O3.trans o4) k5 (by omega)⟩;unfold t24;simp -implicitDefEqProofs only [b1,z2,A2.all,e3,jO,j7,DS,DB,jm,ED,e4,t5,af,ak];exact eA res24 yX yp (by decide) (by decide) _ (aP g5 (bu io) (bA _).1)
def bq (ix:Nat) (d:List Nat):List Nat:=((HD0.wr [ix/256%256,ix%256]).wr d).sum
def is70:bE prog 70 f70 := .of (by kernel_rfl)
def res70:f70.results.toList = [.cell 4 32]:=by kernel_rfl
def bsl2 (h:ae) (x y:Nat):gK 1 (.int .u8 0) 2 [(0,u8 x),(1,u8 y)] h=some (.slice (some ⟨h.next,0,none⟩) 2 2,h.alloc (bJ [x,y])):=rfl
def r70 {h:ae} (T:RT h) {ix:Nat} (hix:ix<9223372036854775808) {v:Vl} {l:List Nat} (x:BS h v l) (hl:l.length<=50000) : ∃ g,CD 70 [aj ix,v] h=some (.agg (bJ (bq ix l)).toArray,g)/\aK h g:=by
 obtain ⟨h1,z1,o1,g1,n1⟩:=fresh (List.replicate 32 (.int .u8 0)) h;obtain ⟨h2,e2,o2,g2,n2⟩:=r129 (h:=h1) (T.old o1).n0;have O2:=o1.trans o2;have b3:=bsl2 h2 (ix/256%256) (ix%256);have o3:aK h2 (h2.alloc (bJ [ix/256%256,ix%256])):=au.alloc _ _ _;have hb:uH [ix/256%256,ix%256]:=by intro q hq;simp only [ER,ET,GX] at hq;rcases hq with rfl|rfl<;>omega
 have s3:ao (some ⟨h2.next,0,none⟩) 2 (h2.alloc (bJ [ix/256%256,ix%256]))=some [ix/256%256,ix%256]:=by have:=gN (h:=h2.alloc (bJ [ix/256%256,ix%256])) (b:=h2.next) (off:=0) (s:=none) (A := []) (C := []) (l := [ix/256%256,ix%256]) (by rw [ae.aZ,DH rfl]) (by simp) rfl hb;exact this
 have B3:BS (h2.alloc (bJ [ix/256%256,ix%256])) (.slice (some ⟨h2.next,0,none⟩) 2 2) [ix/256%256,ix%256]:=⟨_,_,rfl,s3,fun _=>rfl⟩
 have m3:(h2.alloc (bJ [ix/256%256,ix%256])).next=h2.next+1:=rfl;generalize h2.alloc (bJ [ix/256%256,ix%256])=h3 at *;have O3:=O2.trans o3;have p1 : ∀ {g:ae},aK h g->g.n0<=h1.next:=fun o=>by rw [o.n0];have:=h.n0_le_next;omega
 obtain ⟨h4,e4,k4,g4,ok4,n4⟩:=hwrite (T.old O3) HD0_ok (aK.get o3 g2) (p1 O3) B3 (fun a n c y e1 e2 hn=>by cases e1;have e2:a=h2.next:=e2;omega) (by show 0+2<=_;omega);have O4:aK h h4:=aK.bB O3 k4 (by omega);obtain ⟨h5,e5,k5,g5,ok5,n5⟩:=hwrite (T.old O4) ok4 g4 (p1 O4) (x.old O4) (fun a n c y e1 e2 hn=>by have:=x.lt a n c y e1 e2 hn;omega) (by rw [n4];show 0+2+_<=_;omega);have O5:aK h h5:=aK.bB O4 k5 (by omega);obtain ⟨h6,e6,o6⟩:=r131 (T.old O5).n0 (T.old O5).tab ok5 g5 (by rw [n5,n4];show 0+2+_<=_;omega);have q6:=aK.get o6 (au.getE k5 (au.getE k4 (aK.get o3 (aK.get o2 g1)) (by omega)) (by omega));have so:fO (bq ix l):=tT _;obtain ⟨h7,t7,k7,g7,_,_⟩:=aN (n:=32) (k':=bJ (bq ix l)) q6 (by rw [o6.n0,O5.n0];exact h.n0_le_next) rfl (bu so) (bA _).2;refine ⟨h7,aI is70 rfl ((t70_eq _ _ _ _).trans ?_),aK.bB (O5.trans o6) k7 (DG _)⟩;unfold t70;have sh:aA prog .shr 3 (aj ix) (.int .u64 8)=some (aj (ix/256)):=dG prog 3 (k := .i64) (k' := .u64) (a:=ix) (b:=8) (by decide);have cv : ∀ (z:Nat) (g:ae),iQ .u8 (aj z) g=some (u8 (z%256),g):=by intro z g;rw [show aj z=Value.int .i64 (z:Int) from rfl,bY,fZ,show u8 (z%256)=Value.int .u8 ((z%256:Nat):Int) from rfl];exact FP (fun q=>some (Value.int .u8 q,g)) (by omega)
 have t7:bI 32 (ptr h.next 0) (.agg (bJ ((HD0.wr [ix/256%256,ix%256]).wr l).sum).toArray) h6=_:=t7;simp -implicitDefEqProofs only [z1,e2,sh,cv,b3,e4,e5,e6,t7,af,ak];exact nr (v := .agg (bJ (bq ix l)).toArray) res70 yX yp (by decide) _ (aP g7 (bu so) (bA _).1)
def rO (k s:Int):Int:=if k<1\/255<k\/s<0\/8192<s then 0 else (s+k-1).tdiv k
def r69 (k s:Int) (h:ae) : ∃ e,CD 69 [.int .i64 k,.int .i64 s] h=some (.tuple #[.int .i64 (rO k s),.int .i64 e],h):=by refine ⟨if k<1\/255<k\/s<0\/8192<s then 2 else 0,aI is69 rfl ((t69_eq _ _ _ _).trans ?_)⟩;unfold t69 rO;by_cases c0:k<1<;>by_cases c1:255<k<;>by_cases c2:s<0<;>by_cases c3:8192<s<;>simp -implicitDefEqProofs only [c0,c1,c2,c3,GQ,FA,gt_iff_lt,af,ak,btt,btf,bft,bff,aD,aX,DB,DS,DV,cx,dD,or_true,true_or,GX,false_or,or_self];rw [eR,bf (x:=s+k) (by omega) (by omega)];simp -implicitDefEqProofs only [ak,af];rw [gR,bf (x:=s+k-1) (by omega) (by omega)];simp -implicitDefEqProofs only [ak,af];rw [w8 _ _ _ _ _ (by omega),bf (by have:=Int.tdiv_nonneg (a:=s+k-1) (b:=k) (by omega) (by omega);omega) (by have:=Int.tdiv_le_self (a:=s+k-1) k (by omega);omega)];simp -implicitDefEqProofs only [ak,af]
end
section
attribute [local congr] ax
def size1:cQ prog 5=some 1:=by kernel_rfl
def kX {xs:List Vl} (h:bD xs=true):ground (.agg xs.toArray)=true:=by show bD xs.toArray.toList=true;exact h
def dig_get {xs:List Vl} (h:ko iT xs) {i:Nat} (hi:i<32) : ∃ n:Nat,xs[i]? = some (.int .u8 n)/\n<256:=by obtain ⟨v,h1,n,rfl,h2⟩:=h.2 i .u8 (by unfold iT;rw [HE,DH hi]);exact ⟨n,h1,h2⟩
def dig_run {d:Nat} {xs ys:List Vl} (hx:ko iT xs) (hy:ko iT ys) : ∃ r:Bool,(r=true↔xs=ys)/\cZ prog (Op.equalIn (d+2) 32 (.agg xs.toArray) (.agg ys.toArray))=some r:=by
 obtain ⟨r,h1,h2⟩:=pr_eq_arr (P:=prog) (d:=d) (m:=32) (t:=32) (e:=5) (k := .u8) (j := .u8) (xs:=xs.toArray) (ys:=ys.toArray) Tryz.underlying32 size1 Tryz.underlying5 (fun i hi=>by obtain ⟨a,ha,_⟩:=dig_get hx hi;obtain ⟨b,hb,_⟩:=dig_get hy hi;exact ⟨a,b,by simpa using ha,by simpa using hb⟩)
 refine ⟨r,h1.trans ⟨fun hh => ?_,fun hh i hi=>by rw [hh]⟩,h2⟩;have lx:xs.length=32:=hx.1;have ly:ys.length=32:=hy.1;refine FC fun i => ?_;by_cases hi:i<32
 ·simpa using hh i hi
 ·rw [EN (by omega),EN (by omega)]
def eqD32 {a b:List Nat} (wa:fO a) (wb:fO b):aA prog .eql 32 (.agg (bJ a).toArray) (.agg (bJ b).toArray)=some (.bool (decide (a=b)))/\aA prog .neq 32 (.agg (bJ a).toArray) (.agg (bJ b).toArray)=some (.bool (!decide (a=b))):=by
 obtain ⟨r,hr,hrun⟩:=dig_run (d:=9998) (bT wa) (bT wb);have hr':r=decide (a=b):=by
  by_cases e:a=b
  ·rw [DN e,hr.2 (by rw [e])]
  ·rw [DW e];cases r with
   |false=>rfl
   |true=>exact absurd (u8_inj (hr.1 rfl)) e
 rw [<-hr'];exact bin_agg (by kernel_rfl) (kX (bT wa).all.2.2) (kX (bT wb).all.2.2) hrun
def wA (m:dB) (ix:Int) (d:List Nat):Int:=
 if iG m then 2 else if ix<0\/m.gt<=ix then 2 else if (d.length:Int)≠rO m.gk m.gs then 10 else if bq ix.toNat d=m.pieces.getD ix.toNat [] then 0 else 20
abbrev pv (ix:Int) (dv:Vl):Vl := .agg #[.int .i64 ix,dv]
def pbox {h:ae} (ix:Int) {dv:Vl} {d:List Nat} (x:BS h dv d) : ∃ g,box (pv ix dv) h=some (ptr h.next 0,g)/\aK h g/\g.get h.next=some [.int .i64 ix,dv]/\g.next=h.next+1:=by
 have e:aM [.int .i64 ix,dv]=true:=by simp [aM,x.cell.2.1,show (Value.int .i64 ix).oneCell'=true from rfl]
 exact ⟨_,lC h [.int .i64 ix,dv] e,au.alloc _ _ _,by rw [ae.aZ,DH rfl],rfl⟩
def is25:bE prog 25 f25 := .of (by kernel_rfl)
set_option maxRecDepth 100000 in
def r25 {h:ae} (T:RT h) {m:dB} {v:Vl} (x:fT h m v) {ix:Int} (hix:ix<9223372036854775808) {dv:Vl} {d:List Nat} (b:BS h dv d) (hd:d.length<=50000) :
  ∃ g,CD 25 [mv m v,pv ix dv] h=some (.int .i64 (wA m ix d),g)/\aK h g:=by
 obtain ⟨h1,b1,o1,g1,A,x1,n1⟩:=x.box;obtain ⟨h2,b2,o2,g2,n2⟩:=pbox ix (b.old o1);obtain ⟨h3,e3,o3⟩:=r68 (x1.old o2);have O2:=o1.trans o2;have O3:=O2.trans o3;have A2:=(x1.old o2).ld (aK.get o2 g1);have x3:=x.old O3;have A3:=x3.ld (aK.get (o2.trans o3) g1);have q3:=aK.get o3 g2;have B3:=b.old O3;have p0:ld1 (ptr h1.next 0) h3=some (.int .i64 ix,h3):=aH q3 rfl;have p1:ld1 (ptr h1.next 1) h3=some (dv,h3):=aH q3 rfl B3.cell.1;unfold wA;cases vb:iG m with
 |true=>
  rw [vb] at e3;refine ⟨h3,aI is25 rfl ((xG _ _ _ _).trans ?_),O3⟩;unfold t25;simp -implicitDefEqProofs only [b1,b2,A2.all,e3,DV,jm,show ((2:Int) != 0)=true from rfl,af,ak]
 |false=>
 rw [vb] at e3;obtain ⟨v1,v2,v3,v4,v5,v6,v7⟩:=tM vb;by_cases c0:ix<0
 ·refine ⟨h3,aI is25 rfl ((xG _ _ _ _).trans ?_),O3⟩;unfold t25;simp -implicitDefEqProofs only [b1,b2,A2.all,e3,DS,DB,jm,ED,aw,DC,p0,cx,c0,GQ,btf,aX,DV,true_or,af,ak]
 by_cases c1:m.gt<=ix
 ·refine ⟨h3,aI is25 rfl ((xG _ _ _ _).trans ?_),O3⟩;unfold t25;simp -implicitDefEqProofs only [b1,b2,A2.all,e3,DS,DB,jm,ED,aw,DC,p0,A3.l2,cx,eO,ge_iff_le,c0,c1,GQ,FA,bff,aD,DV,or_true,af,ak]
 obtain ⟨e',e69⟩:=r69 m.gk m.gs h3;have eL:aA prog .neq 3 (aj d.length) (.int .i64 (rO m.gk m.gs))=some (.bool ((d.length:Int) != rO m.gk m.gs)):=dj ..;by_cases c2:(d.length:Int)=rO m.gk m.gs
 ·obtain ⟨n,rfl⟩ : ∃ n:Nat,ix=n:=⟨ix.toNat,by omega⟩
  rw [show (Value.int .i64 (n:Int))=aj n from rfl] at p0;obtain ⟨h4,e4,o4⟩:=r70 (T.old O3) (ix:=n) (by omega) B3 hd;have hn:n<m.pieces.length:=by omega
  obtain ⟨w,hw⟩ : ∃ w,m.pieces[n]? = some w:=⟨_,DE hn⟩
  have ww:=x.wf.pieces w (D7 hw);have x4:=x3.old o4;have A4:=x4.ld (aK.get o4 (aK.get (o2.trans o3) g1));have q4:=aK.get o4 q3;have P0:ld1 (ptr h1.next 0) h4=some (aj n,h4):=aH q4 rfl;obtain ⟨bb,q,kb,hb,a1,gk,gl,gd,a2,_⟩:=x3.sl.at hn;have a1:idxS 32 v (aj n)=some (ptr bb (q+n*32)):=a1;have a2:bQ 32 (ptr bb (q+n*32)) h3=some (.agg (el 32 (m.pieces.flatMap bJ) n).toArray,h3):=a2;rw [BZ x.wf.pieces hw] at a2;obtain ⟨bb',q',kb',hb',a1',_,_,_,a2',_⟩:=x4.sl.at hn;have a1':idxS 32 v (aj n)=some (ptr bb' (q'+n*32)):=a1';rw [a1] at a1';have a2':bQ 32 (ptr bb' (q'+n*32)) h4=some (.agg (el 32 (m.pieces.flatMap bJ) n).toArray,h4):=a2';rw [BZ x.wf.pieces hw,<-Option.some.inj a1'] at a2';have eD:=(eqD32 (a:=bq n d) (tT _) ww).2;have hp:m.pieces.getD n []=w:=by rw [DK,hw];rfl
  have ck1:=dq A3.l36 x3.sl.veq;have ck2:dW true (some (aj n,h3)) (aj n)=true:=dq rfl (by simp [Abs.veq,aj]);have ck3:=dq a2 (v := .agg (bJ w).toArray) (by show Abs.veqL (bJ w).toArray.toList (bJ w).toArray.toList=true;exact (bT ww).veq);refine ⟨h4,aI is25 rfl ((xG _ _ _ _).trans ?_),O3.trans o4⟩;unfold t25;rw [Int.toNat_natCast,hp];simp -implicitDefEqProofs only [b1,b2,A2.all,e3,DS,DB,jm,ED,aw,DC,p0,A3.l2,A3.l0,A3.l3,cx,eO,ge_iff_le,c0,c1,FA,bff,aD,or_self,e69,jO,j7,p1,B3.len,eL,c2,e4,A4.l36,P0,a1,a2',eD,ck1,ck2,ck3,EJ,af,ak,ne_eq,not_true_eq_false];by_cases c3:bq n d=w
  ·simp -implicitDefEqProofs only [c3,GQ,EK,DV,af]
  ·simp -implicitDefEqProofs only [c3,FA,EG,DS,af]
 ·refine ⟨h3,aI is25 rfl ((xG _ _ _ _).trans ?_),O3⟩;have c2':((d.length:Int) != rO m.gk m.gs)=true:=by simpa using c2
  unfold t25;simp -implicitDefEqProofs only [b1,b2,A2.all,e3,DS,DB,jm,ED,aw,DC,p0,A3.l2,A3.l0,A3.l3,cx,eO,ge_iff_le,c0,c1,FA,bff,aD,or_self,e69,jO,j7,p1,B3.len,eL,c2',c2,af,ak,ne_eq,not_false_eq_true,DV]
end
section
attribute [local congr] ax
abbrev zM:List Vl:=dP
abbrev zP:List Vl := [(.int .i64 0),(.slice none 0 0)]
def q175 {h:ae} {p r:Nat} {s:Rd} (Q:nb h p r s):CD 175 [ptr r 0] h=some (aj s.l.length,h):=by obtain ⟨a,n,c,h1,h2,_⟩:=Q.ex;have hn:=(ay h2).1;subst hn;have l0:ld1 (ptr r 0) h=some (.slice a s.l.length c,h):=aH h1 rfl;refine aI is175 rfl ((t175_eq _ _ _).trans ?_);unfold t175;simp -implicitDefEqProofs only [R.eql134,av,aw,DC,l0,show cg (.slice a s.l.length c)=some (aj s.l.length) from rfl,af,ak]
def pK (l:List Nat):Nat×Rd:=Rd.fA ⟨l,0⟩ 1
def pI (l:List Nat):Nat×Rd:=(pK l).2.fA 2
def pT (l:List Nat):List Nat×Rd:=(pI l).2.text
def pD (l:List Nat):List Nat×Rd:=(pT l).2.take (pT l).2.l.length
def iD (l:List Nat):Option (dB×Nat×List Nat):=
 if (pK l).1=2/\(pD l).2.e=0/\(gj (pT l).1).2=0/\wA (gj (pT l).1).1 (pI l).1 (pD l).1=0 then some ((gj (pT l).1).1,(pI l).1,(pD l).1) else none
def is113:bE prog 113 f113 := .of (by kernel_rfl)
def res113:f113.results.toList = [.cell 2 35,.cell 3 37,.cell 4 32,.tmp 5]:=by kernel_rfl
def oQ:sK prog 35=some true:=by kernel_rfl
def agg37:sK prog 37=some true:=by kernel_rfl
def siz35:cQ prog 35=some 37:=by kernel_rfl
def siz37:cQ prog 37=some 2:=by kernel_rfl
def bldM:cN zM []=some (.agg zM.toArray):=rfl
def bldP:cN zP []=some (.agg zP.toArray):=rfl
def results113 {n:Nat} (hn:5<n) (x:Nat->Vl) {h:ae} {a b c:Vl} (e2:bQ 37 (x 2) h=some (a,h)) (e3:bQ 2 (x 3) h=some (b,h)) (e4:bQ 32 (x 4) h=some (c,h)):resultsA prog f113.results.toList (aS n x) h=some (.tuple #[a,b,c,x 5],h):=by rw [res113];simp only [resultsA,FJ,List.mapM_nil,dy,di (show 2<n by omega),di (show 3<n by omega),di (show 4<n by omega),di hn,j9 oQ siz35,j9 agg37 siz37,j9 yX yp,e2,e3,e4];rfl
def RdPost (h:ae) (o:aY) (l:List Nat):Prop:=
 ∃ g,aK h g/\match iD l with
   |none=>o=some (.tuple #[.agg zM.toArray,.agg zP.toArray,.agg (bJ z32).toArray,.bool false],g)
   |some (m,ix,d) => ∃ v dv,o=some (.tuple #[mv m v,pv ix dv,.agg (bJ (j8 m)).toArray,.bool true],g)/\fT g m v/\BS g dv d/\(∀ b,zK v=some b->h.next<=b)/\(∀ a n c,dv = .slice (some a) n c->h.next<=a.block)
def Bq (s:Rd) (n:Nat):(s.take n).1.length<=s.l.length/\(s.take n).2.l.length<=s.l.length:=by
 unfold Rd.take;split
 ·split
  ·simp only [E8,F9];omega
  ·simp
 ·simp
def text_le (s:Rd):s.text.1.length<=s.l.length:=by
 unfold Rd.text Rd.fA;have a:=Bq s 2;split
 ·split
  ·have b:=Bq (s.take 2).2 (be (s.take 2).1);exact D9 b.1 a.2
  ·simp
 ·simp
def three {h g:ae} {a b c:Nat} (o:aK h g) (ha:h.next<=a) (hb:h.next<=b) (hc:h.next<=c) (ab:a≠b) (ac:a≠c) (bc:b≠c) {k0 k1 k2:eh} {A B D:List Vl} (g0:g.get a=some k0) (g1:g.get b=some k1) (g2:g.get c=some k2)
  (l0:k0.length=37) (l1:k1.length=2) (l2:k2.length=32) (A0:A.length=37) (A1:aM A=true) (A2:Abs.noHoles A=true) (B0:B.length=2) (B1:aM B=true) (B2:Abs.noHoles B=true) (D0:D.length=32) (D1:aM D=true) (D2:Abs.noHoles D=true) :
  ∃ x y z,bI 37 (ptr a 0) (.agg A.toArray) g=some (undef,x)/\bI 2 (ptr b 0) (.agg B.toArray) x=some (undef,y)/\bI 32 (ptr c 0) (.agg D.toArray) y=some (undef,z)/\aK h z/\au g z (fun q=>q=a\/q=b\/q=c) /\
    bQ 37 (ptr a 0) z=some (.agg A.toArray,z)/\bQ 2 (ptr b 0) z=some (.agg B.toArray,z)/\bQ 32 (ptr c 0) z=some (.agg D.toArray,z)/\x.get b=some k1/\x.get c=some k2/\y.get c=some k2:=by
 have n:=h.n0_le_next;have N : ∀ {g:ae},aK h g->g.n0=h.n0:=fun o=>o.n0;obtain ⟨x,tx,kx,gx,_,nx⟩:=aN (n:=37) (k':=A) g0 (by rw [N o];omega) l0 A0 A1;have ox:=aK.bB o kx ha;have xb:=au.getE kx g1 (fun e=>ab e.symm);have xc:=au.getE kx g2 (fun e=>ac e.symm);obtain ⟨y,ty,ky,gy,_,ny⟩:=aN (n:=2) (k':=B) xb (by rw [N ox];omega) l1 B0 B1;have oy:=aK.bB ox ky hb;have yc:=au.getE ky xc (fun e=>bc e.symm);obtain ⟨z,tz,kz,gz,_,nz⟩:=aN (n:=32) (k':=D) yc (by rw [N oy];omega) l2 D0 D1;exact ⟨x,y,z,tx,ty,tz,aK.bB oy kz hc,((kx.mono (fun _ _ h => .inl h)).trans (ky.mono (fun _ _ h => .inr (.inl h)))).trans (kz.mono (fun _ _ h => .inr (.inr h))),aP (au.getE kz (au.getE ky gx ab) ac) A0 A2,aP (au.getE kz gy bc) B0 B2,aP gz D0 D2,xb,xc,yc⟩
def cv16i (n:Nat) (h:ae) (hn:n<65536):iQ .i64 (.int .u16 (n:Int)) h=some (aj n,h):=by rw [bY,bf (by omega) (by omega)]
def xP (a:Nat):aA prog .neq 155 (.int .u8 (a:Int)) (.int .u8 2)=some (.bool ((a:Int) != 2)):=dj ..
set_option maxRecDepth 100000 in
def r113 {h:ae} (T:RT h) {v:Vl} {l:List Nat} (x:BS h v l) (hl:l.length<=21000):RdPost h (CD 113 [v] h) l:=by
 obtain ⟨h1,z1,o1,g1,n1⟩:=fresh zM h;obtain ⟨h2,z2,o2,g2,n2⟩:=fresh zP h1;obtain ⟨h3,z3,o3,g3,n3⟩:=fresh (bJ z32) h2;have O3:=(o1.trans o2).trans o3;obtain ⟨a,c,rfl,sb,_⟩:=(x.old O3).ex;obtain ⟨r,h4,e4,R4,o4,lr⟩:=R.r110 (c:=c) sb hl;obtain ⟨h5,e5,R5,k5,n5⟩:=q111 (s:=⟨l,0⟩) R4;obtain ⟨h6,e6,R6,k6,n6⟩:=q168 (s:=(pK l).2) R5;have hz:=h.n0_le_next;have O4:=O3.trans o4;have N0 : ∀ {g:ae},aK h g->g.n0=h.n0:=fun o=>o.n0;have O5:aK h h5:=aK.bB O4 k5 (by omega);have O6:aK h h6:=aK.bB O5 k6 (by omega);have hr : ∀ {q:Nat},q<h3.next -> ¬q=r:=fun hq e=>by omega
 have P2:h6.get h1.next=some zP:=au.getE k6 (au.getE k5 (aK.get o4 (aK.get o3 g2)) (hr (by omega))) (hr (by omega));obtain ⟨h7,t7,k7,g7,_,n7⟩:=dr (v := .int .i64 (pI l).1) (o:=0) P2 (by rw [N0 O6];omega) (by decide) rfl rfl;have R7:nb h7 h3.next r (pI l).2:=R.IsR.keepB R6 k7 (fun b hb e=>by omega);have O7:aK h h7:=aK.bB O6 k7 (by omega);obtain ⟨a8,c8,h8,e8,s8,gs8,R8,k8,f8⟩:=q174 R7;have O8:aK h h8:=aK.bB O7 k8 (by omega);have l8:(pI l).2.text.1.length<=21000:=by have:=text_le (pI l).2;have:=R7.len;omega
 obtain ⟨v9,h9,e9,o9,w9,S9,f9⟩:=q173 (c:=c8) s8 l8;have O9:=O8.trans o9;have P1:h9.get h.next=some zM:=aK.get o9 (au.getE k8 (au.getE k7 (au.getE k6 (au.getE k5 (aK.get o4 (aK.get o3 (aK.get o2 g1))) (hr (by omega))) (hr (by omega))) (by omega)) (hr (by omega)));have X9:fT h9 (gj (pT l).1).1 v9:=⟨S9,w9⟩
 obtain ⟨h10,t10,k10,g10,_,n10⟩:=aN (n:=37) (k':=cR (gj (pT l).1).1 v9) P1 (by rw [N0 O9];omega) rfl X9.ok.1 X9.ok.2.2;have R10:nb h10 h3.next r (pT l).2:=R.IsR.keepB (R.IsR.keep (B:=fun _=>False) R8 o9) k10 (fun b hb e=>by omega);have O10:aK h h10:=aK.bB O9 k10 (by omega);have e10:=q175 R10;obtain ⟨a11,c11,h11,e11,s11,gs11,R11,k11,f11⟩:=q169 (n:=(pT l).2.l.length) R10;have O11:aK h h11:=aK.bB O10 k11 (by omega);have P11:h11.get h1.next=some [.int .i64 (pI l).1,.slice none 0 0]:=au.getE k11 (au.getE k10 (aK.get o9 (au.getE k8 g7 (hr (by omega)))) (by omega)) (hr (by omega));obtain ⟨h12,t12,k12,g12,_,n12⟩:=dr (v := .slice a11 (pD l).1.length c11) (o:=1) P11 (by rw [N0 O11];omega) (Nat.lt_succ_self 1) rfl rfl;have O12:aK h h12:=aK.bB O11 k12 (by omega);have q4:r<h4.next:=R.IsR.lt R4;have m8:=k8.next;have m9:=o9.next;have m11:=k11.next;have B11:BS h11 (.slice a11 (pD l).1.length c11) (pD l).1 := .of s11 (fun _=>gs11);have dl:(pD l).1.length<=21000:=by have:=(Bq (pT l).2 (pT l).2.l.length).1;have:=R10.len;unfold pD;omega
 have B12:BS h12 (.slice a11 (pD l).1.length c11) (pD l).1:=by refine .of (k12.bytes s11 fun y hy _ e => ?_) (fun _=>gs11);have:=f11 y hy;omega
 have X12:fT h12 (gj (pT l).1).1 v9:=⟨((X9.sl.keep k10 (fun b hb e=>by have:=f9 b hb;omega)).keep k11 (fun b hb e=>by have:=f9 b hb;omega)).keep k12 (fun b hb e=>by have:=f9 b hb;omega),w9⟩
 have R12:nb h12 h3.next r (pD l).2:=R.IsR.keepB R11 k12 (fun b hb e=>by omega);have G0:h12.get h.next=some (cR (gj (pT l).1).1 v9):=au.getE k12 (au.getE k11 g10 (hr (by omega))) (by omega);have G1:h12.get h1.next=some [.int .i64 (pI l).1,.slice a11 (pD l).1.length c11]:=g12;have G2:h12.get h2.next=some (bJ z32):=au.getE k12 (au.getE k11 (au.getE k10 (aK.get o9 (au.getE k8 (au.getE k7 (au.getE k6 (au.getE k5 (aK.get o4 g3) (hr (by omega))) (hr (by omega))) (by omega)) (hr (by omega)))) (by omega)) (hr (by omega))) (by omega);have A12:=X12.ld G0;have D12:bQ 2 (ptr h1.next 0) h12=some (pv (pI l).1 (.slice a11 (pD l).1.length c11),h12):=aP G1 rfl rfl;have ixl:(pI l).1<65536:=Rd.nI (R.IsR.byte R5) 2;obtain ⟨h13,e13,o13⟩:=r25 (T.old O12) X12 (ix:=((pI l).1:Nat)) (by omega) B12 (by omega);have e14:=q170 R12;have z3:cO (List.replicate 32 (.int .u8 0)) h2=some (ptr h2.next 0,h3):=z3;have cv : ∀ g,iQ .i64 (.int .u16 ((pI l).1:Int)) g=some (.int .i64 (pI l).1,g):=fun g=>cv16i _ g ixl;have e5:CD 111 [ptr r 0] h4=some (.int .u8 ((pK l).1:Nat),h5):=e5;have e6:CD 168 [ptr r 0] h5=some (.int .u16 ((pI l).1:Nat),h6):=e6;have e8:CD 174 [ptr r 0] h7=some (.slice a8 (pT l).1.length c8,h8):=e8;have e9:CD 173 [.slice a8 (pT l).1.length c8] h8=some (.tuple #[mv (gj (pT l).1).1 v9,.int .i64 (gj (pT l).1).2],h9):=e9;have e11:CD 169 [ptr r 0,aj (pT l).2.l.length] h10=some (.slice a11 (pD l).1.length c11,h11):=e11;have e14:CD 170 [ptr r 0] h12=some (.int .i64 (pD l).2.e,h12):=e14;have z32l:(bJ z32).length=32:=rfl;have bad : ∀ {g:ae},aK h12 g->iD l=none->(∀ x y z,bI 37 (ptr h.next 0) (.agg zM.toArray) g=some (undef,x)->bI 2 (ptr h1.next 0) (.agg zP.toArray) x=some (undef,y)->bI 32 (ptr h2.next 0) (.agg (bJ z32).toArray) y=some (undef,z) ->
   bQ 37 (ptr h.next 0) z=some (.agg zM.toArray,z)->bQ 2 (ptr h1.next 0) z=some (.agg zP.toArray,z)->bQ 32 (ptr h2.next 0) z=some (.agg (bJ z32).toArray,z) ->
   bQ 32 (ptr h2.next 0) g=some (.agg (bJ z32).toArray,g)->dW true (bQ 32 (ptr h2.next 0) x) (.agg (bJ z32).toArray)=true->dW true (bQ 32 (ptr h2.next 0) y) (.agg (bJ z32).toArray)=true->t113 CD (.slice a l.length c) h=some (.tuple #[.agg zM.toArray,.agg zP.toArray,.agg (bJ z32).toArray,.bool false],z))->RdPost h (CD 113 [.slice a l.length c] h) l:=by
  intro g o hn K;obtain ⟨x,y,z,s1,s2,s3,oz,_,q1,q2,q3,_,xc,yc⟩:=three (A:=zM) (B:=zP) (D:=bJ z32) (O12.trans o) (DG _) (by omega) (by omega) (by omega) (by omega) (by omega) (aK.get o G0) (aK.get o G1) (aK.get o G2) X12.ok.1 rfl rfl rfl rfl rfl rfl rfl rfl rfl (bA _).2 (bA _).1;have vz:Abs.veq (.agg (bJ z32).toArray) (.agg (bJ z32).toArray)=true:=by show Abs.veqL (bJ z32).toArray.toList (bJ z32).toArray.toList=true;exact (bT z32_d).veq
  have:=K x y z s1 s2 s3 q1 q2 q3 (aP (aK.get o G2) rfl (bA _).1) (dq (aP xc rfl (bA _).1) vz) (dq (aP yc rfl (bA _).1) vz);refine ⟨z,oz,?_⟩;rw [hn];exact aI is113 rfl ((t113_eq _ _ _).trans this)
 by_cases c0:(pK l).1=2
 ·have nk:(((pK l).1:Int) != 2)=false:=by rw [c0];rfl
  by_cases c1:(pD l).2.e=0
  ·have n1:((pD l).2.e != 0)=false:=by rw [c1];rfl
   by_cases c2:(gj (pT l).1).2=0
   ·have n2:((gj (pT l).1).2 != 0)=false:=by rw [c2];rfl
    by_cases c3:wA (gj (pT l).1).1 (pI l).1 (pD l).1=0
    ·have n3:(wA (gj (pT l).1).1 (pI l).1 (pD l).1 != 0)=false:=by rw [c3];rfl
     have X13:=X12.old o13;obtain ⟨h14,e24,o14⟩:=r24 (T.old (O12.trans o13)) X13;have O14:=(O12.trans o13).trans o14;have io:=u7 (gj (pT l).1).1;have oo:=o13.trans o14;obtain ⟨h15,t15,k15,g15,_,n15⟩:=aN (n:=32) (k':=bJ (j8 (gj (pT l).1).1)) (aK.get oo G2) (by rw [N0 O14];omega) z32l (bu io) (bA _).2;have O15:aK h h15:=aK.bB O14 k15 (by omega);have M0:h15.get h.next=_:=au.getE k15 (aK.get oo G0) (by omega);have M1:h15.get h1.next=_:=au.getE k15 (aK.get oo G1) (by omega);have on:aM [Value.int .i64 (pI l).1,.slice a11 (pD l).1.length c11]=true:=rfl;obtain ⟨x,y,z,s1,s2,s3,oz,kz,q1,q2,q3,xb,xc,yc⟩:=three (A:=cR (gj (pT l).1).1 v9) (B := [.int .i64 (pI l).1,.slice a11 (pD l).1.length c11]) (D:=bJ (j8 (gj (pT l).1).1)) O15 (DG _) (by omega) (by omega) (by omega) (by omega) (by omega) M0 M1 g15 X12.ok.1 rfl (bu io) X12.ok.1 X12.ok.2.2 X12.ok.2.1 rfl on rfl (bu io) (bA _).2 (bA _).1;have w1:bQ 37 (ptr h.next 0) h15=some (mv (gj (pT l).1).1 v9,h15):=aP M0 X12.ok.1 X12.ok.2.1;have w2:bQ 2 (ptr h1.next 0) h15=some (pv (pI l).1 (.slice a11 (pD l).1.length c11),h15):=aP M1 rfl rfl;have w3:bQ 32 (ptr h2.next 0) h15=some (.agg (bJ (j8 (gj (pT l).1).1)).toArray,h15):=aP g15 (bu io) (bA _).1;have vi:Abs.veq (.agg (bJ (j8 (gj (pT l).1).1)).toArray) (.agg (bJ (j8 (gj (pT l).1).1)).toArray)=true:=by show Abs.veqL (bJ (j8 (gj (pT l).1).1)).toArray.toList _=true;exact (bT io).veq
     have vp:Abs.veq (pv (pI l).1 (.slice a11 (pD l).1.length c11)) (pv (pI l).1 (.slice a11 (pD l).1.length c11))=true:=by simp [Abs.veq,Abs.veqL]
     have w4:=dq (aP (n:=2) xb rfl rfl) vp;have w5:=dq (aP (n:=32) xc (bu io) (bA _).1) vi;have w6:=dq (aP (n:=32) yc (bu io) (bA _).1) vi;have p13:bQ 37 (ptr h.next 0) h13=some (mv (gj (pT l).1).1 v9,h13):=aP (aK.get o13 G0) X12.ok.1 X12.ok.2.1;have s1:bI 37 (ptr h.next 0) (mv (gj (pT l).1).1 v9) h15=some (undef,x):=s1;have s2:bI 2 (ptr h1.next 0) (pv (pI l).1 (.slice a11 (pD l).1.length c11)) x=some (undef,y):=s2;refine ⟨z,oz,?_⟩;have hp:iD l=some ((gj (pT l).1).1,(pI l).1,(pD l).1):=by unfold iD;rw [DH ⟨c0,c1,c2,c3⟩]
     rw [hp];have kk : ∀ {b:Nat},h3.next<=b->b<h12.next -> ¬(b=h.next\/b=h1.next\/b=h2.next):=fun a b=>by omega
     refine ⟨v9,.slice a11 (pD l).1.length c11,aI is113 rfl ((t113_eq _ _ _).trans ?_),⟨((X13.sl.keep o14 (fun _ _ h=>h)).keep k15 (fun b hb e=>by have:=f9 b hb;omega)).keep kz (fun b hb e=>by have:=f9 b hb;omega),w9⟩,?_,fun b hb=>by have:=f9 b hb;omega,fun a n c e=>by cases e;have:=f11 _ rfl;omega⟩
     ·unfold t113;simp -implicitDefEqProofs only [z1,z2,z3,e4,e5,e6,cv,aw,DC,t7,e8,e9,jO,j7,t10,e10,e11,t12,xP,nk,bff,aD,DS,DB,e14,jm,n1,n2,n3,A12.all,D12,e13,p13,e24,t15,w1,w2,w3,s1,s2,s3,w4,w5,w6,EJ,af,ak];refine results113 (n:=56) (by decide) _ ?_ ?_ ?_<;>assumption
     ·refine .of (kz.bytes (k15.bytes (aK.bytes oo (k12.bytes s11 fun y hy _ e => ?_)) fun y hy _ e => ?_) fun y hy _ e => ?_) (fun _=>gs11);all_goals have:=f11 y hy;omega
    ·refine bad o13 (by unfold iD;rw [DL (fun q=>c3 q.2.2.2)]) fun x y z s1 s2 s3 q1 q2 q3 w1 w2 w3 => ?_;have n3:(wA (gj (pT l).1).1 (pI l).1 (pD l).1 != 0)=true:=by rw [H4];exact c3
     unfold t113;simp -implicitDefEqProofs only [z1,z2,z3,e4,e5,e6,cv,aw,DC,t7,e8,e9,jO,j7,t10,e10,e11,t12,xP,nk,bff,aD,DS,DB,e14,jm,n1,n2,n3,A12.all,D12,e13,DV,bldM,bldP,s1,s2,s3,w1,w2,w3,EJ,af,ak];refine results113 (n:=56) (by decide) _ ?_ ?_ ?_<;>assumption
   ·refine bad (au.refl _ _) (by unfold iD;rw [DL (fun q=>c2 q.2.2.1)]) fun x y z s1 s2 s3 q1 q2 q3 w1 w2 w3 => ?_;have n2:((gj (pT l).1).2 != 0)=true:=by rw [H4];exact c2
    unfold t113;simp -implicitDefEqProofs only [z1,z2,z3,e4,e5,e6,cv,aw,DC,t7,e8,e9,jO,j7,t10,e10,e11,t12,xP,nk,bff,btf,aD,aX,DS,DB,e14,jm,n1,n2,DV,bldM,bldP,s1,s2,s3,w1,w2,w3,EJ,af,ak];refine results113 (n:=56) (by decide) _ ?_ ?_ ?_<;>assumption
  ·refine bad (au.refl _ _) (by unfold iD;rw [DL (fun q=>c1 q.2.1)]) fun x y z s1 s2 s3 q1 q2 q3 w1 w2 w3 => ?_;have n1:((pD l).2.e != 0)=true:=by rw [H4];exact c1
   unfold t113;simp -implicitDefEqProofs only [z1,z2,z3,e4,e5,e6,cv,aw,DC,t7,e8,e9,jO,j7,t10,e10,e11,t12,xP,nk,bff,btf,aD,aX,DS,DB,e14,jm,n1,DV,bldM,bldP,s1,s2,s3,w1,w2,w3,EJ,af,ak];refine results113 (n:=56) (by decide) _ ?_ ?_ ?_<;>assumption
 ·refine bad (au.refl _ _) (by unfold iD;rw [DL (fun q=>c0 q.1)]) fun x y z s1 s2 s3 q1 q2 q3 w1 w2 w3 => ?_;have nk:(((pK l).1:Int) != 2)=true:=by rw [H4];omega
  unfold t113;simp -implicitDefEqProofs only [z1,z2,z3,e4,e5,e6,cv,aw,DC,t7,e8,e9,jO,j7,t10,e10,e11,t12,xP,nk,btf,aX,DV,bldM,bldP,s1,s2,s3,w1,w2,w3,EJ,af,ak];refine results113 (n:=56) (by decide) _ ?_ ?_ ?_<;>assumption
end
section
attribute [local congr] ax
def fG (m:dB) (ix:Nat) (d:List Nat):List Nat:=ej 1 2++ej 2 ix++ej 2 (dF m).length++dF m++d
def recI (k:Nat) (id:List Nat):List Nat:=k::id
def fV (v:Nat):List Nat:=ej 1 1++ej 8 v
def is74:bE prog 74 f74 := .of (by kernel_rfl)
def is61:bE prog 61 f61 := .of (by kernel_rfl)
structure NS (h g:ae) (v:Vl) (l:List Nat):Prop where
 bs:BS g v l
 new : ∀ a n c,v = .slice (some a) n c->h.next<=a.block
def r74 (h:ae) {v:Nat} (hv:v<18446744073709551616) : ∃ w g,CD 74 [.int .u64 (v:Int)] h=some (w,g)/\aK h g/\NS h g w (fV v):=by
 obtain ⟨h1,e1,W1,k1⟩:=r116 h (lim:=9) (by omega);obtain ⟨h2,e2,W2,k2⟩:=r117 W1 (v:=1) (by decide) (by decide);obtain ⟨h3,e3,W3,k3⟩:=r133 W2 (v:=v) (by simp only [DO,aQ,List.length_nil];omega) hv;have lw:([]++ej 1 1++ej 8 v).length=9:=by simp only [DO,aQ,List.length_nil]
 obtain ⟨a,c,g,e4,s4,g4,o4,f4⟩:=r121 W3 (by rw [lw];omega);have e1:CD 116 [.int .i64 9] h=some (ptr h.next 0,h1):=e1;have e2:CD 117 [ptr h.next 0,.int .u8 1] h1=some (.tuple #[],h2):=e2;have K:=(k1.trans k2).trans k3;refine ⟨_,g,aI is74 rfl ((t74_eq _ _ _).trans ?_),(uG.of_old (au.refl _ _) K (DG _)).trans o4,.of s4 (fun _=>g4),fun x n c e=>by cases e;have:=f4 _ rfl;have:=K.next;omega⟩;unfold t74;simp -implicitDefEqProofs only [e1,e2,e3,e4,jO,j7,af,ak]
def r61 {h:ae} {m:dB} {v:Vl} (x:fT h m v) (vb:iG m=false) {ix:Nat} (hix:ix<65536) {dv:Vl} {d:List Nat} (b:BS h dv d) (hd:d.length<=8192) :
  ∃ w g,CD 61 [mv m v,pv ix dv] h=some (w,g)/\aK h g/\NS h g w (fG m ix d):=by
 obtain ⟨h1,b1,o1,g1,A,x1,n1⟩:=x.box;obtain ⟨h2,b2,o2,g2,n2⟩:=pbox ix (b.old o1);have A2:=(x1.old o2).ld (aK.get o2 g1);obtain ⟨w3,h3,e3,o3,bw⟩:=r66 (x1.old o2);rw [vb] at e3 bw;simp only [DB,DS] at e3 bw;have O3:=(o1.trans o2).trans o3;have el:=lI x.wf;have pl:m.pieces.length<=255:=by have:=tM vb;omega
 obtain ⟨h4,e4,W4,k4⟩:=r116 h3 (lim:=20000) (by omega);obtain ⟨h5,e5,W5,k5⟩:=r117 W4 (v:=2) (by decide) (by decide);obtain ⟨h6,e6,W6,k6⟩:=r118 W5 (v:=ix) (by simp only [DO,aQ,List.length_nil];omega) hix;have K6:=(k4.trans k5).trans k6;obtain ⟨a,c,rfl,s3,gs3⟩:=bw.ex;have lt3:=bw.lt;have s6:ao a (dF m).length h6=some (dF m):=K6.bytes s3 (fun y hy hn=>by subst hy;have:=lt3 _ _ _ _ rfl rfl hn;omega);obtain ⟨h7,e7,W7,k7⟩:=r119 W6 (c:=c) s6 (fun y hy hn=>by subst hy;exact lt3 _ _ _ _ rfl rfl hn) (by simp only [DO,aQ,List.length_nil];omega) (by omega);have K7:=K6.trans k7;obtain ⟨a8,c8,rfl,s8,gs8⟩:=b.ex;have lt8:=(b.old O3).lt;have s7:ao a8 d.length h7=some d:=K7.bytes (aK.bytes O3 s8) (fun y hy hn=>by subst hy;have:=lt8 _ _ _ _ rfl rfl hn;omega);obtain ⟨h8,e8,W8,k8⟩:=r120 W7 (c:=c8) s7 (by simp only [DO,aQ,List.length_nil];omega);have K8:=K7.trans k8;have hr : []++ej 1 2++ej 2 ix++ej 2 (dF m).length++dF m++d=fG m ix d:=by unfold fG;rw [List.nil_append]
 rw [hr] at W8;obtain ⟨a9,c9,g,e9,s9,g9,o9,f9⟩:=r121 W8 (by simp only [fG,DO,aQ];omega);have q3 : ∀ {g:ae},uG h3.next h3 g->g.get h1.next=some [.int .i64 ix,.slice a8 d.length c8]:=fun k=>k.getE (aK.get o3 g2) (by have:=o3.next;omega);have p0:ld1 (ptr h1.next 0) h5=some (aj ix,h5):=aH (q3 (k4.trans k5)) rfl;have p1:ld1 (ptr h1.next 1) h7=some (.slice a8 d.length c8,h7):=aH (q3 K7) rfl;have e4:CD 116 [.int .i64 20000] h3=some (ptr h3.next 0,h4):=e4;have e5:CD 117 [ptr h3.next 0,.int .u8 2] h4=some (.tuple #[],h5):=e5;have cv:iQ .u16 (aj ix) h5=some (.int .u16 (ix:Int),h5):=by unfold aj;rw [bY,tw (by omega) (by omega)]
 refine ⟨.slice a9 (fG m ix d).length c9,g,aI is61 rfl ((t61_eq _ _ _ _).trans ?_),(uG.of_old O3 K8 O3.next).trans o9,?_,fun x n c e=>by cases e;have:=f9 _ rfl;have:=K8.next;have:=O3.next;omega⟩
 ·unfold t61;simp -implicitDefEqProofs only [b1,b2,A2.all,e3,jO,j7,e4,e5,aw,DC,p0,cv,e6,e7,p1,e8,e9,af,ak]
 ·exact .of s9 (fun _=>g9)
end
end
end Go.Proofs.YtdhpgacmgebjdaaGreatDoor.W
