/-
  A part of the proof, shortened by a program.
  Conditions: as each theorem states.
-/
import Derived.Test.YtdhpgacmgebjdaaGreatDoorG24
set_option linter.all false
namespace Go.Proofs.YtdhpgacmgebjdaaGreatDoor.W
open Go Go.Abs Tryz
noncomputable section
section
variable (C:ah) (x:Nat->Vl) (x0 x1 x2 x3 x4 x5:Vl) (h:ae)
def t134 (C:ah) (x0:Vl) (h:ae):aY:=
 aa (box x0 h) fun a h=>
 aa (some (.nilFunc,h)) fun d h=>
 aa (some (.func (.func 188) #[] #[a],h)) fun b h=>
 aa (some (b,h)) fun c h=>
 some (c,h)
def t134_eq:aV prog C f134 [x0] h=t134 C x0 h:=
 lkT (by kernel_rfl) (by kernel_rfl)
def BG (C:ah) (e:aO) (h:ae):aY:=codeK prog C (aq f212 [1,1]) e h (resultsA prog f212.results.toList) (resultsA prog f212.results.toList) (fun _ _ _=>none)
def b212_3 (C:ah) (i:Nat) (e:aO) (h:ae):aY:=if i=0 then (BG C) e h else (fun _ _ _=>none) i e h
def t212 (C:ah) (x0 x1:Vl) (h:ae):aY:=
 aa (box x0 h) fun a h=>
 aa (some ((.slice none 0 0),h)) fun b h=>
 aa (some (x1,h)) fun c h=>
 endN (codeA prog C (aq f212 [1,0,1,0]) (aS 13 (up (bs [x0,x1]) [(2,a),(4,b),(6,c)])) h) (BG C) (resultsA prog f212.results.toList) (b212_3 C)
def sF (C:ah) (x:Nat->Vl) (h:ae):aY:=
 aa (ld1 (x 2) h) fun a h=>
 aa (some (a,h)) fun b h=>
 some (b,h)
def kS (C:ah) (x:Nat->Vl) (h:ae):Option (Ex×aO×ae):=
 aa (cO (List.replicate 32 (.int .u8 0)) h) fun a h=>
 aa (bI 32 a (x 7) h) fun _ h=>
 some (.normal,(aS 13 (up x [(5,a)])),h)
def kU (C:ah) (x:Nat->Vl) (h:ae):Option (Ex×aO×ae):=
 aa (ld1 (x 2) h) fun a h=>
 aa (bQ 32 (x 5) h) fun b h=>
 aa (gK 32 (.agg (List.replicate 32 (.int .u8 0)).toArray) 1 [(0,b)] h) fun c h=>
 aa (appendA 32 32 a c h) fun d h=>
 aa (bI 1 (x 2) d h) fun _ h=>
 some (.normal,(aS 13 (up x [(8,a),(9,b),(10,c),(11,d)])),h)
def t212_eq:aV prog C f212 [x0,x1] h=t212 C x0 x1 h:=
 lkT (by kernel_rfl) (by kernel_rfl)
def Ai:BG C (aS 13 x) h=sF C x h:=
 bg (T:=sF C) (fun x h=>by kernel_rfl) x h
def tF:codeA prog C (BA (aq f212 [1,0,1,0])) (aS 13 x) h=kS C x h:=
 aW (T:=kS C) (fun x h=>by kernel_rfl) x h
def tV:codeA prog C (Bs (aq f212 [1,0,1,0])) (aS 13 x) h=kU C x h:=
 aW (T:=kU C) (fun x h=>by kernel_rfl) x h
end
end
end Go.Proofs.YtdhpgacmgebjdaaGreatDoor.W
namespace Go.Proofs.YtdhpgacmgebjdaaGreatDoor.W
open Go Go.Abs
open Go.Lib (compareBytes)
open Go.Sort (flatK size_flatK get_flatK)
noncomputable section
section
attribute [local congr] ax
def cmpD (a b:List Nat):Int:=compareBytes (a.map UInt8.ofNat) (b.map UInt8.ofNat)
def vF : ∀ {l:List Nat},(l.map u8).mapM asByte=some (l.map UInt8.ofNat)
 | []=>rfl
 |n::l=>by have ih:=vF (l:=l);rw [FD,FJ,ih];rfl
def dig_box {d:List Nat} (w:fO d) (h:ae) : ∃ g,box (.agg (bJ d).toArray) h=some (ptr h.next 0,g)/\aK h g/\g.get h.next=some (bJ d)/\g.next=h.next+1:=
 ⟨_,lC h (bJ d) (AF w).2.2,au.alloc _ _ _,by rw [ae.aZ,DH rfl],rfl⟩
abbrev DgW:={ d:List Nat // fO d }
instance:Inhabited DgW:=⟨⟨List.replicate 32 0,rfl,fun x hx=>by have:=ES hx;omega⟩⟩
end
end
end Go.Proofs.YtdhpgacmgebjdaaGreatDoor.W
namespace Go.Proofs.YtdhpgacmgebjdaaGreatDoor.W
open Go Go.Abs
open Go.Sort (flatK size_flatK get_flatK)
noncomputable section
end
end Go.Proofs.YtdhpgacmgebjdaaGreatDoor.W
namespace Go.Proofs.YtdhpgacmgebjdaaGreatDoor.W
open Go Go.Abs
noncomputable section
end
end Go.Proofs.YtdhpgacmgebjdaaGreatDoor.W
namespace Go.Proofs.YtdhpgacmgebjdaaGreatDoor.W
open Go Go.Abs Tryz R
noncomputable section
section
attribute [local congr] ax
def fs_256:256<prog.funcs.size:=EH (by kernel_rfl)
abbrev kV (d:List Nat):Vl := .agg (bJ d).toArray
def ok212:codeOk prog (BA (aq f212 [1,0,1,0]))=true/\codeOk prog (Bs (aq f212 [1,0,1,0]))=true:=⟨by kernel_rfl,by kernel_rfl⟩
structure Acc (g:ae) (N B:Nat) (sv:Vl) (ds:List (List Nat)):Prop where
 box:g.get B=some [sv]
 hB:N<=B
 own:cG g N 32 sv ds.length (ds.flatMap bJ)
 d : ∀ x∈ds,fO x
 z:ds = []->sv = .slice none 0 0
def Acc.sl {g:ae} {N B:Nat} {sv:Vl} {ds:List (List Nat)} (a:Acc g N B sv ds):nC g iT sv ds.length (ds.flatMap bJ):=lF (ks:=iT) a.own (dM (P:=fO) (fun x hx=>bT hx) _ a.d)
def round_push {C:ah} {g:ae} {N L B:Nat} {x0:Nat->Vl} {sv:Vl} {ds:List (List Nat)} {d:List Nat} (x:Ad g L (aS 13 x0) [7] (BA (aq f212 [1,0,1,0])) (Bs (aq f212 [1,0,1,0]))) (x2:x0 2=ptr B 0) (a:Acc g N B sv ds) (w:fO d) (hN:g.n0<=N) (hn:N<=g.next) (hl:ds.length<=1000000) :
  ∃ g' sv',roundA prog C L [kV d] g=some (.bool true,g')/\Ad g' L (aS 13 x0) [7] (BA (aq f212 [1,0,1,0])) (Bs (aq f212 [1,0,1,0]))/\Acc g' N B sv' (ds ++ [d])/\au g g' (fun c=>c=L\/c=B\/(cF sv=some c/\g.get c=some (ds.flatMap bJ))):=by
 have hpa:iq (aS 13 x0) ([7].zip [kV d])=aS 13 (up x0 [(7,kV d)]):=mkF_set 13 x0 7 (kV d);obtain ⟨h1,z1,o1,g1,n1⟩:=fresh (List.replicate 32 (.int .u8 0)) g;obtain ⟨h2,t2,k2,g2,p2,n2⟩:=aN (n:=32) (k':=bJ d) g1 (by rw [o1.n0];exact g.n0_le_next) rfl (bu w) (bA _).2;have K2:au g h2 (fun _=>False):=o1.also k2 (fun c hc q=>by subst q;omega);have ha:codeA prog C (BA (aq f212 [1,0,1,0])) (iq (aS 13 x0) ([7].zip [kV d])) g=some (.normal,aS 13 (up (up x0 [(7,kV d)]) [(5,ptr g.next 0)]),h2):=by rw [hpa,tF];unfold kS;simp -implicitDefEqProofs only [z1,show up x0 [(7,kV d)] 7=kV d from rfl,t2,af]
 have yL:Ad h2 L (aS 13 x0) [7] (BA (aq f212 [1,0,1,0])) (Bs (aq f212 [1,0,1,0])):=x.keep K2 (fun q=>q);have hLB:L≠B:=fun q=>by have h1:g.getB L=some (.obj _):=x;rw [q,g.aJ a.box] at h1;cases h1
 have nL:g.n0<=L:=g.bS x;generalize hh3:h2.setO L (.loop .busy none (aS 13 x0) [7] (BA (aq f212 [1,0,1,0])) (Bs (aq f212 [1,0,1,0])))=h3;have k3:au h2 h3 (· = L):=by rw [<-hh3];exact au.setO yL rfl
 have nx3:h3.next=h2.next:=by rw [<-hh3];rfl
 have hLn:L≠g.next:=fun q=>by have:=g.lt_of_getB x;omega
 have B3:h3.get B=some [sv]:=k3.getE (K2.getE a.box (fun q=>q)) (fun q=>hLB q.symm);have C3:h3.get g.next=some (bJ d):=k3.getE g2 (fun q=>hLn q.symm);have hcell:bW sv=false/\sv.oneCell'=true/\sv.cells = #[sv]:=dZ a.sl;have l1:ld1 (ptr B 0) h3=some (sv,h3):=aH B3 rfl hcell.1;have l2:bQ 32 (ptr g.next 0) h3=some (kV d,h3):=aP C3 (bu w) (bA _).1;have hbs:=CP (n:=32) (z:=List.replicate 32 (.int .u8 0)) h3 rfl rfl (by decide) (by decide) (bu w) (bA d).2;have oa:aK h3 (h3.alloc (bJ d)):=au.alloc _ _ _;have ga:(h3.alloc (bJ d)).get h3.next=some (bJ d):=by rw [ae.aZ,DH rfl]
 generalize h3.alloc (bJ d)=h4 at *;have S:=slice1 (s:=none) ga (bT w);have K4:au g h4 (fun c=>c=L):=((K2.mono (fun _ _ q=>q.elim)).trans k3).trans (oa.mono (fun _ _ q=>q.elim));have hLbase : ∀ b,cF sv=some b->g.get b≠none->b≠L:=fun b hb hg q=>by
  subst q;have h1:g.getB b=some (.obj _):=x;rcases hgg:g.get b with _|k
  ·exact hg hgg
  ·rw [g.aJ hgg] at h1;cases h1
 have O4:cG h4 N 32 sv ds.length (ds.flatMap bJ):=by
  obtain ⟨h1,h2,h3,h4'⟩:=a.own;refine ⟨h1,h2,h3,?_⟩;rcases h4' with h4'|⟨b,s,e,h5,h6|⟨h6,h7⟩⟩
  ·exact .inl h4'
  ·exact .inr ⟨b,s,e,h5,.inl h6⟩
  ·exact .inr ⟨b,s,e,h5,.inr ⟨h6,K4.getE h7 (hLbase b (by rw [e];rfl) (by rw [h7];exact fun q=>by cases q))⟩⟩
 obtain ⟨sv',h5,e5,O5,k5,_⟩:=iK (by_:=32) O4 (by rw [K4.n0];exact hN) (D9 hn K4.next) (by decide) S.slice (S.first (by decide)) (bA d).2 (bA d).1 (by rw [bu w]) (by omega) (by omega);have B4:=aK.get oa B3;have hcB : ∀ c,cF sv=some c/\h4.get c=some (ds.flatMap bJ)->c≠B:=by
  rintro c ⟨_,q2⟩ rfl;rw [B4] at q2;injection q2 with q2
  have:=FP List.length q2;have hm:=a.own.1;rw [List.length_singleton] at this;omega
 have B5:h5.get B=some [sv]:=k5.getE B4 (fun q=>hcB B q rfl);have D5 : ∀ q∈ds ++ [d],fO q:=fun q hq=>by
  rcases D8.1 hq with hq|hq
  ·exact a.d q hq
  ·rw [FB.1 hq];exact w
 have O5':cG h5 N 32 sv' (ds ++ [d]).length ((ds ++ [d]).flatMap bJ):=by rw [GR,DO];simpa using O5
 have hcell':bW sv'=false/\sv'.oneCell'=true/\sv'.cells = #[sv']:=dZ (lF (ks:=iT) O5' (dM (P:=fO) (fun x hx=>bT hx) _ D5));have n05:h5.n0<=B:=by rw [k5.n0,K4.n0];exact D9 hN a.hB
 obtain ⟨h6,e6,k6,B6,_,n6⟩:=dr (v:=sv') (o:=0) B5 n05 (by rw [List.length_singleton];exact Nat.zero_lt_one) hcell'.2.2 hcell'.2.1;have hb:codeA prog C (Bs (aq f212 [1,0,1,0])) (aS 13 (up (up x0 [(7,kV d)]) [(5,ptr g.next 0)])) h3=some (.normal,aS 13 (up (up (up x0 [(7,kV d)]) [(5,ptr g.next 0)]) [(8,sv),(9,kV d),(10,.slice (some ⟨h3.next,0,none⟩) 1 1),(11,sv')]),h6):=by rw [tV];unfold kU;simp -implicitDefEqProofs only [show up (up x0 [(7,kV d)]) [(5,ptr g.next 0)] 2=x0 2 from rfl,show up (up x0 [(7,kV d)]) [(5,ptr g.next 0)] 5=ptr g.next 0 from rfl,x2,l1,l2,hbs,e5,e6,af]
 have hLc : ∀ c,cF sv=some c/\h4.get c=some (ds.flatMap bJ)->c≠L:=by rintro c ⟨_,q2⟩ rfl;have h1:h4.getB c=some (.obj (.loop .busy none (aS 13 x0) [7] (BA (aq f212 [1,0,1,0])) (Bs (aq f212 [1,0,1,0])))):=au.obj oa (by rw [<-hh3];exact ae.fh (h2.bS yL) yL _) (fun q=>q);rw [h4.aJ q2] at h1;cases h1
 let BB:Nat->Prop:=fun c=>c≠L/\(c=B\/(cF sv=some c/\h4.get c=some (ds.flatMap bJ)))
 have kb:au h3 h6 BB:=((oa.mono (fun _ _ q=>q.elim)).trans (k5.mono (fun c _ q=>⟨hLc c q,.inr q⟩))).trans (k6.mono (fun c _ q=>⟨by rw [q];exact fun z=>hLB z.symm,.inl q⟩));obtain ⟨g',er,lr,nx,n0,ge,gb⟩:=x.round (by rfl) ok212.1 ok212.2 ha (K2.mono (B:=fun _=>False) (B':=BB) (fun _ _ q=>q.elim)) (fun q=>q.1 rfl) (by rw [hh3];exact hb) (by rw [hh3];exact kb);have kg:au h6 g' (· = L):=⟨by rw [n0,kb.n0,k3.n0,K2.n0],by rw [nx];exact DG _,fun c _ hc=>gb c hc⟩
 refine ⟨g',sv',er,lr,⟨by rw [ge];exact B6,a.hB,?_,D5,fun q=>by simp at q⟩,?_⟩
 ·obtain ⟨h1,h2,h3,h4'⟩:=O5';refine ⟨h1,h2,h3,?_⟩;rcases h4' with h4'|⟨b,s,e,h5,h6|⟨h6,h7⟩⟩
  ·exact .inl h4'
  ·exact .inr ⟨b,s,e,h5,.inl h6⟩
  ·refine .inr ⟨b,s,e,h5,.inr ⟨h6,?_⟩⟩;rw [ge];refine k6.getE h7 (fun q => ?_);subst q;rw [B5] at h7;injection h7 with h7
   have:=FP List.length h7;rw [List.length_singleton,h1] at this;omega
 ·have kk:au g g' (fun c=>c=L\/c=B\/(cF sv=some c/\h4.get c=some (ds.flatMap bJ))):=((((K2.mono (fun _ _ q=>q.elim)).trans (k3.mono (fun c _ q => .inl q))).trans (kb.mono (fun c _ q => .inr q.2))).trans (kg.mono (fun c _ q => .inl q)))
  refine ⟨kk.n0,kk.next,fun c hc hn=>kk.getB c hc fun q=>hn ?_⟩;by_cases hcL:c=L
  ·exact .inl hcL
  ·rcases q with q|q|⟨q1,q2⟩
   ·exact .inl q
   ·exact .inr (.inl q)
   ·refine .inr (.inr ⟨q1,?_⟩);have h1:=K4.getB c hc hcL;rw [h4.aJ q2] at h1;exact g.get_of_getB h1.symm
end
section
attribute [local congr] ax
def KeysD (es:List (Vl×Vl×Nat)):Prop := ∀ e∈es,∃ d,fO d/\e.1=kV d
def xr {h:ae} {b:Nat} {o:fF} {k:BB} (hb:h.n0<=b) (hg:h.getB b=some k):(h.setO b o).getB b=some (.obj o):=by unfold ae.setO;rw [h.fc hb (h.lt_of_getB hg),DH rfl]
def is186:bE prog 186 f186 := .of (by kernel_rfl)
def is188:bE prog 188 f188 := .of (by kernel_rfl)
end
section
attribute [local congr] ax
def leD (a b:List Nat):Bool := !decide (cmpD b a<0)
def sortD (L:List (List Nat)):List (List Nat):=L.mergeSort leD
def is212:bE prog 212 f212 := .of (by kernel_rfl)
end
end
end Go.Proofs.YtdhpgacmgebjdaaGreatDoor.W
namespace Go.Proofs.YtdhpgacmgebjdaaGreatDoor.W
open Go Go.Abs
noncomputable section
end
end Go.Proofs.YtdhpgacmgebjdaaGreatDoor.W
namespace Go.Proofs.YtdhpgacmgebjdaaGreatDoor.W
open Go Go.Abs Tryz R
noncomputable section
section
attribute [local congr] ax
def is184:bE prog 184 f184 := .of (by kernel_rfl)
def is125:bE prog 125 f125 := .of (by kernel_rfl)
def is64:bE prog 64 f64 := .of (by kernel_rfl)
def is80:bE prog 80 f80 := .of (by kernel_rfl)
def is134':bE prog 134 f134 := .of (by kernel_rfl)
structure MapS (h:ae) (mb:Nat) (es:List (Vl×Vl×Nat)) (ck:Nat):Prop where
 g:MapG h mb es ck
 k:KeysD es
 l:es.length<=1000000
 nd:(es.map (·.1)).Nodup
def srtOut (h:ae) (L:List (List Nat)):Vl×ae:=if L = [] then (.slice none 0 0,h) else (.slice (some ⟨h.next,0,some 32⟩) L.length L.length,h.alloc (L.flatMap bJ))
open Classical in
def sSrt (args:List Vl) (h:ae):aY:=
 if x : ∃ mb es ck,∃ ds:List (List Nat),args = [.map (some mb)]/\MapS h mb es ck/\(∀ d∈ds,fO d)/\es.map (·.1)=ds.map kV then some (srtOut h (sortD x.choose_spec.choose_spec.choose_spec.choose)) else none
end
def eqA_d {a b:List Nat} (wa:fO a) (wb:fO b):eqA prog 32 (kV a) (kV b)=some (decide (a=b)):=by
 obtain ⟨r,hr,hrun⟩:=dig_run (d:=9998) (bT wa) (bT wb);have hr':r=decide (a=b):=by
  by_cases e:a=b
  ·rw [DN e,hr.2 (by rw [e])]
  ·rw [DW e];cases r with
   |false=>rfl
   |true=>exact absurd (u8_inj (hr.1 rfl)) e
 rw [<-hr'];unfold eqA;rw [DH (by rw [kX (bT wa).all.2.2,kX (bT wb).all.2.2];rfl)];exact hrun
def agg5:sK prog 5=some false:=by kernel_rfl
def key_ok {d:List Nat} (w:fO d):(keyOk prog 10000 32 (kV d)&&ground (kV d))=true:=by
 rw [show ground (kV d)=true from kX (bT w).all.2.2,EJ];have l1:=bu w;have h5 : ∀ (n:Nat) (v:Vl),keyOk prog (n+1) 5 v=true:=fun n v=>by unfold keyOk;simp only [Tryz.underlying5]
 unfold keyOk;simp only [Tryz.underlying32,size1];rw [DQ];intro i hi;have hi:i<32:=by simpa using hi
 unfold pk;simp only [agg5,size1,FG];rw [List.getElem?_toArray,DE (by omega)];exact h5 _ _
def key_bits {d:List Nat}:Instr.sameBits 10000 (kV d) (kV d)=true:=by
 show ((bJ d).toArray.size==(bJ d).toArray.size&&((bJ d).zip (bJ d)).all fun (x,y)=>Instr.sameBits 9999 x y)=true;rw [DP,EU,DQ];rintro ⟨x,y⟩ hm;have hxy:x=y/\x∈bJ d:=by obtain ⟨i,hi⟩:=H3.1 hm;rw [HQ] at hi;have h1:=hi.1;have h2:=hi.2;simp only at h1 h2;rw [h1] at h2;cases h2;exact ⟨rfl,D7 h1⟩
 obtain ⟨rfl,hx⟩:=hxy;obtain ⟨n,_,rfl⟩:=EZ.1 hx;show Instr.sameBits 9999 (u8 n) (u8 n)=true;simp [u8,Instr.sameBits]
abbrev DM (α:Type):=List (List Nat×α)
def DM.get {α:Type} (M:DM α) (k:List Nat):Option α:=(M.find? fun p=>decide (k=p.1)).map (·.2)
def DM.ix {α:Type}:DM α->List Nat->Option Nat
 | [],_=>none
 |p::M,k=>if k=p.1 then some 0 else (DM.ix M k).map (· + 1)
def DM.put {α:Type} (M:DM α) (k:List Nat) (a:α):DM α:=match M.ix k with|some i=>M.set i (k,a)|none=>M ++ [(k,a)]
def DM.del {α:Type} (M:DM α) (k:List Nat):DM α:=match M.ix k with|some i=>M.eraseIdx i|none=>M
structure ij {α:Type} (V:α->Vl) (h:ae) (mb:Nat) (M:DM α):Prop where
 ex : ∃ es ck,MapG h mb es ck/\es.map (fun e=>(e.1,e.2.1))=M.map fun p=>(kV p.1,V p.2)
 w : ∀ p∈M,fO p.1
 nd:(M.map (·.1)).Nodup
def DM.tL {α:Type} {k:List Nat} : ∀ {M:DM α} {i:Nat},M.ix k=some i -> ∃ hi:i<M.length,k=M[i].1/\M.get k=some M[i].2
 | [],i,h=>by cases h
 |p::M,i,h=>by
  unfold DM.ix at h;by_cases e:k=p.1
  ·rw [DH e] at h;cases h;exact ⟨by simp,e,by unfold DM.get;rw [List.find?_cons_of_pos (by simpa using e)];rfl⟩
  ·rw [DL e] at h;cases hq:DM.ix M k with
   |none=>rw [hq] at h;cases h
   |some j=>
    rw [hq] at h;cases h;obtain ⟨hj,h1,h2⟩:=DM.tL hq;refine ⟨by simpa using hj,by simpa using h1,?_⟩;unfold DM.get at h2 |-;rw [List.find?_cons_of_neg (by simpa using e),h2];simp
def DM.ix_none {α:Type} {k:List Nat} : ∀ {M:DM α},M.ix k=none->M.get k=none
 | [],_=>rfl
 |p::M,h=>by
  unfold DM.ix at h;by_cases e:k=p.1
  ·rw [DH e] at h;cases h
  ·rw [DL e] at h;have h2:DM.ix M k=none:=by
    cases hq:DM.ix M k with
    |none=>rfl
    |some j=>rw [hq] at h;cases h
   unfold DM.get;rw [List.find?_cons_of_neg (by simpa using e)];exact DM.ix_none h2
def wS {α:Type} {V:α->Vl} {k:List Nat} (w:fO k) : ∀ (es:List (Vl×Vl×Nat)) (M:DM α) (j:Nat),(∀ p∈M,fO p.1)->es.map (fun e=>(e.1,e.2.1))=M.map (fun p=>(kV p.1,V p.2)) ->
  findA prog 32 (kV k) es j=some (match M.ix k with|some i=>(M[i]?).map fun p=>(j+i,V p.2)|none=>none)
 | [],[],_,_,_=>rfl
 | [],_::_,_,_,h=>by simp at h
 |_::_,[],_,_,h=>by simp at h
 |e::es,p::M,j,hw,h=>by
  rw [FD,FD] at h;injection h with h1 h2
  have h1a:e.1=kV p.1:=FP Prod.fst h1;have h1b:e.2.1=V p.2:=FP Prod.snd h1;obtain ⟨a,b,c⟩:=e;simp only at h1a h1b;subst h1a h1b;unfold findA DM.ix;rw [eqA_d w (hw p EW)];by_cases e:k=p.1
  ·rw [DN e,DH e];rfl
  ·rw [DW e,DL e];simp only [DB,DS];rw [wS w es M (j+1) (fun q hq=>hw q (EL _ hq)) h2];cases DM.ix M k with
   |none=>rfl
   |some i=>
    simp only [Option.map_some,List.getElem?_cons_succ]
    congr 1
    funext
    cases M[i]? with
    |none=>rfl
    |some q=>simp only [Option.map_some];congr 2;omega
def u9 {α β:Type} (f:α->β) : ∀ (l:List α) (i:Nat),(l.eraseIdx i).map f=(l.map f).eraseIdx i
 | [],_=>rfl
 |a::l,0=>rfl
 |a::l,i+1=>by simp [u9 f l i]
section
variable {α:Type} {V:α->Vl} {h:ae} {mb t vt:Nat} {z:Vl} {M:DM α} {k:List Nat}
def lkD (m:ij V h mb M) (ht:mapT prog t=some (32,vt)) (hz:jr prog vt=some z) (gz:ground z=true) (w:fO k) :
  lookupA prog t (.map (some mb)) (kV k) true h=some (.tuple #[((M.get k).map V).getD z,.bool (M.get k).isSome],h)/\lookupA prog t (.map (some mb)) (kV k) false h=some (((M.get k).map V).getD z,h):=by
 obtain ⟨es,ck,m1,m2⟩:=m.ex;have hf:=wS w es M 0 m.w m2;unfold lookupA entriesA;simp only [ht,m1.get,key_ok w,DV,hf,hz];cases hq:DM.ix M k with
 |none=>
  rw [DM.ix_none hq];simp only [Option.map_none,gz,DV];exact ⟨rfl,rfl⟩
 |some i=>
  obtain ⟨hi,_,e⟩:=DM.tL hq;rw [e];simp only [DE hi,Option.map_some];exact ⟨rfl,rfl⟩
def Df {es:List (Vl×Vl×Nat)} {V:α->Vl} {i:Nat} {e:Vl×Vl×Nat} {p:List Nat×α} (h:es.map (fun e=>(e.1,e.2.1))=M.map fun p=>(kV p.1,V p.2)) (he:(e.1,e.2.1)=(kV p.1,V p.2)):(es.set i e).map (fun e=>(e.1,e.2.1))=(M.set i p).map fun p=>(kV p.1,V p.2):=by rw [HF,HF,h,he]
def ix_nodup {k:List Nat} {a:α} : ∀ {M:DM α} (_:(M.map (·.1)).Nodup),((M.put k a).map (·.1)).Nodup:=by
 intro M nd;unfold DM.put;cases hq:M.ix k with
 |some i=>
  obtain ⟨hi,e,_⟩:=DM.tL hq;simp only;rw [HF];have:(M.map (·.1)).set i k=M.map (·.1):=by
   refine FC fun j => ?_;rw [FU];by_cases hj:i=j
   ·subst hj;rw [DH rfl,DH (by rw [EB];exact hi),D4,DE hi,e];rfl
   ·rw [DL hj]
  rw [this];exact nd
 |none=>
  simp only;rw [GA,List.nodup_append];refine ⟨nd,by simp,fun a ha b hb e => ?_⟩;simp only [FD,List.map_nil,ER,ET,GX] at hb;subst hb;subst e;obtain ⟨p,hp,e⟩:=EZ.1 ha;have : ∀ (M:DM α),p∈M->M.ix a=none->False:=by
   intro M;induction M with
   |nil=>intro h;cases h
   |cons q M ih=>
    intro h hn;unfold DM.ix at hn;by_cases e2:a=q.1
    ·rw [DH e2] at hn;cases hn
    ·rw [DL e2] at hn;rcases ER.1 h with rfl|h
     ·exact e2 e.symm
     ·exact ih h (by
       cases hh:DM.ix M a with
       |none=>rfl
       |some j=>rw [hh] at hn;cases hn)
  exact this M hp hq
def muD (m:ij V h mb M) (hb:h.n0<=mb) (ht:mapT prog t=some (32,vt)) (w:fO k) (a:α) :
  ∃ g,mapUpdateA prog t (.map (some mb)) (kV k) (V a) h=some (undef,g)/\ij V g mb (M.put k a)/\au h g (· = mb)/\g.next=h.next:=by
 obtain ⟨es,ck,m1,m2⟩:=m.ex;have hf:=wS w es M 0 m.w m2;have hlen:es.length=M.length:=by
  have:=FP List.length m2
  rwa [EB,EB] at this
 have wp : ∀ p∈M.put k a,fO p.1:=by
  intro p hp;unfold DM.put at hp;split at hp
  ·rcases GO hp with h1|rfl
   ·exact m.w p h1
   ·exact w
  ·rcases D8.1 hp with h1|h1
   ·exact m.w p h1
   ·rw [FB.1 h1];exact w
 have fin : ∀ es' ck',(es'.map (·.2.2)).Nodup->(∀ e∈es',e.2.2<ck')->es'.map (fun e=>(e.1,e.2.1))=(M.put k a).map (fun p=>(kV p.1,V p.2)) ->
   ∃ g,some (undef,h.setO mb (.map es' ck'))=some (undef,g)/\ij V g mb (M.put k a)/\au h g (· = mb)/\g.next=h.next:=fun es' ck' a1 a2 a3=>
  ⟨_,rfl,⟨⟨es',ck',⟨xr hb m1.get,a1,a2⟩,a3⟩,wp,ix_nodup m.nd⟩,au.setO m1.get rfl,rfl⟩
 unfold mapUpdateA;simp only [ht,m1.get,key_ok w,DV,hf];cases hq:DM.ix M k with
 |none=>
  simp only;refine fin _ _ ?_ ?_ ?_
  ·rw [GA,List.nodup_append];refine ⟨m1.nd,by simp,fun a ha b hb e => ?_⟩;simp only [FD,List.map_nil,ER,ET,GX] at hb;obtain ⟨q,hq1,hq2⟩:=EZ.1 ha;have:=m1.lt q hq1;omega
  ·intro e he;rcases D8.1 he with he|he
   ·have:=m1.lt e he;omega
   ·rw [FB.1 he];exact Nat.lt_succ_self _
  ·unfold DM.put;rw [hq];simp only;rw [GA,GA,m2];rfl
 |some i=>
  obtain ⟨hi,hk,_⟩:=DM.tL hq;have hei:i<es.length:=by omega
  have hkey:(es[i]).1=kV k:=by have:=FP (fun l=>(l[i]?).map Prod.fst) m2;simp only [D4,DE hei,DE hi,Option.map_some,DA] at this;rw [this,<-hk]
  simp only [DE hi,Option.map_some,DC,DE hei,hkey,key_bits,DV];refine fin _ _ ?_ ?_ ?_
  ·rw [HF];have:(es.map (·.2.2)).set i (es[i]).2.2=es.map (·.2.2):=by
    refine FC fun j => ?_;rw [FU];by_cases hj:i=j
    ·subst hj;rw [DH rfl,DH (by rw [EB];exact hei),D4,DE hei];rfl
    ·rw [DL hj]
   rw [this];exact m1.nd
  ·intro e he;rcases GO he with h1|rfl
   ·exact m1.lt e h1
   ·exact m1.lt (es[i]) (GP hei)
  ·unfold DM.put;rw [hq];exact Df m2 rfl
def deD (m:ij V h mb M) (hb:h.n0<=mb) (ht:mapT prog t=some (32,vt)) (w:fO k) :
  ∃ g,deleteA prog t (.map (some mb)) (kV k) h=some (undef,g)/\ij V g mb (M.del k)/\au h g (· = mb)/\g.next=h.next:=by
 obtain ⟨es,ck,m1,m2⟩:=m.ex;have hf:=wS w es M 0 m.w m2;have hlen:es.length=M.length:=by
  have:=FP List.length m2
  rwa [EB,EB] at this
 unfold deleteA;simp only [ht,m1.get,key_ok w,DV,hf];cases hq:DM.ix M k with
 |none=>
  simp only;have hd:M.del k=M:=by unfold DM.del;rw [hq]
  rw [hd];exact ⟨_,rfl,⟨⟨es,ck,⟨xr hb m1.get,m1.nd,m1.lt⟩,m2⟩,m.w,m.nd⟩,au.setO m1.get rfl,rfl⟩
 |some i=>
  obtain ⟨hi,hk,_⟩:=DM.tL hq;have hd:M.del k=M.eraseIdx i:=by unfold DM.del;rw [hq]
  rw [hd];simp only [DE hi,Option.map_some,DC];have sub:=List.eraseIdx_sublist es i;have sub2:=List.eraseIdx_sublist M i;refine ⟨_,rfl,⟨⟨es.eraseIdx i,ck,⟨xr hb m1.get,(sub.map _).nodup m1.nd,fun e he=>m1.lt e (sub.mem he)⟩,?_⟩,fun p hp=>m.w p (sub2.mem hp),(sub2.map _).nodup m.nd⟩,au.setO m1.get rfl,rfl⟩;rw [u9,u9,m2]
def ij.kept (m:ij V h mb M) {g:ae} {B:Nat->Prop} (o:au h g B) (hB : ¬B mb):ij V g mb M:=by obtain ⟨es,ck,m1,m2⟩:=m.ex;exact ⟨⟨es,ck,⟨au.obj o m1.get hB,m1.nd,m1.lt⟩,m2⟩,m.w,m.nd⟩
def ij.old (m:ij V h mb M) {g:ae} (o:aK h g):ij V g mb M:=m.kept o (fun q=>q)
end
abbrev Y1:ah:=km [(64,sSrt),(80,sSrt),(183,cloneS)]
abbrev SV:List Nat := [12,13,21,22,24,25,57,61,66,67,68,69,70,72,73,74,76,79,105,110,111,112,113,114,115,122,128,132,168,170]
abbrev ZN:List Nat := [37,62,64,80,163,183,185,231]
structure ZOk (Z:ah):Prop where
 oO:bk prog Z
 none : ∀ f args h,ZN.contains f=false->Z f args h=none
structure ZS (Z:ah):Prop extends ZOk Z where
 y1 : ∀ {f args h r},Y1 f args h=some r->Z f args h=some r
abbrev ZX (Z:ah):ah:=over Z (only SV (CC prog XX))
def ZX_sound {Z:ah} (z:ZOk Z):bk prog (ZX Z):=over_sound z.oO (only_sound (kY iE XX_sound))
def CV (Z:ah):ah:=CU prog (ZX Z)
def freeF (f:Nat):Bool := !(ZN.contains f) && !(SV.contains f)
def SV_ZN {f:Nat} (h:SV.contains f=true):ZN.contains f=false:=by
 have : ∀ f∈SV,ZN.contains f=false:=by decide
 exact this f (HP.1 h)
def xY {Z:ah} {f:FuncId} {args:List Vl} {h:ae} {r:Vl×ae} (e:Z f args h=some r):CV Z f args h=some r:=by refine yw ?_;show over Z (only SV (CC prog XX)) f args h=some r;unfold over;rw [e]
section
variable {Z:ah} (z:ZOk Z)
include z
def bX {f:FuncId} {fn:Func} (i:bE prog f fn) {args:List Vl} {h:ae} {r:Vl×ae} (hf:freeF f=true) (e:aV prog (CV Z) fn args h=some r):CV Z f args h=some r:=by refine Cp i ?_ e;unfold freeF at hf;simp only [DD,GI] at hf;show over Z (only SV (CC prog XX)) f args h=none;unfold over only;rw [z.none _ _ _ hf.1];simp only;rw [DL (by rw [hf.2];exact Bool.false_ne_true)]
def jP {f:FuncId} {args:List Vl} {h:ae} {r:Vl×ae} (hG:3<=h.n0) (hS:SV.contains f=true) (e:CD f args h=some r):CV Z f args h=some r:=by refine yw ?_;show over Z (only SV (CC prog XX)) f args h=some r;unfold over only;rw [z.none _ _ _ (SV_ZN hS)];simp only;rw [DH hS];exact CD_to hG e
def CV_to {f:FuncId} {args:List Vl} {h:ae} {r:Vl×ae} (hG:3<=h.n0) (e:CV Z f args h=some r):CC prog (ZX Z) f args h=some r:=CU_to iE (ZX_sound z) (by rw [iv];exact hG) e
end
end
end Go.Proofs.YtdhpgacmgebjdaaGreatDoor.W
namespace Go.Proofs.YtdhpgacmgebjdaaGreatDoor.W
open Go Go.Abs Tryz
noncomputable section
section
variable (C:ah) (x:Nat->Vl) (x0 x1 x2 x3 x4 x5:Vl) (h:ae)
def t15 (C:ah) (x0 x1:Vl) (h:ae):aY:=
 aa (cO zlit1 h) fun d h=>
 aa (C 56 [] h) fun m h=>
 aa (gK 1 (.int .u8 0) 0 [] h) fun n h=>
 aa (some (x0,h)) fun o h=>
 aa (appendA 1 1 n o h) fun p h=>
 aa (C 55 [m,(.int .i64 1),(.int .i64 2),(.int .i64 2),p] h) fun q h=>
 aa (some (q,h)) fun f h=>
 aa (pu (extractA f 0) h) fun r h=>
 aa (pu (extractA f 1) h) fun s h=>
 aa (pu (extractA f 2) h) fun u h=>
 aa (cO dP h) fun g h=>
 aa (bI 37 g r h) fun _ h=>
 aa (some (s,h)) fun c h=>
 aa (some (u,h)) fun J h=>
 aa (bQ 37 g h) fun v h=>
 aa (C 24 [v] h) fun w h=>
 aa (some (w,h)) fun j h=>
 aa (pu (extractA j 0) h) fun y h=>
 aa (pu (extractA j 1) h) fun z h=>
 aa (cO (List.replicate 32 (.int .u8 0)) h) fun k h=>
 aa (bI 32 k y h) fun _ h=>
 aa (some (z,h)) fun K h=>
 aa (bQ 32 k h) fun A h=>
 aa (bQ 37 g h) fun B h=>
 aa (pu (cN zlit1 [(0,32,A),(32,37,B)]) h) fun D h=>
 aa (cO zlit1 h) fun a h=>
 aa (bI 71 a D h) fun _ h=>
 aa (some (c,h)) fun E h=>
 aa (pu (cg E) h) fun F h=>
 aa (pu (aA prog .eql 3 F (.int .i64 2)) h) fun G h=>
 aa (some (G,h)) fun l h=>
 aa (al (bt l==some true) (some (x1,h)) h) fun H h=>
 aa (match l with | .bool t=>some (if t then H else (.bool false),h)|_=>none) fun I h=>
 (match I with
 | .bool true=>
 aa (some (c,h)) fun dU h=>
 aa (pu (idxS 2 dU (.int .i64 1)) h) fun dI h=>
 aa (bQ 2 dI h) fun ee h=>
 aa (pu (aC a 69) h) fun O h=>
 aa (bI 2 O ee h) fun _ h=>
 aa (bQ 71 a h) fun b h=>
 aa (bI 71 d b h) fun _ h=>
 resultsA prog f15.results.toList (aS 46 (up (bs [x0,x1]) [(4,d),(5,g),(6,c),(7,J),(8,k),(9,K),(10,a),(11,f),(12,m),(13,n),(14,o),(15,p),(16,q),(17,r),(18,s),(19,u),(20,j),(21,v),(22,w),(23,y),(24,z),(25,A),(26,B),(27,D),(28,E),(29,F),(30,G),(31,l),(32,H),(33,I),(34,dU),(35,dI),(36,ee),(37,O),(45,b)])) h
 | .bool false=>
 aa (some (c,h)) fun L h=>
 aa (pu (cg L) h) fun M h=>
 aa (pu (aA prog .eql 3 M (.int .i64 2)) h) fun N h=>
 (match N with
 | .bool true=>
 aa (some (c,h)) fun P h=>
 aa (pu (idxS 2 P (.int .i64 0)) h) fun Q h=>
 aa (bQ 2 Q h) fun R h=>
 aa (pu (aC a 69) h) fun S h=>
 aa (bI 2 S R h) fun _ h=>
 aa (bQ 71 a h) fun b h=>
 aa (bI 71 d b h) fun _ h=>
 resultsA prog f15.results.toList (aS 46 (up (bs [x0,x1]) [(4,d),(5,g),(6,c),(7,J),(8,k),(9,K),(10,a),(11,f),(12,m),(13,n),(14,o),(15,p),(16,q),(17,r),(18,s),(19,u),(20,j),(21,v),(22,w),(23,y),(24,z),(25,A),(26,B),(27,D),(28,E),(29,F),(30,G),(31,l),(32,H),(33,I),(38,L),(39,M),(40,N),(41,P),(42,Q),(43,R),(44,S),(45,b)])) h
 | .bool false=>
 aa (bQ 71 a h) fun b h=>
 aa (bI 71 d b h) fun _ h=>
 resultsA prog f15.results.toList (aS 46 (up (bs [x0,x1]) [(4,d),(5,g),(6,c),(7,J),(8,k),(9,K),(10,a),(11,f),(12,m),(13,n),(14,o),(15,p),(16,q),(17,r),(18,s),(19,u),(20,j),(21,v),(22,w),(23,y),(24,z),(25,A),(26,B),(27,D),(28,E),(29,F),(30,G),(31,l),(32,H),(33,I),(38,L),(39,M),(40,N),(45,b)])) h
 |_=>none)
 |_=>none)
def t15_eq:aV prog C f15 [x0,x1] h=t15 C x0 x1 h:=
 lkT (by kernel_rfl) (by kernel_rfl)
def k37_5 (C:ah) (e:aO) (h:ae):aY:=codeK prog C (aq f37 [1,1,1,1]) e h (resultsA prog f37.results.toList) (resultsA prog f37.results.toList) (fun _ _ _=>none)
def b37_7 (C:ah) (i:Nat) (e:aO) (h:ae):aY:=if i=0 then (k37_5 C) e h else (fun _ _ _=>none) i e h
def t37 (C:ah) (x0:Vl) (h:ae):aY:=
 aa (some ((.int .i64 0),h)) fun l h=>
 aa (some (x0,h)) fun a h=>
 aa (C 60 [a] h) fun b h=>
 aa (pu (aA prog .neq 25 b (.int .i64 0)) h) fun c h=>
 (match c with
 | .bool true=>
 aa (some ((.int .i64 0),h)) fun m h=>
 some (m,h)
 | .bool false=>
 aa (some ((.int .i64 0),h)) fun n h=>
 aa (some (x0,h)) fun d h=>
 aa (pu (nilCheckA d) h) fun f h=>
 aa (pu (aC f 2) h) fun g h=>
 aa (pu (aC g 1) h) fun j h=>
 aa (ld1 j h) fun k h=>
 aa (rangeA prog 123 k h) fun o h=>
 dH (iter (codeA prog C (aq f37 [1,1,1,0,1,0,0])) az (aS 24 (up (bs [x0]) [(2,l),(3,n),(6,a),(7,b),(8,c),(9,d),(10,f),(11,g),(12,j),(13,k),(14,o)])) h) (resultsA prog f37.results.toList) (b37_7 C)
 |_=>none)
def xO (C:ah) (x:Nat->Vl) (h:ae):aY:=
 aa (some ((x 3),h)) fun a h=>
 aa (some (a,h)) fun b h=>
 some (b,h)
def mO (C:ah) (x:Nat->Vl) (h:ae):Option (Ex×aO×ae):=
 aa (nextA (x 14) false h) fun a h=>
 aa (pu (extractA a 0) h) fun b h=>
 (match b with
 | .bool true=>
 aa (entryA (x 14) h) fun d h=>
 aa (pu (extractA d 1) h) fun f h=>
 aa (cO [(.int .i64 0),(.int .i64 0),(.int .i64 0)] h) fun c h=>
 aa (bI 3 c f h) fun _ h=>
 aa (some ((x 3),h)) fun g h=>
 aa (pu (aC c 2) h) fun j h=>
 aa (ld1 j h) fun k h=>
 aa (pu (aA prog .add 3 g k) h) fun l h=>
 aa (some (l,h)) fun m h=>
 some (.normal,(aS 24 (up x [(3,m),(5,c),(15,a),(16,b),(17,d),(18,f),(19,g),(20,j),(21,k),(22,l)])),h)
 | .bool false=>
 some (.exit 0,(aS 24 (up x [(15,a),(16,b)])),h)
 |_=>none)
def t37_eq:aV prog C f37 [x0] h=t37 C x0 h:=
 lkT (by kernel_rfl) (by kernel_rfl)
def t37k37_5_eq:k37_5 C (aS 24 x) h=xO C x h:=
 bg (T:=xO C) (fun x h=>by kernel_rfl) x h
def uV:codeA prog C (aq f37 [1,1,1,0,1,0,0]) (aS 24 x) h=mO C x h:=
 aW (T:=mO C) (fun x h=>by kernel_rfl) x h
def k55_12 (C:ah) (e:aO) (h:ae):aY:=codeK prog C (aq f55 [1,1,1,1,1,1,1]) e h (resultsA prog f55.results.toList) (resultsA prog f55.results.toList) (fun _ _ _=>none)
def b55_14 (C:ah) (i:Nat) (e:aO) (h:ae):aY:=if i=0 then (k55_12 C) e h else (fun _ _ _=>none) i e h
def t55 (C:ah) (x0 x1 x2 x3 x4:Vl) (h:ae):aY:=
 aa (cO dP h) fun a h=>
 aa (some ((.slice none 0 0),h)) fun M h=>
 aa (some ((.int .i64 0),h)) fun N h=>
 aa (some (x0,h)) fun b h=>
 aa (pu (aA prog .eql 114 b (.pointer none)) h) fun c h=>
 (match c with
 | .bool true=>
 aa (pu (cN dP []) h) fun w h=>
 aa (bI 37 a w h) fun _ h=>
 aa (some ((.slice none 0 0),h)) fun d h=>
 aa (some ((.int .i64 1),h)) fun f h=>
 resultsA prog f55.results.toList (aS 66 (up (bs [x0,x1,x2,x3,x4]) [(10,a),(11,d),(12,f),(18,b),(19,c),(20,w)])) h
 | .bool false=>
 aa (some (x1,h)) fun g h=>
 aa (some (x2,h)) fun j h=>
 aa (some (x3,h)) fun k h=>
 aa (C 103 [g,j,k] h) fun l h=>
 aa (pu (unA .not l) h) fun m h=>
 (match m with
 | .bool true=>
 aa (pu (cN dP []) h) fun y h=>
 aa (bI 37 a y h) fun _ h=>
 aa (some ((.slice none 0 0),h)) fun d h=>
 aa (some ((.int .i64 2),h)) fun f h=>
 resultsA prog f55.results.toList (aS 66 (up (bs [x0,x1,x2,x3,x4]) [(10,a),(11,d),(12,f),(18,b),(19,c),(21,g),(22,j),(23,k),(24,l),(25,m),(26,y)])) h
 | .bool false=>
 aa (some (x0,h)) fun p h=>
 aa (some (x1,h)) fun q h=>
 aa (some (x3,h)) fun r h=>
 aa (some (x4,h)) fun s h=>
 aa (C 104 [p,q,r,s] h) fun t h=>
 aa (some (t,h)) fun n h=>
 aa (pu (extractA n 0) h) fun u h=>
 aa (pu (extractA n 1) h) fun dU h=>
 aa (some (u,h)) fun v h=>
 aa (some (dU,h)) fun o h=>
 aa (some (o,h)) fun dI h=>
 aa (pu (aA prog .neq 25 dI (.int .i64 0)) h) fun ee h=>
 (match ee with
 | .bool true=>
 aa (pu (cN dP []) h) fun z h=>
 aa (some (o,h)) fun A h=>
 aa (bI 37 a z h) fun _ h=>
 aa (some ((.slice none 0 0),h)) fun d h=>
 aa (some (A,h)) fun f h=>
 resultsA prog f55.results.toList (aS 66 (up (bs [x0,x1,x2,x3,x4]) [(10,a),(11,d),(12,f),(13,v),(14,o),(18,b),(19,c),(21,g),(22,j),(23,k),(24,l),(25,m),(27,n),(28,p),(29,q),(30,r),(31,s),(32,t),(33,u),(34,dU),(35,dI),(36,ee),(37,z),(38,A)])) h
 | .bool false=>
 aa (some (x1,h)) fun B h=>
 aa (some (x2,h)) fun D h=>
 aa (some (x3,h)) fun E h=>
 aa (some (x4,h)) fun F h=>
 aa (pu (cg F) h) fun G h=>
 aa (some (x4,h)) fun H h=>
 aa (C 67 [H] h) fun I h=>
 aa (pu (cN dP [(0,1,B),(1,1,D),(2,1,E),(3,1,G),(4,32,I)]) h) fun J h=>
 aa (cO dP h) fun K h=>
 aa (bI 37 K J h) fun _ h=>
 aa (some (v,h)) fun L h=>
 aa (pu (cg L) h) fun O h=>
 aa (some ((.int .i64 0),h)) fun P h=>
 dH (iter (codeA prog C (aq f55 [1,1,1,1,1,1,0,1,0,0])) az (aS 66 (up (bs [x0,x1,x2,x3,x4]) [(10,a),(11,M),(12,N),(13,v),(14,o),(15,K),(18,b),(19,c),(21,g),(22,j),(23,k),(24,l),(25,m),(27,n),(28,p),(29,q),(30,r),(31,s),(32,t),(33,u),(34,dU),(35,dI),(36,ee),(39,B),(40,D),(41,E),(42,F),(43,G),(44,H),(45,I),(46,J),(47,L),(48,O),(49,P)])) h) (resultsA prog f55.results.toList) (b55_14 C)
 |_=>none)
 |_=>none)
 |_=>none)
def uU (C:ah) (x:Nat->Vl) (h:ae):aY:=
 aa (bQ 37 (x 15) h) fun a h=>
 aa (some ((x 13),h)) fun b h=>
 aa (bI 37 (x 10) a h) fun _ h=>
 aa (some (b,h)) fun c h=>
 aa (some ((.int .i64 0),h)) fun d h=>
 resultsA prog f55.results.toList (aS 66 (up x [(11,c),(12,d),(64,a),(65,b)])) h
def fj (C:ah) (x:Nat->Vl) (h:ae):Option (Ex×aO×ae):=
 aa (pu (aA prog .lss 3 (x 49) (x 48)) h) fun gP h=>
 (match gP with
 | .bool true=>
 aa (pu (idxS 2 (x 47) (x 49)) h) fun fU h=>
 aa (bQ 2 fU h) fun fD h=>
 aa (cO [(.int .i64 0),(.slice none 0 0)] h) fun a h=>
 aa (bI 2 a fD h) fun _ h=>
 let g21_0:=h
 aa (pu (aC (x 15) 36) g21_0) fun b g21_1=>
 aa (ld1 b g21_1) fun c g21_2=>
 aa (pu (aC a 0) g21_2) fun d g21_3=>
 aa (ld1 d g21_3) fun f g21_4=>
 aa (pu (aC a 1) g21_4) fun g g21_5=>
 aa (ld1 g g21_5) fun j g21_6=>
 aa (C 70 [f,j] g21_6) fun k g21_7=>
 aa (gK 32 (.agg (List.replicate 32 (.int .u8 0)).toArray) 1 [(0,k)] g21_7) fun l g21_8=>
 aa (appendA 32 32 c l g21_8) fun m g21_9=>
 aa (pu (aC (x 15) 36) g21_9) fun n g21_10=>
 aa (bI 1 n m g21_10) fun _ g21_11=>
 (match (dW true (ld1 b g21_7) c&&true) with
 |true=>
 let h:=g21_11
 aa (pu (aA prog .add 3 (x 49) (.int .i64 1)) h) fun o h=>
 aa (some (o,h)) fun p h=>
 some (.normal,(aS 66 (up x [(17,a),(49,p),(50,gP),(51,fU),(52,fD),(53,b),(54,c),(55,d),(56,f),(57,g),(58,j),(59,k),(60,l),(61,m),(62,n),(63,o)])),h)
 |false=>none)
 | .bool false=>
 some (.exit 0,(aS 66 (up x [(50,gP)])),h)
 |_=>none)
def t55_eq:aV prog C f55 [x0,x1,x2,x3,x4] h=t55 C x0 x1 x2 x3 x4 h:=
 lkT (by kernel_rfl) (by kernel_rfl)
def Cv:k55_12 C (aS 66 x) h=uU C x h:=
 bg (T:=uU C) (fun x h=>by kernel_rfl) x h
def ry:codeA prog C (aq f55 [1,1,1,1,1,1,0,1,0,0]) (aS 66 x) h=fj C x h:=
 aW (T:=fj C) (fun x h=>by kernel_rfl) x h
def t56 (C:ah) (h:ae):aY:=
 aa (some ((.pointer none),h)) fun d h=>
 aa (pu (cN [(.int .u32 0),(.int .i32 0),(.int .u32 0),(.int .u8 0),(.int .u8 0),(.int .u8 0),(.int .u8 0),(.int .u8 0),(.int .u8 0),(.int .u8 0),(.int .u8 0),(.int .u8 0),(.int .u8 0),(.int .u8 0),(.int .u8 0),(.int .u8 0),(.int .u8 0),(.int .u8 0),(.int .u8 0),(.int .u8 0),(.int .u8 0),(.int .u8 0),(.int .u8 0),(.int .u8 0),(.int .u8 0),(.int .u8 0),(.int .u8 0),(.int .u8 0),(.int .u8 0),(.int .u8 0),(.int .u8 0),(.int .u8 0),(.int .u8 0),(.int .u8 0),(.int .u8 0),(.int .u8 0),(.int .u8 0),(.int .u8 0),(.int .u8 0),(.int .u8 0),(.int .u8 0),(.int .u8 0),(.int .u8 0),(.int .u8 0),(.int .u8 0),(.int .u8 0),(.int .u8 0),(.int .u8 0),(.int .u8 0),(.int .u8 0),(.int .u8 0),(.int .u8 0),(.int .u8 0),(.int .u8 0),(.int .u8 0),(.int .u8 0),(.int .u8 0),(.int .u8 0),(.int .u8 0),(.int .u8 0),(.int .u8 0),(.int .u8 0),(.int .u8 0),(.int .u8 0),(.int .u8 0),(.int .u8 0),(.int .u8 0),(.int .u8 0),(.int .u8 0),(.int .u8 0),(.int .u8 0),(.int .u8 0),(.int .u8 0),(.int .u8 0),(.int .u8 0),(.int .u8 0),(.int .u8 0),(.int .u8 0),(.int .u8 0),(.int .u8 0),(.int .u8 0),(.int .u8 0),(.int .u8 0),(.int .u8 0),(.int .u8 0),(.int .u8 0),(.int .u8 0),(.int .u8 0),(.int .u8 0),(.int .u8 0),(.int .u8 0),(.int .u8 0),(.int .u8 0),(.int .u8 0),(.int .u8 0),(.int .u8 0),(.int .u8 0),(.int .u8 0),(.int .u8 0),(.int .u8 0),(.int .u8 0),(.int .u8 0),(.int .u8 0),(.int .u8 0),(.int .u8 0),(.int .u8 0),(.int .u8 0),(.int .u8 0),(.int .u8 0),(.int .u8 0),(.int .u8 0),(.int .u8 0),(.int .u8 0),(.int .u8 0),(.int .u8 0),(.int .u8 0),(.int .u8 0),(.int .u8 0),(.int .u8 0),(.int .u8 0),(.int .u8 0),(.int .u8 0),(.int .u8 0),(.int .u8 0),(.int .u8 0),(.int .u8 0),(.int .u8 0),(.int .u8 0),(.int .u8 0),(.int .u8 0),(.int .u8 0),(.int .u8 0),(.int .u8 0),(.int .u8 0),(.int .u8 0),(.int .u8 0),(.int .u8 0),(.int .u8 0),(.int .u8 0),(.int .u8 0),(.int .u8 0),(.int .u8 0),(.int .u8 0),(.int .u8 0),(.int .u8 0),(.int .u8 0),(.int .u8 0),(.int .u8 0),(.int .u8 0),(.int .u8 0),(.int .u8 0),(.int .u8 0),(.int .u8 0),(.int .u8 0),(.int .u8 0),(.int .u8 0),(.int .u8 0),(.int .u8 0),(.int .u8 0),(.int .u8 0),(.int .u8 0),(.int .u8 0),(.int .u8 0),(.int .u8 0),(.int .u8 0),(.int .u8 0),(.int .u8 0),(.int .u8 0),(.int .u8 0),(.int .u8 0),(.int .u8 0),(.int .u8 0),(.int .u8 0),(.int .u8 0),(.int .u8 0),(.int .u8 0),(.int .u8 0),(.int .u8 0),(.int .u8 0),(.int .u8 0),(.int .u8 0),(.int .u8 0),(.int .u8 0),(.int .u8 0),(.int .u8 0),(.int .u8 0),(.int .u8 0),(.int .u8 0),(.int .u8 0),(.int .u8 0),(.int .u8 0),(.int .u8 0),(.int .u8 0),(.int .u8 0),(.int .u8 0),(.int .u8 0),(.int .u8 0),(.int .u8 0),(.int .u8 0),(.int .u8 0),(.int .u8 0),(.int .u8 0),(.int .u8 0),(.int .u8 0),(.int .u8 0),(.int .u8 0),(.int .u8 0),(.int .u8 0),(.int .u8 0),(.int .u8 0),(.int .u8 0),(.int .u8 0),(.int .u8 0),(.int .u8 0),(.int .u8 0),(.int .u8 0),(.int .u8 0),(.int .u8 0),(.int .u8 0),(.int .u8 0),(.int .u8 0),(.int .u8 0),(.int .u8 0),(.int .u8 0),(.int .u8 0),(.int .u8 0),(.int .u8 0),(.int .u8 0),(.int .u8 0),(.int .u8 0),(.int .u8 0),(.int .u8 0),(.int .u8 0),(.int .u8 0),(.int .u8 0),(.int .u8 0),(.int .u8 0),(.int .u8 0),(.int .u8 0),(.int .u8 0),(.int .u8 0),(.int .u8 0),(.int .u8 0),(.int .u8 0),(.int .u8 0),(.int .u8 0),(.int .u8 0),(.int .u8 0),(.int .u8 0),(.int .u8 0),(.int .u8 0),(.int .u8 0),(.int .u8 0),(.int .u8 0),(.int .u8 0),(.int .u8 0),(.int .u8 0),(.int .u8 0),(.int .u8 0),(.int .u8 0),(.int .u8 0),(.int .u8 0),(.int .u8 0),(.int .u8 0),(.int .u8 0),(.int .u8 0),(.int .u8 0),(.int .u8 0),(.int .u8 0),(.int .u8 0),(.int .u8 0),(.int .u8 0),(.int .u8 0),(.int .u8 0),(.int .u8 0),(.int .u8 0),(.int .u8 0),(.int .u8 0),(.int .u8 0),(.int .u8 0),(.int .u8 0),(.int .u8 0),(.int .u8 0),(.int .u8 0),(.int .u8 0),(.int .u8 0),(.int .u8 0),(.int .u8 0),(.int .u8 0),(.int .u8 0),(.int .u8 0),(.int .u8 0),(.int .u8 0),(.int .u8 0),(.int .u8 0),(.int .u8 0),(.int .u8 0),(.int .u8 0),(.int .u8 0),(.int .u8 0),(.int .u8 0),(.int .u8 0),(.int .u8 0),(.int .u8 0),(.int .u8 0),(.int .u8 0),(.int .u8 0),(.int .u8 0),(.int .u8 0),(.int .u8 0),(.int .u8 0),(.int .u8 0),(.int .u8 0),(.int .u8 0),(.int .u8 0),(.int .u8 0),(.int .u8 0),(.int .u8 0),(.int .u8 0),(.int .u8 0),(.int .u8 0),(.int .u8 0),(.int .u8 0),(.int .u8 0),(.int .u8 0),(.int .u8 0),(.int .u8 0),(.int .u8 0),(.int .u8 0),(.int .u8 0),(.int .u8 0),(.int .u8 0),(.int .u8 0),(.int .u8 0),(.int .u8 0),(.int .u8 0),(.int .u8 0),(.int .u8 0),(.int .u8 0),(.int .u8 0),(.int .u8 0),(.int .u8 0),(.int .u8 0),(.int .u8 0),(.int .u8 0),(.int .u8 0),(.int .u8 0),(.int .u8 0),(.int .u8 0),(.int .u8 0),(.int .u8 0),(.int .u8 0),(.int .u8 0),(.int .u8 0),(.int .u8 0),(.int .u8 0),(.int .u8 0),(.int .u8 0),(.int .u8 0),(.int .u8 0),(.int .u8 0),(.int .u8 0),(.int .u8 0),(.int .u8 0),(.int .u8 0),(.int .u8 0),(.int .u8 0),(.int .u8 0),(.int .u8 0),(.int .u8 0),(.int .u8 0),(.int .u8 0),(.int .u8 0),(.int .u8 0),(.int .u8 0),(.int .u8 0),(.int .u8 0),(.int .u8 0),(.int .u8 0),(.int .u8 0),(.int .u8 0),(.int .u8 0),(.int .u8 0),(.int .u8 0),(.int .u8 0),(.int .u8 0),(.int .u8 0),(.int .u8 0),(.int .u8 0),(.int .u8 0),(.int .u8 0),(.int .u8 0),(.int .u8 0),(.int .u8 0),(.int .u8 0),(.int .u8 0),(.int .u8 0),(.int .u8 0),(.int .u8 0),(.int .u8 0),(.int .u8 0),(.int .u8 0),(.int .u8 0),(.int .u8 0),(.int .u8 0),(.int .u8 0),(.int .u8 0),(.int .u8 0),(.int .u8 0),(.int .u8 0),(.int .u8 0),(.int .u8 0),(.int .u8 0),(.int .u8 0),(.int .u8 0),(.int .u8 0),(.int .u8 0),(.int .u8 0),(.int .u8 0),(.int .u8 0),(.int .u8 0),(.int .u8 0),(.int .u8 0),(.int .u8 0),(.int .u8 0),(.int .u8 0),(.int .u8 0),(.int .u8 0),(.int .u8 0),(.int .u8 0),(.int .u8 0),(.int .u8 0),(.int .u8 0),(.int .u8 0),(.int .u8 0),(.int .u8 0),(.int .u8 0),(.int .u8 0),(.int .u8 0),(.int .u8 0),(.int .u8 0),(.int .u8 0),(.int .u8 0),(.int .u8 0),(.int .u8 0),(.int .u8 0),(.int .u8 0),(.int .u8 0),(.int .u8 0),(.int .u8 0),(.int .u8 0),(.int .u8 0),(.int .u8 0),(.int .u8 0),(.int .u8 0),(.int .u8 0),(.int .u8 0),(.int .u8 0),(.int .u8 0),(.int .u8 0),(.int .u8 0),(.int .u8 0),(.int .u8 0),(.int .u8 0),(.int .u8 0),(.int .u8 0),(.int .u8 0),(.int .u8 0),(.int .u8 0),(.int .u8 0),(.int .u8 0),(.int .u8 0),(.int .u8 0),(.int .u8 0),(.int .u8 0),(.int .u8 0),(.int .u8 0),(.int .u8 0),(.int .u8 0),(.int .u8 0),(.int .u8 0),(.int .u8 0),(.int .u8 0),(.int .u8 0),(.int .u8 0),(.int .u8 0),(.int .u8 0),(.int .u8 0),(.int .u8 0),(.int .u8 0),(.int .u8 0),(.int .u8 0),(.int .u8 0),(.int .u8 0),(.int .u8 0),(.int .u8 0),(.int .u8 0),(.int .u8 0),(.int .u8 0),(.int .u8 0),(.int .u8 0),(.int .u8 0),(.int .u8 0),(.int .u8 0),(.int .u8 0),(.int .u8 0),(.int .u8 0),(.int .u8 0),(.int .u8 0),(.int .u8 0),(.int .u8 0),(.int .u8 0),(.int .u8 0),(.int .i64 0),(.int .i64 0),(.int .i64 0),(.int .i64 0),(.int .i64 0),(.int .i64 0),(.int .i64 0),(.int .i64 0),(.int .i64 0),(.int .i64 0),(.int .i64 0),(.int .i64 0),(.int .i64 0),(.int .i64 0),(.int .i64 0),(.int .i64 0),(.int .i64 0),(.int .i64 0),(.int .i64 0),(.int .i64 0),(.int .i64 0),(.int .i64 0),(.int .i64 0),(.int .i64 0),(.int .i64 0),(.int .i64 0),(.int .i64 0),(.int .i64 0),(.int .i64 0),(.int .i64 0),(.int .i64 0),(.int .i64 0),(.int .i64 0),(.int .i64 0),(.int .i64 0),(.int .i64 0),(.int .i64 0),(.int .i64 0),(.int .i64 0),(.int .i64 0),(.int .i64 0),(.int .i64 0),(.int .i64 0),(.int .i64 0),(.int .i64 0),(.int .i64 0),(.int .i64 0),(.int .i64 0),(.int .i64 0),(.int .i64 0),(.int .i64 0),(.int .i64 0),(.int .i64 0),(.int .i64 0),(.int .i64 0),(.int .i64 0),(.int .i64 0),(.int .i64 0),(.int .i64 0),(.int .i64 0),(.int .i64 0),(.int .i64 0),(.int .i64 0),(.int .i64 0),(.int .i64 0),(.int .i64 0),(.int .i64 0),(.int .i64 0),(.int .i64 0),(.int .i64 0),(.int .i64 0),(.int .i64 0),(.int .i64 0),(.int .i64 0),(.int .i64 0),(.int .i64 0),(.int .i64 0),(.int .i64 0),(.int .i64 0),(.int .i64 0),(.int .i64 0),(.int .i64 0),(.int .i64 0),(.int .i64 0),(.int .i64 0),(.int .i64 0),(.int .i64 0),(.int .i64 0),(.int .i64 0),(.int .i64 0),(.int .i64 0),(.int .i64 0),(.int .i64 0),(.int .i64 0),(.int .i64 0),(.int .i64 0),(.int .i64 0),(.int .i64 0),(.int .i64 0),(.int .i64 0),(.int .i64 0),(.int .i64 0),(.int .i64 0),(.int .i64 0),(.int .i64 0),(.int .i64 0),(.int .i64 0),(.int .i64 0),(.int .i64 0),(.int .i64 0),(.int .i64 0),(.int .i64 0),(.int .i64 0),(.int .i64 0),(.int .i64 0),(.int .i64 0),(.int .i64 0),(.int .i64 0),(.int .i64 0),(.int .i64 0),(.int .i64 0),(.int .i64 0),(.int .i64 0),(.int .i64 0),(.int .i64 0),(.int .i64 0),(.int .i64 0),(.int .i64 0),(.int .i64 0),(.int .i64 0),(.int .i64 0),(.int .i64 0),(.int .i64 0),(.int .i64 0),(.int .i64 0),(.int .i64 0),(.int .i64 0),(.int .i64 0),(.int .i64 0),(.int .i64 0),(.int .i64 0),(.int .i64 0),(.int .i64 0),(.int .i64 0),(.int .i64 0),(.int .i64 0),(.int .i64 0),(.int .i64 0),(.int .i64 0),(.int .i64 0),(.int .i64 0),(.int .i64 0),(.int .i64 0),(.int .i64 0),(.int .i64 0),(.int .i64 0),(.int .i64 0),(.int .i64 0),(.int .i64 0),(.int .i64 0),(.int .i64 0),(.int .i64 0),(.int .i64 0),(.int .i64 0),(.int .i64 0),(.int .i64 0),(.int .i64 0),(.int .i64 0),(.int .i64 0),(.int .i64 0),(.int .i64 0),(.int .i64 0),(.int .i64 0),(.int .i64 0),(.int .i64 0),(.int .i64 0),(.int .i64 0),(.int .i64 0),(.int .i64 0),(.int .i64 0),(.int .i64 0),(.int .i64 0),(.int .i64 0),(.int .i64 0),(.int .i64 0),(.int .i64 0),(.int .i64 0),(.int .i64 0),(.int .i64 0),(.int .i64 0),(.int .i64 0),(.int .i64 0),(.int .i64 0),(.int .i64 0),(.int .i64 0),(.int .i64 0),(.int .i64 0),(.int .i64 0),(.int .i64 0),(.int .i64 0),(.int .i64 0),(.int .i64 0),(.int .i64 0),(.int .i64 0),(.int .i64 0),(.int .i64 0),(.int .i64 0),(.int .i64 0),(.int .i64 0),(.int .i64 0),(.int .i64 0),(.int .i64 0),(.int .i64 0),(.int .i64 0),(.int .i64 0),(.int .i64 0),(.int .i64 0),(.int .i64 0),(.int .i64 0),(.int .i64 0),(.int .i64 0),(.int .i64 0),(.int .i64 0),(.int .i64 0),(.int .i64 0),(.int .i64 0),(.int .i64 0),(.int .i64 0),(.int .i64 0),(.int .i64 0),(.int .i64 0),(.int .i64 0),(.int .i64 0),(.int .i64 0),(.int .i64 0),(.int .i64 0),(.int .i64 0),(.int .i64 0),(.int .i64 0),(.int .i64 0),(.int .i64 0),(.int .i64 0),(.int .i64 0),(.int .i64 0),(.int .i64 0),(.int .i64 0),(.int .i64 0),(.int .i64 0),(.int .i64 0),(.int .i64 0),(.int .i64 0),(.int .i64 0),(.int .i64 0),(.int .i64 0),(.int .i64 0),(.int .i64 0)] []) h) fun a h=>
 aa (box a h) fun b h=>
 aa (some (b,h)) fun c h=>
 some (c,h)
def t56_eq:aV prog C f56 [] h=t56 C h:=
 lkT (by kernel_rfl) (by kernel_rfl)
def De (C:ah) (e:aO) (h:ae):aY:=codeK prog C (aq f104 [1,1,1,1,1,1,1,1,1,1]) e h (resultsA prog f104.results.toList) (resultsA prog f104.results.toList) (fun _ _ _=>none)
def b104_17 (C:ah) (i:Nat) (e:aO) (h:ae):aY:=if i=0 then (De C) e h else (fun _ _ _=>none) i e h
def ug (C:ah) (e:aO) (h:ae):Option (Ex×aO×ae):=codeK prog C (aq f104 [1,1,1,1,1,1,1,1,1,0,1,0,0,1,1,1]) e h (fun e h=>some (Ex.normal,e,h)) (fun e h=>some (Ex.ret,e,h)) (fun i e h=>some (Ex.exit i,e,h))
def CE (C:ah) (i:Nat) (e:aO) (h:ae):Option (Ex×aO×ae):=if i=1 then (ug C) e h else (fun i e h=>some (Ex.exit i,e,h)) i e h
def BJ (C:ah) (e:aO) (h:ae):Option (Ex×aO×ae):=codeK prog C (aq f104 [1,1,1,1,1,1,1,1,1,0,1,0,0,1,1,0,0,1,1,1]) e h (ug C) (fun e h=>some (Ex.ret,e,h)) (CE C)
def b104_27 (C:ah) (i:Nat) (e:aO) (h:ae):Option (Ex×aO×ae):=if i=2 then (BJ C) e h else (CE C) i e h
def t104 (C:ah) (x0 x1 x2 x3:Vl) (h:ae):aY:=
 aa (some ((.slice none 0 0),h)) fun L h=>
 aa (some ((.int .i64 0),h)) fun M h=>
 aa (some (x0,h)) fun g h=>
 aa (pu (aA prog .eql 114 g (.pointer none)) h) fun j h=>
 (match j with
 | .bool true=>
 aa (some ((.slice none 0 0),h)) fun a h=>
 aa (some ((.int .i64 1),h)) fun b h=>
 some (.tuple #[a,b],h)
 | .bool false=>
 aa (some (x1,h)) fun k h=>
 aa (some (x2,h)) fun l h=>
 aa (C 162 [k,l] h) fun m h=>
 aa (pu (unA .not m) h) fun n h=>
 (match n with
 | .bool true=>
 aa (some ((.slice none 0 0),h)) fun a h=>
 aa (some ((.int .i64 2),h)) fun b h=>
 some (.tuple #[a,b],h)
 | .bool false=>
 aa (some (x3,h)) fun o h=>
 aa (pu (cg o) h) fun p h=>
 aa (pu (aA prog .gtr 3 p (.int .i64 8192)) h) fun q h=>
 (match q with
 | .bool true=>
 aa (some ((.slice none 0 0),h)) fun a h=>
 aa (some ((.int .i64 3),h)) fun b h=>
 some (.tuple #[a,b],h)
 | .bool false=>
 aa (some (x1,h)) fun r h=>
 aa (some (x3,h)) fun s h=>
 aa (pu (cg s) h) fun t h=>
 aa (C 69 [r,t] h) fun u h=>
 aa (some (u,h)) fun c h=>
 aa (pu (extractA c 0) h) fun dU h=>
 aa (pu (extractA c 1) h) fun dI h=>
 aa (some (dU,h)) fun v h=>
 aa (some (dI,h)) fun N h=>
 aa (some (x1,h)) fun ee h=>
 aa (some (v,h)) fun w h=>
 aa (pu (aA prog .mul 3 ee w) h) fun d h=>
 aa (mkR 1 1 (.int .u8 0) d d h) fun y h=>
 aa (some (y,h)) fun z h=>
 aa (some (z,h)) fun A h=>
 aa (some (x3,h)) fun B h=>
 aa (js 1 A B h) fun O h=>
 aa (some (x0,h)) fun D h=>
 aa (some (x1,h)) fun E h=>
 aa (some (x2,h)) fun F h=>
 aa (C 163 [D,E,F] h) fun G h=>
 aa (some (G,h)) fun f h=>
 aa (pu (extractA f 0) h) fun H h=>
 aa (pu (extractA f 1) h) fun I h=>
 aa (cO [(.int .i64 0),(.int .i64 0),(.slice none 0 0)] h) fun J h=>
 aa (bI 3 J H h) fun _ h=>
 aa (some (I,h)) fun P h=>
 aa (some (x2,h)) fun gP h=>
 aa (mkR 2 32 (.agg #[(.int .i64 0),(.slice none 0 0)]) gP gP h) fun fU h=>
 aa (some (fU,h)) fun K h=>
 aa (some (K,h)) fun fD h=>
 aa (pu (cg fD) h) fun Q h=>
 aa (some ((.int .i64 0),h)) fun R h=>
 dH (iter (codeA prog C (aq f104 [1,1,1,1,1,1,1,1,1,0,1,0,0])) az (aS 90 (up (bs [x0,x1,x2,x3]) [(8,L),(9,M),(10,v),(11,N),(12,z),(13,J),(14,P),(15,K),(20,g),(21,j),(22,k),(23,l),(24,m),(25,n),(26,o),(27,p),(28,q),(29,c),(30,r),(31,s),(32,t),(33,u),(34,dU),(35,dI),(36,ee),(37,w),(38,d),(39,y),(40,A),(41,B),(42,O),(43,f),(44,D),(45,E),(46,F),(47,G),(48,H),(49,I),(50,gP),(51,fU),(52,fD),(53,Q),(54,R)])) h) (resultsA prog f104.results.toList) (b104_17 C)
 |_=>none)
 |_=>none)
 |_=>none)
def pt (C:ah) (x:Nat->Vl) (h:ae):aY:=
 aa (some ((x 15),h)) fun a h=>
 aa (some (a,h)) fun b h=>
 aa (some ((.int .i64 0),h)) fun c h=>
 some (.tuple #[b,c],h)
def dA (C:ah) (x:Nat->Vl) (h:ae):Option (Ex×aO×ae):=
 aa (pu (aA prog .lss 3 (x 54) (x 53)) h) fun a h=>
 (match a with
 | .bool true=>
 aa (some ((x 54),h)) fun c h=>
 aa (some (c,h)) fun d h=>
 aa (some ((x 10),h)) fun b h=>
 aa (mkR 1 1 (.int .u8 0) b b h) fun f h=>
 aa (some (f,h)) fun l h=>
 aa (bQ 3 (x 13) h) fun g h=>
 aa (some (d,h)) fun j h=>
 aa (C 164 [g,j] h) fun k h=>
 aa (pu (cg k) h) fun m h=>
 aa (some ((.int .i64 0),h)) fun n h=>
 dH (iter (codeA prog C (aq f104 [1,1,1,1,1,1,1,1,1,0,1,0,0,1,1,0,0,1,1,0,1,0,0])) az (aS 90 (up x [(16,d),(17,l),(55,a),(56,c),(57,b),(58,f),(59,g),(60,j),(61,k),(62,m),(63,n)])) h) (fun e h=>some (Ex.ret,e,h)) (b104_27 C)
 | .bool false=>
 some (.exit 0,(aS 90 (up x [(55,a)])),h)
 |_=>none)
def pQ (C:ah) (x:Nat->Vl) (h:ae):Option (Ex×aO×ae):=
 aa (pu (aA prog .add 3 (x 54) (.int .i64 1)) h) fun a h=>
 aa (some (a,h)) fun b h=>
 some (.normal,(aS 90 (up x [(54,b),(88,a)])),h)
def qd (C:ah) (x:Nat->Vl) (h:ae):Option (Ex×aO×ae):=
 aa (some ((x 15),h)) fun a h=>
 aa (some ((x 16),h)) fun b h=>
 aa (some ((x 16),h)) fun c h=>
 aa (some ((x 17),h)) fun d h=>
 aa (pu (cN [(.int .i64 0),(.slice none 0 0)] [(0,1,c),(1,1,d)]) h) fun f h=>
 aa (pu (idxS 2 a b) h) fun g h=>
 aa (bI 2 g f h) fun _ h=>
 ug C (aS 90 (up x [(82,a),(83,b),(84,c),(85,d),(86,f),(87,g)])) h
def cB (C:ah) (x:Nat->Vl) (h:ae):Option (Ex×aO×ae):=
 aa (pu (aA prog .lss 3 (x 63) (x 62)) h) fun a h=>
 (match a with
 | .bool true=>
 aa (some ((x 63),h)) fun c h=>
 aa (pu (idxS 1 (x 61) (x 63)) h) fun d h=>
 aa (ld1 d h) fun f h=>
 aa (some (c,h)) fun b h=>
 aa (some (f,h)) fun g h=>
 aa (some ((x 0),h)) fun j h=>
 aa (some ((x 17),h)) fun k h=>
 aa (some ((x 12),h)) fun l h=>
 aa (some (b,h)) fun m h=>
 aa (some ((x 10),h)) fun n h=>
 aa (pu (aA prog .mul 3 m n) h) fun o h=>
 aa (some (b,h)) fun p h=>
 aa (pu (aA prog .add 3 p (.int .i64 1)) h) fun q h=>
 aa (some ((x 10),h)) fun r h=>
 aa (pu (aA prog .mul 3 q r) h) fun s h=>
 aa (pu (zR 1 l (some o) (some s) none) h) fun t h=>
 aa (some (g,h)) fun u h=>
 aa (C 165 [j,k,t,u] h) fun w h=>
 aa (pu (aA prog .add 3 (x 63) (.int .i64 1)) h) fun v h=>
 aa (some (v,h)) fun y h=>
 some (.normal,(aS 90 (up x [(18,b),(19,g),(63,y),(64,a),(65,c),(66,d),(67,f),(68,j),(69,k),(70,l),(71,m),(72,n),(73,o),(74,p),(75,q),(76,r),(77,s),(78,t),(79,u),(80,w),(81,v)])),h)
 | .bool false=>
 some (.exit 2,(aS 90 (up x [(64,a)])),h)
 |_=>none)
def t104_eq:aV prog C f104 [x0,x1,x2,x3] h=t104 C x0 x1 x2 x3 h:=
 lkT (by kernel_rfl) (by kernel_rfl)
def xQ:De C (aS 90 x) h=pt C x h:=
 bg (T:=pt C) (fun x h=>by kernel_rfl) x h
def mI:codeA prog C (aq f104 [1,1,1,1,1,1,1,1,1,0,1,0,0]) (aS 90 x) h=dA C x h:=
 aW (T:=dA C) (fun x h=>by kernel_rfl) x h
def ze:ug C (aS 90 x) h=pQ C x h:=
 bg (T:=pQ C) (fun x h=>by kernel_rfl) x h
def xC:BJ C (aS 90 x) h=qd C x h:=
 bg (T:=qd C) (fun x h=>by kernel_rfl) x h
def iF:codeA prog C (aq f104 [1,1,1,1,1,1,1,1,1,0,1,0,0,1,1,0,0,1,1,0,1,0,0]) (aS 90 x) h=cB C x h:=
 aW (T:=cB C) (fun x h=>by kernel_rfl) x h
def b165_3 (C:ah) (i:Nat) (e:aO) (h:ae):aY:=if i=0 then (resultsA prog f165.results.toList) e h else (fun _ _ _=>none) i e h
def t165 (C:ah) (x0 x1 x2 x3:Vl) (h:ae):aY:=
 aa (some (x3,h)) fun a h=>
 aa (pu (aA prog .eql 5 a (.int .u8 0)) h) fun b h=>
 (match b with
 | .bool true=>
 some (.tuple #[],h)
 | .bool false=>
 aa (some (x2,h)) fun c h=>
 aa (pu (cg c) h) fun d h=>
 aa (some ((.int .i64 0),h)) fun f h=>
 dH (iter (codeA prog C (aq f165 [1,1,0,0])) az (aS 30 (up (bs [x0,x1,x2,x3]) [(10,a),(11,b),(12,c),(13,d),(14,f)])) h) (resultsA prog f165.results.toList) (b165_3 C)
 |_=>none)
def ou (C:ah) (x:Nat->Vl) (h:ae):Option (Ex×aO×ae):=
 aa (pu (aA prog .lss 3 (x 14) (x 13)) h) fun a h=>
 (match a with
 | .bool true=>
 aa (some ((x 14),h)) fun g h=>
 aa (pu (idxS 1 (x 12) (x 14)) h) fun j h=>
 aa (ld1 j h) fun k h=>
 aa (some (g,h)) fun l h=>
 aa (some (k,h)) fun m h=>
 let g9_0:=h
 aa (some ((x 1),g9_0)) fun b g9_1=>
 aa (some (l,g9_1)) fun c g9_2=>
 aa (pu (idxS 1 b c) g9_2) fun d g9_3=>
 aa (ld1 d g9_3) fun f g9_4=>
 aa (some ((x 0),g9_4)) fun n g9_5=>
 aa (some ((x 3),g9_5)) fun o g9_6=>
 aa (some (m,g9_6)) fun p g9_7=>
 aa (C 207 [n,o,p] g9_7) fun q g9_8=>
 aa (pu (aA prog .xor 5 f q) g9_8) fun r g9_9=>
 aa (pu (idxS 1 b c) g9_9) fun s g9_10=>
 aa (bI 1 s r g9_10) fun _ g9_11=>
 (match (dW true (ld1 d g9_8) f&&true) with
 |true=>
 let h:=g9_11
 aa (pu (aA prog .add 3 (x 14) (.int .i64 1)) h) fun t h=>
 aa (some (t,h)) fun u h=>
 some (.normal,(aS 30 (up x [(8,l),(9,m),(14,u),(15,a),(16,g),(17,j),(18,k),(19,b),(20,c),(21,d),(22,f),(23,n),(24,o),(25,p),(26,q),(27,r),(28,s),(29,t)])),h)
 |false=>none)
 | .bool false=>
 some (.exit 0,(aS 30 (up x [(15,a)])),h)
 |_=>none)
def t165_eq:aV prog C f165 [x0,x1,x2,x3] h=t165 C x0 x1 x2 x3 h:=
 lkT (by kernel_rfl) (by kernel_rfl)
def vX:codeA prog C (aq f165 [1,1,0,0]) (aS 30 x) h=ou C x h:=
 aW (T:=ou C) (fun x h=>by kernel_rfl) x h
def k20_4 (C:ah) (e:aO) (h:ae):aY:=codeK prog C (aq f20 [1,1,1]) e h (resultsA prog f20.results.toList) (resultsA prog f20.results.toList) (fun _ _ _=>none)
def b20_6 (C:ah) (i:Nat) (e:aO) (h:ae):aY:=if i=0 then (k20_4 C) e h else (fun _ _ _=>none) i e h
def t20 (C:ah) (x0 x1:Vl) (h:ae):aY:=
 aa (box x0 h) fun b h=>
 aa (box x1 h) fun c h=>
 aa (some ((.bool false),h)) fun V h=>
 aa (pu (aC b 0) h) fun k h=>
 aa (ld1 k h) fun l h=>
 aa (pu (aC c 0) h) fun m h=>
 aa (ld1 m h) fun n h=>
 aa (pu (aA prog .neq 3 l n) h) fun o h=>
 aa (some (o,h)) fun d h=>
 aa (al (bt d==some false) (pu (aC b 1) h) h) fun p h=>
 aa (al (bt d==some false) (ld1 p h) h) fun q h=>
 aa (al (bt d==some false) (pu (aC c 1) h) h) fun r h=>
 aa (al (bt d==some false) (ld1 r h) h) fun s h=>
 aa (al (bt d==some false) (pu (aA prog .neq 3 q s) h) h) fun u h=>
 aa (match d with | .bool t=>some (if t then (.bool true) else u,h)|_=>none) fun v h=>
 aa (some (v,h)) fun f h=>
 aa (al (bt f==some false) (pu (aC b 2) h) h) fun w h=>
 aa (al (bt f==some false) (ld1 w h) h) fun y h=>
 aa (al (bt f==some false) (pu (aC c 2) h) h) fun z h=>
 aa (al (bt f==some false) (ld1 z h) h) fun A h=>
 aa (al (bt f==some false) (pu (aA prog .neq 3 y A) h) h) fun B h=>
 aa (match f with | .bool t=>some (if t then (.bool true) else B,h)|_=>none) fun D h=>
 aa (some (D,h)) fun g h=>
 aa (al (bt g==some false) (pu (aC b 3) h) h) fun E h=>
 aa (al (bt g==some false) (ld1 E h) h) fun F h=>
 aa (al (bt g==some false) (pu (aC c 3) h) h) fun G h=>
 aa (al (bt g==some false) (ld1 G h) h) fun H h=>
 aa (al (bt g==some false) (pu (aA prog .neq 3 F H) h) h) fun I h=>
 aa (match g with | .bool t=>some (if t then (.bool true) else I,h)|_=>none) fun J h=>
 aa (some (J,h)) fun j h=>
 aa (al (bt j==some false) (pu (aC b 4) h) h) fun K h=>
 aa (al (bt j==some false) (bQ 32 K h) h) fun dU h=>
 aa (al (bt j==some false) (pu (aC c 4) h) h) fun dI h=>
 aa (al (bt j==some false) (bQ 32 dI h) h) fun ee h=>
 aa (al (bt j==some false) (pu (aA prog .neq 32 dU ee) h) h) fun L h=>
 aa (match j with | .bool t=>some (if t then (.bool true) else L,h)|_=>none) fun M h=>
 aa (some (M,h)) fun a h=>
 aa (al (bt a==some false) (pu (aC b 36) h) h) fun N h=>
 aa (al (bt a==some false) (ld1 N h) h) fun O h=>
 aa (al (bt a==some false) (pu (cg O) h) h) fun P h=>
 aa (al (bt a==some false) (pu (aC c 36) h) h) fun Q h=>
 aa (al (bt a==some false) (ld1 Q h) h) fun R h=>
 aa (al (bt a==some false) (pu (cg R) h) h) fun S h=>
 aa (al (bt a==some false) (pu (aA prog .neq 3 P S) h) h) fun T h=>
 aa (match a with | .bool t=>some (if t then (.bool true) else T,h)|_=>none) fun U h=>
 (match U with
 | .bool true=>
 aa (some ((.bool false),h)) fun W h=>
 some (W,h)
 | .bool false=>
 aa (some ((.int .i64 0),h)) fun X h=>
 dH (iter (codeA prog C (aq f20 [1,1,0,1,0,0])) az (aS 66 (up (bs [x0,x1]) [(2,b),(3,c),(4,V),(5,X),(6,k),(7,l),(8,m),(9,n),(10,o),(11,d),(12,p),(13,q),(14,r),(15,s),(16,u),(17,v),(18,f),(19,w),(20,y),(21,z),(22,A),(23,B),(24,D),(25,g),(26,E),(27,F),(28,G),(29,H),(30,I),(31,J),(32,j),(33,K),(34,dU),(35,dI),(36,ee),(37,L),(38,M),(39,a),(40,N),(41,O),(42,P),(43,Q),(44,R),(45,S),(46,T),(47,U)])) h) (resultsA prog f20.results.toList) (b20_6 C)
 |_=>none)
def t20k20_4 (C:ah) (x:Nat->Vl) (h:ae):aY:=
 aa (some ((.bool true),h)) fun a h=>
 some (a,h)
def ov (C:ah) (x:Nat->Vl) (h:ae):Option (Ex×aO×ae):=
 aa (some ((x 5),h)) fun a h=>
 aa (pu (aC (x 2) 36) h) fun b h=>
 aa (ld1 b h) fun gP h=>
 aa (pu (cg gP) h) fun fU h=>
 aa (pu (aA prog .lss 3 a fU) h) fun fD h=>
 (match fD with
 | .bool true=>
 aa (pu (aC (x 2) 36) h) fun c h=>
 aa (ld1 c h) fun d h=>
 aa (some ((x 5),h)) fun f h=>
 aa (pu (idxS 32 d f) h) fun g h=>
 aa (bQ 32 g h) fun j h=>
 aa (pu (aC (x 3) 36) h) fun k h=>
 aa (ld1 k h) fun l h=>
 aa (some ((x 5),h)) fun m h=>
 aa (pu (idxS 32 l m) h) fun n h=>
 aa (bQ 32 n h) fun o h=>
 aa (pu (aA prog .neq 32 j o) h) fun p h=>
 (match p with
 | .bool true=>
 aa (some ((.bool false),h)) fun s h=>
 some (.ret,(aS 66 (up x [(4,s),(48,a),(49,b),(50,gP),(51,fU),(52,fD),(55,c),(56,d),(57,f),(58,g),(59,j),(60,k),(61,l),(62,m),(63,n),(64,o),(65,p)])),h)
 | .bool false=>
 aa (some ((x 5),h)) fun q h=>
 aa (pu (aA prog .add 3 q (.int .i64 1)) h) fun r h=>
 aa (some (r,h)) fun t h=>
 some (.normal,(aS 66 (up x [(5,t),(48,a),(49,b),(50,gP),(51,fU),(52,fD),(53,q),(54,r),(55,c),(56,d),(57,f),(58,g),(59,j),(60,k),(61,l),(62,m),(63,n),(64,o),(65,p)])),h)
 |_=>none)
 | .bool false=>
 some (.exit 0,(aS 66 (up x [(48,a),(49,b),(50,gP),(51,fU),(52,fD)])),h)
 |_=>none)
def t20_eq:aV prog C f20 [x0,x1] h=t20 C x0 x1 h:=
 lkT (by kernel_rfl) (by kernel_rfl)
def t20k20_4_eq:k20_4 C (aS 66 x) h=t20k20_4 C x h:=
 bg (T:=t20k20_4 C) (fun x h=>by kernel_rfl) x h
def wB:codeA prog C (aq f20 [1,1,0,1,0,0]) (aS 66 x) h=ov C x h:=
 aW (T:=ov C) (fun x h=>by kernel_rfl) x h
end
def t18 (C:ah) (x0:Vl) (h:ae):aY:=
 aa (some ((.slice none 0 0),h)) fun n h=>
 aa (some (x0,h)) fun b h=>
 aa (C 60 [b] h) fun c h=>
 aa (pu (aA prog .neq 25 c (.int .i64 0)) h) fun d h=>
 (match d with
 | .bool true=>
 aa (some ((.slice none 0 0),h)) fun a h=>
 some (a,h)
 | .bool false=>
 aa (some (x0,h)) fun f h=>
 aa (pu (nilCheckA f) h) fun g h=>
 aa (pu (aC g 2) h) fun j h=>
 aa (pu (aC j 1) h) fun k h=>
 aa (ld1 k h) fun l h=>
 aa (C 64 [l] h) fun m h=>
 aa (some (m,h)) fun a h=>
 some (a,h)
 |_=>none)
def t18_eq (C:ah) (x0:Vl) (h:ae):aV prog C f18 [x0] h=t18 C x0 h:=
 lkT (by kernel_rfl) (by kernel_rfl)
def t65 (C:ah) (x0 x1 x2:Vl) (h:ae):aY:=
 aa (box x1 h) fun d h=>
 aa (box x2 h) fun m h=>
 aa (cO dP h) fun c h=>
 aa (cO [(.int .i64 0),(.slice none 0 0)] h) fun a h=>
 aa (some ((.slice none 0 0),h)) fun R h=>
 aa (some ((.bool false),h)) fun S h=>
 aa (some (x0,h)) fun n h=>
 aa (pu (nilCheckA n) h) fun o h=>
 aa (pu (aC o 0) h) fun p h=>
 aa (ld1 p h) fun q h=>
 aa (pu (aC m 0) h) fun r h=>
 aa (ld1 r h) fun s h=>
 aa (C 128 [q,s] h) fun u h=>
 aa (some (u,h)) fun j h=>
 aa (pu (extractA j 0) h) fun v h=>
 aa (pu (extractA j 1) h) fun w h=>
 aa (some (v,h)) fun F h=>
 aa (some (w,h)) fun y h=>
 aa (some (y,h)) fun z h=>
 aa (pu (aA prog .neq 25 z (.int .i64 0)) h) fun A h=>
 (match A with
 | .bool true=>
 let g5_0:=h
 aa (bQ 37 c g5_0) fun G g5_1=>
 aa (bQ 2 a g5_1) fun B g5_2=>
 aa (bI 37 c G g5_2) fun _ g5_3=>
 aa (bI 2 a B g5_3) fun _ g5_4=>
 aa (some ((.slice none 0 0),g5_4)) fun D g5_5=>
 aa (some ((.bool false),g5_5)) fun E g5_6=>
 (match (dW true (bQ 2 a g5_3) B&&true) with
 |true=>
 let h:=g5_6
 resultsA prog f65.results.toList (aS 42 (up (bs [x0,x1,x2]) [(4,d),(5,m),(6,c),(7,a),(8,D),(9,E),(10,y),(12,j),(13,n),(14,o),(15,p),(16,q),(17,r),(18,s),(19,u),(20,v),(21,w),(22,z),(23,A),(24,G),(25,B)])) h
 |false=>none)
 | .bool false=>
 aa (some (F,h)) fun H h=>
 aa (C 113 [H] h) fun I h=>
 aa (some (I,h)) fun f h=>
 aa (pu (extractA f 0) h) fun J h=>
 aa (pu (extractA f 1) h) fun K h=>
 aa (pu (extractA f 2) h) fun L h=>
 aa (pu (extractA f 3) h) fun M h=>
 aa (cO (List.replicate 32 (.int .u8 0)) h) fun g h=>
 aa (bI 37 c J h) fun _ h=>
 aa (bI 2 a K h) fun _ h=>
 aa (bI 32 g L h) fun _ h=>
 aa (some (M,h)) fun E h=>
 let g8_0:=h
 aa (bQ 37 c g8_0) fun N g8_1=>
 aa (bQ 2 a g8_1) fun dU g8_2=>
 aa (some (F,g8_2)) fun dI g8_3=>
 aa (some (E,g8_3)) fun ee g8_4=>
 aa (some (ee,g8_4)) fun b g8_5=>
 aa (al (bt b==some true) (bQ 32 g g8_5) g8_5) fun k g8_6=>
 aa (al (bt b==some true) (bQ 32 d g8_6) g8_6) fun l g8_7=>
 aa (al (bt b==some true) (pu (aA prog .eql 32 k l) g8_7) g8_7) fun O g8_8=>
 aa (match b with | .bool t=>some (if t then O else (.bool false),g8_8)|_=>none) fun P g8_9=>
 aa (bI 37 c N g8_9) fun _ g8_10=>
 aa (bI 2 a dU g8_10) fun _ g8_11=>
 aa (some (dI,g8_11)) fun D g8_12=>
 aa (some (P,g8_12)) fun Q g8_13=>
 (match (dW true (bQ 2 a g8_10) dU&&(dW (bt b==some true) (bQ 32 g g8_10) k&&(dW (bt b==some true) (bQ 32 g g8_11) k&&(dW (bt b==some true) (bQ 32 d g8_10) l&&(dW (bt b==some true) (bQ 32 d g8_11) l&&true))))) with
 |true=>
 let h:=g8_13
 resultsA prog f65.results.toList (aS 42 (up (bs [x0,x1,x2]) [(4,d),(5,m),(6,c),(7,a),(8,D),(9,Q),(10,y),(11,g),(12,j),(13,n),(14,o),(15,p),(16,q),(17,r),(18,s),(19,u),(20,v),(21,w),(22,z),(23,A),(26,f),(27,H),(28,I),(29,J),(30,K),(31,L),(32,M),(33,N),(34,dU),(35,dI),(36,ee),(37,b),(38,k),(39,l),(40,O),(41,P)])) h
 |false=>none)
 |_=>none)
def t65_eq (C:ah) (x0 x1 x2:Vl) (h:ae):aV prog C f65 [x0,x1,x2] h=t65 C x0 x1 x2 h:=
 lkT (by kernel_rfl) (by kernel_rfl)
section
variable (C:ah) (x:Nat->Vl) (x0 x1 x2 x3 x4 x5:Vl) (h:ae)
def k62_17 (C:ah) (e:aO) (h:ae):aY:=codeK prog C (aq f62 [1,1,1,1,1,1,1,1,1,1]) e h (resultsA prog f62.results.toList) (resultsA prog f62.results.toList) (fun _ _ _=>none)
def b62_19 (C:ah) (i:Nat) (e:aO) (h:ae):aY:=if i=0 then (k62_17 C) e h else (fun _ _ _=>none) i e h
def t62 (C:ah) (x0 x1 x2:Vl) (h:ae):aY:=
 aa (some ((.int .i64 0),h)) fun M h=>
 aa (some ((.int .i64 0),h)) fun N h=>
 aa (some (x0,h)) fun g h=>
 aa (pu (nilCheckA g) h) fun j h=>
 aa (pu (aC j 0) h) fun k h=>
 aa (ld1 k h) fun l h=>
 aa (some (x1,h)) fun m h=>
 aa (C 122 [l,m] h) fun n h=>
 aa (some (n,h)) fun d h=>
 aa (pu (extractA d 0) h) fun o h=>
 aa (pu (extractA d 1) h) fun p h=>
 aa (some (o,h)) fun q h=>
 aa (some (p,h)) fun f h=>
 aa (some (f,h)) fun r h=>
 aa (pu (aA prog .eql 25 r (.int .i64 0)) h) fun s h=>
 (match s with
 | .bool true=>
 aa (some (x2,h)) fun O h=>
 aa (some (x0,h)) fun P h=>
 aa (pu (nilCheckA P) h) fun Q h=>
 aa (pu (aC Q 2) h) fun R h=>
 aa (callA prog C O [R] h) fun W h=>
 aa (some (q,h)) fun S h=>
 aa (some (S,h)) fun b h=>
 aa (some ((.int .i64 0),h)) fun c h=>
 some (.tuple #[b,c],h)
 | .bool false=>
 aa (some (f,h)) fun t h=>
 aa (pu (aA prog .neq 25 t (.int .i64 8)) h) fun u h=>
 (match u with
 | .bool true=>
 aa (some (f,h)) fun dU h=>
 aa (some ((.int .i64 (-1)),h)) fun b h=>
 aa (some (dU,h)) fun c h=>
 some (.tuple #[b,c],h)
 | .bool false=>
 aa (some (x0,h)) fun dI h=>
 aa (pu (nilCheckA dI) h) fun ee h=>
 aa (pu (aC ee 2) h) fun v h=>
 aa (bQ 3 v h) fun w h=>
 aa (C 123 [w] h) fun y h=>
 aa (cO [(.int .u64 0),(.map none),(.map none)] h) fun a h=>
 aa (bI 3 a y h) fun _ h=>
 aa (some (x2,h)) fun z h=>
 aa (callA prog C z [a] h) fun T h=>
 aa (pu (aC a 1) h) fun A h=>
 aa (ld1 A h) fun B h=>
 aa (C 124 [B] h) fun D h=>
 aa (some (D,h)) fun E h=>
 aa (some (x0,h)) fun F h=>
 aa (some (x1,h)) fun G h=>
 aa (C 59 [F,a,G] h) fun H h=>
 aa (some (H,h)) fun I h=>
 aa (some (I,h)) fun J h=>
 aa (pu (aA prog .eql 25 J (.int .i64 0)) h) fun K h=>
 (match K with
 | .bool true=>
 aa (some (x0,h)) fun gP h=>
 aa (bQ 3 a h) fun fU h=>
 aa (pu (nilCheckA gP) h) fun fD h=>
 aa (pu (aC fD 2) h) fun U h=>
 aa (bI 3 U fU h) fun _ h=>
 aa (some ((.int .i64 (-1)),h)) fun b h=>
 aa (some ((.int .i64 0),h)) fun c h=>
 some (.tuple #[b,c],h)
 | .bool false=>
 aa (some (E,h)) fun L h=>
 aa (rangeA prog 123 L h) fun V h=>
 dH (iter (codeA prog C (aq f62 [1,1,1,1,1,1,1,1,1,0,1,0,0])) az (aS 76 (up (bs [x0,x1,x2]) [(6,M),(7,N),(8,q),(9,I),(10,a),(11,E),(15,d),(16,g),(17,j),(18,k),(19,l),(20,m),(21,n),(22,o),(23,p),(24,r),(25,s),(32,t),(33,u),(35,dI),(36,ee),(37,v),(38,w),(39,y),(40,z),(41,T),(42,A),(43,B),(44,D),(45,F),(46,G),(47,H),(48,J),(49,K),(54,L),(55,V)])) h) (resultsA prog f62.results.toList) (b62_19 C)
 |_=>none)
 |_=>none)
 |_=>none)
def t62_eq:aV prog C f62 [x0,x1,x2] h=t62 C x0 x1 x2 h:=
 lkT (by kernel_rfl) (by kernel_rfl)
def k3_14 (C:ah) (e:aO) (h:ae):aY:=codeK prog C (aq f3 [1,1,1,1,1,1,1,1,1]) e h (resultsA prog f3.results.toList) (resultsA prog f3.results.toList) (fun _ _ _=>none)
def b3_16 (C:ah) (i:Nat) (e:aO) (h:ae):aY:=if i=0 then (k3_14 C) e h else (fun _ _ _=>none) i e h
def um (C:ah) (e:aO) (h:ae):Option (Ex×aO×ae):=codeK prog C (aq f3 [1,1,1,1,1,1,1,1,0,1,0,0,1,1]) e h (fun e h=>some (Ex.normal,e,h)) (fun e h=>some (Ex.ret,e,h)) (fun i e h=>some (Ex.exit i,e,h))
def tn (C:ah) (i:Nat) (e:aO) (h:ae):Option (Ex×aO×ae):=if i=1 then (um C) e h else (fun i e h=>some (Ex.exit i,e,h)) i e h
def k3_23 (C:ah) (e:aO) (h:ae):Option (Ex×aO×ae):=codeK prog C (aq f3 [1,1,1,1,1,1,1,1,0,1,0,0,1,0,0,1]) e h (um C) (fun e h=>some (Ex.ret,e,h)) (tn C)
def b3_25 (C:ah) (i:Nat) (e:aO) (h:ae):Option (Ex×aO×ae):=if i=2 then (k3_23 C) e h else (tn C) i e h
def k3_26 (C:ah) (e:aO) (h:ae):Option (Ex×aO×ae):=codeK prog C (aq f3 [1,1,1,1,1,1,1,1,0,1,0,0,1,0,0,1,1]) e h (um C) (fun e h=>some (Ex.ret,e,h)) (tn C)
def b3_28 (C:ah) (i:Nat) (e:aO) (h:ae):Option (Ex×aO×ae):=if i=4 then (k3_26 C) e h else (tn C) i e h
def k3_34 (C:ah) (e:aO) (h:ae):Option (Ex×aO×ae):=codeK prog C (aq f3 [1,1,1,1,1,1,1,1,0,1,0,0,1,0,0,1,1,1,1]) e h (um C) (fun e h=>some (Ex.ret,e,h)) (tn C)
def b3_36 (C:ah) (i:Nat) (e:aO) (h:ae):Option (Ex×aO×ae):=if i=6 then (k3_34 C) e h else (tn C) i e h
def t3 (C:ah) (x0 x1:Vl) (h:ae):aY:=
 aa (some ((.bool false),h)) fun N h=>
 aa (some (x0,h)) fun j h=>
 aa (pu (cg j) h) fun k h=>
 aa (pu (aA prog .gtr 3 k (.int .i64 300)) h) fun l h=>
 (match l with
 | .bool true=>
 aa (C 12 [] h) fun O h=>
 aa (some (O,h)) fun a h=>
 some (a,h)
 | .bool false=>
 aa (C 13 [(.int .i64 64)] h) fun m h=>
 aa (some (m,h)) fun c h=>
 aa (pu (extractA c 0) h) fun n h=>
 aa (pu (extractA c 1) h) fun o h=>
 aa (some (n,h)) fun p h=>
 aa (some (o,h)) fun P h=>
 aa (some (p,h)) fun q h=>
 aa (C 14 [q,(.int .i64 1000)] h) fun r h=>
 aa (some (r,h)) fun d h=>
 aa (pu (extractA d 0) h) fun s h=>
 aa (pu (extractA d 1) h) fun t h=>
 aa (some (s,h)) fun u h=>
 aa (some (t,h)) fun v h=>
 aa (some (v,h)) fun w h=>
 aa (pu (aA prog .neq 25 w (.int .i64 0)) h) fun y h=>
 (match y with
 | .bool true=>
 aa (some ((.bool false),h)) fun a h=>
 some (a,h)
 | .bool false=>
 aa (some (x0,h)) fun z h=>
 aa (some (x1,h)) fun A h=>
 aa (C 15 [z,A] h) fun dU h=>
 aa (cO zlit1 h) fun b h=>
 aa (bI 71 b dU h) fun _ h=>
 aa (pu (aC b 32) h) fun ee h=>
 aa (bQ 37 ee h) fun B h=>
 aa (pu (aC b 69) h) fun D h=>
 aa (bQ 2 D h) fun E h=>
 aa (C 16 [B,E] h) fun F h=>
 aa (some (F,h)) fun dI h=>
 aa (pu (extractA dI 0) h) fun G h=>
 aa (pu (extractA dI 1) h) fun H h=>
 aa (cO dP h) fun f h=>
 aa (cO [(.int .i64 0),(.slice none 0 0)] h) fun g h=>
 aa (bI 37 f G h) fun _ h=>
 aa (bI 2 g H h) fun _ h=>
 aa (some (u,h)) fun I h=>
 aa (bQ 37 f h) fun J h=>
 aa (bQ 2 g h) fun K h=>
 aa (C 17 [I,J,K] h) fun L h=>
 aa (pu (aA prog .neq 25 L (.int .i64 0)) h) fun M h=>
 (match M with
 | .bool true=>
 aa (some ((.bool false),h)) fun a h=>
 some (a,h)
 | .bool false=>
 aa (some ((.int .i64 0),h)) fun Q h=>
 dH (iter (codeA prog C (aq f3 [1,1,1,1,1,1,1,1,0,1,0,0])) az (aS 133 (up (bs [x0,x1]) [(4,N),(5,p),(6,P),(7,u),(8,v),(9,b),(10,f),(11,g),(12,Q),(17,j),(18,k),(19,l),(21,c),(22,m),(23,n),(24,o),(25,d),(26,q),(27,r),(28,s),(29,t),(30,w),(31,y),(32,z),(33,A),(34,dU),(35,dI),(36,ee),(37,B),(38,D),(39,E),(40,F),(41,G),(42,H),(43,I),(44,J),(45,K),(46,L),(47,M)])) h) (resultsA prog f3.results.toList) (b3_16 C)
 |_=>none)
 |_=>none)
 |_=>none)
def wL (C:ah) (x:Nat->Vl) (h:ae):aY:=
 let g18_0:=h
 aa (some ((x 7),g18_0)) fun f g18_1=>
 aa (C 18 [f] g18_1) fun g g18_2=>
 aa (pu (cg g) g18_2) fun j g18_3=>
 aa (pu (aA prog .eql 3 j (.int .i64 1)) g18_3) fun k g18_4=>
 aa (some (k,g18_4)) fun a g18_5=>
 aa (al (bt a==some true) (some ((x 7),g18_5)) g18_5) fun l g18_6=>
 aa (al (bt a==some true) (C 18 [l] g18_6) g18_6) fun m g18_7=>
 aa (al (bt a==some true) (pu (idxS 32 m (.int .i64 0)) g18_7) g18_7) fun n g18_8=>
 aa (al (bt a==some true) (bQ 32 n g18_8) g18_8) fun o g18_9=>
 aa (al (bt a==some true) (pu (aC (x 9) 0) g18_9) g18_9) fun b g18_10=>
 aa (al (bt a==some true) (bQ 32 b g18_10) g18_10) fun c g18_11=>
 aa (al (bt a==some true) (pu (aA prog .eql 32 o c) g18_11) g18_11) fun p g18_12=>
 aa (match a with | .bool t=>some (if t then p else (.bool false),g18_12)|_=>none) fun q g18_13=>
 aa (some (q,g18_13)) fun d g18_14=>
 aa (al (bt d==some true) (C 12 [] g18_14) g18_14) fun r g18_15=>
 aa (match d with | .bool t=>some (if t then r else (.bool false),g18_15)|_=>none) fun s g18_16=>
 aa (some (s,g18_16)) fun u g18_17=>
 (match (dW (bt a==some true) (bQ 32 b g18_6) c&&true) with
 |true=>
 let h:=g18_17
 some (u,h)
 |false=>none)
def dV (C:ah) (x:Nat->Vl) (h:ae):Option (Ex×aO×ae):=
 aa (some ((x 12),h)) fun a h=>
 aa (pu (aA prog .lss 3 a (.int .i64 2)) h) fun b h=>
 (match b with
 | .bool true=>
 aa (some ((.int .i64 0),h)) fun c h=>
 dH (iter (codeA prog C (aq f3 [1,1,1,1,1,1,1,1,0,1,0,0,1,0,0,0,1,0,0])) az (aS 133 (up x [(13,c),(48,a),(49,b)])) h) (fun e h=>some (Ex.ret,e,h)) (b3_25 C)
 | .bool false=>
 some (.exit 0,(aS 133 (up x [(48,a),(49,b)])),h)
 |_=>none)
def wO (C:ah) (x:Nat->Vl) (h:ae):Option (Ex×aO×ae):=
 aa (some ((x 12),h)) fun gP h=>
 aa (pu (aA prog .add 3 gP (.int .i64 1)) h) fun fU h=>
 aa (some (fU,h)) fun a h=>
 some (.normal,(aS 133 (up x [(12,a),(50,gP),(51,fU)])),h)
def CH (C:ah) (x:Nat->Vl) (h:ae):Option (Ex×aO×ae):=
 aa (some ((.int .i64 0),h)) fun a h=>
 dH (iter (codeA prog C (aq f3 [1,1,1,1,1,1,1,1,0,1,0,0,1,0,0,1,0,1,0,0])) az (aS 133 (up x [(14,a)])) h) (fun e h=>some (Ex.ret,e,h)) (b3_28 C)
def fe (C:ah) (x:Nat->Vl) (h:ae):Option (Ex×aO×ae):=
 aa (some ((x 13),h)) fun fD h=>
 aa (pu (aC (x 10) 36) h) fun a h=>
 aa (ld1 a h) fun b h=>
 aa (pu (cg b) h) fun c h=>
 aa (pu (aA prog .lss 3 fD c) h) fun d h=>
 (match d with
 | .bool true=>
 aa (pu (aC (x 10) 36) h) fun f h=>
 aa (ld1 f h) fun g h=>
 aa (some ((x 13),h)) fun j h=>
 aa (pu (cN (List.replicate 32 (.int .u8 0)) []) h) fun k h=>
 aa (pu (idxS 32 g j) h) fun l h=>
 aa (bI 32 l k h) fun _ h=>
 aa (some ((x 13),h)) fun m h=>
 aa (pu (aA prog .add 3 m (.int .i64 1)) h) fun n h=>
 aa (some (n,h)) fun o h=>
 some (.normal,(aS 133 (up x [(13,o),(52,fD),(53,a),(54,b),(55,c),(56,d),(57,m),(58,n),(59,f),(60,g),(61,j),(62,k),(63,l)])),h)
 | .bool false=>
 some (.exit 2,(aS 133 (up x [(52,fD),(53,a),(54,b),(55,c),(56,d)])),h)
 |_=>none)
def Bm (C:ah) (x:Nat->Vl) (h:ae):Option (Ex×aO×ae):=
 aa (some ((x 7),h)) fun a h=>
 aa (C 18 [a] h) fun b h=>
 aa (some (b,h)) fun c h=>
 aa (some ((.int .i64 0),h)) fun d h=>
 dH (iter (codeA prog C (aq f3 [1,1,1,1,1,1,1,1,0,1,0,0,1,0,0,1,1,1,0,1,0,0])) az (aS 133 (up x [(15,c),(16,d),(78,a),(79,b)])) h) (fun e h=>some (Ex.ret,e,h)) (b3_36 C)
def eU (C:ah) (x:Nat->Vl) (h:ae):Option (Ex×aO×ae):=
 aa (some ((x 14),h)) fun a h=>
 aa (pu (aC (x 11) 1) h) fun b h=>
 aa (ld1 b h) fun c h=>
 aa (pu (cg c) h) fun d h=>
 aa (pu (aA prog .lss 3 a d) h) fun f h=>
 (match f with
 | .bool true=>
 aa (pu (aC (x 11) 1) h) fun k h=>
 aa (ld1 k h) fun g h=>
 aa (some ((x 14),h)) fun j h=>
 aa (pu (idxS 1 g j) h) fun l h=>
 aa (ld1 l h) fun m h=>
 aa (pu (aA prog .xor 5 m (.int .u8 255)) h) fun n h=>
 aa (pu (idxS 1 g j) h) fun o h=>
 aa (bI 1 o n h) fun _ h=>
 aa (some ((x 14),h)) fun p h=>
 aa (pu (aA prog .add 3 p (.int .i64 1)) h) fun q h=>
 aa (some (q,h)) fun r h=>
 some (.normal,(aS 133 (up x [(14,r),(64,a),(65,b),(66,c),(67,d),(68,f),(69,p),(70,q),(71,k),(72,g),(73,j),(74,l),(75,m),(76,n),(77,o)])),h)
 | .bool false=>
 some (.exit 4,(aS 133 (up x [(64,a),(65,b),(66,c),(67,d),(68,f)])),h)
 |_=>none)
def Da (C:ah) (x:Nat->Vl) (h:ae):Option (Ex×aO×ae):=
 aa (some ((x 7),h)) fun d h=>
 aa (pu (aC (x 9) 0) h) fun f h=>
 aa (bQ 32 f h) fun g h=>
 aa (C 19 [d,g] h) fun j h=>
 aa (some (j,h)) fun c h=>
 aa (pu (extractA c 0) h) fun k h=>
 aa (pu (extractA c 1) h) fun l h=>
 aa (pu (extractA c 2) h) fun m h=>
 aa (bI 37 (x 10) k h) fun _ h=>
 aa (bI 2 (x 11) l h) fun _ h=>
 aa (some (m,h)) fun n h=>
 aa (some (n,h)) fun o h=>
 aa (pu (aA prog .neq 25 o (.int .i64 0)) h) fun p h=>
 aa (some (p,h)) fun b h=>
 aa (al (bt b==some false) (bQ 37 (x 10) h) h) fun q h=>
 aa (al (bt b==some false) (pu (aC (x 9) 32) h) h) fun r h=>
 aa (al (bt b==some false) (bQ 37 r h) h) fun s h=>
 aa (al (bt b==some false) (C 20 [q,s] h) h) fun u h=>
 aa (al (bt b==some false) (pu (unA .not u) h) h) fun oR h=>
 aa (match b with | .bool t=>some (if t then (.bool true) else oR,h)|_=>none) fun rp h=>
 aa (some (rp,h)) fun a h=>
 aa (al (bt a==some false) (pu (aC (x 11) 1) h) h) fun v h=>
 aa (al (bt a==some false) (ld1 v h) h) fun w h=>
 aa (al (bt a==some false) (cvBS w h) h) fun y h=>
 aa (al (bt a==some false) (pu (aC (x 9) 69) h) h) fun z h=>
 aa (al (bt a==some false) (pu (aC z 1) h) h) fun A h=>
 aa (al (bt a==some false) (ld1 A h) h) fun B h=>
 aa (al (bt a==some false) (cvBS B h) h) fun D h=>
 aa (al (bt a==some false) (pu (aA prog .neq 9 y D) h) h) fun E h=>
 aa (match a with | .bool t=>some (if t then (.bool true) else E,h)|_=>none) fun F h=>
 (match F with
 | .bool true=>
 aa (some ((.bool false),h)) fun G h=>
 some (.ret,(aS 133 (up x [(4,G),(8,n),(90,c),(91,d),(92,f),(93,g),(94,j),(95,k),(96,l),(97,m),(98,o),(99,p),(100,b),(101,q),(102,r),(103,s),(104,u),(105,oR),(106,rp),(107,a),(108,v),(109,w),(110,y),(111,z),(112,A),(113,B),(114,D),(115,E),(116,F)])),h)
 | .bool false=>
 um C (aS 133 (up x [(8,n),(90,c),(91,d),(92,f),(93,g),(94,j),(95,k),(96,l),(97,m),(98,o),(99,p),(100,b),(101,q),(102,r),(103,s),(104,u),(105,oR),(106,rp),(107,a),(108,v),(109,w),(110,y),(111,z),(112,A),(113,B),(114,D),(115,E),(116,F)])) h
 |_=>none)
def ed (C:ah) (x:Nat->Vl) (h:ae):Option (Ex×aO×ae):=
 aa (some ((x 16),h)) fun a h=>
 aa (some ((x 15),h)) fun b h=>
 aa (pu (cg b) h) fun c h=>
 aa (pu (aA prog .lss 3 a c) h) fun d h=>
 (match d with
 | .bool true=>
 aa (some ((x 15),h)) fun f h=>
 aa (some ((x 16),h)) fun g h=>
 aa (pu (cN (List.replicate 32 (.int .u8 0)) []) h) fun j h=>
 aa (pu (idxS 32 f g) h) fun k h=>
 aa (bI 32 k j h) fun _ h=>
 aa (some ((x 16),h)) fun l h=>
 aa (pu (aA prog .add 3 l (.int .i64 1)) h) fun m h=>
 aa (some (m,h)) fun n h=>
 some (.normal,(aS 133 (up x [(16,n),(80,a),(81,b),(82,c),(83,d),(84,l),(85,m),(86,f),(87,g),(88,j),(89,k)])),h)
 | .bool false=>
 some (.exit 6,(aS 133 (up x [(80,a),(81,b),(82,c),(83,d)])),h)
 |_=>none)
def t3_eq:aV prog C f3 [x0,x1] h=t3 C x0 x1 h:=
 lkT (by kernel_rfl) (by kernel_rfl)
def t3k3_14_eq:k3_14 C (aS 133 x) h=wL C x h:=
 bg (T:=wL C) (fun x h=>by kernel_rfl) x h
def rz:codeA prog C (aq f3 [1,1,1,1,1,1,1,1,0,1,0,0]) (aS 133 x) h=dV C x h:=
 aW (T:=dV C) (fun x h=>by kernel_rfl) x h
def t3k3_21_eq:um C (aS 133 x) h=wO C x h:=
 bg (T:=wO C) (fun x h=>by kernel_rfl) x h
def t3k3_23_eq:k3_23 C (aS 133 x) h=CH C x h:=
 bg (T:=CH C) (fun x h=>by kernel_rfl) x h
def lK:codeA prog C (aq f3 [1,1,1,1,1,1,1,1,0,1,0,0,1,0,0,0,1,0,0]) (aS 133 x) h=fe C x h:=
 aW (T:=fe C) (fun x h=>by kernel_rfl) x h
def t3k3_26_eq:k3_26 C (aS 133 x) h=Bm C x h:=
 bg (T:=Bm C) (fun x h=>by kernel_rfl) x h
def kF:codeA prog C (aq f3 [1,1,1,1,1,1,1,1,0,1,0,0,1,0,0,1,0,1,0,0]) (aS 133 x) h=eU C x h:=
 aW (T:=eU C) (fun x h=>by kernel_rfl) x h
def t3k3_34_eq:k3_34 C (aS 133 x) h=Da C x h:=
 bg (T:=Da C) (fun x h=>by kernel_rfl) x h
def jT:codeA prog C (aq f3 [1,1,1,1,1,1,1,1,0,1,0,0,1,0,0,1,1,1,0,1,0,0]) (aS 133 x) h=ed C x h:=
 aW (T:=ed C) (fun x h=>by kernel_rfl) x h
end
section
variable (C:ah) (x:Nat->Vl) (x0 x1 x2 x3 x4 x5:Vl) (h:ae)
def t64 (C:ah) (x0:Vl) (h:ae):aY:=
 aa (some ((.slice none 0 0),h)) fun f h=>
 aa (some (x0,h)) fun a h=>
 aa (C 126 [a] h) fun b h=>
 aa (C 125 [b,(.func (.func 127) #[] #[])] h) fun c h=>
 aa (some (c,h)) fun d h=>
 some (d,h)
def t64_eq:aV prog C f64 [x0] h=t64 C x0 h:=
 lkT (by kernel_rfl) (by kernel_rfl)
def t80 (C:ah) (x0:Vl) (h:ae):aY:=
 aa (some ((.slice none 0 0),h)) fun f h=>
 aa (some (x0,h)) fun a h=>
 aa (C 134 [a] h) fun b h=>
 aa (C 125 [b,(.func (.func 135) #[] #[])] h) fun c h=>
 aa (some (c,h)) fun d h=>
 some (d,h)
def t80_eq:aV prog C f80 [x0] h=t80 C x0 h:=
 lkT (by kernel_rfl) (by kernel_rfl)
def t125 (C:ah) (x0 x1:Vl) (h:ae):aY:=
 aa (some ((.slice none 0 0),h)) fun k h=>
 aa (some (x0,h)) fun b h=>
 aa (C 184 [b] h) fun c h=>
 aa (some (c,h)) fun a h=>
 aa (some (a,h)) fun d h=>
 aa (some (x1,h)) fun f h=>
 aa (C 185 [d,f] h) fun l h=>
 aa (some (a,h)) fun g h=>
 aa (some (g,h)) fun j h=>
 some (j,h)
def t125_eq:aV prog C f125 [x0,x1] h=t125 C x0 x1 h:=
 lkT (by kernel_rfl) (by kernel_rfl)
def t184 (C:ah) (x0:Vl) (h:ae):aY:=
 aa (some ((.slice none 0 0),h)) fun d h=>
 aa (some (x0,h)) fun a h=>
 aa (C 212 [(.slice none 0 0),a] h) fun b h=>
 aa (some (b,h)) fun c h=>
 some (c,h)
def t184_eq:aV prog C f184 [x0] h=t184 C x0 h:=
 lkT (by kernel_rfl) (by kernel_rfl)
def b186_1 (C:ah) (i:Nat) (e:aO) (h:ae):aY:=if i=0 then (resultsA prog f186.results.toList) e h else (fun _ _ _=>none) i e h
def t186 (C:ah) (x0 x1:Vl) (h:ae):aY:=
 aa (ld1 x1 h) fun a h=>
 aa (rangeA prog 123 a h) fun b h=>
 dH (iter (codeA prog C (aq f186 [1,0,0])) az (aS 14 (up (bs [x0,x1]) [(4,a),(5,b)])) h) (resultsA prog f186.results.toList) (b186_1 C)
def j0 (C:ah) (x:Nat->Vl) (h:ae):Option (Ex×aO×ae):=
 aa (nextA (x 5) false h) fun a h=>
 aa (pu (extractA a 0) h) fun b h=>
 (match b with
 | .bool true=>
 aa (entryA (x 5) h) fun d h=>
 aa (pu (extractA d 0) h) fun f h=>
 aa (cO (List.replicate 32 (.int .u8 0)) h) fun c h=>
 aa (bI 32 c f h) fun _ h=>
 aa (some ((x 0),h)) fun g h=>
 aa (bQ 32 c h) fun j h=>
 aa (callA prog C g [j] h) fun k h=>
 aa (pu (unA .not k) h) fun l h=>
 (match l with
 | .bool true=>
 some (.ret,(aS 14 (up x [(3,c),(6,a),(7,b),(8,d),(9,f),(10,g),(11,j),(12,k),(13,l)])),h)
 | .bool false=>
 some (.normal,(aS 14 (up x [(3,c),(6,a),(7,b),(8,d),(9,f),(10,g),(11,j),(12,k),(13,l)])),h)
 |_=>none)
 | .bool false=>
 some (.exit 0,(aS 14 (up x [(6,a),(7,b)])),h)
 |_=>none)
def t186_eq:aV prog C f186 [x0,x1] h=t186 C x0 x1 h:=
 lkT (by kernel_rfl) (by kernel_rfl)
def pB:codeA prog C (aq f186 [1,0,0]) (aS 14 x) h=j0 C x h:=
 aW (T:=j0 C) (fun x h=>by kernel_rfl) x h
def b188_1 (C:ah) (i:Nat) (e:aO) (h:ae):aY:=if i=0 then (resultsA prog f188.results.toList) e h else (fun _ _ _=>none) i e h
def t188 (C:ah) (x0 x1:Vl) (h:ae):aY:=
 aa (ld1 x1 h) fun a h=>
 aa (rangeA prog 124 a h) fun b h=>
 dH (iter (codeA prog C (aq f188 [1,0,0])) az (aS 14 (up (bs [x0,x1]) [(4,a),(5,b)])) h) (resultsA prog f188.results.toList) (b188_1 C)
def ql (C:ah) (x:Nat->Vl) (h:ae):Option (Ex×aO×ae):=
 aa (nextA (x 5) false h) fun a h=>
 aa (pu (extractA a 0) h) fun b h=>
 (match b with
 | .bool true=>
 aa (entryA (x 5) h) fun d h=>
 aa (pu (extractA d 0) h) fun f h=>
 aa (cO (List.replicate 32 (.int .u8 0)) h) fun c h=>
 aa (bI 32 c f h) fun _ h=>
 aa (some ((x 0),h)) fun g h=>
 aa (bQ 32 c h) fun j h=>
 aa (callA prog C g [j] h) fun k h=>
 aa (pu (unA .not k) h) fun l h=>
 (match l with
 | .bool true=>
 some (.ret,(aS 14 (up x [(3,c),(6,a),(7,b),(8,d),(9,f),(10,g),(11,j),(12,k),(13,l)])),h)
 | .bool false=>
 some (.normal,(aS 14 (up x [(3,c),(6,a),(7,b),(8,d),(9,f),(10,g),(11,j),(12,k),(13,l)])),h)
 |_=>none)
 | .bool false=>
 some (.exit 0,(aS 14 (up x [(6,a),(7,b)])),h)
 |_=>none)
def t188_eq:aV prog C f188 [x0,x1] h=t188 C x0 x1 h:=
 lkT (by kernel_rfl) (by kernel_rfl)
def xz:codeA prog C (aq f188 [1,0,0]) (aS 14 x) h=ql C x h:=
 aW (T:=ql C) (fun x h=>by kernel_rfl) x h
end
end
end Go.Proofs.YtdhpgacmgebjdaaGreatDoor.W
namespace Go.Proofs.YtdhpgacmgebjdaaGreatDoor.W
open Go Go.Abs Tryz R
noncomputable section
section
attribute [local congr] ax
structure It where
 at_:Int
 cm:Nat
 size:Nat
def itC (x:It):List Vl := [.int .i64 x.at_,aj x.cm,aj x.size]
abbrev oZ (x:It):Vl := .agg (itC x).toArray
abbrev grV (_:Unit):Vl := .bool true
def oU:mapT prog 123=some (32,136):=by kernel_rfl
def map124:mapT prog 124=some (32,4):=by kernel_rfl
abbrev zI:It:=⟨0,0,0⟩
def zero136:jr prog 136=some (oZ zI):=by kernel_rfl
def zero4:jr prog 4=some (.bool false):=by kernel_rfl
def itG (x:It):ground (oZ x)=true:=rfl
structure Ss where
 s:Nat
 j:Nat
 d:Nat
 im:Nat
 gm:Nat
 quota:Int
 inc:Nat
 items:DM It
 graves:DM Unit
 cur:Vl
 cd:Option (List Nat)
 D:Dk
 J:Jn
def Ss.cells (S:Ss):eh := [ptr S.j 0,.int .i64 S.quota,.int .u64 (S.inc:Int),.map (some S.im),.map (some S.gm),S.cur]
def yi (h:ae) (cur:Vl) (cd:Option (List Nat)):Prop:=(cur = .pointer none/\cd=none) \/ ∃ b id,cur=ptr b 0/\cd=some id/\h.get b=some (bJ id)/\fO id
def yi.old {h g:ae} {cur:Vl} {cd:Option (List Nat)} (x:yi h cur cd) (o:aK h g):yi g cur cd:=by
 rcases x with x|⟨b,id,h1,h2,h3,h4⟩
 ·exact .inl x
 ·exact .inr ⟨b,id,h1,h2,aK.get o h3,h4⟩
structure iA (h:ae) (S:Ss):Prop where
 c:h.get S.s=some S.cells
 n0:h.n0<=S.s
 dk:bC h S.d S.D
 jn:cA h S.j S.d S.J
 ok:oS S.J S.D
 n2:2<=S.D.n
 it:ij oZ h S.im S.items
 gr:ij grV h S.gm S.graves
 im0:h.n0<=S.im
 gm0:h.n0<=S.gm
 ne:S.im≠S.gm
 sd:S.s≠S.d
 sb:S.s≠S.D.bb
 sj:S.s≠S.j
 cu:yi h S.cur S.cd
 inc:S.inc<18446744073709551616
def iA.old {h g:ae} {S:Ss} (x:iA h S) (o:aK h g):iA g S:=
 ⟨aK.get o x.c,by rw [o.n0];exact x.n0,aK.dk o x.dk,x.jn.keep o (fun q=>q),x.ok,x.n2,x.it.old o,x.gr.old o,by rw [o.n0];exact x.im0,by rw [o.n0];exact x.gm0,x.ne,x.sd,x.sb,x.sj,x.cu.old o,x.inc⟩
section
variable {h:ae} {S:Ss} (x:iA h S)
include x
def iA.l0:ld1 (ptr S.s 0) h=some (ptr S.j 0,h):=aH x.c rfl
def iA.l1:ld1 (ptr S.s 1) h=some (.int .i64 S.quota,h):=aH x.c rfl
def iA.l3:ld1 (ptr S.s 3) h=some (.map (some S.im),h):=aH x.c rfl
def iA.l4:ld1 (ptr S.s 4) h=some (.map (some S.gm),h):=aH x.c rfl
end
def Ss.up (S:Ss):Bool:=S.J.live S.D&&decide (0<S.D.ar)
def nil28 (b o:Nat):aA prog .eql 28 (ptr b o) (.pointer none)=some (.bool false):=by kernel_rfl
def eql3i (a b:Int):aA prog .eql 3 (.int .i64 a) (.int .i64 b)=some (.bool (a==b)):=eQ ..
section
variable {Z:ah} (z:ZOk Z) {h:ae} (hG:3<=h.n0) {S:Ss} (x:iA h S)
include z hG x
def r60:CV Z 60 [ptr S.s 0] h=some (.int .i64 (if S.up then 0 else 9),h):=by
 have e1:=jP z hG (by rfl) (r115 x.dk x.jn x.n2);refine bX z is60 rfl ((t60_eq _ _ _).trans ?_);unfold t60 Ss.up;cases hl:S.J.live S.D with
 |false=>
  rw [hl] at e1;have e1:CV Z 115 [ptr S.j 0] h=some (.int .i64 0,h):=e1;simp -implicitDefEqProofs only [nil28,av,aw,DC,x.l0,e1,eql3i,DP,E0,DS,DB,af,ak]
 |true=>
  rw [hl] at e1;have e1:CV Z 115 [ptr S.j 0] h=some (.int .i64 (S.D.ar:Int),h):=e1;by_cases h0:0<S.D.ar
  ·have hb:((S.D.ar:Int)==0)=false:=by rw [GS];omega
   simp -implicitDefEqProofs only [nil28,av,aw,DC,x.l0,e1,eql3i,hb,DN h0,EU,DV,af,ak]
  ·have hb:((S.D.ar:Int)==0)=true:=by rw [beq_iff_eq];omega
   simp -implicitDefEqProofs only [nil28,av,aw,DC,x.l0,e1,eql3i,hb,DW h0,EU,DS,DB,af,ak]
end
def is18:bE prog 18 f18 := .of (by kernel_rfl)
def n90:((9:Int) != 0)=true:=rfl
def n00:((0:Int) != 0)=false:=rfl
def it_box (y:It) (h:ae) : ∃ h1 h2,cO [(.int .i64 0),(.int .i64 0),(.int .i64 0)] h=some (ptr h.next 0,h1)/\bI 3 (ptr h.next 0) (oZ y) h1=some (undef,h2)/\aK h h2/\h2.get h.next=some (itC y)/\h2.next=h.next+1:=by obtain ⟨h1,z1,o1,g1,n1⟩:=fresh [(.int .i64 0),(.int .i64 0),(.int .i64 0)] h;obtain ⟨h2,t2,k2,g2,_,n2⟩:=aN (n:=3) (k':=itC y) g1 (by rw [o1.n0];exact h.n0_le_next) rfl rfl rfl;exact ⟨h1,h2,z1,t2,o1.also k2 (fun c hc q=>by subst q;omega),g2,by rw [n2,n1]⟩
def getD_map (o:Option It):(o.map oZ).getD (oZ zI)=oZ (o.getD zI):=by cases o<;>rfl
section
variable {Z:ah} (z:ZOk Z) {h:ae} (hG:3<=h.n0) {S:Ss} (x:iA h S)
include z hG x
end
section
variable {Z:ah} (z:ZS Z) {h:ae} (hG:3<=h.n0) {S:Ss} (x:iA h S)
include z hG x
end
end
section
attribute [local congr] ax
abbrev ZG:ah:=km [(163,s163),(231,s231),(185,yC)]
def cp:ZOk ZG:=⟨fx _ (by
 intro p hp;simp only [ER,ET,GX] at hp;rcases hp with rfl|rfl|rfl
 ·exact c163
 ·exact c231
 ·exact c185n),fun f args h e=>by
 show (if f=163 then s163 args h else if f=231 then s231 args h else if f=185 then yC args h else none)=none;rw [DL (by rintro rfl;cases e),DL (by rintro rfl;cases e),DL (by rintro rfl;cases e)]⟩
structure IsFd (h:ae) (fb:Nat):Prop where
 c:h.get fb=some zS
 n0:h.n0<=fb
def logs_ok:allB (fun i=>Nat.blt ((rq 255).getD i 0) 255) 256=true:=by kernel_rfl
def exps_ok:allB (fun i=>Nat.blt ((qf 255).getD i 0) 256) 510=true:=by kernel_rfl
def k1_log {a:Nat} (ha:a<256) : ∃ v,zS[513+a]? = some (aj v)/\v<255:=by
 have h1:=uM _ _ logs_ok a ha;refine ⟨(rq 255).getD a 0,?_,by simpa using h1⟩;have h2:((qf 255).map u8).length=510:=by rw [EB,qa]
 show ([Value.int .u32 1,.int .i32 0,.int .u32 0]++((qf 255).map u8++(rq 255).map aj))[513+a]? = _;rw [DX (by simp;omega),DX (by rw [h2];simp;omega),h2,D4];simp only [List.length_cons,List.length_nil];rw [show 513+a-(0+1+1+1)-510=a by omega,DK,DE (by rw [za];exact ha)];rfl
def k1_exp {i:Nat} (hi:i<510) : ∃ v,zS[3+i]? = some (u8 v)/\v<256:=by have h1:=uM _ _ exps_ok i hi;refine ⟨(qf 255).getD i 0,?_,by simpa using h1⟩;show ([Value.int .u32 1,.int .i32 0,.int .u32 0]++((qf 255).map u8++(rq 255).map aj))[3+i]? = _;rw [DX (by simp),EI (by rw [EB,qa];simp;omega),D4];simp only [List.length_cons,List.length_nil];rw [show 3+i-(0+1+1+1)=i by omega,DK,DE (by rw [qa];exact hi)];rfl
def zt (b o:Nat):aA prog .eql 114 (ptr b o) (.pointer none)=some (.bool false):=by kernel_rfl
def eq5 (a b:Nat):aA prog .eql 5 (u8 a) (.int .u8 (b:Int))=some (.bool (decide (a=b))):=by rw [eQ];refine FP (fun q=>some (Value.bool q)) ?_;rw [Bool.eq_iff_iff];simp;omega
def idx8 {N b o i:Nat} (hi:i<N):idxA N 1 (ptr b o) (u8 i)=some (ptr b (o+i)):=by unfold idxA;simp only [u8];rw [DH (by omega),Int.toNat_natCast,FG,aw]
section
variable {h:ae} {fb:Nat} (F:IsFd h fb)
include F
def r231:CV ZG 231 [ptr fb 0,.func (.func 232) #[ptr fb 0] #[]] h=some (.tuple #[],h):=by refine xY (Z:=ZG) (f:=231) (show s231 [ptr fb 0,.func (.func 232) #[ptr fb 0] #[]] h=some (.tuple #[],h) from ?_);show onceS COnce [ptr fb 0,.func (.func 232) #[ptr fb 0] #[]] h=some (.tuple #[],h);unfold onceS;simp only [ptr,F.c];rfl
def r207 {a x:Nat} (ha:a<256) (hx:x<256) : ∃ y,y<256/\CV ZG 207 [ptr fb 0,u8 a,u8 x] h=some (u8 y,h):=by
 have e0:(Value.int .u8 0)=u8 0:=rfl;by_cases a0:a=0
 ·refine ⟨0,by decide,bX cp is207 rfl ((Cy _ _ _ _ _).trans ?_)⟩;unfold t207;have q:aA prog .eql 5 (u8 a) (.int .u8 0)=some (.bool (decide (a=0))):=eq5 a 0;simp -implicitDefEqProofs only [zt,aR,DP,aD,q,a0,GQ,af,ak,DB,DS,DV];rfl
 by_cases x0:x=0
 ·refine ⟨0,by decide,bX cp is207 rfl ((Cy _ _ _ _ _).trans ?_)⟩;unfold t207;have q:aA prog .eql 5 (u8 a) (.int .u8 0)=some (.bool (decide (a=0))):=eq5 a 0;have q2:aA prog .eql 5 (u8 x) (.int .u8 0)=some (.bool (decide (x=0))):=eq5 x 0;simp -implicitDefEqProofs only [zt,aR,DP,aD,q,q2,a0,x0,GQ,FA,af,ak,DB,DS,DV];rfl
 ·obtain ⟨l1,c1,m1⟩:=k1_log ha;obtain ⟨l2,c2,m2⟩:=k1_log hx;obtain ⟨y,c3,m3⟩:=k1_exp (i:=l1+l2) (by omega);have e1:=aH F.c c1;have e2:=aH F.c c2;have e3:=aH F.c c3;have ad:aA prog .add 3 (aj l1) (aj l2)=some (aj (l1+l2)):=sn (by omega);refine ⟨y,m3,bX cp is207 rfl ((Cy _ _ _ _ _).trans ?_)⟩;unfold t207;have q:aA prog .eql 5 (u8 a) (.int .u8 0)=some (.bool (decide (a=0))):=eq5 a 0;have q2:aA prog .eql 5 (u8 x) (.int .u8 0)=some (.bool (decide (x=0))):=eq5 x 0;simp -implicitDefEqProofs only [zt,aR,DP,aD,q,q2,a0,x0,FA,af,ak,DB,DS,av,aw,DC,r231 F,idx8 ha,idx8 hx,e1,e2,ad,oT (show l1+l2<510 by omega),e3]
end
end
section
attribute [local congr] ax
def is165:bE prog 165 f165 := .of (by kernel_rfl)
def r162 (h:ae):CV ZG 162 [.int .i64 1,.int .i64 2] h=some (.bool true,h):=bX cp is162 rfl ((t162_eq _ _ _ _).trans (by kernel_rfl))
def u8_veq (n:Nat):veq (u8 n) (u8 n)=true:=by simp [Abs.veq,u8]
def r164 {h:ae} {b i:Nat} (hi:i<2) : ∃ g,CV ZG 164 [.agg #[.int .i64 2,.int .i64 1,.slice (some ⟨b,0,none⟩) 2 2],aj i] h=some (.slice (some ⟨b,i,none⟩) 1 1,g)/\aK h g/\g.next=h.next+1:=by
 have o:aK h (h.alloc [.int .i64 2,.int .i64 1,.slice (some ⟨b,0,none⟩) 2 2]):=au.alloc _ _ _;have g1:(h.alloc [.int .i64 2,.int .i64 1,.slice (some ⟨b,0,none⟩) 2 2]).get h.next=some [.int .i64 2,.int .i64 1,.slice (some ⟨b,0,none⟩) 2 2]:=by rw [ae.aZ,DH rfl]
 have e:box (.agg #[.int .i64 2,.int .i64 1,.slice (some ⟨b,0,none⟩) 2 2]) h=some (ptr h.next 0,h.alloc [.int .i64 2,.int .i64 1,.slice (some ⟨b,0,none⟩) 2 2]):=lC h _ rfl;refine ⟨_,bX cp is164 rfl ((t164_eq _ _ _ _).trans ?_),o,rfl⟩;generalize h.alloc [.int .i64 2,.int .i64 1,.slice (some ⟨b,0,none⟩) 2 2]=g at *;have l1:ld1 (ptr h.next 1) g=some (.int .i64 1,g):=aH g1 rfl;have l2:ld1 (ptr h.next 2) g=some (.slice (some ⟨b,0,none⟩) 2 2,g):=aH g1 rfl;unfold t164;obtain rfl|rfl:i=0\/i=1:=by omega
 ·have m0:aA prog .mul 3 (aj 0) (.int .i64 1)=some (.int .i64 0):=by kernel_rfl
  have m1:aA prog .add 3 (aj 0) (.int .i64 1)=some (.int .i64 1):=by kernel_rfl
  have m2:aA prog .mul 3 (.int .i64 1) (.int .i64 1)=some (.int .i64 1):=by kernel_rfl
  have sl:zR 1 (.slice (some ⟨b,0,none⟩) 2 2) (some (.int .i64 0)) (some (.int .i64 1)) (some (.int .i64 1))=some (.slice (some ⟨b,0,none⟩) 1 1):=by kernel_rfl
  simp -implicitDefEqProofs only [e,aw,DC,l1,l2,m0,m1,m2,sl,af,ak]
 ·have m0:aA prog .mul 3 (aj 1) (.int .i64 1)=some (.int .i64 1):=by kernel_rfl
  have m1:aA prog .add 3 (aj 1) (.int .i64 1)=some (.int .i64 2):=by kernel_rfl
  have m2:aA prog .mul 3 (.int .i64 2) (.int .i64 1)=some (.int .i64 2):=by kernel_rfl
  have sl:zR 1 (.slice (some ⟨b,0,none⟩) 2 2) (some (.int .i64 1)) (some (.int .i64 2)) (some (.int .i64 2))=some (.slice (some ⟨b,1,none⟩) 1 1):=by kernel_rfl
  simp -implicitDefEqProofs only [e,aw,DC,l1,l2,m0,m1,m2,sl,af,ak]
section
variable {h:ae} {fb b:Nat} {src:List Nat} {sa:Option Addr} {sc:Nat} {c:Nat}
def r165 (F:IsFd h fb) {l:List Nat} (hb:h.get b=some (bJ l)) (h0:h.n0<=b) (hl:uH l) (hs:ao sa l.length h=some src) (hne : ∀ y,sa=some y->0<l.length->y.block≠b) (hfb:fb≠b) (hc:c<256) (hn:l.length<=100000) :
  ∃ g l',CV ZG 165 [ptr fb 0,.slice (some ⟨b,0,none⟩) l.length l.length,.slice sa l.length sc,u8 c] h=some (.tuple #[],g)/\au h g (· = b)/\g.get b=some (bJ l')/\l'.length=l.length/\uH l'/\g.next=h.next:=by
 by_cases c0:c=0
 ·refine ⟨h,l,bX cp is165 rfl ((t165_eq _ _ _ _ _ _).trans ?_),au.refl _ _,hb,rfl,hl,rfl⟩;subst c0;have q:aA prog .eql 5 (u8 0) (.int .u8 0)=some (.bool true):=eq5 0 0;unfold t165;simp -implicitDefEqProofs only [q,af,ak]
 ·have key:Fin 30 (fun ex y g=>ex = .exit 0 /\ ∃ l',au h g (· = b)/\g.get b=some (bJ l')/\l'.length=l.length/\uH l'/\g.next=h.next)
    (iter (codeA prog (CV ZG) (aq f165 [1,1,0,0])) az (aS 30 (up (bs [ptr fb 0,.slice (some ⟨b,0,none⟩) l.length l.length,.slice sa l.length sc,u8 c]) [(10,u8 c),(11,.bool false),(12,.slice sa l.length sc),(13,aj l.length),(14,.int .i64 0)])) h):=by
   refine bL (vX (CV ZG)) (Inv:=fun k y g => ∃ i l',i+k=l.length/\y 0=ptr fb 0/\y 1 = .slice (some ⟨b,0,none⟩) l.length l.length/\y 3=u8 c/\y 12 = .slice sa l.length sc/\y 13=aj l.length/\y 14=aj i/\au h g (· = b)/\g.get b=some (bJ l')/\l'.length=l.length/\uH l'/\g.next=h.next) ?_ l.length (by have:az=18446744073709551616:=rfl;omega) ⟨0,l,DC _,rfl,rfl,rfl,rfl,rfl,rfl,au.refl _ _,hb,rfl,hl,rfl⟩;rintro k y g ⟨i,l',hik,y0,y1,y3,y12,y13,y14,K,gb,ln,bl,nx⟩;unfold ou;by_cases hi:i<l.length
   ·have hs2:ao sa l.length g=some src:=K.bytes hs fun y hy hn q=>hne y hy hn q;obtain ⟨sb,p,_,i1,i2⟩:=byte_at (c:=sc) hs2 hi;have hsb:=(ay hs).2.1;have hx:src.getD i 0<256:=by rw [DK,DE (by rw [(ay hs).1];omega)];exact hsb _ (GP _)
    have Fg:IsFd g fb:=⟨K.getE F.c hfb,by rw [K.n0];exact F.n0⟩
    obtain ⟨z,hz,e207⟩:=r207 Fg hc hx;have il:i<l'.length:=by omega
    have gi:(bJ l')[i]? = some (u8 l'[i]):=by rw [D4,DE il];rfl
    have lo:=aH gb gi;have lb:l'[i]<256:=bl _ (GP _);have xo:aA prog .xor 5 (u8 l'[i]) (u8 z)=some (u8 (l'[i] ^^^ z)):=iP prog 5 (k := .u8) rfl (a:=l'[i]) (b:=z) (by show _<2^8;omega) (by show _<2^8;omega);obtain ⟨g2,s2,k2,q2,_,n2⟩:=dr (o:=i) (v:=u8 (l'[i] ^^^ z)) gb (by rw [K.n0];exact h0) (by rw [EB];exact il) rfl rfl;have id:idxS 1 (.slice (some ⟨b,0,none⟩) l.length l.length) (aj i)=some (ptr b i):=by unfold idxS;simp only [aj];rw [DH (by omega),Int.toNat_natCast,FG,DC]
    have ck:dW true (some (u8 l'[i],g)) (u8 l'[i])=true:=dq rfl (u8_veq _);simp -implicitDefEqProofs only [y14,y13,gS,DN hi,y12,i1,i2,y1,id,lo,y0,y3,e207,xo,s2,ck,EJ,eW (show i+1<=9223372036854775807 by omega),af,ak];refine dE.next (k-1) (by omega) ⟨i+1,l'.set i (l'[i] ^^^ z),by omega,y0,y1,y3,y12,y13,rfl,K.trans k2,by rw [q2,<-List.map_set],by rw [GF,ln],?_,by rw [n2,nx]⟩;intro w hw;rcases GO hw with hw|rfl
    ·exact bl _ hw
    ·exact GM (n:=8) lb hz
   ·simp -implicitDefEqProofs only [y14,y13,gS,DW hi,af,ak];exact dE.out 0 ⟨rfl,l',K,gb,ln,bl,nx⟩
  obtain ⟨ex,y,g,e1,rfl,l',K,gb,ln,bl,nx⟩:=key;refine ⟨g,l',bX cp is165 rfl ((t165_eq _ _ _ _ _ _).trans ?_),K,gb,ln,bl,nx⟩;have q:aA prog .eql 5 (u8 c) (.int .u8 0)=some (.bool (decide (c=0))):=eq5 c 0;unfold t165;have hll:cg (.slice sa l.length sc)=some (aj l.length):=rfl;simp -implicitDefEqProofs only [q,c0,FA,hll,af,ak];rw [e1];rfl
end
end
section
attribute [local congr] ax
structure EE (fb ub mb pb l i:Nat) (y:Nat->Vl):Prop where
 y0:y 0=ptr fb 0
 y10:y 10=aj l
 y12:y 12 = .slice (some ⟨ub,0,none⟩) l l
 y13:y 13=ptr mb 0
 y15:y 15 = .slice (some ⟨pb,0,none⟩) 2 2
 y53:y 53=aj 2
 y54:y 54=aj i
structure EP (i db mp l:Nat) (y:Nat->Vl):Prop where
 y16:y 16=aj i
 y17:y 17 = .slice (some ⟨db,0,none⟩) l l
 y61:y 61 = .slice (some ⟨mp,i,none⟩) 1 1
 y62:y 62=aj 1
def mul1r (a:Nat) (ha:a<100000) (c:Int) (hc:c=0\/c=1):aA prog .mul 3 (.int .i64 c) (aj a)=some (aj (c.toNat*a)):=by
 unfold aj;rw [jM];rcases hc with rfl|rfl
 ·rw [bf (by omega) (by omega)];simp
 ·rw [bf (by omega) (by omega)];simp
def full_sl {ub l:Nat}:zR 1 (.slice (some ⟨ub,0,none⟩) l l) (some (aj 0)) (some (aj l)) none=some (.slice (some ⟨ub,0,none⟩) l l):=by
 show sliceSl 1 (.slice (some ⟨ub,0,none⟩) l l) (some (aj 0)) (some (aj l)) none=_;have hb:boundsA l l (some (aj 0)) (some (aj l)) none=some (0,l,l):=by
  unfold boundsA;have h1:boundA l l none=some l:=rfl;have h2:boundA l l (some (aj l))=some l:=by unfold boundA aj;simp
  have h3:boundA 0 l (some (aj 0))=some 0:=by unfold boundA aj;simp
  first
   |simp only [h1,h2,h3]
   | (rw [h1];simp only [h2,h3])
 unfold sliceSl;simp only [hb];simp
section
variable {g:ae} {fb ub mb pb mp db l i:Nat} {fl:List Nat}
def enc_in (F:IsFd g fb) (gf:g.get ub=some (bJ fl)) (fl0:fl.length=l) (flb:uH fl) (hl:l<=8192) (gm:g.get mp=some [u8 1,u8 1]) (hi:i<2) {dl:List Nat} (gd:g.get db=some (bJ dl)) (dn:dl.length=l) (dby:uH dl) (d0:g.n0<=db) (df:fb≠db) (du:ub≠db) (dm:mp≠db) {x:Nat->Vl} (E:EE fb ub mb pb l i x) (Q:EP i db mp l x) (x63:x 63=aj 0) :
  Fin 90 (fun ex y g'=>ex = .exit 2/\EE fb ub mb pb l i y/\EP i db mp l y /\ ∃ d,g'.get db=some (bJ d)/\d.length=l/\uH d/\au g g' (· = db)/\g'.next=g.next)
   (iter (codeA prog (CV ZG) (aq f104 [1,1,1,1,1,1,1,1,1,0,1,0,0,1,1,0,0,1,1,0,1,0,0])) az (aS 90 x) g):=by
 refine bL (iF (CV ZG)) (Inv:=fun k y g'=>EE fb ub mb pb l i y/\EP i db mp l y/\((k=1/\y 63=aj 0/\g'=g)\/(k=0/\y 63=aj 1 /\ ∃ d,g'.get db=some (bJ d)/\d.length=l/\uH d/\au g g' (· = db)/\g'.next=g.next))) ?_ 1 (by have:az=18446744073709551616:=rfl;omega) ⟨E,Q,.inl ⟨rfl,x63,rfl⟩⟩;rintro k y g' ⟨E,Q,⟨rfl,y63,rfl⟩|⟨rfl,y63,d,g1,g2,g3,g4,g5⟩⟩
 ·unfold cB;have ls:aA prog .lss 3 (aj 0) (aj 1)=some (.bool true):=by kernel_rfl
  have ix:idxS 1 (.slice (some ⟨mp,i,none⟩) 1 1) (aj 0)=some (ptr mp i):=rfl;have lw:ld1 (ptr mp i) g'=some (u8 1,g'):=aH gm (by rcases (by omega:i=0\/i=1) with rfl|rfl<;>rfl)
  have m0:aA prog .mul 3 (aj 0) (aj l)=some (aj 0):=by have:=mul1r l (by omega) 0 (.inl rfl);simpa using this
  have m1:aA prog .mul 3 (aj 1) (aj l)=some (aj l):=by have:=mul1r l (by omega) 1 (.inr rfl);simpa using this
  have a1:aA prog .add 3 (aj 0) (.int .i64 1)=some (aj 1):=by kernel_rfl
  have hs:ao (some ⟨ub,0,none⟩) l g'=some fl:=by rw [<-fl0];exact gN (A := []) (C := []) gf (by simp) rfl flb
  subst dn;obtain ⟨g2,d,e1,k1,q1,q2,q3,q4⟩:=r165 F (sc:=dl.length) gd d0 dby hs (fun y hy _=>by cases hy;exact du) df (c:=1) (by decide) (by omega);simp -implicitDefEqProofs only [y63,Q.y62,ls,Q.y61,ix,lw,E.y0,Q.y17,E.y12,E.y10,m0,a1,m1,full_sl,e1,af,ak];exact dE.next 0 (by omega) ⟨⟨E.y0,E.y10,E.y12,E.y13,E.y15,E.y53,E.y54⟩,⟨Q.y16,Q.y17,Q.y61,Q.y62⟩,.inr ⟨rfl,rfl,d,q1,q2,q3,k1,q4⟩⟩
 ·unfold cB;have ls:aA prog .lss 3 (aj 1) (aj 1)=some (.bool false):=by kernel_rfl
  simp -implicitDefEqProofs only [y63,Q.y62,ls,af,ak];exact dE.out 2 ⟨rfl,⟨E.y0,E.y10,E.y12,E.y13,E.y15,E.y53,E.y54⟩,⟨Q.y16,Q.y17,Q.y61,Q.y62⟩,d,g1,g2,g3,g4,g5⟩
end
end
section
attribute [local congr] ax
def st2 {h:ae} {b o:Nat} {k:eh} {p q:Vl} (hk:h.get b=some k) (h0:h.n0<=b) (hn:o+2<=k.length) (ho:aM [p,q]=true):bI 2 (ptr b o) (.agg #[p,q]) h=some (undef,h.set b (splice k o [p,q])):=by
 unfold bI ptr;have hc:(Value.agg #[p,q]).cells = #[p,q]:=rfl;simp only [hc,FR,List.length_cons,List.length_nil,DV];unfold stL;simp only [hk];rw [DH (by simp only [DD,DR];exact ⟨⟨h0,by simpa using hn⟩,ho⟩)]
 rfl
def b104_27' (C:ah) (e:aO) (h:ae):b104_27 C 2 e h=BJ C e h:=rfl
def b104_17' (C:ah) (e:aO) (h:ae):b104_17 C 0 e h=De C e h:=rfl
section
variable {g:ae} {fb ub mb pb mp l i:Nat} {fl:List Nat}
def enc_rd (hG:3<=g.n0) (F:IsFd g fb) (gf:g.get ub=some (bJ fl)) (fl0:fl.length=l) (flb:uH fl) (hl:l<=8192) (gM:g.get mb=some [.int .i64 2,.int .i64 1,.slice (some ⟨mp,0,none⟩) 2 2]) (gm:g.get mp=some [u8 1,u8 1]) {kp:eh} (gp:g.get pb=some kp) (kl:kp.length=4) (p0:g.n0<=pb) (nf:pb≠fb) (hi:i<2) {x:Nat->Vl} (E:EE fb ub mb pb l i x) :
  ∃ g' y d,dA (CV ZG) x g=some (.normal,aS 90 y,g')/\EE fb ub mb pb l (i+1) y/\au g g' (· = pb)/\g'.get g.next=some (bJ d)/\d.length=l/\uH d/\g'.get pb=some (splice kp (2*i) [aj i,.slice (some ⟨g.next,0,none⟩) l l])/\g.next<g'.next:=by
 have m1:=mk1 (h:=g) (DG l) (by omega);have o1:aK g (g.alloc (bJ (List.replicate l 0))):=au.alloc _ _ _;have q1:(g.alloc (bJ (List.replicate l 0))).get g.next=some (bJ (List.replicate l 0)):=by rw [ae.aZ,DH rfl]
 have n1:(g.alloc (bJ (List.replicate l 0))).next=g.next+1:=rfl;have m1:mkR 1 1 (.int .u8 0) (aj l) (aj l) g=some (.slice (some ⟨g.next,0,none⟩) l l,g.alloc (bJ (List.replicate l 0))):=m1;generalize g.alloc (bJ (List.replicate l 0))=g1 at *;have lM:bQ 3 (ptr mb 0) g1=some (.agg #[.int .i64 2,.int .i64 1,.slice (some ⟨mp,0,none⟩) 2 2],g1):=aP (aK.get o1 gM) rfl rfl;obtain ⟨g2,e2,o2,n2⟩:=r164 (h:=g1) (b:=mp) hi;have O2:=o1.trans o2;have F2:IsFd g2 fb:=⟨aK.get O2 F.c,by rw [O2.n0];exact F.n0⟩
 have lt:=fun {b:Nat} {k:eh} (e:g.get b=some k)=>g.aL e;have f1:=lt F.c;have f2:=lt gf;have f3:=lt gm;have f4:=lt gp;have ls:aA prog .lss 3 (aj i) (aj 2)=some (.bool true):=by rw [gS,DN hi]
 have hll:cg (.slice (some ⟨mp,i,none⟩) 1 1)=some (aj 1):=rfl;obtain ⟨ex,y,g3,e3,rfl,E3,Q3,d,g31,g32,g33,g34,g35⟩:=enc_in F2 (aK.get O2 gf) fl0 flb hl (aK.get O2 gm) hi (db:=g.next) (aK.get o2 q1) (by rw [GU]) (by intro w hw;rw [ES hw];decide) (by rw [O2.n0];exact g.n0_le_next) (by omega) (by omega) (by omega)
  (x:=up x [(16,aj i),(17,.slice (some ⟨g.next,0,none⟩) l l),(55,.bool true),(56,aj i),(57,aj l),(58,.slice (some ⟨g.next,0,none⟩) l l),(59,.agg #[.int .i64 2,.int .i64 1,.slice (some ⟨mp,0,none⟩) 2 2]),(60,aj i),(61,.slice (some ⟨mp,i,none⟩) 1 1),(62,aj 1),(63,.int .i64 0)])
  ⟨E.y0,E.y10,E.y12,E.y13,E.y15,E.y53,E.y54⟩ ⟨rfl,rfl,rfl,rfl⟩ rfl
 have O3:aK g g3:=aK.bB O2 g34 (by omega);have gp3:=aK.get O3 gp;have sp:=st2 (o:=2*i) (p:=aj i) (q := .slice (some ⟨g.next,0,none⟩) l l) gp3 (by rw [O3.n0];exact p0) (by omega) rfl;have bl:cN [(.int .i64 0),(.slice none 0 0)] [(0,1,aj i),(1,1,.slice (some ⟨g.next,0,none⟩) l l)]=some (.agg #[aj i,.slice (some ⟨g.next,0,none⟩) l l]):=rfl;have ix:idxS 2 (.slice (some ⟨pb,0,none⟩) 2 2) (aj i)=some (ptr pb (2*i)):=by unfold idxS;simp only [aj];rw [DH (by omega),Int.toNat_natCast,DC,II]
 have k4:au g3 (g3.set pb (splice kp (2*i) [aj i,.slice (some ⟨g.next,0,none⟩) l l])) (· = pb):=au.set (by rw [O3.n0];exact p0) gp3 (.inr rfl);refine ⟨g3.set pb (splice kp (2*i) [aj i,.slice (some ⟨g.next,0,none⟩) l l]),up (up y [(82,y 15),(83,aj i),(84,aj i),(85,.slice (some ⟨g.next,0,none⟩) l l),(86,.agg #[aj i,.slice (some ⟨g.next,0,none⟩) l l]),(87,ptr pb (2*i))]) [(54,aj (i+1)),(88,aj (i+1))],d,?_,⟨E3.y0,E3.y10,E3.y12,E3.y13,E3.y15,E3.y53,rfl⟩,(O3.mono (fun _ _ q=>q.elim)).trans k4,k4.getE g31 (by omega),g32,g33,ae.bO (by rw [O3.n0];exact p0) gp3 _,by show g.next<g3.next;omega⟩;unfold dA;simp -implicitDefEqProofs only [E.y54,E.y53,ls,E.y10,m1,E.y13,lM,e2,hll,af,ak];rw [e3];simp -implicitDefEqProofs only [bh,b104_27',xC];unfold qd;simp -implicitDefEqProofs only [E3.y15,Q3.y16,Q3.y17,bl,ix,sp,ze,af,ak];unfold pQ;have y54:up y [(82,.slice (some ⟨pb,0,none⟩) 2 2),(83,aj i),(84,aj i),(85,.slice (some ⟨g.next,0,none⟩) l l),(86,.agg #[aj i,.slice (some ⟨g.next,0,none⟩) l l]),(87,ptr pb (2*i))] 54=aj i:=E3.y54;simp -implicitDefEqProofs only [y54,eW (show i+1<=9223372036854775807 by omega),af,ak]
end
end
section
attribute [local congr] ax
def is104:bE prog 104 f104 := .of (by kernel_rfl)
def psize1 {l:Nat} (hl:l<=8192):rO 1 (l:Int)=(l:Int):=by unfold rO;rw [DL (by omega),show (l:Int)+1-1=l by omega];exact Int.tdiv_one _
structure Pcs (g:ae) (b:Nat) (d:List Nat) (l:Nat):Prop where
 c:g.get b=some (bJ d)
 len:d.length=l
 by_:uH d
abbrev mQ (b l:Nat):Vl := .slice (some ⟨b,0,none⟩) l l
def Pcs.old {g g':ae} {b l:Nat} {d:List Nat} (x:Pcs g b d l) {B:Nat->Prop} (k:au g g' B) (h : ¬B b):Pcs g' b d l:=⟨k.getE x.c h,x.len,x.by_⟩
def Pcs.bs {g:ae} {b l:Nat} {d:List Nat} (x:Pcs g b d l):BS g (mQ b l) d:=by obtain ⟨c,rfl,b⟩:=x;exact ⟨_,_,rfl,gN (A := []) (C := []) c (by simp) rfl b,fun _=>by simp [cw]⟩
abbrev pcK (v0 v1:Vl):eh := [aj 0,v0,aj 1,v1]
structure EncOk (h g:ae) (fb pb b0 b1 l:Nat) (d0 d1:List Nat):Prop where
 k:au h g (· = fb)
 pn:h.next<=pb
 n0:h.next<=b0
 n1:h.next<=b1
 P:g.get pb=some (pcK (mQ b0 l) (mQ b1 l))
 p0:Pcs g b0 d0 l
 p1:Pcs g b1 d1 l
 ne0:b0≠pb
 ne1:b1≠pb
 ne:b0≠b1
set_option maxRecDepth 100000 in
def r104 {h:ae} (T:RT h) {fb:Nat} (hf:h.get fb=some k0F) (f0:h.n0<=fb) {v:Vl} {dl:List Nat} (B:BS h v dl) (hl:dl.length<=8192) :
  ∃ g pb b0 b1 d0 d1,CV ZG 104 [ptr fb 0,.int .i64 1,.int .i64 2,v] h=some (.tuple #[.slice (some ⟨pb,0,none⟩) 2 2,.int .i64 0],g)/\EncOk h g fb pb b0 b1 dl.length d0 d1:=by
 obtain ⟨a,c,rfl,hs,_⟩:=B.ex;have hby:=(ay hs).2.1;generalize hL:dl.length=l at *;obtain ⟨e',e69⟩:=r69 1 l h;rw [psize1 hl] at e69;have e69:=jP cp T.n0 (by rfl) e69;have e69:CV ZG 69 [.int .i64 1,aj l] h=some (.tuple #[aj l,.int .i64 e'],h):=e69;have m1:aA prog .mul 3 (.int .i64 1) (aj l)=some (aj l):=by have:=mul1r l (by omega) 1 (.inr rfl);simpa using this
 have mk:=mk1 (h:=h) (DG l) (by omega);have o1:aK h (h.alloc (bJ (List.replicate l 0))):=au.alloc _ _ _;have q1:(h.alloc (bJ (List.replicate l 0))).get h.next=some (bJ (List.replicate l 0)):=by rw [ae.aZ,DH rfl]
 have n1:(h.alloc (bJ (List.replicate l 0))).next=h.next+1:=rfl;have mk:mkR 1 1 (.int .u8 0) (aj l) (aj l) h=some (mQ h.next l,h.alloc (bJ (List.replicate l 0))):=mk;generalize h.alloc (bJ (List.replicate l 0))=h1 at *;have hn0:=h.n0_le_next;have hfl:=h.aL hf;obtain ⟨h2,e2,z2,n2,q2,w2⟩:=jz (off:=0) (s:=none) (dl:=l) (dc:=l) (c:=c) q1 (by rw [o1.n0];omega) (aK.bytes o1 hs) (by rw [GU];omega);have k2:au h1 h2 (· = h.next):=⟨z2,by omega,fun b _ hb=>w2 b hb⟩
 have O2:aK h h2:=aK.bB o1 k2 (DG _);have fl0:(dx (List.replicate l 0) 0 (dl.take (min l l))).length=l:=by simp [dx,hL]
 have flb:uH (dx (List.replicate l 0) 0 (dl.take (min l l))):=by
  intro w hw;simp only [dx,List.take_zero,List.nil_append,D8] at hw;rcases hw with hw|hw
  ·exact hby w (D6 hw)
  ·rw [ES (EO hw)];decide
 generalize dx (List.replicate l 0) 0 (dl.take (min l l))=fl at *;have hf2:=aK.get O2 hf;have e3:s163 [ptr fb 0,.int .i64 1,.int .i64 2] h2=some (gV h2.next,(h2.set fb zS).alloc [.int .u8 1,.int .u8 1]):=s163_eq (by rw [O2.n0];exact f0) hf2;have e3:CV ZG 163 [ptr fb 0,.int .i64 1,.int .i64 2] h2=some (gV h2.next,(h2.set fb zS).alloc [.int .u8 1,.int .u8 1]):=xY (Z:=ZG) e3;have k3a:au h2 (h2.set fb zS) (· = fb):=au.set (by rw [O2.n0];exact f0) hf2 (.inr rfl);have o3:aK (h2.set fb zS) ((h2.set fb zS).alloc [.int .u8 1,.int .u8 1]):=au.alloc _ _ _;have k3:au h2 ((h2.set fb zS).alloc [.int .u8 1,.int .u8 1]) (· = fb):=k3a.trans (o3.mono (fun _ _ q=>q.elim));have f3:((h2.set fb zS).alloc [.int .u8 1,.int .u8 1]).get fb=some zS:=aK.get o3 (ae.bO (by rw [O2.n0];exact f0) hf2 _);have g3:((h2.set fb zS).alloc [.int .u8 1,.int .u8 1]).get h2.next=some [u8 1,u8 1]:=by rw [ae.aZ];exact DH rfl
 have n3:((h2.set fb zS).alloc [.int .u8 1,.int .u8 1]).next=h2.next+1:=rfl;generalize (h2.set fb zS).alloc [.int .u8 1,.int .u8 1]=h3 at *;have K3:au h h3 (· = fb):=(O2.mono (fun _ _ q=>q.elim)).trans k3;obtain ⟨h4,e4,o4,g4,n4⟩:=fresh [(.int .i64 0),(.int .i64 0),(.slice none 0 0)] h3;have K4:au h h4 (· = fb):=K3.trans (o4.mono (fun _ _ q=>q.elim));obtain ⟨h5,e5,k5,g5,_,n5⟩:=aN (n:=3) (k' := [.int .i64 2,.int .i64 1,.slice (some ⟨h2.next,0,none⟩) 2 2]) g4 (by rw [K4.n0];omega) rfl rfl rfl;have O5:aK h3 h5:=aK.bB o4 k5 (DG _);have K5:au h h5 (· = fb):=K3.trans (O5.mono (fun _ _ q=>q.elim));have mk2:mkR 2 32 (.agg #[(.int .i64 0),(.slice none 0 0)]) (.int .i64 2) (.int .i64 2) h5=some (.slice (some ⟨h5.next,0,none⟩) 2 2,h5.alloc [.int .i64 0,.slice none 0 0,.int .i64 0,.slice none 0 0]):=rfl;have o6:aK h5 (h5.alloc [.int .i64 0,.slice none 0 0,.int .i64 0,.slice none 0 0]):=au.alloc _ _ _;have q6:(h5.alloc [.int .i64 0,.slice none 0 0,.int .i64 0,.slice none 0 0]).get h5.next=some [.int .i64 0,.slice none 0 0,.int .i64 0,.slice none 0 0]:=by rw [ae.aZ,DH rfl]
 have n6:(h5.alloc [.int .i64 0,.slice none 0 0,.int .i64 0,.slice none 0 0]).next=h5.next+1:=rfl;generalize h5.alloc [.int .i64 0,.slice none 0 0,.int .i64 0,.slice none 0 0]=h6 at *;have O6:aK h3 h6:=O5.trans o6;have K6:au h h6 (· = fb):=K3.trans (O6.mono (fun _ _ q=>q.elim));have F6:IsFd h6 fb:=⟨aK.get O6 f3,by rw [K6.n0];exact f0⟩
 have u6:h6.get h.next=some (bJ fl):=aK.get O6 (k3.getE q2 (by omega));have M6:h6.get h3.next=some [.int .i64 2,.int .i64 1,.slice (some ⟨h2.next,0,none⟩) 2 2]:=aK.get o6 g5;have m6:h6.get h2.next=some [u8 1,u8 1]:=aK.get O6 g3;have G6:3<=h6.n0:=by rw [K6.n0];exact T.n0
 obtain ⟨pb,hpb⟩ : ∃ pb,pb=h5.next:=⟨_,rfl⟩
 rw [<-hpb] at q6 mk2;obtain ⟨x,hx⟩ : ∃ x:Nat->Vl,x=up (bs [ptr fb 0,.int .i64 1,.int .i64 2,.slice a l c]) [(8,.slice none 0 0),(9,.int .i64 0),(10,aj l),(11,.int .i64 e'),(12,mQ h.next l),(13,ptr h3.next 0),(14,.int .i64 0),(15,.slice (some ⟨pb,0,none⟩) 2 2),(20,ptr fb 0),(21,.bool false),(22,.int .i64 1),(23,.int .i64 2),(24,.bool true),(25,.bool false),(26,.slice a l c),(27,aj l),(28,.bool false),(29,.tuple #[aj l,.int .i64 e']),(30,.int .i64 1),(31,.slice a l c),(32,aj l),(33,.tuple #[aj l,.int .i64 e']),(34,aj l),(35,.int .i64 e'),(36,.int .i64 1),(37,aj l),(38,aj l),(39,mQ h.next l),(40,mQ h.next l),(41,.slice a l c),(42,aj (min l l)),(43,gV h2.next),(44,ptr fb 0),(45,.int .i64 1),(46,.int .i64 2),(47,gV h2.next),(48,.agg #[.int .i64 2,.int .i64 1,.slice (some ⟨h2.next,0,none⟩) 2 2]),(49,.int .i64 0),(50,.int .i64 2),(51,.slice (some ⟨pb,0,none⟩) 2 2),(52,.slice (some ⟨pb,0,none⟩) 2 2),(53,.int .i64 2),(54,.int .i64 0)]:=⟨_,rfl⟩
 have E6:EE fb h.next h3.next pb l 0 x:=by subst hx;exact ⟨rfl,rfl,rfl,rfl,rfl,rfl,rfl⟩
 have N6 : ∀ {g:ae},au h6 g (· = pb)->g.n0=h.n0:=fun k=>by rw [k.n0,K6.n0]
 have key:Fin 90 (fun ex y g=>ex = .exit 0/\y 15 = .slice (some ⟨pb,0,none⟩) 2 2 /\ ∃ b0 b1 d0 d1,au h6 g (· = pb)/\h6.next<=b0/\b0<b1/\g.get pb=some (pcK (mQ b0 l) (mQ b1 l))/\Pcs g b0 d0 l/\Pcs g b1 d1 l)
   (iter (codeA prog (CV ZG) (aq f104 [1,1,1,1,1,1,1,1,1,0,1,0,0])) az (aS 90 x) h6):=by
  refine bL (mI (CV ZG)) (Inv:=fun k y g=>au h6 g (· = pb)/\((k=2/\EE fb h.next h3.next pb l 0 y/\g.get pb=some [.int .i64 0,.slice none 0 0,.int .i64 0,.slice none 0 0])\/(k=1/\EE fb h.next h3.next pb l 1 y /\ ∃ b0 d0,h6.next<=b0/\b0<g.next/\g.get pb=some [aj 0,mQ b0 l,.int .i64 0,.slice none 0 0]/\Pcs g b0 d0 l)\/(k=0/\EE fb h.next h3.next pb l 2 y /\ ∃ b0 b1 d0 d1,h6.next<=b0/\b0<b1/\g.get pb=some (pcK (mQ b0 l) (mQ b1 l))/\Pcs g b0 d0 l/\Pcs g b1 d1 l))) ?_ 2 (by have:az=18446744073709551616:=rfl;omega) ⟨au.refl _ _,.inl ⟨rfl,E6,q6⟩⟩;have rd:=fun {g:ae} {y:Nat->Vl} {i:Nat} {kp:eh} (K:au h6 g (· = pb)) (E:EE fb h.next h3.next pb l i y) (hi:i<2) (gp:g.get pb=some kp) (kl:kp.length=4)=>enc_rd (by rw [N6 K];exact T.n0) ⟨K.getE F6.c (by omega),by rw [N6 K];exact f0⟩ (K.getE u6 (by omega)) fl0 flb hl (K.getE M6 (by omega)) (K.getE m6 (by omega)) gp kl (by rw [N6 K];omega) (by omega) hi E;rintro k y g ⟨K,⟨rfl,E,gp⟩|⟨rfl,E,b0,d0,c1,c2,gp,P0⟩|⟨rfl,E,b0,b1,d0,d1,c1,c2,gp,P0,P1⟩⟩
  ·obtain ⟨g',y',d,e,E',k',q1,q2,q3,q4,q5⟩:=rd K E (by decide) gp rfl;rw [e];exact dE.next 1 (by omega) ⟨K.trans k',.inr (.inl ⟨rfl,E',g.next,d,K.next,q5,q4,q1,q2,q3⟩)⟩
  ·obtain ⟨g',y',d,e,E',k',q1,q2,q3,q4,q5⟩:=rd K E (by decide) gp rfl;rw [e];exact dE.next 0 (by omega) ⟨K.trans k',.inr (.inr ⟨rfl,E',b0,g.next,d0,d,c1,c2,q4,P0.old k' (by omega),q1,q2,q3⟩)⟩
  ·unfold dA;have ls:aA prog .lss 3 (aj 2) (aj 2)=some (.bool false):=by kernel_rfl
   simp -implicitDefEqProofs only [E.y54,E.y53,ls,af,ak];exact dE.out 0 ⟨rfl,E.y15,b0,b1,d0,d1,K,c1,c2,gp,P0,P1⟩
 obtain ⟨ex,y,g,e8,rfl,y15,b0,b1,d0,d1,K,c1,c2,gp,P0,P1⟩:=key;have Kg:au h g (· = fb):=K6.also K (fun d hd q=>by have:=K5.next;omega);refine ⟨g,pb,b0,b1,d0,d1,bX cp is104 rfl ((t104_eq _ _ _ _ _ _).trans ?_),⟨Kg,by have:=K5.next;omega,by have:=K6.next;omega,by have:=K6.next;omega,gp,P0,P1,by omega,by omega,by omega⟩⟩;unfold t104;have hll:cg (.slice a l c)=some (aj l):=rfl;have big:aA prog .gtr 3 (aj l) (.int .i64 8192)=some (.bool false):=by unfold aj;rw [dD,DW (by omega)]
 have x0:extractA (gV h2.next) 0=some (.agg #[.int .i64 2,.int .i64 1,.slice (some ⟨h2.next,0,none⟩) 2 2]):=rfl;have x1:extractA (gV h2.next) 1=some (.int .i64 0):=rfl;have l2:cg (.slice (some ⟨pb,0,none⟩) 2 2)=some (.int .i64 2):=rfl;have e5:bI 3 (ptr h3.next 0) (.agg #[.int .i64 2,.int .i64 1,.slice (some ⟨h2.next,0,none⟩) 2 2]) h4=some (undef,h5):=e5;simp -implicitDefEqProofs only [zt,r162,dt,EK,hll,big,e69,jO,j7,m1,mk,e2,e3,x0,x1,e4,e5,mk2,l2,af,ak];rw [<-hx,e8];simp -implicitDefEqProofs only [bh,b104_17',xQ];unfold pt;simp -implicitDefEqProofs only [y15,af]
end
end
end Go.Proofs.YtdhpgacmgebjdaaGreatDoor.W
