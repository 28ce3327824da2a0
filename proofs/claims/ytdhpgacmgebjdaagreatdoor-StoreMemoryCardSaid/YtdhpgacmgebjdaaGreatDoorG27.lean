/-
  A part of the proof, shortened by a program.
  Conditions: as each theorem states.
-/
import Derived.Test.YtdhpgacmgebjdaaGreatDoorG26
set_option linter.all false
namespace Go.Proofs.YtdhpgacmgebjdaaGreatDoor.W
open Go Go.Abs Tryz R
noncomputable section
section
attribute [local congr] ax
def BI {L k:Nat} (hk:k<256):zh prog L≠k:=by have e1:=fs_256;show ¬(prog.funcs.size+L)=k;generalize prog.funcs.size=n at e1;omega
def CV_yield {L:Nat} {args:List Vl} {h:ae} {r:Vl×ae} (e:roundA prog (CV ZG) L args h=some r):CV ZG (zh prog L) args h=some r:=by
 refine CU_round ?_ e;show over ZG (only SV (CC prog XX)) (zh prog L) args h=none;have h1:ZG (zh prog L) args h=none:=by show (if zh prog L=163 then s163 args h else if zh prog L=231 then s231 args h else if zh prog L=185 then yC args h else none)=none;rw [DL (BI (by decide)),DL (BI (by decide)),DL (BI (by decide))]
 have h2:SV.contains (zh prog L)=false:=by
  cases hc:SV.contains (zh prog L) with
  |false=>rfl
  |true=>
   have hm:=HP.1 hc;have : ∀ f∈SV,f<256:=by decide
   exact absurd rfl (BI (this _ hm))
 unfold over only;rw [h1];simp only;rw [DL (by rw [h2];exact Bool.false_ne_true)]
def cands1 {k v:Vl} {st ck:Nat} (h:st<ck):pO [(k,v,st)] ck [] ck=some [some (k,v,st)]/\pO [(k,v,st)] ck [st] ck=some [none]:=by
 have h2 : ¬ck<=st:=by omega
 constructor
 ·unfold pO;simp [h,h2]
 ·unfold pO;simp [h2]
def b186_1' (C:ah) (e:aO) (h:ae):b186_1 C 0 e h=resultsA prog f186.results.toList e h:=rfl
def b188_1' (C:ah) (e:aO) (h:ae):b188_1 C 0 e h=resultsA prog f188.results.toList e h:=rfl
def res186n (x:Nat->Vl) (h:ae):resultsA prog f186.results.toList (aS 14 x) h=some (.tuple #[],h):=by
 have e:f186.results.toList = []:=by kernel_rfl
 rw [e];rfl
def res188n (x:Nat->Vl) (h:ae):resultsA prog f188.results.toList (aS 14 x) h=some (.tuple #[],h):=by
 have e:f188.results.toList = []:=by kernel_rfl
 rw [e];rfl
def xtF:extractA (.tuple #[.bool false]) 0=some (.bool false):=rfl
section
variable {α:Type} {V:α->Vl} {h:ae} {kb mb:Nat}
def nx0 (m:ij V h mb []) : ∃ ck,(∀ t,mapT prog t=some (32,136)\/mapT prog t=some (32,4)->rangeA prog t (.map (some mb)) h=some (ptr h.next 0,h.ba (.obj (.iter (some mb) ck [] ck))))/\nextA (ptr h.next 0) false (h.ba (.obj (.iter (some mb) ck [] ck)))=some (.tuple #[.bool false],h.ba (.obj (.iter (some mb) ck [] ck))):=by
 obtain ⟨es,ck,m1,m2⟩:=m.ex;have he:es = []:=by
  cases es with
  |nil=>rfl
  |cons a l=>simp at m2
 subst he;refine ⟨ck,fun t ht => ?_,?_⟩
 ·unfold rangeA;rcases ht with ht|ht<;>rw [ht]<;>simp only [m1.get]
 ·have o1:aK h (h.ba (.obj (.iter (some mb) ck [] ck))):=au.allocO _ _ _;have g1:(h.ba (.obj (.iter (some mb) ck [] ck))).getB h.next=some (.obj (.iter (some mb) ck [] ck)):=by rw [ae.bK,DH rfl]
  generalize h.ba (.obj (.iter (some mb) ck [] ck))=g at *;have mg:=au.obj o1 m1.get (fun q=>q);unfold nextA nextsA ptr;simp only [g1,mg,DB,DS];rfl
def keys0 (m:ij V h mb []) (hk:h.get kb=some [.map (some mb)]) (f:Vl) : ∃ g,CV ZG 186 [f,ptr kb 0] h=some (.tuple #[],g)/\aK h g:=by
 obtain ⟨ck,e1,e2⟩:=nx0 m;have e1:=e1 123 (.inl oU);have l1:ld1 (ptr kb 0) h=some (.map (some mb),h):=aH hk rfl;have o1:aK h (h.ba (.obj (.iter (some mb) ck [] ck))):=au.allocO _ _ _;generalize h.ba (.obj (.iter (some mb) ck [] ck))=g at *;have key:Fin 14 (fun ex y g'=>ex = .exit 0/\g'=g) (iter (codeA prog (CV ZG) (aq f186 [1,0,0])) az (aS 14 (up (bs [f,ptr kb 0]) [(4,.map (some mb)),(5,ptr h.next 0)])) g):=by refine bL (pB (CV ZG)) (Inv:=fun k y g'=>y 5=ptr h.next 0/\g'=g) ?_ 0 (by have:az=18446744073709551616:=rfl;omega) ⟨rfl,rfl⟩;rintro k y g' ⟨y5,rfl⟩;unfold j0;simp -implicitDefEqProofs only [y5,e2,xtF,af,ak];exact dE.out 0 ⟨rfl,rfl⟩
 obtain ⟨ex,y,g',e8,rfl,rfl⟩:=key;refine ⟨g',bX cp is186 rfl ((t186_eq _ _ _ _).trans ?_),o1⟩;unfold t186;simp -implicitDefEqProofs only [l1,e1,af,ak];rw [e8];simp -implicitDefEqProofs only [bh,b186_1',res186n]
def keys0g (m:ij V h mb []) (hk:h.get kb=some [.map (some mb)]) (f:Vl) : ∃ g,CV ZG 188 [f,ptr kb 0] h=some (.tuple #[],g)/\aK h g:=by
 obtain ⟨ck,e1,e2⟩:=nx0 m;have e1:=e1 124 (.inr map124);have l1:ld1 (ptr kb 0) h=some (.map (some mb),h):=aH hk rfl;have o1:aK h (h.ba (.obj (.iter (some mb) ck [] ck))):=au.allocO _ _ _;generalize h.ba (.obj (.iter (some mb) ck [] ck))=g at *;have key:Fin 14 (fun ex y g'=>ex = .exit 0/\g'=g) (iter (codeA prog (CV ZG) (aq f188 [1,0,0])) az (aS 14 (up (bs [f,ptr kb 0]) [(4,.map (some mb)),(5,ptr h.next 0)])) g):=by refine bL (xz (CV ZG)) (Inv:=fun k y g'=>y 5=ptr h.next 0/\g'=g) ?_ 0 (by have:az=18446744073709551616:=rfl;omega) ⟨rfl,rfl⟩;rintro k y g' ⟨y5,rfl⟩;unfold ql;simp -implicitDefEqProofs only [y5,e2,xtF,af,ak];exact dE.out 0 ⟨rfl,rfl⟩
 obtain ⟨ex,y,g',e8,rfl,rfl⟩:=key;refine ⟨g',bX cp is188 rfl ((t188_eq _ _ _ _).trans ?_),o1⟩;unfold t188;simp -implicitDefEqProofs only [l1,e1,af,ak];rw [e8];simp -implicitDefEqProofs only [bh,b188_1',res188n]
end
def keys1 {h:ae} {kb mb:Nat} {id:List Nat} {y:It} (m:ij oZ h mb [(id,y)]) (hk:h.get kb=some [.map (some mb)]) {N L B:Nat} {x0:Nat->Vl} (lp:Ad h L (aS 13 x0) [7] (BA (aq f212 [1,0,1,0])) (Bs (aq f212 [1,0,1,0]))) (x2:x0 2=ptr B 0) (a:Acc h N B (.slice none 0 0) []) (hN:h.n0<=N) (hn:N<=h.next) (hmL:mb≠L) :
  ∃ g sv,CV ZG 186 [.func (.yield L) #[] #[],ptr kb 0] h=some (.tuple #[],g)/\Ad g L (aS 13 x0) [7] (BA (aq f212 [1,0,1,0])) (Bs (aq f212 [1,0,1,0]))/\Acc g N B sv [id]/\au h g (fun c=>c=L\/c=B):=by
 have w:fO id:=m.w (id,y) (by simp);obtain ⟨es,ck,m1,m2⟩:=m.ex;obtain ⟨st,rfl⟩ : ∃ st,es = [(kV id,oZ y,st)]:=by
  cases es with
  |nil=>simp at m2
  |cons e l=>
   cases l with
   |nil=>
    obtain ⟨k,v,st⟩:=e;simp at m2;obtain ⟨rfl,rfl⟩:=m2;exact ⟨st,rfl⟩
   |cons e' l'=>simp at m2
 have hst:st<ck:=m1.lt _ (FB.2 rfl);obtain ⟨c1,c2⟩:=cands1 (k:=kV id) (v:=oZ y) hst;have l1:ld1 (ptr kb 0) h=some (.map (some mb),h):=aH hk rfl;have e1:rangeA prog 123 (.map (some mb)) h=some (ptr h.next 0,h.ba (.obj (.iter (some mb) ck [] ck))):=by unfold rangeA;rw [oU];simp only [m1.get]
 have o1:aK h (h.ba (.obj (.iter (some mb) ck [] ck))):=au.allocO _ _ _;have g1:(h.ba (.obj (.iter (some mb) ck [] ck))).getB h.next=some (.obj (.iter (some mb) ck [] ck)):=by rw [ae.bK,DH rfl]
 have n1:(h.ba (.obj (.iter (some mb) ck [] ck))).next=h.next+1:=rfl;generalize h.ba (.obj (.iter (some mb) ck [] ck))=h1 at *;have M1:=au.obj o1 m1.get (fun q=>q);have hi0:h1.n0<=h.next:=by rw [o1.n0];exact h.n0_le_next
 have nx1:nextA (ptr h.next 0) false h1=some (.tuple #[.bool true,kV id,oZ y],h1.setO h.next (.iter (some mb) ck [st] ck)):=by unfold nextA nextsA ptr;simp only [g1,M1,DB,DS,c1];rfl
 have k2:au h1 (h1.setO h.next (.iter (some mb) ck [st] ck)) (· = h.next):=au.setO g1 rfl;have g2:(h1.setO h.next (.iter (some mb) ck [st] ck)).getB h.next=some (.obj (.iter (some mb) ck [st] ck)):=ae.fh hi0 g1 _;have n2:(h1.setO h.next (.iter (some mb) ck [st] ck)).next=h1.next:=rfl;generalize h1.setO h.next (.iter (some mb) ck [st] ck)=h2 at *;have o2:aK h h2:=o1.also k2 (fun c hc q=>by subst q;exact absurd hc (GZ _));have M2:=au.obj o2 m1.get (fun q=>q);have en:entryA (ptr h.next 0) h2=some (.tuple #[kV id,oZ y],h2):=by unfold entryA ptr;simp only [g2,M2];simp
 obtain ⟨h3,z3,o3,g3,n3⟩:=fresh (List.replicate 32 (.int .u8 0)) h2;obtain ⟨h4,t4,k4,g4,_,n4⟩:=aN (n:=32) (k':=bJ id) g3 (by rw [o3.n0];exact h2.n0_le_next) rfl (bu w) (bA _).2;have o4:aK h2 h4:=aK.bB o3 k4 (DG _);have O4:=o2.trans o4;have l4:bQ 32 (ptr h2.next 0) h4=some (kV id,h4):=aP g4 (bu w) (bA _).1;have a4:Acc h4 N B (.slice none 0 0) []:=⟨aK.get O4 a.box,a.hB,a.own.keep O4 (fun _ _ q=>q),a.d,a.z⟩
 obtain ⟨h5,sv,e5,lp5,a5,k5⟩:=round_push (C:=CV ZG) (lp.keep O4 (fun q=>q)) x2 a4 w (by rw [O4.n0];exact hN) (D9 hn O4.next) (by decide);have e5:=CV_yield e5;have k5:au h4 h5 (fun c=>c=L\/c=B):=k5.mono (fun c _ q=>by
  rcases q with q|q|⟨q,_⟩
  ·exact .inl q
  ·exact .inr q
  ·cases q)
 have hLn:=h.lt_of_getB lp;have hBn:=h.aL a.box;have g5:h5.getB h.next=some (.obj (.iter (some mb) ck [st] ck)):=au.obj k5 (au.obj o4 g2 (fun q=>q)) (fun q=>by rcases q with q|q<;>omega);have hmB:mb≠B:=fun q=>by have h1:=m1.get;rw [q,h.aJ a.box] at h1;cases h1
 have M5:h5.getB mb=some (.obj (.map [(kV id,oZ y,st)] ck)):=au.obj k5 (au.obj O4 m1.get (fun q=>q)) (fun q=>q.elim hmL hmB);have nx2:nextA (ptr h.next 0) false h5=some (.tuple #[.bool false],h5):=by unfold nextA nextsA ptr;simp only [g5,M5,DB,DS,c2];rfl
 have ca:callA prog (CV ZG) (.func (.yield L) #[] #[]) [kV id] h4=some (.bool true,h5):=e5;have x3:extractA (.tuple #[.bool true,kV id,oZ y]) 0=some (.bool true):=rfl;have x4:extractA (.tuple #[kV id,oZ y]) 0=some (kV id):=rfl;have t4:bI 32 (ptr h2.next 0) (kV id) h3=some (undef,h4):=t4;have key:Fin 14 (fun ex y g'=>ex = .exit 0/\g'=h5) (iter (codeA prog (CV ZG) (aq f186 [1,0,0])) az (aS 14 (up (bs [.func (.yield L) #[] #[],ptr kb 0]) [(4,.map (some mb)),(5,ptr h.next 0)])) h1):=by
  refine bL (pB (CV ZG)) (Inv:=fun k z g'=>z 5=ptr h.next 0/\z 0 = .func (.yield L) #[] #[]/\((k=1/\g'=h1)\/(k=0/\g'=h5))) ?_ 1 (by have:az=18446744073709551616:=rfl;omega) ⟨rfl,rfl,.inl ⟨rfl,rfl⟩⟩;rintro k z g' ⟨y5,y0,⟨rfl,rfl⟩|⟨rfl,rfl⟩⟩
  ·unfold j0;simp -implicitDefEqProofs only [y5,y0,nx1,x3,en,x4,z3,t4,l4,ca,dt,EK,af,ak];exact dE.next 0 (by omega) ⟨y5,y0,.inr ⟨rfl,rfl⟩⟩
  ·unfold j0;simp -implicitDefEqProofs only [y5,nx2,xtF,af,ak];exact dE.out 0 ⟨rfl,rfl⟩
 obtain ⟨ex,z,g',e8,rfl,rfl⟩:=key;refine ⟨g',sv,bX cp is186 rfl ((t186_eq _ _ _ _).trans ?_),lp5,a5,(O4.mono (fun _ _ q=>q.elim)).trans k5⟩;unfold t186;simp -implicitDefEqProofs only [l1,e1,af,ak];rw [e8];simp -implicitDefEqProofs only [bh,b186_1',res186n]
end
section
attribute [local congr] ax
def rf212:aq f212 [1,0,1,0] = .rangeFunc (.tmp 6) #[7] (BA (aq f212 [1,0,1,0])) (Bs (aq f212 [1,0,1,0])):=by kernel_rfl
structure Sr (h g:ae) (v:Vl) (ids:List (List Nat)):Prop where
 o:aK h g
 own:cG g h.next 32 v ids.length (ids.flatMap bJ)
 z:ids = []->v = .slice none 0 0
set_option maxRecDepth 100000 in
def r212n {h:ae} {i:FuncId} {kb:Nat} (hb:hasBody prog i=true) {ids:List (List Nat)}
  (hyp : ∀ {g:ae} {N L B:Nat} {x0:Nat->Vl},Ad g L (aS 13 x0) [7] (BA (aq f212 [1,0,1,0])) (Bs (aq f212 [1,0,1,0]))->x0 2=ptr B 0->Acc g N B (.slice none 0 0) []->g.n0<=N->N<=g.next->aK h g->h.next<=L -> ∃ g' sv,CV ZG i [.func (.yield L) #[] #[],ptr kb 0] g=some (.tuple #[],g')/\Ad g' L (aS 13 x0) [7] (BA (aq f212 [1,0,1,0])) (Bs (aq f212 [1,0,1,0]))/\Acc g' N B sv ids/\au g g' (fun c=>c=L\/c=B)) :
  ∃ sv g,CV ZG 212 [.slice none 0 0,.func (.func i) #[] #[ptr kb 0]] h=some (sv,g)/\Sr h g sv ids:=by
 have bx:box (.slice none 0 0) h=some (ptr h.next 0,h.alloc [.slice none 0 0]):=rfl;have o1:aK h (h.alloc [.slice none 0 0]):=au.alloc _ _ _;have g1:(h.alloc [.slice none 0 0]).get h.next=some [.slice none 0 0]:=by rw [ae.aZ,DH rfl]
 have n1:(h.alloc [.slice none 0 0]).next=h.next+1:=rfl;generalize h.alloc [.slice none 0 0]=h1 at *;obtain ⟨x,hx⟩ : ∃ x:Nat->Vl,x=up (bs [.slice none 0 0,.func (.func i) #[] #[ptr kb 0]]) [(2,ptr h.next 0),(4,.slice none 0 0),(6,.func (.func i) #[] #[ptr kb 0])]:=⟨_,rfl⟩
 have x2:x 2=ptr h.next 0:=by subst hx;rfl
 have x6:x 6 = .func (.func i) #[] #[ptr kb 0]:=by subst hx;rfl
 have lp:=Ad.new h1 (aS 13 x) [7] (BA (aq f212 [1,0,1,0])) (Bs (aq f212 [1,0,1,0]));have o2:aK h1 (h1.ba (.obj (.loop .ready none (aS 13 x) [7] (BA (aq f212 [1,0,1,0])) (Bs (aq f212 [1,0,1,0]))))):=au.allocO _ _ _;obtain ⟨h2,hh2⟩ : ∃ h2,h2=h1.ba (.obj (.loop .ready none (aS 13 x) [7] (BA (aq f212 [1,0,1,0])) (Bs (aq f212 [1,0,1,0])))):=⟨_,rfl⟩
 have n2:h2.next=h1.next+1:=by rw [hh2];rfl
 rw [<-hh2] at lp o2;have O2:=o1.trans o2;obtain ⟨h3,sv,e3,lp3,a3,k3⟩:=hyp lp x2 ⟨aK.get o2 g1,DG h.next,cG.nil _ _ _,(fun q hq=>by cases hq),fun _=>rfl⟩ (by rw [O2.n0];exact h.n0_le_next) (by omega) O2 (by omega);obtain ⟨h4,e4,k4,n4⟩:=lp3.fin (e0:=aS 13 x);have cr:=code_range (C:=CV ZG) (e:=aS 13 x) (h:=h1) rf212 (by rw [ev_mkF (by decide),x6]) hb (show CV ZG i ((#[]:Array Vl).toList ++ [.func (.yield h1.next) #[] #[]]++(#[ptr kb 0]:Array Vl).toList) (h1.ba (.obj (.loop .ready none (aS 13 x) (#[7]:Array Tmp).toList (BA (aq f212 [1,0,1,0])) (Bs (aq f212 [1,0,1,0])))))=some (.tuple #[],h3) by rw [<-show h2=_ from hh2];exact e3);have cr:=cr.trans e4;have B3:=a3.box;have hBL:h.next≠h1.next:=by omega
 have B4:h4.get h.next=some [sv]:=k4.getE B3 hBL;have hcell:=dZ a3.sl;have l4:ld1 (ptr h.next 0) h4=some (sv,h4):=aH B4 rfl hcell.1;have O4:aK h h4:=(O2.also k3 (fun c hc q=>by rcases q with q|q<;>omega)).also k4 (fun c hc q=>by omega);have own4:cG h4 h.next 32 sv ids.length (ids.flatMap bJ):=by
  obtain ⟨q1,q2,q3,q4⟩:=a3.own;refine ⟨q1,q2,q3,?_⟩;rcases q4 with q4|⟨b,s,e,q5,q6|⟨q6,q7⟩⟩
  ·exact .inl q4
  ·exact .inr ⟨b,s,e,q5,.inl q6⟩
  ·exact .inr ⟨b,s,e,q5,.inr ⟨q6,k4.getE q7 (fun q=>by subst q;have z:h3.getB _=some (.obj _):=lp3;rw [h3.aJ q7] at z;cases z)⟩⟩
 refine ⟨sv,h4,bX cp is212 rfl ((t212_eq _ _ _ _).trans ?_),O4,own4,a3.z⟩;unfold t212;simp -implicitDefEqProofs only [bx,af];rw [<-hx,cr];show BG (CV ZG) (aS 13 x) h4=_;rw [Ai];unfold sF;simp -implicitDefEqProofs only [x2,l4,af]
section
variable {h:ae} {v:Vl}
def s185_at {w:Vl} {cl:Nat} (hG:3<=h.n0) (hw:(w = .slice none 0 0/\(cl=127\/cl=135))\/(∃ b s,w = .slice (some ⟨b,0,s⟩) 1 1/\cl=127)):CV ZG 185 [w,.func (.func cl) #[] #[]] h=some (.tuple #[],h):=by
 refine xY (Z:=ZG) (f:=185) (show yC [w,.func (.func cl) #[] #[]] h=some (.tuple #[],h) from ?_);unfold yC;refine DH ⟨hG,?_⟩;rcases hw with ⟨rfl,rfl|rfl⟩|⟨b,s,rfl,rfl⟩
 ·exact .inl rfl
 ·exact .inr (.inl rfl)
 ·exact .inr (.inr ⟨b,s,rfl⟩)
def r125n (hG:3<=h.n0) {i:FuncId} {kb cl:Nat} {ids:List (List Nat)} (e : ∃ sv g,CV ZG 212 [.slice none 0 0,.func (.func i) #[] #[ptr kb 0]] h=some (sv,g)/\Sr h g sv ids) (hi:(ids = []/\(cl=127\/cl=135))\/(ids.length=1/\cl=127)) :
  ∃ sv g,CV ZG 125 [.func (.func i) #[] #[ptr kb 0],.func (.func cl) #[] #[]] h=some (sv,g)/\Sr h g sv ids:=by
 obtain ⟨sv,g,e1,s⟩:=e;have e2:CV ZG 184 [.func (.func i) #[] #[ptr kb 0]] h=some (sv,g):=by refine bX cp is184 rfl ((t184_eq _ _ _).trans ?_);unfold t184;simp -implicitDefEqProofs only [e1,af]
 have e3:CV ZG 185 [sv,.func (.func cl) #[] #[]] g=some (.tuple #[],g):=by
  refine s185_at (by rw [s.o.n0];exact hG) ?_;rcases hi with ⟨h1,h2⟩|⟨h1,h2⟩
  ·exact .inl ⟨s.z h1,h2⟩
  ·obtain ⟨_,_,_,q⟩:=s.own;rcases q with ⟨_,q⟩|⟨b,s',q,_⟩
   ·omega
   ·exact .inr ⟨b,s',by rw [q,h1],h2⟩
 refine ⟨sv,g,bX cp is125 rfl ((t125_eq _ _ _ _).trans ?_),s⟩;unfold t125;simp -implicitDefEqProofs only [e2,e3,af]
end
section
variable {h:ae} {mb:Nat}
def bxM (h:ae) (mb:Nat):box (.map (some mb)) h=some (ptr h.next 0,h.alloc [.map (some mb)]):=rfl
def r64' {M:DM It} (hG:3<=h.n0) (m:ij oZ h mb M) (hl:M = [] \/ ∃ p,M = [p]) : ∃ sv g,CV ZG 64 [.map (some mb)] h=some (sv,g)/\aK h g/\cG g h.next 32 sv (M.map (·.1)).length ((M.map (·.1)).flatMap bJ)/\(M = []->sv = .slice none 0 0):=by
 have o1:aK h (h.alloc [.map (some mb)]):=au.alloc _ _ _;have g1:(h.alloc [.map (some mb)]).get h.next=some [.map (some mb)]:=by rw [ae.aZ,DH rfl]
 have n1:(h.alloc [.map (some mb)]).next=h.next+1:=rfl;have bx:=bxM h mb;generalize h.alloc [.map (some mb)]=h1 at *;have e1:CV ZG 126 [.map (some mb)] h=some (.func (.func 186) #[] #[ptr h.next 0],h1):=by refine bX cp is126 rfl ((t126_eq _ _ _).trans ?_);unfold t126;simp -implicitDefEqProofs only [bx,af]
 have hm:mb<h.next:=by obtain ⟨q,hq⟩:=m.obj;exact h.lt_of_getB hq
 have e2 : ∃ sv g,CV ZG 212 [.slice none 0 0,.func (.func 186) #[] #[ptr h.next 0]] h1=some (sv,g)/\Sr h1 g sv (M.map (·.1)):=by
  refine r212n (by kernel_rfl) fun lp x2 a hN hn o hL => ?_;rcases hl with rfl|⟨⟨id,y⟩,rfl⟩
  ·obtain ⟨g',e,o'⟩:=keys0 (m.old (o1.trans o)) (aK.get o g1) _;exact ⟨g',_,e,lp.keep o' (fun q=>q),⟨aK.get o' a.box,a.hB,cG.nil _ _ _,a.d,fun _=>rfl⟩,o'.mono (fun _ _ q=>q.elim)⟩
  ·exact keys1 (m.old (o1.trans o)) (aK.get o g1) lp x2 a hN hn (by omega)
 obtain ⟨sv,g,e3,s⟩:=r125n (cl:=127) (by rw [o1.n0];exact hG) e2 (by
  rcases hl with rfl|⟨p,rfl⟩
  ·exact .inl ⟨rfl,.inl rfl⟩
  ·exact .inr ⟨rfl,rfl⟩)
 refine ⟨sv,g,tq is64 rfl rfl ((t64_eq _ _ _).trans ?_),o1.trans s.o,?_,fun q=>s.z (by rw [q];rfl)⟩
 ·unfold t64;simp -implicitDefEqProofs only [e1,e3,af]
 ·obtain ⟨q1,q2,q3,q4⟩:=s.own;refine ⟨q1,q2,q3,?_⟩;rcases q4 with q4|⟨b,t,e,q5,q6⟩
  ·exact .inl q4
  ·exact .inr ⟨b,t,e,by omega,q6⟩
def r80' {M:DM Unit} (hG:3<=h.n0) (m:ij grV h mb M) (hl:M = []) : ∃ g,CV ZG 80 [.map (some mb)] h=some (.slice none 0 0,g)/\aK h g:=by
 subst hl;have o1:aK h (h.alloc [.map (some mb)]):=au.alloc _ _ _;have g1:(h.alloc [.map (some mb)]).get h.next=some [.map (some mb)]:=by rw [ae.aZ,DH rfl]
 have bx:=bxM h mb;generalize h.alloc [.map (some mb)]=h1 at *;have e1:CV ZG 134 [.map (some mb)] h=some (.func (.func 188) #[] #[ptr h.next 0],h1):=by refine bX cp is134' rfl ((t134_eq _ _ _).trans ?_);unfold t134;simp -implicitDefEqProofs only [bx,af]
 have e2 : ∃ sv g,CV ZG 212 [.slice none 0 0,.func (.func 188) #[] #[ptr h.next 0]] h1=some (sv,g)/\Sr h1 g sv []:=by refine r212n (by kernel_rfl) fun lp x2 a hN hn o hL => ?_;obtain ⟨g',e,o'⟩:=keys0g (m.old (o1.trans o)) (aK.get o g1) _;exact ⟨g',_,e,lp.keep o' (fun q=>q),⟨aK.get o' a.box,a.hB,cG.nil _ _ _,a.d,fun _=>rfl⟩,o'.mono (fun _ _ q=>q.elim)⟩
 obtain ⟨sv,g,e3,s⟩:=r125n (cl:=135) (by rw [o1.n0];exact hG) e2 (.inl ⟨rfl,.inr rfl⟩);have:=s.z rfl;subst this;refine ⟨g,tq is80 rfl rfl ((t80_eq _ _ _).trans ?_),o1.trans s.o⟩;unfold t80;simp -implicitDefEqProofs only [e1,e3,af]
end
end
section
attribute [local congr] ax
def l1_none {C:ah} {x:Nat->Vl} {h:ae} (e1:x 35=aj 0) (e2:x 36=aj 0):Fin 135 (fun ex y g=>ex = .exit 0/\y 0=x 0/\y 1=x 1/\y 7=x 7/\g=h) (iter (codeA prog C (aq f59 [1,1,0,1,0,0])) az (aS 135 x) h):=by
 refine bL (wJ C) (Inv:=fun k y g=>y 35=aj 0/\y 36=aj 0/\y 0=x 0/\y 1=x 1/\y 7=x 7/\g=h) ?_ 0 (by have:az=18446744073709551616:=rfl;omega) ⟨e1,e2,rfl,rfl,rfl,rfl⟩;rintro k y g ⟨dI,ee,y0,y1,y7,rfl⟩;unfold nX;have ls:aA prog .lss 3 (aj 0) (aj 0)=some (.bool false):=by kernel_rfl
 simp -implicitDefEqProofs only [dI,ee,ls,af,ak];exact dE.out 0 ⟨rfl,y0,y1,y7,rfl⟩
def l2_none {C:ah} {x:Nat->Vl} {h:ae} (e1:x 51=aj 0) (e2:x 52=aj 0):Fin 135 (fun ex y g=>ex = .exit 2/\y 0=x 0/\y 7=x 7/\y 10=x 10/\g=h) (iter (codeA prog C (aq f59 [1,1,1,1,0,1,0,0])) az (aS 135 x) h):=by
 refine bL (tK C) (Inv:=fun k y g=>y 51=aj 0/\y 52=aj 0/\y 0=x 0/\y 7=x 7/\y 10=x 10/\g=h) ?_ 0 (by have:az=18446744073709551616:=rfl;omega) ⟨e1,e2,rfl,rfl,rfl,rfl⟩;rintro k y g ⟨fU,fD,y0,y7,y10,rfl⟩;unfold lu;have ls:aA prog .lss 3 (aj 0) (aj 0)=some (.bool false):=by kernel_rfl
 simp -implicitDefEqProofs only [fU,fD,ls,af,ak];exact dE.out 2 ⟨rfl,y0,y7,y10,rfl⟩
def l3_none {C:ah} {x:Nat->Vl} {h:ae} (e1:x 105=aj 0) (e2:x 106=aj 0):Fin 135 (fun ex y g=>ex = .exit 4/\g=h) (iter (codeA prog C (aq f59 [1,1,1,1,1,1,1,0,1,0,0])) az (aS 135 x) h):=by
 refine bL (pP C) (Inv:=fun k y g=>y 105=aj 0/\y 106=aj 0/\g=h) ?_ 0 (by have:az=18446744073709551616:=rfl;omega) ⟨e1,e2,rfl⟩;rintro k y g ⟨y1,y2,rfl⟩;unfold iZ;have ls:aA prog .lss 3 (aj 0) (aj 0)=some (.bool false):=by kernel_rfl
 simp -implicitDefEqProofs only [y1,y2,ls,af,ak];exact dE.out 4 ⟨rfl,rfl⟩
set_option maxRecDepth 100000 in
def r59n {h:ae} (T:RT h) {s j d:Nat} {D:Dk} {J:Jn} (jp:JP h s j d D J) {tp o inc im gm:Nat} (t:TsAt h tp o inc im gm [] []) (hz:(J.rewrite D [fV inc]).1=0) :
  ∃ g,CV ZG 59 [ptr s 0,ptr tp o,.slice none 0 0] h=some (.int .i64 0,g)/\au h g (fun c=>c=j\/c=d\/c=D.bb)/\bC g d (J.rewrite D [fV inc]).2.1/\(J.rewrite D [fV inc]).2.1.bb=D.bb/\(J.rewrite D [fV inc]).2.1.n=D.n/\cA g j d (J.rewrite D [fV inc]).2.2.1:=by
 obtain ⟨kt,c0,c1,c2,c3⟩:=t.c;have hn0:=h.n0_le_next;have jdk:=jp.dk.lt;have jbb:=jp.dk.blt;have jjn:=jp.jn.lt;have L0:ld1 (ptr tp o) h=some (.int .u64 (inc:Int),h):=aH c0 c1 rfl;obtain ⟨w1,h1,e1,o1,ns1⟩:=r74 h t.inc;have e1:=jP cp T.n0 (by rfl) e1;obtain ⟨a1,k1,rfl,sb1,gs1⟩:=ns1.bs.good (recN_pos inc);have bl:=bslW a1 (fV inc).length k1 h1;have o2:aK h1 (h1.alloc [.slice a1 (fV inc).length k1]):=au.alloc _ _ _;have q2:(h1.alloc [.slice a1 (fV inc).length k1]).get h1.next=some [.slice a1 (fV inc).length k1]:=by rw [ae.aZ,DH rfl]
 have nx2:(h1.alloc [.slice a1 (fV inc).length k1]).next=h1.next+1:=rfl;generalize h1.alloc [.slice a1 (fV inc).length k1]=h2 at *;have O2:=o1.trans o2;have hnx:=o1.next;have hFN : ∀ c,rwF j d D c->c<h.next:=fun c q=>by rcases q with rfl|rfl|rfl<;>assumption
 have R2:pA h2 h.next (rwF j d D) (.slice (some ⟨h1.next,0,none⟩) 1 1) [fV inc] [.slice a1 (fV inc).length k1]:=⟨.inr ⟨h1.next,rfl,hnx,q2,Nat.one_pos⟩,rfl,fun i r hi=>by
  have hi0:i=0:=by have:=(DZ.1 hi).1;simpa using this
  subst hi0;cases hi;refine ⟨a1,_,k1,rfl,aK.bytes o2 sb1,gs1,fun y hy hn hF => ?_⟩;subst hy;have h1:=ns1.new _ _ _ rfl;have h2:=hFN _ hF;omega⟩
 have L2:ld1 (ptr tp (o+2)) h2=some (.map (some gm),h2):=aH (aK.get O2 c0) c3 rfl;obtain ⟨h3,e3,o3⟩:=r80' (h:=h2) (by rw [O2.n0];exact T.n0) (t.gr.old O2) rfl;have O3:=O2.trans o3;have L4:ld1 (ptr tp (o+1)) h3=some (.map (some im),h3):=aH (aK.get O3 c0) c2 rfl;obtain ⟨sv,h4,e4,o4,_,z4⟩:=r64' (h:=h3) (by rw [O3.n0];exact T.n0) (t.it.old O3) (.inl rfl);have z4:=z4 rfl;subst z4;have O4:=O3.trans o4;have jp4:=jp.old O4;have RG4:mc h4 (rwF j d D) (.slice (some ⟨h1.next,0,none⟩) 1 1) [fV inc]:=((R2.old o3).old o4).g (fun b _ hb q=>by
  have q1:=hFN _ q;have hb:some h1.next=some b:=hb;injection hb with hb
  omega)
 obtain ⟨v5,h5,e5,d5,bb5,n5,j5,k5,o5⟩:=r114 jp4.dk jp4.jn jp4.n2 jp4.ok RG4 (by simp);have e5:=jP cp (by rw [O4.n0];exact T.n0) (by rfl) e5;rw [hz] at e5;have K5:au h h5 (fun c=>c=j\/c=d\/c=D.bb):=(O4.mono (fun _ _ q=>q.elim)).trans k5;have lz:cg (.slice none 0 0)=some (aj 0):=rfl;refine ⟨h5,bX cp is59 rfl ((t59_eq _ _ _ _ _).trans ?_),K5,d5,bb5,n5,j5⟩;unfold t59;simp -implicitDefEqProofs only [av,aw,Nat.add_zero,L0,e1,bl,L2,e3,lz,af,ak];refine cH (Q:=fun r:aY=>r=some (.int .i64 0,h5)) (l1_none rfl rfl) ?_;rintro ex x4 g4 ⟨rfl,y0,y1,y7,rfl⟩;have y0:x4 0=ptr s 0:=y0;have y1:x4 1=ptr tp o:=y1;have y7:x4 7 = .slice (some ⟨h1.next,0,none⟩) 1 1:=y7;rw [bh,b59_4',t59k59_2_eq];unfold yM;simp -implicitDefEqProofs only [y1,av,aw,L4,e4,lz,af,ak];refine cH (Q:=fun r:aY=>r=some (.int .i64 0,h5)) (l2_none rfl rfl) ?_;rintro ex x6 g6 ⟨rfl,z0,z7,z10,rfl⟩;have z0:x6 0=ptr s 0:=z0.trans y0;have z7:x6 7 = .slice (some ⟨h1.next,0,none⟩) 1 1:=z7.trans y7;have z10:x6 10 = .slice none 0 0:=z10;rw [bh,b59_8',t59k59_6_eq];unfold zr;simp -implicitDefEqProofs only [z0,z7,z10,av,aw,DC,jp4.ld,e5,jO,j7,jm,ED,lz,af,ak];refine cH (Q:=fun r:aY=>r=some (.int .i64 0,h5)) (l3_none rfl rfl) ?_;rintro ex x8 g8 ⟨rfl,rfl⟩;rw [bh,b59_20',CN];rfl
end
section
attribute [local congr] ax
structure New (S:Ss) (d n:Nat) (quota:Int):Prop where
 d:S.d=d
 items:S.items = []
 graves:S.graves = []
 cur:S.cur = .pointer none
 cd:S.cd=none
 quota:S.quota=quota
 n:S.D.n=n
 up:Up S.D
 live:S.J.live S.D=true
 ready:S.J.ready=true
 fin:S.J.fin=aU [fV 1]
 slot:0<=S.J.slot
 has:Has S.D S.J.area S.J.gen [fV 1]
def oF:(fV 1).length=9 /\ ∀ x∈fV 1,x<256:=by
 have e:fV 1 = [1,0,0,0,0,0,0,0,1]:=by decide
 rw [e];refine ⟨rfl,fun x hx => ?_⟩;simp only [ER,ET,GX] at hx;omega
def yt:aU [fV 1]=1:=by rw [ew,mj,oF.1];rfl
set_option maxRecDepth 100000 in
def r14n {h:ae} (T:RT h) {d:Nat} {D:Dk} (x:bC h d D) (u:Up D) (fr:lD D) (h4:4<=D.n) {quota:Int} (hq:0<=quota) :
  ∃ g S,CV ZG 14 [ptr d 0,.int .i64 quota] h=some (.tuple #[ptr S.s 0,.int .i64 0],g)/\au h g (fun c=>c=d\/c=D.bb)/\iA g S/\New S d D.n quota:=by
 obtain ⟨j,v,cells,N,h1,e1,x1,j1,o1,E1,k1,jn0,jN,Nn⟩:=r57 x (by omega) u.down;have e1:=jP cp T.n0 (by rfl) e1;have hent:D.entries = []:=fr.entries h4;have hn0:=h.n0_le_next;have T1:RT h1:=T.kept k1 (fun b q=>by rw [q];exact x.dn);have m1:dX none prog 123 h1=some (.map (some h1.next),h1.ba (.obj (.map [] 0))):=rfl;have o2:aK h1 (h1.ba (.obj (.map [] 0))):=au.allocO _ _ _;have g2:(h1.ba (.obj (.map [] 0))).getB h1.next=some (.obj (.map [] 0)):=by rw [ae.bK,DH rfl]
 have nx2:(h1.ba (.obj (.map [] 0))).next=h1.next+1:=rfl;generalize h1.ba (.obj (.map [] 0))=h2' at *;have m2:dX none prog 124 h2'=some (.map (some h2'.next),h2'.ba (.obj (.map [] 0))):=rfl;have o3:aK h2' (h2'.ba (.obj (.map [] 0))):=au.allocO _ _ _;have g3:(h2'.ba (.obj (.map [] 0))).getB h2'.next=some (.obj (.map [] 0)):=by rw [ae.bK,DH rfl]
 have nx3:(h2'.ba (.obj (.map [] 0))).next=h2'.next+1:=rfl;generalize h2'.ba (.obj (.map [] 0))=h3 at *;have b1:cN [(.int .u64 0),(.map none),(.map none)] [(1,1,.map (some h1.next)),(2,1,.map (some h2'.next))]=some (.agg #[.int .u64 0,.map (some h1.next),.map (some h2'.next)]):=rfl;have b2:cN [(.pointer none),(.int .i64 0),(.int .u64 0),(.map none),(.map none),(.pointer none)] [(0,1,ptr j 0),(1,1,.int .i64 quota),(2,3,.agg #[.int .u64 0,.map (some h1.next),.map (some h2'.next)])]=some (.agg (opK j quota 0 h1.next h2'.next).toArray):=rfl;have b3:box (.agg (opK j quota 0 h1.next h2'.next).toArray) h3=some (ptr h3.next 0,h3.alloc (opK j quota 0 h1.next h2'.next)):=lC h3 (opK j quota 0 h1.next h2'.next) rfl;have o4:aK h3 (h3.alloc (opK j quota 0 h1.next h2'.next)):=au.alloc _ _ _;have g4:(h3.alloc (opK j quota 0 h1.next h2'.next)).get h3.next=some (opK j quota 0 h1.next h2'.next):=by rw [ae.aZ,DH rfl]
 have nx4:(h3.alloc (opK j quota 0 h1.next h2'.next)).next=h3.next+1:=rfl;generalize h3.alloc (opK j quota 0 h1.next h2'.next)=g at *;have Og:aK h1 g:=(o2.trans o3).trans o4;have em : ∀ {α:Type} {V:α->Vl} {mb:Nat},g.getB mb=some (.obj (.map [] 0))->ij V g mb []:=fun hg=>⟨⟨[],0,⟨hg,List.nodup_nil,fun e he=>by cases he⟩,rfl⟩,(fun p hp=>by cases hp),List.nodup_nil⟩
 have itg:ij oZ g h1.next []:=em (au.obj (o3.trans o4) g2 (fun q=>q));have grg:ij grV g h2'.next []:=em (au.obj o4 g3 (fun q=>q));have llen:cg v=some (aj 0):=by have:=AT o1;rw [hent] at this;exact this
 have Kg:au h g (fun c=>c=d):=k1.also Og (fun _ _ q=>q.elim);have Tg:RT g:=T1.old Og;have xg:bC g d D.opened:=aK.dk Og x1;have jg:cA g j d D.jn:=j1.keep Og (fun q=>q);have L2:ld1 (ptr h3.next 2) g=some (.int .u64 0,g):=aH g4 rfl rfl;have hx1:=k1.next;have jl:=j1.lt;have dl:=x1.lt;have bbl:D.opened.bb<h1.next:=x1.blt;have bbo:D.opened.bb=D.bb:=rfl;have hs0:g.n0<=h3.next:=by rw [Kg.n0];omega
 obtain ⟨g5,e5,k5,c5,_,n5⟩:=dr (v := .int .u64 1) (o:=2) g4 hs0 (show 2<6 by decide) rfl rfl;have c5:g5.get h3.next=some (opK j quota 1 h1.next h2'.next):=c5;obtain ⟨qi,hqi⟩:=itg.obj;obtain ⟨qg,hqg⟩:=grg.obj;have K5:au h g5 (fun c=>c=d):=Kg.also k5 (fun c hc q=>by omega);have t5:TsAt g5 h3.next 2 1 h1.next h2'.next [] []:=⟨⟨_,c5,rfl,rfl,rfl⟩,itg.kept k5 (kf g4 hqi).symm,grg.kept k5 (kf g4 hqg).symm,by rw [k5.n0,Kg.n0];omega,by rw [k5.n0,Kg.n0];omega,by omega,by decide⟩
 have T5:RT g5:=Tg.kept k5 (fun b q=>by rw [q];exact hs0);have jok:oS D.jn D.opened:=openJ_jok (D:=D.opened) x1.byte _;have jp5:JP g5 h3.next j d D.opened D.jn:=⟨⟨_,c5,rfl⟩,k5.dk xg (by omega) (by omega),jg.keep k5 (by omega),jok,by show 2<=D.n;omega⟩
 have uo:Up D.opened:=⟨u.len,u.down,u.armed⟩
 have fo:lD D.opened:=fr;have hjn:D.jn=D.opened.jn0 D.opened.turn:=fr.jn h4;have hlive:D.jn.live D.opened=true:=by rw [hjn];unfold Jn.live Dk.jn0;rw [uo.down];simp
 have hkn:D.jn.known=0:=by rw [hjn];rfl
 have harn:D.opened.ar=(D.n-2)/2:=rfl;obtain ⟨E,s,r1,r2,r3,r4,r5,r6,_⟩:=rewrite_up (J:=D.jn) (D:=D.opened) (vals := [fV 1]) uo h4 hlive (fun r hr=>by rw [FB.1 hr];exact ⟨by rw [oF.1];decide,oF.2⟩) (by rw [yt,harn];omega) (by rw [hkn];decide) jok (by rw [hkn];exact fo.AM h4)
 have hz:(D.jn.rewrite D.opened [fV 1]).1=0:=by rw [r2]
 have z1:(D.jn.rewrite D.opened [fV 1]).2.1=E:=by rw [r2]
 have z2:(D.jn.rewrite D.opened [fV 1]).2.2.1={ turn:=D.jn.turn,slot:=D.jn.newSlot,area:=D.jn.newArea,gen:=D.jn.known+1,known:=D.jn.known+1,ready:=true,fin:=aU [fV 1] }:=by rw [r2]
 obtain ⟨g6,e6,k6,d6,bb6,n6,j6⟩:=r59n T5 jp5 t5 hz;have hR6:oS (D.jn.rewrite D.opened [fV 1]).2.2.1 (D.jn.rewrite D.opened [fV 1]).2.1:=rewrite_jok jok n6;rw [z1] at d6 bb6 n6 hR6;rw [z2] at j6 hR6;have K6:au h g6 (fun c=>c=d\/c=D.bb):=(K5.mono (fun c _ q => .inl q)).also k6 (fun c hc q=>by
  rcases q with q|q|q
  ·omega
  ·exact .inl q
  ·exact .inr q)
 have it6:ij oZ g6 h1.next []:=t5.it.kept k6 (fun q=>by rcases q with q|q|q<;>omega);have gr6:ij grV g6 h2'.next []:=t5.gr.kept k6 (fun q=>by rcases q with q|q|q<;>omega);have c6:g6.get h3.next=some (opK j quota 1 h1.next h2'.next):=k6.getE c5 (fun q=>by rcases q with q|q|q<;>omega);refine ⟨g6,⟨h3.next,j,d,h1.next,h2'.next,quota,1,[],[],.pointer none,none,E,{ turn:=D.jn.turn,slot:=D.jn.newSlot,area:=D.jn.newArea,gen:=D.jn.known+1,known:=D.jn.known+1,ready:=true,fin:=aU [fV 1] }⟩,bX cp is14 rfl ((t14_eq _ _ _ _).trans ?_),K6,⟨c6,?_,d6,j6,hR6,by show 2<=E.n;rw [n6];show 2<=D.n;omega,it6,gr6,?_,?_,?_,?_,?_,?_,.inl ⟨rfl,rfl⟩,by show 1<_;decide⟩,⟨rfl,rfl,rfl,rfl,rfl,rfl,n6,?_,?_,rfl,rfl,?_,r4⟩⟩
 ·have hq':decide (quota<0)=false:=DW (by omega);have key:Fin 69 (fun ex y g'=>ex = .exit 0/\y 9=ptr h3.next 0/\g'=g) (iter (codeA prog (CV ZG) (aq f14 [1,1,1,1,1,1,0,1,0,0])) az (aS 69 (Go.Abs.up (bs [ptr d 0,.int .i64 quota]) [(4,.pointer none),(5,.int .i64 0),(6,ptr j 0),(7,v),(8,.int .i64 0),(9,ptr h3.next 0),(14,ptr d 0)])) g)->True:=fun _=>trivial;unfold t14;simp -implicitDefEqProofs only [nil24,cx,hq',e1,ex30,ex31,ex32,jm,n00,m1,m2,b1,b2,b3,llen,af,ak];refine cH (Q:=fun r:aY=>r=some (.tuple #[ptr h3.next 0,.int .i64 0],g6)) (bL (rC (CV ZG)) (Inv:=fun k y g'=>y 34=aj 0/\y 35=aj 0/\y 9=ptr h3.next 0/\g'=g) (fin:=fun ex y g'=>ex = .exit 0/\y 9=ptr h3.next 0/\g'=g) ?_ 0 (by have:az=18446744073709551616:=rfl;omega) ⟨rfl,rfl,rfl,rfl⟩) ?_
  ·rintro k y g' ⟨dU,dI,y9,rfl⟩;unfold jw;have ls:aA prog .lss 3 (aj 0) (aj 0)=some (.bool false):=by kernel_rfl
   simp -implicitDefEqProofs only [dU,dI,ls,af,ak];exact dE.out 0 ⟨rfl,y9,rfl⟩
  ·rintro ex y g' ⟨rfl,y9,rfl⟩;rw [bh,b14_exit,Cn];unfold ve;have hb:aA prog .eql 52 (.int .u64 0) (.int .u64 18446744073709551615)=some (.bool false):=by kernel_rfl
   have ad:aA prog .add 52 (.int .u64 0) (.int .u64 1)=some (.int .u64 1):=by kernel_rfl
   simp -implicitDefEqProofs only [y9,av,aw,DC,Nat.add_zero,L2,hb,ad,e5,e6,jm,n00,af,ak]
 ·rw [K6.n0];show h.n0<=h3.next;omega
 ·rw [K6.n0];show h.n0<=h1.next;omega
 ·rw [K6.n0];show h.n0<=h2'.next;omega
 ·show h1.next≠h2'.next;omega
 ·show h3.next≠d;omega
 ·show h3.next≠E.bb;rw [bb6];omega
 ·show h3.next≠j;omega
 ·exact uo.alike r3
 ·show Jn.live _ E=true;unfold Jn.live;rw [r3.down,uo.down,r3.turn,hjn];simp [Dk.jn0]
 ·show (0:Int)<=D.jn.newSlot;rw [r1];omega
end
section
attribute [local congr] ax
attribute [local irreducible] ux bq j8
def strOf (l:List Nat):ByteArray:=⟨(l.map UInt8.ofNat).toArray⟩
def cvBS_at {h:ae} {v:Vl} {l:List Nat} (B:BS h v l):cvBS v h=some (.string (strOf l),h):=by obtain ⟨a,c,rfl,e,_⟩:=B.ex;have hf:=mR e (DG _) (c:=c);rw [D3 (DG _)] at hf;unfold cvBS bsR;simp only [hf,vF];rfl
def str_neq (a:ByteArray):aA prog .neq 9 (.string a) (.string a)=some (.bool false):=by
 have e:aA prog .neq 9 (.string a) (.string a)=some (.bool (!(a.toList==a.toList))):=by unfold aA binA;rfl
 rw [e,DP];rfl
structure EV (s hb mb pb r:Nat) (y:Nat->Vl):Prop where
 y7:y 7=ptr s 0
 y9:y 9=ptr hb 0
 y10:y 10=ptr mb 0
 y11:y 11=ptr pb 0
 y12:y 12=aj r
def U8P (g g':ae):Prop := ∀ c k,g.get c=some k -> ∃ k',g'.get c=some k' /\ ∀ (j z:Nat),k[j]? = some (u8 z)->z<256 -> ∃ z',k'[j]? = some (u8 z')/\z'<256
def U8P.refl (g:ae):U8P g g:=fun c k h=>⟨k,h,fun j z h1 h2=>⟨z,h1,h2⟩⟩
def U8P.trans {a b c:ae} (x:U8P a b) (y:U8P b c):U8P a c:=fun q k h=>by obtain ⟨k1,h1,e1⟩:=x q k h;obtain ⟨k2,h2,e2⟩:=y q k1 h1;refine ⟨k2,h2,fun j z h3 h4 => ?_⟩;obtain ⟨z1,h5,h6⟩:=e1 j z h3 h4;exact e2 j z1 h5 h6
def U8P.one {g g':ae} {b o:Nat} {k:eh} (kp:au g g' (· = b)) (gb:g.get b=some k) (q:g'.get b=some (splice k o (List.replicate 32 (.int .u8 0)))) (ho:o+32<=k.length):U8P g g':=fun c kc hc=>by
 by_cases e:c=b
 ·subst e;rw [gb] at hc;cases hc;refine ⟨_,q,fun j z h1 h2 => ?_⟩;have hj:=(DZ.1 h1).1;unfold splice;rw [DY];by_cases j1:j<o
  ·exact ⟨z,by rw [EI (by simp;omega),List.getElem?_take_of_lt j1];exact h1,h2⟩
  ·by_cases j2:j<o+32
   ·exact ⟨0,by rw [DX (by simp;omega),EI (by simp;omega),HE,DH (by simp;omega)];rfl,by decide⟩
   ·refine ⟨z,?_,h2⟩;rw [DX (by simp;omega),DX (by simp;omega),EY];simp only [E8,GU];rw [show o+32+(j-min o k.length-32)=j by omega];exact h1
 ·exact ⟨kc,kp.getE hc e,fun j z h1 h2=>⟨z,h1,h2⟩⟩
section
variable {g:ae} {s hb mb pb r:Nat} {x:Nat->Vl} (E:EV s hb mb pb r x)
include E
omit E in
def z32bld:cN (List.replicate 32 (.int .u8 0)) []=some (.agg (List.replicate 32 (Value.int .u8 0)).toArray):=by kernel_rfl
omit E in
def idx32 {b off n c i:Nat} {t:Option Nat} (hi:i<n):idxS 32 (.slice (some ⟨b,off,t⟩) n c) (aj i)=some (ptr b (off+i*32)):=by unfold idxS;simp only [aj];rw [DH (by omega),Int.toNat_natCast]
def loopA {m:dB} {b off n c:Nat} {t:Option Nat} {k:eh} (gm:g.get mb=some (cR m (.slice (some ⟨b,off,t⟩) n c))) (hm:m.obj.length=32) (gb:g.get b=some k) (hk:off+n*32<=k.length) (b0:g.n0<=b) (ne:mb≠b) (hn:n<=300) (x13:x 13=aj 0) :
  Fin 133 (fun ex y g'=>ex = .exit 2/\EV s hb mb pb r y/\au g g' (· = b)/\U8P g g') (iter (codeA prog (CV ZG) (aq f3 [1,1,1,1,1,1,1,1,0,1,0,0,1,0,0,0,1,0,0])) az (aS 133 x) g):=by
 refine bL (lK (CV ZG)) (Inv:=fun q y g' => ∃ i,i+q=n/\EV s hb mb pb r y/\y 13=aj i/\au g g' (· = b)/\U8P g g' /\ ∃ k',g'.get b=some k'/\k'.length=k.length) ?_ n (by have:az=18446744073709551616:=rfl;omega) ⟨0,DC _,E,x13,au.refl _ _,U8P.refl _,k,gb,rfl⟩;rintro q y g' ⟨i,hiq,E,y13,K,up,k',gb',hl⟩;have lw:ld1 (ptr mb 36) g'=some (.slice (some ⟨b,off,t⟩) n c,g'):=aH (K.getE gm ne) (As hm) rfl;have ll:cg (.slice (some ⟨b,off,t⟩) n c)=some (aj n):=rfl;unfold fe;by_cases hi:i<n
 ·obtain ⟨g2,e2,k2,q2,_,_⟩:=oh (o:=off+i*32) (n:=32) (B':=List.replicate 32 (.int .u8 0)) gb' (by rw [K.n0];exact b0) (by omega) rfl rfl;simp -implicitDefEqProofs only [y13,E.y10,aw,DC,lw,ll,gS,DN hi,z32bld,idx32 hi,e2,eW (show i+1<=9223372036854775807 by omega),af,ak];refine dE.next (q-1) (by omega) ⟨i+1,by omega,⟨E.y7,E.y9,E.y10,E.y11,E.y12⟩,rfl,K.trans k2,up.trans (.one k2 gb' q2 (by omega)),_,q2,by simp [splice];omega⟩
 ·simp -implicitDefEqProofs only [y13,E.y10,aw,DC,lw,ll,gS,DW hi,af,ak];exact dE.out 2 ⟨rfl,⟨E.y7,E.y9,E.y10,E.y11,E.y12⟩,K,up⟩
def loopC {b n c:Nat} {t:Option Nat} {k:eh} (x15:x 15 = .slice (some ⟨b,0,t⟩) n c) (gb:g.get b=some k) (hk:n*32<=k.length) (b0:g.n0<=b) (hn:n<=300) (x16:x 16=aj 0) :
  Fin 133 (fun ex y g'=>ex = .exit 6/\EV s hb mb pb r y/\au g g' (· = b)) (iter (codeA prog (CV ZG) (aq f3 [1,1,1,1,1,1,1,1,0,1,0,0,1,0,0,1,1,1,0,1,0,0])) az (aS 133 x) g):=by
 refine bL (jT (CV ZG)) (Inv:=fun q y g' => ∃ i,i+q=n/\EV s hb mb pb r y/\y 15 = .slice (some ⟨b,0,t⟩) n c/\y 16=aj i/\au g g' (· = b) /\ ∃ k',g'.get b=some k'/\k'.length=k.length) ?_ n (by have:az=18446744073709551616:=rfl;omega) ⟨0,DC _,E,x15,x16,au.refl _ _,k,gb,rfl⟩;rintro q y g' ⟨i,hiq,E,y15,y16,K,k',gb',hl⟩;have ll:cg (.slice (some ⟨b,0,t⟩) n c)=some (aj n):=rfl;unfold ed;by_cases hi:i<n
 ·obtain ⟨g2,e2,k2,q2,_,_⟩:=oh (o:=0+i*32) (n:=32) (B':=List.replicate 32 (.int .u8 0)) gb' (by rw [K.n0];exact b0) (by omega) rfl rfl;simp -implicitDefEqProofs only [y15,y16,ll,gS,DN hi,z32bld,idx32 hi,e2,eW (show i+1<=9223372036854775807 by omega),af,ak];refine dE.next (q-1) (by omega) ⟨i+1,by omega,⟨E.y7,E.y9,E.y10,E.y11,E.y12⟩,y15,rfl,K.trans k2,_,q2,by simp [splice];omega⟩
 ·simp -implicitDefEqProofs only [y15,y16,ll,gS,DW hi,af,ak];exact dE.out 6 ⟨rfl,⟨E.y7,E.y9,E.y10,E.y11,E.y12⟩,K⟩
def loopB {ix n c:Nat} {a:Option Addr} (gp:g.get pb=some [aj ix,.slice a n c]) (hab:0<n -> ∀ y,a=some y->g.n0<=y.block/\y.block≠pb) (hz:0<n -> ∃ b off t k,a=some ⟨b,off,t⟩/\g.get b=some k /\ ∀ j,j<n -> ∃ z,k[off+j]? = some (u8 z)/\z<256) (hn:n<=100000) (x14:x 14=aj 0) :
  Fin 133 (fun ex y g'=>ex = .exit 4/\EV s hb mb pb r y/\au g g' (fun z => ∃ w,a=some w/\0<n/\z=w.block)) (iter (codeA prog (CV ZG) (aq f3 [1,1,1,1,1,1,1,1,0,1,0,0,1,0,0,1,0,1,0,0])) az (aS 133 x) g):=by
 refine bL (kF (CV ZG)) (Inv:=fun q y g' => ∃ i,i+q=n/\EV s hb mb pb r y/\y 14=aj i/\au g g' (fun z => ∃ w,a=some w/\0<n/\z=w.block)/\(0<n -> ∃ b off t k,a=some ⟨b,off,t⟩/\g'.get b=some k /\ ∀ j,j<n -> ∃ z,k[off+j]? = some (u8 z)/\z<256)) ?_ n (by have:az=18446744073709551616:=rfl;omega) ⟨0,DC _,E,x14,au.refl _ _,hz⟩;rintro q y g' ⟨i,hiq,E,y14,K,hk⟩;have lw:ld1 (ptr pb 1) g'=some (.slice a n c,g'):=aH (K.getE gp (fun ⟨w,h1,h3,h2⟩=>(hab h3 w h1).2 h2.symm)) rfl rfl;have ll:cg (.slice a n c)=some (aj n):=rfl;unfold eU;by_cases hi:i<n
 ·obtain ⟨b,off,t,k,rfl,gb,hz⟩:=hk (by omega);obtain ⟨z,h1,h2⟩:=hz i hi;have ix:idxS 1 (.slice (some ⟨b,off,t⟩) n c) (aj i)=some (ptr b (off+i)):=by unfold idxS;simp only [aj];rw [DH (by omega),Int.toNat_natCast,FG]
  have lz:=aH gb h1;have xo:aA prog .xor 5 (u8 z) (.int .u8 255)=some (u8 (z ^^^ 255)):=iP prog 5 (k := .u8) rfl (a:=z) (b:=255) (by show _<2^8;omega) (by decide);have hlt:=(DZ.1 h1).1;have b0:g'.n0<=b:=by rw [K.n0];exact (hab (by omega) _ rfl).1
  obtain ⟨g2,e2,k2,q2,_,_⟩:=dr (o:=off+i) (v:=u8 (z ^^^ 255)) gb b0 hlt rfl rfl;simp -implicitDefEqProofs only [y14,E.y11,aw,DC,lw,ll,gS,DN hi,ix,lz,xo,e2,eW (show i+1<=9223372036854775807 by omega),af,ak];refine dE.next (q-1) (by omega) ⟨i+1,by omega,⟨E.y7,E.y9,E.y10,E.y11,E.y12⟩,rfl,K.trans (k2.mono (fun c _ q=>⟨_,rfl,by omega,q⟩)),fun _=>⟨b,off,t,_,rfl,q2,fun j hj => ?_⟩⟩;by_cases hji:j=i
  ·subst hji;exact ⟨z ^^^ 255,by rw [List.getElem?_set_self hlt],GM (n:=8) h2 (by decide)⟩
  ·obtain ⟨z',h3,h4⟩:=hz j hj;exact ⟨z',by rw [IV (by omega)];exact h3,h4⟩
 ·simp -implicitDefEqProofs only [y14,E.y11,aw,DC,lw,ll,gS,DW hi,af,ak];exact dE.out 4 ⟨rfl,⟨E.y7,E.y9,E.y10,E.y11,E.y12⟩,K⟩
end
end
section
attribute [local congr] ax
attribute [local irreducible] ux bq j8
def r18n {h:ae} (hG:3<=h.n0) {S:Ss} (x:iA h S) (hu:S.up=true) (hl:S.items = [] \/ ∃ p,S.items = [p]) : ∃ sv g,CV ZG 18 [ptr S.s 0] h=some (sv,g)/\aK h g/\cG g h.next 32 sv (S.items.map (·.1)).length ((S.items.map (·.1)).flatMap bJ):=by have e1:=r60 cp hG x;rw [hu] at e1;simp -implicitDefEqProofs only [DV] at e1;obtain ⟨sv,g,e2,o,own,_⟩:=r64' hG x.it hl;refine ⟨sv,g,bX cp is18 rfl ((t18_eq _ _ _).trans ?_),o,own⟩;unfold t18;simp -implicitDefEqProofs only [e1,jm,n00,av,aw,DC,Nat.reduceAdd,x.l3,e2,af,ak]
section
variable {id:List Nat} {m:dB} {v dv:Vl} {ix:Nat} {g:ae} {hb:Nat} (w:fO id) (ho:m.obj.length=32) (hv:bW v=false/\v.oneCell'=true) (hd:bW dv=false) (gh:g.get hb=some (Aq id m v ix dv))
include w ho hv gh
omit ho hv in
def hd_id:bQ 32 (ptr hb 0) g=some (kV id,g):=uv gh (A := []) (B:=bJ id) (C:=cR m v++([aj ix,dv] ++ [])) (by simp) rfl (bu w) (bA _).1
def hd_m:bQ 37 (ptr hb 32) g=some (mv m v,g):=uv gh (A:=bJ id) (B:=cR m v) (C := [aj ix,dv] ++ []) (DY _ _ _) (bu w) (gT ho hv).1 (gT ho hv).2.1
include hd
def hd_dv:ld1 (ptr hb 70) g=some (dv,g):=aH gh (by rw [DX (by rw [hd_ab w ho hv];decide),hd_ab w ho hv];rfl) hd
def hd_p:bQ 2 (ptr hb 69) g=some (pv ix dv,g):=uv gh (A:=bJ id++cR m v) (B := [aj ix,dv]) (C := []) rfl (hd_ab w ho hv) rfl (by simp [Abs.noHoles,hd,show bW (aj ix)=false from rfl])
end
structure FX (g:ae) (N0:Nat) (S:Ss) (hb:Nat) (id:List Nat) (m:dB) (v:Vl) (ix:Nat) (dv:Vl) (d:List Nat):Prop where
 T:RT g
 n0:g.n0<=N0
 x:iA g S
 hdd:g.get hb=some (Aq id m v ix dv)
 M:fT g m v
 B:BS g dv d
 low:S.s<N0/\S.j<N0/\S.d<N0/\S.D.bb<N0/\S.im<N0/\S.gm<N0/\hb<N0
 vl : ∀ b,zK v=some b->b<N0
 dl : ∀ a n c,dv = .slice (some a) n c->a.block<N0
 cur:S.cur = .pointer none/\S.cd=none
def FX.kept {g g':ae} {N0:Nat} {S:Ss} {hb:Nat} {id:List Nat} {m:dB} {v:Vl} {ix:Nat} {dv:Vl} {d:List Nat} (F:FX g N0 S hb id m v ix dv d) (k:au g g' (N0 <= ·)):FX g' N0 S hb id m v ix dv d:=by obtain ⟨l1,l2,l3,l4,l5,l6,l7⟩:=F.low;have x:=F.x;refine ⟨F.T.kept k (fun b q=>D9 F.n0 q),by rw [k.n0];exact F.n0,⟨k.getE x.c (by omega),by rw [k.n0];exact x.n0,k.dk x.dk (by omega) (by omega),x.jn.keep k (by omega),x.ok,x.n2,x.it.kept k (by omega),x.gr.kept k (by omega),by rw [k.n0];exact x.im0,by rw [k.n0];exact x.gm0,x.ne,x.sd,x.sb,x.sj,.inl F.cur,x.inc⟩,k.getE F.hdd (by omega),⟨F.M.sl.keep k (fun b hb q=>by have:=F.vl b hb;omega),F.M.wf⟩,?_,F.low,F.vl,F.dl,F.cur⟩;obtain ⟨a,c,rfl,s,gs⟩:=F.B.ex;exact .of (k.bytes s (fun y hy hn q=>by subst hy;have:=F.dl _ _ _ rfl;omega)) gs
structure CM (g:ae) (N0 mb pb:Nat) (m:dB) (w:Vl) (ix:Nat) (dw:Vl):Prop where
 gm:g.get mb=some (cR m w)
 gp:g.get pb=some [aj ix,dw]
 mN:N0<=mb
 pN:N0<=pb
 ne:mb≠pb
 ww : ∃ b off t n c k,w = .slice (some ⟨b,off,t⟩) n c/\g.get b=some k/\off+n*32<=k.length/\N0<=b/\b≠mb/\b≠pb/\n<=300
 dd : ∃ a n c,dw = .slice a n c/\n<=100000/\(0<n -> ∀ y,a=some y->N0<=y.block/\y.block≠mb/\y.block≠pb)/\(0<n -> ∃ b off t k,a=some ⟨b,off,t⟩/\g.get b=some k /\ ∀ j,j<n -> ∃ z,k[off+j]? = some (u8 z)/\z<256)
def CM.mk' {g:ae} {N0 mb pb:Nat} {m:dB} {w:Vl} {ix:Nat} {dw:Vl} {d:List Nat} (gm:g.get mb=some (cR m w)) (gp:g.get pb=some [aj ix,dw]) (mN:N0<=mb) (pN:N0<=pb) (ne:mb≠pb) (M:fT g m w) (hm0:0<m.pieces.length) (hm:m.pieces.length<=300) (B:BS g dw d) (hd:d.length<=100000) (vn : ∀ b,zK w=some b->N0<=b/\b≠mb/\b≠pb) (dn:0<d.length -> ∀ a n c,dw = .slice (some a) n c->N0<=a.block/\a.block≠mb/\a.block≠pb):CM g N0 mb pb m w ix dw:=by
 refine ⟨gm,gp,mN,pN,ne,?_,?_⟩
 ·obtain ⟨a,c,rfl,_,_,h3⟩:=M.sl;obtain ⟨b,off,s,k,rfl,h4,h5,_⟩:=h3 hm0;obtain ⟨q,hq⟩ : ∃ q,m.pieces.length=q+1:=⟨m.pieces.length-1,by omega⟩
  obtain ⟨v1,v2,v3⟩:=vn b (by rw [hq];rfl);exact ⟨b,off,s,_,c,k,rfl,h4,h5,v1,v2,v3,hm⟩
 ·obtain ⟨a,c,rfl,s,_⟩:=B.ex;obtain ⟨_,hby,h3⟩:=ay s;refine ⟨a,_,c,rfl,hd,fun h0 y hy=>by subst hy;exact dn h0 _ _ _ rfl,fun h0 => ?_⟩;obtain ⟨b,off,t,k,rfl,gk,_,hz⟩:=h3 h0;refine ⟨b,off,t,k,rfl,gk,fun j hj=>⟨_,hz j hj,?_⟩⟩;rw [DK,DE hj];exact hby _ (GP _)
def b3_25' (C:ah) (e:aO) (h:ae):b3_25 C 2 e h=k3_23 C e h:=rfl
def b3_28' (C:ah) (e:aO) (h:ae):b3_28 C 4 e h=k3_26 C e h:=rfl
def b3_36' (C:ah) (e:aO) (h:ae):b3_36 C 6 e h=k3_34 C e h:=rfl
def b3_16' (C:ah) (e:aO) (h:ae):b3_16 C 0 e h=k3_14 C e h:=rfl
def get_one {α:Type} (k:List Nat) (a:α):DM.get ([(k,a)]:DM α) k=some a:=by unfold DM.get;rw [List.find?_cons_of_pos (by simp)];rfl
set_option maxRecDepth 100000 in
def rd3 {g:ae} {N0:Nat} {S:Ss} {hb:Nat} {id:List Nat} {m:dB} {v:Vl} {ix:Nat} {dv:Vl} {d:List Nat} {mb pb r:Nat} {w dw:Vl} (F:FX g N0 S hb id m v ix dv d) (K:CM g N0 mb pb m w ix dw) (wi:fO id) (hu:S.up=true) {it:It} (hit:S.items = [(id,it)]) {rc:List Nat} (hread:kh S.D S.J id it.at_=some (m,ix,d,rc)) (har:S.D.ar<=190) (hm0:0<m.pieces.length) (hm:m.pieces.length<=300) (hd:d.length<=100000) (hr:r<2) {x:Nat->Vl} (E:EV S.s hb mb pb r x) :
  ∃ g' y w' dw',dV (CV ZG) x g=some (.normal,aS 133 y,g')/\EV S.s hb mb pb (r+1) y/\FX g' N0 S hb id m v ix dv d/\CM g' N0 mb pb m w' ix dw':=by
 have ho:=F.M.wf.obj.1;have hv:bW v=false/\v.oneCell'=true:=⟨F.M.cell.1,F.M.cell.2.1⟩
 have dcell:=F.B.cell;obtain ⟨b,off,t,n,c,k,rfl,gb,hk,bN,bm,bp,hn⟩:=K.ww;obtain ⟨a,nd,cd,rfl,hnd,hab,hz⟩:=K.dd;obtain ⟨ex,x1,g1,e1,rfl,E1,k1,up1⟩:=loopA (x:=up x [(13,.int .i64 0),(48,aj r),(49,.bool true)]) (g:=g) (s:=S.s) (hb:=hb) (mb:=mb) (pb:=pb) (r:=r) ⟨E.y7,E.y9,E.y10,E.y11,E.y12⟩ K.gm ho gb hk (D9 F.n0 bN) bm.symm hn rfl;have K1:au g g1 (N0 <= ·):=k1.mono (fun c _ q=>by subst q;exact bN);have F1:=F.kept K1;have gp1:=k1.getE K.gp bp.symm;have gm1:=k1.getE K.gm bm.symm;obtain ⟨ex,x2,g2,e2,rfl,E2,k2⟩:=loopB (x:=up x1 [(14,.int .i64 0)]) (g:=g1) (s:=S.s) (hb:=hb) (mb:=mb) (pb:=pb) (r:=r) ⟨E1.y7,E1.y9,E1.y10,E1.y11,E1.y12⟩ gp1 (fun h0 y hy=>⟨D9 F1.n0 (hab h0 y hy).1,(hab h0 y hy).2.2⟩) (fun h0=>by
  obtain ⟨b',off',t',k',e,gk,hj⟩:=hz h0;obtain ⟨k2,q1,q2⟩:=up1 b' k' gk;exact ⟨b',off',t',k2,e,q1,fun j h=>by obtain ⟨z,z1,z2⟩:=hj j h;exact q2 _ z z1 z2⟩) hnd rfl
 have K2:au g1 g2 (N0 <= ·):=k2.mono (fun c _ q=>by obtain ⟨y,h1,h0,h2⟩:=q;rw [h2];exact (hab h0 y h1).1)
 have F2:=F1.kept K2;have gp2:=k2.getE gp1 (fun q=>by obtain ⟨y,h1,h0,h2⟩:=q;exact (hab h0 y h1).2.2 h2.symm)
 have gm2:=k2.getE gm1 (fun q=>by obtain ⟨y,h1,h0,h2⟩:=q;exact (hab h0 y h1).2.1 h2.symm)
 obtain ⟨sv,g3,e3,o3,own3⟩:=r18n F2.T.n0 F2.x hu (.inr ⟨_,hit⟩);have F3:=F2.kept (o3.mono (fun _ _ q=>q.elim));have gp3:=aK.get o3 gp2;have gm3:=aK.get o3 gm2;have l1:(S.items.map (·.1)).length=1:=by rw [hit];rfl
 obtain ⟨q1,_,_,q4⟩:=own3;rw [l1] at q1 q4;obtain ⟨b3,t3,rfl,b3n,q5⟩ : ∃ b t,sv = .slice (some ⟨b,0,t⟩) 1 1/\g2.next<=b/\g3.get b=some ((S.items.map (·.1)).flatMap bJ):=by
  rcases q4 with ⟨_,q⟩|⟨b,s,q6,q7,⟨_,q⟩|⟨_,q⟩⟩
  ·omega
  ·omega
  ·exact ⟨b,s,q6,q7,q⟩
 have hm2:=g2.aL gm2;have hp2:=g2.aL gp2;have mN:=K.mN;have pN:=K.pN;obtain ⟨ex,x4,g4,e4,rfl,E4,k4⟩:=loopC (x:=up x2 [(15,.slice (some ⟨b3,0,t3⟩) 1 1),(16,.int .i64 0),(78,ptr S.s 0),(79,.slice (some ⟨b3,0,t3⟩) 1 1)]) (g:=g3) (s:=S.s) (hb:=hb) (mb:=mb) (pb:=pb) (r:=r) ⟨E2.y7,E2.y9,E2.y10,E2.y11,E2.y12⟩ rfl q5 (by rw [q1];omega) (by rw [o3.n0];have:=g2.n0_le_next;omega) (by decide) rfl;have F4:=F3.kept (k4.mono (fun c _ q=>by omega));have gp4:=k4.getE gp3 (by omega);have gm4:=k4.getE gm3 (by omega);have G5:=r19 cp F4.T F4.x har wi;unfold BN at G5;have hget:S.items.get id=some it:=by rw [hit];exact get_one id it
 rw [DL (by rw [hu];decide),hget] at G5;simp only at G5;rw [hread] at G5;obtain ⟨g5,v5,d5,o5,e5,M5,B5,vn5,dn5⟩:=G5;have F5:=F4.kept (o5.mono (fun _ _ q=>q.elim));have mok:=M5.ok;have m4:=k4.next;have m3:=o3.next;have hm4:=g4.aL gm4;have hp4:=g4.aL gp4;have n5:g5.n0<=N0:=F5.n0;obtain ⟨g6,t6,k6,q6,_,n6⟩:=aN (n:=37) (k':=cR m v5) (aK.get o5 gm4) (by omega) (by rw [(gT (m:=m) (v := .slice (some ⟨b,off,t⟩) n c) ho ⟨rfl,rfl⟩).1]) mok.1 mok.2.2;have hB1:aM [aj ix,d5]=true:=by simp [aM,B5.cell.2.1,show (aj ix).oneCell'=true from rfl]
 have hB2:Abs.noHoles [aj ix,d5]=true:=by simp [Abs.noHoles,B5.cell.1,show bW (aj ix)=false from rfl]
 obtain ⟨g7,t7,k7,q7,_,n7⟩:=aN (n:=2) (k' := [aj ix,d5]) (k6.getE (aK.get o5 gp4) K.ne.symm) (by rw [k6.n0];omega) rfl rfl hB1;have K7:au g5 g7 (fun c=>c=mb\/c=pb):=(k6.mono (fun _ _ q => .inl q)).trans (k7.mono (fun _ _ q => .inr q));have F7:=F5.kept (K7.mono (fun c _ q=>by rcases q with q|q<;>omega));have gm7:=k7.getE q6 K.ne;have M7:fT g7 m v5:=⟨M5.sl.keep K7 (fun b hb q=>by have:=vn5 b hb;rcases q with q|q<;>omega),M5.wf⟩
 have B7:BS g7 d5 d:=by obtain ⟨a',c',rfl,s',gs'⟩:=B5.ex;exact .of (K7.bytes s' (fun y hy hn q=>by subst hy;have:=dn5 _ _ _ rfl;rcases q with q|q<;>omega)) gs'
 have l7:bQ 37 (ptr mb 0) g7=some (mv m v5,g7):=aP gm7 mok.1 mok.2.1;have l8:=hd_m wi ho hv F7.hdd;obtain ⟨g8,e8,o8⟩:=r20 cp M7 F7.M hm;have F8:=F7.kept (o8.mono (fun _ _ q=>q.elim));have B8:=B7.old o8;have l9:ld1 (ptr pb 1) g8=some (d5,g8):=aH (aK.get o8 q7) rfl B5.cell.1;have l10:=hd_dv wi ho hv dcell.1 F8.hdd;have s1:=cvBS_at B8;have s2:=cvBS_at F8.B;have l0:=hd_id wi F4.hdd;have e21 : ∀ z:Nat->Vl,z 7=ptr S.s 0->z 9=ptr hb 0->z 10=ptr mb 0->z 11=ptr pb 0->z 12=aj r -> ∃ y,wO (CV ZG) z g8=some (.normal,aS 133 y,g8)/\EV S.s hb mb pb (r+1) y:=by intro z z7 z9 z10 z11 z12;refine ⟨up z [(12,aj (r+1)),(50,aj r),(51,aj (r+1))],?_,z7,z9,z10,z11,rfl⟩;unfold wO;simp -implicitDefEqProofs only [z12,eW (show r+1<=9223372036854775807 by omega),af,ak]
 have key : ∃ y,dV (CV ZG) x g=some (.normal,aS 133 y,g8)/\EV S.s hb mb pb (r+1) y:=by
  have ls:aA prog .lss 3 (aj r) (.int .i64 2)=some (.bool true):=by have:=gS r 2;rw [DN hr] at this;exact this
  unfold dV;simp -implicitDefEqProofs only [E.y12,ls,af,ak];rw [e1];simp -implicitDefEqProofs only [bh,b3_25',t3k3_23_eq];unfold CH;simp -implicitDefEqProofs only [af];rw [e2];simp -implicitDefEqProofs only [bh,b3_28',t3k3_26_eq];unfold Bm;simp -implicitDefEqProofs only [E2.y7,e3,af];rw [e4];simp -implicitDefEqProofs only [bh,b3_36',t3k3_34_eq];unfold Da;have t6:bI 37 (ptr mb 0) (mv m v5) g5=some (undef,g6):=t6;have t7:bI 2 (ptr pb 0) (pv ix d5) g6=some (undef,g7):=t7;simp -implicitDefEqProofs only [E4.y7,E4.y9,E4.y10,E4.y11,aw,DC,Nat.add_zero,Nat.reduceAdd,l0,e5,ex30,ex31,ex32,t6,t7,jm,ED,aR,DP,aD,l7,l8,e8,dt,EK,l9,l10,s1,s2,str_neq,DB,DS,af,ak,t3k3_21_eq];exact e21 _ E4.y7 E4.y9 E4.y10 E4.y11 E4.y12
 obtain ⟨y,ey,Ey⟩:=key;exact ⟨g8,y,v5,d5,ey,Ey,F8,.mk' (aK.get o8 gm7) (aK.get o8 q7) mN pN K.ne (M7.old o8) hm0 hm B8 hd (fun b hb=>by have:=vn5 b hb;exact ⟨by omega,by omega,by omega⟩) (fun _ a n c q=>by have:=dn5 a n c q;exact ⟨by omega,by omega,by omega⟩)⟩
end
section
attribute [local congr] ax
attribute [local irreducible] ux bq j8 fG
def is3:bE prog 3 f3 := .of (by kernel_rfl)
def end3 {g:ae} {N0:Nat} {S:Ss} {hb:Nat} {id:List Nat} {m:dB} {v:Vl} {ix:Nat} {dv:Vl} {d:List Nat} {mb pb:Nat} (F:FX g N0 S hb id m v ix dv d) (wi:fO id) (hu:S.up=true) {it:It} (hit:S.items = [(id,it)]) {x:Nat->Vl} (E:EV S.s hb mb pb 2 x) : ∃ g',wL (CV ZG) x g=some (.bool true,g'):=by
 obtain ⟨sv,g1,e1,o1,own1⟩:=r18n F.T.n0 F.x hu (.inr ⟨_,hit⟩);have F1:=F.kept (o1.mono (fun _ _ q=>q.elim));obtain ⟨sw,g2,e2,o2,own2⟩:=r18n F1.T.n0 F1.x hu (.inr ⟨_,hit⟩);have F2:=F1.kept (o2.mono (fun _ _ q=>q.elim));have hl:S.items.map (·.1) = [id]:=by rw [hit];rfl
 rw [hl] at own1 own2;have ll:cg sv=some (.int .i64 1):=AT own1;have hw : ∀ x ∈ [id],fO x:=fun x hx=>by rw [FB.1 hx];exact wi
 obtain ⟨b,q,e3,e4⟩:=dg_at (t := [id]) (i:=0) (lF (ks:=iT) own2 (dM (P:=fO) (fun a ha=>bT ha) _ hw)) hw rfl;have e3:idxS 32 sw (.int .i64 0)=some (ptr b q):=e3;have l1:=hd_id wi F1.hdd;have l2:=hd_id wi F2.hdd;have eD:aA prog .eql 32 (kV id) (kV id)=some (.bool true):=by have:=(eqD32 wi wi).1;simpa using this
 have e1':aA prog .eql 3 (.int .i64 1) (.int .i64 1)=some (.bool true):=by kernel_rfl
 have e12:=jP cp F2.T.n0 (by rfl) (r12 F2.T.tab);have vk:Abs.veq (kV id) (kV id)=true:=by show Abs.veqL (bJ id).toArray.toList (bJ id).toArray.toList=true;exact (bT wi).veq
 have ck:dW true (bQ 32 (ptr hb 0) g1) (kV id)=true:=dq l1 vk;refine ⟨g2,?_⟩;unfold wL;simp -implicitDefEqProofs only [E.y7,E.y9,e1,ll,e1',aR,DP,aD,e2,e3,e4,aw,DC,Nat.add_zero,l2,eD,DV,e12,ck,EJ,af,ak]
set_option maxRecDepth 100000 in
set_option maxHeartbeats 800000 in
def r3 {h:ae} (T:RT h) {x0:Vl} {dl:List Nat} (B:BS h x0 dl) (s:Bool) : ∃ g,CV ZG 3 [x0,.bool s] h=some (.bool true,g):=by
 by_cases hbig:300<dl.length
 ·refine ⟨h,bX cp is3 rfl ((t3_eq _ _ _ _).trans ?_)⟩;have gt:aA prog .gtr 3 (aj dl.length) (.int .i64 300)=some (.bool true):=by unfold aj;rw [dD,DN (by omega)]
  have e12:=jP cp T.n0 (by rfl) (r12 T.tab);unfold t3;simp -implicitDefEqProofs only [B.len,gt,e12,af,ak]
 have hn0:=h.n0_le_next;have gt:aA prog .gtr 3 (aj dl.length) (.int .i64 300)=some (.bool false):=by unfold aj;rw [dD,DW (by omega)]
 obtain ⟨e13,x1,o1⟩:=r13 h (n:=64) (by decide) (by decide);have e13:CV ZG 13 [.int .i64 64] h=some (.tuple #[ptr (h.next+1) 0,.int .i64 0],pa h 64):=jP cp T.n0 (by rfl) e13;have u1:=new_up h 64;have f1:=new_fresh h 64;have bb1:(Dk.new h 64).bb=h.next:=rfl;have nn1:(Dk.new h 64).n=64:=rfl;generalize pa h 64=h1 at *;generalize Dk.new h 64=D0 at *;obtain ⟨g2,S,e14,K2,xS,W⟩:=r14n (T.old o1) x1 u1 f1 (by rw [nn1];decide) (quota:=1000) (by decide);have O2:aK h g2:=o1.also K2 (fun c hc q=>by rcases q with q|q<;>omega);have T2:=T.old O2;obtain ⟨g3,v,b,d0,d1,e15,Ob⟩:=r15 T2 (B.old O2) (by omega) s;have wi:=u7 (cX dl d0 d1);have hbad:=zc (dl:=dl) (d0:=d0) (d1:=d1) (by omega);have hM:=Ob.M;have hl0:(cX dl d0 d1).pieces.length=2:=rfl;obtain ⟨id,pU⟩ : ∃ id,id=j8 (cX dl d0 d1):=⟨_,rfl⟩
 rw [<-pU] at e15 wi;obtain ⟨ix,hix⟩ : ∃ ix:Nat,ix=if s then 1 else 0:=⟨_,rfl⟩
 rw [<-hix] at e15;have hix2:ix<65536:=by rw [hix];split<;>decide
 obtain ⟨d,hd⟩ : ∃ d,d=if s then d1 else d0:=⟨_,rfl⟩
 have Pd:=Ob.p;rw [<-hd] at Pd;have hdl:=Pd.len;have hk:wA (cX dl d0 d1) ix d=0:=by rw [hd] at hdl;rw [hix,hd];exact chk_obj (by omega) s hdl
 have hrec:=rec_facts (d0:=d0) (d1:=d1) (dl:=dl) (ix:=ix) (by omega) Pd.by_;have hrb:=fun {D:Dk} {J:Jn} {recs:List (List Nat)} (H:Has D J.area J.gen recs) (hs:0<=J.slot) (har:D.ar<=4096) (hlv:J.live D=true) {at_:Nat} (he:(at_,fG (cX dl d0 d1) ix d)∈ju recs 0)=>read_back H hs har hlv (by omega) hix2 hk he;generalize hm:cX dl d0 d1=m at *;have ho:=hM.wf.obj.1;have hv:bW v=false/\v.oneCell'=true:=⟨hM.cell.1,hM.cell.2.1⟩
 have hok:=hd_ok (id:=id) (m:=m) (v:=v) (ix:=ix) (dv:=mQ b dl.length) wi ho hv ⟨rfl,rfl⟩;obtain ⟨h4,z4,o4,q4,n4⟩:=fresh hdZ g3;obtain ⟨g5,t5,k5,q5,_,n5⟩:=aN (n:=71) (k':=Aq id m v ix (mQ b dl.length)) q4 (by rw [o4.n0];exact g3.n0_le_next) rfl hok.1 hok.2.2;have O5:aK g3 g5:=aK.bB o4 k5 (DG _);have P5:=Ob.o.trans O5;have T5:=T2.old P5;have M5:=hM.old O5;have Pd5:=Pd.old (B:=fun _=>False) O5 (fun q=>q);have l36:=hd_m wi ho hv q5;have l38:=hd_p wi ho hv (rfl:bW (mQ b dl.length)=false) q5;obtain ⟨g6,v',dv',e16,O6,N1,N2,hN1,hN2,ow1,ow2,hN3⟩:=r16 cp M5 (by rw [hl0];decide) (by rw [hl0];decide) (ix:=ix) Pd5.bs (by omega);have sl6:fT g6 m v':=⟨lF (ks:=iT) ow1 (dM (P:=fO) (fun a ha=>bT ha) _ hM.wf.pieces),hM.wf⟩
 obtain ⟨b6,dn6⟩:=ow2.bs;have mok:=sl6.ok;have dcell:=b6.cell;obtain ⟨h7,z7,o7,q7,n7⟩:=fresh zM g6;obtain ⟨h8,z8,o8,q8,n8⟩:=fresh zP h7;obtain ⟨h9,t9,k9,q9,_,n9⟩:=aN (n:=37) (k':=cR m v') (aK.get o8 q7) (by rw [o8.n0,o7.n0];exact g6.n0_le_next) rfl mok.1 mok.2.2;have hP1:aM [aj ix,dv']=true:=by simp [aM,dcell.2.1,show (aj ix).oneCell'=true from rfl]
 have hP2:Abs.noHoles [aj ix,dv']=true:=by simp [Abs.noHoles,dcell.1,show bW (aj ix)=false from rfl]
 obtain ⟨g10,t10,k10,q10,_,n10⟩:=aN (n:=2) (k' := [aj ix,dv']) (k9.getE q8 (by omega)) (by rw [k9.n0,o8.n0,o7.n0];have:=g6.n0_le_next;omega) rfl rfl hP1;have O10:aK g6 g10:=aK.bB (aK.bB (o7.trans o8) k9 (DG _)) k10 (by omega);have qm:g10.get g6.next=some (cR m v'):=k10.getE q9 (by omega);have P10:aK g5 g10:=O6.trans O10;have T10:=T5.old P10;have x10:iA g10 S:=xS.old (P5.trans P10);have l44:bQ 37 (ptr g6.next 0) g10=some (mv m v',g10):=aP qm mok.1 mok.2.1;have l45:bQ 2 (ptr h7.next 0) g10=some (pv ix dv',g10):=aP q10 rfl hP2;have M10:=sl6.old O10;have B10:=b6.old O10;have nS:S.D.n=64:=W.n.trans nn1;have arS:S.D.ar=31:=by have e:S.D.ar=(S.D.n-2)/2:=rfl;rw [e,nS]
 have hup:S.up=true:=by unfold Ss.up;rw [W.live,arS];rfl
 obtain ⟨E,a1,a2,a3,_⟩:=W.has.append W.up W.live W.ready W.fin (r:=fG m ix d) (by omega) hrec.2 (by
  rw [yt,arS];have:br (fG m ix d).length<=5:=by unfold br;split<;>omega
  omega)
 have finS:S.J.fin=1:=by rw [W.fin,yt]
 obtain ⟨g11,e17,K11,x11⟩:=r17 T10 x10 hup W.items W.graves W.cur W.cd M10 hbad hix2 B10 (by omega) (by rw [W.quota];omega) (by rw [W.quota];decide) hk (by rw [a1]) (by omega) (by omega) (by omega);rw [a1,<-pU] at x11;simp only at x11;obtain ⟨S1,hS1⟩ : ∃ S1:Ss,S1={ S with D:=E,J:={ S.J with fin:=S.J.fin+br (fG m ix d).length },items := [(id,⟨S.J.fin,(fG m ix d).length,d.length⟩)] }:=⟨_,rfl⟩
 rw [<-hS1] at x11;have hS1s:S1.s=S.s:=by rw [hS1]
 have arE:E.ar=31:=by rw [a2.ar,arS]
 have liveE:S1.J.live S1.D=true:=by rw [hS1];have:=W.live;unfold Jn.live at this |-;show (!E.down&&(E.turn==S.J.turn))=true;rw [a2.down,a2.turn];exact this
 have hup1:S1.up=true:=by
  unfold Ss.up;rw [liveE];have:S1.D.ar=31:=by rw [hS1];exact arE
  rw [this];rfl
 have hread:kh S1.D S1.J id (⟨S.J.fin,(fG m ix d).length,d.length⟩:It).at_=some (m,ix,d,fG m ix d):=by rw [pU];refine hrb (D:=S1.D) (J:=S1.J) (recs := [fV 1] ++ [fG m ix d]) (by rw [hS1];exact a3) (by rw [hS1];exact W.slot) (by rw [hS1];show E.ar<=4096;omega) liveE ?_;have e1:ju ([fV 1] ++ [fG m ix d]) 0 = [(0,fV 1),(0+br (fV 1).length,fG m ix d)]:=rfl;rw [e1,oF.1,finS];exact EL _ (FB.2 rfl)
 have low1:=xS.jn.lt;have low2:=xS.dk.lt;have low3:=xS.dk.blt;have low4:S.im<g2.next:=by obtain ⟨q,hq⟩:=xS.it.obj;exact g2.lt_of_getB hq
 have low5:S.gm<g2.next:=by obtain ⟨q,hq⟩:=xS.gr.obj;exact g2.lt_of_getB hq
 have low6:=g2.aL xS.c;have m23:=Ob.o.next;have m6:=O6.next;have m10:=O10.next;have bn:=Ob.bn;have b3:=g3.aL Pd.c;have nE : ∀ {c:Nat},g2.next<=c -> ¬(c=S.j\/c=S.d\/c=S.D.bb\/c=S.im):=fun h q=>by rcases q with q|q|q|q<;>omega
 have F:FX g11 g5.next S1 g3.next id m v ix (mQ b dl.length) d:=by
  refine ⟨T10.kept K11 (fun c q => ?_),?_,x11,K11.getE (aK.get P10 q5) (nE m23),⟨(M5.sl.old P10).keep K11 (fun c hc=>nE (Ob.vn c hc)),hM.wf⟩,?_,?_,fun c hc=>by have:=hM.sl.lt hc;omega,fun a n c q=>by cases q;show b<_;omega,?_⟩
  ·rcases q with q|q|q|q<;>rw [q]
   ·exact x10.jn.n0
   ·exact x10.dk.dn
   ·exact x10.dk.bn
   ·exact x10.im0
  ·rw [K11.n0,P10.n0];exact g5.n0_le_next
  ·exact ((Pd5.old (B:=fun _=>False) P10 (fun q=>q)).old K11 (nE bn)).bs
  ·have hbb:=a2.bb;subst hS1;exact ⟨by show S.s<_;omega,by show S.j<_;omega,by show S.d<_;omega,by show E.bb<_;omega,by show S.im<_;omega,by show S.gm<_;omega,by omega⟩
  ·subst hS1;exact ⟨W.cur,W.cd⟩
 have m25:=P5.next;have Cm:CM g11 g5.next g6.next h7.next m v' ix dv':=by
  have e11:BS g11 dv' d:=by obtain ⟨a,c,rfl,s',gs⟩:=B10.ex;exact .of (K11.bytes s' (fun y hy hn=>nE (by subst hy;have:=dn6 _ _ _ rfl;omega))) gs
  refine .mk' (d:=d) (K11.getE qm (nE (by omega))) (K11.getE q10 (nE (by omega))) (by omega) (by omega) (by omega) ⟨M10.sl.keep K11 (fun c hc=>nE (by have:=qW ow1 hc;omega)),hM.wf⟩ (by rw [hl0];decide) (by rw [hl0];decide) e11 (by omega) (fun c hc => ?_) (fun h0 a n c q => ?_)
  ·have q1:=qW ow1 hc;have q2:=sl6.sl.lt hc;exact ⟨by omega,by omega,by omega⟩
  ·have q1:=dn6 a n c q;obtain ⟨a',c',e,s',_⟩:=b6.ex;rw [e] at q;injection q with q2 q3 q4
   obtain ⟨b',off,t,k,e2,gk,_⟩:=(ay s').2.2 h0;rw [e2] at q2;injection q2 with q2
   have q5:=g6.aL gk;have q6:a.block=b':=by rw [<-q2]
   exact ⟨by omega,by omega,by omega⟩
 have hm2:0<m.pieces.length/\m.pieces.length<=300:=by rw [hl0];decide
 have har1:S1.D.ar<=190:=by rw [hS1];show E.ar<=190;omega
 have hit1:S1.items = [(id,⟨S.J.fin,(fG m ix d).length,d.length⟩)]:=by rw [hS1]
 obtain ⟨x,hx⟩ : ∃ x:Nat->Vl,x=up (bs [x0,.bool s]) [(4,.bool false),(5,ptr (h.next+1) 0),(6,.int .i64 0),(7,ptr S.s 0),(8,.int .i64 0),(9,ptr g3.next 0),(10,ptr g6.next 0),(11,ptr h7.next 0),(12,.int .i64 0),(17,x0),(18,aj dl.length),(19,.bool false),(21,.tuple #[ptr (h.next+1) 0,.int .i64 0]),(22,.tuple #[ptr (h.next+1) 0,.int .i64 0]),(23,ptr (h.next+1) 0),(24,.int .i64 0),(25,.tuple #[ptr S.s 0,.int .i64 0]),(26,ptr (h.next+1) 0),(27,.tuple #[ptr S.s 0,.int .i64 0]),(28,ptr S.s 0),(29,.int .i64 0),(30,.int .i64 0),(31,.bool false),(32,x0),(33,.bool s),(34,.agg (Aq id m v ix (mQ b dl.length)).toArray),(35,.tuple #[mv m v',pv ix dv']),(36,ptr g3.next 32),(37,mv m v),(38,ptr g3.next 69),(39,pv ix (mQ b dl.length)),(40,.tuple #[mv m v',pv ix dv']),(41,mv m v'),(42,pv ix dv'),(43,ptr S.s 0),(44,mv m v'),(45,pv ix dv'),(46,.int .i64 0),(47,.bool false)]:=⟨_,rfl⟩
 have Ex:EV S1.s g3.next g6.next h7.next 0 x:=by rw [hS1s];subst hx;exact ⟨rfl,rfl,rfl,rfl,rfl⟩
 have key:Fin 133 (fun ex y g=>ex = .exit 0/\EV S1.s g3.next g6.next h7.next 2 y/\FX g g5.next S1 g3.next id m v ix (mQ b dl.length) d) (iter (codeA prog (CV ZG) (aq f3 [1,1,1,1,1,1,1,1,0,1,0,0])) az (aS 133 x) g11):=by
  refine bL (rz (CV ZG)) (Inv:=fun k y g => ∃ r w dw,r+k=2/\EV S1.s g3.next g6.next h7.next r y/\FX g g5.next S1 g3.next id m v ix (mQ b dl.length) d/\CM g g5.next g6.next h7.next m w ix dw) ?_ 2 (by have:az=18446744073709551616:=rfl;omega) ⟨0,v',dv',rfl,Ex,F,Cm⟩;rintro k y g ⟨r,w,dw,hrk,E',F',C'⟩;by_cases hr:r<2
  ·obtain ⟨g',y',w',dw',e,E2,F2,C2⟩:=rd3 F' C' wi hup1 hit1 hread har1 hm2.1 hm2.2 (by omega) hr E';rw [e];exact dE.next (k-1) (by omega) ⟨r+1,w',dw',by omega,E2,F2,C2⟩
  ·have hr2:r=2:=by omega
   subst hr2;unfold dV;have ls:aA prog .lss 3 (aj 2) (.int .i64 2)=some (.bool false):=by kernel_rfl
   simp -implicitDefEqProofs only [E'.y12,ls,af,ak];exact dE.out 0 ⟨rfl,⟨E'.y7,E'.y9,E'.y10,E'.y11,E'.y12⟩,F'⟩
 obtain ⟨ex,y,gF,e8,rfl,EF,FF⟩:=key;obtain ⟨gE,eE⟩:=end3 FF wi hup1 hit1 EF;refine ⟨gE,bX cp is3 rfl ((t3_eq _ _ _ _).trans ?_)⟩;have t5:bI 71 (ptr g3.next 0) (.agg (Aq id m v ix (mQ b dl.length)).toArray) h4=some (undef,g5):=t5;have t9:bI 37 (ptr g6.next 0) (mv m v') h8=some (undef,h9):=t9;have t10:bI 2 (ptr h7.next 0) (pv ix dv') h9=some (undef,g10):=t10;unfold t3;simp -implicitDefEqProofs only [B.len,gt,e13,jO,j7,e14,jm,n00,e15,z4,t5,aw,DC,l36,l38,e16,z7,z8,t9,t10,l44,l45,e17,af,ak];rw [<-hx,e8];simp -implicitDefEqProofs only [bh,b3_16',t3k3_14_eq];exact eE
end
end
end Go.Proofs.YtdhpgacmgebjdaaGreatDoor.W
