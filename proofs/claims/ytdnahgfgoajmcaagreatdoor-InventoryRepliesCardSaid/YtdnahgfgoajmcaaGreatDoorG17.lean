/-
  A part of the proof, spaces and names shortened by a program (a claim may hold 1,500,000 bytes).
  Conditions: as each theorem states.
-/
import Derived.Test.YtdnahgfgoajmcaaGreatDoorG16
namespace Go.Proofs.YtdnahgfgoajmcaaGreatDoor
open Go Go.Abs Tryz
attribute [local congr] aq
theorem rng54:au f42 [1,1,1,1,1,0,1,0] = .rangeFunc (.tmp 59) #[60,61] (rgA (au f42 [1,1,1,1,1,0,1,0])) (rgB (au f42 [1,1,1,1,1,0,1,0])):=by kernel_rfl
theorem rng54a:codeOk prog (rgA (au f42 [1,1,1,1,1,0,1,0]))=true:=by kernel_rfl
theorem rng54b:codeOk prog (rgB (au f42 [1,1,1,1,1,0,1,0]))=true:=by kernel_rfl
theorem body135:hasBody prog 98=true:=by kernel_rfl
theorem take_rev {T:List (List Nat)} {j:Nat} (hj:j<T.length):(T.take (j+1)).reverse=T.getD j []::(T.take j).reverse:=by rw [IP,DC hj,DK,DC hj];simp
set_option maxRecDepth 100000 in
theorem tre3 {h:ad} (hG:4<=h.n0) (hz:h.get 3=some bX) {d c:Nat} {w:Value} {T:List (List Nat)} {D:List Nat} {x:Nat->Value} (x8:x 8=ptr d 0) (x59:x 59 = .func (.func 98) #[] #[ptr c 0])
  (hw:PR h w T) (hww:dX w=false) (hT:T.length<=1000000) (hwd : ∀ j b o,j<T.length->idxS 32 w (ak j)=some (ptr b o) -> ¬b=d) (hc:h.get c=some [w]) (hcd : ¬c=d) (hd:h.get d=some (aY D)) (hD:ic D) (hd0:h.n0<=d) (hd3 : ¬3=d) :
  ∃ h',codeA prog CW (au f42 [1,1,1,1,1,0,1,0]) (aL 66 x) h=some (.normal,aL 66 x,h')/\az h h' (· = d)/\h'.get d=some (aY (finS dg (D::T.reverse))):=by
 have hdn:=h.aO hd;have hcn:=h.aO hc;generalize hA:rgA (au f42 [1,1,1,1,1,0,1,0])=ca at *;generalize hB:rgB (au f42 [1,1,1,1,1,0,1,0])=cb at *;have L0:=zV.new h (aL 66 x) [60,61] ca cb;have k0:aA h (h.bn (.obj (.loop .ready none (aL 66 x) [60,61] ca cb))):=az.allocO _ _ _;have n0:(h.bn (.obj (.loop .ready none (aL 66 x) [60,61] ca cb))).next=h.next+1:=rfl;have hk : ∀ g,az (h.bn (.obj (.loop .ready none (aL 66 x) [60,61] ca cb))) g (fun b=>b=d\/b=h.next)->az h g (fun b=>b=d\/b=h.next):=fun g k=>(k0.mono (fun _ _ h=>h.elim)).trans k;generalize hh0:h.bn (.obj (.loop .ready none (aL 66 x) [60,61] ca cb))=h0 at *;obtain ⟨h2,e2,K2,R2,g2,_⟩:=r135 (h:=h0) (by rw [k0.n0];exact hG) (L:=h.next) (c:=c) (w:=w) (T:=T) hT
  (fun j g=>az h g (fun b=>b=d\/b=h.next)/\zV g h.next (aL 66 x) [60,61] ca cb/\h0.next<=g.next /\ ∃ D',g.get d=some (aY D')/\ic D'/\(T.take j).reverse.foldl (fun d x=>dg x d) D'=T.reverse.foldl (fun d x=>dg x d) D)
  (fun j g ⟨K,_,_,_⟩=>by
   refine ⟨?_,hw.1,hw.2.1,fun j hj => ?_⟩
   ·exact aU (K.getE hc (fun q=>by rcases q with q|q<;>omega)) (by rfl) hww
   ·obtain ⟨b,o,h1,h2,h3⟩:=hw.2.2 j hj;have hne:=hwd j b o hj h1;have hb:g.get b=h.get b:=az.get K b h2 (fun q=>by rcases q with q|q<;>omega);exact ⟨b,o,h1,ED h2 K.next,fun g' e=>h3 g' (e.trans hb)⟩)
  (fun j g hj ⟨K,R,hn,D',gd,dD,hf⟩=>by
   have G:4<=g.n0:=by rw [K.n0];exact hG
   have hp:ic (T.getD j []):=hw.2.1 _ (by rw [DK,DC hj];exact EA hj)
   rw [take_rev hj,List.foldl_cons] at hf;generalize T.getD j []=p at *;have cp:=bm hp;have cD:=bm dD;obtain ⟨g3,z3,o3,g3',n3⟩:=fresh (List.replicate 32 (.int .u8 0)) g;obtain ⟨g4,e4,k4,g4',_,n4⟩:=aX (n:=32) (k':=aY p) g3' (by rw [o3.n0];exact g.n0_le_next) rfl cp.1 cp.2.2;have o4:aA g g4:=aA.bx o3 k4 (DF _);have ha:codeA prog CW ca (eQ (aL 66 x) ([60,61].zip [ak j,.agg (aY p).toArray])) g=some (.normal,aL 66 (up (up (up x [(60,ak j)]) [(61,.agg (aY p).toArray)]) [(10,ptr g.next 0)]),g4):=by show codeA prog CW ca (((aL 66 x).set 60 (ak j)).set 61 (.agg (aY p).toArray)) g=_;rw [qF,qF,<-hA,qP];unfold iV;have y61:up (up x [(60,ak j)]) [(61,.agg (aY p).toArray)] 61 = .agg (aY p).toArray:=rfl;simp -implicitDefEqProofs only [y61, z3, e4, ae]
   have R4:zV g4 h.next (aL 66 x) [60,61] ca cb:=R.keep o4 (fun h=>h);have R4':=R4;unfold zV at R4';have kS:az g4 (g4.setO h.next (.loop .busy none (aL 66 x) [60,61] ca cb)) (· = h.next):=az.setO R4' rfl;have gS : ∀ b,(g4.setO h.next (.loop .busy none (aL 66 x) [60,61] ca cb)).get b=g4.get b:=fun b=>ad.tF R4' _ b;have nS:(g4.setO h.next (.loop .busy none (aL 66 x) [60,61] ca cb)).next=g4.next:=rfl;generalize hg5:g4.setO h.next (.loop .busy none (aL 66 x) [60,61] ca cb)=g5 at *;have G5:4<=g5.n0:=by rw [kS.n0,o4.n0];exact G
   have q10:g5.get g.next=some (aY p):=(gS _).trans g4';have q8:g5.get d=some (aY D'):=(gS _).trans (aA.get o4 gd);have Z5:g5.get 3=some bX:=(gS _).trans (aA.get o4 (K.getE hz (fun q=>by have:=h.aO hz;rcases q with q|q<;>omega)))
   have l10:=bc q10 cp.1 cp.2.1;have l8:=bc q8 cD.1 cD.2.1;obtain ⟨g6,e6,o6⟩:=r70 (h:=g5) G5 Z5 hp dD;have dn:=bm (kM p D');obtain ⟨g7,e7,k7,g7',_,n7⟩:=aX (n:=32) (k':=aY (dg p D')) (aA.get o6 q8) (by rw [o6.n0,kS.n0,o4.n0,K.n0];exact hd0) cD.1 dn.1 dn.2.2;have hb:codeA prog CW cb (aL 66 (up (up (up x [(60,ak j)]) [(61,.agg (aY p).toArray)]) [(10,ptr g.next 0)])) g5=some (.normal,aL 66 (up (up (up (up x [(60,ak j)]) [(61,.agg (aY p).toArray)]) [(10,ptr g.next 0)]) [(62,.agg (aY p).toArray),(63,.agg (aY D').toArray),(64,.agg (aY (dg p D')).toArray)]),g7):=by rw [<-hB,qR];unfold iZ;have y10:up (up (up x [(60,ak j)]) [(61,.agg (aY p).toArray)]) [(10,ptr g.next 0)] 10=ptr g.next 0:=rfl;have y8:up (up (up x [(60,ak j)]) [(61,.agg (aY p).toArray)]) [(10,ptr g.next 0)] 8=ptr d 0:=x8;simp -implicitDefEqProofs only [y10, y8, l10, l8, e6, e7, ae]
   have k57:az g5 g7 (· = d):=(o6.mono (fun _ _ h=>h.elim)).trans k7;obtain ⟨g8,e8,R8,n8,m8,s8,b8⟩:=zV.round (B:=(· = d)) R rfl (by rw [<-hA];exact rng54a) (by rw [<-hB];exact rng54b) ha (o4.mono (fun _ _ h=>h.elim)) (show ¬h.next=d by omega) (by rw [hg5];exact hb) (by rw [hg5];exact k57);have hnx:g.next<=g8.next:=by have:=o4.next;have:=k57.next;omega
   have K8:az g g8 (fun b=>b=d\/b=h.next):=by refine ⟨m8,hnx,fun b hb hq => ?_⟩;have q1 : ¬b=d:=fun q=>hq (.inl q);have q2 : ¬b=h.next:=fun q=>hq (.inr q);have n4':=o4.next;rw [b8 b q2,k57.getB b (by omega) q1,kS.getB b (by omega) q2];exact az.getB o4 b hb (fun h=>h)
   exact ⟨g8,CW_yield G e8,K.trans K8,R8,by omega,dg p D',(s8 d).trans g7',kM _ _,hf⟩)
  ⟨hk _ (az.refl _ _),L0,DF _,D,aA.get k0 hd,hD,by rw [E9]⟩
 obtain ⟨D',gd',dD',hf⟩ : ∃ D',h2.get d=some (aY D')/\ic D'/\(T.take 0).reverse.foldl (fun d x=>dg x d) D'=T.reverse.foldl (fun d x=>dg x d) D:=by
  obtain ⟨_,D',q1,q2,q3⟩:=(⟨g2,‹_›⟩:(h0.next<=h2.next)/\_)
  exact ⟨D',q1,q2,q3⟩
 obtain ⟨h3,e3,k3,n3⟩:=R2.fin (e0:=aL 66 x);have hv:ev (aL 66 x) (.tmp 59) = .func (.func 98) #[] #[ptr c 0]:=(ev_mkF (by decide) x).trans x59;refine ⟨h3,?_,?_,?_⟩
 ·refine (yk (v := .tuple #[]) (h2:=h2) (ps := #[60,61]) rng54 hv body135 ?_).trans e3;rw [hA,hB];show CW 98 [.func (.yield h.next) #[] #[],ptr c 0] (h.bn (.obj (.loop .ready none (aL 66 x) [60,61] ca cb)))=_;rw [hh0];exact e2
 ·refine ⟨k3.n0.trans K2.n0,D5 K2.next k3.next,fun b hb hq => ?_⟩;rw [k3.getB b (by have:=K2.next;omega) (by omega),K2.getB b hb (fun q=>by rcases q with q|q;exact hq q;omega)]
 ·rw [k3.getE gd' (by omega)];rw [List.take_zero,List.reverse_nil,List.foldl_nil] at hf;rw [hf];rfl
def cT (L:List ao):List Nat:=if L.length=0 then nilD else pS dg (ya L)
theorem pc_pos : ∀ (i:Nat),pc i=0->i=0:=by
 intro i;induction i using Nat.strongRecOn with
 |_ i ih=>
  intro h;rw [tw] at h;by_cases c:i=0
  ·exact c
  ·have:=ih (i/2) (by omega) (by omega);omega
theorem treeG_ok : ∀ (f:Nat) (L:List (List Nat)),(∀ t∈L,ic t)->1<=L.length->L.length<=f->ic (pj dg f L)
 | 0,L,_,h1,h2=>by omega
 |f+1,L,hd,h1,h2=>by
  rw [xz];split
  ·match L,h1 with
   |d::_,_=>exact hd d ER
  ·exact kM _ _
theorem fw (L:List ao):ic (cT L):=by
 unfold cT;split
 ·exact CE
 ·have hl:(ya L).length=L.length:=DS _;exact treeG_ok _ _ (fun t ht=>by obtain ⟨r,_,rfl⟩:=E2.1 ht;exact pT r) (by omega) (DF _)
theorem stk_ok : ∀ (M S:List (List Nat)) (i:Nat),(∀ t∈M,ic t)->(∀ t∈S,ic t) -> ∀ t∈wX dg M S i,ic t
 | [],_,_,_,hS=>hS
 |d::M,_,i,hM,hS=>stk_ok M _ _ (fun t ht=>hM t (EM _ ht)) (push_ok dg (fun a b=>kM a b) i i (hM d ER) hS)
set_option maxRecDepth 100000 in
theorem r54 {h:ad} (hG:4<=h.n0) (hz:h.get 3=some bX) {v:Value} {L:List ao} (hv:jK h v L) (hval : ∀ r∈L,de r=true) (hl:L.length<=1000000) :
  ∃ h',CW 42 [v] h=some (.agg (aY (cT L)).toArray,h')/\aA h h':=by
 obtain ⟨h1,z1,o1,g1,n1⟩:=fresh (List.replicate 32 (.int .u8 0)) h;have hll:=hv.len;have q0:=eql0 L.length;by_cases c:L.length=0
 ·rw [DA c] at q0;obtain ⟨h2,e2,o2⟩:=r106 (h:=h1) (by rw [o1.n0];exact hG) (aA.get o1 hz);have dn:=bm CE;have O2:=o1.trans o2;obtain ⟨h3,e3,k3,g3,_,n3⟩:=aX (n:=32) (k':=aY nilD) (aA.get o2 g1) (by rw [O2.n0];exact h.n0_le_next) rfl dn.1 dn.2.2;have L3:=bc g3 dn.1 dn.2.1;have ev:cT L=nilD:=by unfold cT;rw [DL c]
  rw [ev];refine ⟨h3,aD is54 hG rfl ((t54_eq _ _ _).trans ?_),aA.bx O2 k3 (DF _)⟩;unfold t54;simp -implicitDefEqProofs only [z1,hll,q0,e2,e3,ae,af];exact cX results54 lU fY (show 2<66 by decide) _ L3
 ·rw [DB c] at q0;have hlv:(ya L).length=L.length:=DS _;have hfin:=fin_stk dg L.length (ya L) hlv (by omega) (by omega);have hsl:=CY dg (ya L) [] 0 rfl;rw [hlv,DG] at hsl;have hso:=stk_ok (ya L) [] 0 (fun t ht=>by obtain ⟨r,_,rfl⟩:=E2.1 ht;exact pT r) (fun t ht=>by cases ht);have ev:cT L=pS dg (ya L):=by unfold cT;rw [DM c]
  have key : ∃ o:aS,t54 CW v h=o /\ ∃ h',o=some (.agg (aY (cT L)).toArray,h')/\aA h h':=by
   refine ⟨_,rfl,?_⟩;unfold t54;simp -implicitDefEqProofs only [z1,hll,q0,ae,af];refine bq (n:=66) (Q:=fun o:aS => ∃ h',o=some (.agg (aY (cT L)).toArray,h')/\aA h h') (tre2 (h:=h1) (by rw [o1.n0];exact hG) (aA.get o1 hz) (N:=h1.next) (d2:=h.next) rfl (hv.mono o1) hval hl rfl rfl rfl rfl rfl) ?_;rintro _ y g ⟨rfl,y2,O,sk⟩;simp -implicitDefEqProofs only [aV,b54_7,DY,t54k54_5_eq];unfold zH;generalize hSS:wX dg (ya L) [] 0=S at *;cases S with
   |nil=>
    have:=pc_pos L.length (by rw [<-hsl];rfl);exact absurd this c
   |cons D S'=>
    rw [List.reverse_cons] at sk;have hlen:=sk.len;rw [DH,List.length_singleton] at hlen;have hS'l:S'.reverse.length<=1000000:=by have:=pc_le L.length;rw [List.length_cons] at hsl;rw [List.length_reverse];omega
    obtain ⟨P,gs⟩:=sk.pr;obtain ⟨b,o,ix,dD,lp⟩:=PR.gY P;have Lp:=lp g (az.refl _ _);have cD:=bm dD;have sb:aC prog .sub 3 (ak (S'.reverse.length+1)) (.int .i64 1)=some (ak S'.reverse.length):=sub_n1 (by omega) (by omega);obtain ⟨g2,z2,o2,q2,m2⟩:=fresh (List.replicate 32 (.int .u8 0)) g;obtain ⟨g3,e3,k3,q3,_,m3⟩:=aX (n:=32) (k':=aY D) q2 (by rw [o2.n0];exact g.n0_le_next) rfl cD.1 cD.2.2;have o3:aA g g3:=aA.bx o2 k3 (DF _);obtain ⟨w,ew,skw,hbw⟩:=(sk.old o3).pop;obtain ⟨Pw,gw⟩:=skw.pr;have hbl : ∀ b',stB w=some b'->b'<g.next:=fun b' hb'=>(sk.lt (hbw▸hb')).2;obtain ⟨wa,wc,rfl⟩:=Pw.1;have OO3:aA h g3:=(o1.trans O).trans o3;obtain ⟨g4,e4,o4,q4,m4⟩:=r107 (h:=g3) (by rw [OO3.n0];exact hG) (a:=wa) (n:=S'.reverse.length) (c:=wc);have OO4:=OO3.trans o4;simp -implicitDefEqProofs only [hlen,sb,ix,Lp,z2,e3,ew,e4,ae,af];have hz3 : ¬3=g.next:=by have:=h.aO hz;have:=o1.next;have:=O.next;omega
    obtain ⟨g5,e5,k5,q5⟩:=tre3 (h:=g4) (by rw [OO4.n0];exact hG) (aA.get OO4 hz) (d:=g.next) (c:=g3.next) (w := .slice wa S'.reverse.length wc) (T:=S'.reverse) (D:=D) (x:=up y [(8,ptr g.next 0),(48,y 3),(49,y 3),(50,ak (S'.reverse.length+1)),(51,ak S'.reverse.length),(52,ptr b o),(53,.agg (aY D).toArray),(54,y 3),(55,y 3),(56,ak (S'.reverse.length+1)),(57,ak S'.reverse.length),(58,.slice wa S'.reverse.length wc),(59,.func (.func 98) #[] #[ptr g3.next 0])]) rfl rfl (Pw.mono o4) rfl hS'l (fun j b' o' hj e=>by
      have:stB (.slice wa S'.reverse.length wc)=some b':=by
       rcases skw.form with ⟨h0,_⟩|⟨bb,m,X,h1,_⟩
       ·rw [h0] at hj;exact absurd hj (E0 j)
       ·rw [h1] at e |-;unfold idxS ak at e;simp only at e;split at e
        ·cases e;rfl
        ·cases e
      have:=hbl b' this;omega) q4 (by have:=o3.next;have:=m2;omega) (aA.get o4 q3) dD (by rw [OO4.n0];have:=h.n0_le_next;have:=o1.next;have:=O.next;omega) hz3
    rw [e5];show ∃ h',k54_9 CW (aL 66 _) g5=some (.agg (aY (cT L)).toArray,h')/\aA h h';rw [t54k54_9_eq];unfold yp;rw [List.reverse_reverse,hfin,<-ev] at q5;have ct:=bm (fw L);have L8:=bc q5 ct.1 ct.2.1;have y2':up y [(8,ptr g.next 0),(48,y 3),(49,y 3),(50,ak (S'.reverse.length+1)),(51,ak S'.reverse.length),(52,ptr b o),(53,.agg (aY D).toArray),(54,y 3),(55,y 3),(56,ak (S'.reverse.length+1)),(57,ak S'.reverse.length),(58,.slice wa S'.reverse.length wc),(59,.func (.func 98) #[] #[ptr g3.next 0])] 2=ptr h.next 0:=y2;have y8':up y [(8,ptr g.next 0),(48,y 3),(49,y 3),(50,ak (S'.reverse.length+1)),(51,ak S'.reverse.length),(52,ptr b o),(53,.agg (aY D).toArray),(54,y 3),(55,y 3),(56,ak (S'.reverse.length+1)),(57,ak S'.reverse.length),(58,.slice wa S'.reverse.length wc),(59,.func (.func 98) #[] #[ptr g3.next 0])] 8=ptr g.next 0:=rfl;have hne : ¬h.next=g.next:=by have:=O.next;omega
    obtain ⟨g6,e6,k6,q6,_,m6⟩:=aX (n:=32) (k':=aY (cT L)) (k5.getE (aA.get ((O.trans o3).trans o4) g1) hne) (by rw [k5.n0,OO4.n0];exact h.n0_le_next) rfl ct.1 ct.2.2;have L6:=bc q6 ct.1 ct.2.1;have hO5:aA h g5:=aA.bx OO4 k5 (by have:=o1.next;have:=O.next;omega);simp -implicitDefEqProofs only [y2', y8', L8, e6, ae];refine ⟨g6,?_,aA.bx hO5 k6 (DF _)⟩;refine cX results54 lU fY (show 2<66 by decide) _ ?_;rw [show up (up y [(8,ptr g.next 0),(48,y 3),(49,y 3),(50,ak (S'.reverse.length+1)),(51,ak S'.reverse.length),(52,ptr b o),(53,.agg (aY D).toArray),(54,y 3),(55,y 3),(56,ak (S'.reverse.length+1)),(57,ak S'.reverse.length),(58,.slice wa S'.reverse.length wc),(59,.func (.func 98) #[] #[ptr g3.next 0])]) [(65,.agg (aY (cT L)).toArray)] 2=ptr h.next 0 from y2'];exact L6
  obtain ⟨o9,e,h',e',q⟩:=key;exact ⟨h',aD is54 hG rfl ((t54_eq _ _ _).trans (e.trans e')),q⟩
end Go.Proofs.YtdnahgfgoajmcaaGreatDoor
namespace Go.Proofs.YtdnahgfgoajmcaaGreatDoor
open Go Go.Abs Tryz
theorem treeV_one (r:ao):cT [r]=pK r:=by unfold cT ya;rw [DM (by rw [List.length_singleton];decide),FL,HH,treeN_one]
theorem treeV_two {M:List ao} (h:2<=M.length):cT M=uq (cT (M.take (dE M.length))) (cT (M.drop (dE M.length))):=by
 have a1:=ph M.length;have a2:=uh h;have hl:(ya M).length=M.length:=DS _;have e : ∀ K:List ao,K.length≠0->cT K=pS dg (ya K):=fun K hK=>by unfold cT;rw [DM hK]
 rw [e M (by omega),e (M.take (dE M.length)) (by rw [DW];omega),e (M.drop (dE M.length)) (by rw [D8];omega),vL dg (L:=ya M) (by omega),hl,node_same];unfold ya;rw [<-List.map_take,<-List.map_drop]
end Go.Proofs.YtdnahgfgoajmcaaGreatDoor
namespace Go.Proofs.YtdnahgfgoajmcaaGreatDoor
open Go Go.Abs Tryz
attribute [local congr] aq
theorem is55:bP prog 33 f33:=by constructor<;>kernel_rfl
theorem results55:f33.results.toList = [.cell 2 36]:=by kernel_rfl
set_option maxRecDepth 100000 in
theorem r55 : ∀ (n:Nat) {h:ad},4<=h.n0->GR h->GZ h -> ∀ {L:List ao} {v:Value},L.length=n->n<=1048576->jK h v L->gR v->(∀ r∈L,de r=true) ->
  ∃ h',CW 33 [v] h=some (.agg (aY (cT L)).toArray,h')/\aA h h':=by
 intro n;induction n using Nat.strongRecOn with
 |_ n ih=>
  intro h hG hr hz L v hL hn hv hg hval;obtain ⟨h1,z1,o1,g1,n1⟩:=fresh (List.replicate 32 (.int .u8 0)) h;have hll:=hv.len;rw [hL] at hll;have q0:=eql0 n;have q1:=eql1 n;by_cases c:n=0
  ·rw [DA c] at q0;obtain ⟨h2,e2,o2⟩:=r108 (h:=h1) (by rw [o1.n0];exact hG) (hr.old o1) (a:=none) (n:=0) (c:=0) (l := []) rfl (by decide);have ev:cT L=qU H0 []:=by unfold cT;rw [DL (by omega)];exact xP []
   rw [<-ev] at e2;have e2:CW 69 [.slice none 0 0] h1=some (.agg (aY (cT L)).toArray,h2):=e2;have dn:=bm (fw L);have O2:=o1.trans o2;obtain ⟨h3,e3,k3,g3,_,n3⟩:=aX (n:=32) (k':=aY (cT L)) (aA.get o2 g1) (by rw [O2.n0];exact h.n0_le_next) rfl dn.1 dn.2.2;have L3:=bc g3 dn.1 dn.2.1;refine ⟨h3,aD is55 hG rfl ((t55_eq _ _ _).trans ?_),aA.bx O2 k3 (DF _)⟩;unfold t55;simp -implicitDefEqProofs only [z1,hll,q0,e2,e3,ae,af];exact cX results55 lU fY (show 2<27 by decide) _ L3
  ·rw [DB c] at q0;by_cases c1:n=1
   ·rw [DA c1] at q1;obtain ⟨b,o,ix,wr,mr,lp⟩:=hv.at (j:=0) (by omega);have vr:=hval _ mr;have ev:cT L=yQ (L.getD 0 ao.z):=by
     match L,hL with
     | [r],_=>rw [treeV_one,leaf_same,List.getD_cons_zero]
     | [],hL=>exact absurd hL.symm c
     |_::_::_,hL=>rw [List.length_cons,List.length_cons] at hL;omega
    generalize L.getD 0 ao.z=r at *;have L1:=lp h1 o1;obtain ⟨h2,e2,o2⟩:=r72 (h:=h1) (by rw [o1.n0];exact hG) (hr.old o1) (hz.old o1) wr vr;rw [<-ev] at e2;have dn:=bm (fw L);have O2:=o1.trans o2;obtain ⟨h3,e3,k3,g3,_,n3⟩:=aX (n:=32) (k':=aY (cT L)) (aA.get o2 g1) (by rw [O2.n0];exact h.n0_le_next) rfl dn.1 dn.2.2;have L3:=bc g3 dn.1 dn.2.1;have ix:idxS 39 v (.int .i64 0)=some (ptr b o):=ix;refine ⟨h3,aD is55 hG rfl ((t55_eq _ _ _).trans ?_),aA.bx O2 k3 (DF _)⟩;unfold t55;simp -implicitDefEqProofs only [z1,hll,q0,q1,ix,L1,e2,e3,ae,af];exact cX results55 lU fY (show 2<27 by decide) _ L3
   ·rw [DB c1] at q1;have hh1:=ph n;have hh2:=uh (n:=n) (by omega);have ev:=treeV_two (M:=L) (by omega);rw [hL] at ev;obtain ⟨wt,et,rt,gt⟩:=hv.take hg (k:=dE n) (by omega);obtain ⟨wd,ed,rd,gd⟩:=hv.drop hg (k:=dE n) (by omega);have e109:=r109 (h:=h1) (by rw [o1.n0];exact hG) hn;obtain ⟨h2,e2,o2⟩:=ih (dE n) (by omega) (h:=h1) (by rw [o1.n0];exact hG) (hr.old o1) (hz.old o1) (L:=L.take (dE n)) (v:=wt) (by rw [DW];omega) (by omega) (rt.mono o1) gt (fun r hr=>hval r (EZ hr));have O2:=o1.trans o2;obtain ⟨h3,e3,o3⟩:=ih (n-dE n) (by omega) (h:=h2) (by rw [O2.n0];exact hG) (hr.old O2) (hz.old O2) (L:=L.drop (dE n)) (v:=wd) (by rw [D8];omega) (by omega) (rd.mono O2) gd (fun r hr=>hval r (FV hr));have O3:=O2.trans o3;obtain ⟨h4,e4,o4⟩:=r110 (h:=h3) (by rw [O3.n0];exact hG) (hr.old O3) (fw (L.take (dE n))) (fw (L.drop (dE n)));rw [<-ev] at e4;have O4:=O3.trans o4;have dn:=bm (fw L);obtain ⟨h5,e5,k5,g5,_,n5⟩:=aX (n:=32) (k':=aY (cT L)) (aA.get ((o2.trans o3).trans o4) g1) (by rw [O4.n0];exact h.n0_le_next) rfl dn.1 dn.2.2;have L5:=bc g5 dn.1 dn.2.1;refine ⟨h5,aD is55 hG rfl ((t55_eq _ _ _).trans ?_),aA.bx O4 k5 (DF _)⟩;unfold t55;simp -implicitDefEqProofs only [z1,hll,q0,q1,e109,et,e2,ed,e3,e4,e5,ae,af];exact cX results55 lU fY (show 2<27 by decide) _ L5
end Go.Proofs.YtdnahgfgoajmcaaGreatDoor
