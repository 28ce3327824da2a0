/-
  A part of the proof, shortened by a program.
  Conditions: as each theorem states.
-/
import Derived.Test.YtdhpgacmgebjdaaGreatDoorG26
set_option linter.all false
namespace Go.Proofs.YtdhpgacmgebjdaaGreatDoor.W
open Go Go.Abs Tryz R
noncomputable section
section
attribute [local congr] aC
abbrev CI (j:Nat) (quota:Int) (inc im gm:Nat):eW := [ptr j 0,.int .i64 quota,.int .u64 (inc:Int),.map (some im),.map (some gm),.pointer none]
structure OpI (h1:ae) (s j im gm:Nat) (quota:Int) (v:Vl) (l:List (Nat×List Nat)) (i:Nat) (y:Nat->Vl) (g:ae) (S:Nat×DM It×DM Unit):Prop where
 y9:y 9=ptr s 0
 y33:y 33=v
 y34:y 34=ak l.length
 y35:y 35=ak i
 O:aM h1 g
 t:xh g s 2 S.1 im gm S.2.1 S.2.2
 c:g.get s=some (CI j quota S.1 im gm)
 st:(l.take i).foldl iN (0,[],[])=S
def opInv (h1:ae) (s j im gm:Nat) (quota:Int) (v:Vl) (l:List (Nat×List Nat)) (k:Nat) (y:Nat->Vl) (g:ae):Prop := ∃ i S,i+k=l.length/\OpI h1 s j im gm quota v l i y g S
def opFin (h1:ae) (s j im gm:Nat) (quota:Int) (l:List (Nat×List Nat)) (ex:Ex) (y:Nat->Vl) (g:ae):Prop:=
 ex = .exit 0/\y 9=ptr s 0/\aM h1 g/\xh g s 2 (l.foldl iN (0,[],[])).1 im gm (l.foldl iN (0,[],[])).2.1 (l.foldl iN (0,[],[])).2.2/\g.get s=some (CI j quota (l.foldl iN (0,[],[])).1 im gm)
def opRound {Z:ah} (z:zF Z) {h1:ae} (T:RT h1) {s j im gm:Nat} {quota:Int} {v:Vl} {l:List (Nat×List Nat)} {N M:Nat} {cells:List Vl} (o:cF h1 M 2 v l.length cells) (E:fu h1 N cells l) (hl : ∀ e∈l,e.2.length<=21000) (hn:l.length<=100000) (s0:h1.next<=s) (im0:h1.next<=im) (gm0:h1.next<=gm) :
  ∀ k y g,opInv h1 s j im gm quota v l k y g->dE 69 (opInv h1 s j im gm quota v l) (opFin h1 s j im gm quota l) k (gE (CV Z) y g):=by
 rintro k y g ⟨i,S,hik,I⟩;unfold gE;by_cases hi:i<l.length
 ·obtain ⟨e,he⟩ : ∃ e,l[i]? = some e:=⟨l[i],DL hi⟩
  obtain ⟨b,q,ev,e1,e2,bs⟩:=ent_at (o.keep I.O (fun _ _ q=>q)) (E.keep I.O (fun _ q=>q.elim)) he;obtain ⟨g1,z1,o1,q1,n1⟩:=fresh [(.int .i64 0),(.slice none 0 0)] g;obtain ⟨g2,t2,k2,q2,_,n2⟩:=aR (n:=2) (k' := [.int .i64 (e.1:Int),ev]) q1 (by rw [o1.n0];exact g.n0_le_next) rfl rfl (by simp [aN,bs.cell.2.1,show (Value.int .i64 (e.1:Int)).oneCell'=true from rfl]);have o2:aM g g2:=aM.bu o1 k2 (DO _);have t2:bX 2 (ptr g.next 0) (pv e.1 ev) g1=some (undef,g2):=t2;have l2:bZ 2 (ptr g.next 0) g2=some (pv e.1 ev,g2):=aV q2 rfl (by simp [Abs.noHoles,bs.cell.1,show cw (Value.int .i64 (e.1:Int))=false from rfl]);have O2:=I.O.trans o2;have c2:=aM.get o2 I.c;obtain ⟨g3,e3,t3,c3,k3⟩:=r58 z (T.old O2) (I.t.old o2) c2 (by rw [O2.n0];have:=h1.n0_le_next;omega) e.1 (bs.old o2) (hl e (EC he));simp -implicitDefEqProofs only [I.y35,I.y34,fF,DS hi,I.y33,e1,e2,z1,t2,I.y9,av,ax,DK,l2,e3,ei (show i+1<=9223372036854775807 by omega),af,aj];refine dE.next (k-1) (by omega) ⟨i+1,iN S e,by omega,I.y9,I.y33,I.y34,rfl,O2.also k3 (fun c hc q=>by rcases q with q|q|q<;>omega),t3,c3,by rw [rz _ _ he,I.st]⟩
 ·have hiL:i=l.length:=by omega
  simp -implicitDefEqProofs only [I.y35,I.y34,fF,DP hi,af,aj];have h:=I.st;rw [hiL,GG] at h;exact dE.out 0 ⟨rfl,I.y9,I.O,by rw [h];exact I.t,by rw [h];exact I.c⟩
def is14:bJ prog 14 f14 := .of (by kernel_rfl)
def b14_exit (C:ah) (e:aQ) (h:ae):b14_14 C 0 e h=k14_12 C e h:=rfl
def nil24 (b o:Nat):aE prog .eql 24 (ptr b o) (.pointer none)=some (.bool false):=by kernel_rfl
def eql52 (a b:Int):aE prog .eql 52 (.int .u64 a) (.int .u64 b)=some (.bool (a==b)):=dm ..
def ex30 (a b c:Vl):extractA (.tuple #[a,b,c]) 0=some a:=rfl
def ex31 (a b c:Vl):extractA (.tuple #[a,b,c]) 1=some b:=rfl
def ex32 (a b c:Vl):extractA (.tuple #[a,b,c]) 2=some c:=rfl
def BU (h:ae) (d:Nat) (D:Dk) (quota:Int) (o:ba):Prop:=
 ∃ g,aw h g (fun c=>c=d\/c=D.bb) /\
   if (cT D).1=18446744073709551615 then o=some (.tuple #[.pointer none,.int .i64 8],g)/\br g d D.opened
   else if (df D.opened D.jn ((cT D).1+1) [] (cT D).2.1 (cT D).2.2).1=0 then
    ∃ S:Ss,o=some (.tuple #[ptr S.s 0,.int .i64 0],g)/\lD g S/\S.d=d/\S.D=(df D.opened D.jn ((cT D).1+1) [] (cT D).2.1 (cT D).2.2).2.1/\S.J=(df D.opened D.jn ((cT D).1+1) [] (cT D).2.1 (cT D).2.2).2.2.1 /\
      S.items=(df D.opened D.jn ((cT D).1+1) [] (cT D).2.1 (cT D).2.2).2.2.2/\S.graves=(cT D).2.2/\S.inc=(cT D).1+1/\S.quota=quota/\S.cd=none/\S.D.bb=D.bb/\S.D.n=D.n/\h.next<=S.s/\h.next<=S.j/\h.next<=S.im/\h.next<=S.gm
   else o=some (.tuple #[.pointer none,.int .i64 (df D.opened D.jn ((cT D).1+1) [] (cT D).2.1 (cT D).2.2).1],g)/\br g d (df D.opened D.jn ((cT D).1+1) [] (cT D).2.1 (cT D).2.2).2.1
set_option maxRecDepth 100000 in
def r14 {Z:ah} (z:zF Z) {h:ae} (T:RT h) {d:Nat} {D:Dk} (x:br h d D) (h2:2<=D.n) (hd:D.down=false) (har:D.ar<=190) {quota:Int} (hq:0<=quota):BU h d D quota (CV Z 14 [ptr d 0,.int .i64 quota] h):=by
 obtain ⟨j,v,cells,N,h1,e1,x1,j1,o1,E1,k1,jn0,jN,Nn⟩:=r57 x h2 hd;have e1:=jP z T.n0 (by rfl) e1;have hn0:=h.n0_le_next;have T1:RT h1:=T.kept k1 (fun b q=>by rw [q];exact x.dn);have hent:=np (D:=D.opened) (J:=D.jn) D.ar 0;have hE:D.entries=D.opened.ents D.jn D.ar 0:=rfl;rw [<-hE] at hent;obtain ⟨hel,heb⟩:=hent;have haro:D.opened.ar=D.ar:=rfl;have heb2 : ∀ e∈D.entries,e.2.length<=21000:=fun e he=>by have h1:=heb e he;rw [haro] at h1;have:=IH 106 har;omega
 have m1:eY none prog 123 h1=some (.map (some h1.next),h1.bj (.obj (.map [] 0))):=rfl;have o2:aM h1 (h1.bj (.obj (.map [] 0))):=aw.allocO _ _ _;have g2:(h1.bj (.obj (.map [] 0))).getB h1.next=some (.obj (.map [] 0)):=by rw [ae.bE,DR rfl]
 have nx2:(h1.bj (.obj (.map [] 0))).next=h1.next+1:=rfl;generalize h1.bj (.obj (.map [] 0))=h2' at *;have m2:eY none prog 124 h2'=some (.map (some h2'.next),h2'.bj (.obj (.map [] 0))):=rfl;have o3:aM h2' (h2'.bj (.obj (.map [] 0))):=aw.allocO _ _ _;have g3:(h2'.bj (.obj (.map [] 0))).getB h2'.next=some (.obj (.map [] 0)):=by rw [ae.bE,DR rfl]
 have nx3:(h2'.bj (.obj (.map [] 0))).next=h2'.next+1:=rfl;generalize h2'.bj (.obj (.map [] 0))=h3 at *;have b1:dG [(.int .u64 0),(.map none),(.map none)] [(1,1,.map (some h1.next)),(2,1,.map (some h2'.next))]=some (.agg #[.int .u64 0,.map (some h1.next),.map (some h2'.next)]):=rfl;have b2:dG [(.pointer none),(.int .i64 0),(.int .u64 0),(.map none),(.map none),(.pointer none)] [(0,1,ptr j 0),(1,1,.int .i64 quota),(2,3,.agg #[.int .u64 0,.map (some h1.next),.map (some h2'.next)])]=some (.agg (CI j quota 0 h1.next h2'.next).toArray):=rfl;have b3:box (.agg (CI j quota 0 h1.next h2'.next).toArray) h3=some (ptr h3.next 0,h3.alloc (CI j quota 0 h1.next h2'.next)):=iL h3 (CI j quota 0 h1.next h2'.next) rfl;have o4:aM h3 (h3.alloc (CI j quota 0 h1.next h2'.next)):=aw.alloc _ _ _;have g4:(h3.alloc (CI j quota 0 h1.next h2'.next)).get h3.next=some (CI j quota 0 h1.next h2'.next):=by rw [ae.aX,DR rfl]
 have nx4:(h3.alloc (CI j quota 0 h1.next h2'.next)).next=h3.next+1:=rfl;generalize h3.alloc (CI j quota 0 h1.next h2'.next)=h4 at *;have O4:aM h1 h4:=(o2.trans o3).trans o4;have em : ∀ {α:Type} {V:α->Vl} {mb:Nat},h4.getB mb=some (.obj (.map [] 0))->fM V h4 mb []:=fun hg=>⟨⟨[],0,⟨hg,I5,fun e he=>by cases he⟩,rfl⟩,(fun p hp=>by cases hp),I5⟩
 have n0h:h1.n0=h.n0:=k1.n0;have t4:xh h4 h3.next 2 0 h1.next h2'.next [] []:=⟨⟨_,g4,rfl,rfl,rfl⟩,em (aw.obj (o3.trans o4) g2 (fun q=>q)),em (aw.obj o4 g3 (fun q=>q)),by rw [O4.n0];exact h1.n0_le_next,by rw [O4.n0];have:=h1.n0_le_next;omega,by omega,by decide⟩
 have llen:cI v=some (ak D.entries.length):=AQ o1;have key:BU h d D quota (t14 (CV Z) (ptr d 0) (.int .i64 quota) h):=by
  unfold t14;have hq':decide (quota<0)=false:=DP (by omega);simp -implicitDefEqProofs only [nil24,bU,hq',e1,ex30,ex31,ex32,fI,n00,m1,m2,b1,b2,b3,llen,af,aj];refine cp (Q:=fun o:ba=>BU h d D quota o) (cj (qU (CV Z)) (opRound z T1 (s:=h3.next) (j:=j) (im:=h1.next) (gm:=h2'.next) (quota:=quota) o1 E1 heb2 (by omega) (by omega) (DO _) (by omega)) D.entries.length (by have:aK=18446744073709551616:=rfl;omega)
   ⟨0,(0,[],[]),DK _,rfl,rfl,rfl,rfl,O4,t4,g4,rfl⟩) ?_
  rintro ex y g ⟨rfl,y9,Og,tg,cg⟩;have hof:D.entries.foldl iN (0,[],[])=cT D:=rfl;rw [hof] at tg cg;obtain ⟨fl1,fl2,fl3⟩:=sr D.entries (0,[],[]);rw [hof] at fl1 fl2 fl3;have fl3:=fl3 (fun p hp=>by cases hp);unfold BU;simp only [List.length_nil,DK] at fl1 fl2;generalize cT D=S at *;rw [bK,b14_exit,BW];have Kg:aw h g (fun c=>c=d):=k1.also Og (fun _ _ q=>q.elim);have Tg:RT g:=T1.old Og;have xg:br g d D.opened:=aM.dk Og x1;have jg:cG g j d D.jn:=j1.keep Og (fun q=>q);have L2:ld1 (ptr h3.next 2) g=some (.int .u64 (S.1:Int),g):=aP cg rfl rfl;have hsn:h1.next<=h3.next:=by omega
  have hx1:=k1.next;have jl:=j1.lt;have dl:=x1.lt;have bbl:=x1.blt;have bbo:D.opened.bb=D.bb:=rfl;unfold uQ;by_cases hm:S.1=18446744073709551615
  ·have hb:((S.1:Int)==18446744073709551615)=true:=by rw [beq_iff_eq];omega
   refine ⟨g,Kg.mono (fun c _ q => .inl q),?_⟩;rw [DR hm];refine ⟨?_,xg⟩;simp -implicitDefEqProofs only [y9,av,ax,DK,Nat.add_zero,L2,eql52,hb,af,aj]
  ·have hb:((S.1:Int)==18446744073709551615)=false:=by rw [GJ];omega
   have hinc:=tg.inc;have ad:aE prog .add 52 (.int .u64 (S.1:Int)) (.int .u64 1)=some (.int .u64 ((S.1+1:Nat):Int)):=by rw [dI,wrap_u64 (by omega) (by omega)];rfl
   have hs0:g.n0<=h3.next:=by rw [Kg.n0];omega
   obtain ⟨g5,e5,k5,c5,_,n5⟩:=stored (v := .int .u64 ((S.1+1:Nat):Int)) (o:=2) cg hs0 (show 2<6 by decide) rfl rfl;have c5:g5.get h3.next=some (CI j quota (S.1+1) h1.next h2'.next):=c5;obtain ⟨qi,hqi⟩:=tg.it.obj;obtain ⟨qg,hqg⟩:=tg.gr.obj;have K5:aw h g5 (fun c=>c=d):=Kg.also k5 (fun c hc q=>by omega);have t5:xh g5 h3.next 2 (S.1+1) h1.next h2'.next S.2.1 S.2.2:=⟨⟨_,c5,rfl,rfl,rfl⟩,tg.it.kept k5 (cM cg hqi).symm,tg.gr.kept k5 (cM cg hqg).symm,by rw [k5.n0];exact tg.im0,by rw [k5.n0];exact tg.gm0,tg.ne,by omega⟩
   have T5:RT g5:=Tg.kept k5 (fun b q=>by rw [q];exact hs0);have jp5:JP g5 h3.next j d D.opened D.jn:=⟨⟨_,c5,rfl⟩,k5.dk xg (by omega) (by rw [bbo];have:D.opened.bb<h1.next:=bbl;rw [bbo] at this;omega),jg.keep k5 (by omega),openJ_jok (D:=D.opened) x1.byte _,h2⟩
   have bb':D.opened.bb<h1.next:=bbl;obtain ⟨g6,e6,k6,d6,bb6,n6,j6,it6⟩:=r59 z T5 jp5 (by rw [haro];exact har) t5 (by omega) (by omega) (by omega) (by omega) (by omega) (BS.nil g5) (fun a n c q=>by cases q) (fun k xx hk hneg=>absurd (fl3 (k,xx) (DM.DB hk)) (by show ¬(0:Int)<=xx.at_;omega));have hR6:vT (df D.opened D.jn (S.1+1) [] S.2.1 S.2.2).2.2.1 (df D.opened D.jn (S.1+1) [] S.2.1 S.2.2).2.1:=rewrite_jok jp5.ok n6;generalize df D.opened D.jn (S.1+1) [] S.2.1 S.2.2=R at *;have K6:aw h g6 (fun c=>c=d\/c=D.bb):=(K5.mono (fun c _ q => .inl q)).also k6 (fun c hc q=>by
    rcases q with q|q|q|q
    ·omega
    ·omega
    ·exact .inl q
    ·exact .inr q)
   refine ⟨g6,K6,?_⟩;rw [DU hm];by_cases hz:R.1=0
   ·have hne:(R.1 != 0)=false:=by rw [hz];rfl
    rw [DR hz];have gr6:fM grV g6 h2'.next S.2.2:=t5.gr.kept k6 (fun q=>by
     rcases q with q|q|q|q
     ·exact tg.ne q.symm
     ·omega
     ·omega
     ·have:D.opened.bb<h1.next:=bbl;omega)
    have c6:g6.get h3.next=some (CI j quota (S.1+1) h1.next h2'.next):=k6.getE c5 (fun q=>by
     rcases q with q|q|q|q
     ·omega
     ·omega
     ·omega
     ·omega)
    refine ⟨⟨h3.next,j,d,h1.next,h2'.next,quota,S.1+1,R.2.2.2,S.2.2,.pointer none,none,R.2.1,R.2.2.1⟩,?_,⟨c6,?_,d6,j6,hR6,by rw [n6];exact h2,it6,gr6,?_,?_,tg.ne,?_,?_,?_,.inl ⟨rfl,rfl⟩,?_⟩,rfl,rfl,rfl,rfl,rfl,rfl,rfl,rfl,bb6,n6,?_,jn0,?_,?_⟩
    ·simp -implicitDefEqProofs only [y9,av,ax,DK,Nat.add_zero,L2,eql52,hb,ad,e5,e6,fI,hne,af,aj]
    ·rw [K6.n0];show h.n0<=h3.next;omega
    ·rw [K6.n0];show h.n0<=h1.next;omega
    ·rw [K6.n0];show h.n0<=h2'.next;omega
    ·show h3.next≠d;omega
    ·show h3.next≠R.2.1.bb;rw [bb6];omega
    ·show h3.next≠j;omega
    ·show S.1+1<_;omega
    ·show h.next<=h3.next;omega
    ·show h.next<=h1.next;omega
    ·show h.next<=h2'.next;omega
   ·have hne:(R.1 != 0)=true:=by rw [HQ];exact hz
    rw [DU hz];refine ⟨?_,d6⟩;simp -implicitDefEqProofs only [y9,av,ax,DK,Nat.add_zero,L2,eql52,hb,ad,e5,e6,fI,hne,af,aj]
 have hs : ∃ r,t14 (CV Z) (ptr d 0) (.int .i64 quota) h=some r:=by
  obtain ⟨g,_,r⟩:=key;split at r
  ·exact ⟨_,r.1⟩
  ·split at r
   ·obtain ⟨S,e,_⟩:=r;exact ⟨_,e⟩
   ·exact ⟨_,r.1⟩
 obtain ⟨r,hr⟩:=hs;rw [cY z is14 rfl ((t14_eq _ _ _ _).trans hr),<-hr];exact key
end
section
attribute [local congr] aC
def zh.keptO {h g:ae} {cur:Vl} {cd:Option (List Nat)} (x:zh h cur cd) {B:Nat->Prop} (o:aw h g B) (hB : ∀ b,B b -> ∃ q,h.getB b=some (.obj q)):zh g cur cd:=by
 rcases x with x|⟨b,id,h1,h2,h3,h4⟩
 ·exact .inl x
 ·exact .inr ⟨b,id,h1,h2,o.getE h3 (fun q=>by obtain ⟨oo,ho⟩:=hB b q;exact cM h3 ho rfl),h4⟩
def lD.items' {h g:ae} {S:Ss} (x:lD h S) (k:aw h g (fun c=>c=S.im)) {M:DM It} (it:fM rk g S.im M):lD g { S with items:=M }:=by
 obtain ⟨qo,hqo⟩:=x.it.obj;have hB : ∀ b,b=S.im -> ∃ q,h.getB b=some (.obj q):=fun b e=>by rw [e];exact ⟨qo,hqo⟩
 exact ⟨k.getE x.c (cM x.c hqo),by rw [k.n0];exact x.n0,k.dk x.dk (cM x.dk.hdr hqo) (cM x.dk.img hqo),x.jn.keep k (cM x.jn.get hqo),x.ok,x.n2,it,x.gr.kept k (fun q=>x.ne q.symm),by rw [k.n0];exact x.im0,by rw [k.n0];exact x.gm0,x.ne,x.sd,x.sb,x.sj,x.cu.keptO k hB,x.inc⟩
def is19:bJ prog 19 f19 := .of (by kernel_rfl)
def res19:f19.results.toList = [.cell 4 35,.cell 5 37,.tmp 6]:=by kernel_rfl
def results19 {n:Nat} (hn:6<n) (x:Nat->Vl) {h:ae} {a b:Vl} (e2:bZ 37 (x 4) h=some (a,h)) (e3:bZ 2 (x 5) h=some (b,h)):resultsA prog f19.results.toList (aT n x) h=some (.tuple #[a,b,x 6],h):=by rw [res19];simp only [resultsA,FW,List.mapM_nil,dy,ep (show 4<n by omega),ep (show 5<n by omega),ep hn,nM rj siz35,nM agg37 siz37,e2,e3];rfl
def BT (h:ae) (S:Ss) (id:List Nat) (o:ba):Prop:=
 if S.up=false then ∃ g,aM h g/\o=some (.tuple #[.agg zM.toArray,.agg zP.toArray,.int .i64 9],g)
 else match S.items.get id with
  |none => ∃ g,aM h g/\o=some (.tuple #[.agg zM.toArray,.agg zP.toArray,.int .i64 6],g)
  |some x=>match readP S.D S.J id x.at_ with
   |none => ∃ g,aw h g (fun c=>c=S.im)/\lD g { S with items:=S.items.del id }/\o=some (.tuple #[.agg zM.toArray,.agg zP.toArray,.int .i64 42],g)
   |some (m,ix,d,_) => ∃ g v dv,aM h g/\o=some (.tuple #[mv m v,pv ix dv,.int .i64 0],g)/\ki g m v/\BS g dv d/\(∀ b,AV v=some b->h.next<=b)/\(∀ a n c,dv = .slice (some a) n c->h.next<=a.block)
set_option maxRecDepth 100000 in
def r19 {Z:ah} (z:zF Z) {h:ae} (T:RT h) {S:Ss} (x:lD h S) (har:S.D.ar<=190) {id:List Nat} (w:eE id):BT h S id (CV Z 19 [ptr S.s 0,kV id] h):=by
 obtain ⟨h1,b1,o1,g1,n1⟩:=ta w h;obtain ⟨h2,z2,o2,g2,n2⟩:=fresh zM h1;obtain ⟨h3,z3,o3,g3,n3⟩:=fresh zP h2;have O3:=(o1.trans o2).trans o3;have x3:=x.old O3;have T3:=T.old O3;have e1:=r60 z T3.n0 x3;have hz:=h.n0_le_next;have N0 : ∀ {g:ae},aM h g->g.n0=h.n0:=fun o=>o.n0;have bM:dG zM []=some (.agg zM.toArray):=rfl;have bP:dG zP []=some (.agg zP.toArray):=rfl;have zero : ∀ {g:ae} {k0 k1:eW},h3.n0=g.n0->g.get h1.next=some k0->g.get h2.next=some k1->k0.length=37->k1.length=2 -> ∃ ga gb,bX 37 (ptr h1.next 0) (.agg zM.toArray) g=some (undef,ga)/\bX 2 (ptr h2.next 0) (.agg zP.toArray) ga=some (undef,gb)/\aw g gb (fun c=>c=h1.next\/c=h2.next)/\bZ 37 (ptr h1.next 0) gb=some (.agg zM.toArray,gb)/\bZ 2 (ptr h2.next 0) gb=some (.agg zP.toArray,gb):=by intro g k0 k1 hn a0 a1 l0 l1;obtain ⟨ga,t1,k1',q1,_,m1⟩:=aR (n:=37) (k':=zM) a0 (by rw [<-hn,N0 O3];omega) l0 rfl rfl;obtain ⟨gb,t2,k2',q2,_,m2⟩:=aR (n:=2) (k':=zP) (aw.getE k1' a1 (by omega)) (by rw [k1'.n0,<-hn,N0 O3];omega) l1 rfl rfl;exact ⟨ga,gb,t1,t2,(k1'.mono (fun _ _ q => .inl q)).trans (k2'.mono (fun _ _ q => .inr q)),aV (aw.getE k2' q1 (by omega)) rfl rfl,aV q2 rfl rfl⟩
 have G1:=aM.get o3 g2;unfold BT;cases hu:S.up with
 |false=>
  rw [DR rfl];rw [hu] at e1;simp -implicitDefEqProofs only [DJ,D3] at e1;obtain ⟨ga,gb,t1,t2,kz,L1,L2⟩:=zero rfl G1 g3 rfl rfl;refine ⟨gb,O3.also kz (fun c hc q=>by rcases q with q|q<;>omega),cY z is19 rfl ((CN _ _ _ _).trans ?_)⟩;unfold t19;simp -implicitDefEqProofs only [b1,z2,z3,e1,fI,n90,bM,bP,t1,t2,af,aj];refine results19 (n:=56) (by decide) _ ?_ ?_<;>assumption
 |true=>
  rw [DU (by decide)];rw [hu] at e1;simp -implicitDefEqProofs only [D8] at e1;have i3:h3.get h.next=some (bA id):=aM.get (o2.trans o3) g1;have l3:bZ 32 (ptr h.next 0) h3=some (kV id,h3):=aV i3 (bf w) (bh _).1;obtain ⟨lk,_⟩:=lkD x3.it mA tm (itG _) w;rw [pB] at lk;obtain ⟨h4,h5,z4,t5,o5,q5,n5⟩:=xW ((S.items.get id).getD zI) h3;have O5:=O3.trans o5;have x5:=x.old O5;cases hm:S.items.get id with
  |none=>
   rw [hm] at lk t5 q5;obtain ⟨ga,gb,t1,t2,kz,L1,L2⟩:=zero o5.n0.symm (aM.get o5 G1) (aM.get o5 g3) rfl rfl;refine ⟨gb,O5.also kz (fun c hc q=>by rcases q with q|q<;>omega),cY z is19 rfl ((CN _ _ _ _).trans ?_)⟩;unfold t19;have lk:lookupA prog 123 (.map (some S.im)) (kV id) true h3=some (.tuple #[rk zI,.bool false],h3):=lk;have t5:bX 3 (ptr h3.next 0) (rk zI) h4=some (undef,h5):=t5;simp -implicitDefEqProofs only [b1,z2,z3,e1,fI,n00,av,ax,DK,Nat.reduceAdd,x3.l3,l3,lk,gZ,iC,z4,t5,dp,EJ,bM,bP,t1,t2,af,aj];refine results19 (n:=56) (by decide) _ ?_ ?_<;>assumption
  |some y=>
   rw [hm] at lk t5 q5;have lk:lookupA prog 123 (.map (some S.im)) (kV id) true h3=some (.tuple #[rk y,.bool true],h3):=lk;have t5:bX 3 (ptr h3.next 0) (rk y) h4=some (undef,h5):=t5;have q5:h5.get h3.next=some (itC y):=q5;have i5:=aM.get o5 i3;have l5:bZ 32 (ptr h.next 0) h5=some (kV id,h5):=aV i5 (bf w) (bh _).1;have ly:bZ 3 (ptr h3.next 0) h5=some (rk y,h5):=aV q5 rfl rfl;obtain ⟨h6,o6,P6⟩:=r65 z (T.old O5) x5.jp har w y;obtain ⟨h7,z7,o7,g7,n7⟩:=fresh zM h6;obtain ⟨h8,z8,o8,g8,n8⟩:=fresh zP h7;have P8:=(o6.trans o7).trans o8;have m6:=o6.next;have m5:=o5.next;cases hr:readP S.D S.J id y.at_ with
   |none=>
    rw [hr] at P6;obtain ⟨A,B,v,e6,A0,A1,A2,B0,B1,B2⟩:=P6;obtain ⟨h9,t9,k9,g9,_,n9⟩:=aR (n:=37) (k':=A) (aM.get o8 g7) (by rw [(O5.trans P8).n0];omega) rfl A0 A1;have P9:aM h5 h9:=aM.bu P8 k9 (by omega);obtain ⟨h10,t10,k10,g10,_,n10⟩:=aR (n:=2) (k':=B) (aw.getE k9 g8 (by omega)) (by rw [(O5.trans P9).n0];omega) rfl B0 B1;have P10:aM h5 h10:=aM.bu P9 k10 (by omega);have O10:=O5.trans P10;have x10:=x.old O10;have l10:bZ 32 (ptr h.next 0) h10=some (kV id,h10):=aV (aM.get P10 i5) (bf w) (bh _).1;obtain ⟨h11,e11,it11,k11,n11⟩:=deD x10.it x10.im0 mA w;obtain ⟨qo,hqo⟩:=x10.it.obj;have q1:h10.get h1.next=some zM:=aM.get P10 (aM.get o5 G1);have q2:h10.get h2.next=some zP:=aM.get P10 (aM.get o5 g3);obtain ⟨ga,gb,t1,t2,kz,L1,L2⟩:=zero (by rw [k11.n0,O10.n0,O3.n0]) (k11.getE q1 (cM q1 hqo)) (k11.getE q2 (cM q2 hqo)) rfl rfl;have iml:S.im<h.next:=by obtain ⟨q,hq⟩:=x.it.obj;exact h.lt_of_getB hq
    have Kg:aw h gb (fun c=>c=S.im):=((O10.mono (fun _ _ q=>q.elim)).trans k11).also kz (fun c hc q=>by rcases q with q|q<;>omega);simp only [hr];refine ⟨gb,Kg,x.items' Kg ?_,cY z is19 rfl ((CN _ _ _ _).trans ?_)⟩
    ·exact it11.kept kz (fun q=>by rcases q with q|q<;>omega)
    ·unfold t19;simp -implicitDefEqProofs only [b1,z2,z3,e1,fI,n00,av,ax,DK,Nat.reduceAdd,x3.l3,l3,lk,gZ,iC,z4,t5,dp,EP,EJ,l5,ly,e6,zS,zH,AG,Aj,z7,z8,t9,t10,x10.l3,l10,e11,bM,bP,t1,t2,af,aj];refine results19 (n:=56) (by decide) _ ?_ ?_<;>assumption
   |some p=>
    obtain ⟨m,ix,dd,rc⟩:=p;rw [hr] at P6;obtain ⟨v,dv,rv,e6,X,Bd,Br,f1,f2,f3⟩:=P6;have hB1:aN [Value.int .i64 ix,dv]=true:=by simp [aN,Bd.cell.2.1,show (Value.int .i64 (ix:Int)).oneCell'=true from rfl]
    have hB2:Abs.noHoles [Value.int .i64 ix,dv]=true:=by simp [Abs.noHoles,Bd.cell.1,show cw (Value.int .i64 (ix:Int))=false from rfl]
    obtain ⟨h9,t9,k9,g9,_,n9⟩:=aR (n:=37) (k':=dL m v) (aM.get o8 g7) (by rw [(O5.trans P8).n0];omega) rfl X.ok.1 X.ok.2.2;have P9:aM h5 h9:=aM.bu P8 k9 (by omega);obtain ⟨h10,t10,k10,g10,_,n10⟩:=aR (n:=2) (k' := [.int .i64 ix,dv]) (aw.getE k9 g8 (by omega)) (by rw [(O5.trans P9).n0];omega) rfl rfl hB1;have P10:aM h5 h10:=aM.bu P9 k10 (by omega);have O10:=O5.trans P10;have Q69:aM h6 h10:=aM.bu (aM.bu (o7.trans o8) k9 (DO _)) k10 (by omega);have L1:bZ 37 (ptr h6.next 0) h10=some (mv m v,h10):=aV (aw.getE k10 g9 (by omega)) X.ok.1 X.ok.2.1;have L2:bZ 2 (ptr h7.next 0) h10=some (pv ix dv,h10):=aV g10 rfl hB2;obtain ⟨h11,t11,k11,g11,_,n11⟩:=aR (n:=37) (k':=dL m v) (aM.get P10 (aM.get o5 G1)) (by rw [O10.n0];omega) rfl X.ok.1 X.ok.2.2;have O11:aM h h11:=aM.bu O10 k11 (by omega);obtain ⟨h12,t12,k12,g12,_,n12⟩:=aR (n:=2) (k' := [.int .i64 ix,dv]) (aw.getE k11 (aM.get P10 (aM.get o5 g3)) (by omega)) (by rw [O11.n0];omega) rfl rfl hB1;have O12:aM h h12:=aM.bu O11 k12 (by omega);have vp:Abs.veq (pv ix dv) (pv ix dv)=true:=by show (Abs.veq (.int .i64 ix) (.int .i64 ix)&&(Abs.veq dv dv&&true))=true;rw [Bd.veq];simp [Abs.veq]
    have C1:=eQ (aV (n:=2) (aw.getE k11 g10 (by omega)) rfl hB2) vp;have R1:bZ 37 (ptr h1.next 0) h12=some (mv m v,h12):=aV (aw.getE k12 g11 (by omega)) X.ok.1 X.ok.2.1;have R2:bZ 2 (ptr h2.next 0) h12=some (pv ix dv,h12):=aV g12 rfl hB2;have t9:bX 37 (ptr h6.next 0) (mv m v) h8=some (undef,h9):=t9;have t10:bX 2 (ptr h7.next 0) (pv ix dv) h9=some (undef,h10):=t10;have t11:bX 37 (ptr h1.next 0) (mv m v) h10=some (undef,h11):=t11;have t12:bX 2 (ptr h2.next 0) (pv ix dv) h11=some (undef,h12):=t12;simp only [hr];refine ⟨h12,v,dv,O12,cY z is19 rfl ((CN _ _ _ _).trans ?_),⟨((X.sl.old Q69).keep k11 (fun b hb q=>by have:=f1 b hb;omega)).keep k12 (fun b hb q=>by have:=f1 b hb;omega),X.wf⟩,?_,fun b hb=>by have:=f1 b hb;omega,fun a n c q=>by have:=f2 a n c q;omega⟩
    ·unfold t19;simp -implicitDefEqProofs only [b1,z2,z3,e1,fI,n00,av,ax,DK,Nat.reduceAdd,x3.l3,l3,lk,gZ,iC,z4,t5,dp,EP,EJ,l5,ly,e6,zS,zH,AG,Aj,z7,z8,t9,t10,L1,L2,t11,t12,C1,EY,af,aj];refine results19 (n:=56) (by decide) _ ?_ ?_<;>assumption
    ·obtain ⟨a,c,rfl,sb,gs⟩:=(Bd.old Q69).ex;refine .of (k12.bytes (k11.bytes sb fun y hy _ q => ?_) fun y hy _ q => ?_) gs
     ·subst hy;have:=f2 y _ _ rfl;omega
     ·subst hy;have:=f2 y _ _ rfl;omega
end
end
end Go.Proofs.YtdhpgacmgebjdaaGreatDoor.W
namespace Go.Proofs.YtdhpgacmgebjdaaGreatDoor.W
open Go Go.Abs Tryz
noncomputable section
section
variable (C:ah) (x:Nat->Vl) (x0 x1 x2 x3 x4 x5:Vl) (h:ae)
def k4_13 (C:ah) (e:aQ) (h:ae):ba:=codeK prog C (al f4 [1,1,1,1,1,1,1,1]) e h (resultsA prog f4.results.toList) (resultsA prog f4.results.toList) (fun _ _ _=>none)
def b4_15 (C:ah) (i:Nat) (e:aQ) (h:ae):ba:=if i=0 then (k4_13 C) e h else (fun _ _ _=>none) i e h
def k4_16 (C:ah) (e:aQ) (h:ae):ba:=codeK prog C (al f4 [1,1,1,1,1,1,1,1,1]) e h (resultsA prog f4.results.toList) (resultsA prog f4.results.toList) (fun _ _ _=>none)
def b4_18 (C:ah) (i:Nat) (e:aQ) (h:ae):ba:=if i=2 then (k4_16 C) e h else (fun _ _ _=>none) i e h
def t4 (C:ah) (x0 x1 x2:Vl) (h:ae):ba:=
 aa (some ((.bool false),h)) fun L h=>
 aa (some (x0,h)) fun f h=>
 aa (pu (cI f) h) fun g h=>
 aa (pu (aE prog .gtr 3 g (.int .i64 8192)) h) fun j h=>
 aa (some (j,h)) fun a h=>
 aa (au (bC a==some false) (some (x2,h)) h) fun k h=>
 aa (au (bC a==some false) (pu (cI k) h) h) fun l h=>
 aa (au (bC a==some false) (pu (aE prog .gtr 3 l (.int .i64 60)) h) h) fun m h=>
 aa (match a with | .bool t=>some (if t then (.bool true) else m,h)|_=>none) fun n h=>
 (match n with
 | .bool true=>
 aa (C 12 [] h) fun M h=>
 aa (some (M,h)) fun b h=>
 some (b,h)
 | .bool false=>
 aa (fE 1 (.int .u8 0) 0 [] h) fun o h=>
 aa (some (x0,h)) fun p h=>
 aa (appendA 1 1 o p h) fun q h=>
 aa (C 21 [q] h) fun r h=>
 aa (some (r,h)) fun c h=>
 aa (pu (extractA c 0) h) fun s h=>
 aa (pu (extractA c 1) h) fun u h=>
 aa (some (s,h)) fun v h=>
 aa (some (u,h)) fun N h=>
 aa (some (N,h)) fun w h=>
 aa (pu (aE prog .neq 25 w (.int .i64 0)) h) fun y h=>
 (match y with
 | .bool true=>
 aa (C 12 [] h) fun O h=>
 aa (some (O,h)) fun b h=>
 some (b,h)
 | .bool false=>
 aa (some (v,h)) fun z h=>
 aa (some (x1,h)) fun A h=>
 aa (C 14 [z,A] h) fun B h=>
 aa (some (B,h)) fun d h=>
 aa (pu (extractA d 0) h) fun D h=>
 aa (pu (extractA d 1) h) fun E h=>
 aa (some (D,h)) fun F h=>
 aa (some (E,h)) fun G h=>
 aa (some (G,h)) fun H h=>
 aa (pu (aE prog .neq 25 H (.int .i64 0)) h) fun I h=>
 (match I with
 | .bool true=>
 aa (C 12 [] h) fun P h=>
 aa (some (P,h)) fun b h=>
 some (b,h)
 | .bool false=>
 aa (some (F,h)) fun J h=>
 aa (C 18 [J] h) fun K h=>
 aa (some (K,h)) fun Q h=>
 aa (some ((.int .i64 0),h)) fun R h=>
 fb (iter (codeA prog C (al f4 [1,1,1,1,1,1,1,0,1,0,0])) aK (aT 127 (up (bs [x0,x1,x2]) [(6,L),(7,v),(8,G),(9,F),(10,Q),(11,R),(18,f),(19,g),(20,j),(21,a),(22,k),(23,l),(24,m),(25,n),(27,c),(28,o),(29,p),(30,q),(31,r),(32,s),(33,u),(34,w),(35,y),(37,d),(38,z),(39,A),(40,B),(41,D),(42,E),(43,H),(44,I),(46,J),(47,K)])) h) (resultsA prog f4.results.toList) (b4_15 C)
 |_=>none)
 |_=>none)
 |_=>none)
def Cm (C:ah) (x:Nat->Vl) (h:ae):ba:=
 aa (some ((.int .i64 0),h)) fun a h=>
 fb (iter (codeA prog C (al f4 [1,1,1,1,1,1,1,1,0,1,0,0])) aK (aT 127 (up x [(12,a)])) h) (resultsA prog f4.results.toList) (b4_18 C)
def hZ (C:ah) (x:Nat->Vl) (h:ae):Option (Ex×aQ×ae):=
 aa (some ((x 11),h)) fun a h=>
 aa (some ((x 2),h)) fun b h=>
 aa (pu (cI b) h) fun c h=>
 aa (pu (aE prog .lss 3 a c) h) fun d h=>
 (match d with
 | .bool true=>
 aa (some ((x 7),h)) fun f h=>
 aa (some ((x 2),h)) fun g h=>
 aa (some ((x 11),h)) fun j h=>
 aa (pu (idxS 76 g j) h) fun k h=>
 aa (pu (aL k 1) h) fun l h=>
 aa (ld1 l h) fun m h=>
 aa (some ((x 2),h)) fun n h=>
 aa (some ((x 11),h)) fun o h=>
 aa (pu (idxS 76 n o) h) fun p h=>
 aa (pu (aL p 2) h) fun q h=>
 aa (ld1 q h) fun r h=>
 aa (some ((x 2),h)) fun s h=>
 aa (some ((x 11),h)) fun t h=>
 aa (pu (idxS 76 s t) h) fun u h=>
 aa (pu (aL u 75) h) fun v h=>
 aa (ld1 v h) fun w h=>
 aa (C 22 [f,m,r,w] h) fun A h=>
 aa (some ((x 11),h)) fun y h=>
 aa (pu (aE prog .add 3 y (.int .i64 1)) h) fun z h=>
 aa (some (z,h)) fun B h=>
 some (.normal,(aT 127 (up x [(11,B),(48,a),(49,b),(50,c),(51,d),(52,y),(53,z),(54,f),(55,g),(56,j),(57,k),(58,l),(59,m),(60,n),(61,o),(62,p),(63,q),(64,r),(65,s),(66,t),(67,u),(68,v),(69,w),(70,A)])),h)
 | .bool false=>
 some (.exit 0,(aT 127 (up x [(48,a),(49,b),(50,c),(51,d)])),h)
 |_=>none)
def B7 (C:ah) (x:Nat->Vl) (h:ae):ba:=
 aa (C 12 [] h) fun a h=>
 aa (some (a,h)) fun b h=>
 some (b,h)
def gK (C:ah) (x:Nat->Vl) (h:ae):Option (Ex×aQ×ae):=
 aa (some ((x 12),h)) fun j h=>
 aa (some ((x 10),h)) fun k h=>
 aa (pu (cI k) h) fun l h=>
 aa (pu (aE prog .lss 3 j l) h) fun m h=>
 (match m with
 | .bool true=>
 aa (some ((x 9),h)) fun p h=>
 aa (some ((x 10),h)) fun q h=>
 aa (some ((x 12),h)) fun r h=>
 aa (pu (idxS 32 q r) h) fun s h=>
 aa (bZ 32 s h) fun u h=>
 aa (C 19 [p,u] h) fun v h=>
 aa (some (v,h)) fun c h=>
 aa (pu (extractA c 0) h) fun w h=>
 aa (pu (extractA c 1) h) fun y h=>
 aa (pu (extractA c 2) h) fun z h=>
 aa (dj fy h) fun d h=>
 aa (dj [(.int .i64 0),(.slice none 0 0)] h) fun n h=>
 aa (bX 37 d w h) fun _ h=>
 aa (bX 2 n y h) fun _ h=>
 aa (some (z,h)) fun o h=>
 aa (some (o,h)) fun A h=>
 aa (pu (aE prog .neq 25 A (.int .i64 0)) h) fun B h=>
 (match B with
 | .bool true=>
 aa (some (o,h)) fun H h=>
 aa (pu (aE prog .neq 25 H (.int .i64 42)) h) fun I h=>
 aa (some (I,h)) fun a h=>
 aa (au (bC a==some false) (some ((x 9),h)) h) fun J h=>
 aa (au (bC a==some false) (some ((x 10),h)) h) fun K h=>
 aa (au (bC a==some false) (some ((x 12),h)) h) fun L h=>
 aa (au (bC a==some false) (pu (idxS 32 K L) h) h) fun M h=>
 aa (au (bC a==some false) (bZ 32 M h) h) fun N h=>
 aa (au (bC a==some false) (C 23 [J,N] h) h) fun O h=>
 aa (match a with | .bool t=>some (if t then (.bool true) else O,h)|_=>none) fun P h=>
 (match P with
 | .bool true=>
 aa (some ((.bool false),h)) fun Q h=>
 some (.ret,(aT 127 (up x [(6,Q),(13,d),(14,n),(15,o),(71,j),(72,k),(73,l),(74,m),(77,c),(78,p),(79,q),(80,r),(81,s),(82,u),(83,v),(84,w),(85,y),(86,z),(87,A),(88,B),(89,H),(90,I),(91,a),(92,J),(93,K),(94,L),(95,M),(96,N),(97,O),(98,P)])),h)
 | .bool false=>
 aa (some ((x 12),h)) fun D h=>
 aa (pu (aE prog .add 3 D (.int .i64 1)) h) fun E h=>
 aa (some (E,h)) fun R h=>
 some (.normal,(aT 127 (up x [(12,R),(13,d),(14,n),(15,o),(71,j),(72,k),(73,l),(74,m),(75,D),(76,E),(77,c),(78,p),(79,q),(80,r),(81,s),(82,u),(83,v),(84,w),(85,y),(86,z),(87,A),(88,B),(89,H),(90,I),(91,a),(92,J),(93,K),(94,L),(95,M),(96,N),(97,O),(98,P)])),h)
 |_=>none)
 | .bool false=>
 aa (bZ 37 d h) fun S h=>
 aa (C 24 [S] h) fun T h=>
 aa (some (T,h)) fun G h=>
 aa (pu (extractA G 0) h) fun U h=>
 aa (pu (extractA G 1) h) fun V h=>
 aa (dj (List.replicate 32 (.int .u8 0)) h) fun F h=>
 aa (bX 32 F U h) fun _ h=>
 aa (some (V,h)) fun W h=>
 aa (some (W,h)) fun X h=>
 aa (pu (aE prog .neq 25 X (.int .i64 0)) h) fun Y h=>
 aa (some (Y,h)) fun b h=>
 aa (au (bC b==some false) (bZ 32 F h) h) fun Z h=>
 aa (au (bC b==some false) (some ((x 10),h)) h) fun a0 h=>
 aa (au (bC b==some false) (some ((x 12),h)) h) fun a1 h=>
 aa (au (bC b==some false) (pu (idxS 32 a0 a1) h) h) fun a2 h=>
 aa (au (bC b==some false) (bZ 32 a2 h) h) fun a3 h=>
 aa (au (bC b==some false) (pu (aE prog .neq 32 Z a3) h) h) fun a4 h=>
 aa (match b with | .bool t=>some (if t then (.bool true) else a4,h)|_=>none) fun a5 h=>
 aa (some (a5,h)) fun f h=>
 aa (au (bC f==some false) (bZ 37 d h) h) fun a6 h=>
 aa (au (bC f==some false) (bZ 2 n h) h) fun a7 h=>
 aa (au (bC f==some false) (C 25 [a6,a7] h) h) fun a8 h=>
 aa (au (bC f==some false) (pu (aE prog .neq 25 a8 (.int .i64 0)) h) h) fun a9 h=>
 aa (match f with | .bool t=>some (if t then (.bool true) else a9,h)|_=>none) fun b0 h=>
 aa (some (b0,h)) fun g h=>
 aa (au (bC g==some false) (some ((x 9),h)) h) fun b1 h=>
 aa (au (bC g==some false) (bZ 32 F h) h) fun b2 h=>
 aa (au (bC g==some false) (C 23 [b1,b2] h) h) fun b3 h=>
 aa (au (bC g==some false) (pu (unA .not b3) h) h) fun b4 h=>
 aa (match g with | .bool t=>some (if t then (.bool true) else b4,h)|_=>none) fun b5 h=>
 (match b5 with
 | .bool true=>
 aa (some ((.bool false),h)) fun Q h=>
 some (.ret,(aT 127 (up x [(6,Q),(13,d),(14,n),(15,o),(16,F),(17,W),(71,j),(72,k),(73,l),(74,m),(77,c),(78,p),(79,q),(80,r),(81,s),(82,u),(83,v),(84,w),(85,y),(86,z),(87,A),(88,B),(99,G),(100,S),(101,T),(102,U),(103,V),(104,X),(105,Y),(106,b),(107,Z),(108,a0),(109,a1),(110,a2),(111,a3),(112,a4),(113,a5),(114,f),(115,a6),(116,a7),(117,a8),(118,a9),(119,b0),(120,g),(121,b1),(122,b2),(123,b3),(124,b4),(125,b5)])),h)
 | .bool false=>
 aa (some ((x 12),h)) fun D h=>
 aa (pu (aE prog .add 3 D (.int .i64 1)) h) fun E h=>
 aa (some (E,h)) fun R h=>
 some (.normal,(aT 127 (up x [(12,R),(13,d),(14,n),(15,o),(16,F),(17,W),(71,j),(72,k),(73,l),(74,m),(75,D),(76,E),(77,c),(78,p),(79,q),(80,r),(81,s),(82,u),(83,v),(84,w),(85,y),(86,z),(87,A),(88,B),(99,G),(100,S),(101,T),(102,U),(103,V),(104,X),(105,Y),(106,b),(107,Z),(108,a0),(109,a1),(110,a2),(111,a3),(112,a4),(113,a5),(114,f),(115,a6),(116,a7),(117,a8),(118,a9),(119,b0),(120,g),(121,b1),(122,b2),(123,b3),(124,b4),(125,b5)])),h)
 |_=>none)
 |_=>none)
 | .bool false=>
 some (.exit 2,(aT 127 (up x [(71,j),(72,k),(73,l),(74,m)])),h)
 |_=>none)
def t4_eq:aY prog C f4 [x0,x1,x2] h=t4 C x0 x1 x2 h:=
 lkT (by kernel_rfl) (by kernel_rfl)
def t4k4_13_eq:k4_13 C (aT 127 x) h=Cm C x h:=
 bI (T:=Cm C) (fun x h=>by kernel_rfl) x h
def rA:codeA prog C (al f4 [1,1,1,1,1,1,1,0,1,0,0]) (aT 127 x) h=hZ C x h:=
 aF (T:=hZ C) (fun x h=>by kernel_rfl) x h
def t4k4_16_eq:k4_16 C (aT 127 x) h=B7 C x h:=
 bI (T:=B7 C) (fun x h=>by kernel_rfl) x h
def qQ:codeA prog C (al f4 [1,1,1,1,1,1,1,1,0,1,0,0]) (aT 127 x) h=gK C x h:=
 aF (T:=gK C) (fun x h=>by kernel_rfl) x h
end
end
end Go.Proofs.YtdhpgacmgebjdaaGreatDoor.W
namespace Go.Proofs.YtdhpgacmgebjdaaGreatDoor.W
open Go Go.Abs Tryz R
noncomputable section
section
attribute [local congr] aC
def rot_like (D:Dk) (i a:Int) (m:Nat):(D.rot i a m).2.n=D.n/\(D.rot i a m).2.bb=D.bb/\(D.rot i a m).2.turn=D.turn/\(D.rot i a m).2.down=D.down:=by
 unfold Dk.rot;split
 ·exact ⟨rfl,rfl,rfl,rfl⟩
 ·exact ⟨rfl,rfl,rfl,rfl⟩
def lD.disk {h g:ae} {S:Ss} (x:lD h S) {E:Dk} (k:ek S.d S.D.bb h g) (xd:br g S.d E) (hb:E.bb=S.D.bb) (hn:E.n=S.D.n):lD g { S with D:=E }:=by
 obtain ⟨qi,hqi⟩:=x.it.obj;obtain ⟨qg,hqg⟩:=x.gr.obj;have no : ∀ {b:Nat} {q:fl},h.getB b=some (.obj q) -> ¬(b=S.d\/b=S.D.bb):=fun hq q=>by
  rcases q with rfl|rfl
  ·exact cM x.dk.hdr hq rfl
  ·exact cM x.dk.img hq rfl
 refine ⟨k.getE x.c (fun q=>q.elim x.sd x.sb),by rw [k.n0];exact x.n0,xd,x.jn.keep k (fun q=>q.elim (x.jn.uF x.dk) (x.jn.nf x.dk)),vT.of_n x.ok hn,by show 2<=E.n;rw [hn];exact x.n2,x.it.kept k (no hqi),x.gr.kept k (no hqg),by rw [k.n0];exact x.im0,by rw [k.n0];exact x.gm0,x.ne,x.sd,by show S.s≠E.bb;rw [hb];exact x.sb,x.sj,?_,x.inc⟩;rcases x.cu with q|⟨b,id,h1,h2,h3,h4⟩
 ·exact .inl q
 ·refine .inr ⟨b,id,h1,h2,k.getE h3 (fun q => ?_),h4⟩;rcases q with rfl|rfl
  ·have:=x.dk.hdr;rw [h3] at this;have:=E2 (Option.map List.length) this;rw [Option.map_some,Option.map_some,bf h4] at this;cases this
  ·have:=x.dk.img;rw [h3] at this;have:=E2 (Option.map List.length) this;rw [Option.map_some,Option.map_some,bf h4,DY,x.dk.len] at this;have h2:=x.n2;injection this with this
   omega
def up_disk {S:Ss} {E:Dk} (h1:E.turn=S.D.turn) (h2:E.down=S.D.down) (h3:E.n=S.D.n):({ S with D:=E }:Ss).up=S.up:=by
 show (S.J.live E&&decide (0<E.ar))=(S.J.live S.D&&decide (0<S.D.ar))
 unfold Jn.live Dk.ar;rw [h1,h2,h3]
def r18_dead {Z:ah} (z:zF Z) {h:ae} (hG:3<=h.n0) {S:Ss} (x:lD h S) (hu:S.up=false):CV Z 18 [ptr S.s 0] h=some (.slice none 0 0,h):=by have e1:=r60 z hG x;rw [hu] at e1;simp -implicitDefEqProofs only [DJ,D3] at e1;refine cY z is18 rfl ((t18_eq _ _ _).trans ?_);unfold t18;simp -implicitDefEqProofs only [e1,fI,n90,af,aj]
def r14_neg {Z:ah} (z:zF Z) (h:ae) (d:Nat) {quota:Int} (hq:quota<0):CV Z 14 [ptr d 0,.int .i64 quota] h=some (.tuple #[.pointer none,.int .i64 2],h):=by refine cY z is14 rfl ((t14_eq _ _ _ _).trans ?_);unfold t14;simp -implicitDefEqProofs only [nil24,bU,DS hq,af,aj]
structure OpsA (h:ae) (v:Vl) (n:Nat):Prop where
 len:cI v=some (ak n)
 at_ : ∀ i<n,∃ b off kk N B m,idxS 76 v (ak i)=some (ptr b off)/\h.get b=some kk/\kk[off+1]? = some (.int .i64 N)/\kk[off+2]? = some (.int .i64 B)/\kk[off+75]? = some (u8 m)/\m<256
def DM.get_del {α:Type} {M:DM α} {k d:List Nat} (h:d≠k):(M.del k).get d=M.get d:=by
 unfold DM.del;split
 ·rename_i i hi;obtain ⟨hl,hk,_⟩:=DM.nS hi;have hsplit:M=M.take i++M[i]::M.drop (i+1):=by rw [<-List.drop_eq_getElem_cons hl,F7]
  have he:M.eraseIdx i=M.take i++M.drop (i+1):=List.eraseIdx_eq_take_drop_succ M i;rw [he];unfold DM.get
  conv=>rhs;rw [hsplit]
  rw [List.find?_append,List.find?_append,HC (by rw [<-hk];simpa using h)]
 ·rfl
def DM.Dl {α:Type} {M:DM α} {k:List Nat} (nd:(M.map (·.1)).Nodup):(M.del k).get k=none:=by
 cases hg:(M.del k).get k with
 |none=>rfl
 |some v=>
  exfalso;have h1:=DM.DB hg;unfold DM.del at h1;split at h1
  ·rename_i i hi;obtain ⟨hl,hk,_⟩:=DM.nS hi;have h2:k∈(M.eraseIdx i).map (·.1):=EL.2 ⟨_,h1,rfl⟩;rw [qt,List.eraseIdx_eq_take_drop_succ] at h2;have hlm:i<(M.map (·.1)).length:=by rw [DY];exact hl
   have hke:(M.map (·.1))[i]=k:=by rw [IE,<-hk]
   have hsp:M.map (·.1)=(M.map (·.1)).take i++k::(M.map (·.1)).drop (i+1):=by rw [<-hke,<-List.drop_eq_getElem_cons hlm,F7]
   rw [hsp,HP,H3] at nd;obtain ⟨_,⟨n1,_⟩,n2⟩:=nd;rcases EF.1 h2 with h2|h2
   ·exact n2 k h2 k EM rfl
   ·exact n1 h2
  ·rename_i hn;have hd:M.del k=M:=by unfold DM.del;rw [hn]
   rw [hd,DM.CH hn] at hg;cases hg
structure SnC (h:ae) (s d bb im:Nat) (up:Bool) (g:ae) (S:Ss):Prop where
 O:aM h g
 st:lD g S
 s:S.s=s
 d:S.d=d
 bb:S.D.bb=bb
 im:S.im=im
 up:S.up=up
 n:S.D.n<=64
structure Sn1 (h:ae) (s d bb im:Nat) (up:Bool) (x2 ids:Vl) (nr:Nat) (L:List (List Nat)) (M:DM It) (i:Nat) (y:Nat->Vl) (g:ae) (S:Ss):Prop where
 y2:y 2=x2
 y7:y 7=ptr d 0
 y9:y 9=ptr s 0
 y10:y 10=ids
 y11:y 11=ak i
 C:SnC h s d bb im up g S
 sl:j0 g fK ids L.length (L.flatMap bA)
 it:S.items=M
def sn1Inv (h:ae) (s d bb im:Nat) (up:Bool) (x2 ids:Vl) (nr:Nat) (L:List (List Nat)) (M:DM It) (k:Nat) (y:Nat->Vl) (g:ae):Prop := ∃ i S,i+k=nr/\Sn1 h s d bb im up x2 ids nr L M i y g S
def sn1Fin (h:ae) (s d bb im:Nat) (up:Bool) (ids:Vl) (L:List (List Nat)) (M:DM It) (ex:Ex) (y:Nat->Vl) (g:ae):Prop:=
 ex = .exit 0/\y 9=ptr s 0/\y 10=ids /\ ∃ S,SnC h s d bb im up g S/\j0 g fK ids L.length (L.flatMap bA)/\S.items=M
def sn1Round {Z:ah} (z:zF Z) {h:ae} (T:RT h) {s d bb im:Nat} {up:Bool} {x2 ids:Vl} {nr:Nat} (ops:OpsA h x2 nr) (hnr:nr<=60) {L:List (List Nat)} {M:DM It} (hd:h.next<=d) (hbb:h.next<=bb) (hids : ∀ b,AV ids=some b->b≠d/\b≠bb) :
  ∀ k y g,sn1Inv h s d bb im up x2 ids nr L M k y g->dE 127 (sn1Inv h s d bb im up x2 ids nr L M) (sn1Fin h s d bb im up ids L M) k (hZ (CV Z) y g):=by
 rintro k y g ⟨i,S,hik,I⟩;unfold hZ;by_cases hi:i<nr
 ·obtain ⟨b,off,kk,N,B,m,e1,g1,c1,c2,c3,hm⟩:=ops.at_ i hi;have gb:=aM.get I.C.O g1;have l1:ld1 (ptr b (off+1)) g=some (.int .i64 N,g):=aP gb c1 rfl;have l2:ld1 (ptr b (off+2)) g=some (.int .i64 B,g):=aP gb c2 rfl;have l3:ld1 (ptr b (off+75)) g=some (u8 m,g):=aP gb c3 rfl;have xd:=I.C.st.dk;rw [I.C.d] at xd;obtain ⟨g2,e2,x2',k2⟩:=r22 xd N B hm;have e2:=jP z (by rw [I.C.O.n0];exact T.n0) (by rfl) e2;obtain ⟨a1,a2,a3,a4⟩:=rot_like S.D N B m;have st2:lD g2 { S with D:=(S.D.rot N B m).2 }:=I.C.st.disk (by rw [I.C.d];exact k2) (by rw [I.C.d];exact x2') a2 a1;simp -implicitDefEqProofs only [I.y11,I.y2,ops.len,fF,DS hi,I.y7,e1,ax,l1,l2,l3,e2,ei (show i+1<=9223372036854775807 by omega),af,aj];refine dE.next (k-1) (by omega) ⟨i+1,_,by omega,I.y2,I.y7,I.y9,I.y10,rfl,⟨I.C.O.also k2 (fun c hc q=>by
   rcases q with q|q
   ·omega
   ·rw [I.C.bb] at q;omega),st2,I.C.s,I.C.d,a2.trans I.C.bb,I.C.im,(up_disk a3 a4 a1).trans I.C.up,by show (S.D.rot N B m).2.n<=64;rw [a1];exact I.C.n⟩,I.sl.keep k2 (fun b hb q => ?_),I.it⟩
  obtain ⟨n1,n2⟩:=hids b hb;rw [I.C.bb] at q;exact q.elim n1 n2
 ·simp -implicitDefEqProofs only [I.y11,I.y2,ops.len,fF,DP hi,af,aj];exact dE.out 0 ⟨rfl,I.y9,I.y10,S,I.C,I.sl,I.it⟩
structure Sn2 (h:ae) (s d bb im:Nat) (up:Bool) (ids:Vl) (L:List (List Nat)) (i:Nat) (y:Nat->Vl) (g:ae) (S:Ss):Prop where
 y9:y 9=ptr s 0
 y10:y 10=ids
 y12:y 12=ak i
 C:SnC h s d bb im up g S
 sl:j0 g fK ids L.length (L.flatMap bA)
 it : ∀ k∈L.drop i,(S.items.get k).isSome=true
def sn2Inv (h:ae) (s d bb im:Nat) (up:Bool) (ids:Vl) (L:List (List Nat)) (k:Nat) (y:Nat->Vl) (g:ae):Prop := ∃ i S,i+k=L.length/\Sn2 h s d bb im up ids L i y g S
def sn2Fin (h:ae) (ex:Ex) (_:Nat->Vl) (g:ae):Prop:=ex = .exit 2/\aM h g
def text_rest (s:Rd):s.text.2.l.length<=s.l.length:=by
 unfold Rd.text Rd.eS;have a:=(lL s 2).2;split
 ·split
  ·exact ED (lL _ _).2 a
  ·exact DO _
 ·exact DO _
def pieceOf_ok {r:List Nat} {m:ej} {ix:Nat} {d:List Nat} (h:eh r=some (m,ix,d)):Dt m ix d=0/\ij m=false/\d.length<=r.length/\(ix:Int)<m.gt:=by
 unfold eh at h;split at h
 ·rename_i hc;obtain ⟨c0,c1,c2,c3⟩:=hc;cases h;have hb:ij (fW (pT r).1).1=false:=by
   cases hb:ij (fW (pT r).1).1 with
   |false=>rfl
   |true=>unfold Dt at c3;rw [hb,DR rfl] at c3;cases c3
  refine ⟨c3,hb,?_,?_⟩
  ·have h1:=(lL (pT r).2 (pT r).2.l.length).1;have h2:=text_rest (pI r).2;have h3:=(lL (pK r).2 2).2;have h4:=(lL (⟨r,0⟩:Rd) 1).2;exact ED h1 (ED h2 (ED h3 h4))
  ·unfold Dt at c3;rw [hb,DU (by decide)] at c3;split at c3
   ·cases c3
   ·omega
 ·cases h
set_option maxRecDepth 100000 in
def sn2Round {Z:ah} (z:zF Z) {h:ae} (T:RT h) {s d bb im:Nat} {up:Bool} {ids:Vl} {L:List (List Nat)} (hw : ∀ k∈L,eE k) (nd:L.Nodup) (hL:L.length<=10000) (hu:up=true\/L = []) (him:h.next<=im) :
  ∀ k y g,sn2Inv h s d bb im up ids L k y g->dE 127 (sn2Inv h s d bb im up ids L) (sn2Fin h) k (gK (CV Z) y g):=by
 rintro k y g ⟨i,S,hik,I⟩;unfold gK;by_cases hi:i<L.length
 ·have hup:S.up=true:=by
   rcases hu with hu|hu
   ·exact I.C.up.trans hu
   ·rw [hu] at hi;exact absurd hi (H4 i)
  obtain ⟨id,hm⟩ : ∃ id,L[i]? = some id:=⟨L[i],DL hi⟩
  have w:=hw id (EC hm);have hLi:L[i]=id:=(D9.1 hm).2;have hdrop:L.drop i=id::L.drop (i+1):=by rw [F3 hi,hLi]
  obtain ⟨b,q,e1,e2⟩:=Bm I.sl hw hm;have Tg:=T.old I.C.O;have har:S.D.ar<=190:=by have:=I.C.n;have h1:S.D.ar=(S.D.n-2)/2:=rfl;omega
  have hin:(S.items.get id).isSome=true:=I.it id (by rw [hdrop];exact EM);obtain ⟨x,hx⟩:=E6.1 hin;have P:=r19 z Tg I.C.st har w;unfold BT at P;rw [DU (by rw [hup];decide),hx] at P;have n0g:g.n0<=g.next:=g.n0_le_next;have rest : ∀ k∈L.drop (i+1),k≠id:=fun k hk e=>by have h1:(L.drop i).Nodup:=(List.drop_sublist i L).nodup nd;rw [hdrop,H3] at h1;exact h1.1 (by rw [<-e];exact hk)
  cases hr:readP S.D S.J id x.at_ with
  |none=>
   simp only [hr] at P;obtain ⟨g1,k1,st1,e3⟩:=P;obtain ⟨g2,z2,o2,q2,n2⟩:=fresh zM g1;obtain ⟨g3,z3,o3,q3,n3⟩:=fresh zP g2;have n01:g1.n0<=g1.next:=g1.n0_le_next;obtain ⟨g4,t4,k4,q4,_,n4⟩:=aR (n:=37) (k':=zM) (aM.get o3 q2) (by rw [o3.n0,o2.n0];exact n01) rfl rfl rfl;have P4:aM g1 g4:=aM.bu (o2.trans o3) k4 (DO _);obtain ⟨g5,t5,k5,q5,_,n5⟩:=aR (n:=2) (k':=zP) (aw.getE k4 q3 (by omega)) (by rw [P4.n0];omega) rfl rfl rfl;have P5:aM g1 g5:=aM.bu P4 k5 (by omega);have sl1:j0 g1 fK ids L.length (L.flatMap bA):=I.sl.keep k1 (fun b hb q=>by obtain ⟨oo,ho⟩:=I.C.st.it.obj;obtain ⟨b',off,kk,hb',_,hg,_⟩:=I.sl.at hi;rw [hb] at hb';cases hb';rw [q] at hg;exact cM hg ho rfl)
   have sl5:=sl1.old P5;obtain ⟨b5,q5',e5,e6⟩:=Bm sl5 hw hm;rw [e1] at e5;cases e5;have O5:aM h g5:=(I.C.O.also k1 (fun c hc q=>by rw [I.C.im] at q;omega)).trans P5;have st5:=st1.old P5;obtain ⟨g6,e7,o6⟩:=r23 z (by rw [O5.n0];exact T.n0) st5 w;have hh:(({ S with items:=S.items.del id }:Ss).up&&(({ S with items:=S.items.del id }:Ss).items.get id).isSome)=false:=by show (S.up&&((S.items.del id).get id).isSome)=false;have:(S.items.del id).get id=none:=DM.Dl I.C.st.it.nd;rw [this];simp
   rw [hh] at e7;have e3:CV Z 19 [ptr s 0,kV id] g=some (.tuple #[.agg zM.toArray,.agg zP.toArray,.int .i64 42],g1):=by rw [<-I.C.s];exact e3
   have e7:CV Z 23 [ptr s 0,kV id] g5=some (.bool false,g6):=by rw [<-I.C.s];exact e7
   have n42:aE prog .neq 25 (.int .i64 42) (.int .i64 42)=some (.bool false):=cS ..;simp -implicitDefEqProofs only [I.y12,I.y10,I.sl.len,fF,DS hi,I.y9,e1,e2,e3,ex30,ex31,ex32,z2,z3,t4,t5,fI,show ((42:Int) != 0)=true from rfl,n42,aH,sff,az,e6,e7,D3,DJ,ei (show i+1<=9223372036854775807 by omega),af,aj];refine dE.next (k-1) (by omega) ⟨i+1,{ S with items:=S.items.del id },by omega,I.y9,I.y10,rfl,⟨O5.trans o6,st5.old o6,I.C.s,I.C.d,I.C.bb,I.C.im,I.C.up,I.C.n⟩,sl5.old o6,fun k hk => ?_⟩;show ((S.items.del id).get k).isSome=true;rw [DM.get_del (rest k hk)];exact I.it k (by rw [hdrop];exact EK _ hk)
  |some p=>
   obtain ⟨m,ix,dd,rc⟩:=p;simp only [hr] at P;obtain ⟨g1,v,dv,o1,e3,X,Bd,f1,f2⟩:=P;obtain ⟨hra,hpo,mW⟩:=BP hr;obtain ⟨ck,mb,dl,ixl⟩:=pieceOf_ok hpo;have rl:=Bz hra;have hB1:aN [Value.int .i64 ix,dv]=true:=by simp [aN,Bd.cell.2.1,show (Value.int .i64 (ix:Int)).oneCell'=true from rfl]
   have hB2:Abs.noHoles [Value.int .i64 ix,dv]=true:=by simp [Abs.noHoles,Bd.cell.1,show cw (Value.int .i64 (ix:Int))=false from rfl]
   obtain ⟨g2,z2,o2,q2,n2⟩:=fresh zM g1;obtain ⟨g3,z3,o3,q3,n3⟩:=fresh zP g2;have n01:g1.n0<=g1.next:=g1.n0_le_next;obtain ⟨g4,t4,k4,q4,_,n4⟩:=aR (n:=37) (k':=dL m v) (aM.get o3 q2) (by rw [o3.n0,o2.n0];exact n01) rfl X.ok.1 X.ok.2.2;have P4:aM g1 g4:=aM.bu (o2.trans o3) k4 (DO _);obtain ⟨g5,t5,k5,q5,_,n5⟩:=aR (n:=2) (k' := [.int .i64 ix,dv]) (aw.getE k4 q3 (by omega)) (by rw [P4.n0];omega) rfl rfl hB1;have P5:aM g1 g5:=aM.bu P4 k5 (by omega);have q45:g5.get g1.next=some (dL m v):=aw.getE k5 q4 (by omega);have X5:=X.old P5;have T5:RT g5:=(Tg.old o1).old P5;have l5:bZ 37 (ptr g1.next 0) g5=some (mv m v,g5):=aV q45 X.ok.1 X.ok.2.1;obtain ⟨g6,e6,o6⟩:=r24 T5 X5;have e6:=jP z T5.n0 (by rfl) e6;rw [mb,mW] at e6;obtain ⟨g7,z7,o7,q7,n7⟩:=fresh (List.replicate 32 (.int .u8 0)) g6;obtain ⟨g8,t8,k8,q8,_,n8⟩:=aR (n:=32) (k':=bA id) q7 (by rw [o7.n0];exact g6.n0_le_next) rfl (bf w) (bh _).2;have o8:aM g6 g8:=aM.bu o7 k8 (DO _);have O68:=o6.trans o8;have l8:bZ 32 (ptr g6.next 0) g8=some (kV id,g8):=aV q8 (bf w) (bh _).1;have Og8:aM g g8:=(o1.trans P5).trans O68;have sl8:=I.sl.old Og8;obtain ⟨b9,q9,e9,e10⟩:=Bm sl8 hw hm;rw [e1] at e9;cases e9;have eD:=(eqD32 w w).2;rw [DS rfl] at eD;have l8m:bZ 37 (ptr g1.next 0) g8=some (mv m v,g8):=aV (aM.get O68 q45) X.ok.1 X.ok.2.1;have l8p:bZ 2 (ptr g2.next 0) g8=some (pv ix dv,g8):=aV (aM.get O68 q5) rfl hB2;have T8:=T5.old O68;obtain ⟨v1,v2,v3,v4,v5,v6,v7⟩:=tX mb;obtain ⟨g9,e11,o9⟩:=r25 T8 (X5.old O68) (ix:=(ix:Int)) (by omega) ((Bd.old P5).old O68) (by omega);have e11:=jP z T8.n0 (by rfl) e11;rw [ck] at e11;have l9:bZ 32 (ptr g6.next 0) g9=some (kV id,g9):=aV (aM.get o9 q8) (bf w) (bh _).1;have Og9:=Og8.trans o9;have st9:=I.C.st.old Og9;obtain ⟨g10,e12,o10⟩:=r23 z (Tg.old Og9).n0 st9 w;rw [hup,hx] at e12;have e12:CV Z 23 [ptr s 0,kV id] g9=some (.bool true,g10):=by rw [<-I.C.s];exact e12
   have e3:CV Z 19 [ptr s 0,kV id] g=some (.tuple #[mv m v,pv ix dv,.int .i64 0],g1):=by rw [<-I.C.s];exact e3
   have t4:bX 37 (ptr g1.next 0) (mv m v) g3=some (undef,g4):=t4;have t5:bX 2 (ptr g2.next 0) (pv ix dv) g4=some (undef,g5):=t5;have e6:CV Z 24 [mv m v] g5=some (.tuple #[kV id,.int .i64 0],g6):=e6;have t8:bX 32 (ptr g6.next 0) (kV id) g7=some (undef,g8):=t8;simp -implicitDefEqProofs only [I.y12,I.y10,I.sl.len,fF,DS hi,I.y9,e1,e2,e3,ex30,ex31,ex32,z2,z3,t4,t5,fI,n00,l5,e6,gZ,iC,z7,t8,aH,sff,az,l8,e10,eD,EP,D3,DJ,l8m,l8p,e11,l9,e12,dp,ei (show i+1<=9223372036854775807 by omega),af,aj];have Og10:=Og9.trans o10;exact dE.next (k-1) (by omega) ⟨i+1,S,by omega,I.y9,I.y10,rfl,⟨I.C.O.trans Og10,I.C.st.old Og10,I.C.s,I.C.d,I.C.bb,I.C.im,I.C.up,I.C.n⟩,I.sl.old Og10,fun k hk=>I.it k (by rw [hdrop];exact EK _ hk)⟩
 ·simp -implicitDefEqProofs only [I.y12,I.y10,I.sl.len,fF,DP hi,af,aj];exact dE.out 2 ⟨rfl,I.C.O⟩
end
section
attribute [local congr] aC
def is4:bJ prog 4 f4 := .of (by kernel_rfl)
def b4_15' (C:ah) (e:aQ) (h:ae):b4_15 C 0 e h=k4_13 C e h:=rfl
def b4_18' (C:ah) (e:aQ) (h:ae):b4_18 C 2 e h=k4_16 C e h:=rfl
def nj (n:Nat):aE prog .gtr 3 (ak n) (.int .i64 8192)=some (.bool (decide (8192<n))):=gtr3k n 8192
def BO (n:Nat):aE prog .gtr 3 (ak n) (.int .i64 60)=some (.bool (decide (60<n))):=gtr3k n 60
def zt (D:Dk) (J:Jn) (fr:List Nat) : ∀ (l:List (List Nat)) (st:DM It×List (List Nat×List Nat)),(l.foldl (rwStep D J fr) st).1.length<=st.1.length/\(l.foldl (rwStep D J fr) st).2.length<=st.2.length+l.length
 | [],st=>⟨DO _,DO _⟩
 |id::l,st=>by
  obtain ⟨h1,h2⟩:=zt D J fr l (rwStep D J fr st id);have h3:(rwStep D J fr st id).1.length<=st.1.length/\(rwStep D J fr st id).2.length<=st.2.length+1:=by
   unfold rwStep;split
   ·exact ⟨DO _,by rw [DW];exact DO _⟩
   ·exact ⟨DM.del_len,F8 _⟩
  rw [List.foldl_cons,List.length_cons];exact ⟨by omega,by omega⟩
def xT (ps:List Nat) (b:Nat) : ∀ (l:List (List Nat×Nat)) (M:DM It),(l.foldl (nF ps b) M).length<=M.length+l.length
 | [],M=>DO _
 |q::l,M=>by have h1:=xT ps b l (nF ps b M q);have h2:(nF ps b M q).length<=M.length+1:=DM.CA;rw [List.foldl_cons,List.length_cons];omega
def rwOut_len (D:Dk) (J:Jn) (inc:Nat) (fr:List Nat) (M:DM It) (G:DM Unit):(df D J inc fr M G).2.2.2.length<=2*M.length:=by
 obtain ⟨h1,h2⟩:=zt D J fr (cO (M.map (·.1))) (M,[]);have h3:(cO (M.map (·.1))).length=M.length:=by rw [(cQ _).length_eq,DY]
 have e:Dn D J fr M=(cO (M.map (·.1))).foldl (rwStep D J fr) (M,[]):=rfl;rw [<-e] at h1 h2;simp only [List.length_nil,DK] at h2;unfold df;generalize Dn D J fr M=p at *;have h4:p.1.length<=M.length:=h1;simp only;split
 ·have h5:=xT ((qV (dJ inc G p.2) 0).map (·.1)) (((qV (dJ inc G p.2) 0).map (·.1)).length-p.2.length) (p.2.map (·.1)).zipIdx p.1;rw [List.length_zipIdx] at h5;have h6:(p.2.map (·.1)).length=p.2.length:=DY ..;omega
 ·omega
set_option maxRecDepth 100000 in
def r4 {Z:ah} (z:zF Z) {h:ae} (T:RT h) {x0 x2:Vl} {img:List Nat} (bs:BS h x0 img) (hbig:img.length<=1000000\/8192<img.length) (quota:Int) {nr:Nat} (ops:OpsA h x2 nr) : ∃ g,CV Z 4 [x0,.int .i64 quota,x2] h=some (.bool true,g):=by
 have known : ∀ {g:ae},aM h g->CV Z 12 [] g=some (.bool true,g):=fun O=>jP z (T.old O).n0 (by rfl) (r12 (T.old O).tab);have key : ∃ g,t4 (CV Z) x0 (.int .i64 quota) x2 h=some (.bool true,g):=by
  by_cases h1:8192<img.length
  ·refine ⟨h,?_⟩;unfold t4;simp -implicitDefEqProofs only [bs.len,nj,DS h1,aH,stf,aG,D8,known (aw.refl _ _),af,aj]
  by_cases h2:60<nr
  ·refine ⟨h,?_⟩;unfold t4;simp -implicitDefEqProofs only [bs.len,nj,DP h1,aH,sff,az,ops.len,BO,DS h2,D3,DJ,known (aw.refl _ _),af,aj]
  obtain ⟨a,c,rfl,sb,gs⟩:=bs.ex;have e1:fE 1 (.int .u8 0) 0 [] h=some (.slice (some ⟨h.next,0,none⟩) 0 0,h.alloc []):=rfl;have o1:aM h (h.alloc []):=aw.alloc _ _ _;have nx1:(h.alloc []).next=h.next+1:=rfl;generalize h.alloc []=h1' at *;have ow:jq h1' h.next (.slice (some ⟨h.next,0,none⟩) 0 0) []:=⟨cF.empty h1' (DO _),fun x hx=>by cases hx⟩
  obtain ⟨v2,h2',e2,ow2,k2,_⟩:=oR (c:=c) ow (by rw [o1.n0];exact h.n0_le_next) (by omega) (aM.bytes o1 sb) (by rw [List.length_nil];omega);rw [List.nil_append] at ow2;have O2:aM h h2':=o1.also k2 (fun c hc q=>by
   have q:some h.next=some c:=q;injection q with q
   omega)
  obtain ⟨a2,c2,rfl,sb2,gs2,_,_⟩:=ow2.bytes;have pre : ∀ (r:ba),(∀ o:ba,(match (CV Z 21 [.slice a2 img.length c2] h2') with|some _=>True|none=>True))->True:=fun _ _=>trivial;by_cases hbad:img.length%128≠0\/img.length<512\/524288<img.length
  ·have e3:=jP z (T.old O2).n0 (by rfl) (r21_no (h:=h2') (a:=a2) (n:=img.length) (c:=c2) (by omega) hbad);refine ⟨h2',?_⟩;unfold t4;simp -implicitDefEqProofs only [bs.len,nj,DP h1,aH,sff,az,ops.len,BO,DP h2,D3,DJ,e1,e2,e3,gZ,iC,fI,show ((2:Int) != 0)=true from rfl,known O2,af,aj]
  ·have hb1:img.length%128=0:=by omega
   obtain ⟨h3,e3,x3,o3⟩:=r21 sb2 gs2 hb1 (by omega) (by omega);have e3:=jP z (T.old O2).n0 (by rfl) e3;have O3:=O2.trans o3;have T3:=T.old O3;have dn:({ Dk.new h2' (img.length/128) with img:=img }:Dk).n=img.length/128:=rfl;have dd:({ Dk.new h2' (img.length/128) with img:=img }:Dk).down=false:=rfl;have db:({ Dk.new h2' (img.length/128) with img:=img }:Dk).bb=h2'.next:=rfl;generalize ({ Dk.new h2' (img.length/128) with img:=img }:Dk)=D at *;have har:D.ar<=31:=by have h1:D.ar=(D.n-2)/2:=rfl;omega
   by_cases hq:quota<0
   ·have e4:=r14_neg z h3 (h2'.next+1) hq;refine ⟨h3,?_⟩;unfold t4;simp -implicitDefEqProofs only [bs.len,nj,DP h1,aH,sff,az,ops.len,BO,DP h2,D3,DJ,e1,e2,e3,gZ,iC,fI,n00,e4,show ((2:Int) != 0)=true from rfl,known O3,af,aj]
   ·obtain ⟨g,kg,P⟩:=r14 z T3 x3 (by rw [dn];omega) dd (by omega) (quota:=quota) (by omega);have hz2:=O2.next;have hz3:=o3.next;have Og:aM h g:=O3.also kg (fun c hc q=>by
     rcases q with q|q
     ·omega
     ·rw [db] at q;omega)
    split at P
    ·obtain ⟨e4,_⟩:=P;refine ⟨g,?_⟩;unfold t4;simp -implicitDefEqProofs only [bs.len,nj,DP h1,aH,sff,az,ops.len,BO,DP h2,D3,DJ,e1,e2,e3,gZ,iC,fI,n00,e4,show ((8:Int) != 0)=true from rfl,known Og,af,aj]
    ·split at P
     ·obtain ⟨S,e4,st,sd,sD,sJ,si,sg,sinc,sq,sc,sbb,sn,s1,s2,s3,s4⟩:=P;have sml':S.items.length<=62:=by rw [si];have b1:=rwOut_len D.opened D.jn ((cT D).1+1) [] (cT D).2.1 (cT D).2.2;obtain ⟨b2,_,_⟩:=sr D.entries (0,[],[]);have b3:=(np (D:=D.opened) (J:=D.jn) D.ar 0).1;have b4:D.entries=D.opened.ents D.jn D.ar 0:=rfl;rw [<-b4] at b3;have b5:(cT D).2.1.length=(D.entries.foldl iN (0,[],[])).2.1.length:=rfl;simp only [List.length_nil,DK] at b2;omega
      have sml:S.items.length<=1000000:=by omega
      have dlt:=x3.lt;have Tg:=T.old Og;obtain ⟨ids,g2,L,e5,o5,hlow,sl,hL,hup⟩ : ∃ ids g2 L,CV Z 18 [ptr S.s 0] g=some (ids,g2)/\aM g g2/\(∀ b,AV ids=some b->g.next<=b)/\j0 g2 fK ids L.length (L.flatMap bA)/\(L=cO (S.items.map (·.1))\/L = [])/\(S.up=true\/L = []):=by
       cases hu:S.up with
       |false=>exact ⟨_,g,[],r18_dead z Tg.n0 st hu,aw.refl _ _,(fun b hb=>by cases hb),j0.nil g fK,.inr rfl,.inr rfl⟩
       |true=>
        have e:=r18 z Tg.n0 st hu sml;obtain ⟨v,g2,es⟩ : ∃ v g2,fO g (cO (S.items.map (·.1)))=(v,g2):=⟨_,_,rfl⟩
        rw [es] at e;obtain ⟨Sx,o,b⟩:=uh es;exact ⟨v,g2,_,e,o,b,Sx.sl (fun k hk=>by obtain ⟨p,hp,rfl⟩:=EL.1 (ng.1 hk);exact st.it.w p hp),.inl rfl,.inl rfl⟩
      have hw : ∀ k∈L,eE k:=fun k hk=>by
       rcases hL with rfl|rfl
       ·obtain ⟨p,hp,rfl⟩:=EL.1 (ng.1 hk);exact st.it.w p hp
       ·cases hk
      have nd:L.Nodup:=by
       rcases hL with rfl|rfl
       ·exact (cQ _).nodup_iff.2 st.it.nd
       ·exact I5
      have hin : ∀ k∈L,(S.items.get k).isSome=true:=fun k hk=>by
       rcases hL with rfl|rfl
       ·obtain ⟨p,hp,rfl⟩:=EL.1 (ng.1 hk);rw [DM.Dj st.it.nd (show (p.1,p.2)∈S.items from hp)];rfl
       ·cases hk
      have hLn:L.length<=10000:=by
       rcases hL with rfl|rfl
       ·rw [(cQ _).length_eq,DY];omega
       ·exact FB _
      have Og2:=Og.trans o5;have st2:=st.old o5;have dg:S.d<g.next:=st.dk.lt;have bg:S.D.bb<g.next:=st.dk.blt;have C2:SnC h S.s S.d S.D.bb S.im S.up g2 S:=⟨Og2,st2,rfl,rfl,rfl,rfl,rfl,by rw [sn,dn];omega⟩
      have hd0:h.next<=S.d:=by rw [sd];omega
      have hb0:h.next<=S.D.bb:=by rw [sbb,db];omega
      have hi0:h.next<=S.im:=by omega
      unfold t4;rw [sd] at *;simp -implicitDefEqProofs only [bs.len,nj,DP h1,aH,sff,az,ops.len,BO,DP h2,D3,DJ,e1,e2,e3,gZ,iC,fI,n00,e4,e5,af,aj];refine cp (Q:=fun o:ba => ∃ g,o=some (.bool true,g)) (cj (rA (CV Z)) (sn1Round z T (s:=S.s) (d:=h2'.next+1) (bb:=S.D.bb) (im:=S.im) (up:=S.up) (x2:=x2) (ids:=ids) (nr:=nr) ops (by omega) (L:=L) (M:=S.items) hd0 hb0 (fun b hb=>by have:=hlow b hb;omega)) nr (by have:aK=18446744073709551616:=rfl;omega)
       ⟨0,S,DK _,rfl,rfl,rfl,rfl,rfl,C2,sl,rfl⟩) ?_
      rintro ex y g3 ⟨rfl,y9,y10,S3,C3,sl3,it3⟩;rw [bK,b4_15',t4k4_13_eq];unfold Cm;simp -implicitDefEqProofs only [af];refine cp (Q:=fun o:ba => ∃ g,o=some (.bool true,g)) (cj (qQ (CV Z)) (sn2Round z T (s:=S.s) (d:=h2'.next+1) (bb:=S.D.bb) (im:=S.im) (up:=S.up) (ids:=ids) (L:=L) hw nd hLn hup hi0) L.length (by have:aK=18446744073709551616:=rfl;omega)
       ⟨0,S3,DK _,y9,y10,rfl,C3,sl3,fun k hk=>by rw [it3];exact hin k hk⟩) ?_
      rintro ex y g4 ⟨rfl,O4⟩;rw [bK,b4_18',t4k4_16_eq];unfold B7;simp -implicitDefEqProofs only [known O4,af];exact ⟨g4,rfl⟩
     ·rename_i hz;obtain ⟨e4,_⟩:=P;have hne:((df D.opened D.jn ((cT D).1+1) [] (cT D).2.1 (cT D).2.2).1 != 0)=true:=by rw [HQ];exact hz
      refine ⟨g,?_⟩;unfold t4;simp -implicitDefEqProofs only [bs.len,nj,DP h1,aH,sff,az,ops.len,BO,DP h2,D3,DJ,e1,e2,e3,gZ,iC,fI,n00,e4,hne,known Og,af,aj]
 obtain ⟨g,e⟩:=key;exact ⟨g,cY z is4 rfl ((t4_eq _ _ _ _ _).trans e)⟩
end
end
end Go.Proofs.YtdhpgacmgebjdaaGreatDoor.W
