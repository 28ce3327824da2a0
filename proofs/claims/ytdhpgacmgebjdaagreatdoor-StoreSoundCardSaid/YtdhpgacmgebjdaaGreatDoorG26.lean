/-
  A part of the proof, shortened by a program.
  Conditions: as each theorem states.
-/
import Derived.Test.YtdhpgacmgebjdaaGreatDoorG25
set_option linter.all false
namespace Go.Proofs.YtdhpgacmgebjdaaGreatDoor.W
open Go Go.Abs R
noncomputable section
section
attribute [local congr] aC
def Bm {g:ae} {v:Vl} {t:List (List Nat)} (x:j0 g fK v t.length (t.flatMap bA)) (hw : ∀ d∈t,eE d) {i:Nat} {m:List Nat} (hm:t[i]? = some m) : ∃ b q,idxS 32 v (ak i)=some (ptr b q)/\bZ 32 (ptr b q) g=some (kV m,g):=by have hi:i<t.length:=(D9.1 hm).1;obtain ⟨b,q,kb,hb,a1,_,_,_,a2,_⟩:=x.at hi;have a2:bZ 32 (ptr b (q+i*32)) g=some (.agg (el 32 (t.flatMap bA) i).toArray,g):=a2;rw [DD hw hm] at a2;exact ⟨b,q+i*32,a1,a2⟩
def wV (L:List (List Nat)):L.flatMap bA=bA (L.flatMap id):=by
 induction L with
 |nil=>rfl
 |cons a L ih=>rw [E9,E9,ih];exact (EV ..).symm
def dl_ok (L:List (List Nat)):Abs.noHoles (L.flatMap bA)=true/\aN (L.flatMap bA)=true:=by rw [wV];exact bh _
def dl_len {L:List (List Nat)} (hw : ∀ d∈L,eE d):(L.flatMap bA).length=L.length*32:=by obtain ⟨LW,rfl⟩:=list_w hw;rw [<-na,ku,DY]
def vE.sl {g:ae} {N:Nat} {v:Vl} {L:List (List Nat)} (x:vE g N v L) (hw : ∀ d∈L,eE d):j0 g fK v L.length (L.flatMap bA):=by
 rcases x with ⟨rfl,rfl⟩|⟨hne,b,hb,rfl,hg⟩
 ·exact j0.nil g fK
 ·exact oY (ks:=fK) (N:=N) ⟨dl_len hw,(dl_ok L).1,(dl_ok L).2,.inr ⟨b,some 32,rfl,hb,.inr ⟨rfl,hg⟩⟩⟩ (fq (P:=eE) (fun x hx=>bO hx) _ hw)
def BS.good {h:ae} {v:Vl} {l:List Nat} (x:BS h v l) (hp:0<l.length) : ∃ a c,v = .slice a l.length c/\aq a l.length h=some l/\ct a l.length c=true:=by obtain ⟨a,c,e,s,g⟩:=x.ex;exact ⟨a,c,e,s,g hp⟩
structure dY (g:ae) (N:Nat) (F:Nat->Prop) (v:Vl) (vals:List (List Nat)) (cs:List Vl):Prop where
 own:cF g N 1 v vals.length cs \/ ∃ b,v = .slice (some ⟨b,0,none⟩) vals.length vals.length/\N<=b/\g.get b=some cs/\0<vals.length
 cl:cs.length=vals.length
 at_ : ∀ (i:Nat) (r:List Nat),vals[i]? = some r -> ∃ a n c,cs[i]? = some (Value.slice a n c)/\aq a n g=some r/\ct a n c=true /\ ∀ y,a=some y->0<n -> ¬F y.block
def dY.slices {g:ae} {N:Nat} {F:Nat->Prop} {v:Vl} {vals:List (List Nat)} {cs:List Vl} (R:dY g N F v vals cs) : ∀ v∈cs,∃ a n c,v = .slice a n c:=by
 intro v hv;obtain ⟨i,hi⟩:=HJ.1 hv;have hl:i<vals.length:=by have h1:=(D9.1 hi).1;have h2:=R.cl;omega
 obtain ⟨a,n,c,h1,_⟩:=R.at_ i _ (DL hl);rw [hi] at h1;cases h1;exact ⟨a,n,c,rfl⟩
def dY.plain {g:ae} {N:Nat} {F:Nat->Prop} {v:Vl} {vals:List (List Nat)} {cs:List Vl} (R:dY g N F v vals cs) : ∀ v∈cs,nat8 v=none:=by intro v hv;obtain ⟨a,n,c,rfl⟩:=R.slices v hv;rfl
def dY.base {g:ae} {N:Nat} {F:Nat->Prop} {v:Vl} {vals:List (List Nat)} {cs:List Vl} (R:dY g N F v vals cs) {b:Nat} (hb:bx v=some b):N<=b:=by
 rcases R.own with o|⟨b',rfl,h,_⟩
 ·exact o.base hb
 ·cases hb;exact h
def cF.keepG {h h':ae} {N size:Nat} {v:Vl} {len:Nat} {cells:List Vl} (o:cF h N size v len cells) {B:Nat->Prop} (k:aw h h' B) (hB : ∀ b,bx v=some b->h.get b=some cells -> ¬B b):cF h' N size v len cells:=by
 obtain ⟨h1,h2,h3,h4⟩:=o;refine ⟨h1,h2,h3,?_⟩;rcases h4 with h4|⟨b,s,rfl,h5,h6|⟨h6,h7⟩⟩
 ·exact .inl h4
 ·exact .inr ⟨b,s,rfl,h5,.inl h6⟩
 ·exact .inr ⟨b,s,rfl,h5,.inr ⟨h6,k.getE h7 (hB b rfl h7)⟩⟩
def dY.keep {g g':ae} {N:Nat} {F:Nat->Prop} {v:Vl} {vals:List (List Nat)} {cs:List Vl} (R:dY g N F v vals cs) {B:Nat->Prop} (k:aw g g' B) (h1 : ∀ b,bx v=some b->g.get b=some cs -> ¬B b) (h2 : ∀ b,B b->(∃ o,g.getB b=some (.obj o))\/F b\/g.next<=b \/ ∃ kk,g.get b=some kk /\ ∀ v∈kk,nat8 v=none):dY g' N F v vals cs:=by
 refine ⟨?_,R.cl,fun i r hi => ?_⟩
 ·rcases R.own with o|⟨b,rfl,h3,h4,h5⟩
  ·exact .inl (o.keepG k h1)
  ·exact .inr ⟨b,rfl,h3,k.getE h4 (h1 b rfl h4),h5⟩
 obtain ⟨a,n,c,e1,e2,e3,e4⟩:=R.at_ i r hi;refine ⟨a,n,c,e1,k.bytes e2 fun y hy hn hb => ?_,e3,e4⟩;rcases h2 _ hb with ⟨o,ho⟩|hF|hN|⟨kk,h3,h4⟩
 ·obtain ⟨_,_,hat⟩:=ay e2;obtain ⟨b,off,s,kk,rfl,hk,_⟩:=hat hn;cases hy;have:=g.aO hk;rw [ho] at this;cases this
 ·exact e4 y hy hn hF
 ·subst hy;obtain ⟨b',o',s',e,hlt⟩:=du e2 hn;cases e;have:g.next<=b':=hN;omega
 ·exact de e2 h3 h4 y hy hn rfl
def dY.old {g g':ae} {N:Nat} {F:Nat->Prop} {v:Vl} {vals:List (List Nat)} {cs:List Vl} (R:dY g N F v vals cs) (k:aM g g'):dY g' N F v vals cs:=R.keep k (fun _ _ _ q=>q) (fun _ q=>q.elim)
def dY.weak {g:ae} {N:Nat} {F F':Nat->Prop} {v:Vl} {vals:List (List Nat)} {cs:List Vl} (R:dY g N F v vals cs) (h : ∀ b,b<g.next->F' b->F b):dY g N F' v vals cs:=by refine ⟨R.own,R.cl,fun i r hi => ?_⟩;obtain ⟨a,n,c,e1,e2,e3,e4⟩:=R.at_ i r hi;refine ⟨a,n,c,e1,e2,e3,fun y hy hn hF=>e4 y hy hn (h _ ?_ hF)⟩;obtain ⟨b',o',s',e,hlt⟩:=du e2 hn;rw [hy] at e;cases e;exact hlt
def bslW (a:Option Addr) (n c:Nat) (g:ae):fE 1 (.slice none 0 0) 1 [(0,.slice a n c)] g=some (.slice (some ⟨g.next,0,none⟩) 1 1,g.alloc [.slice a n c]):=rfl
def first1 {g:ae} {b:Nat} {w:Vl} (hg:g.get b=some [w]) (hh:cw w=false):firstA 1 1 (.slice (some ⟨b,0,none⟩) 1 1) g=some [w]:=by unfold firstA;simp [hg,Abs.noHoles,hh]
def BC {cs:List Vl} (h : ∀ v∈cs,∃ a n c,v = .slice a n c):Abs.noHoles cs=true/\aN cs=true:=by
 constructor
 ·unfold Abs.noHoles;rw [DX];intro v hv;obtain ⟨a,n,c,rfl⟩:=h v hv;rfl
 ·unfold aN;rw [DX];intro v hv;obtain ⟨a,n,c,rfl⟩:=h v hv;rfl
def app_lit {g:ae} {b n:Nat} {cs:List Vl} {x w:Vl} (hg:g.get b=some cs) (hn:cs.length=n) (hp:0<n) (hs : ∀ v∈cs,∃ a n c,v = .slice a n c) (hx:ot x=some 1) (hf:firstA 1 1 x g=some [w]) (hw:w.oneCell'=true) (hl:n<=100000) :
  appendA 1 24 (.slice (some ⟨b,0,none⟩) n n) x g=some (.slice (some ⟨g.next,0,some 1⟩) (n+1) (n+1),g.alloc (cs ++ [w])):=by
 have hf2:firstA 1 n (.slice (some ⟨b,0,none⟩) n n) g=some cs:=by
  unfold firstA;have h0 : ¬n=0:=by omega
  simp [hg,(BC hs).1,h0,<-hn]
 unfold appendA;simp only [hx,hf];rw [DU (by simp [aN,hw];omega),DU (by omega)];simp only [hf2];rw [DU (by simp [hn])]
def dY.push {g:ae} {N:Nat} {F:Nat->Prop} {v w:Vl} {vals:List (List Nat)} {cs:List Vl} {r:List Nat} (R:dY g N F v vals cs) (h0:g.n0<=N) (hN:N<=g.next) (bs:BS g w r) (hr:0<r.length) (hF : ∀ a n c,w = .slice (some a) n c -> ¬F a.block) (hl:vals.length<=99999) :
  ∃ v1 g1 v' g' cs',fE 1 (.slice none 0 0) 1 [(0,w)] g=some (v1,g1)/\appendA 1 24 v v1 g1=some (v',g')/\dY g' N F v' (vals ++ [r]) cs'/\aM g g1/\aw g1 g' (fun c=>bx v=some c/\g1.get c=some cs)/\(v'=v\/bx v'=some g1.next)/\g.next<=g1.next:=by
 obtain ⟨a,c,rfl,sb,gs⟩:=bs.good hr;have o1:aM g (g.alloc [.slice a r.length c]):=aw.alloc _ _ _;have q1:(g.alloc [.slice a r.length c]).get g.next=some [.slice a r.length c]:=by rw [ae.aX,DR rfl]
 have e1:=bslW a r.length c g;have nx:(g.alloc [.slice a r.length c]).next=g.next+1:=rfl;generalize g.alloc [.slice a r.length c]=g1 at *;have R1:=R.old o1;obtain ⟨v',g',e2,O2,k2,hv⟩ : ∃ v' g',appendA 1 24 v (.slice (some ⟨g.next,0,none⟩) 1 1) g1=some (v',g')/\cF g' N 1 v' (vals.length+1) (cs ++ [.slice a r.length c])/\aw g1 g' (fun c=>bx v=some c/\g1.get c=some cs)/\(v'=v\/bx v'=some g1.next):=by
  rcases R1.own with o|⟨b,rfl,h3,h4,h5⟩
  ·exact ic (qX:=24) o (by rw [o1.n0];exact h0) (by omega) (by decide) (show ot (.slice (some ⟨g.next,0,none⟩) 1 1)=some 1 from rfl) (first1 q1 rfl) rfl rfl rfl (by omega) (by omega)
  ·have so:=BC R.slices;refine ⟨_,_,app_lit h4 R.cl h5 R.slices rfl (first1 q1 rfl) rfl (by omega),⟨by rw [DW,R.cl];simp,iX _ _ so.1 rfl,by unfold aN at *;rw [GS,so.2];rfl,.inr ⟨g1.next,some 1,rfl,by omega,.inr ⟨rfl,by rw [ae.aX,DR rfl]⟩⟩⟩,(aw.alloc _ _ _:aM g1 _).mono (fun _ _ q=>q.elim),.inr rfl⟩
 have O2':cF g' N 1 v' (vals ++ [r]).length (cs ++ [.slice a r.length c]):=by rw [DW];exact O2
 have R2 : ∀ (i:Nat) (q:List Nat),vals[i]? = some q -> ∃ a' n' c',cs[i]? = some (Value.slice a' n' c')/\aq a' n' g'=some q/\ct a' n' c'=true /\ ∀ y,a'=some y->0<n' -> ¬F y.block:=fun i q hi=>by obtain ⟨a',n',c',f1,f2,f3,f4⟩:=R1.at_ i q hi;exact ⟨a',n',c',f1,k2.bytes f2 (fun y hy hn hb=>de f2 hb.2 R1.plain y hy hn rfl),f3,f4⟩
 have hcs:=R.cl;refine ⟨_,g1,v',g',cs ++ [.slice a r.length c],e1,e2,⟨.inl O2',by rw [DW,DW,hcs];rfl,fun i q hi => ?_⟩,o1,k2,hv,o1.next⟩;by_cases hlt:i<vals.length
 ·rw [EX hlt] at hi;obtain ⟨a',n',c',f1,f2⟩:=R2 i q hi;exact ⟨a',n',c',by rw [EX (by omega)];exact f1,f2⟩
 ·rw [EI (by omega)] at hi;have hz:i-vals.length=0:=by have:=(D9.1 hi).1;simp only [List.length_cons,List.length_nil] at this;omega
  rw [hz] at hi;cases hi;refine ⟨a,r.length,c,by rw [EI (by omega),hcs,hz];rfl,k2.bytes (aM.bytes o1 sb) (fun y hy hn hb=>de (aM.bytes o1 sb) hb.2 R1.plain y hy hn rfl),gs,fun y hy hn => ?_⟩;subst hy;exact hF _ _ _ rfl
def dY.g {g:ae} {N:Nat} {F:Nat->Prop} {v:Vl} {vals:List (List Nat)} {cs:List Vl} (R:dY g N F v vals cs) (hF : ∀ b,N<=b->bx v=some b -> ¬F b):ma g F v vals:=by
 rcases R.own with ⟨h1,h2,h3,h4⟩|⟨b,rfl,h5,h7,h6⟩
 ·rcases h4 with ⟨rfl,h4⟩|⟨b,s,rfl,h5,⟨_,h6⟩|⟨h6,h7⟩⟩
  ·exact ⟨none,0,by rw [h4],fun i r hi=>by rw [EE.1 h4] at hi;cases hi⟩
  ·exact ⟨_,_,rfl,fun i r hi=>by rw [EE.1 h6] at hi;cases hi⟩
  ·refine ⟨_,_,rfl,fun i r hi => ?_⟩;obtain ⟨a,n,c,e1,e2,e3,e4⟩:=R.at_ i r hi;exact ⟨b,0,s,cs,a,n,c,rfl,h7,hF b h5 rfl,by rw [DK];exact e1,e2,e3,e4⟩
 ·refine ⟨_,_,rfl,fun i r hi => ?_⟩;obtain ⟨a,n,c,e1,e2,e3,e4⟩:=R.at_ i r hi;exact ⟨b,0,none,cs,a,n,c,rfl,h7,hF b h5 rfl,by rw [DK];exact e1,e2,e3,e4⟩
def ids_push {g:ae} {N:Nat} {v:Vl} {ids:List (List Nat)} {d:List Nat} (o:cF g N 32 v ids.length (ids.flatMap bA)) (w:eE d) (h0:g.n0<=N) (hN:N<=g.next) (hl:ids.length<=100000) :
  ∃ v1 g1 v' g',fE 32 (.agg (List.replicate 32 (.int .u8 0)).toArray) 1 [(0,kV d)] g=some (v1,g1)/\appendA 32 32 v v1 g1=some (v',g')/\cF g' N 32 v' (ids ++ [d]).length ((ids ++ [d]).flatMap bA)/\aM g g1/\aw g1 g' (fun c=>bx v=some c/\g1.get c=some (ids.flatMap bA))/\(v'=v\/bx v'=some g1.next)/\g.next<=g1.next:=by
 have hbs:=Dx (n:=32) (z:=List.replicate 32 (.int .u8 0)) g rfl rfl (by decide) (by decide) (bf w) (bh d).2;have oa:aM g (g.alloc (bA d)):=aw.alloc _ _ _;have ga:(g.alloc (bA d)).get g.next=some (bA d):=by rw [ae.aX,DR rfl]
 generalize g.alloc (bA d)=g1 at *;have S:=slice1 (s:=none) ga (bO w);obtain ⟨v',g',e3,O3,k3,hv⟩:=ic (qX:=32) (o.keep oa (fun _ _ q=>q)) (by rw [oa.n0];exact h0) (ED hN oa.next) (by decide) S.slice (S.first (by decide)) (bh d).2 (bh d).1 (by rw [bf w]) (by omega) (by omega);refine ⟨_,g1,v',g',hbs,e3,?_,oa,k3,hv,oa.next⟩;rw [GP,DW];simpa using O3
end
end
end Go.Proofs.YtdhpgacmgebjdaaGreatDoor.W
namespace Go.Proofs.YtdhpgacmgebjdaaGreatDoor.W
open Go Go.Abs Tryz
noncomputable section
section
variable (C:ah) (x:Nat->Vl) (x0 x1 x2 x3 x4 x5:Vl) (h:ae)
def k59_2 (C:ah) (e:aQ) (h:ae):ba:=codeK prog C (al f59 [1,1,1]) e h (resultsA prog f59.results.toList) (resultsA prog f59.results.toList) (fun _ _ _=>none)
def b59_4 (C:ah) (i:Nat) (e:aQ) (h:ae):ba:=if i=0 then (k59_2 C) e h else (fun _ _ _=>none) i e h
def k59_6 (C:ah) (e:aQ) (h:ae):ba:=codeK prog C (al f59 [1,1,1,1,1]) e h (resultsA prog f59.results.toList) (resultsA prog f59.results.toList) (fun _ _ _=>none)
def b59_8 (C:ah) (i:Nat) (e:aQ) (h:ae):ba:=if i=2 then (k59_6 C) e h else (fun _ _ _=>none) i e h
def k59_18 (C:ah) (e:aQ) (h:ae):ba:=codeK prog C (al f59 [1,1,1,1,1,1,1,1]) e h (resultsA prog f59.results.toList) (resultsA prog f59.results.toList) (fun _ _ _=>none)
def b59_20 (C:ah) (i:Nat) (e:aQ) (h:ae):ba:=if i=4 then (k59_18 C) e h else (fun _ _ _=>none) i e h
def t59 (C:ah) (x0 x1 x2:Vl) (h:ae):ba:=
 aa (some ((.int .i64 0),h)) fun o h=>
 aa (some (x1,h)) fun a h=>
 aa (pu (nilCheckA a) h) fun b h=>
 aa (pu (aL b 0) h) fun c h=>
 aa (ld1 c h) fun d h=>
 aa (C 74 [d] h) fun f h=>
 aa (fE 1 (.slice none 0 0) 1 [(0,f)] h) fun g h=>
 aa (some (g,h)) fun p h=>
 aa (some (x1,h)) fun j h=>
 aa (pu (nilCheckA j) h) fun k h=>
 aa (pu (aL k 2) h) fun l h=>
 aa (ld1 l h) fun m h=>
 aa (C 80 [m] h) fun n h=>
 aa (pu (cI n) h) fun q h=>
 aa (some ((.int .i64 0),h)) fun r h=>
 fb (iter (codeA prog C (al f59 [1,1,0,1,0,0])) aK (aT 135 (up (bs [x0,x1,x2]) [(6,o),(7,p),(24,a),(25,b),(26,c),(27,d),(28,f),(29,g),(30,j),(31,k),(32,l),(33,m),(34,n),(35,q),(36,r)])) h) (resultsA prog f59.results.toList) (b59_4 C)
def yv (C:ah) (x:Nat->Vl) (h:ae):ba:=
 aa (some ((.slice none 0 0),h)) fun g h=>
 aa (some ((x 1),h)) fun a h=>
 aa (pu (nilCheckA a) h) fun b h=>
 aa (pu (aL b 1) h) fun c h=>
 aa (ld1 c h) fun d h=>
 aa (C 64 [d] h) fun f h=>
 aa (pu (cI f) h) fun j h=>
 aa (some ((.int .i64 0),h)) fun k h=>
 fb (iter (codeA prog C (al f59 [1,1,1,1,0,1,0,0])) aK (aT 135 (up x [(10,g),(46,a),(47,b),(48,c),(49,d),(50,f),(51,j),(52,k)])) h) (resultsA prog f59.results.toList) (b59_8 C)
def kh (C:ah) (x:Nat->Vl) (h:ae):Option (Ex×aQ×ae):=
 aa (pu (aE prog .lss 3 (x 36) (x 35)) h) fun a h=>
 (match a with
 | .bool true=>
 aa (pu (idxS 32 (x 34) (x 36)) h) fun c h=>
 aa (bZ 32 c h) fun d h=>
 aa (dj (List.replicate 32 (.int .u8 0)) h) fun b h=>
 aa (bX 32 b d h) fun _ h=>
 aa (some ((x 7),h)) fun f h=>
 aa (bZ 32 b h) fun g h=>
 aa (C 76 [(.int .u8 4),g] h) fun j h=>
 aa (fE 1 (.slice none 0 0) 1 [(0,j)] h) fun k h=>
 aa (appendA 1 24 f k h) fun l h=>
 aa (some (l,h)) fun n h=>
 aa (pu (aE prog .add 3 (x 36) (.int .i64 1)) h) fun m h=>
 aa (some (m,h)) fun o h=>
 some (.normal,(aT 135 (up x [(7,n),(9,b),(36,o),(37,a),(38,c),(39,d),(40,f),(41,g),(42,j),(43,k),(44,l),(45,m)])),h)
 | .bool false=>
 some (.exit 0,(aT 135 (up x [(37,a)])),h)
 |_=>none)
def za (C:ah) (x:Nat->Vl) (h:ae):ba:=
 aa (some ((x 0),h)) fun c h=>
 aa (pu (nilCheckA c) h) fun d h=>
 aa (pu (aL d 0) h) fun f h=>
 aa (ld1 f h) fun g h=>
 aa (some ((x 7),h)) fun j h=>
 aa (C 114 [g,j] h) fun k h=>
 aa (some (k,h)) fun a h=>
 aa (pu (extractA a 0) h) fun l h=>
 aa (pu (extractA a 1) h) fun m h=>
 aa (some (l,h)) fun q h=>
 aa (some (m,h)) fun b h=>
 aa (some (b,h)) fun n h=>
 aa (pu (aE prog .neq 25 n (.int .i64 0)) h) fun o h=>
 (match o with
 | .bool true=>
 aa (some (b,h)) fun r h=>
 aa (some (r,h)) fun s h=>
 some (s,h)
 | .bool false=>
 aa (some ((x 10),h)) fun p h=>
 aa (pu (cI p) h) fun t h=>
 aa (some ((.int .i64 0),h)) fun u h=>
 fb (iter (codeA prog C (al f59 [1,1,1,1,1,1,1,0,1,0,0])) aK (aT 135 (up x [(19,q),(20,b),(92,a),(93,c),(94,d),(95,f),(96,g),(97,j),(98,k),(99,l),(100,m),(101,n),(102,o),(104,p),(105,t),(106,u)])) h) (resultsA prog f59.results.toList) (b59_20 C)
 |_=>none)
def iI (C:ah) (x:Nat->Vl) (h:ae):Option (Ex×aQ×ae):=
 aa (pu (aE prog .lss 3 (x 52) (x 51)) h) fun g h=>
 (match g with
 | .bool true=>
 aa (pu (idxS 32 (x 50) (x 52)) h) fun r h=>
 aa (bZ 32 r h) fun s h=>
 aa (dj (List.replicate 32 (.int .u8 0)) h) fun a h=>
 aa (bX 32 a s h) fun _ h=>
 aa (some ((x 2),h)) fun t h=>
 aa (some (t,h)) fun F h=>
 aa (some ((x 1),h)) fun u h=>
 aa (pu (nilCheckA u) h) fun v h=>
 aa (pu (aL v 1) h) fun w h=>
 aa (ld1 w h) fun y h=>
 aa (bZ 32 a h) fun z h=>
 aa (lookupA prog 123 y z false h) fun A h=>
 aa (dj [(.int .i64 0),(.int .i64 0),(.int .i64 0)] h) fun d h=>
 aa (bX 3 d A h) fun _ h=>
 aa (pu (aL d 0) h) fun B h=>
 aa (ld1 B h) fun D h=>
 aa (pu (aE prog .geq 3 D (.int .i64 0)) h) fun E h=>
 (match E with
 | .bool true=>
 aa (some ((x 0),h)) fun G h=>
 aa (bZ 32 a h) fun H h=>
 aa (bZ 3 d h) fun I h=>
 aa (C 65 [G,H,I] h) fun J h=>
 aa (some (J,h)) fun f h=>
 aa (pu (extractA f 0) h) fun K h=>
 aa (pu (extractA f 1) h) fun L h=>
 aa (pu (extractA f 2) h) fun M h=>
 aa (pu (extractA f 3) h) fun N h=>
 aa (dj fy h) fun O h=>
 aa (dj [(.int .i64 0),(.slice none 0 0)] h) fun P h=>
 aa (bX 37 O K h) fun _ h=>
 aa (bX 2 P L h) fun _ h=>
 aa (some (M,h)) fun Q h=>
 aa (some (N,h)) fun R h=>
 aa (some (R,h)) fun S h=>
 aa (pu (unA .not S) h) fun T h=>
 (match T with
 | .bool true=>
 aa (some ((x 1),h)) fun W h=>
 aa (pu (nilCheckA W) h) fun X h=>
 aa (pu (aL X 1) h) fun Y h=>
 aa (ld1 Y h) fun Z h=>
 aa (bZ 32 a h) fun a0 h=>
 aa (deleteA prog 123 Z a0 h) fun _ h=>
 aa (pu (aE prog .add 3 (x 52) (.int .i64 1)) h) fun b h=>
 aa (some (b,h)) fun j h=>
 some (.normal,(aT 135 (up x [(12,a),(13,F),(14,d),(15,O),(16,P),(17,Q),(18,R),(52,j),(53,g),(54,r),(55,s),(56,t),(57,u),(58,v),(59,w),(60,y),(61,z),(62,A),(63,B),(64,D),(65,E),(66,f),(67,G),(68,H),(69,I),(70,J),(71,K),(72,L),(73,M),(74,N),(75,S),(76,T),(77,W),(78,X),(79,Y),(80,Z),(81,a0),(91,b)])),h)
 | .bool false=>
 aa (some (Q,h)) fun a1 h=>
 aa (some (a1,h)) fun a2 h=>
 let g34_0:=h
 aa (some ((x 7),g34_0)) fun k g34_1=>
 aa (some (a2,g34_1)) fun l g34_2=>
 aa (some ((x 10),g34_2)) fun m g34_3=>
 aa (bZ 32 a g34_3) fun c g34_4=>
 aa (fE 1 (.slice none 0 0) 1 [(0,l)] g34_4) fun n g34_5=>
 aa (appendA 1 24 k n g34_5) fun o g34_6=>
 aa (fE 32 (.agg (List.replicate 32 (.int .u8 0)).toArray) 1 [(0,c)] g34_6) fun p g34_7=>
 aa (appendA 32 32 m p g34_7) fun q g34_8=>
 aa (some (o,g34_8)) fun U g34_9=>
 aa (some (q,g34_9)) fun V g34_10=>
 (match (fP true (bZ 32 a g34_6) c&&true) with
 |true=>
 let h:=g34_10
 aa (pu (aE prog .add 3 (x 52) (.int .i64 1)) h) fun b h=>
 aa (some (b,h)) fun j h=>
 some (.normal,(aT 135 (up x [(7,U),(10,V),(12,a),(13,a2),(14,d),(15,O),(16,P),(17,Q),(18,R),(52,j),(53,g),(54,r),(55,s),(56,t),(57,u),(58,v),(59,w),(60,y),(61,z),(62,A),(63,B),(64,D),(65,E),(66,f),(67,G),(68,H),(69,I),(70,J),(71,K),(72,L),(73,M),(74,N),(75,S),(76,T),(82,a1),(83,k),(84,l),(85,n),(86,o),(87,m),(88,c),(89,p),(90,q),(91,b)])),h)
 |false=>none)
 |_=>none)
 | .bool false=>
 let g35_0:=h
 aa (some ((x 7),g35_0)) fun k g35_1=>
 aa (some (F,g35_1)) fun l g35_2=>
 aa (some ((x 10),g35_2)) fun m g35_3=>
 aa (bZ 32 a g35_3) fun c g35_4=>
 aa (fE 1 (.slice none 0 0) 1 [(0,l)] g35_4) fun n g35_5=>
 aa (appendA 1 24 k n g35_5) fun o g35_6=>
 aa (fE 32 (.agg (List.replicate 32 (.int .u8 0)).toArray) 1 [(0,c)] g35_6) fun p g35_7=>
 aa (appendA 32 32 m p g35_7) fun q g35_8=>
 aa (some (o,g35_8)) fun U g35_9=>
 aa (some (q,g35_9)) fun V g35_10=>
 (match (fP true (bZ 32 a g35_6) c&&true) with
 |true=>
 let h:=g35_10
 aa (pu (aE prog .add 3 (x 52) (.int .i64 1)) h) fun b h=>
 aa (some (b,h)) fun j h=>
 some (.normal,(aT 135 (up x [(7,U),(10,V),(12,a),(13,F),(14,d),(52,j),(53,g),(54,r),(55,s),(56,t),(57,u),(58,v),(59,w),(60,y),(61,z),(62,A),(63,B),(64,D),(65,E),(83,k),(84,l),(85,n),(86,o),(87,m),(88,c),(89,p),(90,q),(91,b)])),h)
 |false=>none)
 |_=>none)
 | .bool false=>
 some (.exit 2,(aT 135 (up x [(53,g)])),h)
 |_=>none)
def uJ (C:ah) (x:Nat->Vl) (h:ae):ba:=
 aa (some ((.int .i64 0),h)) fun a h=>
 some (a,h)
def fG (C:ah) (x:Nat->Vl) (h:ae):Option (Ex×aQ×ae):=
 aa (pu (aE prog .lss 3 (x 106) (x 105)) h) fun c h=>
 (match c with
 | .bool true=>
 aa (some ((x 106),h)) fun d h=>
 aa (pu (idxS 32 (x 104) (x 106)) h) fun f h=>
 aa (bZ 32 f h) fun g h=>
 aa (dj (List.replicate 32 (.int .u8 0)) h) fun a h=>
 aa (some (d,h)) fun j h=>
 aa (bX 32 a g h) fun _ h=>
 aa (some ((x 1),h)) fun k h=>
 aa (pu (nilCheckA k) h) fun l h=>
 aa (pu (aL l 1) h) fun m h=>
 aa (ld1 m h) fun n h=>
 aa (bZ 32 a h) fun o h=>
 aa (lookupA prog 123 n o false h) fun p h=>
 aa (dj [(.int .i64 0),(.int .i64 0),(.int .i64 0)] h) fun b h=>
 aa (bX 3 b p h) fun _ h=>
 aa (some ((x 19),h)) fun q h=>
 aa (some ((x 19),h)) fun r h=>
 aa (pu (cI r) h) fun s h=>
 aa (some ((x 10),h)) fun t h=>
 aa (pu (cI t) h) fun u h=>
 aa (pu (aE prog .sub 3 s u) h) fun v h=>
 aa (some (j,h)) fun w h=>
 aa (pu (aE prog .add 3 v w) h) fun y h=>
 aa (pu (idxS 1 q y) h) fun z h=>
 aa (ld1 z h) fun A h=>
 aa (pu (aL b 0) h) fun B h=>
 aa (bX 1 B A h) fun _ h=>
 aa (some ((x 1),h)) fun D h=>
 aa (pu (nilCheckA D) h) fun E h=>
 aa (pu (aL E 1) h) fun F h=>
 aa (ld1 F h) fun G h=>
 aa (bZ 32 a h) fun H h=>
 aa (bZ 3 b h) fun I h=>
 aa (mapUpdateA prog 123 G H I h) fun _ h=>
 aa (pu (aE prog .add 3 (x 106) (.int .i64 1)) h) fun J h=>
 aa (some (J,h)) fun K h=>
 some (.normal,(aT 135 (up x [(21,j),(22,a),(23,b),(106,K),(107,c),(108,d),(109,f),(110,g),(111,k),(112,l),(113,m),(114,n),(115,o),(116,p),(117,q),(118,r),(119,s),(120,t),(121,u),(122,v),(123,w),(124,y),(125,z),(126,A),(127,B),(128,D),(129,E),(130,F),(131,G),(132,H),(133,I),(134,J)])),h)
 | .bool false=>
 some (.exit 4,(aT 135 (up x [(107,c)])),h)
 |_=>none)
def t59_eq:aY prog C f59 [x0,x1,x2] h=t59 C x0 x1 x2 h:=
 lkT (by kernel_rfl) (by kernel_rfl)
def t59k59_2_eq:k59_2 C (aT 135 x) h=yv C x h:=
 bI (T:=yv C) (fun x h=>by kernel_rfl) x h
def vJ:codeA prog C (al f59 [1,1,0,1,0,0]) (aT 135 x) h=kh C x h:=
 aF (T:=kh C) (fun x h=>by kernel_rfl) x h
def t59k59_6_eq:k59_6 C (aT 135 x) h=za C x h:=
 bI (T:=za C) (fun x h=>by kernel_rfl) x h
def td:codeA prog C (al f59 [1,1,1,1,0,1,0,0]) (aT 135 x) h=iI C x h:=
 aF (T:=iI C) (fun x h=>by kernel_rfl) x h
def CF:k59_18 C (aT 135 x) h=uJ C x h:=
 bI (T:=uJ C) (fun x h=>by kernel_rfl) x h
def pR:codeA prog C (al f59 [1,1,1,1,1,1,1,0,1,0,0]) (aT 135 x) h=fG C x h:=
 aF (T:=fG C) (fun x h=>by kernel_rfl) x h
end
end
end Go.Proofs.YtdhpgacmgebjdaaGreatDoor.W
namespace Go.Proofs.YtdhpgacmgebjdaaGreatDoor.W
open Go Go.Abs R
noncomputable section
section
attribute [local congr] aC
structure W1 (h0:ae) (F:Nat->Prop) (L:List (List Nat)) (v34 a0 a1 a2:Vl) (inc:Nat) (i:Nat) (y:Nat->Vl) (g:ae) (cs:List Vl):Prop where
 y0:y 0=a0
 y1:y 1=a1
 y2:y 2=a2
 y34:y 34=v34
 y35:y 35=ak L.length
 y36:y 36=ak i
 O:aM h0 g
 sl:j0 g fK v34 L.length (L.flatMap bA)
 R:dY g h0.next F (y 7) (oS inc::(L.take i).map (CO 4)) cs
 sep : ∀ b,AV v34=some b->bx (y 7)≠some b
def w1Inv (h0:ae) (F:Nat->Prop) (L:List (List Nat)) (v34 a0 a1 a2:Vl) (inc:Nat) (k:Nat) (y:Nat->Vl) (g:ae):Prop := ∃ i cs,i+k=L.length/\W1 h0 F L v34 a0 a1 a2 inc i y g cs
def w1Fin (h0:ae) (F:Nat->Prop) (L:List (List Nat)) (a0 a1 a2:Vl) (inc:Nat) (ex:Ex) (y:Nat->Vl) (g:ae):Prop:=
 ex = .exit 0/\y 0=a0/\y 1=a1/\y 2=a2/\aM h0 g /\ ∃ cs,dY g h0.next F (y 7) (oS inc::L.map (CO 4)) cs
def recI_pos (k:Nat) (d:List Nat):0<(CO k d).length:=Nat.succ_pos _
def w1Round {Z:ah} (z:zF Z) {h0:ae} (hG:3<=h0.n0) {F:Nat->Prop} (hF : ∀ c,F c->c<h0.next) {L:List (List Nat)} (hw : ∀ d∈L,eE d) (hL:L.length<=10000) {v34 a0 a1 a2:Vl} {inc:Nat} :
  ∀ k y g,w1Inv h0 F L v34 a0 a1 a2 inc k y g->dE 135 (w1Inv h0 F L v34 a0 a1 a2 inc) (w1Fin h0 F L a0 a1 a2 inc) k (kh (CV Z) y g):=by
 rintro k y g ⟨i,cs,hik,I⟩;unfold kh;by_cases hi:i<L.length
 ·obtain ⟨m,hm⟩ : ∃ m,L[i]? = some m:=⟨L[i],DL hi⟩
  have wm:=hw m (EC hm);obtain ⟨b,q,e1,e2⟩:=Bm I.sl hw hm;obtain ⟨g1,z1,o1,q1,n1⟩:=fresh (List.replicate 32 (.int .u8 0)) g;obtain ⟨g2,t2,k2,q2,_,n2⟩:=aR (n:=32) (k':=bA m) q1 (by rw [o1.n0];exact g.n0_le_next) rfl (bf wm) (bh m).2;have o2:aM g g2:=aM.bu o1 k2 (DO _);have l2:bZ 32 (ptr g.next 0) g2=some (kV m,g2):=aV q2 (bf wm) (bh _).1;have hG2:3<=g2.n0:=by rw [o2.n0,I.O.n0];exact hG
  obtain ⟨w,g3,e3,o3,ns⟩:=r76 g2 (k:=4) (by decide) wm;have e3:CV Z 76 [.int .u8 4,kV m] g2=some (w,g3):=jP z hG2 (by rfl) e3;have O3:=(I.O.trans o2).trans o3;have hvl:(oS inc::(L.take i).map (CO 4)).length=i+1:=by simp;omega
  obtain ⟨v1,g4,v',g5,cs',e4,e5,R5,o4,k5,hv,nx⟩:=dY.push (r:=CO 4 m) ((I.R.old o2).old o3) (by rw [O3.n0];exact h0.n0_le_next) O3.next ns.bs (recI_pos _ _) (fun a n c q hq=>by have h1:=ns.new a n c q;have h2:=hF _ hq;have h3:=(I.O.trans o2).next;omega) (by rw [hvl];omega)
  have O4:=O3.trans o4;have S5:j0 g5 fK v34 L.length (L.flatMap bA):=((((I.sl.old o2).old o3).old o4)).keep k5 (fun b hb q=>I.sep b hb q.1);have lt34 : ∀ b,AV v34=some b->b<g.next:=fun b hb=>I.sl.lt hb;simp -implicitDefEqProofs only [I.y36,I.y35,fF,DS hi,I.y34,e1,e2,z1,t2,l2,e3,e4,e5,ei (show i+1<=9223372036854775807 by omega),af,aj];refine dE.next (k-1) (by omega) ⟨i+1,cs',by omega,I.y0,I.y1,I.y2,I.y34,I.y35,rfl,O4.also k5 (fun c hc q => ?_),S5,?_,fun b hb q => ?_⟩
  ·have:=I.R.base q.1;omega
  ·have e:(L.take (i+1))=L.take i ++ [m]:=by rw [HA,hm];rfl
   rw [e,EV];exact R5
  ·have q:bx v'=some b:=q;rcases hv with rfl|hv
   ·exact I.sep b hb q
   ·rw [hv] at q;cases q;have:=lt34 _ hb;have:=(o2.trans o3).next;have:=o4.next;omega
 ·have hiL:i=L.length:=by omega
  simp -implicitDefEqProofs only [I.y36,I.y35,fF,DP hi,af,aj];refine dE.out 0 ⟨rfl,I.y0,I.y1,I.y2,I.O,cs,?_⟩;have:=I.R;rw [hiL,GG] at this;exact this
end
section
attribute [local congr] aC
def nt {cs:List Vl} {l:List Nat} (h : ∀ v∈cs,∃ a n c,v = .slice a n c) (hp:0<cs.length):l.map u8≠cs:=by
 intro e;cases cs with
 |nil=>exact absurd hp (GH 0)
 |cons v cs=>
  obtain ⟨a,n,c,rfl⟩:=h v EM;cases l with
  |nil=>simp at e
  |cons x l=>simp [u8] at e
def app2 {g:ae} {N:Nat} {F:Nat->Prop} {v7 v10 w:Vl} {vals ids:List (List Nat)} {cs:List Vl} {r m:List Nat} {bl:Nat} (R:dY g N (fun c=>F c\/bx v10=some c) v7 vals cs) (o:cF g N 32 v10 ids.length (ids.flatMap bA)) (hv:0<vals.length) (h0:g.n0<=N) (hN:N<=g.next)
  (bs:BS g w r) (hr:0<r.length) (hw : ∀ a n c,w = .slice (some a) n c -> ¬F a.block/\bx v10≠some a.block) (wm:eE m) (loc:g.get bl=some (bA m)) (n10:bx v10≠some bl) (hl:vals.length<=99999) (hl2:ids.length<=99999) :
  ∃ v1 g1 v7' g2 v2 g3 v10' g4 cs',fE 1 (.slice none 0 0) 1 [(0,w)] g=some (v1,g1)/\appendA 1 24 v7 v1 g1=some (v7',g2)/\fE 32 (.agg (List.replicate 32 (.int .u8 0)).toArray) 1 [(0,kV m)] g2=some (v2,g3)/\appendA 32 32 v10 v2 g3=some (v10',g4) /\
    bZ 32 (ptr bl 0) g2=some (kV m,g2)/\dY g4 N (fun c=>F c\/bx v10'=some c) v7' (vals ++ [r]) cs'/\cF g4 N 32 v10' (ids ++ [m]).length ((ids ++ [m]).flatMap bA)/\aw g g4 (fun c=>(bx v7=some c/\g.get c=some cs)\/(bx v10=some c/\g.get c=some (ids.flatMap bA))) /\
    (∀ b,b<g.next->bx v7≠some b->bx v7'≠some b)/\(∀ b,b<g.next->bx v10≠some b->bx v10'≠some b)/\((∀ b,bx v10=some b->b<g.next) -> ∀ b,bx v10'=some b->b<g4.next):=by
 have hcs:0<cs.length:=by have:=R.cl;omega
 obtain ⟨v1,g1,v7',g2,cs',e1,e2,R2,o1,k2,hv7,nx1⟩:=R.push h0 hN bs hr (fun a n c q hq=>by
  obtain ⟨h1,h2⟩:=hw a n c q;rcases hq with hq|hq
  ·exact h1 hq
  ·exact h2 hq) hl
 have hne:ids.flatMap bA≠cs:=by rw [wV];exact nt R.slices hcs
 have hne' : ∀ q:List Nat,bA q≠cs:=fun q=>nt R.slices hcs;have K2:aw g g2 (fun c=>bx v7=some c/\g.get c=some cs):=by have kk:=(o1.mono (fun _ _ q=>q.elim):aw g g1 (fun c=>bx v7=some c/\g1.get c=some cs)).trans k2;refine ⟨kk.n0,kk.next,fun c hc hn=>kk.getB c hc fun q=>hn ⟨q.1,?_⟩⟩;have h1:=o1.getB c hc (fun q=>q);rw [g1.aO q.2] at h1;exact g.get_of_getB h1.symm
 have o2:cF g2 N 32 v10 ids.length (ids.flatMap bA):=o.keepG K2 (fun b hb hg q=>by rw [hg] at q;exact hne (by injection q.2))
 have loc2:g2.get bl=some (bA m):=K2.getE loc (fun q=>by rw [loc] at q;exact hne' m (by injection q.2))
 obtain ⟨v2,g3,v10',g4,e3,e4,o4,oo3,k4,hv10,nx3⟩:=ids_push o2 wm (by rw [K2.n0];exact h0) (ED hN K2.next) (by omega);have R3:=R2.old oo3;have hcs':0<cs'.length:=by have:=R2.cl;rw [DW] at this;omega
 have hne2:ids.flatMap bA≠cs':=by rw [wV];exact nt R2.slices hcs'
 have R3':dY g3 N (fun c=>F c\/bx v10=some c\/bx v10'=some c) v7' (vals ++ [r]) cs':=R3.weak (fun b hb q=>by
  rcases q with q|q|q
  ·exact .inl q
  ·exact .inr q
  ·rcases hv10 with rfl|hv10
   ·exact .inr q
   ·rw [hv10] at q;cases q;exact absurd hb (GH _))
 have R4:=R3'.keep k4 (fun b hb hg q=>by rw [hg] at q;exact hne2 (by injection q.2.symm)) (fun b q => .inr (.inl (.inr (.inl q.1))))
 have K4:aw g2 g4 (fun c=>bx v10=some c/\g2.get c=some (ids.flatMap bA)):=by have kk:=(oo3.mono (fun _ _ q=>q.elim):aw g2 g3 (fun c=>bx v10=some c/\g3.get c=some (ids.flatMap bA))).trans k4;refine ⟨kk.n0,kk.next,fun c hc hn=>kk.getB c hc fun q=>hn ⟨q.1,?_⟩⟩;have h1:=oo3.getB c hc (fun q=>q);rw [g3.aO q.2] at h1;exact g2.get_of_getB h1.symm
 refine ⟨v1,g1,v7',g2,v2,g3,v10',g4,cs',e1,e2,e3,e4,aV loc2 (bf wm) (bh _).1,R4.weak (fun b _ q => ?_),o4,?_,fun b hb hn => ?_,fun b hb hn => ?_,fun hb10 b hb => ?_⟩
 ·rcases q with q|q
  ·exact .inl q
  ·exact .inr (.inr q)
 ·have kk:=(K2.mono (fun c _ q => .inl q):aw g g2 (fun c=>(bx v7=some c/\g.get c=some cs)\/(bx v10=some c/\g2.get c=some (ids.flatMap bA)))).trans (K4.mono (fun c _ q => .inr q));refine ⟨kk.n0,kk.next,fun c hc hn=>kk.getB c hc fun q=>hn ?_⟩;rcases q with q|q
  ·exact .inl q
  ·by_cases h7:bx v7=some c/\g.get c=some cs
   ·exact .inl h7
   ·have h1:=K2.getB c hc h7;rw [g2.aO q.2] at h1;exact .inr ⟨q.1,g.get_of_getB h1.symm⟩
 ·rcases hv7 with rfl|hv7
  ·exact hn
  ·rw [hv7];intro q;cases q;omega
 ·rcases hv10 with rfl|hv10
  ·exact hn
  ·rw [hv10];intro q;cases q;have:=K2.next;omega
 ·obtain ⟨_,_,_,h4⟩:=o4;rcases h4 with ⟨rfl,_⟩|⟨b',s',rfl,_,⟨_,hz⟩|⟨_,hg⟩⟩
  ·cases hb
  ·rw [DW] at hz;simp at hz
  ·cases hb;exact g4.aW hg
def BS.keptO {h g:ae} {v:Vl} {l:List Nat} (x:BS h v l) {B:Nat->Prop} (k:aw h g B) (hB : ∀ b,B b -> ∃ o,h.getB b=some (.obj o)):BS g v l:=by obtain ⟨a,c,e,s,q⟩:=x.ex;refine ⟨a,c,e,k.bytes s (fun y hy hn hb => ?_),q⟩;obtain ⟨o,ho⟩:=hB _ hb;obtain ⟨_,_,hat⟩:=ay s;obtain ⟨b,off,s',kk,rfl,hk,_⟩:=hat hn;cases hy;have:=h.aO hk;rw [ho] at this;cases this
def cM {h:ae} {b c:Nat} {k:eW} {o:fl} (g:h.get b=some k) (e:h.getB c=some (.obj o)):b≠c:=fun q=>by subst q;rw [h.aO g] at e;cases e
def DM.DB {α:Type} {M:DM α} {k:List Nat} {a:α} (h:M.get k=some a):(k,a)∈M:=by
 unfold DM.get at h;cases hf:M.find? fun p=>decide (k=p.1) with
 |none=>rw [hf] at h;cases h
 |some p=>
  rw [hf] at h;have h1:=List.find?_some hf;have h2:=List.mem_of_find?_eq_some hf;simp only [D7] at h1;cases h;rw [h1];exact h2
def DM.Dj {α:Type} : ∀ {M:DM α} {k:List Nat} {a:α} (_:(M.map (·.1)).Nodup) (_:(k,a)∈M),M.get k=some a
 |p::M,k,a,nd,h=>by
  rw [ES,H3] at nd;unfold DM.get;rcases EN.1 h with rfl|h
  ·rw [IQ (by simp)];rfl
  ·have:k≠p.1:=fun e=>nd.1 (EL.2 ⟨(k,a),h,e⟩);rw [HC (by simpa using this)];exact DM.Dj nd.2 h
def DM.del_mem {α:Type} {M:DM α} {k:List Nat} {p:List Nat×α} (h:p∈M.del k):p∈M:=by
 unfold DM.del at h;split at h
 ·exact (H6 M _).mem h
 ·exact h
def DM.del_sub {α:Type} {M:DM α} {k d:List Nat} {a:α} (nd:(M.map (·.1)).Nodup) (h:(M.del k).get d=some a):M.get d=some a:=DM.Dj nd (DM.del_mem (DM.DB h))
def DM.del_len {α:Type} {M:DM α} {k:List Nat}:(M.del k).length<=M.length:=by
 unfold DM.del;split
 ·exact (H6 M _).length_le
 ·exact DO _
end
end
end Go.Proofs.YtdhpgacmgebjdaaGreatDoor.W
namespace Go.Proofs.YtdhpgacmgebjdaaGreatDoor.W
open Go Go.Abs Tryz R
noncomputable section
section
attribute [local congr] aC
def u5 (D:Dk) (J:Jn) (fr id:List Nat) (x:It):Option (List Nat):=if 0<=x.at_ then (readP D J id x.at_).map (fun q=>q.2.2.2) else some fr
def rwStep (D:Dk) (J:Jn) (fr:List Nat) (st:DM It×List (List Nat×List Nat)) (id:List Nat):DM It×List (List Nat×List Nat):=
 match u5 D J fr id ((st.1.get id).getD zI) with
 |some r=>(st.1,st.2 ++ [(id,r)])
 |none=>(st.1.del id,st.2)
def pieceOf_pos {r:List Nat} {q:ej×Nat×List Nat} (h:eh r=some q):0<r.length:=by
 rcases r with _|⟨a,r⟩
 ·unfold eh at h;rw [DU (by rintro ⟨h1,_⟩;have:(pK []).1=0:=rfl;omega)] at h
  cases h
 ·exact Nat.succ_pos _
def BP {D:Dk} {J:Jn} {id:List Nat} {a:Int} {m:ej} {ix:Nat} {d r:List Nat} (h:readP D J id a=some (m,ix,d,r)):xl D J a=some r/\eh r=some (m,ix,d)/\uA m=id:=by
 unfold readP at h;split at h
 ·rename_i r' hr;split at h
  ·rename_i m' ix' d' hp;split at h
   ·rename_i mW;cases h;exact ⟨hr,hp,mW⟩
   ·cases h
  ·cases h
 ·cases h
def geq30 (a:Int):aE prog .geq 3 (.int .i64 a) (.int .i64 0)=some (.bool (decide (0<=a))):=dA ..
structure W2C (h0:ae) (s j d tp o im:Nat) (D:Dk) (J:Jn) (fv:Vl) (fr:List Nat) (M0:DM It) (L:List (List Nat)):Prop where
 T:RT h0
 jp:JP h0 s j d D J
 tp : ∃ kt,h0.get tp=some kt/\kt[o+1]? = some (.map (some im))
 im0:h0.n0<=im
 imo : ∃ q,h0.getB im=some (.obj q)
 bs:BS h0 fv fr
 hf : ∀ a n c,fv = .slice (some a) n c -> ¬rwF j d D a.block
 neg : ∀ k x,M0.get k=some x->x.at_<0->0<fr.length
 ar:D.ar<=190
 w : ∀ k∈L,eE k
 len:L.length<=10000
structure W2 (h0:ae) (s j d tp o im:Nat) (D:Dk) (J:Jn) (fv:Vl) (fr:List Nat) (M0:DM It) (L vals0:List (List Nat)) (v50:Vl) (i:Nat) (y:Nat->Vl) (g:ae) (M:DM It) (kp:List (List Nat×List Nat)) (cs:List Vl):Prop where
 y0:y 0=ptr s 0
 y1:y 1=ptr tp o
 y2:y 2=fv
 y50:y 50=v50
 y51:y 51=ak L.length
 y52:y 52=ak i
 K:aw h0 g (fun c=>c=im)
 it:fM rk g im M
 st:(L.take i).foldl (rwStep D J fr) (M0,[])=(M,kp)
 sl:j0 g fK v50 L.length (L.flatMap bA)
 R:dY g h0.next (fun c=>rwF j d D c\/bx (y 10)=some c) (y 7) (vals0++kp.map (·.2)) cs
 o:cF g h0.next 32 (y 10) (kp.map (·.1)).length ((kp.map (·.1)).flatMap bA)
 w : ∀ k∈kp.map (·.1),eE k
 kl:kp.length<=i
 s7 : ∀ b,AV v50=some b->bx (y 7)≠some b
 s10 : ∀ b,AV v50=some b->bx (y 10)≠some b
 sub : ∀ k x,M.get k=some x->M0.get k=some x
 l10 : ∀ b,bx (y 10)=some b->b<g.next
def w2Inv (h0:ae) (s j d tp o im:Nat) (D:Dk) (J:Jn) (fv:Vl) (fr:List Nat) (M0:DM It) (L vals0:List (List Nat)) (v50:Vl) (k:Nat) (y:Nat->Vl) (g:ae):Prop:=
 ∃ i M kp cs,i+k=L.length/\W2 h0 s j d tp o im D J fv fr M0 L vals0 v50 i y g M kp cs
def w2Fin (h0:ae) (s j d tp o im:Nat) (D:Dk) (J:Jn) (fr:List Nat) (M0:DM It) (L vals0:List (List Nat)) (ex:Ex) (y:Nat->Vl) (g:ae):Prop:=
 ex = .exit 2/\y 0=ptr s 0/\y 1=ptr tp o/\aw h0 g (fun c=>c=im) /\ ∃ M kp cs,L.foldl (rwStep D J fr) (M0,[])=(M,kp)/\fM rk g im M/\dY g h0.next (fun c=>rwF j d D c\/bx (y 10)=some c) (y 7) (vals0++kp.map (·.2)) cs /\
  cF g h0.next 32 (y 10) (kp.map (·.1)).length ((kp.map (·.1)).flatMap bA)/\(∀ k∈kp.map (·.1),eE k)/\kp.length<=L.length/\(∀ k x,M.get k=some x->M0.get k=some x)
def rz {α β:Type} (f:β->α->β) (b:β) {L:List α} {i:Nat} {m:α} (hm:L[i]? = some m):(L.take (i+1)).foldl f b=f ((L.take i).foldl f b) m:=by rw [HA,hm,List.foldl_append];rfl
set_option maxRecDepth 100000 in
def w2Round {Z:ah} (z:zF Z) {h0:ae} {s j d tp o im:Nat} {D:Dk} {J:Jn} {fv:Vl} {fr:List Nat} {M0:DM It} {L vals0:List (List Nat)} {v50:Vl} (C:W2C h0 s j d tp o im D J fv fr M0 L) (hv0:0<vals0.length) (hvl:vals0.length<=20000) :
  ∀ k y g,w2Inv h0 s j d tp o im D J fv fr M0 L vals0 v50 k y g->dE 135 (w2Inv h0 s j d tp o im D J fv fr M0 L vals0 v50) (w2Fin h0 s j d tp o im D J fr M0 L vals0) k (iI (CV Z) y g):=by
 rintro k y g ⟨i,M,kp,cs,hik,I⟩;have hn0:=h0.n0_le_next;obtain ⟨qo,hqo⟩:=C.imo;have imlt:im<h0.next:=h0.lt_of_getB hqo;have jdk:=C.jp.dk.lt;have jbb:=C.jp.dk.blt;have jjn:=C.jp.jn.lt;have hFN : ∀ c,rwF j d D c->c<h0.next:=fun c q=>by rcases q with rfl|rfl|rfl<;>assumption
 unfold iI;by_cases hi:i<L.length
 ·obtain ⟨m,hm⟩ : ∃ m,L[i]? = some m:=⟨L[i],DL hi⟩
  have wm:=C.w m (EC hm);have hlen:=C.len;obtain ⟨b,q,e1,e2⟩:=Bm I.sl C.w hm;have hNg:=I.K.next;obtain ⟨g1,z1,o1,q1,n1⟩:=fresh (List.replicate 32 (.int .u8 0)) g;obtain ⟨g2,t2,k2,q2,_,n2⟩:=aR (n:=32) (k':=bA m) q1 (by rw [o1.n0];exact g.n0_le_next) rfl (bf wm) (bh m).2;have o2:aM g g2:=aM.bu o1 k2 (DO _);have l2:bZ 32 (ptr g.next 0) g2=some (kV m,g2):=aV q2 (bf wm) (bh _).1;obtain ⟨kt,tp1,tp2⟩:=C.tp;have tpim:tp≠im:=cM tp1 hqo;have tpl : ∀ {g':ae},aw h0 g' (fun c=>c=im)->ld1 (ptr tp (o+1)) g'=some (.map (some im),g'):=fun kk=>aP (kk.getE tp1 tpim) tp2 rfl;have K2:aw h0 g2 (fun c=>c=im):=I.K.also o2 (fun _ _ q=>q.elim);have it2:=I.it.old o2;obtain ⟨_,lk⟩:=lkD it2 mA tm (itG _) wm;rw [pB] at lk;generalize hx:(M.get m).getD zI=x at lk;obtain ⟨g3,g4,z3,t4,o4,q4,n4⟩:=xW x g2;have K4:aw h0 g4 (fun c=>c=im):=K2.also o4 (fun _ _ q=>q.elim);have l4:ld1 (ptr g2.next 0) g4=some (.int .i64 x.at_,g4):=aP q4 rfl rfl;have q24:g4.get g.next=some (bA m):=aM.get o4 q2;have l24:bZ 32 (ptr g.next 0) g4=some (kV m,g4):=aV q24 (bf wm) (bh _).1;have l34:bZ 3 (ptr g2.next 0) g4=some (rk x,g4):=aV q4 rfl rfl;have O24:=o2.trans o4;have it4:=I.it.old O24;have stp:(L.take (i+1)).foldl (rwStep D J fr) (M0,[])=rwStep D J fr (M,kp) m:=by rw [rz _ _ hm,I.st]
  have vk:Abs.veq (kV m) (kV m)=true:=(bO wm).veq;have nb : ∀ {b:Nat},bx (y 10)=some b->b≠g.next:=fun hb e=>by have:=I.l10 _ hb;omega
  have hlv:(vals0++kp.map (·.2)).length<=99999:=by have:=I.kl;simp only [DW,DY];omega
  have keep : ∀ {g5:ae} {w:Vl} {r:List Nat},aM g4 g5->u5 D J fr m x=some r->BS g5 w r->0<r.length->(∀ a n c,w = .slice (some a) n c -> ¬rwF j d D a.block/\bx (y 10)≠some a.block) ->
    ∃ v1 g6 v7' g7 v2 g8 v10' g9,fE 1 (.slice none 0 0) 1 [(0,w)] g5=some (v1,g6)/\appendA 1 24 (y 7) v1 g6=some (v7',g7)/\fE 32 (.agg (List.replicate 32 (.int .u8 0)).toArray) 1 [(0,kV m)] g7=some (v2,g8)/\appendA 32 32 (y 10) v2 g8=some (v10',g9) /\
      bZ 32 (ptr g.next 0) g5=some (kV m,g5)/\fP true (bZ 32 (ptr g.next 0) g7) (kV m)=true /\ ∀ y':Nat->Vl,y' 0=y 0->y' 1=y 1->y' 2=y 2->y' 50=y 50->y' 51=y 51->y' 52=ak (i+1)->y' 7=v7'->y' 10=v10'->w2Inv h0 s j d tp o im D J fv fr M0 L vals0 v50 (k-1) y' g9:=by
   intro g5 w r o5 hr bsw hpos hw;have O5:aM g g5:=O24.trans o5;have K5:aw h0 g5 (fun c=>c=im):=I.K.also O5 (fun _ _ q=>q.elim);have loc5:g5.get g.next=some (bA m):=aM.get o5 q24;obtain ⟨v1,g6,v7',g7,v2,g8,v10',g9,cs',a1,a2,a3,a4,a5,R9,o9,k9,s7,s10,l9⟩:=app2 (I.R.old O5) (I.o.keep O5 (fun _ _ q=>q)) (by rw [DW];omega) (by rw [K5.n0];exact hn0) K5.next bsw hpos hw wm loc5 (fun e=>nb e rfl) hlv (by rw [DY];have:=I.kl;omega);have K9:aw h0 g9 (fun c=>c=im):=K5.also k9 (fun c hc q=>by
    rcases q with q|q
    ·have:=I.R.base q.1;omega
    ·have:=I.o.base q.1;omega)
   refine ⟨v1,g6,v7',g7,v2,g8,v10',g9,a1,a2,a3,a4,aV loc5 (bf wm) (bh _).1,eQ a5 vk,fun y' c0 c1 c2 c50 c51 c52 c7 c10=>⟨i+1,M,kp ++ [(m,r)],cs',by omega,c0.trans I.y0,c1.trans I.y1,c2.trans I.y2,c50.trans I.y50,c51.trans I.y51,c52,K9,?_,?_,?_,?_,?_,?_,?_,?_,?_,I.sub,by rw [c10];exact l9 (fun b hb=>by have:=I.l10 b hb;have:=O5.next;omega)⟩⟩
   ·obtain ⟨es,ck,m1,m2⟩:=I.it.ex;have h5:=aw.obj O5 m1.get (fun q=>q);exact (I.it.old O5).kept k9 (fun q=>by
     rcases q with q|q
     ·exact cM q.2 h5 rfl
     ·exact cM q.2 h5 rfl)
   ·rw [stp];unfold rwStep;simp only [hx,hr]
   ·refine (I.sl.keep O5 (fun _ _ q=>q)).keep k9 (fun b hb q => ?_);rcases q with q|q
    ·exact I.s7 b hb q.1
    ·exact I.s10 b hb q.1
   ·rw [c7,c10,EV,<-List.append_assoc];exact R9
   ·rw [c10,EV];exact o9
   ·intro q hq;rw [EV] at hq;rcases EF.1 hq with hq|hq
    ·exact I.w q hq
    ·simp only [ES,HH,EN,EU,GF] at hq;rw [hq];exact wm
   ·have:=I.kl;rw [DW];simp;omega
   ·intro b hb;rw [c7];exact s7 b (by have:=I.sl.lt hb;have:=O5.next;omega) (I.s7 b hb)
   ·intro b hb;rw [c10];exact s10 b (by have:=I.sl.lt hb;have:=O5.next;omega) (I.s10 b hb)
  have T4:RT g4:=C.T.kept K4 (fun c q=>by rw [q];exact C.im0);have ob : ∀ b,b=im -> ∃ q,h0.getB b=some (.obj q):=fun b e=>by rw [e];exact C.imo
  obtain ⟨ks,js1,js2⟩:=C.jp.l0;have jp4:JP g4 s j d D J:=C.jp.kept K4 (cM js1 hqo) (cM C.jp.dk.hdr hqo) (cM C.jp.dk.img hqo) (cM C.jp.jn.get hqo);by_cases hat:0<=x.at_
  ·obtain ⟨g5,o5,P5⟩:=r65 z T4 jp4 C.ar wm x;cases hr:readP D J m x.at_ with
   |none=>
    rw [hr] at P5;obtain ⟨A,B,v,e5,A0,A1,A2,B0,B1,B2⟩:=P5;obtain ⟨g6,z6,o6,q6,n6⟩:=fresh zM g5;obtain ⟨g7,z7,o7,q7,n7⟩:=fresh zP g6;have O7:=(o5.trans o6).trans o7;obtain ⟨g8,t8,k8,q8,_,n8⟩:=aR (n:=37) (k':=A) (aM.get o7 q6) (by rw [O7.n0];have:=g4.n0_le_next;have:=o5.next;omega) rfl A0 A1;have O8:aM g4 g8:=aM.bu O7 k8 (by have:=o5.next;omega);obtain ⟨g9,t9,k9,q9,_,n9⟩:=aR (n:=2) (k':=B) (aw.getE k8 q7 (by omega)) (by rw [O8.n0];have:=g4.n0_le_next;have:=o5.next;have:=o6.next;omega) rfl B0 B1;have O9:aM g4 g9:=aM.bu O8 k9 (by have:=o5.next;have:=o6.next;omega);have K9:aw h0 g9 (fun c=>c=im):=K4.also O9 (fun _ _ q=>q.elim);have l29:bZ 32 (ptr g.next 0) g9=some (kV m,g9):=aV (aM.get O9 q24) (bf wm) (bh _).1;obtain ⟨g10,e10,it10,k10,n10⟩:=deD (it4.old O9) (by rw [K9.n0];exact C.im0) mA wm;have K10:aw h0 g10 (fun c=>c=im):=K9.trans k10;have O09:aM g g9:=O24.trans O9;have hob : ∀ c,c=im -> ∃ q,g9.getB c=some (.obj q):=fun c e=>by obtain ⟨es,ck,m1,m2⟩:=(it4.old O9).ex;exact ⟨_,by rw [e];exact m1.get⟩
    have hir:u5 D J fr m x=none:=by unfold u5;rw [DR hat,hr];rfl
    simp -implicitDefEqProofs only [I.y52,I.y51,fF,DS hi,I.y50,I.y1,I.y0,I.y2,e1,e2,z1,t2,l2,av,ax,DK,Nat.add_zero,tpl K2,tpl K9,lk,z3,t4,l4,geq30,DS hat,l24,l34,e5,zS,zH,AG,Aj,z6,z7,t8,t9,dp,EJ,l29,e10,ei (show i+1<=9223372036854775807 by omega),af,aj];have nx9:=O09.next;refine dE.next (k-1) (by omega) ⟨i+1,M.del m,kp,cs,by omega,I.y0,I.y1,I.y2,I.y50,I.y51,rfl,K10,it10,by rw [stp];unfold rwStep;simp only [hx,hir],?_,?_,?_,I.w,by have:=I.kl;omega,I.s7,I.s10,fun k' x' h'=>I.sub k' x' (DM.del_sub I.it.nd h'),fun b hb=>by have:=I.l10 b hb;omega⟩
    ·refine (I.sl.keep O09 (fun _ _ q=>q)).keep k10 (fun b hb q => ?_);obtain ⟨oo,ho⟩:=hob b q;obtain ⟨b',off,kk,hb',_,hg,_⟩:=(I.sl.keep O09 (fun _ _ q=>q)).at hi;rw [hb] at hb';cases hb';exact cM hg ho rfl
    ·exact (I.R.old O09).keep k10 (fun b hb hg q=>by obtain ⟨oo,ho⟩:=hob b q;exact cM hg ho rfl) (fun b q => .inl (hob b q))
    ·exact (I.o.keep O09 (fun _ _ q=>q)).keepG k10 (fun b hb hg q=>by obtain ⟨oo,ho⟩:=hob b q;exact cM hg ho rfl)
   |some p=>
    obtain ⟨mm,ix,dd,r⟩:=p;rw [hr] at P5;obtain ⟨v,dv,rv,e5,X,Bd,Br,f1,f2,f3⟩:=P5;obtain ⟨g6,z6,o6,q6,n6⟩:=fresh zM g5;obtain ⟨g7,z7,o7,q7,n7⟩:=fresh zP g6;have O7:=(o5.trans o6).trans o7;obtain ⟨g8,t8,k8,q8,_,n8⟩:=aR (n:=37) (k':=dL mm v) (aM.get o7 q6) (by rw [O7.n0];have:=g4.n0_le_next;have:=o5.next;omega) rfl X.ok.1 X.ok.2.2;have O8:aM g4 g8:=aM.bu O7 k8 (by have:=o5.next;omega);obtain ⟨g9,t9,k9,q9,_,n9⟩:=aR (n:=2) (k' := [.int .i64 ix,dv]) (aw.getE k8 q7 (by omega)) (by rw [O8.n0];have:=g4.n0_le_next;have:=o5.next;have:=o6.next;omega) rfl rfl (by simp [aN,Bd.cell.2.1,show (Value.int .i64 (ix:Int)).oneCell'=true from rfl]);have O9:aM g4 g9:=aM.bu O8 k9 (by have:=o5.next;have:=o6.next;omega);have O59:aM g5 g9:=aM.bu (aM.bu (o6.trans o7) k8 (DO _)) k9 (by omega);have hir:u5 D J fr m x=some r:=by unfold u5;rw [DR hat,hr];rfl
    obtain ⟨_,hpr,_⟩:=BP hr;obtain ⟨v1,g10,v7',g11,v2,g12,v10',g13,a1,a2,a3,a4,a5,a6,fin⟩:=keep O9 hir (Br.old O59) (pieceOf_pos hpr) (fun a n c q=>by have h1:=f3 a n c q;have h2:=O24.next;refine ⟨fun h=>by have:=hFN _ h;omega,fun h=>by have:=I.l10 _ h;omega⟩)
    simp -implicitDefEqProofs only [I.y52,I.y51,fF,DS hi,I.y50,I.y1,I.y0,I.y2,e1,e2,z1,t2,l2,av,ax,DK,Nat.add_zero,tpl K2,lk,z3,t4,l4,geq30,DS hat,l24,l34,e5,zS,zH,AG,Aj,z6,z7,t8,t9,dp,EP,a1,a2,a3,a4,a5,a6,EY,ei (show i+1<=9223372036854775807 by omega),af,aj];exact dE.next (k-1) (by omega) (fin _ rfl rfl rfl rfl rfl rfl rfl rfl)
  ·have hir:u5 D J fr m x=some fr:=by unfold u5;rw [DU hat]
   have hmx:M.get m=some x:=by
    cases hg:M.get m with
    |none=>rw [hg] at hx;subst hx;exact absurd (by decide) hat
    |some x'=>rw [hg] at hx;exact E2 some hx
   have hpos:=C.neg m x (I.sub m x hmx) (by omega);obtain ⟨v1,g10,v7',g11,v2,g12,v10',g13,a1,a2,a3,a4,a5,a6,fin⟩:=keep (aw.refl _ _) hir (C.bs.keptO K4 ob) hpos (fun a n c q=>by refine ⟨C.hf a n c q,fun h => ?_⟩;have h1:=I.o.base h;obtain ⟨a',c',e,sb,_⟩:=C.bs.ex;rw [q] at e;cases e;obtain ⟨b',o',s',e',hlt⟩:=du sb hpos;cases e';have:h0.next<=b':=h1;omega)
   simp -implicitDefEqProofs only [I.y52,I.y51,fF,DS hi,I.y50,I.y1,I.y0,I.y2,e1,e2,z1,t2,l2,av,ax,DK,Nat.add_zero,tpl K2,lk,z3,t4,l4,geq30,DP hat,a1,a2,a3,a4,a5,a6,EY,ei (show i+1<=9223372036854775807 by omega),af,aj];exact dE.next (k-1) (by omega) (fin _ rfl rfl rfl rfl rfl rfl rfl rfl)
 ·have hiL:i=L.length:=by omega
  simp -implicitDefEqProofs only [I.y52,I.y51,fF,DP hi,af,aj];have h1:=I.st;rw [hiL,GG] at h1;exact dE.out 2 ⟨rfl,I.y0,I.y1,I.K,M,kp,cs,h1,I.it,I.R,I.o,I.w,by have:=I.kl;omega,I.sub⟩
end
section
attribute [local congr] aC
def rwAll_ps (area gen:Nat) : ∀ (rs:List (List Nat)) (at_:Nat) (D:Dk) (ps:List Nat),(Dk.rwAll area gen rs at_ D ps).1=0->(Dk.rwAll area gen rs at_ D ps).2.2.2=ps++(qV rs at_).map (·.1)
 | [],at_,D,ps,_=>by simp [Dk.rwAll,qV]
 |r::rs,at_,D,ps,h=>by
  unfold Dk.rwAll at h |-;by_cases hz:(D.wrRec area gen at_ r).1=0
  ·rw [DR hz] at h |-;rw [rwAll_ps area gen rs _ _ _ h,qV,ES,FD];rfl
  ·rw [DU hz] at h;exact absurd h hz
def rewrite_ps {J:Jn} {D:Dk} {vals:List (List Nat)} (h:(J.rewrite D vals).1=0):(J.rewrite D vals).2.2.2=(qV vals 0).map (·.1):=by
 unfold Jn.rewrite at h |-;split at h
 ·cases h
 ·rename_i h1;rw [DU h1];split at h
  ·cases h
  ·rename_i h2;rw [DU h2];split at h
   ·cases h
   ·rename_i h3;rw [DU h3];split at h
    ·rename_i h4;rw [DR h4];split at h
     ·rename_i h5;rw [DR h5];exact rwAll_ps _ _ _ _ _ _ h4
     ·rename_i h5;exact absurd h h5
    ·rename_i h4;exact absurd h h4
def layR_len : ∀ (rs:List (List Nat)) (a:Nat),(qV rs a).length=rs.length
 | [],_=>rfl
 |r::rs,a=>by rw [qV,List.length_cons,List.length_cons,layR_len rs]
def nF (ps:List Nat) (base:Nat) (M:DM It) (q:List Nat×Nat):DM It:=M.put q.1 { (M.get q.1).getD zI with at_:=(ps.getD (base+q.2) 0:Nat) }
def sub3n {a b:Nat} (h:b<=a) (h2:a<=1000000):aE prog .sub 3 (ak a) (ak b)=some (ak (a-b)):=by unfold ak;rw [gu,wrap_i64 (by omega) (by omega)];exact E2 (fun q=>some (Value.int .i64 q)) (by omega)
def add3n {a b:Nat} (h:a<=1000000) (h2:b<=1000000):aE prog .add 3 (ak a) (ak b)=some (ak (a+b)):=by unfold ak;rw [dI,wrap_i64 (by omega) (by omega)];exact E2 (fun q=>some (Value.int .i64 q)) (by omega)
def own_i64 {g:ae} {N:Nat} {v:Vl} {ps:List Nat} (o:cF g N 1 v ps.length (ps.map ak)) {i:Nat} (hi:i<ps.length) : ∃ b,idxS 1 v (ak i)=some (ptr b i)/\ld1 (ptr b i) g=some (ak (ps.getD i 0),g):=by
 obtain ⟨_,_,_,h4⟩:=o;rcases h4 with ⟨_,h⟩|⟨b,s,rfl,_,⟨_,h⟩|⟨_,hg⟩⟩
 ·omega
 ·omega
 ·refine ⟨b,?_,aP hg ?_ rfl⟩
  ·show (if (0:Int)<=(i:Int)/\(i:Int)<(ps.length:Int) then some (ptr b (0+(i:Int).toNat*1)) else none)=_;rw [DR ⟨by omega,by omega⟩];simp
  ·rw [EG,DL hi,DV,DL hi];rfl
structure W3 (h0:ae) (tp o im:Nat) (ids:List (List Nat)) (ps:List Nat) (M0:DM It) (i:Nat) (y:Nat->Vl) (g:ae) (M:DM It):Prop where
 y1:y 1=ptr tp o
 y105:y 105=ak ids.length
 y106:y 106=ak i
 K:aw h0 g (fun c=>c=im)
 it:fM rk g im M
 st:(ids.zipIdx.take i).foldl (nF ps (ps.length-ids.length)) M0=M
 sl:j0 g fK (y 104) ids.length (ids.flatMap bA)
 sl10:cI (y 10)=some (ak ids.length)
 o:cF g 0 1 (y 19) ps.length (ps.map ak)
def w3Inv (h0:ae) (tp o im:Nat) (ids:List (List Nat)) (ps:List Nat) (M0:DM It) (k:Nat) (y:Nat->Vl) (g:ae):Prop := ∃ i M,i+k=ids.length/\W3 h0 tp o im ids ps M0 i y g M
def w3Fin (h0:ae) (im:Nat) (ids:List (List Nat)) (ps:List Nat) (M0:DM It) (ex:Ex) (_:Nat->Vl) (g:ae):Prop:=
 ex = .exit 4/\aw h0 g (fun c=>c=im)/\fM rk g im (ids.zipIdx.foldl (nF ps (ps.length-ids.length)) M0)
def AQ {g:ae} {N size:Nat} {v:Vl} {len:Nat} {cs:List Vl} (o:cF g N size v len cs):cI v=some (ak len):=by obtain ⟨_,_,_,h4⟩:=o;rcases h4 with ⟨rfl,rfl⟩|⟨b,s,rfl,_⟩<;>rfl
set_option maxRecDepth 100000 in
def w3Round {Z:ah} {h0:ae} {tp o im:Nat} {ids:List (List Nat)} {ps:List Nat} {M0:DM It} (tpc : ∃ kt,h0.get tp=some kt/\kt[o+1]? = some (.map (some im))) (im0:h0.n0<=im) (imo : ∃ q,h0.getB im=some (.obj q)) (w : ∀ d∈ids,eE d) (hl:ids.length<=ps.length) (hp:ps.length<=1000000) :
  ∀ k y g,w3Inv h0 tp o im ids ps M0 k y g->dE 135 (w3Inv h0 tp o im ids ps M0) (w3Fin h0 im ids ps M0) k (fG (CV Z) y g):=by
 rintro k y g ⟨i,M,hik,I⟩;have hn0:=h0.n0_le_next;obtain ⟨qo,hqo⟩:=imo;unfold fG;by_cases hi:i<ids.length
 ·obtain ⟨m,hm⟩ : ∃ m,ids[i]? = some m:=⟨ids[i],DL hi⟩
  have wm:=w m (EC hm);obtain ⟨b,q,e1,e2⟩:=Bm I.sl w hm;obtain ⟨g1,z1,o1,q1,n1⟩:=fresh (List.replicate 32 (.int .u8 0)) g;obtain ⟨g2,t2,k2,q2,_,n2⟩:=aR (n:=32) (k':=bA m) q1 (by rw [o1.n0];exact g.n0_le_next) rfl (bf wm) (bh m).2;have o2:aM g g2:=aM.bu o1 k2 (DO _);have l2:bZ 32 (ptr g.next 0) g2=some (kV m,g2):=aV q2 (bf wm) (bh _).1;obtain ⟨kt,tp1,tp2⟩:=tpc;have tpim:tp≠im:=cM tp1 hqo;have tpl : ∀ {g':ae},aw h0 g' (fun c=>c=im)->ld1 (ptr tp (o+1)) g'=some (.map (some im),g'):=fun kk=>aP (kk.getE tp1 tpim) tp2 rfl;have K2:aw h0 g2 (fun c=>c=im):=I.K.also o2 (fun _ _ q=>q.elim);have it2:=I.it.old o2;obtain ⟨_,lk⟩:=lkD it2 mA tm (itG _) wm;rw [pB] at lk;generalize hx:(M.get m).getD zI=x at lk;obtain ⟨g3,g4,z3,t4,o4,q4,n4⟩:=xW x g2;have O24:=o2.trans o4;obtain ⟨pb,e5,l5⟩:=own_i64 (i:=ps.length-ids.length+i) (I.o.keep O24 (fun _ _ q=>q)) (by omega);have p4:g4.n0<=g2.next:=by rw [o4.n0];exact g2.n0_le_next
  obtain ⟨g5,t5,k5,q5,_,n5⟩:=stored (v:=ak (ps.getD (ps.length-ids.length+i) 0)) (o:=0) q4 p4 (Nat.succ_pos _) rfl rfl;have O5:aM g g5:=aM.bu O24 k5 (by have:=o2.next;omega);have K5:aw h0 g5 (fun c=>c=im):=I.K.also O5 (fun _ _ q=>q.elim);have l25:bZ 32 (ptr g.next 0) g5=some (kV m,g5):=aV (aw.getE k5 (aM.get o4 q2) (by omega)) (bf wm) (bh _).1;have l35:bZ 3 (ptr g2.next 0) g5=some (rk { x with at_:=(ps.getD (ps.length-ids.length+i) 0:Nat) },g5):=aV q5 rfl rfl;obtain ⟨g6,e6,it6,k6,n6⟩:=muD (V:=rk) (I.it.old O5) (by rw [K5.n0];exact im0) mA wm ({ x with at_:=(ps.getD (ps.length-ids.length+i) 0:Nat) }:It);have hob : ∃ q,g5.getB im=some (.obj q):=by obtain ⟨es,ck,m1,m2⟩:=(I.it.old O5).ex;exact ⟨_,m1.get⟩
  obtain ⟨oo,ho⟩:=hob;have L104:cI (y 104)=some (ak ids.length):=I.sl.len;simp -implicitDefEqProofs only [I.y106,I.y105,fF,DS hi,I.y1,e1,e2,z1,t2,l2,av,ax,DK,Nat.add_zero,tpl K2,tpl K5,lk,z3,t4,AQ I.o,I.sl10,sub3n hl hp,add3n (show ps.length-ids.length<=1000000 by omega) (show i<=1000000 by omega),e5,l5,t5,l25,l35,e6,ei (show i+1<=9223372036854775807 by omega),af,aj];refine dE.next (k-1) (by omega) ⟨i+1,_,by omega,I.y1,I.y105,rfl,K5.trans k6,it6,?_,?_,I.sl10,?_⟩
  ·have hz:ids.zipIdx[i]? = some (m,i):=by rw [IZ,hm];simp
   rw [rz _ _ hz,I.st];unfold nF;rw [hx]
  ·refine (I.sl.keep O5 (fun _ _ q=>q)).keep k6 (fun b hb q => ?_);obtain ⟨b',off,kk,hb',_,hg,_⟩:=(I.sl.keep O5 (fun _ _ q=>q)).at hi;rw [hb] at hb';cases hb';exact cM hg ho q
  ·exact (I.o.keep O5 (fun _ _ q=>q)).keepG k6 (fun b hb hg q=>cM hg ho q)
 ·have hiL:i=ids.length:=by omega
  simp -implicitDefEqProofs only [I.y106,I.y105,fF,DP hi,af,aj];have h1:=I.st;rw [hiL,EB (by simp)] at h1;exact dE.out 4 ⟨rfl,I.K,by rw [h1];exact I.it⟩
end
section
attribute [local congr] aC
def Dn (D:Dk) (J:Jn) (fr:List Nat) (M0:DM It):DM It×List (List Nat×List Nat):=(cO (M0.map (·.1))).foldl (rwStep D J fr) (M0,[])
def dJ (inc:Nat) (G:DM Unit) (kp:List (List Nat×List Nat)):List (List Nat):=(oS inc::(cO (G.map (·.1))).map (CO 4))++kp.map (·.2)
def df (D:Dk) (J:Jn) (inc:Nat) (fr:List Nat) (M0:DM It) (G:DM Unit):Int×Dk×Jn×DM It:=
 let p:=Dn D J fr M0
 let vals:=dJ inc G p.2
 let R:=J.rewrite D vals
 let ps:=(qV vals 0).map (·.1)
 (R.1,R.2.1,R.2.2.1,if R.1=0 then (p.2.map (·.1)).zipIdx.foldl (nF ps (ps.length-p.2.length)) p.1 else p.1)
structure xh (h:ae) (tp o inc im gm:Nat) (M0:DM It) (G:DM Unit):Prop where
 c : ∃ kt,h.get tp=some kt/\kt[o]? = some (.int .u64 (inc:Int))/\kt[o+1]? = some (.map (some im))/\kt[o+2]? = some (.map (some gm))
 it:fM rk h im M0
 gr:fM grV h gm G
 im0:h.n0<=im
 gm0:h.n0<=gm
 ne:im≠gm
 inc:inc<18446744073709551616
def uh {h g:ae} {L:List (List Nat)} {v:Vl} (e:fO h L=(v,g)):vE g h.next v L/\aM h g/\(∀ b,AV v=some b->h.next<=b):=by
 unfold fO at e;split at e
 ·rename_i h1;cases e;exact ⟨.inl ⟨h1,rfl⟩,aw.refl _ _,fun b hb=>by cases hb⟩
 ·rename_i h1;cases e;exact ⟨.inr ⟨h1,h.next,DO _,rfl,by rw [ae.aX,DR rfl]⟩,aw.alloc _ _ _,fun b hb=>by
   cases hL:L.length with
   |zero=>rw [hL] at hb;cases hb
   |succ n=>rw [hL] at hb;cases hb;exact DO _⟩
def dY.lt {g:ae} {N:Nat} {F:Nat->Prop} {v:Vl} {vals:List (List Nat)} {cs:List Vl} (R:dY g N F v vals cs) (hv:0<vals.length) {b:Nat} (hb:bx v=some b):b<g.next:=by
 rcases R.own with ⟨_,_,_,h4⟩|⟨b',rfl,_,h,_⟩
 ·rcases h4 with ⟨rfl,_⟩|⟨b',s,rfl,_,⟨_,h⟩|⟨_,hg⟩⟩
  ·cases hb
  ·omega
  ·cases hb;exact g.aW hg
 ·cases hb;exact g.aW h
def ng {L:List (List Nat)} {d:List Nat}:d∈cO L↔d∈L:=(cQ L).mem_iff
def is59:bJ prog 59 f59 := .of (by kernel_rfl)
def b59_4' (C:ah) (e:aQ) (h:ae):b59_4 C 0 e h=k59_2 C e h:=rfl
def b59_8' (C:ah) (e:aQ) (h:ae):b59_8 C 2 e h=k59_6 C e h:=rfl
def b59_20' (C:ah) (e:aQ) (h:ae):b59_20 C 4 e h=k59_18 C e h:=rfl
def recN_pos (v:Nat):0<(oS v).length:=by unfold oS;simp [bY]
set_option maxRecDepth 100000 in
def r59 {Z:ah} (z:zF Z) {h:ae} (T:RT h) {s j d:Nat} {D:Dk} {J:Jn} (jp:JP h s j d D J) (har:D.ar<=190) {tp o inc im gm:Nat} {M0:DM It} {G:DM Unit} (t:xh h tp o inc im gm M0 G) (t1:tp≠j) (t2:tp≠d) (t3:tp≠D.bb) (l1:M0.length<=10000) (l2:G.length<=10000)
  {fv:Vl} {fr:List Nat} (bs:BS h fv fr) (hf : ∀ a n c,fv = .slice (some a) n c -> ¬rwF j d D a.block) (neg : ∀ k x,M0.get k=some x->x.at_<0->0<fr.length) :
  ∃ g,CV Z 59 [ptr s 0,ptr tp o,fv] h=some (.int .i64 (df D J inc fr M0 G).1,g)/\aw h g (fun c=>c=im\/c=j\/c=d\/c=D.bb)/\br g d (df D J inc fr M0 G).2.1/\(df D J inc fr M0 G).2.1.bb=D.bb/\(df D J inc fr M0 G).2.1.n=D.n/\cG g j d (df D J inc fr M0 G).2.2.1/\fM rk g im (df D J inc fr M0 G).2.2.2:=by
 obtain ⟨kt,c0,c1,c2,c3⟩:=t.c;have hn0:=h.n0_le_next;have jdk:=jp.dk.lt;have jbb:=jp.dk.blt;have jjn:=jp.jn.lt;have hFN : ∀ c,rwF j d D c->c<h.next:=fun c q=>by rcases q with rfl|rfl|rfl<;>assumption
 obtain ⟨qo,hqo⟩ : ∃ q,h.getB im=some (.obj q):=by obtain ⟨es,ck,m1,m2⟩:=t.it.ex;exact ⟨_,m1.get⟩
 have tpim:tp≠im:=cM c0 hqo;have imd:d≠im:=cM jp.dk.hdr hqo;have imb:D.bb≠im:=cM jp.dk.img hqo;have imj:j≠im:=cM jp.jn.get hqo;have wG : ∀ k∈cO (G.map (·.1)),eE k:=fun k hk=>by obtain ⟨p,hp,rfl⟩:=EL.1 (ng.1 hk);exact t.gr.w p hp
 have wM : ∀ k∈cO (M0.map (·.1)),eE k:=fun k hk=>by obtain ⟨p,hp,rfl⟩:=EL.1 (ng.1 hk);exact t.it.w p hp
 have lG:(cO (G.map (·.1))).length=G.length:=by rw [(cQ _).length_eq,DY]
 have lM:(cO (M0.map (·.1))).length=M0.length:=by rw [(cQ _).length_eq,DY]
 have L0:ld1 (ptr tp o) h=some (.int .u64 (inc:Int),h):=aP c0 c1 rfl;obtain ⟨w1,h1,e1,o1,ns1⟩:=r74 h t.inc;have e1:=jP z T.n0 (by rfl) e1;obtain ⟨a1,k1,rfl,sb1,gs1⟩:=ns1.bs.good (recN_pos inc);have bl:=bslW a1 (oS inc).length k1 h1;have o2:aM h1 (h1.alloc [.slice a1 (oS inc).length k1]):=aw.alloc _ _ _;have q2:(h1.alloc [.slice a1 (oS inc).length k1]).get h1.next=some [.slice a1 (oS inc).length k1]:=by rw [ae.aX,DR rfl]
 have nx2:(h1.alloc [.slice a1 (oS inc).length k1]).next=h1.next+1:=rfl;generalize h1.alloc [.slice a1 (oS inc).length k1]=h2 at *;have O2:=o1.trans o2;have hnx:=o1.next;have R2:dY h2 h.next (rwF j d D) (.slice (some ⟨h1.next,0,none⟩) 1 1) [oS inc] [.slice a1 (oS inc).length k1]:=⟨.inr ⟨h1.next,rfl,hnx,q2,Nat.one_pos⟩,rfl,fun i r hi=>by
  have hi0:i=0:=by have:=(D9.1 hi).1;simpa using this
  subst hi0;cases hi;refine ⟨a1,_,k1,rfl,aM.bytes o2 sb1,gs1,fun y hy hn hF => ?_⟩;subst hy;have h1:=ns1.new _ _ _ rfl;have h2:=hFN _ hF;omega⟩
 have L2:ld1 (ptr tp (o+2)) h2=some (.map (some gm),h2):=aP (aM.get O2 c0) c3 rfl;have e3:=rS80 z (t.gr.old O2) (by omega);obtain ⟨v34,h3,es3⟩ : ∃ v g,fO h2 (cO (G.map (·.1)))=(v,g):=⟨_,_,rfl⟩
 rw [es3] at e3;obtain ⟨S3,o3,b34⟩:=uh es3;have O3:=O2.trans o3;have sl3:=S3.sl wG;have key : ∃ g,t59 (CV Z) (ptr s 0) (ptr tp o) fv h=some (.int .i64 (df D J inc fr M0 G).1,g)/\aw h g (fun c=>c=im\/c=j\/c=d\/c=D.bb)/\br g d (df D J inc fr M0 G).2.1/\(df D J inc fr M0 G).2.1.bb=D.bb/\(df D J inc fr M0 G).2.1.n=D.n/\cG g j d (df D J inc fr M0 G).2.2.1/\fM rk g im (df D J inc fr M0 G).2.2.2:=by
  unfold t59;simp -implicitDefEqProofs only [av,ax,Nat.add_zero,L0,e1,bl,L2,e3,sl3.len,af,aj];refine cp (Q:=fun r:ba => ∃ g,r=some (.int .i64 (df D J inc fr M0 G).1,g)/\aw h g (fun c=>c=im\/c=j\/c=d\/c=D.bb)/\br g d (df D J inc fr M0 G).2.1/\(df D J inc fr M0 G).2.1.bb=D.bb/\(df D J inc fr M0 G).2.1.n=D.n/\cG g j d (df D J inc fr M0 G).2.2.1/\fM rk g im (df D J inc fr M0 G).2.2.2)
   (cj (vJ (CV Z)) (w1Round z T.n0 hFN wG (by omega) (v34:=v34) (a0:=ptr s 0) (a1:=ptr tp o) (a2:=fv) (inc:=inc)) (cO (G.map (·.1))).length (by have:aK=18446744073709551616:=rfl;omega)
    ⟨0,_,DK _,rfl,rfl,rfl,rfl,rfl,rfl,O3,sl3,R2.old o3,fun b hb q=>by
      have p1:=b34 b hb;have q:some h1.next=some b:=q;injection q with q
      omega⟩) ?_
  rintro ex x4 h4 ⟨rfl,y0,y1,y2,O4,cs4,R4⟩;rw [bK,b59_4',t59k59_2_eq];have hG4:3<=h4.n0:=by rw [O4.n0];exact T.n0
  have L4:ld1 (ptr tp (o+1)) h4=some (.map (some im),h4):=aP (aM.get O4 c0) c2 rfl;have e5:=rS64 z (t.it.old O4) (by omega);obtain ⟨v50,h5,es5⟩ : ∃ v g,fO h4 (cO (M0.map (·.1)))=(v,g):=⟨_,_,rfl⟩
  rw [es5] at e5;obtain ⟨S5,o5,b50⟩:=uh es5;have O5:=O4.trans o5;have sl5:=S5.sl wM;unfold yv;simp -implicitDefEqProofs only [y1,av,ax,L4,e5,sl5.len,af,aj];have C:W2C h s j d tp o im D J fv fr M0 (cO (M0.map (·.1))):=⟨T,jp,⟨kt,c0,c2⟩,t.im0,⟨qo,hqo⟩,bs,hf,neg,har,wM,by omega⟩
  have hv0:0<(oS inc::(cO (G.map (·.1))).map (CO 4)).length:=Nat.succ_pos _;refine cp (Q:=fun r:ba => ∃ g,r=some (.int .i64 (df D J inc fr M0 G).1,g)/\aw h g (fun c=>c=im\/c=j\/c=d\/c=D.bb)/\br g d (df D J inc fr M0 G).2.1/\(df D J inc fr M0 G).2.1.bb=D.bb/\(df D J inc fr M0 G).2.1.n=D.n/\cG g j d (df D J inc fr M0 G).2.2.1/\fM rk g im (df D J inc fr M0 G).2.2.2)
   (cj (td (CV Z)) (w2Round z C (vals0:=oS inc::(cO (G.map (·.1))).map (CO 4)) (v50:=v50) hv0 (by rw [List.length_cons,DY];omega)) (cO (M0.map (·.1))).length (by have:aK=18446744073709551616:=rfl;omega)
    ⟨0,M0,[],cs4,DK _,y0,y1,y2,rfl,rfl,rfl,O5.mono (fun _ _ q=>q.elim),t.it.old O5,rfl,sl5,by
      rw [HH,GM];exact (R4.old o5).weak (fun b _ q=>by
       rcases q with q|q
       ·exact q
       ·cases q),cF.nil _ _ _,(fun k hk=>by cases hk),DO _,fun b hb q=>by
      have h1:=b50 b hb;have h2:=R4.lt hv0 q;omega,(fun b hb q=>by cases q),(fun _ _ q=>q),(fun b hb=>by cases hb)⟩) ?_
  rintro ex x6 h6 ⟨rfl,z0,z1,K6,M,kp,cs6,hst,it6,R6,o6,w6,kl6,sub6⟩;rw [bK,b59_8',t59k59_6_eq];have hG6:3<=h6.n0:=by rw [K6.n0];exact T.n0
  obtain ⟨ks,js1,js2⟩:=jp.l0;have jp6:JP h6 s j d D J:=jp.kept K6 (cM js1 hqo) imd imb imj;have hpp:Dn D J fr M0=(M,kp):=hst;have RG6:ma h6 (rwF j d D) (x6 7) (dJ inc G kp):=(R6.weak (F':=rwF j d D) (fun b _ q => .inl q)).g (fun b hb _ q=>by have:=hFN _ q;omega);have hvl:(dJ inc G kp).length=G.length+1+kp.length:=by unfold dJ;rw [DW,List.length_cons,DY,DY,lG]
  obtain ⟨v7,h7,e7,d7,bb7,n7,j7,k7,o7⟩:=r114 jp6.dk jp6.jn jp6.n2 jp6.ok RG6 (by omega);have e7:=jP z hG6 (by rfl) e7;have it7:fM rk h7 im M:=it6.kept k7 (fun q=>by
   rcases q with q|q|q
   ·exact imj q.symm
   ·exact imd q.symm
   ·exact imb q.symm)
  have K7:aw h h7 (fun c=>c=im\/c=j\/c=d\/c=D.bb):=(K6.mono (fun c _ q => .inl q)).trans (k7.mono (fun c _ q => .inr q));have hro:df D J inc fr M0 G=((J.rewrite D (dJ inc G kp)).1,(J.rewrite D (dJ inc G kp)).2.1,(J.rewrite D (dJ inc G kp)).2.2.1,if (J.rewrite D (dJ inc G kp)).1=0 then (kp.map (·.1)).zipIdx.foldl (nF ((qV (dJ inc G kp) 0).map (·.1)) (((qV (dJ inc G kp) 0).map (·.1)).length-kp.length)) M else M):=by unfold df;rw [hpp]
  rw [hro];unfold za;by_cases hz:(J.rewrite D (dJ inc G kp)).1=0
  ·have hps:=rewrite_ps hz;rw [hps] at o7;have hpl:((qV (dJ inc G kp) 0).map (·.1)).length=G.length+1+kp.length:=by rw [DY,layR_len,hvl]
   have hne:((J.rewrite D (dJ inc G kp)).1 != 0)=false:=by rw [hz];rfl
   have o67:cF h7 h.next 32 (x6 10) (kp.map (·.1)).length ((kp.map (·.1)).flatMap bA):=o6.keep k7 (fun b hb q=>by have h1:=o6.base hb;have h2:=hFN b q;omega)
   have sl7:j0 h7 fK (x6 10) (kp.map (·.1)).length ((kp.map (·.1)).flatMap bA):=oY (ks:=fK) o67 (fq (P:=eE) (fun x hx=>bO hx) _ w6);simp -implicitDefEqProofs only [z0,av,ax,DK,jp6.ld,e7,gZ,iC,fI,hne,sl7.len,af,aj];rw [DR hz];have tpk7:h7.get tp=some kt:=K7.getE c0 (fun q=>by
    rcases q with q|q|q|q
    ·exact tpim q
    ·exact t1 q
    ·exact t2 q
    ·exact t3 q)
   have imo7 : ∃ q,h7.getB im=some (.obj q):=by obtain ⟨es,ck,m1,m2⟩:=it7.ex;exact ⟨_,m1.get⟩
   have W:=w3Round (Z:=Z) (h0:=h7) (tp:=tp) (o:=o) (im:=im) (ids:=kp.map (fun x=>x.1)) (ps:=(qV (dJ inc G kp) 0).map (fun x=>x.1)) (M0:=M) ⟨kt,tpk7,c2⟩ (by rw [K7.n0];exact t.im0) imo7 w6 (by rw [hpl,DY];omega) (by rw [hpl];omega);refine cp (Q:=fun r:ba => ∃ g,r=some (.int .i64 (J.rewrite D (dJ inc G kp)).1,g)/\aw h g (fun c=>c=im\/c=j\/c=d\/c=D.bb)/\br g d (J.rewrite D (dJ inc G kp)).2.1/\(J.rewrite D (dJ inc G kp)).2.1.bb=D.bb/\(J.rewrite D (dJ inc G kp)).2.1.n=D.n/\cG g j d (J.rewrite D (dJ inc G kp)).2.2.1/\fM rk g im ((kp.map (·.1)).zipIdx.foldl (nF ((qV (dJ inc G kp) 0).map (·.1)) (((qV (dJ inc G kp) 0).map (·.1)).length-kp.length)) M))
    (cj (pR (CV Z)) W (kp.map (·.1)).length (by have:aK=18446744073709551616:=rfl;rw [DY];omega)
     ⟨0,M,DK _,z1,rfl,rfl,aw.refl _ _,it7,rfl,sl7,sl7.len,⟨o7.1,o7.2.1,o7.2.2.1,by
       rcases o7.2.2.2 with q|⟨b,s',q1,_,q3⟩
       ·exact .inl q
       ·exact .inr ⟨b,s',q1,FB _,q3⟩⟩⟩) ?_
   rintro ex x8 h8 ⟨rfl,K8,it8⟩;rw [bK,b59_20',CF];unfold uJ;refine ⟨h8,by rw [hz];rfl,K7.trans (K8.mono (fun c _ q => .inl q)),K8.dk d7 imd (by rw [bb7];exact imb),bb7,n7,j7.keep K8 imj,?_⟩;simpa only [DY] using it8
  ·have hne:((J.rewrite D (dJ inc G kp)).1 != 0)=true:=by rw [HQ];exact hz
   simp -implicitDefEqProofs only [z0,av,ax,DK,jp6.ld,e7,gZ,iC,fI,hne,af,aj];rw [DU hz];exact ⟨h7,rfl,K7,d7,bb7,n7,j7,it7⟩
 obtain ⟨g,e,rest⟩:=key;exact ⟨g,cY z is59 rfl ((t59_eq _ _ _ _ _).trans e),rest⟩
end
end
end Go.Proofs.YtdhpgacmgebjdaaGreatDoor.W
namespace Go.Proofs.YtdhpgacmgebjdaaGreatDoor.W
open Go Go.Abs Tryz
noncomputable section
section
variable (C:ah) (x:Nat->Vl) (x0 x1 x2 x3 x4 x5:Vl) (h:ae)
def k21_8 (C:ah) (e:aQ) (h:ae):ba:=codeK prog C (al f21 [1,1,1,1,1]) e h (resultsA prog f21.results.toList) (resultsA prog f21.results.toList) (fun _ _ _=>none)
def b21_10 (C:ah) (i:Nat) (e:aQ) (h:ae):ba:=if i=0 then (k21_8 C) e h else (fun _ _ _=>none) i e h
def t21 (C:ah) (x0:Vl) (h:ae):ba:=
 aa (some ((.pointer none),h)) fun z h=>
 aa (some ((.int .i64 0),h)) fun A h=>
 aa (some (x0,h)) fun f h=>
 aa (pu (cI f) h) fun g h=>
 aa (pu (aE prog .rem 3 g (.int .i64 128)) h) fun j h=>
 aa (pu (aE prog .neq 3 j (.int .i64 0)) h) fun k h=>
 (match k with
 | .bool true=>
 aa (some ((.pointer none),h)) fun a h=>
 aa (some ((.int .i64 2),h)) fun b h=>
 some (.tuple #[a,b],h)
 | .bool false=>
 aa (some (x0,h)) fun l h=>
 aa (pu (cI l) h) fun m h=>
 aa (pu (aE prog .quo 3 m (.int .i64 128)) h) fun n h=>
 aa (C 13 [n] h) fun o h=>
 aa (some (o,h)) fun c h=>
 aa (pu (extractA c 0) h) fun p h=>
 aa (pu (extractA c 1) h) fun q h=>
 aa (some (p,h)) fun r h=>
 aa (some (q,h)) fun d h=>
 aa (some (d,h)) fun s h=>
 aa (pu (aE prog .neq 25 s (.int .i64 0)) h) fun t h=>
 (match t with
 | .bool true=>
 aa (some (d,h)) fun B h=>
 aa (some ((.pointer none),h)) fun a h=>
 aa (some (B,h)) fun b h=>
 some (.tuple #[a,b],h)
 | .bool false=>
 aa (some (r,h)) fun u h=>
 aa (pu (nilCheckA u) h) fun v h=>
 aa (pu (aL v 0) h) fun w h=>
 aa (ld1 w h) fun y h=>
 aa (pu (cI y) h) fun D h=>
 aa (some ((.int .i64 0),h)) fun E h=>
 fb (iter (codeA prog C (al f21 [1,1,1,1,0,1,0,0])) aK (aT 43 (up (bs [x0]) [(2,z),(3,A),(4,r),(5,d),(7,f),(8,g),(9,j),(10,k),(11,c),(12,l),(13,m),(14,n),(15,o),(16,p),(17,q),(18,s),(19,t),(21,u),(22,v),(23,w),(24,y),(25,D),(26,E)])) h) (resultsA prog f21.results.toList) (b21_10 C)
 |_=>none)
 |_=>none)
def yO (C:ah) (x:Nat->Vl) (h:ae):ba:=
 aa (some ((x 4),h)) fun a h=>
 aa (some (a,h)) fun b h=>
 aa (some ((.int .i64 0),h)) fun c h=>
 some (.tuple #[b,c],h)
def iJ (C:ah) (x:Nat->Vl) (h:ae):Option (Ex×aQ×ae):=
 aa (pu (aE prog .lss 3 (x 26) (x 25)) h) fun a h=>
 (match a with
 | .bool true=>
 aa (some ((x 26),h)) fun c h=>
 aa (some (c,h)) fun b h=>
 aa (some ((x 4),h)) fun d h=>
 aa (pu (nilCheckA d) h) fun f h=>
 aa (pu (aL f 0) h) fun g h=>
 aa (ld1 g h) fun j h=>
 aa (some (b,h)) fun k h=>
 aa (pu (idxS 128 j k) h) fun l h=>
 aa (pu (sliceArr 128 1 l none none none) h) fun m h=>
 aa (some ((x 0),h)) fun n h=>
 aa (some (b,h)) fun o h=>
 aa (pu (aE prog .mul 3 o (.int .i64 128)) h) fun p h=>
 aa (pu (slR 1 n (some p) none none) h) fun q h=>
 aa (iv 1 m q h) fun s h=>
 aa (pu (aE prog .add 3 (x 26) (.int .i64 1)) h) fun r h=>
 aa (some (r,h)) fun t h=>
 some (.normal,(aT 43 (up x [(6,b),(26,t),(27,a),(28,c),(29,d),(30,f),(31,g),(32,j),(33,k),(34,l),(35,m),(36,n),(37,o),(38,p),(39,q),(40,s),(41,r)])),h)
 | .bool false=>
 some (.exit 0,(aT 43 (up x [(27,a)])),h)
 |_=>none)
def t21_eq:aY prog C f21 [x0] h=t21 C x0 h:=
 lkT (by kernel_rfl) (by kernel_rfl)
def t21k21_8_eq:k21_8 C (aT 43 x) h=yO C x h:=
 bI (T:=yO C) (fun x h=>by kernel_rfl) x h
def sS:codeA prog C (al f21 [1,1,1,1,0,1,0,0]) (aT 43 x) h=iJ C x h:=
 aF (T:=iJ C) (fun x h=>by kernel_rfl) x h
def t58 (C:ah) (x0 x1:Vl) (h:ae):ba:=
 aa (box x1 h) fun b h=>
 aa (pu (aL b 1) h) fun s h=>
 aa (ld1 s h) fun u h=>
 aa (C 110 [u] h) fun v h=>
 aa (some (v,h)) fun n h=>
 aa (some (n,h)) fun w h=>
 aa (C 111 [w] h) fun y h=>
 aa (some (y,h)) fun c h=>
 aa (some (c,h)) fun z h=>
 aa (pu (aE prog .eql 155 z (.int .u8 1)) h) fun A h=>
 aa (some (A,h)) fun d h=>
 aa (au (bC d==some true) (pu (aL b 1) h) h) fun B h=>
 aa (au (bC d==some true) (ld1 B h) h) fun D h=>
 aa (au (bC d==some true) (pu (cI D) h) h) fun E h=>
 aa (au (bC d==some true) (pu (aE prog .eql 3 E (.int .i64 9)) h) h) fun F h=>
 aa (match d with | .bool t=>some (if t then F else (.bool false),h)|_=>none) fun G h=>
 aa (some (G,h)) fun H h=>
 (match H with
 | .bool true=>
 let g5_0:=h
 aa (some (x0,g5_0)) fun I g5_1=>
 aa (some (x0,g5_1)) fun J g5_2=>
 aa (pu (nilCheckA J) g5_2) fun K g5_3=>
 aa (pu (aL K 0) g5_3) fun o g5_4=>
 aa (ld1 o g5_4) fun p g5_5=>
 aa (some (n,g5_5)) fun L g5_6=>
 aa (C 112 [L] g5_6) fun M g5_7=>
 aa (pu (minmax true p [M]) g5_7) fun N g5_8=>
 aa (pu (nilCheckA I) g5_8) fun O g5_9=>
 aa (pu (aL O 0) g5_9) fun P g5_10=>
 aa (bX 1 P N g5_10) fun _ g5_11=>
 (match (fP true (ld1 o g5_7) p&&true) with
 |true=>
 let h:=g5_11
 some (.tuple #[],h)
 |false=>none)
 | .bool false=>
 aa (some (c,h)) fun Q h=>
 aa (pu (aE prog .eql 155 Q (.int .u8 3)) h) fun R h=>
 aa (some (R,h)) fun k h=>
 aa (au (bC k==some false) (some (c,h)) h) fun S h=>
 aa (au (bC k==some false) (pu (aE prog .eql 155 S (.int .u8 4)) h) h) fun T h=>
 aa (match k with | .bool t=>some (if t then (.bool true) else T,h)|_=>none) fun U h=>
 aa (some (U,h)) fun f h=>
 aa (au (bC f==some true) (pu (aL b 1) h) h) fun V h=>
 aa (au (bC f==some true) (ld1 V h) h) fun W h=>
 aa (au (bC f==some true) (pu (cI W) h) h) fun X h=>
 aa (au (bC f==some true) (pu (aE prog .eql 3 X (.int .i64 33)) h) h) fun Y h=>
 aa (match f with | .bool t=>some (if t then Y else (.bool false),h)|_=>none) fun Z h=>
 aa (some (Z,h)) fun a0 h=>
 (match a0 with
 | .bool true=>
 aa (dj (List.replicate 32 (.int .u8 0)) h) fun l h=>
 aa (pu (sliceArr 32 1 l none none none) h) fun a1 h=>
 aa (pu (aL b 1) h) fun a2 h=>
 aa (ld1 a2 h) fun a3 h=>
 aa (pu (slR 1 a3 (some (.int .i64 1)) none none) h) fun a4 h=>
 aa (iv 1 a1 a4 h) fun j5 h=>
 aa (some (x0,h)) fun a5 h=>
 aa (pu (nilCheckA a5) h) fun a6 h=>
 aa (pu (aL a6 1) h) fun a7 h=>
 aa (ld1 a7 h) fun a8 h=>
 aa (bZ 32 l h) fun a9 h=>
 aa (deleteA prog 123 a8 a9 h) fun _ h=>
 aa (some (c,h)) fun b0 h=>
 aa (pu (aE prog .eql 155 b0 (.int .u8 4)) h) fun b1 h=>
 (match b1 with
 | .bool true=>
 aa (some (x0,h)) fun b2 h=>
 aa (pu (nilCheckA b2) h) fun b3 h=>
 aa (pu (aL b3 2) h) fun b4 h=>
 aa (ld1 b4 h) fun b5 h=>
 aa (bZ 32 l h) fun b6 h=>
 aa (mapUpdateA prog 124 b5 b6 (.bool true) h) fun _ h=>
 some (.tuple #[],h)
 | .bool false=>
 some (.tuple #[],h)
 |_=>none)
 | .bool false=>
 aa (some (c,h)) fun b7 h=>
 aa (pu (aE prog .eql 155 b7 (.int .u8 2)) h) fun b8 h=>
 aa (some (b8,h)) fun b9 h=>
 (match b9 with
 | .bool true=>
 aa (pu (aL b 1) h) fun c0 h=>
 aa (ld1 c0 h) fun c1 h=>
 aa (C 113 [c1] h) fun c2 h=>
 aa (some (c2,h)) fun g h=>
 aa (pu (extractA g 0) h) fun c3 h=>
 aa (pu (extractA g 1) h) fun c4 h=>
 aa (pu (extractA g 2) h) fun c5 h=>
 aa (pu (extractA g 3) h) fun c6 h=>
 aa (dj fy h) fun c7 h=>
 aa (dj [(.int .i64 0),(.slice none 0 0)] h) fun q h=>
 aa (dj (List.replicate 32 (.int .u8 0)) h) fun j h=>
 aa (bX 37 c7 c3 h) fun _ h=>
 aa (bX 2 q c4 h) fun _ h=>
 aa (bX 32 j c5 h) fun _ h=>
 aa (some (c6,h)) fun c8 h=>
 aa (some (x0,h)) fun c9 h=>
 aa (pu (nilCheckA c9) h) fun d0 h=>
 aa (pu (aL d0 1) h) fun d1 h=>
 aa (ld1 d1 h) fun d2 h=>
 aa (bZ 32 j h) fun d3 h=>
 aa (lookupA prog 123 d2 d3 true h) fun d4 h=>
 aa (some (d4,h)) fun r h=>
 aa (pu (extractA r 0) h) fun d5 h=>
 aa (pu (extractA r 1) h) fun d6 h=>
 aa (dj [(.int .i64 0),(.int .i64 0),(.int .i64 0)] h) fun d7 h=>
 aa (bX 3 d7 d5 h) fun _ h=>
 aa (some (d6,h)) fun d8 h=>
 aa (some (c8,h)) fun d9 h=>
 aa (some (d9,h)) fun m h=>
 aa (au (bC m==some true) (some (d8,h)) h) fun f0 h=>
 aa (au (bC m==some true) (pu (unA .not f0) h) h) fun f1 h=>
 aa (match m with | .bool t=>some (if t then f1 else (.bool false),h)|_=>none) fun f2 h=>
 aa (some (f2,h)) fun a h=>
 aa (au (bC a==some true) (some (x0,h)) h) fun f3 h=>
 aa (au (bC a==some true) (pu (nilCheckA f3) h) h) fun f4 h=>
 aa (au (bC a==some true) (pu (aL f4 2) h) h) fun f5 h=>
 aa (au (bC a==some true) (ld1 f5 h) h) fun f6 h=>
 aa (au (bC a==some true) (bZ 32 j h) h) fun f7 h=>
 aa (au (bC a==some true) (lookupA prog 124 f6 f7 false h) h) fun f8 h=>
 aa (au (bC a==some true) (pu (unA .not f8) h) h) fun f9 h=>
 aa (match a with | .bool t=>some (if t then f9 else (.bool false),h)|_=>none) fun g0 h=>
 (match g0 with
 | .bool true=>
 aa (some (x0,h)) fun g1 h=>
 aa (pu (nilCheckA g1) h) fun g2 h=>
 aa (pu (aL g2 1) h) fun g3 h=>
 aa (ld1 g3 h) fun g4 h=>
 aa (bZ 32 j h) fun g5 h=>
 aa (pu (aL b 0) h) fun g6 h=>
 aa (ld1 g6 h) fun g7 h=>
 aa (pu (aL b 1) h) fun g8 h=>
 aa (ld1 g8 h) fun g9 h=>
 aa (pu (cI g9) h) fun j0 h=>
 aa (pu (aL q 1) h) fun j1 h=>
 aa (ld1 j1 h) fun j2 h=>
 aa (pu (cI j2) h) fun j3 h=>
 aa (pu (dG [(.int .i64 0),(.int .i64 0),(.int .i64 0)] [(0,1,g7),(1,1,j0),(2,1,j3)]) h) fun j4 h=>
 aa (mapUpdateA prog 123 g4 g5 j4 h) fun _ h=>
 some (.tuple #[],h)
 | .bool false=>
 some (.tuple #[],h)
 |_=>none)
 | .bool false=>
 some (.tuple #[],h)
 |_=>none)
 |_=>none)
 |_=>none)
def pf:aY prog C f58 [x0,x1] h=t58 C x0 x1 h:=
 lkT (by kernel_rfl) (by kernel_rfl)
def k14_12 (C:ah) (e:aQ) (h:ae):ba:=codeK prog C (al f14 [1,1,1,1,1,1,1]) e h (resultsA prog f14.results.toList) (resultsA prog f14.results.toList) (fun _ _ _=>none)
def b14_14 (C:ah) (i:Nat) (e:aQ) (h:ae):ba:=if i=0 then (k14_12 C) e h else (fun _ _ _=>none) i e h
def t14 (C:ah) (x0 x1:Vl) (h:ae):ba:=
 aa (some ((.pointer none),h)) fun E h=>
 aa (some ((.int .i64 0),h)) fun F h=>
 aa (some (x0,h)) fun f h=>
 aa (pu (aE prog .eql 24 f (.pointer none)) h) fun g h=>
 (match g with
 | .bool true=>
 aa (some ((.pointer none),h)) fun a h=>
 aa (some ((.int .i64 1),h)) fun b h=>
 some (.tuple #[a,b],h)
 | .bool false=>
 aa (some (x1,h)) fun j h=>
 aa (pu (aE prog .lss 3 j (.int .i64 0)) h) fun k h=>
 (match k with
 | .bool true=>
 aa (some ((.pointer none),h)) fun a h=>
 aa (some ((.int .i64 2),h)) fun b h=>
 some (.tuple #[a,b],h)
 | .bool false=>
 aa (some (x0,h)) fun l h=>
 aa (C 57 [l] h) fun m h=>
 aa (some (m,h)) fun c h=>
 aa (pu (extractA c 0) h) fun n h=>
 aa (pu (extractA c 1) h) fun o h=>
 aa (pu (extractA c 2) h) fun p h=>
 aa (some (n,h)) fun q h=>
 aa (some (o,h)) fun r h=>
 aa (some (p,h)) fun d h=>
 aa (some (d,h)) fun s h=>
 aa (pu (aE prog .neq 25 s (.int .i64 0)) h) fun t h=>
 (match t with
 | .bool true=>
 aa (some (d,h)) fun G h=>
 aa (some ((.pointer none),h)) fun a h=>
 aa (some (G,h)) fun b h=>
 some (.tuple #[a,b],h)
 | .bool false=>
 aa (some (q,h)) fun u h=>
 aa (some (x1,h)) fun v h=>
 aa (eY none prog 123 h) fun w h=>
 aa (eY none prog 124 h) fun y h=>
 aa (pu (dG [(.int .u64 0),(.map none),(.map none)] [(1,1,w),(2,1,y)]) h) fun z h=>
 aa (pu (dG [(.pointer none),(.int .i64 0),(.int .u64 0),(.map none),(.map none),(.pointer none)] [(0,1,u),(1,1,v),(2,3,z)]) h) fun A h=>
 aa (box A h) fun B h=>
 aa (some (B,h)) fun H h=>
 aa (some (r,h)) fun D h=>
 aa (pu (cI D) h) fun I h=>
 aa (some ((.int .i64 0),h)) fun J h=>
 fb (iter (codeA prog C (al f14 [1,1,1,1,1,1,0,1,0,0])) aK (aT 69 (up (bs [x0,x1]) [(4,E),(5,F),(6,q),(7,r),(8,d),(9,H),(13,f),(14,g),(15,j),(16,k),(17,c),(18,l),(19,m),(20,n),(21,o),(22,p),(23,s),(24,t),(26,u),(27,v),(28,w),(29,y),(30,z),(31,A),(32,B),(33,D),(34,I),(35,J)])) h) (resultsA prog f14.results.toList) (b14_14 C)
 |_=>none)
 |_=>none)
 |_=>none)
def uQ (C:ah) (x:Nat->Vl) (h:ae):ba:=
 aa (some ((x 9),h)) fun f h=>
 aa (pu (nilCheckA f) h) fun g h=>
 aa (pu (aL g 2) h) fun j h=>
 aa (pu (aL j 0) h) fun k h=>
 aa (ld1 k h) fun l h=>
 aa (pu (aE prog .eql 52 l (.int .u64 18446744073709551615)) h) fun m h=>
 (match m with
 | .bool true=>
 aa (some ((.pointer none),h)) fun a h=>
 aa (some ((.int .i64 8),h)) fun b h=>
 some (.tuple #[a,b],h)
 | .bool false=>
 aa (some ((x 9),h)) fun c h=>
 aa (pu (nilCheckA c) h) fun n h=>
 aa (pu (aL n 2) h) fun o h=>
 aa (pu (aL o 0) h) fun p h=>
 aa (ld1 p h) fun q h=>
 aa (pu (aE prog .add 52 q (.int .u64 1)) h) fun r h=>
 aa (pu (nilCheckA c) h) fun s h=>
 aa (pu (aL s 2) h) fun t h=>
 aa (pu (aL t 0) h) fun u h=>
 aa (bX 1 u r h) fun _ h=>
 aa (some ((x 9),h)) fun v h=>
 aa (some ((x 9),h)) fun w h=>
 aa (pu (nilCheckA w) h) fun y h=>
 aa (pu (aL y 2) h) fun z h=>
 aa (C 59 [v,z,(.slice none 0 0)] h) fun A h=>
 aa (some (A,h)) fun d h=>
 aa (some (d,h)) fun B h=>
 aa (pu (aE prog .neq 25 B (.int .i64 0)) h) fun D h=>
 (match D with
 | .bool true=>
 aa (some (d,h)) fun E h=>
 aa (some ((.pointer none),h)) fun a h=>
 aa (some (E,h)) fun b h=>
 some (.tuple #[a,b],h)
 | .bool false=>
 aa (some ((x 9),h)) fun F h=>
 aa (some (F,h)) fun a h=>
 aa (some ((.int .i64 0),h)) fun b h=>
 some (.tuple #[a,b],h)
 |_=>none)
 |_=>none)
def gE (C:ah) (x:Nat->Vl) (h:ae):Option (Ex×aQ×ae):=
 aa (pu (aE prog .lss 3 (x 35) (x 34)) h) fun a h=>
 (match a with
 | .bool true=>
 aa (pu (idxS 2 (x 33) (x 35)) h) fun c h=>
 aa (bZ 2 c h) fun d h=>
 aa (dj [(.int .i64 0),(.slice none 0 0)] h) fun b h=>
 aa (bX 2 b d h) fun _ h=>
 aa (some ((x 9),h)) fun f h=>
 aa (pu (nilCheckA f) h) fun g h=>
 aa (pu (aL g 2) h) fun j h=>
 aa (bZ 2 b h) fun k h=>
 aa (C 58 [j,k] h) fun m h=>
 aa (pu (aE prog .add 3 (x 35) (.int .i64 1)) h) fun l h=>
 aa (some (l,h)) fun n h=>
 some (.normal,(aT 69 (up x [(11,b),(35,n),(36,a),(37,c),(38,d),(39,f),(40,g),(41,j),(42,k),(43,m),(44,l)])),h)
 | .bool false=>
 some (.exit 0,(aT 69 (up x [(36,a)])),h)
 |_=>none)
def t14_eq:aY prog C f14 [x0,x1] h=t14 C x0 x1 h:=
 lkT (by kernel_rfl) (by kernel_rfl)
def BW:k14_12 C (aT 69 x) h=uQ C x h:=
 bI (T:=uQ C) (fun x h=>by kernel_rfl) x h
def qU:codeA prog C (al f14 [1,1,1,1,1,1,0,1,0,0]) (aT 69 x) h=gE C x h:=
 aF (T:=gE C) (fun x h=>by kernel_rfl) x h
def t19 (C:ah) (x0 x1:Vl) (h:ae):ba:=
 aa (box x1 h) fun c h=>
 aa (dj fy h) fun a h=>
 aa (dj [(.int .i64 0),(.slice none 0 0)] h) fun b h=>
 aa (some ((.int .i64 0),h)) fun a6 h=>
 aa (some (x0,h)) fun j h=>
 aa (C 60 [j] h) fun k h=>
 aa (some (k,h)) fun f h=>
 aa (some (f,h)) fun l h=>
 aa (pu (aE prog .neq 25 l (.int .i64 0)) h) fun m h=>
 (match m with
 | .bool true=>
 aa (pu (dG fy []) h) fun R h=>
 aa (pu (dG [(.int .i64 0),(.slice none 0 0)] []) h) fun S h=>
 aa (some (f,h)) fun T h=>
 aa (bX 37 a R h) fun _ h=>
 aa (bX 2 b S h) fun _ h=>
 aa (some (T,h)) fun d h=>
 resultsA prog f19.results.toList (aT 56 (up (bs [x0,x1]) [(3,c),(4,a),(5,b),(6,d),(7,f),(14,j),(15,k),(16,l),(17,m),(18,R),(19,S),(20,T)])) h
 | .bool false=>
 aa (some (x0,h)) fun q h=>
 aa (pu (nilCheckA q) h) fun r h=>
 aa (pu (aL r 2) h) fun s h=>
 aa (pu (aL s 1) h) fun t h=>
 aa (ld1 t h) fun u h=>
 aa (bZ 32 c h) fun v h=>
 aa (lookupA prog 123 u v true h) fun w h=>
 aa (some (w,h)) fun n h=>
 aa (pu (extractA n 0) h) fun y h=>
 aa (pu (extractA n 1) h) fun z h=>
 aa (dj [(.int .i64 0),(.int .i64 0),(.int .i64 0)] h) fun o h=>
 aa (bX 3 o y h) fun _ h=>
 aa (some (z,h)) fun A h=>
 aa (some (A,h)) fun B h=>
 aa (pu (unA .not B) h) fun D h=>
 (match D with
 | .bool true=>
 aa (pu (dG fy []) h) fun U h=>
 aa (pu (dG [(.int .i64 0),(.slice none 0 0)] []) h) fun V h=>
 aa (bX 37 a U h) fun _ h=>
 aa (bX 2 b V h) fun _ h=>
 aa (some ((.int .i64 6),h)) fun d h=>
 resultsA prog f19.results.toList (aT 56 (up (bs [x0,x1]) [(3,c),(4,a),(5,b),(6,d),(7,f),(8,o),(9,A),(14,j),(15,k),(16,l),(17,m),(21,n),(22,q),(23,r),(24,s),(25,t),(26,u),(27,v),(28,w),(29,y),(30,z),(31,B),(32,D),(33,U),(34,V)])) h
 | .bool false=>
 aa (some (x0,h)) fun F h=>
 aa (bZ 32 c h) fun G h=>
 aa (bZ 3 o h) fun H h=>
 aa (C 65 [F,G,H] h) fun I h=>
 aa (some (I,h)) fun g h=>
 aa (pu (extractA g 0) h) fun J h=>
 aa (pu (extractA g 1) h) fun K h=>
 aa (pu (extractA g 2) h) fun L h=>
 aa (pu (extractA g 3) h) fun M h=>
 aa (dj fy h) fun E h=>
 aa (dj [(.int .i64 0),(.slice none 0 0)] h) fun p h=>
 aa (bX 37 E J h) fun _ h=>
 aa (bX 2 p K h) fun _ h=>
 aa (some (L,h)) fun W h=>
 aa (some (M,h)) fun N h=>
 aa (some (N,h)) fun O h=>
 aa (pu (unA .not O) h) fun P h=>
 (match P with
 | .bool true=>
 aa (some (x0,h)) fun X h=>
 aa (pu (nilCheckA X) h) fun Y h=>
 aa (pu (aL Y 2) h) fun Z h=>
 aa (pu (aL Z 1) h) fun a0 h=>
 aa (ld1 a0 h) fun a1 h=>
 aa (bZ 32 c h) fun a2 h=>
 aa (deleteA prog 123 a1 a2 h) fun _ h=>
 aa (pu (dG fy []) h) fun a3 h=>
 aa (pu (dG [(.int .i64 0),(.slice none 0 0)] []) h) fun a4 h=>
 aa (bX 37 a a3 h) fun _ h=>
 aa (bX 2 b a4 h) fun _ h=>
 aa (some ((.int .i64 42),h)) fun d h=>
 resultsA prog f19.results.toList (aT 56 (up (bs [x0,x1]) [(3,c),(4,a),(5,b),(6,d),(7,f),(8,o),(9,A),(10,E),(11,p),(12,W),(13,N),(14,j),(15,k),(16,l),(17,m),(21,n),(22,q),(23,r),(24,s),(25,t),(26,u),(27,v),(28,w),(29,y),(30,z),(31,B),(32,D),(35,g),(36,F),(37,G),(38,H),(39,I),(40,J),(41,K),(42,L),(43,M),(44,O),(45,P),(46,X),(47,Y),(48,Z),(49,a0),(50,a1),(51,a2),(52,a3),(53,a4)])) h
 | .bool false=>
 let g15_0:=h
 aa (bZ 37 E g15_0) fun a5 g15_1=>
 aa (bZ 2 p g15_1) fun Q g15_2=>
 aa (bX 37 a a5 g15_2) fun _ g15_3=>
 aa (bX 2 b Q g15_3) fun _ g15_4=>
 aa (some ((.int .i64 0),g15_4)) fun d g15_5=>
 (match (fP true (bZ 2 p g15_3) Q&&true) with
 |true=>
 let h:=g15_5
 resultsA prog f19.results.toList (aT 56 (up (bs [x0,x1]) [(3,c),(4,a),(5,b),(6,d),(7,f),(8,o),(9,A),(10,E),(11,p),(12,W),(13,N),(14,j),(15,k),(16,l),(17,m),(21,n),(22,q),(23,r),(24,s),(25,t),(26,u),(27,v),(28,w),(29,y),(30,z),(31,B),(32,D),(35,g),(36,F),(37,G),(38,H),(39,I),(40,J),(41,K),(42,L),(43,M),(44,O),(45,P),(54,a5),(55,Q)])) h
 |false=>none)
 |_=>none)
 |_=>none)
 |_=>none)
def CN:aY prog C f19 [x0,x1] h=t19 C x0 x1 h:=
 lkT (by kernel_rfl) (by kernel_rfl)
end
section
attribute [local congr] aC
def oG (h:ae) (n:Nat):ae:=(h.alloc ((Dk.new h n).img.map u8)).alloc (Dk.new h n).hdr
def new_is (h:ae) {n:Nat} (hn:n<=4096):br (oG h n) (h.next+1) (Dk.new h n):=by
 have hn0:=h.n0_le_next;refine ⟨?_,?_,by simp [Dk.new],?_,?_,?_,?_,hn,by simp [Dk.new],by simp [Dk.new]⟩
 ·unfold oG;rw [ae.aX,DR (by simp)]
 ·unfold oG;rw [ae.aX,DU (by simp [Dk.new]),ae.aX,show (Dk.new h n).bb=h.next from rfl,DR rfl]
 ·intro y hy;rw [show (Dk.new h n).img=List.replicate (128*n) 0 from rfl] at hy;rw [EZ hy];decide
 ·show h.n0<=h.next+1;omega
 ·show h.n0<=h.next;omega
 ·show h.next+1≠h.next;omega
def new_kept (h:ae) (n:Nat) (B:Nat->Prop):aw h (oG h n) B:=(aw.alloc h _ B).trans (aw.alloc _ _ B)
def zeros128 (n:Nat):dC (List.replicate 128 (.int .u8 0)) n=(List.replicate (128*n) 0).map u8:=by
 unfold dC;rw [List.map_replicate];induction n with
 |zero=>rfl
 |succ n ih=>
  rw [IN,GP,ih];simp only [E9,List.flatMap_nil,GM,u8];rw [show ((0:Nat):Int)=0 from rfl,List.replicate_append_replicate]
  congr 1
def mk128 {h:ae} {n:Nat} (hn:n<=4096) :
  mkR 128 128 (.agg (List.replicate 128 (Value.int .u8 0)).toArray) (ak n) (ak n) h=some (newSlice h n,h.alloc ((List.replicate (128*n) 0).map u8)):=by
 have hc:(Value.agg (List.replicate 128 (Value.int .u8 0)).toArray).cells=(List.replicate 128 (Value.int .u8 0)).toArray:=rfl;unfold mkR;simp only [hc];rw [DR (by simp only [DN,D7,beq_iff_eq];refine ⟨⟨⟨⟨⟨⟨by omega,Int.le_refl _⟩,by omega⟩,by omega⟩,by simp [bD,flat]⟩,by simp⟩,by decide⟩)]
 rw [Int.toNat_natCast,zeros128];rfl
def t13_is (C:ah) {h:ae} {n:Nat} (h4:4<=n) (hn:n<=4096):t13 C (ak n) h=some (.tuple #[ptr (h.next+1) 0,.int .i64 0],oG h n):=by
 have e1 : ¬((n:Int)<4):=by omega
 have e2 : ¬((n:Int)>4096):=by omega
 have e3:dG [(.slice none 0 0),(.bool false),(.bool false),(.int .i64 0),(.int .i64 0),(.int .i64 0)] [(0,1,newSlice h n)]=some (.agg (Dk.new h n).hdr.toArray):=rfl;have e4:box (.agg (Dk.new h n).hdr.toArray) (h.alloc ((List.replicate (128*n) 0).map u8))=some (ptr (h.next+1) 0,oG h n):=rfl;unfold t13;simp -implicitDefEqProofs only [af,bU,aj,e1,FN,aH,D6,az,dN,e2,DJ,D3,mk128 hn,e3,e4]
def Dk.l7 (h:ae) (n:Nat) (l:List Nat) (i:Nat):Dk:={ Dk.new h n with img:=l.take (128*i)++List.replicate (128*n-128*i) 0 }
def part_splice {n i:Nat} {l:List Nat} (hl:l.length=128*n) (hi:i<n):ey (l.take (128*i)++List.replicate (128*n-128*i) 0) (i*128) ((l.drop (128*i)).take 128)=l.take (128*(i+1))++List.replicate (128*n-128*(i+1)) 0:=by
 unfold ey;have h1:(l.take (128*i)).length=128*i:=by rw [E0];omega
 have h2:((l.drop (128*i)).take 128).length=128:=by rw [E0,FK];omega
 have e1:(l.take (128*i)++List.replicate (128*n-128*i) 0).take (i*128)=l.take (128*i):=by rw [IL i 128];exact List.take_left' h1
 have e2:(l.take (128*i)++List.replicate (128*n-128*i) 0).drop (i*128+128)=List.replicate (128*n-128*(i+1)) 0:=by rw [List.drop_append,List.drop_eq_nil_of_le (by omega),h1,List.drop_replicate,List.nil_append,show 128*n-128*i-(i*128+128-128*i)=128*n-128*(i+1) by omega]
 rw [h2,e1,e2];rw [show l.take (128*(i+1))=l.take (128*i)++(l.drop (128*i)).take 128 by rw [show 128*(i+1)=128*i+128 by omega,List.take_add]]
def part_is {h g:ae} {n:Nat} {l:List Nat} (hl:l.length=128*n) (hb : ∀ y∈l,y<256) (hn:n<=4096) {i:Nat} (hi:i<=n) (g0:g.n0=h.n0) (gh:g.get (h.next+1)=some (Dk.new h n).hdr) (gi:g.get h.next=some ((Dk.l7 h n l i).img.map u8)):br g (h.next+1) (Dk.l7 h n l i):=by
 have hn0:=h.n0_le_next;refine ⟨gh,gi,?_,?_,by rw [g0];omega,by rw [g0];exact hn0,by show h.next+1≠h.next;omega,hn,⟨Int.le_refl 0,by show (0:Int)<=_;omega⟩,⟨Int.le_refl 0,by show (0:Int)<=_;omega⟩⟩
 ·show (l.take (128*i)++List.replicate (128*n-128*i) 0).length=128*n;rw [DW,E0,HL];omega
 ·intro y hy;rcases EF.1 hy with hy|hy
  ·exact hb y (EH hy)
  ·rw [EZ hy];decide
def ldInv (h0:ae) (n:Nat) (l:List Nat) (a:Option Addr) (c:Nat) (k:Nat) (y:Nat->Vl) (g:ae):Prop:=
 ∃ i,i+k=n/\y 26=ak i/\y 25=ak n/\y 4=ptr (h0.next+1) 0/\y 0 = .slice a l.length c/\br g (h0.next+1) (Dk.l7 h0 n l i)/\aq a l.length g=some l/\aM h0 g
def ldFin (h0:ae) (n:Nat) (l:List Nat) (ex:Ex) (y:Nat->Vl) (g:ae):Prop:=
 ex = .exit 0/\y 4=ptr (h0.next+1) 0/\br g (h0.next+1) (Dk.l7 h0 n l n)/\aM h0 g
def ld_round {h0:ae} {n:Nat} {l:List Nat} {a:Option Addr} {c:Nat} (hl:l.length=128*n) (hn:n<=4096) (hg:ct a l.length c=true) (ha : ∀ y,a=some y->0<l.length->y.block<h0.next) :
  ∀ k y g,ldInv h0 n l a c k y g->dE 43 (ldInv h0 n l a c) (ldFin h0 n l) k (iJ CD y g):=by
 rintro k y g ⟨i,hk,y26,y25,y4,y0,xg,sl,old⟩;unfold iJ;simp -implicitDefEqProofs only [y26,y25,fF,af,aj];by_cases hi:i<n
 ·have hbb:(Dk.l7 h0 n l i).bb=h0.next:=rfl;have hnn:(Dk.l7 h0 n l i).n=n:=rfl;have hl0:=xg.l0;have himg:=xg.img;rw [hbb,hnn] at hl0;rw [hbb] at himg;have hix:idxS 128 (.slice (some ⟨h0.next,0,none⟩) n n) (ak i)=some (ptr h0.next (i*128)):=by unfold idxS;simp only [ak];rw [DR (by omega),Int.toNat_natCast,DK]
  have hmul:aE prog .mul 3 (ak i) (.int .i64 128)=some (ak (i*128)):=mul3 (b:=128) (by omega);have hcl:=jF hg;obtain ⟨a',c',s1,s2,s3⟩:=mZ (lo:=i*128) (hi:=l.length) (vl:=some (ak (i*128))) (vh:=none) hg sl (by omega) (by omega) rfl (by unfold boundA;simp only [ak];rw [DR (by omega),Int.toNat_natCast])
  have hlenI:(Dk.l7 h0 n l i).img.length=128*n:=xg.len;obtain ⟨g',f1,f2,f3,f4,f5⟩:=js (dl:=128) (dc:=128) (s:=none) (c:=c') himg (old.n0▸h0.n0_le_next) s2 (off:=i*128) (by omega);have hmin:min (l.length-i*128) 128=128:=by omega
  have htk:(((l.drop (i*128)).take (l.length-i*128)).take 128)=(l.drop (128*i)).take 128:=by rw [HX,GD (by omega),IL]
  rw [hmin,htk] at f4;have himgd:(Dk.l7 h0 n l i).img=l.take (128*i)++List.replicate (128*n-128*i) 0:=rfl;rw [himgd,part_splice hl hi] at f4;have hlt:i*128<=600000:=by omega
  simp -implicitDefEqProofs only [DS hi,y4,y0,af,av,aj,ax,DK,Nat.add_zero,hl0,hix,xD,hmul,s1,f1,ei (show i+1<=9223372036854775807 by omega)];have old':aM h0 g':=by refine ⟨f2.trans old.n0,by rw [f3];exact old.next,fun b hb hB => ?_⟩;rw [f5 b (by omega)];exact old.getB b hb (fun h=>h)
  have f5g : ∀ c,c≠_->g'.get c=g.get c:=fun c hc=>by unfold ae.get;rw [f5 c hc]
  refine dE.next (k-1) (by omega) ⟨i+1,by omega,rfl,y25,y4,y0,part_is hl ((ay sl).2.1) hn (by omega) (f2.trans old.n0) ?_ f4,?_,old'⟩
  ·rw [f5g _ (by omega)];exact xg.hdr
  ·rw [jt (h:=g)]
   ·exact sl
   ·intro y' hy';have:=ha y' hy' (by omega);exact f5g _ (by omega)
 ·simp -implicitDefEqProofs only [DP hi];have hin:i=n:=by omega
  subst hin;exact dE.out 0 ⟨rfl,y4,xg,old⟩
def is21:bJ prog 21 f21 := .of (by kernel_rfl)
def r13 (h:ae) {n:Nat} (h4:4<=n) (hn:n<=4096):CD 13 [ak n] h=some (.tuple #[ptr (h.next+1) 0,.int .i64 0],oG h n)/\br (oG h n) (h.next+1) (Dk.new h n)/\aM h (oG h n):=by refine ⟨aJ is13 rfl ((t13_eq _ _ _).trans ?_),new_is h (by omega),new_kept h n _⟩;exact t13_is CD h4 hn
def rem128 (n:Nat) (h:n<=100000000):aE prog .rem 3 (ak n) (.int .i64 128)=some (ak (n%128)):=by
 unfold ak;rw [vY _ _ _ _ _ (by decide)];have:((n:Nat):Int).tmod 128=((n%128:Nat):Int):=by rw [Int.tmod_eq_emod_of_nonneg (by omega)];omega
 rw [this]
def quo128 (n:Nat) (h:n<=100000000):aE prog .quo 3 (ak n) (.int .i64 128)=some (ak (n/128)):=by
 rw [show ak n=Value.int .i64 (n:Int) from rfl,sP _ _ _ _ _ (by decide)];have:((n:Nat):Int).tdiv 128=((n/128:Nat):Int):=by rw [H8 (by omega)];rfl
 rw [this,wrap_i64 (by omega) (by omega)]
def neq30 (a:Nat):aE prog .neq 3 (ak a) (.int .i64 0)=some (.bool (!(a==0))):=by
 unfold ak;rw [cS];cases a with
 |zero=>rfl
 |succ a=>rfl
def sff:((some false:Option Bool)==some false)=true:=rfl
def stf:((some true:Option Bool)==some false)=false:=rfl
def r13_no (h:ae) {n:Nat} (hn:n<4\/4096<n):CD 13 [ak n] h=some (.tuple #[.pointer none,.int .i64 2],h):=by
 refine aJ is13 rfl ((t13_eq _ _ _).trans ?_);unfold t13 ak;by_cases h1:n<4
 ·simp -implicitDefEqProofs only [af,bU,dN,aj,aH,DS (show ((n:Int)<4) by omega),az,aG,stf,D8]
 ·simp -implicitDefEqProofs only [af,bU,dN,aj,aH,DP (show ¬((n:Int)<4) by omega),DS (show ((n:Int)>4096) by omega),az,aG,sff,D3,DJ]
def b21_exit (C:ah) (e:aQ) (h:ae):b21_10 C 0 e h=k21_8 C e h:=rfl
def r21_no {h:ae} {a:Option Addr} {n c:Nat} (hn:n<=1000000) (hbad:n%128≠0\/n<512\/524288<n):CD 21 [.slice a n c] h=some (.tuple #[.pointer none,.int .i64 2],h):=by
 have hll:cI (.slice a n c)=some (ak n):=rfl;refine aJ is21 rfl ((t21_eq _ _ _).trans ?_);unfold t21;simp -implicitDefEqProofs only [af,hll,aj,rem128 n (by omega),neq30];by_cases h1:n%128=0
 ·have hb:(n%128==0)=true:=by rw [h1];rfl
  have e13:CD 13 [ak (n/128)] h=some (.tuple #[.pointer none,.int .i64 2],h):=r13_no h (by omega);have hx0 : ∀ a b:Vl,extractA (.tuple #[a,b]) 0=some a:=fun _ _=>rfl;have hx1 : ∀ a b:Vl,extractA (.tuple #[a,b]) 1=some b:=fun _ _=>rfl;simp -implicitDefEqProofs only [hb,EP,af,hll,aj,quo128 n (by omega),e13,hx0,hx1,cZ,show ((2:Int) != 0)=true from rfl]
 ·have hb:(n%128==0)=false:=by simpa using h1
  simp -implicitDefEqProofs only [hb,EJ]
def r21 {h:ae} {a:Option Addr} {c:Nat} {l:List Nat} (hs:aq a l.length h=some l) (hg:ct a l.length c=true) (h1:l.length%128=0) (h2:512<=l.length) (h3:l.length<=524288) : ∃ h',CD 21 [.slice a l.length c] h=some (.tuple #[ptr (h.next+1) 0,.int .i64 0],h')/\br h' (h.next+1) { Dk.new h (l.length/128) with img:=l }/\aM h h':=by
 have hlt : ∀ y,a=some y->0<l.length->y.block<h.next:=by intro y hy hp;obtain ⟨b,off,s,e,hb⟩:=du hs hp;rw [e] at hy;cases hy;exact hb
 have hll:cI (.slice a l.length c)=some (ak l.length):=rfl;have hn:l.length=128*(l.length/128):=by omega
 obtain ⟨e13,x13,o13⟩:=r13 h (n:=l.length/128) (by omega) (by omega);have hx0 : ∀ a b:Vl,extractA (.tuple #[a,b]) 0=some a:=fun _ _=>rfl;have hx1 : ∀ a b:Vl,extractA (.tuple #[a,b]) 1=some b:=fun _ _=>rfl;have hb:(l.length%128==0)=true:=by rw [h1];rfl
 have hq:=quo128 l.length (by omega);generalize l.length/128=n at *;have l0:ld1 (ptr (h.next+1) 0) (oG h n)=some (.slice (some ⟨h.next,0,none⟩) n n,oG h n):=x13.l0;have hln:cI (.slice (some ⟨h.next,0,none⟩) n n)=some (ak n):=rfl;have hp0:Dk.l7 h n l 0=Dk.new h n:=by unfold Dk.l7;show { Dk.new h n with img := []++List.replicate (128*n) 0 }=_;rfl
 have hpn:Dk.l7 h n l n={ Dk.new h n with img:=l }:=by unfold Dk.l7;rw [EB (by omega),HT,List.replicate_zero,GM]
 have key : ∀ o,t21 CD (.slice a l.length c) h=o -> ∃ h',o=some (.tuple #[ptr (h.next+1) 0,.int .i64 0],h')/\br h' (h.next+1) (Dk.l7 h n l n)/\aM h h':=by
  intro o ho;subst ho;unfold t21;simp -implicitDefEqProofs only [af,hll,aj,rem128 l.length (by omega),neq30,hb,EP,hq,e13,hx0,hx1,cZ,EW,av,ax,DK,l0,hln];refine cp (Q:=fun o:ba => ∃ h',o=some (.tuple #[ptr (h.next+1) 0,.int .i64 0],h')/\br h' (h.next+1) (Dk.l7 h n l n)/\aM h h')
   (cj (sS CD) (ld_round (h0:=h) (n:=n) (l:=l) (a:=a) (c:=c) hn (by omega) hg hlt) n (by have:aK=18446744073709551616:=rfl;omega)
    ⟨0,DK _,rfl,rfl,rfl,rfl,by rw [hp0];exact x13,aM.bytes o13 hs,o13⟩) ?_
  rintro ex z g ⟨rfl,z4,xg,og⟩;refine ⟨g,?_,xg,og⟩;simp -implicitDefEqProofs only [bK,b21_exit,t21k21_8_eq];unfold yO;simp -implicitDefEqProofs only [af,z4]
 obtain ⟨h',e,x,o⟩:=key _ rfl;rw [hpn] at x;exact ⟨h',aJ is21 rfl ((t21_eq _ _ _).trans e),x,o⟩
end
end
end Go.Proofs.YtdhpgacmgebjdaaGreatDoor.W
namespace Go.Proofs.YtdhpgacmgebjdaaGreatDoor.W
open Go Go.Abs Tryz R
noncomputable section
section
attribute [local congr] aC
def rpRec (at_:Nat) (r:List Nat) (inc:Nat) (M:DM It) (G:DM Unit):Nat×DM It×DM Unit:=
 if (pK r).1=1/\r.length=9 then (max inc ((pK r).2.eS 8).1,M,G)
 else if ((pK r).1=3\/(pK r).1=4)/\r.length=33 then (inc,M.del (r.drop 1),if (pK r).1=4 then G.put (r.drop 1) () else G)
 else if (pK r).1=2 then match eh r with
  |some (m,_,d)=>if (M.get (uA m)).isSome=false/\(G.get (uA m)).isSome=false then (inc,M.put (uA m) ⟨at_,r.length,d.length⟩,G) else (inc,M,G)
  |none=>(inc,M,G)
 else (inc,M,G)
def vj {s:Rd} (hb : ∀ x∈s.l,x<256) (n:Nat):(s.eS n).1<256^n:=Rd.mn hb n
def pX (a:Nat) (k:Nat):(((a:Nat):Int)==((k:Nat):Int))=decide (a=k):=by
 by_cases h:a=k
 ·rw [h,DS rfl];exact D6 _
 ·rw [DP h,GJ];omega
def x1 (a:Nat):aE prog .eql 155 (.int .u8 (a:Int)) (.int .u8 1)=some (.bool (decide (a=1))):=by rw [<-pX];exact dm ..
def x2 (a:Nat):aE prog .eql 155 (.int .u8 (a:Int)) (.int .u8 2)=some (.bool (decide (a=2))):=by rw [<-pX];exact dm ..
def x3 (a:Nat):aE prog .eql 155 (.int .u8 (a:Int)) (.int .u8 3)=some (.bool (decide (a=3))):=by rw [<-pX];exact dm ..
def x4 (a:Nat):aE prog .eql 155 (.int .u8 (a:Int)) (.int .u8 4)=some (.bool (decide (a=4))):=by rw [<-pX];exact dm ..
def y9 (a:Nat):aE prog .eql 3 (ak a) (.int .i64 9)=some (.bool (decide (a=9))):=by rw [<-pX];exact dm ..
def y33 (a:Nat):aE prog .eql 3 (ak a) (.int .i64 33)=some (.bool (decide (a=33))):=by rw [<-pX];exact dm ..
def sft:((some false:Option Bool)==some true)=false:=rfl
def stt:((some true:Option Bool)==some true)=true:=rfl
def is58:bJ prog 58 f58 := .of (by kernel_rfl)
def RpPost (h:ae) (tp o im gm:Nat) (kt:eW) (out:ba) (S:Nat×DM It×DM Unit):Prop:=
 ∃ g,out=some (.tuple #[],g)/\xh g tp o S.1 im gm S.2.1 S.2.2/\g.get tp=some (kt.set o (.int .u64 (S.1:Int)))/\aw h g (fun c=>c=tp\/c=im\/c=gm)
def te {k:eW} {i:Nat} {v:Vl} (h:k[i]? = some v):k.set i v=k:=by
 refine FA fun j => ?_;rw [FE];by_cases e:i=j
 ·subst e;rw [DR rfl,DR (D9.1 h).1,h]
 ·rw [DU e]
def xh.old {h g:ae} {tp o inc im gm:Nat} {M:DM It} {G:DM Unit} (t:xh h tp o inc im gm M G) (k:aM h g):xh g tp o inc im gm M G:=by obtain ⟨kt,c0,c1⟩:=t.c;exact ⟨⟨kt,aM.get k c0,c1⟩,t.it.old k,t.gr.old k,by rw [k.n0];exact t.im0,by rw [k.n0];exact t.gm0,t.ne,t.inc⟩
def fM.obj {α:Type} {V:α->Vl} {h:ae} {mb:Nat} {M:DM α} (m:fM V h mb M) : ∃ q,h.getB mb=some (.obj q):=by obtain ⟨es,ck,m1,_⟩:=m.ex;exact ⟨_,m1.get⟩
set_option maxRecDepth 100000 in
set_option maxHeartbeats 800000 in
def r58 {Z:ah} (z:zF Z) {h:ae} (T:RT h) {tp o inc im gm:Nat} {M:DM It} {G:DM Unit} (t:xh h tp o inc im gm M G) {kt:eW} (hkt:h.get tp=some kt) (tp0:h.n0<=tp) (at_:Nat) {ev:Vl} {r:List Nat} (bs:BS h ev r) (hl:r.length<=21000) :
  RpPost h tp o im gm kt (CV Z 58 [ptr tp o,pv at_ ev] h) (rpRec at_ r inc M G):=by
 obtain ⟨kt',c0,c1,c2,c3⟩:=t.c;rw [hkt] at c0;cases c0;have hn0:=h.n0_le_next;obtain ⟨qi,hqi⟩:=t.it.obj;obtain ⟨qg,hqg⟩:=t.gr.obj;have tpi:tp≠im:=cM hkt hqi;have tpg:tp≠gm:=cM hkt hqg;have iml:=h.lt_of_getB hqi;have gml:=h.lt_of_getB hqg;have tpl:=h.aW hkt;obtain ⟨h1,b1,o1,g1,n1⟩:=pbox (at_:Int) bs;have bs1:=bs.old o1;obtain ⟨a,c,rfl,sb,gd⟩:=bs1.ex;obtain ⟨rr,h2,e2,R2,o2,rl⟩:=R.r110 (c:=c) sb hl;obtain ⟨h3,e3,R3,k3,n3⟩:=q111 (s:=⟨r,0⟩) R2;have O2:=o1.trans o2;have O3:aM h h3:=aM.bu O2 k3 (by have:=o1.next;omega);have T1:=T.old o1;have e2:=jP z T1.n0 (by rfl) e2;have e3:=jP z (T.old O2).n0 (by rfl) e3;have e3:CV Z 111 [ptr rr 0] h2=some (.int .u8 ((pK r).1:Nat),h3):=e3;have q3:h3.get h.next=some [.int .i64 at_,.slice a r.length c]:=aw.getE k3 (aM.get o2 g1) (by have:=o1.next;omega);have la : ∀ {g:ae},g.get h.next=some [.int .i64 at_,.slice a r.length c]->ld1 (ptr h.next 1) g=some (.slice a r.length c,g):=fun hg=>aP hg rfl rfl;have t3:=t.old O3;have ll:cI (.slice a r.length c)=some (ak r.length):=rfl;have lt256:(pK r).1<256:=vj (s:=⟨r,0⟩) (ay sb).2.1 1;have keep : ∀ {g:ae},aM h g->xh g tp o inc im gm M G/\g.get tp=some (kt.set o (.int .u64 (inc:Int)))/\aw h g (fun c=>c=tp\/c=im\/c=gm):=fun O=>⟨t.old O,by rw [te c1];exact aM.get O hkt,O.mono (fun _ _ q=>q.elim)⟩
 by_cases k1:(pK r).1=1
 ·by_cases n9:r.length=9
  ·
   obtain ⟨h4,e4,R4,k4,n4⟩:=q112 (s:=(pK r).2) R3;have e4:=jP z (T.old O3).n0 (by rfl) e4;have O4:aM h h4:=aM.bu O3 k4 (by have:=o1.next;omega);have hv:((pK r).2.eS 8).1<18446744073709551616:=vj (R.IsR.byte R3) 8;obtain ⟨h5,e5,k5,g5,_,n5⟩:=stored (v := .int .u64 ((max inc ((pK r).2.eS 8).1:Nat):Int)) (o:=o) (aM.get O4 hkt) (by rw [O4.n0];exact tp0) (D9.1 c1).1 rfl rfl;have L0 : ∀ {g:ae},aM h g->ld1 (ptr tp o) g=some (.int .u64 (inc:Int),g):=fun O=>aP (aM.get O hkt) c1 rfl;have hr:rpRec at_ r inc M G=(max inc ((pK r).2.eS 8).1,M,G):=by unfold rpRec;rw [DR ⟨k1,n9⟩]
   have ck:=eQ (L0 O4) (show Abs.veq (.int .u64 (inc:Int)) (.int .u64 (inc:Int))=true by simp [Abs.veq]);rw [hr];refine ⟨h5,cY z is58 rfl ((pf _ _ _ _).trans ?_),⟨⟨_,g5,by rw [FE,DR rfl,DR (D9.1 c1).1],by rw [FE,DU (by omega)];exact c2,by rw [FE,DU (by omega)];exact c3⟩,(t.it.old O4).kept k5 (fun q=>tpi q.symm),(t.gr.old O4).kept k5 (fun q=>tpg q.symm),by rw [k5.n0,O4.n0];exact t.im0,by rw [k5.n0,O4.n0];exact t.gm0,t.ne,by have:=t.inc;omega⟩,g5,(O4.mono (fun _ _ q=>q.elim)).trans (k5.mono (fun c _ q => .inl q))⟩;unfold t58;simp -implicitDefEqProofs only [b1,ax,DK,Nat.add_zero,la g1,e2,e3,x1,DS k1,aH,stt,az,la q3,ll,y9,DS n9,D8,av,L0 O3,e4,mx64,e5,ck,EY,af,aj]
  ·have hr:rpRec at_ r inc M G=(inc,M,G):=by unfold rpRec;rw [DU (fun q=>n9 q.2),DU (by omega),DU (by omega)]
   rw [hr];obtain ⟨p1,p2,p3⟩:=keep O3;refine ⟨h3,cY z is58 rfl ((pf _ _ _ _).trans ?_),p1,p2,p3⟩;unfold t58;simp -implicitDefEqProofs only [b1,ax,DK,Nat.add_zero,la g1,e2,e3,x1,DS k1,aH,stt,az,la q3,ll,y9,DP n9,D8,x3,DP (show ¬(pK r).1=3 by omega),x4,DP (show ¬(pK r).1=4 by omega),x2,DP (show ¬(pK r).1=2 by omega),sff,sft,aG,D3,DJ,af,aj]
 ·by_cases k34:(pK r).1=3\/(pK r).1=4
  ·by_cases n33:r.length=33
   ·
    have mW:eE (r.drop 1):=⟨by rw [FK,n33],fun x hx=>(ay sb).2.1 x (ET hx)⟩
    obtain ⟨h4,z4,o4,q4,n4⟩:=fresh (List.replicate 32 (.int .u8 0)) h3;have O4:=O3.trans o4;have q34:=aM.get o4 q3;have sb4:aq a r.length h4=some r:=aM.bytes o4 (k3.bytes (aM.bytes o2 sb) fun y hy hn e=>by subst hy;obtain ⟨b',o',s',e',hlt⟩:=du sb hn;cases e';have:b'=rr:=e;have:=o2.next;omega)
    obtain ⟨a5,c5,e5,s5,g5,_⟩:=nm (vl:=some (.int .i64 1)) (vh:=none) (lo:=1) (hi:=r.length) (gd (by omega)) sb4 (by omega) (DO _) rfl (by have:=jF (gd (by omega));simp only [boundA];rw [DR (by omega)];rfl)
    have lt:(r.drop 1).take (r.length-1)=r.drop 1:=by rw [EB (by rw [FK];exact DO _)]
    rw [lt] at s5;rw [show r.length-1=32 by omega] at e5 s5;obtain ⟨h6,e6,k6,q6,n6⟩:=copy_min (A := []) (B:=List.replicate 32 (.int .u8 0)) (C := []) (off:=0) (dn:=32) (dc:=32) (c:=c5) (k:=32) (s:=none) (by simpa using q4) (by rw [o4.n0];exact h3.n0_le_next) rfl (by simp) s5 rfl (by decide);have q6:h6.get h3.next=some (bA (r.drop 1)):=by have:=q6;rw [EB (by rw [mW.1];exact DO _)] at this;simpa using this
    have O6:aM h h6:=aM.bu O4 k6 (by have:=O3.next;omega);have l6 : ∀ {g:ae},g.get h3.next=some (bA (r.drop 1))->bZ 32 (ptr h3.next 0) g=some (kV (r.drop 1),g):=fun hg=>aV hg (bf mW) (bh _).1;have LI : ∀ {g:ae},g.get tp=some kt->ld1 (ptr tp (o+1)) g=some (.map (some im),g):=fun hg=>aP hg c2 rfl;have LG : ∀ {g:ae},g.get tp=some kt->ld1 (ptr tp (o+2)) g=some (.map (some gm),g):=fun hg=>aP hg c3 rfl;obtain ⟨h7,e7,it7,k7,n7⟩:=deD (t.it.old O6) (by rw [O6.n0];exact t.im0) mA mW;have t7:h7.get tp=some kt:=aw.getE k7 (aM.get O6 hkt) tpi;have gr7:fM grV h7 gm G:=(t.gr.old O6).kept k7 (fun q=>t.ne q.symm);have q7:h7.get h3.next=some (bA (r.drop 1)):=aw.getE k7 q6 (by have:=O3.next;omega);have K7:aw h h7 (fun c=>c=tp\/c=im\/c=gm):=(O6.mono (fun _ _ q=>q.elim)).trans (k7.mono (fun c _ q => .inr (.inl q)));have cond:(decide ((pK r).1=3)=true/\(pK r).1=3)\/(decide ((pK r).1=3)=false/\(pK r).1=4):=by
     by_cases h3:(pK r).1=3
     ·exact .inl ⟨DS h3,h3⟩
     ·exact .inr ⟨DP h3,by omega⟩
    have e6:iv 1 (.slice (some ⟨h3.next,0,none⟩) 32 32) (.slice a5 32 c5) h4=some (ak 32,h6):=e6;rcases cond with ⟨d3,k3'⟩|⟨d3,k4'⟩
    ·have hr:rpRec at_ r inc M G=(inc,M.del (r.drop 1),G):=by unfold rpRec;rw [DU (fun q=>k1 q.1),DR ⟨k34,n33⟩,DU (by omega)]
     rw [hr];refine ⟨h7,cY z is58 rfl ((pf _ _ _ _).trans ?_),⟨⟨kt,t7,c1,c2,c3⟩,it7,gr7,by rw [K7.n0];exact t.im0,by rw [K7.n0];exact t.gm0,t.ne,t.inc⟩,by rw [te c1];exact t7,K7⟩;unfold t58;simp -implicitDefEqProofs only [b1,ax,DK,Nat.add_zero,la g1,e2,e3,x1,DP k1,aH,sft,stt,stf,az,aG,D3,DJ,x3,d3,D8,la q3,ll,y33,DS n33,z4,tK,la q34,e5,e6,av,LI (aM.get O6 hkt),l6 q6,e7,x4,DP (show ¬(pK r).1=4 by omega),af,aj]
    ·obtain ⟨h8,e8,gr8,k8,n8⟩:=muD (V:=grV) gr7 (by rw [K7.n0];exact t.gm0) map124 mW ();have e8:mapUpdateA prog 124 (.map (some gm)) (kV (r.drop 1)) (.bool true) h7=some (undef,h8):=e8;have hr:rpRec at_ r inc M G=(inc,M.del (r.drop 1),G.put (r.drop 1) ()):=by unfold rpRec;rw [DU (fun q=>k1 q.1),DR ⟨k34,n33⟩,DR k4']
     have K8:=K7.trans (k8.mono (fun c _ q=>(.inr (.inr q):c=tp\/c=im\/c=gm)));have t8:h8.get tp=some kt:=aw.getE k8 t7 tpg;rw [hr];refine ⟨h8,cY z is58 rfl ((pf _ _ _ _).trans ?_),⟨⟨kt,t8,c1,c2,c3⟩,it7.kept k8 (fun q=>t.ne q),gr8,by rw [K8.n0];exact t.im0,by rw [K8.n0];exact t.gm0,t.ne,t.inc⟩,by rw [te c1];exact t8,K8⟩;unfold t58;simp -implicitDefEqProofs only [b1,ax,DK,Nat.add_zero,la g1,e2,e3,x1,DP k1,aH,sft,sff,stt,stf,az,aG,D3,DJ,x3,d3,D8,la q3,ll,y33,DS n33,z4,tK,la q34,e5,e6,av,LI (aM.get O6 hkt),l6 q6,e7,x4,DS k4',LG t7,l6 q7,e8,af,aj]
   ·have hr:rpRec at_ r inc M G=(inc,M,G):=by unfold rpRec;rw [DU (fun q=>k1 q.1),DU (fun q=>n33 q.2),DU (by omega)]
    rw [hr];obtain ⟨p1,p2,p3⟩:=keep O3;refine ⟨h3,cY z is58 rfl ((pf _ _ _ _).trans ?_),p1,p2,p3⟩;unfold t58;by_cases k3':(pK r).1=3
    ·simp -implicitDefEqProofs only [b1,ax,DK,Nat.add_zero,la g1,e2,e3,x1,DP k1,aH,sft,sff,stt,stf,az,aG,D3,DJ,x3,DS k3',D8,la q3,ll,y33,DP n33,x2,DP (show ¬(pK r).1=2 by omega),af,aj]
    ·simp -implicitDefEqProofs only [b1,ax,DK,Nat.add_zero,la g1,e2,e3,x1,DP k1,aH,sft,sff,stt,stf,az,aG,D3,DJ,x3,DP k3',x4,DS (show (pK r).1=4 by omega),D8,la q3,ll,y33,DP n33,x2,DP (show ¬(pK r).1=2 by omega),af,aj]
  ·by_cases k2:(pK r).1=2
   ·
    have bs3:BS h3 (.slice a r.length c) r:=by refine .of (k3.bytes (aM.bytes o2 sb) fun y hy hn e => ?_) gd;subst hy;obtain ⟨b',o',s',e',hlt⟩:=du sb hn;cases e';have:b'=rr:=e;have:=o2.next;omega
    obtain ⟨h4,o4,P4⟩:=r113 (T.old O3) bs3 hl;have O4:=O3.trans o4;have go : ∀ (A B:List Vl) (q:List Nat) (b:Bool) (dv:Vl) (dl:Nat),MPc A B->eE q->CD 113 [.slice a r.length c] h3=some (.tuple #[.agg A.toArray,.agg B.toArray,kV q,.bool b],h4)->(b=true->B[1]? = some dv/\cw dv=false/\cI dv=some (ak dl)) ->
      RpPost h tp o im gm kt (CV Z 58 [ptr tp o,pv at_ (.slice a r.length c)] h) (if b=true/\(M.get q).isSome=false/\(G.get q).isSome=false then (inc,M.put q ⟨at_,r.length,dl⟩,G) else (inc,M,G)):=by
     intro A B q b dv dl hM wq c4 hB;obtain ⟨A0,A1,A2,B0,B1,B2⟩:=hM;have c4:=jP z (T.old O3).n0 (by rfl) c4;obtain ⟨h5,z5,o5,g5,n5⟩:=fresh zM h4;obtain ⟨h6,z6,o6,g6,n6⟩:=fresh zP h5;obtain ⟨h7,z7,o7,g7,n7⟩:=fresh (List.replicate 32 (.int .u8 0)) h6;have P7:=(o5.trans o6).trans o7;obtain ⟨h8,t8,k8,g8,_,n8⟩:=aR (n:=37) (k':=A) (aM.get (o6.trans o7) g5) (by rw [P7.n0];exact h4.n0_le_next) rfl A0 A1;have P8:aM h4 h8:=aM.bu P7 k8 (DO _);obtain ⟨h9,t9,k9,g9,_,n9⟩:=aR (n:=2) (k':=B) (aw.getE k8 (aM.get o7 g6) (by omega)) (by rw [P8.n0];have:=h4.n0_le_next;omega) rfl B0 B1;have P9:aM h4 h9:=aM.bu P8 k9 (by omega);obtain ⟨h10,t10,k10,g10,_,n10⟩:=aR (n:=32) (k':=bA q) (aw.getE k9 (aw.getE k8 g7 (by omega)) (by omega)) (by rw [P9.n0];have:=h4.n0_le_next;omega) rfl (bf wq) (bh q).2;have P10:aM h4 h10:=aM.bu P9 k10 (by omega);have O10:=O4.trans P10;have LI : ∀ {g:ae},g.get tp=some kt->ld1 (ptr tp (o+1)) g=some (.map (some im),g):=fun hg=>aP hg c2 rfl;have LG : ∀ {g:ae},g.get tp=some kt->ld1 (ptr tp (o+2)) g=some (.map (some gm),g):=fun hg=>aP hg c3 rfl;have lq : ∀ {g:ae},g.get h6.next=some (bA q)->bZ 32 (ptr h6.next 0) g=some (kV q,g):=fun hg=>aV hg (bf wq) (bh _).1;obtain ⟨lk,_⟩:=lkD (t.it.old O10) mA tm (itG _) wq;rw [pB] at lk;obtain ⟨h11,h12,z11,t12,o12,q12,n12⟩:=xW ((M.get q).getD zI) h10;have O12:=O10.trans o12;obtain ⟨_,lg⟩:=lkD (t.gr.old O12) map124 zero4 rfl wq;rw [getD_grV] at lg;have q12q:h12.get h6.next=some (bA q):=aM.get o12 g10;have q12e:h12.get h.next=some [.int .i64 at_,.slice a r.length c]:=aM.get (o4.trans (P10.trans o12)) q3;have same : ∀ (p:Bool),b=false\/(M.get q).isSome=true\/(G.get q).isSome=true->t58 (CV Z) (ptr tp o) (pv at_ (.slice a r.length c)) h=some (.tuple #[],h12)->RpPost h tp o im gm kt (CV Z 58 [ptr tp o,pv at_ (.slice a r.length c)] h) (if b=true/\(M.get q).isSome=false/\(G.get q).isSome=false then (inc,M.put q ⟨at_,r.length,dl⟩,G) else (inc,M,G)):=fun _ hc he=>by
      rw [DU (by rintro ⟨a1,a2,a3⟩;rw [a1,a2,a3] at hc;simp at hc)]
      obtain ⟨p1,p2,p3⟩:=keep O12;exact ⟨h12,cY z is58 rfl ((pf _ _ _ _).trans he),p1,p2,p3⟩
     cases b with
     |false=>
      refine same true (.inl rfl) ?_;unfold t58;simp -implicitDefEqProofs only [b1,ax,DK,Nat.add_zero,la g1,e2,e3,x1,DP k1,aH,sft,sff,stt,stf,az,aG,D3,DJ,x3,DP (show ¬(pK r).1=3 by omega),x4,DP (show ¬(pK r).1=4 by omega),x2,DS k2,la q3,c4,zS,zH,AG,Aj,z5,z6,z7,t8,t9,t10,av,LI (aM.get O10 hkt),lq g10,lk,gZ,iC,z11,t12,af,aj]
     |true=>
      obtain ⟨B1v,B1h,B1l⟩:=hB rfl;rcases (M.get q).isSome.eq_false_or_eq_true with hm|hm
      ·
       rw [hm] at lk;refine same true (.inr (.inl hm)) ?_;unfold t58;simp -implicitDefEqProofs only [b1,ax,DK,Nat.add_zero,la g1,e2,e3,x1,DP k1,aH,sft,sff,stt,stf,az,aG,D3,DJ,x3,DP (show ¬(pK r).1=3 by omega),x4,DP (show ¬(pK r).1=4 by omega),x2,DS k2,la q3,c4,zS,zH,AG,Aj,z5,z6,z7,t8,t9,t10,av,LI (aM.get O10 hkt),lq g10,lk,gZ,iC,z11,t12,dp,EP,D8,af,aj]
      ·
       rw [hm] at lk;rcases (G.get q).isSome.eq_false_or_eq_true with hg|hg
       ·
        rw [hg] at lg;refine same true (.inr (.inr hg)) ?_;unfold t58;simp -implicitDefEqProofs only [b1,ax,DK,Nat.add_zero,la g1,e2,e3,x1,DP k1,aH,sft,sff,stt,stf,az,aG,D3,DJ,x3,DP (show ¬(pK r).1=3 by omega),x4,DP (show ¬(pK r).1=4 by omega),x2,DS k2,la q3,c4,zS,zH,AG,Aj,z5,z6,z7,t8,t9,t10,av,LI (aM.get O10 hkt),lq g10,lk,gZ,iC,z11,t12,dp,EP,EJ,D8,LG (aM.get O12 hkt),lq q12q,lg,af,aj]
       ·
        rw [hg] at lg;have l8:ld1 (ptr h5.next 1) h12=some (dv,h12):=aP (aM.get o12 (aw.getE k10 g9 (by omega))) B1v B1h;have l0:ld1 (ptr h.next 0) h12=some (.int .i64 at_,h12):=aP q12e rfl rfl;obtain ⟨h13,e13,it13,k13,n13⟩:=muD (V:=rk) (t.it.old O12) (by rw [O12.n0];exact t.im0) mA wq (⟨at_,r.length,dl⟩:It);have K13:aw h h13 (fun c=>c=tp\/c=im\/c=gm):=(O12.mono (fun _ _ q=>q.elim)).trans (k13.mono (fun c _ q => .inr (.inl q)));have t13:h13.get tp=some kt:=aw.getE k13 (aM.get O12 hkt) tpi;have bi:dG [(.int .i64 0),(.int .i64 0),(.int .i64 0)] [(0,1,.int .i64 (at_:Int)),(1,1,ak r.length),(2,1,ak dl)]=some (rk ⟨at_,r.length,dl⟩):=rfl;rw [DR ⟨rfl,hm,hg⟩];refine ⟨h13,cY z is58 rfl ((pf _ _ _ _).trans ?_),⟨⟨kt,t13,c1,c2,c3⟩,it13,(t.gr.old O12).kept k13 (fun q=>t.ne q.symm),by rw [K13.n0];exact t.im0,by rw [K13.n0];exact t.gm0,t.ne,t.inc⟩,by rw [te c1];exact t13,K13⟩;unfold t58;simp -implicitDefEqProofs only [b1,ax,DK,Nat.add_zero,la g1,e2,e3,x1,DP k1,aH,sft,sff,stt,stf,az,aG,D3,DJ,x3,DP (show ¬(pK r).1=3 by omega),x4,DP (show ¬(pK r).1=4 by omega),x2,DS k2,la q3,c4,zS,zH,AG,Aj,z5,z6,z7,t8,t9,t10,av,LI (aM.get O10 hkt),LI (aM.get O12 hkt),lq g10,lk,gZ,iC,z11,t12,dp,EP,EJ,D8,LG (aM.get O12 hkt),lq q12q,lg,l0,la q12e,ll,l8,B1l,bi,e13,af,aj]
    have hr:rpRec at_ r inc M G=match eh r with
      |some (m,_,d)=>if (M.get (uA m)).isSome=false/\(G.get (uA m)).isSome=false then (inc,M.put (uA m) ⟨at_,r.length,d.length⟩,G) else (inc,M,G)
      |none=>(inc,M,G):=by
     unfold rpRec;rw [DU (fun q=>k1 q.1),DU (fun q=>k34 q.1),DR k2]
    rw [hr];cases hp:eh r with
    |none=>
     rw [hp] at P4;have:=go zM zP z32 false (.slice none 0 0) 0 ⟨rfl,rfl,rfl,rfl,rfl,rfl⟩ z32_d P4 (fun q=>by cases q);rw [DU (by simp)] at this;exact this
    |some p=>
     obtain ⟨m,ix,d⟩:=p;rw [hp] at P4;obtain ⟨v,dv,e4,X,Bd,_,_⟩:=P4;have:=go (dL m v) [.int .i64 ix,dv] (uA m) true dv d.length ⟨X.ok.1,X.ok.2.2,X.ok.2.1,rfl,by simp [aN,Bd.cell.2.1,show (Value.int .i64 (ix:Int)).oneCell'=true from rfl],by simp [Abs.noHoles,Bd.cell.1,show cw (Value.int .i64 (ix:Int))=false from rfl]⟩ (Cc m) e4 (fun _=>⟨rfl,Bd.cell.1,Bd.len⟩);simp only [true_and] at this;exact this
   ·have hr:rpRec at_ r inc M G=(inc,M,G):=by unfold rpRec;rw [DU (fun q=>k1 q.1),DU (fun q=>k34 q.1),DU k2]
    rw [hr];obtain ⟨p1,p2,p3⟩:=keep O3;refine ⟨h3,cY z is58 rfl ((pf _ _ _ _).trans ?_),p1,p2,p3⟩;unfold t58;simp -implicitDefEqProofs only [b1,ax,DK,Nat.add_zero,la g1,e2,e3,x1,DP k1,aH,sft,sff,stt,stf,az,aG,D3,DJ,x3,DP (show ¬(pK r).1=3 by omega),x4,DP (show ¬(pK r).1=4 by omega),x2,DP k2,af,aj]
end
end
end Go.Proofs.YtdhpgacmgebjdaaGreatDoor.W
namespace Go.Proofs.YtdhpgacmgebjdaaGreatDoor.W
open Go Go.Abs
noncomputable section
section
attribute [local congr] aC
def BG (D:Dk) (t:Int):((D.openJ t).slot,(D.openJ t).gen,(D.openJ t).area) =
  if dz (D.blk 1)=true/\(dz (D.blk 0)=false\/bS (D.blk 0)<bS (D.blk 1)) then (1,bS (D.blk 1),eo (D.blk 1))
  else if dz (D.blk 0)=true then (0,bS (D.blk 0),eo (D.blk 0)) else (-1,0,0):=by
 have h:(D.openJ t).un=_:=D.openJ_un t;have h1:(D.openJ t).slot=(D.openJ t).un.slot:=rfl;have h2:(D.openJ t).gen=(D.openJ t).un.gen:=rfl;have h3:(D.openJ t).area=(D.openJ t).un.area:=rfl;rw [h1,h2,h3,h];cases k1:dz (D.blk 1) with
 |false=>
  simp only [DJ,D3,false_and];cases k0:dz (D.blk 0) with
  |false=>rfl
  |true=>rw [DR rfl,DR rfl,Dk.xO];rfl
 |true=>
  rw [DR rfl];cases k0:dz (D.blk 0) with
  |false=>rw [DU (by decide),DR ⟨rfl,.inl rfl⟩,Dk.xO];rfl
  |true=>
   rw [DR rfl,Dk.xO];by_cases hg:bS (D.blk 0)<bS (D.blk 1)
   ·rw [DR ⟨rfl,.inr hg⟩];unfold Jn.takeSuper;rw [DR (.inr hg)];rfl
   ·rw [DU (by rintro ⟨_,h|h⟩;cases h;exact hg h),DR rfl];unfold Jn.takeSuper;rw [DU (by rintro (h|h);exact absurd h (by show ¬(((0:Nat):Int)<0);decide);exact hg h)];rfl
def openJ_area (D:Dk) (t:Int):(D.openJ t).area<=1:=by
 have h:=BG D t;split at h
 ·rename_i hk;simp only [DQ] at h;rw [h.2.2];exact ke hk.1
 ·split at h
  ·rename_i hk;simp only [DQ] at h;rw [h.2.2];exact ke hk
  ·simp only [DQ] at h;rw [h.2.2];omega
def kQ (D:Dk) (s:Nat) (J:Jn):(J.takeSuper D s).turn=J.turn/\(J.takeSuper D s).ready=J.ready/\(J.takeSuper D s).fin=J.fin:=by unfold Jn.takeSuper;split<;>exact ⟨rfl,rfl,rfl⟩
def openJ_rest (D:Dk) (t:Int):(D.openJ t).turn=t/\(D.openJ t).ready=false/\(D.openJ t).fin=0:=by
 have h:(D.openJ t).un=_:=D.openJ_un t;have h1:(D.openJ t).turn=(D.openJ t).un.turn:=rfl;have h2:(D.openJ t).ready=(D.openJ t).un.ready:=rfl;have h3:(D.openJ t).fin=(D.openJ t).un.fin:=rfl;rw [h1,h2,h3,h];have a:=kQ D 0 (D.jn0 t);have b:=kQ D 1 (D.jn0 t);have c:=kQ D 1 ((D.jn0 t).takeSuper D 0);have z:(D.jn0 t).turn=t/\(D.jn0 t).ready=false/\(D.jn0 t).fin=0:=⟨rfl,rfl,rfl⟩
 split<;>split<;>simp only [a,b,c,z,and_self]
def vT.of_n {J:Jn} {D D':Dk} (k:vT J D) (h:D'.n=D.n):vT J D':=⟨k.slot,k.area,k.gen,k.known,fun hr=>by
 have:=k.ready hr;have har:D'.ar=D.ar:=by unfold Dk.ar;rw [h]
 rw [har];exact this⟩
def rewrite_jok {J:Jn} {D:Dk} {vals:List (List Nat)} (ok:vT J D) (hn:(J.rewrite D vals).2.1.n=D.n):vT (J.rewrite D vals).2.2.1 (J.rewrite D vals).2.1:=by
 refine vT.of_n (D:=D) ?_ hn;unfold Jn.rewrite;split
 ·exact ok
 split
 ·exact ok
 split
 ·exact ok
 rename_i h1 h2 h3;split
 ·split
  ·have hk:=ok.known;refine ⟨?_,J.newArea_le,by show J.known+1<_;omega,by show J.known+1<_;omega,fun _ => ?_⟩
   ·show J.newSlot = -1\/J.newSlot=0\/J.newSlot=1;have:=ok.slot;unfold Jn.newSlot;split<;>omega
   ·show bH vals<=D.ar/\0<=J.newSlot;refine ⟨by omega,?_⟩;have:=ok.slot;unfold Jn.newSlot;split<;>omega
  ·exact ok
 ·exact ok
def be8_lt {l:List Nat} (hl:l.length<=8) (hb : ∀ x∈l,x<256):be l<18446744073709551616:=by have h1:=pN _ l rfl hb;have h2:=IB (n:=256) (by decide) hl;omega
def openJ_jok {D:Dk} (hb : ∀ y∈D.img,y<256) (t:Int):vT (D.openJ t) D:=by
 have hblk : ∀ i,∀ y∈D.blk i,y<256:=fun i y hy=>hb y (ET (EH hy));have hsg : ∀ i,bS (D.blk i)<18446744073709551616:=fun i=>be8_lt (II ..) (fun y hy=>hblk i y (ET (EH hy)));have hlg : ∀ s p,cm (D.jb s p)<18446744073709551616:=fun s p=>be8_lt (II ..) (fun y hy=>hblk _ y (ET (EH hy)));have hk:(D.openJ t).known<=18446744073709551615:=Knows.openJ ⟨fun s _ p _ _=>by have:=hlg s p;omega,fun s _ _=>by have:=hsg s;omega⟩ t;have h:=BG D t;have hg:((D.openJ t).slot = -1\/(D.openJ t).slot=0\/(D.openJ t).slot=1)/\(D.openJ t).gen<18446744073709551616:=by
  split at h
  ·simp only [DQ] at h;exact ⟨.inr (.inr h.1),by rw [h.2.1];exact hsg 1⟩
  ·split at h
   ·simp only [DQ] at h;exact ⟨.inr (.inl h.1),by rw [h.2.1];exact hsg 0⟩
   ·simp only [DQ] at h;exact ⟨.inl h.1,by rw [h.2.1];omega⟩
 exact ⟨hg.1,openJ_area D t,hg.2,by omega,fun hr=>by rw [(openJ_rest D t).2.1] at hr;cases hr⟩
end
end
end Go.Proofs.YtdhpgacmgebjdaaGreatDoor.W
namespace Go.Proofs.YtdhpgacmgebjdaaGreatDoor.W
open Go Go.Abs R
noncomputable section
section
attribute [local congr] aC
def np {D:Dk} {J:Jn} : ∀ (k at_:Nat),(D.ents J k at_).length<=k /\ ∀ e∈D.ents J k at_,e.2.length<=106*D.ar
 | 0,at_=>⟨DO _,fun e he=>by cases he⟩
 |k+1,at_=>by
  unfold Dk.ents;split
  ·rename_i hlt;split
   ·rename_i hs;obtain ⟨h1,h2⟩:=np (D:=D) (J:=J) k (at_+D.parts J.area at_);refine ⟨by rw [List.length_cons];omega,fun e he => ?_⟩;rcases EN.1 he with rfl|he
    ·obtain ⟨_,_,h3⟩:=my hs;have h4:=Dk.nv h3;rw [Int.toNat_natCast] at h4;have h5:=D.data_length J.area at_ (D.parts J.area at_);have:=IH 106 (show D.parts J.area at_<=D.ar by omega);show (D.data J.area at_ (D.parts J.area at_)).length<=_;omega
    ·exact h2 e he
   ·obtain ⟨h1,h2⟩:=np (D:=D) (J:=J) k (at_+1);exact ⟨by omega,h2⟩
  ·exact ⟨FB _,fun e he=>by cases he⟩
def iN (S:Nat×DM It×DM Unit) (e:Nat×List Nat):Nat×DM It×DM Unit:=rpRec e.1 e.2 S.1 S.2.1 S.2.2
def cT (D:Dk):Nat×DM It×DM Unit:=D.entries.foldl iN (0,[],[])
def DM.CA {α:Type} {M:DM α} {k:List Nat} {a:α}:(M.put k a).length<=M.length+1:=by
 unfold DM.put;split
 ·rw [F1];omega
 ·rw [DW];simp
def DM.put_mem {α:Type} {M:DM α} {k:List Nat} {a:α} {p:List Nat×α} (h:p∈M.put k a):p∈M\/p=(k,a):=by
 unfold DM.put at h;split at h
 ·rcases F5 h with h|h
  ·exact .inl h
  ·exact .inr h
 ·rcases EF.1 h with h|h
  ·exact .inl h
  ·exact .inr (FI.1 h)
def rpRec_len (a:Nat) (r:List Nat) (inc:Nat) (M:DM It) (G:DM Unit):(rpRec a r inc M G).2.1.length<=M.length+1/\(rpRec a r inc M G).2.2.length<=G.length+1/\((∀ p∈M,0<=p.2.at_) -> ∀ p∈(rpRec a r inc M G).2.1,0<=p.2.at_):=by
 have same:M.length<=M.length+1/\G.length<=G.length+1/\((∀ p∈M,0<=p.2.at_) -> ∀ p∈M,0<=p.2.at_):=⟨F8 _,F8 _,id⟩
 unfold rpRec;split
 ·exact same
 ·split
  ·refine ⟨Nat.le_succ_of_le DM.del_len,?_,fun h p hp=>h p (DM.del_mem hp)⟩;show (if (pK r).1=4 then _ else _:DM Unit).length<=_;split
   ·exact DM.CA
   ·exact F8 _
  ·split
   ·split
    ·split
     ·exact ⟨DM.CA,F8 _,fun h p hp=>by
       rcases DM.put_mem hp with hp|rfl
       ·exact h p hp
       ·show (0:Int)<=(a:Int);omega⟩
     ·exact same
    ·exact same
   ·exact same
def sr : ∀ (l:List (Nat×List Nat)) (S:Nat×DM It×DM Unit),(l.foldl iN S).2.1.length<=S.2.1.length+l.length/\(l.foldl iN S).2.2.length<=S.2.2.length+l.length/\((∀ p∈S.2.1,0<=p.2.at_) -> ∀ p∈(l.foldl iN S).2.1,0<=p.2.at_)
 | [],S=>⟨DO _,DO _,id⟩
 |e::l,S=>by obtain ⟨h1,h2,h3⟩:=sr l (iN S e);obtain ⟨k1,k2,k3⟩:=rpRec_len e.1 e.2 S.1 S.2.1 S.2.2;have e1:iN S e=rpRec e.1 e.2 S.1 S.2.1 S.2.2:=rfl;rw [List.foldl_cons,e1];rw [e1] at h1 h2 h3;simp only [List.length_cons];exact ⟨by omega,by omega,fun h=>h3 (k3 h)⟩
def ld2 {h:ae} {b o:Nat} {k:eW} {x y:Vl} (hg:h.get b=some k) (h1:k[o]? = some x) (h2:k[o+1]? = some y) (hx:cw x=false) (hy:cw y=false):bZ 2 (ptr b o) h=some (.agg #[x,y],h):=by
 obtain ⟨l1,e1⟩:=D9.1 h1;obtain ⟨l2,e2⟩:=D9.1 h2;have e:(k.drop o).take 2 = [x,y]:=by rw [F3 l1,F3 l2,e1,e2];rfl
 have:=DE (n:=2) (o:=o) hg (by omega) (by rw [e];simp [Abs.noHoles,hx,hy]);rw [e] at this;exact this
def ent_at {g:ae} {N M:Nat} {v:Vl} {cells:List Vl} {l:List (Nat×List Nat)} (o:cF g M 2 v l.length cells) (E:fu g N cells l) {i:Nat} {e:Nat×List Nat} (he:l[i]? = some e) : ∃ b q ev,idxS 2 v (ak i)=some (ptr b q)/\bZ 2 (ptr b q) g=some (pv e.1 ev,g)/\BS g ev e.2:=by
 have hi:=(D9.1 he).1;obtain ⟨h1,a,n,c,h2,h3,h4,_⟩:=E.2 i e he;obtain ⟨o1,o2,o3,h4'⟩:=o;rcases h4' with ⟨_,h⟩|⟨b,s,rfl,_,⟨_,h⟩|⟨_,hg⟩⟩
 ·omega
 ·omega
 ·have hn:=(ay h3).1;refine ⟨b,i*2,.slice a n c,?_,?_,.of h3 (fun _=>h4)⟩
  ·show (if (0:Int)<=(i:Int)/\(i:Int)<(l.length:Int) then some (ptr b (0+(i:Int).toNat*2)) else none)=_;rw [DR ⟨by omega,by omega⟩];simp
  ·have h1':cells[i*2]? = some (ak e.1):=by rw [IL];exact h1
   have h2':cells[i*2+1]? = some (.slice a n c):=by rw [IL];exact h2
   exact ld2 hg h1' h2' rfl rfl
end
end
end Go.Proofs.YtdhpgacmgebjdaaGreatDoor.W
