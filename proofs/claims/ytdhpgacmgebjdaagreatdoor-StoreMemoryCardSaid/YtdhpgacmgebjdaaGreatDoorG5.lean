/-
  A part of the proof, shortened by a program.
  Conditions: as each theorem states.
-/
import Derived.Test.YtdhpgacmgebjdaaGreatDoorG4
import Derived.OrdersIn
set_option linter.all false
namespace Go.Abs
noncomputable section
section inv
variable {P:Program} {C:ah} {ops:Array Oper} {l:List (Nat×Oper)} {E:Nat->aO} {H:Nat->ae} {V:Nat->Vl} {R:Nat->Bool} {μ0:Mu} {w0:World} {D:List Deferred} {ro:Option Nat} {nd:Nat}
 {listed:Array Bool} {m:Nat} {G:ae} {μ:Mu} {a:Act} {w:World} {p i:Nat} {o:Oper}
def uy.uniq (r:uy P C ops l E H V R) (hx:l[p]? = some (i,o)) {q:Nat} {y:Nat×Oper} (hy:l[q]? = some y) (e:y.1=i):q=p:=by
 rcases Nat.lt_trichotomy q p with h|h|h
 ·exact absurd e (r.ord q p _ _ h hy hx).1
 ·exact h
 ·exact absurd e.symm (r.ord p q _ _ h hx hy).1
def Inv.inb (r:uy P C ops l E H V R) (I:Inv D P ops l E H V R μ0 w0 listed m G μ a w) (hx:l[p]? = some (i,o)):i<listed.size:=by rw [I.size];exact (DT.1 (r.at_ p i o hx)).1
def Inv.same (r:uy P C ops l E H V R) (I:Inv D P ops l E H V R μ0 w0 listed m G μ a w) (hx:l[p]? = some (i,o)) (he:jc o listed) (hk:kindOf P o ≠ .eff)
  {G':ae} {μ':Mu} {a':Act} {w':World} (g0:G'.n0=G.n0) (g1:G'.old=G.old) (g2:G'.next=G.next)
  (here : ∀ b k,(H 0).n0<=b->(H m).getB b=some k->G'.getB b=some k)
  (later : ∀ (q:Nat) (x:Nat×Oper) (k:BB),m<=q->l[q]? = some x->kindOf P x.2 = .alloc->(listed.getD x.1 false=true\/q=p)->R q=true->H (q+1)=(H q).ba k->G'.getB (H q).next=some k)
  (free : ∀ b,(H m).next<=b->b<(H l.length).next->(∀ (q:Nat) (x:Nat×Oper),m<=q->l[q]? = some x->kindOf P x.2 = .alloc->(listed.getD x.1 false=true\/q=p)->R q=true->b≠(H q).next)->μ' b=none)
  (sim:cD μ' G' w') (stp:ct μ0 (H 0) w0 μ' G' w') (env:jU D μ' (envS l V (xsOf l (listed.setIfInBounds i true)) (E 0) l.length) a') :
  Inv D P ops l E H V R μ0 w0 (listed.setIfInBounds i true) m G' μ' a' w':=by
 have hi:=I.inb r hx;refine ⟨by simpa using I.size,I.closed' r hx he,I.le,?_,?_,g0.trans I.gn0,g1.trans I.gold,g2.trans I.gnext,here,?_,?_,sim,stp,env⟩
 ·intro q x hq hkq;rw [gu hi,<-I.effs q x hq hkq];constructor
  ·rintro (h|h)
   ·obtain rfl:=r.uniq hx hq h;rw [hx] at hq;cases hq;exact absurd hkq hk
   ·exact h
  ·exact .inr
 ·intro q x hq hlq hkq;rw [gu hi];exact .inr (I.allocs q x hq hlq hkq)
 ·intro q x k hmq hlq hkq hls hr hh;rw [gu hi] at hls;exact later q x k hmq hlq hkq (hls.symm.imp id (fun h=>r.uniq hx hlq h)) hr hh
 ·intro b hb hn hne;refine free b hb hn fun q x hmq hlq hkq hls hr=>hne q x hmq hlq hkq ?_ hr;rw [gu hi];rcases hls with h|h
  ·exact .inr h
  ·subst h;rw [hx] at hlq;cases hlq;exact .inl rfl
def Inv.next (r:uy P C ops l E H V R) (I:Inv D P ops l E H V R μ0 w0 listed p G μ a w) (hx:l[p]? = some (i,o)) (he:jc o listed) (hk:kindOf P o = .eff)
  {G':ae} {μ':Mu} {a':Act} {w':World} (g0:G'.n0=G.n0) (g1:G'.old=G.old) (g2:G'.next=G.next)
  (here : ∀ b k,(H 0).n0<=b->(H (p+1)).getB b=some k->G'.getB b=some k)
  (later : ∀ (q:Nat) (x:Nat×Oper) (k:BB),p+1<=q->l[q]? = some x->kindOf P x.2 = .alloc->listed.getD x.1 false=true->R q=true->H (q+1)=(H q).ba k->G'.getB (H q).next=some k)
  (free : ∀ b,(H (p+1)).next<=b->b<(H l.length).next->(∀ (q:Nat) (x:Nat×Oper),p+1<=q->l[q]? = some x->kindOf P x.2 = .alloc->listed.getD x.1 false=true->R q=true->b≠(H q).next)->μ' b=none)
  (sim:cD μ' G' w') (stp:ct μ0 (H 0) w0 μ' G' w') (env:jU D μ' (envS l V (xsOf l (listed.setIfInBounds i true)) (E 0) l.length) a') :
  Inv D P ops l E H V R μ0 w0 (listed.setIfInBounds i true) (p+1) G' μ' a' w':=by
 have hi:=I.inb r hx;have hother : ∀ (q:Nat) (x:Nat×Oper),l[q]? = some x->kindOf P x.2 = .alloc->(listed.setIfInBounds i true).getD x.1 false=true->listed.getD x.1 false=true:=by
  intro q x hlq hkq hls;rw [gu hi] at hls;rcases hls with h|h
  ·obtain rfl:=r.uniq hx hlq h;rw [hx] at hlq;cases hlq;rw [hk] at hkq;cases hkq
  ·exact h
 refine ⟨by simpa using I.size,I.closed' r hx he,r.lt hx,?_,?_,g0.trans I.gn0,g1.trans I.gold,g2.trans I.gnext,here,?_,?_,sim,stp,env⟩
 ·intro q x hq hkq;rw [gu hi];constructor
  ·rintro (h|h)
   ·obtain rfl:=r.uniq hx hq h;omega
   ·have:=(I.effs q x hq hkq).1 h;omega
  ·intro h;rcases FH q p with h2|h2
   ·exact .inr ((I.effs q x hq hkq).2 h2)
   ·obtain rfl:q=p:=by omega
    rw [hx] at hq;cases hq;exact .inl rfl
 ·intro q x hq hlq hkq;rw [gu hi];rcases FH q p with h2|h2
  ·exact .inr (I.allocs q x h2 hlq hkq)
  ·obtain rfl:q=p:=by omega
   rw [hx] at hlq;cases hlq;exact .inl rfl
 ·intro q x k hmq hlq hkq hls hr hh;exact later q x k hmq hlq hkq (hother q x hlq hkq hls) hr hh
 ·intro b hb hn hne;refine free b hb hn fun q x hmq hlq hkq hls hr=>hne q x hmq hlq hkq ?_ hr;rw [gu hi];exact .inr hls
def Bg {x y:Nat×Oper} (h1:kindOf P x.2 = .eff) (h2:kindOf P y.2 = .eff):oN P ops x y=true:=by unfold oN;simp [h1,h2]
def clash_alloc {x y:Nat×Oper} (h1:kindOf P x.2 = .alloc) (h2:kindOf P y.2 = .eff):oN P ops x y=true:=by unfold oN;simp [h1,h2]
def hard_eff {y:Oper} (h:kindOf P y = .eff) (q p:Nat):hard P y q p=true:=by unfold hard;simp [h]
def hard_alloc {y:Oper} (h:kindOf P y = .alloc) {q p:Nat} (hq:q<p):hard P y q p=true:=by unfold hard;simp only [h,FI,DD];exact .inr ⟨rfl,by rw [Nat.blt_eq];exact hq⟩
def Inv.to_eff (r:uy P C ops l E H V R) (I:Inv D P ops l E H V R μ0 w0 listed m G μ a w) (hx:l[p]? = some (i,o)) (hnl:listed.getD i false=false) (he:jc o listed) (hk:kindOf P o = .eff) :
  Inv D P ops l E H V R μ0 w0 listed p G μ a w:=by
 have ho:=r.at_ p i o hx;have ahead : ∀ (q:Nat) (x:Nat×Oper),q<p->l[q]? = some x->(kindOf P x.2 = .eff\/kindOf P x.2 = .alloc)->listed.getD x.1 false=true:=by
  intro q x hq hlq hkq;rcases (r.ord q p _ _ hq hlq hx).2.2 with h|h
  ·exact I.ready ho he h
  ·rcases hkq with h2|h2
   ·rw [Bg h2 hk] at h;cases h
   ·rw [clash_alloc h2 hk] at h;cases h
 have behind : ∀ (q:Nat) (x:Nat×Oper),p<=q->l[q]? = some x->kindOf P x.2 = .eff->listed.getD x.1 false=false:=by
  intro q x hq hlq hkq;rcases FH p q with h|h
  ·rcases (r.ord p q _ _ h hx hlq).2.2 with h2|h2
   ·cases hl:listed.getD x.1 false with
    |false=>rfl
    |true=>rw [I.before r hl h2] at hnl;cases hnl
   ·rw [Bg hk hkq] at h2;cases h2
  ·obtain rfl:q=p:=by omega
   rw [hx] at hlq;cases hlq;exact hnl
 have hmp:m<=p:=by
  rcases FH p m with h|h
  ·rw [(I.effs p _ hx hk).2 h] at hnl;cases hnl
  ·exact h
 refine I.advance r hmp (FE (r.lt hx)) ?_ ?_ behind
 ·intro q x hmq hqp hlq hkq;have:=(I.effs q x hlq hkq).1 (ahead q x hqp hlq (.inl hkq));omega
 ·intro q x hmq hqp hlq hkq;exact ahead q x hqp hlq (.inr hkq)
def Inv.sub (r:uy P C ops l E H V R) (I:Inv D P ops l E H V R μ0 w0 listed m G μ a w):Sub (H m) G:=by obtain ⟨h1,h2⟩:=r.n0 I.le;exact ⟨h1.trans I.gn0.symm,h2.trans I.gold.symm,fun b k hb hg=>I.here b k (h1▸hb) hg⟩
def uy.zx (r:uy P C ops l E H V R) {q:Nat} {x:Nat×Oper} (hx:l[q]? = some x) (hk:kindOf P x.2 = .alloc) (hr:R q=true):(H (q+1)).next=(H q).next+1:=by obtain ⟨k,mk,h3,_⟩:=lL hk ((r.tra.step q x hx).2.2.1 hr);rw [h3];rfl
def first_of {Q:Nat->Prop} : ∀ (n m p:Nat),p<=n->(∃ q,m<=q/\q<p/\Q q) -> ∃ j,m<=j/\j<p/\Q j /\ ∀ q,m<=q->q<j -> ¬Q q
 | 0,m,p,hp,h=>by obtain ⟨q,_,h2,_⟩:=h;omega
 |n+1,m,p,hp,⟨q,h1,h2,h3⟩=>by
  by_cases h : ∃ q',m<=q'/\q'<q/\Q q'
  ·obtain ⟨j,g1,g2,g3,g4⟩:=first_of n m q (by omega) h;exact ⟨j,g1,by omega,g3,g4⟩
  ·exact ⟨q,h1,h2,h3,fun q' g1 g2 g3=>h ⟨q',g1,g2,g3⟩⟩
def last_of {Q:Nat->Prop} : ∀ (n m p:Nat),p<=m+n->(∃ q,m<=q/\q<p/\Q q) -> ∃ j,m<=j/\j<p/\Q j /\ ∀ q,j<q->q<p -> ¬Q q
 | 0,m,p,hp,h=>by obtain ⟨q,h1,h2,_⟩:=h;omega
 |n+1,m,p,hp,⟨q,h1,h2,h3⟩=>by
  by_cases h : ∃ q',m+1<=q'/\q'<p/\Q q'
  ·obtain ⟨j,g1,g2,g3,g4⟩:=last_of n (m+1) p (by omega) h;exact ⟨j,by omega,g2,g3,g4⟩
  ·have:q=m:=by
    rcases FH m q with h5|h5
    ·exact absurd ⟨q,h5,h2,h3⟩ h
    ·omega
   subst this;exact ⟨q,DG _,h2,h3,fun q' g1 g2 g3=>h ⟨q',g1,g2,g3⟩⟩
def Inv.step (r:uy P C ops l E H V R) (I:Inv D P ops l E H V R μ0 w0 listed m G μ a w) (hx:l[p]? = some (i,o)) (hnl:listed.getD i false=false) (he:jc o listed) (hg:P.globals.size<=(H 0).n0)
  {K:Act->World->Prop} {Q:Exit->Act->World->Prop} (hK : ∀ m' G' μ' a' w',Inv D P ops l E H V R μ0 w0 (listed.setIfInBounds i true) m' G' μ' a' w'->K a' w'):wpOpIn (Fr ro) nd P ops Q i K a w:=by
 have ho:=r.at_ p i o hx;have hp:=r.lt hx;have hi:=I.inb r hx;have hT:=r.tra.step p _ hx;unfold wpOpIn;rw [ho];simp only;rw [I.wanted r hx hnl he];cases hR:R p with
 |false=>
  obtain ⟨hv,hH⟩:=hT.2.2.2 hR;simp only [DB,DS];have henv : ∀ {m':Nat} (I':Inv D P ops l E H V R μ0 w0 listed m' G μ a w),jU D μ (envS l V (xsOf l (listed.setIfInBounds i true)) (E 0) l.length) (a.put o.dst undef):=by intro m' I';rw [I'.listing r hx hnl he,hv];exact I'.env.put o.dst ra
  refine ⟨fun _ _=>trivial,?_⟩;by_cases hk:kindOf P o = .eff
  ·have I':=I.to_eff r hx hnl he hk;refine hK _ _ _ _ _ (I'.next r hx he hk rfl rfl rfl ?_ ?_ ?_ I'.sim I'.stp (henv I'))
   ·intro b k hb hgb;rw [hH] at hgb;exact I'.here b k hb hgb
   ·intro q x k hq hlq hkq hls hr hh;exact I'.later q x k (by omega) hlq hkq hls hr hh
   ·intro b hb hn hne;rw [hH] at hb;refine I'.free b hb hn fun q x hq hlq hkq hls hr => ?_;rcases FH p q with h|h
    ·exact hne q x h hlq hkq hls hr
    ·obtain rfl:q=p:=by omega
     rw [hR] at hr;cases hr
  ·refine hK _ _ _ _ _ (I.same r hx he hk rfl rfl rfl I.here ?_ ?_ I.sim I.stp (henv I))
   ·intro q x k hq hlq hkq hls hr hh;rcases hls with h|h
    ·exact I.later q x k hq hlq hkq h hr hh
    ·subst h;rw [hR] at hr;cases hr
   ·intro b hb hn hne;exact I.free b hb hn fun q x hq hlq hkq hls hr=>hne q x hq hlq hkq (.inl hls) hr
 |true=>
  simp only [DV];have hop:=hT.2.2.1 hR;have xl : ∀ {hs:ae},Sub hs G->opA P C o (ev (E p)) hs=some (V p,hs)->(H 0).next<=hs.next->hs.next<=G.next->kindOf P o ≠ .eff->kindOf P o ≠ .alloc->o.wpIn (Fr ro) nd P a w K Q:=by
   intro hs hsub hop hlo hhi hk hk2;refine I.run r hx hnl he hg hsub (fun h=>absurd h hk) hop (fun b h1 h2=>by omega) hlo hhi ?_;intro μ1 v' w1 G' hS hSt hv henv g0 g1 g2 g3 g4 hμ;have hμ' : ∀ b,μ1 b=μ b:=fun b=>hμ b (by omega);have keep : ∀ b k,(H 0).n0<=b->G.getB b=some k->G'.getB b=some k:=by
    intro b k hb hgb;rw [<-I.gn0] at hb;cases hh:hs.getB b with
    |none=>exact g4 b k hb hgb hh (by omega) hh
    |some k'=>
     have:=hsub.2.2 b k' (hsub.1▸hb) hh;rw [hgb] at this;cases this;exact g3 b k hb hh
   refine hK _ _ _ _ _ (I.same r hx he hk g0 g1 g2 (fun b k hb hgb=>keep b k hb (I.here b k hb hgb)) ?_ ?_ hS hSt henv)
   ·intro q x k hq hlq hkq hls hr hh;rcases hls with h|h
    ·refine keep _ _ ?_ (I.later q x k hq hlq hkq h hr hh);have:=(H q).n0_le_next;rw [(r.n0 (FE (r.lt hlq))).1] at this;exact this
    ·subst h;rw [hx] at hlq;cases hlq;exact absurd hkq hk2
   ·intro b hb hn hne;rw [hμ'];exact I.free b hb hn fun q x hq hlq hkq hls hr=>hne q x hq hlq hkq (.inl hls) hr
  cases hk:kindOf P o with
  |pure=>
   refine xl (I.sub r) ((Ax hk hop).2 (H m)) (r.fW (FL m) I.le) ?_ (by rw [hk];simp) (by rw [hk];simp);rw [I.gnext];exact r.fW I.le (DG _)
  |read=>
   have hre:H (p+1)=H p:=qY hk hop;rw [hre] at hop;have hbound : ∀ {q:Nat},q<=l.length->(H 0).next<=(H q).next/\(H q).next<=G.next:=fun hq=>⟨r.fW (FL _) hq,by rw [I.gnext];exact r.fW hq (DG _)⟩
   have q0:kindOf P o ≠ .eff:=by rw [hk];simp
   have q1:kindOf P o ≠ .alloc:=by rw [hk];simp
   have named_in : ∀ (q:Nat) (x:Nat×Oper),q<p->l[q]? = some x->(∃ z t,l[p]? = some z/\x.2.dst=some t/\t∈yh z.2)->listed.getD x.1 false=true:=by
    rintro q x hq hlq ⟨z,t,hz,hd,ht⟩;rw [hx] at hz;cases hz;rcases (r.ord q p _ _ hq hlq hx).2.2 with h|h
    ·exact I.ready ho he h
    ·rw [vw (y:=(i,o)) hd (by unfold jC;simp [ht])] at h;cases h
   have late_effs : ∀ {j:Nat},m<=j -> ∀ (q:Nat) (x:Nat×Oper),j<=q->l[q]? = some x->kindOf P x.2 = .eff->listed.getD x.1 false=false:=by
    intro j hj q x hq hlq hkq;cases hl:listed.getD x.1 false with
    |false=>rfl
    |true=>have:=(I.effs q x hlq hkq).1 hl;omega
   rcases FH p m with hpm|hmp
   ·by_cases hex : ∃ q,p<=q/\q<m /\ ∃ x,l[q]? = some x/\kindOf P x.2 = .eff
    ·obtain ⟨j,h1,h2,⟨x,h3,h4⟩,h5⟩:=last_of m p m (by omega) hex;have hjp:p<j:=by
      rcases FH p j with h|h
      ·exact h
      ·obtain rfl:j=p:=by omega
       rw [hx] at h3;cases h3;exact absurd h4 q0
     have hls:=(I.effs j x h3 h4).2 h2;have nb1:=(r.ord p j _ _ hjp hx h3).2.1;have nb2:fN (iy ops) x.1 i=false:=by
      cases hb:fN (iy ops) x.1 i with
      |false=>rfl
      |true=>rw [I.before r hls hb] at hnl;cases hnl
     obtain ⟨h',hop'⟩:=r.dyn p j _ _ hx h3 hk hR (hard_eff h4 _ _) nb1 nb2;rw [DL (by omega),madeIn_nil (by omega)] at hop';have hop':opA P C o (ev (E p)) (H (j+1))=some (V p,h'):=hop';have:=qY hk hop';subst this;have hne:=(r.tra.noeff r.hC (show j+1<=m by omega) I.le (fun q y g1 g2 g3 g4=>h5 q (by omega) g2 ⟨y,g3,g4⟩)).1;have hsub:Sub (H (j+1)) G:=by have hj1:j+1<=l.length:=D9 h2 I.le;obtain ⟨e1,e2⟩:=r.n0 hj1;exact ⟨e1.trans I.gn0.symm,e2.trans I.gold.symm,fun b k hb hgb=>I.here b k (e1▸hb) (hne b k hgb)⟩
     exact xl hsub hop' (hbound (D9 h2 I.le)).1 (hbound (D9 h2 I.le)).2 q0 q1
    ·have hne:=(r.tra.noeff r.hC (FE hpm) I.le (fun q y g1 g2 g3 g4=>hex ⟨q,g1,g2,y,g3,g4⟩)).1;have hsub:Sub (H p) G:=by obtain ⟨e1,e2⟩:=r.n0 (FE hp);exact ⟨e1.trans I.gn0.symm,e2.trans I.gold.symm,fun b k hb hgb=>I.here b k (e1▸hb) (hne b k hgb)⟩
     exact xl hsub hop (hbound (FE hp)).1 (hbound (FE hp)).2 q0 q1
   ·by_cases hex : ∃ q,m<=q/\q<p /\ ∃ x,l[q]? = some x/\listed.getD x.1 false=false/\(kindOf P x.2 = .eff\/kindOf P x.2 = .alloc)
    ·obtain ⟨j,h1,h2,⟨x,h3,hls,h4⟩,h5⟩:=first_of p m p (DG _) hex;have noe : ∀ (q:Nat) (y:Nat×Oper),m<=q->q<j->l[q]? = some y->kindOf P y.2 ≠ .eff:=fun q y g1 g2 g3 g4=>h5 q g1 g2 ⟨y,g3,late_effs (DG m) q y g1 g3 g4,.inl g4⟩;have ala : ∀ (q:Nat) (y:Nat×Oper),m<=q->q<j->l[q]? = some y->kindOf P y.2 = .alloc->listed.getD y.1 false=true:=fun q y g1 g2 g3 g4=>by
      cases hl:listed.getD y.1 false with
      |true=>rfl
      |false=>exact absurd ⟨y,g3,hl,.inr g4⟩ (h5 q g1 g2)
     have nb1:fN (iy ops) i x.1=false:=by
      cases hb:fN (iy ops) i x.1 with
      |false=>rfl
      |true=>rw [I.ready ho he hb] at hls;cases hls
     have nb2:=(r.ord j p _ _ h2 h3 hx).2.1;obtain ⟨h',hop'⟩:=r.dyn p j _ _ hx h3 hk hR (h4.elim (fun h=>hard_eff h _ _) (fun h=>hard_alloc h h2)) nb1 nb2;rw [DH h2] at hop';have:=qY hk hop';subst this;have hjl:j<=l.length:=by omega
     have I':=I.advance r h1 hjl noe ala (late_effs h1);obtain ⟨u1,u2,u3⟩:=I'.sub r;obtain ⟨v1,v2,v3⟩:=vB (H:=H) (R:=R) (G:=G) (madeIn P l (p,j)) (H j) G.next zG (fun q hq=>r.fW (iJ hq).1 (by have:=(iJ hq).2.1;omega))
      (fun q hq q' hq' hlt=>r.fW (by omega) (by have:=(iJ hq').2.1;omega)) (fun q hq=>⟨r.fW (by omega) (by have:=(iJ hq).2.1;omega),(hbound (by have:=(iJ hq).2.1;omega)).2⟩) (hbound hjl).2
      (fun q hq hRq=>by obtain ⟨g1,g2,y,g3,g4,g5⟩:=iJ hq;obtain ⟨k,mk,hH,_⟩:=lL g4 ((r.tra.step q y g3).2.2.1 hRq);exact ⟨k,hH,I'.later q y k g1 g3 g4 (named_in q y g2 g3 g5) hRq hH⟩) u1 u2 u3
     exact xl v1 hop' (D9 (hbound hjl).1 v2) v3 q0 q1
    ·have I':=I.advance r hmp (FE hp) (fun q y g1 g2 g3 g4=>hex ⟨q,g1,g2,y,g3,late_effs (DG m) q y g1 g3 g4,.inl g4⟩) (fun q y g1 g2 g3 g4=>by
      cases hl:listed.getD y.1 false with
      |true=>rfl
      |false=>exact absurd ⟨q,g1,g2,y,g3,hl,.inr g4⟩ hex) (late_effs hmp)
     exact xl (I'.sub r) hop (hbound (FE hp)).1 (hbound (FE hp)).2 q0 q1
  |alloc=>
   obtain ⟨k,mk,hH,hV,hany⟩:=lL hk hop;have hmp:m<=p:=by
    rcases FH p m with h|h
    ·rw [I.allocs p _ h hx hk] at hnl;cases hnl
    ·exact h
   have hN0:=(H p).n0_le_next;obtain ⟨en0,eold⟩:=r.n0 (FE hp);obtain ⟨b1,b2,b3,b4⟩:=mu G.n0 G.old (fun _=>none) ((H p).next-G.n0);have hnn:G.n0+((H p).next-G.n0)=(H p).next:=by rw [I.gn0];omega
   rw [hnn] at b3;generalize heapOf G.n0 G.old (fun _=>none) ((H p).next-G.n0)=hs at b1 b2 b3 b4;have hnone : ∀ b,G.n0<=b->hs.getB b=none:=fun b hb=>by rw [b4 b hb];split<;>rfl
   have hsub:Sub hs G:=⟨b1,b2,fun b k' hb hgb=>by rw [hnone b (b1▸hb)] at hgb;cases hgb⟩
   have hop':opA P C o (ev (E p)) hs=some (V p,hs.ba k):=by rw [hany hs,b3,<-hV]
   have hnext:(H (p+1)).next=(H p).next+1:=r.zx hx hk hR;have hlast:(H (p+1)).next<=(H l.length).next:=r.fW hp (DG l.length);have distinct : ∀ (q:Nat) (x:Nat×Oper),l[q]? = some x->kindOf P x.2 = .alloc->R q=true->q≠p->(H q).next≠(H p).next:=by
    intro q x hlq hkq hr hqp;have hq1:=r.zx hlq hkq hr;rcases Nat.lt_or_gt_of_ne hqp with h|h
    ·have:=r.fW (show q+1<=p by omega) (FE hp);omega
    ·have:=r.fW (show p+1<=q by omega) (FE (r.lt hlq));omega
   have hmn:=r.fW hmp (FE hp);have h1get : ∀ b,G.n0<=b->b≠(H p).next->(hs.ba k).getB b=none:=by intro b hb hne;rw [ae.bK,b3,DL hne];exact hnone b hb
   refine I.run r hx hnl he hg hsub (fun h=>by rw [hk] at h;cases h) hop' ?_ (by rw [b3];exact r.fW (FL p) (FE hp)) (by rw [ae.fY,b3,I.gnext];omega) ?_
   ·intro b hb hn;rw [ae.fY] at hn;rw [b3] at hb hn;obtain rfl:b=(H p).next:=by omega
    refine I.free _ hmn (by omega) fun q x hq hlq hkq hls hr => ?_;refine (distinct q x hlq hkq hr ?_).symm;rintro rfl;rw [hx] at hlq;cases hlq;rw [hnl] at hls;cases hls
   ·intro μ1 v' w1 G' hS hSt hv henv g0 g1 g2 g3 g4 hμ;rw [ae.fY,b3] at hμ;have keep : ∀ b k',G.n0<=b->b≠(H p).next->G.getB b=some k'->G'.getB b=some k':=by intro b k' hb hne hgb;exact g4 b k' hb hgb (hnone b hb) (by rw [ae.fY,b3];omega) (h1get b hb hne)
    refine hK _ _ _ _ _ (I.same r hx he (by rw [hk];simp) g0 g1 g2 ?_ ?_ ?_ hS hSt henv)
    ·intro b k' hb hgb;have:=(H m).lt_of_getB hgb;exact keep b k' (I.gn0▸hb) (by omega) (I.here b k' hb hgb)
    ·intro q x k' hq hlq hkq hls hr hh;by_cases hqp:q=p
     ·subst hqp;have hkk:k'=k:=by
       have e1:(H (q+1)).getB (H q).next=some k':=by rw [hh,ae.bK,DH rfl]
       rw [hH,ae.bK,DH rfl] at e1;exact (HT e1).symm
      subst hkk;exact g3 _ _ (by rw [I.gn0];omega) (by rw [ae.bK,b3,DH rfl])
     ·have hn0:=(H q).n0_le_next;rw [(r.n0 (FE (r.lt hlq))).1,<-I.gn0] at hn0;exact keep _ _ hn0 (distinct q x hlq hkq hr hqp) (I.later q x k' hq hlq hkq (hls.resolve_right hqp) hr hh)
    ·intro b hb hn hne;have hbp:b≠(H p).next:=hne p _ hmp hx hk (.inr rfl) hR;rw [hμ b (by omega)];exact I.free b hb hn fun q x hq hlq hkq hls hr=>hne q x hq hlq hkq (.inl hls) hr
  |eff=>
   have I':=I.to_eff r hx hnl he hk;refine I'.run r hx hnl he hg (I'.sub r) (fun _=>⟨fun x hm=>AJ (by rw [(r.n0 (FE hp)).1];exact hg) (r.bdE p (FE hp)) (DQ.1 (r.ok o (by rw [GK];exact G8 ho)) x hm),r.bdH p (FE hp)⟩) hop ?_ (r.fW (FL p) (FE hp)) (by rw [I.gnext];exact r.fW hp (DG _)) ?_
   ·intro b hb hn;refine I'.free b hb (EX hn (r.fW hp (DG _))) fun q x hq hlq hkq hls hr => ?_;rcases FH p q with h|h
    ·have:=r.fW (show p+1<=q by omega) (FE (r.lt hlq));omega
    ·obtain rfl:q=p:=by omega
     rw [hx] at hlq;cases hlq;rw [hk] at hkq;cases hkq
   ·intro μ1 v' w1 G' hS hSt hv henv g0 g1 g2 g3 g4 hμ;refine hK _ _ _ _ _ (I'.next r hx he hk g0 g1 g2 (fun b k hb hgb=>g3 b k (I.gn0▸hb) hgb) ?_ ?_ hS hSt henv)
    ·intro q x k hq hlq hkq hls hr hh;have hq1:=r.fW hq (FE (r.lt hlq));have hn0:=(H q).n0_le_next;rw [(r.n0 (FE (r.lt hlq))).1,<-I.gn0] at hn0;refine g4 _ k hn0 (I'.later q x k (by omega) hlq hkq hls hr hh) ?_ (.inr hq1) ?_
     ·cases hh2:(H p).getB (H q).next with
      |none=>rfl
      |some k'=>
       have:=(H p).lt_of_getB hh2;have:=r.fW (show p<=p+1 by omega) hp;omega
     ·cases hh2:(H (p+1)).getB (H q).next with
      |none=>rfl
      |some k'=>have:=(H (p+1)).lt_of_getB hh2;omega
    ·intro b hb hn hne;rw [hμ b (.inr hb)];refine I'.free b (D9 (r.fW (show p<=p+1 by omega) hp) hb) hn fun q x hq hlq hkq hls hr => ?_;rcases FH p q with h|h
     ·exact hne q x h hlq hkq hls hr
     ·obtain rfl:q=p:=by omega
      rw [hx] at hlq;cases hlq;rw [hk] at hkq;cases hkq
end inv
section any
variable {P:Program} {C:ah} {ops:Array Oper} {l:List (Nat×Oper)} {E:Nat->aO} {H:Nat->ae} {V:Nat->Vl} {R:Nat->Bool} {μ0:Mu} {w0:World} {D:List Deferred} {ro:Option Nat} {nd:Nat}
def uy.any (r:uy P C ops l E H V R) (hg:P.globals.size<=(H 0).n0) {Q:Exit->Act->World->Prop}
  (hQ : ∀ μ a w,cD μ (H l.length) w->ct μ0 (H 0) w0 μ (H l.length) w->jU D μ (E l.length) a->Q .normal a w) :
  ∀ (fuel:Nat) (L:List Nat) (listed:Array Bool) (m:Nat) (G:ae) (μ:Mu) (a:Act) (w:World),Inv D P ops l E H V R μ0 w0 listed m G μ a w ->
    (∀ i,i<ops.size->listed.getD i false=false->i∈L)->L.length<=fuel->wpAnyIn (Fr ro) nd P .any ops Q fuel listed a w:=by
 have all_listed : ∀ {listed:Array Bool} {m:Nat} {G:ae} {μ:Mu} {a:Act} {w:World},Inv D P ops l E H V R μ0 w0 listed m G μ a w->Region.ready .any ops listed = [] -> ∀ i,i<ops.size->listed.getD i false=true:=by
  intro listed m G μ a w I hr i;induction i using Nat.strongRecOn with
  |_ i ih=>
   intro hi;cases hl:listed.getD i false with
   |true=>rfl
   |false=>
    have ho:ops[i]? = some ops[i]:=G7 hi;have:i∈Region.ready .any ops listed:=by
     rw [mem_ready];refine ⟨?_,ops[i],ho,fun e he hb => ?_⟩
     ·have hs:i<listed.size:=by rw [I.size];exact hi
      simpa [hs] using hl
     ·have hlt:=r.fwd i _ ho e (by simpa using he) hb;exact ih e.on hlt (by omega)
    rw [hr] at this;cases this
 have fin : ∀ {listed:Array Bool} {m:Nat} {G:ae} {μ:Mu} {a:Act} {w:World},Inv D P ops l E H V R μ0 w0 listed m G μ a w->Region.ready .any ops listed = []->Q .normal a w:=by
  intro listed m G μ a w I hr;have hall:=all_listed I hr;have hl : ∀ (q:Nat) (x:Nat×Oper),l[q]? = some x->listed.getD x.1 false=true:=by intro q x hx;exact hall x.1 (DT.1 (r.at_ q x.1 x.2 hx)).1
  have I':=I.advance r I.le (DG _)
   (fun q x h1 h2 h3 h4=>by have:=(I.effs q x h3 h4).1 (hl q x h3);omega)
   (fun q x _ _ h3 _=>hl q x h3) (fun q x h1 h2 _=>by have:=r.lt h2;omega)
  have hsub:=I'.sub r;have hS:=I.sim.sub hsub;refine hQ μ a w hS ?_ ?_
  ·have st:=I.stp;obtain ⟨e1,e2⟩:=r.n0 (DG l.length);refine ⟨?_,e1,e2,r.fW (FL _) (DG _),st.os,st.tape,st.output,st.size,st.same,?_,st.loops,st.drawn⟩
   ·intro b hb;rw [<-I.gnext] at hb;exact st.ext b hb
   ·intro B hB;exact st.own B (hB.sub hsub)
  ·have henv:=I.env;have:envS l V (xsOf l listed) (E 0) l.length=E l.length:=by rw [uf r.tra rfl l.length (DG _)];apply FC;intro t;refine lT _ fun q hq _ => ?_;unfold xsOf;rw [DE hq];exact hl q _ (DE hq)
   rw [this] at henv;exact henv
 intro fuel;induction fuel with
 |zero=>
  intro L listed m G μ a w I hL hlen;have hnil:L = []:=HB (by omega);have hready:Region.ready .any ops listed = []:=by
   apply List.eq_nil_iff_forall_not_mem.2;intro i hi;rw [mem_ready] at hi;obtain ⟨h1,o,ho,_⟩:=hi;have hlt:=(DT.1 ho).1;have:=hL i hlt (by
    have hs:i<listed.size:=by rw [I.size];exact hlt
    simpa [hs] using h1)
   rw [hnil] at this;cases this
  exact ⟨hready,fin I hready⟩
 |succ fuel ih=>
  intro L listed m G μ a w I hL hlen;refine ⟨fin I,?_⟩;intro i hi;rw [mem_ready] at hi;obtain ⟨h1,o,ho,he⟩:=hi;have hlt:=(DT.1 ho).1;have hs:i<listed.size:=by rw [I.size];exact hlt
  have hnl:listed.getD i false=false:=by simpa [hs] using h1
  obtain ⟨p,hp⟩:=r.pos i o ho;refine I.step r hp hnl (fun e hm hb=>he e (by simpa using hm) hb) hg ?_;intro m' G' μ' a' w' I';refine ih (L.erase i) _ m' G' μ' a' w' I' ?_ ?_
  ·intro j hj hjl;have hne:j≠i:=by rintro rfl;have:=(gu (j:=j) hs).2 (.inl rfl);rw [this] at hjl;cases hjl
   refine (List.mem_erase_of_ne hne).2 (hL j hj ?_);cases hq:listed.getD j false with
   |false=>rfl
   |true=>have:=(gu (j:=j) hs).2 (.inr hq);rw [this] at hjl;cases hjl
  ·rw [List.length_erase_of_mem (hL i hlt hnl)];omega
end any
def zB {α:Type} (l:List (Nat×Oper)) (f:Nat->α) : ∀ (p:Nat) (x:Nat×Oper),l[p]? = some x->(l.zip ((List.range l.length).map f))[p]? = some (x,f p):=by intro p x hx;have hp:p<l.length:=(DZ.1 hx).1;rw [HQ];exact ⟨hx,by rw [D4,FZ hp];rfl⟩
def ua {D:List Deferred} {ro:Option Nat} {nd:Nat} {P:Program} {C:ah} (hC:bk P C) (hm:P.follows .mixedOrders=true) {id:Nat} {ops:Array Oper} {Q:Exit->Act->World->Prop} {μ:Mu} {e e':aO} {h h':ae} {a:Act} {w:World}
  (hok:ops.toList.all (pX P)=true) (he:regionA P C ops true e h=some (e',h')) (hg:P.globals.size<=h.n0) (hbe:cT h.next e=true) (hbh:aE h) (S:cD μ h w) (hf:fi μ h h') (rr:jU D μ e a)
  (hQ : ∀ a' w',rR D μ h w e' h' a' w'->Q .normal a' w'):(Code.region id ops true).wpIn (Fr ro) nd P Q a w:=by
 unfold regionA at he;simp only [DV] at he;split at he
 ·rename_i hst;split at he
  ·rename_i tr e1 h1 htr;split at he
   ·rename_i hdyn;simp only [DA,DF] at he;obtain ⟨rfl,rfl⟩:=he;obtain ⟨E,H,V,R,e0,h0,en,hn,T,htr'⟩:=qS htr;simp only [r7,DD] at hst;obtain ⟨⟨⟨hlen,hgd⟩,hfw⟩,hpairs⟩:=hst;have hat : ∀ (p i:Nat) (o:Oper),(late P ops)[p]? = some (i,o)->ops[i]? = some o:=fun p i o hx=>xK.1 (D7 hx);have hbd:=T.bd hC (by rw [h0];exact hg) (fun p x hx=>DQ.1 hok x.2 (by rw [GK];exact G8 (hat p x.1 x.2 hx))) (by rw [h0,e0];exact hbe) (by rw [h0];exact hbh);have r:uy P C ops (late P ops) E H V R:=by
     refine ⟨hC,T,by simpa using hlen,?_,hat,?_,?_,?_,?_,?_,fun p hp=>(hbd p hp).1,fun p hp=>(hbd p hp).2⟩
     ·intro i o ho;obtain ⟨p,hp⟩:=H7 ((xK (P:=P)).2 ho);exact ⟨p,hp⟩
     ·intro i o ho e hem hb;have:=DQ.1 hfw (o,i) (GV.2 (by simpa using ho));simp only [Array.all_eq_true_iff_forall_mem] at this;have:=this e (by simpa using hem);simp only [hb,EK,HO,DR] at this;exact this
     ·intro p i o j b hx hgo;have:=DQ.1 hgd (i,o) (D7 hx);simp only [hgo,DD] at this;exact this.2
     ·intro p q x y hpq hx hy;have:=yG hpairs hpq hx hy;simp only [DD,H4,ne_eq,GI,FI] at this;exact ⟨this.1.1,this.1.2,this.2⟩
     ·intro p q x y hx hy hkx hr hky nb1 nb2;have hp:p<(late P ops).length:=(DZ.1 hx).1;have hq:q<(late P ops).length:=(DZ.1 hy).1;unfold dynOk at hdyn;simp only at hdyn;have hzip:=zB (late P ops) (fun p=>(⟨E p,H p,V p,R p⟩:Ce)) p x hx;rw [<-htr'] at hzip;have d1:=DQ.1 hdyn ((x,⟨E p,H p,V p,R p⟩),p) (GV.2 (by simpa using hzip));simp only [hkx,hr,DP,GW,EK,HO] at d1;have d2:=DQ.1 d1 (y,q) (by rw [FN];exact ⟨GV.2 (by simpa using hy),hky⟩)
      simp only [nb1,nb2,HO] at d2;have hhs : ∀ j,j<=(late P ops).length->(tr.map (·.h) ++ [h1])[j]? = some (H j):=by
       intro j hj;have hl:(tr.map (·.h)).length=(late P ops).length:=by rw [htr'];simp
       rcases FH j (late P ops).length with hlt|hge
       ·rw [EI (by omega),htr',HY,D4,FZ hlt];rfl
       ·obtain rfl:j=(late P ops).length:=by omega
        rw [DX (by omega),hl,HZ,hn];rfl
      have hrs : ∀ j,j<(late P ops).length->(tr.map (·.sX))[j]? = some (R j):=by intro j hj;rw [htr',HY,D4,FZ hj];rfl
      have hplus : ∀ (mk:List Nat) (h:ae),(∀ r∈mk,r<(late P ops).length)->mk.foldl (td (tr.map (·.sX)) (tr.map (·.h) ++ [h1])) h=tG H R h mk:=by
       intro mk;induction mk with
       |nil=>intro h _;rfl
       |cons r mk ih=>
        intro h hr;have hr0:=hr r EW;have e:td (tr.map (·.sX)) (tr.map (·.h) ++ [h1]) h r=ae.plus (R r) h (H r) (H (r+1)):=by unfold td;rw [hrs r hr0,hhs r (by omega),hhs (r+1) (by omega)]
        rw [List.foldl_cons,e];exact ih _ (fun r' h'=>hr r' (EL _ h'))
      unfold qc at d2;rw [hhs _ (by split<;>omega),Option.map_some,hplus _ _ (fun r hr=>by have:=(iJ hr).2.1;omega)] at d2;simp only [same] at d2;split at d2
      ·rename_i v hv hop;rw [C0 d2] at hop;exact ⟨_,hop⟩
      ·cases d2
     ·exact fun o ho=>DQ.1 hok o ho
    subst e0 h0 en hn;refine wpIn_region_any hm ?_;have hlist : ∀ j,(Array.replicate ops.size false).getD j false=false:=by
     intro j;rcases FH j ops.size with hj|hj
     ·simp [hj]
     ·simp [FQ (show (Array.replicate ops.size false).size<=j by simpa using hj)]
    have hgr:=r.fW (FL _) (DG (late P ops).length);have hn0:=(H 0).n0_le_next;obtain ⟨g1,g2,g3,g4⟩:=mu (H 0).n0 (H 0).old (H 0).getB ((H (late P ops).length).next-(H 0).n0);rw [show (H 0).n0+((H (late P ops).length).next-(H 0).n0)=(H (late P ops).length).next from by omega] at g3 g4;generalize heapOf (H 0).n0 (H 0).old (H 0).getB ((H (late P ops).length).next-(H 0).n0)=G at g1 g2 g3 g4;have hsub:Sub G (H 0):=⟨g1,g2,fun b k hb hgb=>by
     rw [g4 b (g1▸hb)] at hgb;split at hgb
     ·exact hgb
     ·cases hgb⟩
    have hxs : ∀ n,envS (late P ops) V (xsOf (late P ops) (Array.replicate ops.size false)) (E 0) n=E 0:=by
     intro n;induction n with
     |zero=>rfl
     |succ n ih=>
      unfold envS;have:xsOf (late P ops) (Array.replicate ops.size false) n=false:=by
       unfold xsOf;split
       ·exact hlist _
       ·rfl
      rw [this,ih];simp
    have I:Inv D P ops (late P ops) E H V R μ w (Array.replicate ops.size false) 0 G μ a { w with drawn:=w.drawn+1 }:=by
     refine ⟨by simp,?_,FL _,?_,?_,g1,g2,g3,?_,?_,?_,?_,?_,?_⟩
     ·intro i o hl;rw [hlist] at hl;cases hl
     ·intro p x _ _;rw [hlist];simp
     ·intro p x hp;omega
     ·intro b k hb hgb;rw [g4 b hb,DH (EX ((H 0).lt_of_getB hgb) hgr)];exact hgb
     ·intro p x k _ _ _ hl;rw [hlist] at hl;cases hl
     ·intro b hb hn _;exact hf b hb hn
     ·exact (S.sub hsub).world rfl
     ·exact ⟨fun _ _=>rfl,g1,g2,by rw [g3];exact hgr,rfl,rfl,rfl,DG _,fun _ _ _=>rfl,fun B hB => .inl (hB.sub hsub),fun B r hB=>⟨r,hB⟩,HH _⟩
     ·rw [hxs];exact rr
    refine r.any hg (fun μ' a' w' hS hSt hr'=>hQ a' w' ⟨μ',hS,hSt,hr'⟩) ops.size (List.range ops.size) _ 0 G μ a _ I ?_ (by simp);intro i hi _;simpa using hi
   ·cases he
  ·cases he
 ·cases he
end
end Go.Abs
