/-
  A part of the proof, spaces and names shortened by a program (a claim may hold 1,500,000 bytes).
  Conditions: as each theorem states.
-/
import Derived.Test.YtdnahgfgoajmcaaGreatDoorG7
import Derived.ProofKit
namespace Go.Abs
open Go.RowKit
def dx (W:World) (old:Nat->Option (List Value)):ai:=⟨W.heap.size,old,.nil,0⟩
def jB (W:World):Mu:=fun b=>if b<W.heap.size then some ⟨b,0,0,0⟩ else none
theorem iQ (W:World) (old:Nat->Option (List Value)) {b:Nat} (hb:W.heap.size<=b):(dx W old).getB b=none:=by unfold ai.getB dx;simp only [Nat.add_zero];rw [DM (by omega),DM (by omega)]
theorem CP (W:World) (old:Nat->Option (List Value)) {b:Nat} (hb:W.heap.size<=b):(dx W old).get b=none:=by unfold ai.get;rw [iQ W old hb];rfl
theorem cH.below {μ μ':Mu} {h h':ai} {W W':World} (hn : ∀ B,B<W.heap.size -> ¬AN μ h B) (St:cH μ h W μ' h' W'):Below W.heap.size W W':=
 ⟨St.os,St.tape,St.output,St.size,fun k hk=>St.same k hk (hn k hk)⟩
def nice (n:Nat):Value->Bool
 | .pointer (some ⟨b,_,none⟩)=>decide (b<n)
 | .slice (some ⟨b,_,none⟩) _ _=>decide (b<n)
 |v=>flat v
def clean (n:Nat) (v:Value):Value:=
 if nice n v then v else match v with
  | .slice (some _) 0 0 => .slice (some ⟨0,0,some 0⟩) 0 0
  |_ => .chan (some 0)
def view (W:World) (b:Nat):Option (List Value):=
 match W.heap[b]? with
 |some (.cells arr _ _)=>some (arr.toList.map (clean W.heap.size))
 |_=>none
theorem nice_rel {W:World} {v:Value} (h:nice W.heap.size v=true):aI (jB W) v v:=by
 unfold nice at h;split at h
 ·rename_i b off;simp only [DS] at h;have hm:jB W b=some ⟨b,0,0,0⟩:=by unfold jB;rw [DL h]
  have:=aI.ptr (off:=off) hm;simpa using this
 ·rename_i b off l c;simp only [DS] at h;have hm:jB W b=some ⟨b,0,0,0⟩:=by unfold jB;rw [DL h]
  have:=aI.slice (off:=off) (len:=l) (cap:=c) hm;simpa using this
 ·exact .flat h
theorem nice_bd {n:Nat} {v:Value} (h:nice n v=true):cz n v=true:=by
 unfold nice at h;split at h
 ·simpa [cz] using h
 ·simpa [cz] using h
 ·exact kl h
theorem nP {W:World} {v:Value} (h:eK (clean W.heap.size v)=false):aI (jB W) (clean W.heap.size v) v:=by
 unfold clean at h |-;split at h
 ·rename_i hn;rw [DL hn];exact nice_rel hn
 ·rename_i hn;rw [DM hn];split at h
  ·exact .zu
  ·simp [eK] at h
theorem px {n:Nat} {v:Value} (hn:0<n):cz n (clean n v)=true:=by
 unfold clean;split
 ·rename_i h;exact nice_bd h
 ·split
  ·simpa [cz] using hn
  ·rfl
theorem view_sim (W:World):cI (jB W) (dx W (view W)) W:=by
 refine ⟨?_,?_,?_,?_,DD _,?_⟩
 ·intro b cs hb hc;have hb2:b<W.heap.size:=hb;have hc2:view W b=some cs:=hc;unfold view at hc2;split at hc2
  ·rename_i arr T fr hg;cases hc2;refine ⟨⟨b,0,0,0⟩,arr,T,fr,by unfold jB;rw [DL hb2],rfl,rfl,hg,?_,?_⟩
   ·simp
   ·intro i x y hx hy hh;rw [EN,DQ] at hx;obtain ⟨z,hz,rfl⟩:=hx;rw [DY,DX (DD _),hz] at hy;cases hy;exact nP hh
  ·cases hc2
 ·intro b k hb hk;rw [CP W _ hb] at hk;cases hk
 ·intro b k hb hk;rw [iQ W _ hb] at hk;cases hk
 ·intro b b' k k' L L' hb _ _ hk;rw [iQ W _ hb] at hk;cases hk
 ·intro b hb;have hb2:b<W.heap.size:=hb;exact ⟨⟨b,0,0,0⟩,by unfold jB;rw [DL hb2],rfl,rfl⟩
theorem qk (W:World) (b:Nat):(dx W (view W)).get b=view W b:=by
 unfold ai.get ai.getB dx;simp only [Nat.add_zero];by_cases hb:b<W.heap.size
 ·rw [DL hb];cases view W b<;>rfl
 ·rw [DM hb,DM hb];unfold view;rw [GV (by omega)];rfl
theorem view_obj (W:World) (b:Nat) (o:fN):(dx W (view W)).getB b≠some (.obj o):=fun hk=>by have h0:=ai.bE (h:=dx W (view W)) hk;rw [iQ W _ h0] at hk;cases hk
theorem view_bd (W:World):aJ (dx W (view W)):=by
 refine ⟨?_,fun b o hk=>absurd hk (view_obj W b o)⟩;intro b k hk;rw [qk] at hk;have hn:(dx W (view W)).next=W.heap.size:=rfl;rw [hn];unfold view at hk;split at hk
 ·rename_i arr T fr hg;cases hk;have hpos:0<W.heap.size:=by have:=(DT.1 hg).1;omega
  rw [dY];intro x hx;obtain ⟨y,_,rfl⟩:=E0.1 hx;exact px hpos
 ·cases hk
theorem vR {W:World} {a:Addr} {v:Value} (h:W.cell? a=some v):a.spot=none/\a.block<W.heap.size /\ ∃ k,view W a.block=some k/\k[a.off]? = some (clean W.heap.size v):=by
 unfold World.cell? at h;split at h
 ·rename_i c T fr hg;split at h
  ·cases h
  ·rename_i hs;refine ⟨by simpa using hs,(DT.1 hg).1,c.toList.map (clean W.heap.size),?_,?_⟩
   ·unfold view;rw [hg]
   ·rw [EN,IE,h];rfl
 ·cases h
end Go.Abs
namespace Go.Abs
section
structure Late (ι:Type) where
 p:(ι->Prop)->Prop
 all : ∀ {q:ι->Prop},(∀ i,q i)->p q
 and : ∀ {q r s:ι->Prop},p q->p r->(∀ i,q i->r i->s i)->p s
section
variable {ι:Type} (E:Late ι) {P:Program} {C:au} {D:ι->au}
theorem Late.mono {q r:ι->Prop} (h:E.p q) (hr : ∀ i,q i->r i):E.p r:=E.and h (E.all (q:=fun _=>True) fun _=>trivial) fun i h _=>hr i h
variable (b9 : ∀ f args h r,C f args h=some r->E.p fun i=>D i f args h=some r)
include b9
theorem yV (o:Oper) (ρ:Operand->Value) (h:ai) (r:Value×ai) (e:opA P C o ρ h=some r):E.p fun i=>opA P (D i) o ρ h=some r:=by
 unfold opA at e |-;split at e;all_goals first
  |exact E.all fun _=>e
  |skip
 rename_i c _;cases hc:c.callee with
 |builtin b=>simp only [hc] at e |-;exact E.all fun _=>e
 |invoke a b=>simp only [hc] at e;cases e
 |value f=>
  simp only [hc] at e |-;unfold callA at e |-;split at e
  ·split at e
   ·rename_i hi;simp only [hi,EA];exact b9 _ _ _ _ e
   ·cases e
  ·exact b9 _ _ _ _ e
  ·cases e
theorem vy (ops:Array Oper) : ∀ (l:List Oper) (e:aX) (h:ai) (r:aX×ai),opsA P C ops l e h=some r->E.p fun i=>opsA P (D i) ops l e h=some r
 | [],e,h,r,x=>E.all fun _=>x
 |o::l,e,h,r,x=>by
  simp only [opsA] at x |-;unfold stepA at x |-;by_cases hw:iZ ops o e=true
  ·simp only [hw,EA] at x |-;cases ho:opA P C o (ev e) h with
   |none=>rw [ho] at x;cases x
   |some y=>
    rw [ho] at x;refine E.and (yV E b9 o (ev e) h y ho) (vy ops l _ _ r x) ?_;intro i h1 h2;simp only [h1];exact h2
  ·simp only [hw] at x |-;exact vy ops l _ _ r x
theorem qg (ops:Array Oper) : ∀ (l:List (Nat×Oper)) (e:aX) (h:ai) (r:List Tr1×aX×ai),traceA P C ops l e h=some r->E.p fun i=>traceA P (D i) ops l e h=some r
 | [],e,h,r,x=>E.all fun _=>x
 | (n,o)::l,e,h,r,x=>by
   simp only [traceA] at x |-;by_cases hw:iZ ops o e=true
   ·simp only [hw,EA] at x |-;cases ho:opA P C o (ev e) h with
    |none=>rw [ho] at x;cases x
    |some y=>
     rw [ho] at x;simp only at x;cases ht:traceA P C ops l (putD e o.dst y.1) y.2 with
     |none=>rw [ht] at x;cases x
     |some z=>
      rw [ht] at x;refine E.and (yV E b9 o (ev e) h y ho) (qg ops l _ _ z ht) ?_;intro i h1 h2;simp only [h1,h2];exact x
   ·simp only [hw] at x |-;cases ht:traceA P C ops l (putD e o.dst undef) h with
    |none=>rw [ht] at x;cases x
    |some z=>
     rw [ht] at x;refine E.mono (qg ops l _ _ z ht) ?_;intro i h2;simp only [h2];exact x
omit b9 in
theorem all_late {α:Type} (l:List α) (p:α->Bool) (q:ι->α->Bool) (hq : ∀ x∈l,p x=true->E.p fun i=>q i x=true) (h:l.all p=true):E.p fun i=>l.all (q i)=true:=by
 induction l with
 |nil=>exact E.all fun _=>rfl
 |cons x l ih=>
  simp only [List.all_cons,DK] at h |-;exact E.and (hq x ED h.1) (ih (fun y hy=>hq y (EI _ hy)) h.2) fun i a b=>⟨a,b⟩
theorem dynOk_late (ops:Array Oper) (l:List (Nat×Oper)) (tr:List Tr1) (hEnd:ai) (x:dynOk P C ops l tr hEnd=true):E.p fun i=>dynOk P (D i) ops l tr hEnd=true:=by
 unfold dynOk at x |-;refine all_late E _ _ (fun i x=>_) ?_ x;intro a _ ha;rw [FY] at ha;rcases ha with ha|ha
 ·exact E.all fun i=>by rw [FY];exact .inl ha
 ·let G:ι->(Nat×Oper)×Nat->Bool:=fun i y=>fP (im ops) a.1.1.1 y.1.1||fP (im ops) y.1.1 a.1.1.1||match qm (tr.map (·.tg)) (tr.map (·.h) ++ [hEnd]) (madeIn P l (a.2,y.2)) (if y.2<a.2 then y.2 else y.2+1) with
      |some h=>same (opA P (D i) a.1.1.2 (ev a.1.2.e) h) a.1.2.v
      |none=>false
  refine E.mono (all_late E _ _ G ?_ ha) ?_
  ·intro y _ hy;rw [FY] at hy;rcases hy with hy|hy
   ·exact E.all fun i=>by rw [FY];exact .inl hy
   ·split at hy
    ·rename_i h hh;unfold Abs.same at hy;split at hy
     ·rename_i v g hv;refine E.mono (yV E b9 _ _ _ _ hv) ?_;intro i hi;rw [FY];refine .inr ?_;rw [hh];simp only [hi,Abs.same];exact hy
     ·cases hy
    ·cases hy
  ·intro i hi;rw [FY];exact .inr hi
theorem B9 (ops:Array Oper) (d:Bool) (e:aX) (h:ai) (r:aX×ai) (x:regionA P C ops d e h=some r):E.p fun i=>regionA P (D i) ops d e h=some r:=by
 unfold regionA at x |-;cases d with
 |false=>exact vy E b9 ops _ e h r x
 |true=>
  simp only [EA] at x |-;split at x
  ·rename_i hs;simp only [hs,EA];split at x
   ·rename_i tr e1 h1 ht;split at x
    ·rename_i hd;refine E.and (qg E b9 ops _ e h _ ht) (dynOk_late E b9 ops _ tr h1 hd) ?_;intro i a b;simp only [a,b,EA];exact x
    ·cases x
   ·cases x
  ·cases x
omit b9 in
theorem Bk {step:aX->ai->Option (Ex×aX×ai)} {stepD:ι->aX->ai->Option (Ex×aX×ai)} (hs : ∀ e h r,step e h=some r->E.p fun i=>stepD i e h=some r) :
  ∀ (n:Nat) (e:aX) (h:ai) (r:Ex×aX×ai),iter step n e h=some r->E.p fun i=>iter (stepD i) n e h=some r
 | 0,_,_,_,x=>by cases x
 |n+1,e,h,r,x=>by
  simp only [iter] at x |-;split at x
  ·rename_i e1 h1 h2;refine E.and (hs _ _ _ h2) (Bk hs n _ _ r x) ?_;intro i a b;simp only [a];exact b
  ·rename_i hn;refine E.mono (hs _ _ _ x) ?_;intro i a;simp only [a];obtain ⟨ex,e1,h1⟩:=r;cases ex with
   |normal=>exact absurd x (hn e1 h1)
   |ret=>rfl
   |exit j=>rfl
theorem dO : ∀ (c:Code) (e:aX) (h:ai) (r:Ex×aX×ai),codeA P C c e h=some r->E.p fun i=>codeA P (D i) c e h=some r
 | .skip,e,h,r,x=>E.all fun _=>x
 | .region _ ops d,e,h,r,x=>by
   simp only [codeA] at x |-;split at x
   ·rename_i e1 h1 h2;refine E.mono (B9 E b9 ops d e h _ h2) ?_;intro i a;simp only [a];exact x
   ·cases x
 | .seq a b,e,h,r,x=>by
   simp only [codeA] at x |-;split at x
   ·rename_i e1 h1 h2;refine E.and (dO a e h _ h2) (dO b _ _ r x) ?_;intro i p q;simp only [p];exact q
   ·rename_i hn;refine E.mono (dO a e h _ x) ?_;intro i p;simp only [p];obtain ⟨ex,e1,h1⟩:=r;cases ex with
    |normal=>exact absurd x (hn e1 h1)
    |ret=>rfl
    |exit j=>rfl
 | .cond c a b,e,h,r,x=>by
   simp only [codeA] at x |-;split at x
   ·exact dO a e h r x
   ·exact dO b e h r x
   ·cases x
 | .block j b,e,h,r,x=>by
   simp only [codeA] at x |-;split at x
   ·rename_i k e1 h1 h2;refine E.mono (dO b e h _ h2) ?_;intro i p;simp only [p];exact x
   ·rename_i hn;refine E.mono (dO b e h _ x) ?_;intro i p;simp only [p];obtain ⟨ex,e1,h1⟩:=r;cases ex with
    |exit k=>exact absurd x (hn k e1 h1)
    |ret=>rfl
    |normal=>rfl
 | .loop b,e,h,r,x=>by simp only [codeA] at x |-;exact Bk E (fun e h r y=>dO b e h r y) aD e h r x
 | .exit _,e,h,r,x=>E.all fun _=>x
 | .scope b,e,h,r,x=>by simp only [codeA] at x |-;exact dO b e h r x
 | .label _,e,h,r,x=>E.all fun _=>x
 | .ret,e,h,r,x=>E.all fun _=>x
 | .goto _,e,h,r,x=>by cases x
 | .rangeFunc g ps a b,e,h,r,x=>by
   simp only [codeA] at x |-;split at x
   ·rename_i i first captured hev
    split at x
    ·rename_i hi;split at x
     ·rename_i v h2 hc;refine E.mono (b9 _ _ _ _ hc) ?_;intro j hj;simp only [hi,EA,hj];exact x
     ·cases x
    ·cases x
   ·cases x
 | .refuse _,e,h,r,x=>by cases x
theorem wR (l:Nat) (args:List Value) (h:ai) (r:Value×ai) (x:roundA P C l args h=some r):E.p fun i=>roundA P (D i) l args h=some r:=by obtain ⟨v,h'⟩:=r;obtain ⟨st,p0,t0,q0,assign,body,e1,h1,p1,t1,q1,a1,b1,ex,e2,h2,hg,hlen,ho1,ho2,hca,hg1,hcb,hend⟩:=mw x;refine E.and (dO E b9 assign _ _ _ hca) (dO E b9 body _ _ _ hcb) ?_;intro i c1 c2;unfold roundA;rw [hg];simp only;rw [DL ⟨hlen,ho1,ho2⟩,c1];simp only;rw [hg1];simp only;rw [c2];exact hend
theorem xP (fn:Func) (args:List Value) (h:ai) (r:Value×ai) (x:bodyA P C fn args h=some r):E.p fun i=>bodyA P (D i) fn args h=some r:=by
 unfold bodyA at x |-;cases hb:fn.body with
 |none=>rw [hb] at x;cases x
 |some c=>
  rw [hb] at x;simp only at x |-;cases hc:codeA P C c (args++List.replicate (fn.ntmps-args.length) undef) h with
  |none=>rw [hc] at x;cases x
  |some y=>
   rw [hc] at x;refine E.mono (dO E b9 c _ _ y hc) ?_;intro i a;simp only [a];exact x
end
def lateOne:Late Unit:=⟨fun q=>q (),fun h=>h (),fun a b h=>h () a b⟩
def xu:Late Nat:=⟨fun q => ∃ n,∀ m,n<=m->q m,fun h=>⟨0,fun m _=>h m⟩,fun a b h=>by obtain ⟨n,a⟩:=a;obtain ⟨k,b⟩:=b;exact ⟨max n k,fun m hm=>h m (a m (by omega)) (b m (by omega))⟩⟩
def callX (P:Program) (X:au):Nat->au
 | 0,f,args,h=>X f args h
 |k+1,f,args,h=>match X f args h with
  |some r=>some r
  |none=>if Nat.ble P.globals.size h.n0 then match P.funcs[f]? with
   |some fn=>if pH P fn then bodyA P (callX P X k) fn args h else none
   |none=>roundA P (callX P X k) (f-P.funcs.size) args h
  else none
theorem r8 {P:Program} {X:au} : ∀ (n:Nat) (f:FuncId) (args:List Value) (h:ai) (r:Value×ai),callX P X n f args h=some r->callX P X (n+1) f args h=some r
 | 0,f,args,h,r,x=>by have x:X f args h=some r:=x;simp only [callX,x]
 |n+1,f,args,h,r,x=>by
  unfold callX at x |-;split at x
  ·exact x
  ·rename_i hX;split at x
   ·rename_i hg;rw [DL hg];split at x
    ·rename_i fn hf;split at x
     ·rename_i hk;rw [DL hk];exact xP (ι:=Unit) lateOne (D:=fun _=>callX P X (n+1)) (fun f args h r e=>r8 n f args h r e) fn args h r x
     ·cases x
    ·exact wR (ι:=Unit) lateOne (D:=fun _=>callX P X (n+1)) (fun f args h r e=>r8 n f args h r e) _ args h r x
   ·cases x
theorem oU {P:Program} {X:au} {n m:Nat} (hm:n<=m) {f:FuncId} {args:List Value} {h:ai} {r:Value×ai} (x:callX P X n f args h=some r):callX P X m f args h=some r:=by
 obtain ⟨k,rfl⟩ : ∃ k,m=n+k:=⟨m-n,by omega⟩
 clear hm;induction k with
 |zero=>exact x
 |succ k ih=>exact r8 _ _ _ _ _ ih
theorem ko {P:Program} {X:au} (hm:P.follows .mixedOrders=true) (hX:bp P X) : ∀ k,bp P (callX P X k)
 | 0=>hX
 |k+1=>by
  have ih:=ko hm hX k;have key : ∀ {f args h v h'},callX P X (k+1) f args h=some (v,h')->X f args h=some (v,h')\/(∃ fn,P.funcs[f]? = some fn/\pH P fn=true/\P.globals.size<=h.n0/\bodyA P (callX P X k) fn args h=some (v,h')) \/
    (P.funcs.size<=f/\P.globals.size<=h.n0/\roundA P (callX P X k) (f-P.funcs.size) args h=some (v,h')):=by
   intro f args h v h' he;unfold callX at he;split at he
   ·rename_i hx;exact .inl (hx.trans he)
   ·split at he
    ·rename_i h1;split at he
     ·rename_i fn hf;split at he
      ·rename_i hk;exact .inr (.inl ⟨fn,hf,hk,EY h1,he⟩)
      ·cases he
     ·rename_i hf;exact .inr (.inr ⟨Array.getElem?_eq_none_iff.1 hf,EY h1,he⟩)
    ·cases he
  refine ⟨?_,?_,?_,?_⟩
  ·intro f args h v h' he;rcases key he with hx|⟨fn,h1,h2,h3,h4⟩|⟨h1,h2,h3⟩
   ·exact hX.grow _ _ _ _ _ hx
   ·exact zo ih h4
   ·exact wS ih h3
  ·intro f args h v h' he hba hbh;rcases key he with hx|⟨fn,h1,h2,h3,h4⟩|⟨h1,h2,h3⟩
   ·exact hX.bd _ _ _ _ _ hx hba hbh
   ·exact bodyA_bd ih h2 h3 h4 hba hbh
   ·exact BL ih h3 h2 hba hbh
  ·intro f args h v h' he hf hba hbh hg μ w args' S hfr r;rcases key he with hx|⟨fn,h1,h2,h3,h4⟩|⟨h1,_⟩
   ·exact hX.run _ _ _ _ _ hx hf hba hbh hg μ w args' S hfr r
   ·cases hb:fn.body with
    |none=>unfold bodyA at h4;rw [hb] at h4;cases h4
    |some c=>
     have hco:codeOk P c=true:=by unfold pH at h2;rw [hb] at h2;simp only [DK] at h2;exact h2.2
     have h2':=h2;unfold pH at h2';rw [DK,FW] at h2';exact .inl ⟨fn,h1,h2'.1,by rw [hb];rfl,yR ih hm h1 hb hco h4 hg hba hbh S hfr r⟩
   ·exact absurd hf (IK.2 h1)
  ·intro l args h v h' he hba hbh hg μ w args' L S hfr r hL;rcases key he with h0|⟨fn,h1,_⟩|⟨_,_,h2⟩
   ·exact hX.round _ _ _ _ _ h0 hba hbh hg μ w args' L S hfr r hL
   ·exact absurd (DT.1 h1).1 (IK.2 (H9 _ _))
   ·rw [show BS P l-P.funcs.size=l from FO _ _] at h2;exact wo ih hm h2 hg hba hbh S hfr r hL
open Classical in
noncomputable def CC (P:Program) (X:au):au:=fun f args h=>if e : ∃ n,(callX P X n f args h).isSome then callX P X e.choose f args h else none
theorem qM {P:Program} {X:au} {f:FuncId} {args:List Value} {h:ai} {r:Value×ai} (e:CC P X f args h=some r) : ∃ n,callX P X n f args h=some r:=by
 unfold CC at e;split at e
 ·exact ⟨_,e⟩
 ·cases e
theorem CC_of {P:Program} {X:au} {n:Nat} {f:FuncId} {args:List Value} {h:ai} {r:Value×ai} (e:callX P X n f args h=some r):CC P X f args h=some r:=by
 have hx : ∃ n,(callX P X n f args h).isSome:=⟨n,by rw [e];rfl⟩
 unfold CC;rw [dif_pos hx];have h2:=hx.choose_spec;rw [FZ] at h2;obtain ⟨r2,h2⟩:=h2;have h3:=oU (Nat.le_max_left n hx.choose) e;have h4:=oU (Nat.le_max_right n hx.choose) h2;rw [h2,<-h3,h4]
theorem tv {P:Program} {X:au} {f:FuncId} {args:List Value} {h:ai} {r:Value×ai} (e:X f args h=some r):CC P X f args h=some r:=CC_of (n:=0) e
theorem CC_body {P:Program} {X:au} {f:FuncId} {fn:Func} (i:cx P f fn) {args:List Value} {h:ai} {r:Value×ai} (hg:P.globals.size<=h.n0) (hX:X f args h=none)
  (e:bw P (CC P X) fn args h=some r):CC P X f args h=some r:=by
 rw [xZ] at e;have b9 : ∀ f args h r,CC P X f args h=some r->xu.p fun n=>callX P X n f args h=some r:=by intro f args h r e;obtain ⟨n,hn⟩:=qM e;exact ⟨n,fun m hm=>oU hm hn⟩
 obtain ⟨n,hn⟩:=xP xu (D:=callX P X) b9 fn args h r e;have hok:pH P fn=true:=by unfold pH;rw [i.name,i.body];simp only [DO,EM];exact i.ok
 refine CC_of (n:=n+1) ?_;unfold callX;rw [hX];simp only;rw [DL (IA hg),i.fB];simp only;rw [DL hok];exact hn n (DD _)
theorem CC_round {P:Program} {X:au} {l:Nat} {args:List Value} {h:ai} {r:Value×ai} (hg:P.globals.size<=h.n0) (hX:X (BS P l) args h=none)
  (e:roundA P (CC P X) l args h=some r):CC P X (BS P l) args h=some r:=by
 have b9 : ∀ f args h r,CC P X f args h=some r->xu.p fun n=>callX P X n f args h=some r:=by intro f args h r e;obtain ⟨n,hn⟩:=qM e;exact ⟨n,fun m hm=>oU hm hn⟩
 obtain ⟨n,hn⟩:=wR xu (D:=callX P X) b9 l args h r e;refine CC_of (n:=n+1) ?_;unfold callX;rw [hX];simp only;rw [DL (IA hg),show P.funcs[BS P l]? = none from GV (H9 _ _)];simp only;rw [show BS P l-P.funcs.size=l from FO _ _];exact hn n (DD _)
theorem oh {P:Program} {X:au} (hm:P.follows .mixedOrders=true) (hX:bp P X):bp P (CC P X):=by
 refine ⟨?_,?_,?_,?_⟩
 ·intro f args h v h' e;obtain ⟨n,e⟩:=qM e;exact (ko hm hX n).grow _ _ _ _ _ e
 ·intro f args h v h' e;obtain ⟨n,e⟩:=qM e;exact (ko hm hX n).bd _ _ _ _ _ e
 ·intro f args h v h' e;obtain ⟨n,e⟩:=qM e;exact (ko hm hX n).run _ _ _ _ _ e
 ·intro l args h v h' e;obtain ⟨n,e⟩:=qM e;exact (ko hm hX n).round _ _ _ _ _ e
theorem cQ.of_CC {P:Program} {X:au} (hm:P.follows .mixedOrders=true) (hX:bp P X) {f:FuncId} {fn:Func} (i:cx P f fn):cQ P f (CC P X f) where
 fn:=(DT.1 i.fB).1
 grow _ _ _ _ e:=(oh hm hX).grow _ _ _ _ _ e
 bd _ _ _ _ e:=(oh hm hX).bd _ _ _ _ _ e
 run _ _ _ _ e:=(oh hm hX).run _ _ _ _ _ e (DT.1 i.fB).1
end
section
section
variable {P:Program} {C:au} {W:lN}
theorem range_goodW (hW:mW P W) {g:Operand} {params:Array Tmp} {assign body:Code} (hok:codeOk P (.rangeFunc g params assign body)=true):u0 P C W (.rangeFunc g params assign body):=by
 intro ro nd s rs e h K μ a w Q he hg hbe hbh S t r hmk hsz hro hQ;simp only [codeOk] at hok;simp only [codeW] at he;split at he
 ·rename_i i first captured hev
  obtain ⟨hbdy,he⟩:=he;obtain ⟨fn0, hfn, hname, hbody⟩ : ∃ fn, P.funcs[i]? = some fn ∧ (fn.name == "runtime.NumGoroutine") = false ∧ fn.body.isNone = false := by
   unfold hasBody at hbdy;split at hbdy
   ·rename_i fn hf;rw [DK,FW] at hbdy;exact ⟨fn,hf,hbdy.2,by rw [Option.isNone_eq_false_iff];exact hbdy.1⟩
   ·cases hbdy
  have hi:i<P.funcs.size:=(DT.1 hfn).1;have hbv:=wq hg hbe hok;have hal:aJ (h.br (.obj (.loop .ready none e params.toList assign body))):=hbh.allocO (bZ (HZ _) hbe);have hrv:=sg S hg r hok;rw [hev] at hbv hrv;obtain ⟨fg,first',captured',hfe,hfg,hr1,hr2⟩:=hrv.nW;cases hfg;have hba:cW (h.br (.obj (.loop .ready none e params.toList assign body))).next (first.toList ++ [.func (.yield h.next) #[] #[]]++captured.toList)=true:=by
   obtain ⟨lf⟩:=first
   obtain ⟨lc⟩:=captured;simp only [cz,DK] at hbv;exact cg (cg (bZ (by simp) hbv.2.1) (by simp [cW,cz,bdF])) (bZ (by simp) hbv.2.2)
  have main : ∀ (fn:FuncId) (l:Nat) (rs':List Nat) (w1:World) (ob:Loop),(Instr.enterLoop fn a.tmps params assign body ro).run P w = .ok (l,dF rs') w1->w.heap.size<=l->w1.heap.size=l+1 ->
    (∀ C,C<w.heap.size->w1.heap[C]? = w.heap[C]?)->w1.heap[l]? = some (Obj.loop ob)->w1.os=w.os->w1.tape=w.tape->w1.output=w.output->w.drawn<=w1.drawn ->
    ob.state = .ready->ob.pending=none->ob.tmps=a.tmps->ob.params=params->ob.assign=assign->ob.body=body ->
    (∀ r∈rs',w.heap.size<=r/\r≠l/\w1.heap[r]? = some (.deferred (some [])))->rs'.Nodup ->
    ∃ (l:Nat) (mark:List Deferred) (w₁:World) (d:Deferred) (w₁':World) (f:FuncId) (args:Array Value) (w₂:World),
    (Instr.enterLoop fn a.tmps params assign body (Fr ro).round).run P w = .ok (l,mark) w₁ /\
    (resolve a.eval (rangeCall g l) 0).run P w₁ = .ok d w₁' /\
    (∀ f',Target.leads P w₁' d.target d.args=some f'->(Fr ro).fn f') /\
    (invoke d.target d.args).run P w₁' = .ok (.enter f args) w₂ /\
    ((Fr ro).depth.isSome=true->1<=nd) /\
    CallsIn (Fr ro) (nd-1) P f args w₂ (rangePost (Fr ro) nd P l Q { a with defers:=mark++a.defers }):=by
   intro fn l rs' w1 ob hent hl1 hl2 hold hnew ho ht hp hdw q1 q2 q3 q4 q5 q6 hrs hnd;obtain ⟨S1,St1⟩:=S.allocO (o := .loop .ready none e params.toList assign body) t.free (ob := .loop ob) (w1:=w1) (B:=l) ho ht hp hl1 hl2 hold hnew
    ⟨q1,by rw [q2];rfl,by rw [q3];exact r.1.mono (Mu.jZ (t _ (DD _))),by rw [q4],q5,q6⟩ hdw
   have hmono:=Mu.jZ (L:=⟨l,0,0,0⟩) (t _ (DD _));have hyl:aI (μ.put h.next ⟨l,0,0,0⟩) (.func (.yield h.next) #[] #[]) (.func (.yield l) #[] #[]) := .func ⟨_,Mu.cJ _ _ _,rfl⟩ rfl (by simp) rfl (by simp);have hall:=((hr1.mono hmono).append (aR.cons hyl (aR.nil _))).append (hr2.mono hmono);have top1:=t.step St1;have hcalls:=(hW.run _ _ _ _ he hi hba hal (by simpa using hg) _ w1 _ S1 top1 hall).jz hfn hname hbody;refine ⟨l,dF rs',w1,{ target := .fn (.func i) captured',args:=first' ++ #[.func (.yield l) #[] #[]] },w1,i,_,w1,hent,?_,fun _ _=>trivial,?_,(fun h=>by cases h),(tF (r:=ro) (n:=nd-1) hcalls).mono ?_⟩
   ·unfold resolve;simp only [hfe,Deferred.ofValue,List.map_toArray,FR,HP,show a.eval (.const (.func (.yield l) #[] #[])) = .func (.yield l) #[] #[] from rfl];rfl
   ·simp only [invoke,callFunc,Sem.run_bind,run_program,Result.andThen_ok,hfn,hname,hbody,DG,EF,Sem.run_pure]
    congr 2
    apply IL;simp
   ·rintro en w3 ⟨v,h2,⟨x,e',h',hl,hk⟩,hgr,hb1,hb2,μ3,v3,rfl,S3,St3,hv3⟩;obtain ⟨st,pend,tmps,ps,as,bo,hgl,hst,rfl,rfl,rfl⟩:=eu hl;have hgr1:h.next+1<=h2.next:=by have:=hgr.1;simpa using this
    have hμ3:μ3 h.next=some ⟨l,0,0,0⟩:=St3.mono top1.free _ _ (Mu.cJ _ _ _);obtain ⟨L,ob3,g1,g2,g3,g4,g5⟩:=S3.obj h.next _ (h2.bE hgl) hgl;rw [hμ3] at g1;cases g1;cases ob3 with
    |loop r3=>
     obtain ⟨k1,k2,k3,k4,k5,k6⟩:=g3;have hend:(Instr.endLoop l).run P w3 = .ok r3.pending (w3.putObj l (.loop { r3 with state := .exhausted })):=run_endLoop g2 (by rw [k1];exact hst);refine ⟨r3.pending,_,hend,?_⟩;obtain ⟨S4,St4⟩:=S3.setO (o' := .loop .exhausted pend tmps ps as bo) (ob' := .loop { r3 with state := .exhausted }) hgl hμ3 ⟨rfl,k2,k3,k4,k5,k6⟩;have StA:=(St1.trans St3).trans St4;have hob:=hb2.obj _ _ hgl;have hq:Q (Av (pend.getD .normal)) { a with defers:=dF rs'++a.defers } (w3.putObj l (.loop { r3 with state := .exhausted })):=by
      refine hQ _ _ _ _ _ hk (((bD.allocO _ _).trans hgr).trans (bD.setO _ _ _)) (bZ (by simp only [ai.kQ];omega) hbe) (hb2.setO (h2.bE hgl) hgl hob) ⟨μ3,rs'++rs,S4,StA,⟨?_,?_⟩,?_⟩
      ·exact r.1.mono (StA.mono t.free)
      ·rw [r.2];simp [dF]
      ·have hm1:=hmk.step StA;have hnew2 : ∀ r∈rs',¬AN μ h r:=by rintro r hr ⟨b,k,L,o1,o2,o3,o4⟩;obtain ⟨L2,ob2,p1,p2,p3⟩:=S.place o1 o2;rw [p1] at o3;cases o3;have:=(DT.1 p2).1;have:=(hrs r hr).1;omega
       have own1 : ∀ r∈rs',¬AN (μ.put h.next ⟨l,0,0,0⟩) (h.br (.obj (.loop .ready none e' params.toList assign body))) r:=by
        rintro r hr ⟨b,k,L,o1,o2,o3,o4⟩;rw [h.bO] at o2;by_cases eb:b=h.next
        ·subst eb;rw [Mu.cJ] at o3;cases o3;exact (hrs r hr).2.1 o4.symm
        ·rw [DM eb] at o2;rw [Mu.c9 _ _ eb] at o3;exact hnew2 r hr ⟨b,k,L,o1,o2,o3,o4⟩
       have mk1:lz s (μ.put h.next ⟨l,0,0,0⟩) (h.br (.obj (.loop .ready none e' params.toList assign body))) w1 rs':=
        ⟨hnd,fun r hr=>⟨D7 hsz (hrs r hr).1,(hrs r hr).2.2,own1 r hr⟩⟩
       have mk2:=mk1.step (St3.trans St4);refine ⟨?_,fun r hr => ?_⟩
       ·rw [JJ];refine ⟨hnd,hmk.dup,fun x hx y hy e => ?_⟩;have h5:=(hrs x hx).1;have h6:=(DT.1 (hmk.fB y hy).2.1).1;omega
       ·rcases DU.1 hr with h5|h5
        ·exact mk2.fB r h5
        ·exact hm1.fB r h5
     generalize w3.putObj l (.loop { r3 with state := .exhausted })=W at hq |-;generalize r3.pending=q at k2 |-;subst k2;cases pend with
     |none=>exact hq
     |some y=>exact yH hq
    |_=>exact g3.elim
  refine wpIn_rangeFunc fun fn _ => ?_;cases ro with
  |none=>
   refine main fn (w.heap.size+1) [w.heap.size] _ _ (run_enterLoop_outer fn a.tmps params assign body) (HZ _) (by simp) ?_ (by have:=World.alloc_heap_new (w.alloc (.deferred (some []))) (.loop { state := .ready,pending:=none,fn,tmps:=a.tmps,params,assign,body,defers:=w.heap.size });simpa using this) rfl rfl rfl (DD _) rfl rfl rfl rfl rfl rfl ?_ (by simp)
   ·intro C hC;rw [dH _ _ _ (by simp;omega),dH _ _ _ hC]
   ·intro r hr;rw [EK.1 hr];refine ⟨DD _,by omega,?_⟩;rw [dH _ _ _ (by simp)];exact World.alloc_heap_new w _
  |some l₀=>
   obtain ⟨r₀,hr₀⟩:=hro l₀ rfl;exact main fn w.heap.size [] _ _ (nQ fn a.tmps params assign body hr₀) (DD _) (by simp) (fun C hC=>dH _ _ _ hC) (World.alloc_heap_new w _) rfl rfl rfl (DD _) rfl rfl rfl rfl rfl rfl (by simp) (by simp)
 ·exact he.elim
theorem eo (hC:bp P C) (hW:mW P W) (hm:P.follows .mixedOrders=true) : ∀ (c:Code),codeOk P c=true->u0 P C W c
 | .skip,_=>by intro ro nd s rs e h K μ a w Q he hg hbe hbh S t r hmk hsz hro hQ;exact wpIn_skip (hQ .normal e h a w he (bD.refl _) hbe hbh ⟨μ,rs,S,.cj,r,hmk⟩)
 | .region id ops d,hok=>by
   intro ro nd s rs e h K μ a w Q he hg hbe hbh S t r hmk hsz hro hQ;simp only [codeOk] at hok;cases d with
   |true=>
    simp only [codeW] at he;obtain ⟨e',h',h2,hk⟩:=he;obtain ⟨b1,b2⟩:=zQ hC hok hg hbe hbh h2;refine mK hC hm hok h2 hg hbe hbh S t.free r ?_;rintro a' w' ⟨μ',hS,hSt,hr⟩;exact hQ .normal e' h' a' w' hk (tI hC h2) b1 b2 ⟨μ',rs,hS,hSt,hr,hmk.step hSt⟩
   |false=>
    simp only [codeW] at he;refine wpIn_region ?_;have:=r9 hW (ro:=ro) (nd:=nd) (s:=s) (rs:=rs) (ops:=ops) (Q:=Q) ops.toList 0 rfl hok he hg hbe hbh S t r hmk (fun e' h' a' w' hk hgr b1 b2 hx=>hQ .normal e' h' a' w' hk hgr b1 b2 hx)
    rwa [Array.length_toList,<-List.range_eq_range'] at this
 | .seq b c,hok=>by
   intro ro nd s rs e h K μ a w Q he hg hbe hbh S t r hmk hsz hro hQ;simp only [codeOk,DK] at hok;simp only [codeW] at he;refine wpIn_seq ?_;refine eo hC hW hm b hok.1 _ _ s rs _ _ _ _ _ _ _ he hg hbe hbh S t r hmk hsz hro ?_;rintro x e' h' a' w' hk hgr hb1 hb2 ⟨μ1,rs1,hS,hSt,hr,hmk1⟩;cases x with
   |normal=>exact eo hC hW hm c hok.2 _ _ s rs1 _ _ _ _ _ _ _ hk (by rw [hgr.2.1];exact hg) hb1 hb2 hS (t.step hSt) hr hmk1 (D7 hsz hSt.size) (hro.step hSt) (hQ.trans hgr hSt)
   |ret=>exact hQ _ e' h' a' w' hk hgr hb1 hb2 ⟨μ1,rs1,hS,hSt,hr,hmk1⟩
   |exit i=>exact hQ _ e' h' a' w' hk hgr hb1 hb2 ⟨μ1,rs1,hS,hSt,hr,hmk1⟩
 | .cond c x y,hok=>by
   intro ro nd s rs e h K μ a w Q he hg hbe hbh S t r hmk hsz hro hQ;simp only [codeOk,DK] at hok;simp only [codeW] at he;have hv:=sg S hg r hok.1.1;split at he
   ·rename_i h1;rw [h1] at hv;exact wpIn_cond_true hv.bool (eo hC hW hm x hok.1.2 _ _ s rs _ _ _ _ _ _ _ he hg hbe hbh S t r hmk hsz hro hQ)
   ·rename_i h1;rw [h1] at hv;exact wpIn_cond_false hv.bool (eo hC hW hm y hok.2 _ _ s rs _ _ _ _ _ _ _ he hg hbe hbh S t r hmk hsz hro hQ)
   ·exact he.elim
 | .block id b,hok=>by
   intro ro nd s rs e h K μ a w Q he hg hbe hbh S t r hmk hsz hro hQ;simp only [codeOk] at hok;simp only [codeW] at he;refine wpIn_block (eo hC hW hm b hok _ _ s rs _ _ _ _ _ _ _ he hg hbe hbh S t r hmk hsz hro ?_);intro x e' h' a' w' hk hgr hb1 hb2 hx;cases x with
   |normal=>exact hQ _ e' h' a' w' hk hgr hb1 hb2 hx
   |ret=>exact hQ _ e' h' a' w' hk hgr hb1 hb2 hx
   |exit i=>
    have hq:=hQ _ e' h' a' w' hk hgr hb1 hb2 hx;simp only [Av,Exit.inBlock];by_cases hj:i=id
    ·rw [DL hj] at hq |-;exact hq
    ·rw [DM hj] at hq |-;exact hq
 | .loop b,hok=>by intro ro nd s rs e h K μ a w Q he hg hbe hbh S t r hmk hsz hro hQ;simp only [codeOk] at hok;simp only [codeW] at he;exact wpIn_loop_rounds _ (xN (eo hC hW hm b hok) _ he hg hbe hbh S t r hmk hsz hro hQ)
 | .exit i,_=>by intro ro nd s rs e h K μ a w Q he hg hbe hbh S t r hmk hsz hro hQ;exact wpIn_exit (hQ (.exit i) e h a w he (bD.refl _) hbe hbh ⟨μ,rs,S,.cj,r,hmk⟩)
 | .scope b,hok=>by intro ro nd s rs e h K μ a w Q he hg hbe hbh S t r hmk hsz hro hQ;simp only [codeOk] at hok;simp only [codeW] at he;refine kC (eo hC hW hm b hok _ _ s rs _ _ _ _ _ _ _ he hg hbe hbh S t r hmk hsz hro ?_);intro x e' h' a' w' hk hgr hb1 hb2 hx;have hq:=hQ x e' h' a' w' hk hgr hb1 hb2 hx;cases x<;>exact hq
 | .label _,_=>by intro ro nd s rs e h K μ a w Q he hg hbe hbh S t r hmk hsz hro hQ;exact wpIn_label (hQ .normal e h a w he (bD.refl _) hbe hbh ⟨μ,rs,S,.cj,r,hmk⟩)
 | .ret,_=>by intro ro nd s rs e h K μ a w Q he hg hbe hbh S t r hmk hsz hro hQ;exact wpIn_ret (hQ .ret e h a w he (bD.refl _) hbe hbh ⟨μ,rs,S,.cj,r,hmk⟩)
 | .goto _,hok=>by simp [codeOk] at hok
 | .rangeFunc g ps x y,hok=>range_goodW hW hok
 | .refuse _,hok=>by simp [codeOk] at hok
theorem wu (hC:bp P C) (hW:mW P W) (hm:P.follows .mixedOrders=true) {f:FuncId} {fn:Func} {c:Code} (hf:P.funcs[f]? = some fn) (hb:fn.body=some c) (hok:codeOk P c=true)
  {args:List Value} {h:ai} {K:Value->ai->Prop} (he:uB P C W fn args h K) (hg:P.globals.size<=h.n0) (hba:cW h.next args=true) (hbh:aJ h)
  {μ:Mu} {w:World} {args':List Value} (S:cI μ h w) (t:AV μ h) (r:aR μ args args'):Calls P f args'.toArray w (nK μ h w K):=by
 unfold uB at he;rw [hb] at he;simp only at he;refine fr_calls (r:=none) (n:=0) (callsIn_of_wp_marks hf hb trivial ?_ rfl);have hbe:cW h.next (args++List.replicate (fn.ntmps-args.length) undef)=true:=
  cg hba (dY.2 fun x hx=>by rw [GP hx];rfl)
 have her:iu (dF []) μ (args++List.replicate (fn.ntmps-args.length) undef) { tmps:=args'.toArray++Array.replicate (fn.ntmps-args'.toArray.size) undef,defers := [] }:=by refine ⟨?_,rfl⟩;have h1:args.length=args'.length:=r.1;simp only [GG,Array.toList_replicate,FT];rw [h1];exact r.append (aR.replicate μ _ (aI.undef μ))
 refine eo hC hW hm c hok none 0 w.heap.size [] _ _ _ _ _ _ _ he hg hbe hbh S t her ⟨by simp,by simp⟩ (DD _) (fun l hl=>by cases hl) ?_;rintro x e' h' a' w' hk hgr hb1 hb2 ⟨μ',rs,hS,hSt,hr,hmk⟩;have main : ∀ v h2,resultsA P fn.results.toList e' h'=some (v,h2)->K v h2->LeavesInM (Fr none) 0 P fn a'.tmps (nK μ h w K) a'.defers .returning w':=by
  intro v h2 hres hkv;have hh:=jW hres;subst hh;have fin:=oj (P:=P) (nd:=0) (fn:=fn) (a:=a') (R:=nK μ h w K) rs hS hSt hmk (fun w2 S2 St2=>by obtain ⟨v',h3,h4⟩:=pJ (P:=P) (w:=w2) S2 hr hres;exact ⟨v',h3,v,h2,hkv,hgr,(wj hb2 hb1 hres).1,hb2,μ',v',rfl,S2,St2,h4⟩)
  rw [hr.2];exact fin
 cases x with
 |normal=>obtain ⟨v,h2,h3,h4⟩:=hk;exact main v h2 h3 h4
 |ret=>obtain ⟨v,h2,h3,h4⟩:=hk;exact main v h2 h3 h4
 |exit i=>exact hk.elim
theorem cQ.of_bodyW (hC:bp P C) (hW:mW P W) (hm:P.follows .mixedOrders=true) {f:FuncId} {fn:Func} (i:cx P f fn) {s:List Value->ai->bc}
  (grow : ∀ args h v h',s args h=some (v,h')->bD h h')
  (bd : ∀ args h v h',s args h=some (v,h')->cW h.next args=true->aJ h->cz h'.next v=true/\aJ h')
  (body : ∀ args h v h',s args h=some (v,h')->cW h.next args=true->aJ h->P.globals.size<=h.n0->uB P C W fn args h fun v1 h1 => ∃ r,Gc h v h' v1 h1 r):cQ P f s where
 fn:=(DT.1 i.fB).1
 grow:=grow
 bd:=bd
 run:=by
  intro args h v h' hs hba hbh hg μ w args' S hfr r;have he:=body args h v h' hs hba hbh hg;have ht:AV (μ.cut h.next) h:=fun b hb=>by simp [Mu.cut,IK.2 hb]
  refine .inl ⟨fn,i.fB,i.name,by rw [i.body];rfl,(wu hC hW hm i.fB i.body i.ok he hg hba hbh (S.cut hbh) ht (r.cut hba)).mono ?_⟩;rintro e w' ⟨v1,h1,⟨rr,G⟩,gr1,_,_,μ1,v',rfl,S1,St,hv⟩;obtain ⟨hb1,hb2⟩:=bd args h v h' hs hba hbh;obtain ⟨μ',h2,h3,h4⟩:=gc_sound G (grow args h v h' hs) gr1 hbh hb2 hb1 S1 St hv;exact ⟨μ',v',rfl,h2,h3,h4⟩
theorem rY {step:aX->ai->(Ex->aX->ai->Prop)->Prop} (hs : ∀ e h (K K':Ex->aX->ai->Prop),(∀ x e h,K x e h->K' x e h)->step e h K->step e h K') :
  ∀ (n:Nat) {e:aX} {h:ai} {K K':Ex->aX->ai->Prop},(∀ x e h,K x e h->K' x e h)->nZ step n e h K->nZ step n e h K'
 | 0,_,_,_,_,_,he=>he
 |n+1,e,h,K,K',hk,he=>by
  simp only [nZ] at he |-;refine hs _ _ _ _ ?_ he;intro x e' h' hx;cases x with
  |normal=>exact rY hs n hk hx
  |ret=>exact hk _ _ _ hx
  |exit i=>exact hk _ _ _ hx
end
theorem uD {P:Program} {C:au} : ∀ (c:Code) {e e':aX} {h h':ai} {x:Ex} {K:Ex->aX->ai->Prop},codeA P C c e h=some (x,e',h')->K x e' h'->codeW P C (wD C) c e h K:=by
 have opW_of : ∀ {o:Oper} {ρ:Operand->Value} {h h':ai} {v:Value} {K:Value->ai->Prop},opA P C o ρ h=some (v,h')->K v h'->opW P (wD C) o ρ h K:=by
  intro o ρ h h' v K ho hk;unfold opW;split
  ·rename_i it heq;unfold opA at ho;rw [heq] at ho;simp only [nextA,DG,EF] at ho;split at ho
   ·rename_i r hr;refine ⟨[r],hr,?_⟩;intro q hq;rw [EK.1 hq];cases ho;exact hk
   ·cases ho
  ·rename_i f args tys heq;unfold opA at ho;rw [heq] at ho;simp only [callA] at ho;unfold callAW;split at ho
   ·rename_i i first captured hfe
    rw [hfe];split at ho
    ·rename_i hi;exact ⟨hi,v,h',ho,hk⟩
    ·cases ho
   ·rename_i l first captured hfe
    rw [hfe];exact ⟨v,h',ho,hk⟩
   ·cases ho
  ·rename_i hne1 hne2;refine ⟨v,h',?_,hk⟩;unfold opA at ho |-;cases hop:o.op with
   |call c=>
    rw [hop] at ho;simp only at ho |-;cases hc:c.callee with
    |value f=>
     exfalso;obtain ⟨cal,args,tys⟩:=c;simp only at hc;subst hc;exact hne2 f args tys hop
    |builtin b=>rw [hc] at ho;exact ho
    |invoke a b=>rw [hc] at ho;exact ho
   |_=>rw [hop] at ho;exact ho
 have opsW_of : ∀ {ops:Array Oper} (l:List Oper) {e e':aX} {h h':ai} {K:aX->ai->Prop},opsA P C ops l e h=some (e',h')->K e' h'->opsW P (wD C) ops l e h K:=by
  intro ops l;induction l with
  |nil=>
   intro e e' h h' K he hk;simp only [opsA,DA,DN] at he;obtain ⟨rfl,rfl⟩:=he;exact hk
  |cons o l ih=>
   intro e e' h h' K he hk;simp only [opsA] at he;simp only [opsW];split at he
   ·rename_i e1 h1 hs;unfold stepA at hs;split at hs
    ·rename_i hw;rw [DL hw];split at hs
     ·rename_i v h2 ho;cases hs;exact opW_of ho (ih he hk)
     ·cases hs
    ·rename_i hw;rw [DM hw];cases hs;exact ih he hk
   ·cases he
 intro c;induction c with
 |skip=>intro e e' h h' x K he hk;cases he;exact hk
 |region id ops d=>
  intro e e' h h' x K he hk;simp only [codeA] at he;split at he
  ·rename_i e1 h1 h2;cases he;cases d with
   |true=>exact ⟨e',h',h2,hk⟩
   |false=>exact opsW_of _ (by simpa [regionA] using h2) hk
  ·cases he
 |seq a b iha ihb=>
  intro e e' h h' x K he hk;simp only [codeA] at he;split at he
  ·rename_i e1 h1 h2;exact iha h2 (ihb he hk)
  ·rename_i hne;refine iha he ?_;cases x with
   |normal=>exact absurd he (hne _ _)
   |ret=>exact hk
   |exit i=>exact hk
 |cond q a b iha ihb=>
  intro e e' h h' x K he hk;simp only [codeA] at he;simp only [codeW];split at he
  ·rename_i hv;rw [hv];exact iha he hk
  ·rename_i hv;rw [hv];exact ihb he hk
  ·cases he
 |block id b ih=>
  intro e e' h h' x K he hk;simp only [codeA] at he;split at he
  ·rename_i i e1 h1 h2;cases he;exact ih h2 hk
  ·rename_i hne;refine ih he ?_;cases x with
   |normal=>exact hk
   |ret=>exact hk
   |exit i=>exact absurd he (hne _ _ _)
 |loop b ih=>
  intro e e' h h' x K he hk;simp only [codeA] at he;simp only [codeW];have : ∀ (n:Nat) {e e':aX} {h h':ai} {x:Ex},iter (codeA P C b) n e h=some (x,e',h')->K x e' h'->nZ (codeW P C (wD C) b) n e h K:=by
   intro n;induction n with
   |zero=>intro e e' h h' x he;cases he
   |succ n ihn=>
    intro e e' h h' x he hk;simp only [iter] at he;simp only [nZ];split at he
    ·rename_i e1 h1 h2;exact ih h2 (ihn he hk)
    ·rename_i hne;refine ih he ?_;cases x with
     |normal=>exact absurd he (hne _ _)
     |ret=>exact hk
     |exit i=>exact hk
  exact this _ he hk
 |rangeFunc g ps a b _ _=>
  intro e e' h h' x K he hk;simp only [codeA] at he;simp only [codeW];split at he
  ·rename_i i first captured hev
   rw [hev];split at he
   ·rename_i hi;split at he
    ·rename_i v h2 hc;exact ⟨hi,v,h2,hc,x,e',h',he,hk⟩
    ·cases he
   ·cases he
  ·cases he
 |exit i=>intro e e' h h' x K he hk;cases he;exact hk
 |scope b ih=>intro e e' h h' x K he hk;exact ih (by simpa [codeA] using he) hk
 |label l=>intro e e' h h' x K he hk;cases he;exact hk
 |goto l=>intro e e' h h' x K he hk;cases he
 |ret=>intro e e' h h' x K he hk;cases he;exact hk
 |refuse s=>intro e e' h h' x K he hk;cases he
theorem loopW_inv {P:Program} {C:au} {W:lN} {b:Code} {K:Ex->aX->ai->Prop} (Inv:Nat->aX->ai->Prop)
  (hs : ∀ k e h,Inv k e h->codeW P C W b e h fun x e' h'=>match x with | .normal => ∃ j,j<k/\Inv j e' h'|x=>K x e' h')
  (hmono : ∀ e h (K K':Ex->aX->ai->Prop),(∀ x e h,K x e h->K' x e h)->codeW P C W b e h K->codeW P C W b e h K') :
  ∀ {k:Nat} {e:aX} {h:ai},k<aD->Inv k e h->codeW P C W (.loop b) e h K:=by
 have : ∀ (n k:Nat) (e:aX) (h:ai),k<n->Inv k e h->nZ (codeW P C W b) n e h K:=by
  intro n;induction n with
  |zero=>intro k e h hk;omega
  |succ n ih=>
   intro k e h hk hi;simp only [nZ];refine hmono _ _ _ _ ?_ (hs k e h hi);intro x e' h' hx;cases x with
   |normal=>obtain ⟨j,hj,hi'⟩:=hx;exact ih j e' h' (by omega) hi'
   |ret=>exact hx
   |exit i=>exact hx
 intro k e h hk hi;simp only [codeW];exact this aD k e h hk hi
theorem codeW_mono {P:Program} {C:au} : ∀ (c:Code) {e:aX} {h:ai} {K K':Ex->aX->ai->Prop},(∀ x e h,K x e h->K' x e h)->codeW P C (wD C) c e h K->codeW P C (wD C) c e h K':=by
 have ofm : ∀ {f args h} {K K':Value->ai->Prop},(∀ v h,K v h->K' v h)->wD C f args h K->wD C f args h K':=fun hk ⟨v,h',a,b⟩=>⟨v,h',a,hk _ _ b⟩
 have opm : ∀ {o ρ h} {K K':Value->ai->Prop},(∀ v h,K v h->K' v h)->opW P (wD C) o ρ h K->opW P (wD C) o ρ h K':=by
  intro o ρ h K K' hk he;unfold opW at he |-;split at he
  ·obtain ⟨l,h1,h2⟩:=he;exact ⟨l,h1,fun r hr=>hk _ _ (h2 r hr)⟩
  ·unfold callAW at he |-;split at he
   ·exact ⟨he.1,ofm hk he.2⟩
   ·exact ofm hk he
   ·exact he
  ·obtain ⟨v,h',h1,h2⟩:=he;exact ⟨v,h',h1,hk _ _ h2⟩
 have opsm : ∀ {ops:Array Oper} (l:List Oper) {e h} {K K':aX->ai->Prop},(∀ e h,K e h->K' e h)->opsW P (wD C) ops l e h K->opsW P (wD C) ops l e h K':=by
  intro ops l;induction l with
  |nil=>intro e h K K' hk he;exact hk _ _ he
  |cons o l ih=>
   intro e h K K' hk he;simp only [opsW] at he |-;split at he
   ·rename_i hw;rw [DL hw];exact opm (fun v h=>ih hk) he
   ·rename_i hw;rw [DM hw];exact ih hk he
 intro c;induction c with
 |skip=>intro e h K K' hk he;exact hk _ _ _ he
 |region id ops d=>
  intro e h K K' hk he;cases d with
  |true=>obtain ⟨e',h',h1,h2⟩:=he;exact ⟨e',h',h1,hk _ _ _ h2⟩
  |false=>exact opsm _ (fun e h=>hk _ e h) he
 |seq a b iha ihb=>
  intro e h K K' hk he;refine iha ?_ he;intro x e h hx;cases x with
  |normal=>exact ihb hk hx
  |ret=>exact hk _ _ _ hx
  |exit i=>exact hk _ _ _ hx
 |cond q a b iha ihb=>
  intro e h K K' hk he;simp only [codeW] at he |-;split at he
  ·exact iha hk he
  ·exact ihb hk he
  ·exact he
 |block id b ih=>
  intro e h K K' hk he;refine ih ?_ he;intro x e h hx;cases x<;>exact hk _ _ _ hx
 |loop b ih=>
  intro e h K K' hk he;simp only [codeW] at he |-;exact rY (step:=codeW P C (wD C) b) (fun e h K K' hk he=>ih hk he) aD hk he
 |rangeFunc g ps a b _ _=>
  intro e h K K' hk he;simp only [codeW] at he |-;split at he
  ·refine ⟨he.1,ofm ?_ he.2⟩;rintro v h2 ⟨x,e',h',a1,a2⟩;exact ⟨x,e',h',a1,hk _ _ _ a2⟩
  ·exact he
 |exit i=>intro e h K K' hk he;exact hk _ _ _ he
 |scope b ih=>intro e h K K' hk he;exact ih hk he
 |label l=>intro e h K K' hk he;exact hk _ _ _ he
 |goto l=>intro e h K K' hk he;exact he
 |ret=>intro e h K K' hk he;exact hk _ _ _ he
 |refuse s=>intro e h K K' hk he;exact he
end
section
section
variable {P:Program} {C:au} {W:lN}
def roundW (P:Program) (C:au) (W:lN) (l:Nat) (args:List Value) (h:ai) (K:Value->ai->Prop):Prop:=
 ∃ st p0 t0 q0 assign body,h.getB l=some (.obj (.loop st p0 t0 q0 assign body))/\args.length=q0.length/\codeOk P assign=true/\codeOk P body=true /\
   codeW P C W assign (fo t0 (q0.zip args)) h fun x1 e1 h1=>x1 = .normal /\ ∃ p1 t1 q1 a1 b1,h1.getB l=some (.obj (.loop .ready p1 t1 q1 a1 b1)) /\
    codeW P C W body e1 (h1.setO l (.loop .busy p1 t1 q1 a1 b1)) fun x _ h2 => ∃ v h',ff l x h2=some (v,h')/\K v h'
theorem C0 (hC:bp P C) (hW:mW P W) (hm:P.follows .mixedOrders=true) {l:Nat} {args:List Value} {h:ai} {K:Value->ai->Prop} (he:roundW P C W l args h K) (hgl:P.globals.size<=h.n0)
  (hba:cW h.next args=true) (hbh:aJ h) {μ:Mu} {w:World} {args':List Value} {L:xj} (S:cI μ h w) (t:AV μ h) (r:aR μ args args') (hL:μ l=some L) :
  ∃ fn tmps assign body,(Instr.yield L.blk args'.toArray).run P w = .ok (.round L.blk fn tmps assign body) w /\ ∀ n,RoundIn (Fr none) n P L.blk fn tmps assign body w (nK μ h w K):=by
 obtain ⟨st,p0,t0,q0,assign,body,hg,hlen,ho1,ho2,hca⟩:=he;obtain ⟨L0,ob,g1,g2,g3,g4,g5⟩:=S.obj l _ (h.bE hg) hg;rw [hL] at g1;cases g1;cases ob with
 |loop R=>
  obtain ⟨k1,k2,k3,k4,k5,k6⟩:=g3;have hsz:args'.toArray.size=R.params.size:=by have h5:=r.1;have h6:R.params.toList.length=R.params.size:=Array.length_toList;rw [k4] at h6;simp only [FT];omega
  refine ⟨R.fn,_,R.assign,R.body,run_yield g2 hsz,fun n => ?_⟩;rw [k5,k6];have hbe:=rp q0 (hbh.obj _ _ hg) hba;refine roundIn_of_wpIn (F:=Fr none) trivial ?_;refine eo hC hW hm assign ho1 (some L.blk) n w.heap.size [] _ _ _ _ _ _ _ hca hgl hbe hbh S t ?_ ⟨by simp,by simp⟩ (DD _) (fun l' hl'=>by cases hl';exact ⟨R,g2⟩) ?_
  ·refine ⟨?_,rfl⟩;have hfe:=wy R.params args' R.tmps;have hp:=sJ q0 k3 r;rw [<-k4] at hp |-;rw [<-hfe] at hp;exact hp
  ·rintro x1 e1 h1 a' w1 ⟨rfl,p1,t1,q1,a1,b1,hg1,hcb⟩ gr1 bd1 bd2 ⟨μ1,rs1,S1,St1,er1,mk1⟩;have hob1:=bd2.obj _ _ hg1;have hμ1:μ1 l=some L:=St1.mono t.free _ _ hL;obtain ⟨L1,ob1,j1,j2,j3,j4,j5⟩:=S1.obj l _ (h1.bE hg1) hg1;rw [hμ1] at j1;cases j1;cases ob1 with
   |loop R1=>
    obtain ⟨m1,m2,m3,m4,m5,m6⟩:=j3;refine ⟨_,run_beginRound j2 m1,?_⟩;obtain ⟨S2,St2⟩:=S1.setO (o' := .loop .busy p1 t1 q1 a1 b1) (ob' := .loop { R1 with state := .busy }) hg1 hμ1 ⟨rfl,m2,m3,m4,m5,m6⟩;have top2:=(t.step St1).step St2;refine eo hC hW hm body ho2 (some L.blk) n w.heap.size rs1 _ _ _ _ _ _ _ hcb (by rw [ai.Cp,gr1.2.1];exact hgl) (by simpa using bd1) (bd2.setO (h1.bE hg1) hg1 hob1) S2 top2 er1 (mk1.step St2) ?_ ?_ ?_
    ·have:=St1.size;simpa using this
    ·intro l' hl';cases hl';exact ⟨_,World.putObj_heap_same (DT.1 j2).1⟩
    ·rintro x e2 h2 a'' w3 ⟨v,h',hend,hk⟩ gr2 bd3 bd4 ⟨μ3,rs3,S3,St3,er3,mk3⟩;obtain ⟨s3,p3,t3,q3,a3,b3,hg3,rfl,rfl⟩:=jq hend;have StA:=(St1.trans St2).trans St3;have hμ3:μ3 l=some L:=StA.mono t.free _ _ hL;obtain ⟨L3,ob3,n1,n2,n3,n4,n5⟩:=S3.obj l _ (h2.bE hg3) hg3;rw [hμ3] at n1;cases n1;have hob2:=bd4.obj _ _ hg3;have grA:bD h (h2.setO l (.loop (if x = .normal then .ready else .done) (if x = .normal then none else some x) t3 q3 a3 b3)):=((gr1.trans (bD.setO _ _ _)).trans gr2).trans (bD.setO _ _ _);cases ob3 with
     |loop R3=>
      obtain ⟨o1,o2,o3,o4,o5,o6⟩:=n3;have fin : ∀ (j:Option Code),j=(if x = .normal then none else some (Cj x)) -> ∃ v w',(Instr.endRound L.blk j).run P w3 = .ok v w'/\nK μ h w K (.returned v) w':=by
       intro j hj;refine ⟨_,_,run_endRound j n2,?_⟩;obtain ⟨S4,St4⟩:=S3.setO (o' := .loop (if x = .normal then .ready else .done) (if x = .normal then none else some x) t3 q3 a3 b3)
        (ob' := .loop { R3 with state:=if j.isNone then .ready else .done,pending:=j }) hg3 hμ3 (by
         refine ⟨?_,?_,o3,o4,o5,o6⟩
         ·subst hj;by_cases hx:x = .normal<;>simp [hx]
         ·subst hj;by_cases hx:x = .normal<;>simp [hx])
       refine ⟨_,_,hk,grA,rfl,bd4.setO (h2.bE hg3) hg3 hob2,μ3,_,rfl,S4,StA.trans St4,?_⟩;have:j.isNone=(x == .normal):=by subst hj;by_cases hx:x = .normal<;>simp [hx]
       rw [this];exact .flat rfl
      cases x with
      |normal=>exact fin none rfl
      |ret=>exact fin (some .ret) rfl
      |exit i=>exact fin (some (.exit i)) rfl
     |_=>exact n3.elim
   |_=>exact j3.elim
 |_=>exact g3.elim
end
abbrev rP:=FuncId->List Value->ai->(Value->ai->Bool)->Bool
def WB (D:rP):lN:=fun f args h K => ∃ k,D f args h k=true /\ ∀ v h',k v h'=true->K v h'
theorem WB.mono {D:rP} {f args h} {K K':Value->ai->Prop} (hk : ∀ v h,K v h->K' v h):WB D f args h K->WB D f args h K':=fun ⟨k,a,b⟩=>⟨k,a,fun v h' e=>hk _ _ (b v h' e)⟩
section
variable (P:Program) (C:au) (D:rP) (n:Nat)
noncomputable def opQ (o:Oper) (ρ:Operand->Value) (h:ai) (k:Value->ai->Bool):Bool:=
 match o.op with
 | .next it false=>match nextsA (ρ it) h with
   |some l=>l.all fun r=>k r.1 r.2
   |none=>false
 | .call { callee := .value f,args,.. }=>match ρ f with
   | .func (.func i) first captured=>match Nat.blt i P.funcs.size with
     |true=>D i (first.toList++args.toList.map ρ++captured.toList) h k
     |false=>false
   | .func (.yield l) first _=>D (BS P l) (first.toList++args.toList.map ρ) h k
   |_=>false
 |_=>match opA P noC o ρ h with
  |some (v,h')=>k v h'
  |none=>false
theorem BF {o:Oper} {ρ:Operand->Value} {h:ai} {k:Value->ai->Bool} (e:opQ P D o ρ h k=true):opW P (WB D) o ρ h fun v h'=>k v h'=true:=by
 unfold opQ at e;unfold opW;split at e
 ·rename_i it heq;simp only [heq];split at e
  ·rename_i l hl;exact ⟨l,hl,fun r hr=>DR.1 e r hr⟩
  ·cases e
 ·rename_i f args tys heq;simp only [heq];unfold callAW;split at e
  ·rename_i i first captured hfe
   rw [hfe];split at e
   ·rename_i hi;exact ⟨by simpa using hi,k,e,fun v h' hk=>hk⟩
   ·cases e
  ·rename_i l first c hfe
   rw [hfe];exact ⟨k,e,fun v h' hk=>hk⟩
  ·cases e
 ·rename_i hn1 hn2;split at e
  ·rename_i v h' ho;split
   ·rename_i it heq;exact absurd heq (hn1 it)
   ·rename_i f args tys heq;exact absurd heq (hn2 f args tys)
   ·exact ⟨v,h',ho,e⟩
  ·cases e
noncomputable def opsQ (ops:Array Oper) (os:List Oper):VT->ai->(VT->ai->Bool)->Bool:=
 List.rec (motive:=fun _=>VT->ai->(VT->ai->Bool)->Bool) (fun t h k=>k t h)
  (fun o _ ih t h k=>
   match o.guard with
   |none=>opQ P D o (evT n t) h fun v h'=>ih (setT n t o.dst v) h' k
   |some (j,want)=>match u7 n ops t j==some want with
    |true=>opQ P D o (evT n t) h fun v h'=>ih (setT n t o.dst v) h' k
    |false=>ih (setT n t o.dst undef) h k) os
theorem xW {D:rP} {o ρ h} {K K':Value->ai->Prop} (hk : ∀ v h,K v h->K' v h) (he:opW P (WB D) o ρ h K):opW P (WB D) o ρ h K':=by
 unfold opW at he |-;split at he
 ·obtain ⟨l,h1,h2⟩:=he;exact ⟨l,h1,fun r hr=>hk _ _ (h2 r hr)⟩
 ·unfold callAW at he |-;split at he
  ·exact ⟨he.1,WB.mono hk he.2⟩
  ·exact WB.mono hk he
  ·exact he
 ·obtain ⟨v,h',h1,h2⟩:=he;exact ⟨v,h',h1,hk _ _ h2⟩
theorem zA (ops:Array Oper) : ∀ (os:List Oper) {t:VT} {e:aX} {h:ai} {k:VT->ai->Bool},vf n t e->opsQ P D n ops os t h k=true ->
  opsW P (WB D) ops os e h fun e' h' => ∃ t',vf n t' e'/\k t' h'=true
 | [],t,e,h,k,r,he=>⟨t,r,he⟩
 |o::os,t,e,h,k,r,he=>by
  have ih := @zA ops os;have he:(match o.guard with
   |none=>opQ P D o (evT n t) h fun v h'=>opsQ P D n ops os (setT n t o.dst v) h' k
   |some (j,want)=>match u7 n ops t j==some want with
    |true=>opQ P D o (evT n t) h fun v h'=>opsQ P D n ops os (setT n t o.dst v) h' k
    |false=>opsQ P D n ops os (setT n t o.dst undef) h k)=true:=he
  unfold opsW iZ;cases hg:o.guard with
  |none=>
   rw [hg] at he;simp only [EA] at he |-;rw [r.ev];exact xW P (fun v h' hk=>ih (r.put o.dst v) hk) (BF P D he)
  |some g=>
   obtain ⟨j,want⟩:=g;rw [hg] at he;simp only at he |-;rw [<-r.yield] at he;by_cases hy:(iM ops e j==some want)=true
   ·rw [hy] at he;rw [DL hy,r.ev];exact xW P (fun v h' hk=>ih (r.put o.dst v) hk) (BF P D he)
   ·rw [DM hy];rw [HY] at hy;rw [hy] at he;exact ih (r.put o.dst undef) he
noncomputable def regionQ (ops:Array Oper) (draw:Bool) (t:VT) (h:ai) (k:VT->ai->Bool):Bool:=
 match draw with
 |false=>opsQ P D n ops ops.toList t h k
 |true=>match xD P C n ops true t h (fun t h=>match k t h with|true=>some ()|false=>none) with
  |some _=>true
  |none=>false
noncomputable def condQ (v:Value) (a b:Bool):Bool:=
 match v with
 | .bool true=>a
 | .bool false=>b
 |_=>false
noncomputable def leaveQ (id i:Nat) (k x:Bool):Bool:=Bool.rec (motive:=fun _=>Bool) x k (Nat.beq i id)
noncomputable def loopQ (b:VT->ai->(VT->ai->Bool)->Bool) (fuel:Nat):VT->ai->Bool:=
 Nat.rec (motive:=fun _=>VT->ai->Bool) (fun _ _=>false) (fun _ ih t h=>b t h ih) fuel
noncomputable def cameQ (l:Nat) (t:VT) (h2:ai) (k r:VT->ai->Bool) (x:Nat->VT->ai->Bool):Bool:=
 match endLoopA l [] h2 with
 |some (.normal,_,h')=>k t h'
 |some (.ret,_,h')=>r t h'
 |some (.exit i,_,h')=>x i t h'
 |none=>false
noncomputable def codeQ (fuel:Nat) (c:Code):VT->ai->(VT->ai->Bool)->(VT->ai->Bool)->(Nat->VT->ai->Bool)->Bool:=
 Code.rec (motive:=fun _=>VT->ai->(VT->ai->Bool)->(VT->ai->Bool)->(Nat->VT->ai->Bool)->Bool)
  (fun t h k _ _=>k t h)
  (fun _ ops draw t h k _ _=>regionQ P C D n ops draw t h k)
  (fun _ _ ia ib t h k r x=>ia t h (fun t' h'=>ib t' h' k r x) r x)
  (fun q _ _ ia ib t h k r x=>condQ (evT n t q) (ia t h k r x) (ib t h k r x))
  (fun id _ ib t h k r x=>ib t h k r (fun i t' h'=>leaveQ id i (k t' h') (x i t' h')))
  (fun _ ib t h _ r x=>loopQ (fun t h k=>ib t h k r x) fuel t h)
  (fun g ps a b _ _ t h k r x=>match evT n t g with
   | .func (.func i) first captured=>match hasBody P i with
     |true=>D i (first.toList ++ [.func (.yield h.next) #[] #[]]++captured.toList) (h.br (.obj (.loop .ready none (toL n t) ps.toList a b))) fun _ h2=>cameQ h.next t h2 k r x
     |false=>false
   |_=>false)
  (fun i t h _ _ x=>x i t h)
  (fun _ ib t h k r x=>ib t h k r x)
  (fun _ t h k _ _=>k t h)
  (fun _ _ _ _ _ _=>false)
  (fun t h _ r _=>r t h)
  (fun _ _ _ _ _ _=>false) c
def CameQ (k r:VT->ai->Bool) (x:Nat->VT->ai->Bool) (n:Nat) (ex:Ex) (e:aX) (h:ai):Prop:=
 ∃ t,vf n t e/\match ex with
 | .normal=>k t h=true
 | .ret=>r t h=true
 | .exit i=>x i t h=true
theorem sF {ops:Array Oper} : ∀ (l:List Oper) {e h} {K K':aX->ai->Prop},(∀ e h,K e h->K' e h)->opsW P (WB D) ops l e h K->opsW P (WB D) ops l e h K'
 | [],e,h,K,K',hk,he=>hk _ _ he
 |o::l,e,h,K,K',hk,he=>by
  simp only [opsW] at he |-;split at he
  ·rename_i hw;rw [DL hw];exact xW P (fun v h=>sF l hk) he
  ·rename_i hw;rw [DM hw];exact sF l hk he
theorem iO : ∀ (c:Code) {e:aX} {h:ai} {K K':Ex->aX->ai->Prop},(∀ x e h,K x e h->K' x e h)->codeW P C (WB D) c e h K->codeW P C (WB D) c e h K':=by
 intro c;induction c with
 |skip=>intro e h K K' hk he;exact hk _ _ _ he
 |region id ops d=>
  intro e h K K' hk he;cases d with
  |true=>obtain ⟨e',h',h1,h2⟩:=he;exact ⟨e',h',h1,hk _ _ _ h2⟩
  |false=>exact sF P D _ (fun e h=>hk _ e h) he
 |seq a b iha ihb=>
  intro e h K K' hk he;refine iha ?_ he;intro x e h hx;cases x with
  |normal=>exact ihb hk hx
  |ret=>exact hk _ _ _ hx
  |exit i=>exact hk _ _ _ hx
 |cond q a b iha ihb=>
  intro e h K K' hk he;simp only [codeW] at he |-;split at he
  ·exact iha hk he
  ·exact ihb hk he
  ·exact he
 |block id b ih=>
  intro e h K K' hk he;refine ih ?_ he;intro x e h hx;cases x<;>exact hk _ _ _ hx
 |loop b ih=>
  intro e h K K' hk he;simp only [codeW] at he |-;exact rY (step:=codeW P C (WB D) b) (fun e h K K' hk he=>ih hk he) aD hk he
 |rangeFunc g ps a b _ _=>
  intro e h K K' hk he;simp only [codeW] at he |-;split at he
  ·refine ⟨he.1,WB.mono ?_ he.2⟩;rintro v h2 ⟨x,e',h',a1,a2⟩;exact ⟨x,e',h',a1,hk _ _ _ a2⟩
  ·exact he
 |exit i=>intro e h K K' hk he;exact hk _ _ _ he
 |scope b ih=>intro e h K K' hk he;exact ih hk he
 |label l=>intro e h K K' hk he;exact hk _ _ _ he
 |goto l=>intro e h K K' hk he;exact he
 |ret=>intro e h K K' hk he;exact hk _ _ _ he
 |refuse s=>intro e h K K' hk he;exact he
theorem ei (fuel:Nat) (hfuel:fuel<=aD) : ∀ (c:Code) {t:VT} {e:aX} {h:ai} {k r:VT->ai->Bool} {x:Nat->VT->ai->Bool},vf n t e->codeQ P C D n fuel c t h k r x=true ->
  codeW P C (WB D) c e h (CameQ k r x n)
 | .skip,t,e,h,k,r,x,hr,he=>⟨t,hr,he⟩
 | .region _ ops d,t,e,h,k,r,x,hr,he=>by
   have he:regionQ P C D n ops d t h k=true:=he;unfold regionQ at he;cases d with
   |false=>exact zA P D n ops _ hr he
   |true=>
    simp only at he;split at he
    ·rename_i u hu;obtain ⟨e',h',t',h1,h2,h3⟩:=rO P C n ops true hr hu;refine ⟨e',h',h1,t',h2,?_⟩;simp only at h3 |-;cases hk:k t' h' with
     |true=>rfl
     |false=>rw [hk] at h3;cases h3
    ·cases he
 | .seq c d,t,e,h,k,r,x,hr,he=>by
   refine iO P C D c ?_ (ei fuel hfuel c (k:=fun t' h'=>codeQ P C D n fuel d t' h' k r x) hr he);rintro ex e' h' ⟨t',hr',hc⟩;cases ex with
   |normal=>exact ei fuel hfuel d hr' hc
   |ret=>exact ⟨t',hr',hc⟩
   |exit i=>exact ⟨t',hr',hc⟩
 | .cond q c d,t,e,h,k,r,x,hr,he=>by
   have he:condQ (evT n t q) (codeQ P C D n fuel c t h k r x) (codeQ P C D n fuel d t h k r x)=true:=he;unfold condQ at he;simp only [codeW];rw [hr.ev];split at he
   ·rename_i hv;rw [hv];exact ei fuel hfuel c hr he
   ·rename_i hv;rw [hv];exact ei fuel hfuel d hr he
   ·cases he
 | .block id b,t,e,h,k,r,x,hr,he=>by
   refine iO P C D b ?_ (ei fuel hfuel b (x:=fun i t' h'=>leaveQ id i (k t' h') (x i t' h')) hr he);rintro ex e' h' ⟨t',hr',hc⟩;cases ex with
   |normal=>exact ⟨t',hr',hc⟩
   |ret=>exact ⟨t',hr',hc⟩
   |exit i=>
    simp only [leaveQ] at hc;cases hb:Nat.beq i id with
    |true=>rw [hb] at hc;simp only;rw [DL (GQ hb)];exact ⟨t',hr',hc⟩
    |false=>rw [hb] at hc;simp only;rw [DM (HQ hb)];exact ⟨t',hr',hc⟩
 | .loop b,t,e,h,k,r,x,hr,he=>by
   have he:loopQ (fun t h k=>codeQ P C D n fuel b t h k r x) fuel t h=true:=he;have main : ∀ (f m:Nat) (t:VT) (e:aX) (h:ai),f<=m->vf n t e->loopQ (fun t h k=>codeQ P C D n fuel b t h k r x) f t h=true->nZ (codeW P C (WB D) b) m e h (CameQ k r x n):=by
    intro f;induction f with
    |zero=>intro m t e h _ _ he;cases he
    |succ f ih=>
     intro m t e h hm hr he;obtain ⟨m,rfl⟩ : ∃ m',m=m'+1:=⟨m-1,by omega⟩
     simp only [nZ];refine iO P C D b ?_ (ei fuel hfuel b (k:=fun t h=>loopQ (fun t h k=>codeQ P C D n fuel b t h k r x) f t h) hr he);rintro ex e' h' ⟨t',hr',hc⟩;cases ex with
     |normal=>exact ih m t' e' h' (by omega) hr' hc
     |ret=>exact ⟨t',hr',hc⟩
     |exit i=>exact ⟨t',hr',hc⟩
   simp only [codeW];exact main fuel aD t e h hfuel hr he
 | .exit i,t,e,h,k,r,x,hr,he=>⟨t,hr,he⟩
 | .scope b,t,e,h,k,r,x,hr,he=>by simp only [codeW];exact ei fuel hfuel b hr he
 | .label _,t,e,h,k,r,x,hr,he=>⟨t,hr,he⟩
 | .ret,t,e,h,k,r,x,hr,he=>⟨t,hr,he⟩
 | .goto _,t,e,h,k,r,x,hr,he=>by cases he
 | .rangeFunc g ps a b,t,e,h,k,r,x,hr,he=>by
   have he:(match evT n t g with
    | .func (.func i) first captured=>match hasBody P i with
      |true=>D i (first.toList ++ [.func (.yield h.next) #[] #[]]++captured.toList) (h.br (.obj (.loop .ready none (toL n t) ps.toList a b))) fun _ h2=>cameQ h.next t h2 k r x
      |false=>false
    |_=>false)=true:=he
   simp only [codeW];rw [hr.ev];split at he
   ·rename_i i first captured hev
    rw [hev];split at he
    ·rename_i hb;rw [hr.toL] at he;refine ⟨hb,_,he,?_⟩;intro v h2 hc;unfold cameQ at hc;split at hc
     ·rename_i e0 h' hl;obtain ⟨st,pend,tm,p,as,bo,g1,g2,g3,g4,g5⟩:=eu hl;refine ⟨.normal,e,h',?_,t,hr,hc⟩;unfold endLoopA at hl |-;rw [g1] at hl |-;simp only [DM g2,DA,DN] at hl |-;exact ⟨hl.1,trivial,hl.2.2⟩
     ·rename_i e0 h' hl;obtain ⟨st,pend,tm,p,as,bo,g1,g2,g3,g4,g5⟩:=eu hl;refine ⟨.ret,e,h',?_,t,hr,hc⟩;unfold endLoopA at hl |-;rw [g1] at hl |-;simp only [DM g2,DA,DN] at hl |-;exact ⟨hl.1,trivial,hl.2.2⟩
     ·rename_i i e0 h' hl;obtain ⟨st,pend,tm,p,as,bo,g1,g2,g3,g4,g5⟩:=eu hl;refine ⟨.exit i,e,h',?_,t,hr,hc⟩;unfold endLoopA at hl |-;rw [g1] at hl |-;simp only [DM g2,DA,DN] at hl |-;exact ⟨hl.1,trivial,hl.2.2⟩
     ·cases hc
    ·cases he
   ·cases he
 | .refuse _,t,e,h,k,r,x,hr,he=>by cases he
end
noncomputable def resQ (P:Program) (n:Nat) (rs:List ResultVar) (k:Value->ai->Bool) (t:VT) (h:ai):Bool:=
 match resultsA P rs (toL n t) h with
 |some (v,h')=>k v h'
 |none=>false
noncomputable def bodyQ (P:Program) (C:au) (D:rP) (fuel:Nat) (fn:Func) (args:List Value) (h:ai) (k:Value->ai->Bool):Bool:=
 match fn.body with
 |none=>false
 |some c=>match Nat.ble args.length fn.ntmps with
  |true=>codeQ P C D fn.ntmps fuel c (lQ fn.ntmps args) h (resQ P fn.ntmps fn.results.toList k) (resQ P fn.ntmps fn.results.toList k) (fun _ _ _=>false)
  |false=>false
theorem bodyQ_sound (P:Program) (C:au) (D:rP) (fuel:Nat) (hfuel:fuel<=aD) {fn:Func} {args:List Value} {h:ai} {k:Value->ai->Bool} (he:bodyQ P C D fuel fn args h k=true):uB P C (WB D) fn args h fun v h'=>k v h'=true:=by
 unfold bodyQ at he;unfold uB;cases hb:fn.body with
 |none=>rw [hb] at he;cases he
 |some c=>
  rw [hb] at he;simp only at he |-;cases hn:Nat.ble args.length fn.ntmps with
  |false=>rw [hn] at he;cases he
  |true=>
   rw [hn] at he;refine iO P C D c ?_ (ei P C D fn.ntmps fuel hfuel c (rep_args _ args (EY hn)) he);have res : ∀ {t':VT} {e':aX} {h':ai},vf fn.ntmps t' e'->resQ P fn.ntmps fn.results.toList k t' h'=true -> ∃ v h2,resultsA P fn.results.toList e' h'=some (v,h2)/\k v h2=true:=by
    intro t' e' h' hr hq;unfold resQ at hq;rw [hr.toL] at hq;split at hq
    ·rename_i v h2 hx;exact ⟨v,h2,hx,hq⟩
    ·cases hq
   rintro ex e' h' ⟨t',hr,hc⟩;cases ex with
   |normal=>exact res hr hc
   |ret=>exact res hr hc
   |exit i=>cases hc
noncomputable def roundQ (P:Program) (C:au) (D:rP) (fuel:Nat) (l:Nat) (args:List Value) (h:ai) (k:Value->ai->Bool):Bool:=
 match h.getB l with
 |some (.obj (.loop _ _ tmps params assign body))=>
  match Nat.beq args.length params.length&&(codeOk P assign&&codeOk P body) with
  |true=>codeQ P C D tmps.length fuel assign (lQ tmps.length (fo tmps (params.zip args))) h
    (fun t h1=>match h1.getB l with
     |some (.obj (.loop .ready p1 t1 q1 a1 b1))=>codeQ P C D tmps.length fuel body t (h1.setO l (.loop .busy p1 t1 q1 a1 b1)) (fun _ h2=>endQ l .normal h2 k) (fun _ h2=>endQ l .ret h2 k) (fun i _ h2=>endQ l (.exit i) h2 k)
     |_=>false) (fun _ _=>false) (fun _ _ _=>false)
  |false=>false
 |_=>false
where
 endQ (l:Nat) (x:Ex) (h:ai) (k:Value->ai->Bool):Bool:=match ff l x h with
  |some (v,h')=>k v h'
  |none=>false
theorem CY (P:Program) (C:au) (D:rP) (fuel:Nat) (hfuel:fuel<=aD) {l:Nat} {args:List Value} {h:ai} {k:Value->ai->Bool} (he:roundQ P C D fuel l args h k=true):roundW P C (WB D) l args h fun v h'=>k v h'=true:=by
 unfold roundQ at he;split at he
 ·rename_i st p0 tmps params assign body hg;split at he
  ·rename_i hb;rw [DK,DK] at hb;refine ⟨st,p0,tmps,params,assign,body,hg,GQ hb.1,hb.2.1,hb.2.2,?_⟩;have hrep:vf tmps.length (lQ tmps.length (fo tmps (params.zip args))) (fo tmps (params.zip args)):=by have:=rep_of (fo tmps (params.zip args));rw [nH] at this;exact this
   refine iO P C D assign ?_ (ei P C D _ fuel hfuel assign hrep he);rintro ex e1 h1 ⟨t1,hr1,c1⟩;cases ex with
   |ret=>cases c1
   |exit i=>cases c1
   |normal=>
    refine ⟨rfl,?_⟩;simp only at c1;split at c1
    ·rename_i p1 t1' q1 a1 b1 hg1;refine ⟨p1,t1',q1,a1,b1,hg1,iO P C D body ?_ (ei P C D _ fuel hfuel body hr1 c1)⟩;rintro ex2 e2 h2 ⟨t2,hr2,c2⟩;have fin : ∀ y,roundQ.endQ l y h2 k=true -> ∃ v h',ff l y h2=some (v,h')/\k v h'=true:=by
      intro y hy;unfold roundQ.endQ at hy;split at hy
      ·rename_i v h' hv;exact ⟨v,h',hv,hy⟩
      ·cases hy
     cases ex2 with
     |normal=>exact fin _ c2
     |ret=>exact fin _ c2
     |exit i=>exact fin _ c2
    ·cases c1
  ·cases he
 ·cases he
noncomputable def wJ (P:Program) (ok:FuncId->Bool) (X:au) (sm:FuncId->Bool) (fuel:Nat) (m:Nat):rP:=
 Nat.rec (motive:=fun _=>rP) (fun _ _ _ _=>false)
  (fun j ih f args h k=>
   match sm f with
   |true=>match X f args h with
    |some (v,h')=>k v h'
    |none=>false
   |false=>match ok f with
    |true=>match Nat.ble P.globals.size h.n0 with
     |true=>match P.funcs[f]? with
      |some fn=>bodyQ P (pb P ok X sm fuel j) ih fuel fn args h k
      |none=>false
     |false=>false
    |false=>match Nat.ble P.funcs.size f&&Nat.ble P.globals.size h.n0 with
     |true=>roundQ P (pb P ok X sm fuel j) ih fuel (f-P.funcs.size) args h k
     |false=>false) m
theorem wC {P:Program} {ok:FuncId->Bool} {X:au} {sm:FuncId->Bool} {fuel:Nat} (hX:bp P X) (hfuel:fuel<=aD) (hm:P.follows .mixedOrders=true) (hok : ∀ f fn,ok f=true->P.funcs[f]? = some fn->pH P fn=true) :
  ∀ k,mW P (WB (wJ P ok X sm fuel k))
 | 0=>⟨(by rintro f args h K ⟨k,e,_⟩;cases e),(by rintro f args h K ⟨k,e,_⟩;cases e)⟩
 |j+1=>by
  have ih:=wC (sm:=sm) hX hfuel hm hok j;have hC:=wQ (sm:=sm) hX hfuel hm hok j;have key : ∀ {f args h} {k:Value->ai->Bool},wJ P ok X sm fuel (j+1) f args h k=true->(∃ v h',X f args h=some (v,h')/\k v h'=true) \/
    (∃ fn,P.funcs[f]? = some fn/\pH P fn=true/\P.globals.size<=h.n0/\uB P (pb P ok X sm fuel j) (WB (wJ P ok X sm fuel j)) fn args h fun v h'=>k v h'=true) \/
    (P.funcs.size<=f/\P.globals.size<=h.n0/\roundW P (pb P ok X sm fuel j) (WB (wJ P ok X sm fuel j)) (f-P.funcs.size) args h fun v h'=>k v h'=true):=by
   intro f args h k he;have he:(match sm f with
   |true=>match X f args h with
    |some (v,h')=>k v h'
    |none=>false
   |false=>match ok f with
    |true=>match Nat.ble P.globals.size h.n0 with
     |true=>match P.funcs[f]? with
      |some fn=>bodyQ P (pb P ok X sm fuel j) (wJ P ok X sm fuel j) fuel fn args h k
      |none=>false
     |false=>false
    |false=>match Nat.ble P.funcs.size f&&Nat.ble P.globals.size h.n0 with
     |true=>roundQ P (pb P ok X sm fuel j) (wJ P ok X sm fuel j) fuel (f-P.funcs.size) args h k
     |false=>false)=true:=he
   cases h0:sm f with
   |true=>
    rw [h0] at he;simp only at he;split at he
    ·rename_i v h' hx;exact .inl ⟨v,h',hx,he⟩
    ·cases he
   |false=>
    rw [h0] at he;cases h1:ok f with
    |false=>
     rw [h1] at he;cases h2:(Nat.ble P.funcs.size f&&Nat.ble P.globals.size h.n0) with
     |false=>rw [h2] at he;cases he
     |true=>
      rw [h2] at he;rw [DK] at h2;exact .inr (.inr ⟨EY h2.1,EY h2.2,CY P _ _ fuel hfuel he⟩)
    |true=>
     rw [h1] at he;cases h2:Nat.ble P.globals.size h.n0 with
     |false=>rw [h2] at he;cases he
     |true=>
      rw [h2] at he;cases h3:P.funcs[f]? with
      |none=>simp only [h3] at he;cases he
      |some fn=>
       simp only [h3] at he;exact .inr (.inl ⟨fn,rfl,hok f fn h1 h3,EY h2,bodyQ_sound P _ _ fuel hfuel he⟩)
  have up : ∀ {μ h w} {k:Value->ai->Bool} {K:Value->ai->Prop},(∀ v h',k v h'=true->K v h') -> ∀ e w',nK μ h w (fun v h'=>k v h'=true) e w'->nK μ h w K e w':=by rintro μ h w k K hk e w' ⟨v,h',a,b⟩;exact ⟨v,h',hk _ _ a,b⟩
  refine ⟨?_,?_⟩
  ·rintro f args h K ⟨k,he,hk⟩ hf hb hh hg μ w args' S t r;rcases key he with ⟨v,h',h1,h2⟩|⟨fn,h1,h2,h3,h4⟩|⟨h1,_⟩
   ·exact ((vi hX).run f args h (fun v h'=>k v h'=true) ⟨v,h',h1,h2⟩ hf hb hh hg μ w args' S t r).mono (up hk)
   ·cases hbd:fn.body with
    |none=>unfold uB at h4;rw [hbd] at h4;exact h4.elim
    |some c=>
     have h2':=h2;unfold pH at h2';rw [hbd,DK,FW] at h2';exact .inl ⟨fn,h1,h2'.1,by rw [hbd];rfl,(wu hC ih hm h1 hbd h2'.2 h4 hg hb hh S t r).mono (up hk)⟩
   ·exact absurd hf (IK.2 h1)
  ·rintro l args h K ⟨k,he,hk⟩ hb hh hg μ w args' L S t r hL;rcases key he with ⟨v,h',h1,h2⟩|⟨fn,h1,_⟩|⟨_,_,h2⟩
   ·obtain ⟨fn,tmps,as,bo,h3,h4⟩:=(vi hX).round l args h (fun v h'=>k v h'=true) ⟨v,h',h1,h2⟩ hb hh hg μ w args' L S t r hL;exact ⟨fn,tmps,as,bo,h3,fun n=>(h4 n).mono (up hk)⟩
   ·exact absurd (DT.1 h1).1 (IK.2 (H9 _ _))
   ·rw [show BS P l-P.funcs.size=l from FO _ _] at h2;obtain ⟨fn,tmps,as,bo,h3,h4⟩:=C0 hC ih hm h2 hg hb hh S t r hL;exact ⟨fn,tmps,as,bo,h3,fun n=>(h4 n).mono (up hk)⟩
def p9 (P:Program) (D:Nat->Option (List Value)):ai:=⟨P.globals.size,D,.nil,0⟩
theorem cQ.closedQ {P:Program} {W:lN} (hW:mW P W) {f:FuncId} (hf:f<P.funcs.size) {v:Value} (hv:flat v=true) (D:Nat->Option (List Value)) (hD : ∀ b cs,D b=some cs->bI cs=true)
  (hr:W f [] (p9 P D) fun v' _=>v'=v) (s:List Value->ai->bc) (hs : ∀ args h r,s args h=some r->args = []/\r=(v,h) /\ ∀ b cs,b<P.globals.size->D b=some cs->h.get b=some cs):cQ P f s:=by
 have hgetB : ∀ b,P.globals.size<=b->(p9 P D).getB b=none:=by intro b hb;unfold ai.getB p9;simp only [Nat.add_zero];rw [DM (by omega),DM (by omega)]
 have hbd:aJ (p9 P D):=by
  refine ⟨?_,?_⟩
  ·intro b k hk;have hk:=ai.bg _ hk;by_cases hb:P.globals.size<=b
   ·rw [hgetB b hb] at hk;cases hk
   ·unfold ai.getB p9 at hk;simp only at hk;rw [DL (by omega)] at hk;cases hd:D b with
    |none=>rw [hd] at hk;cases hk
    |some cs=>
     rw [hd] at hk;cases hk;exact eD (hD b _ hd)
  ·intro b o hk;rw [hgetB b (ai.bE (h:=p9 P D) hk)] at hk;cases hk
 refine ⟨hf,?_,?_,?_⟩
 ·intro args h v' h' e;obtain ⟨_,h2,_⟩:=hs _ _ _ e;cases h2;exact bD.refl _
 ·intro args h v' h' e _ hb;obtain ⟨_,h2,_⟩:=hs _ _ _ e;cases h2;exact ⟨kl hv,hb⟩
 ·intro args h v' h' e _ hbh hg μ w args' S hfr r;obtain ⟨rfl,h2,hglob⟩:=hs _ _ _ e;cases h2;have ha:args' = []:=DW.1 r.1.symm;subst ha;have S0:cI (μ.cut P.globals.size) (p9 P D) w:=by
   refine ⟨?_,?_,?_,?_,D7 hg S.size,?_⟩
   ·intro b cs hb hc;have hb':b<P.globals.size:=hb;have hgt:=hglob b cs hb' hc;have hold:h.old b=some cs:=by
     unfold ai.get ai.getB at hgt;rw [DL (EJ hb' hg)] at hgt;cases ho:h.old b with
     |none=>rw [ho] at hgt;cases hgt
     |some c=>rw [ho] at hgt;exact hgt
    obtain ⟨L,arr,T,fr,h2,h3,h4,h5,h6⟩:=S.old b cs (EJ hb' hg) hold;refine ⟨L,arr,T,fr,Mu.eT h2 hb',h3,h4,h5,?_⟩;have hfl:=hD b cs hc;refine ⟨h6.1,fun i x y hx hy hh => ?_⟩;have:=h6.2 i x y hx hy hh;have hxf:=DR.1 hfl x (E3 hx);rw [this.bM hxf];exact .flat hxf
   ·intro b k hb hk;have:=ai.bg _ hk;rw [hgetB b hb] at this;cases this
   ·intro b k hb hk;rw [hgetB b hb] at hk;cases hk
   ·intro b b' k k' L L' hb _ _ hk;rw [hgetB b hb] at hk;cases hk
   ·intro b hb;obtain ⟨L,h2,h3⟩:=S.low b (EJ hb hg);exact ⟨L,Mu.eT h2 hb,h3⟩
  have hno : ∀ B,¬AN (μ.cut P.globals.size) (p9 P D) B:=by rintro B ⟨b,k,L,hb,hk,_⟩;rw [hgetB b hb] at hk;cases hk
  have ht:AV (μ.cut P.globals.size) (p9 P D):=fun b hb=>by have : ¬b<P.globals.size:=IK.2 hb;simp [Mu.cut,this]
  refine (hW.run _ _ _ _ hr hf rfl hbd (DD _) (μ.cut P.globals.size) w [] S0 ht (aR.nil _)).mono ?_;rintro e w' ⟨v0,h0,rfl,_,_,_,μ1,v1,rfl,S1,St,hv1⟩;have same : ∀ (B:Nat) (x:Obj),w.heap[B]? = some x->w'.heap[B]? = some x:=by intro B x hx;rw [St.same B (DT.1 hx).1 (hno B)];exact hx
  refine ⟨μ,v1,rfl,⟨?_,?_,?_,S.inj,D7 S.size St.size,S.low⟩,⟨fun _ _=>rfl,rfl,rfl,DD _,St.os,St.tape,St.output,St.size,fun B hB _=>St.same B hB (hno B),fun B hB => .inl hB,St.loops,St.drawn⟩,?_⟩
  ·intro b cs hb hc;obtain ⟨L,arr,T,fr,h2,h3,h4,h5,h6⟩:=S.old b cs hb hc;exact ⟨L,arr,T,fr,h2,h3,h4,same _ _ h5,h6⟩
  ·intro b k hb hk;obtain ⟨L,arr,T,fr,h2,h3,h4,h5⟩:=S.new b k hb hk;exact ⟨L,arr,T,fr,h2,h3,same _ _ h4,h5⟩
  ·intro b o hb hk;obtain ⟨L,ob,h2,h3,h4⟩:=S.obj b o hb hk;exact ⟨L,ob,h2,same _ _ h3,h4⟩
  ·rw [hv1.bM hv];exact .flat hv
end
section
theorem gj {α β:Type} (P:Program) (s:Sem α) (f:α->Sem β):cf P (s >>= f)=(cf P s).bind (fun a=>cf P (f a)):=by
 show cf P (s.bind f)=_;induction s with
 |pure a=>rfl
 |program k ih=>simp only [Sem.bind,cf];exact ih P
 |_=>rfl
theorem gi {α:Type} (P:Program) (a:α):cf P (pure a)=some a:=rfl
theorem sB (P:Program):cf P program=some P:=rfl
section
variable {P:Program}
theorem eU {t:TypeId} {d:TypeDesc} (h:P.underlying t=some d):cf P (underlying t)=some d:=by unfold underlying;simp only [gj,sB,Option.bind_some,h,gi]
theorem pr_size {t:TypeId} {n:Nat} (h:cS P t=some n):cf P (sizeOf t)=some n:=by unfold cS at h;rw [DQ] at h;obtain ⟨i,h1,rfl⟩:=h;unfold Go.sizeOf typeInfo;simp only [gj,sB,Option.bind_some,h1,gi]
theorem cE {t:TypeId} {k:IntKind} {xs:Array Value} {off:Nat} {v:Value} (h:P.underlying t=some (.int k)) (hx:xs[off]? = some v):cf P (part t xs off)=some v:=by unfold part isAgg;simp only [gj,eU h,Option.bind_some,gi,hx];rfl
theorem tH {t:TypeId} {xs:Array Value} {off:Nat} {v:Value} (h:P.underlying t=some .bool) (hx:xs[off]? = some v):cf P (part t xs off)=some v:=by unfold part isAgg;simp only [gj,eU h,Option.bind_some,gi,hx];rfl
theorem mu {t e:TypeId} {m n:Nat} {xs:Array Value} {off:Nat} (h:P.underlying t=some (.array m e)) (hs:cS P t=some n):cf P (part t xs off)=some (.agg (xs.extract off (off+n))):=by unfold part isAgg;simp only [gj,eU h,Option.bind_some,gi,EA,pr_size hs]
theorem kR {d:Nat} {t:TypeId} {k j:IntKind} {a b:Int} (h:P.underlying t=some (.int k)):cf P (Op.equalIn (d+1) t (.int j a) (.int j b))=some (a==b):=by simp only [Op.equalIn,gj,eU h,Option.bind_some,EA,gi]
theorem pr_eq_bool {d:Nat} {t:TypeId} {a b:Bool} (h:P.underlying t=some .bool):cf P (Op.equalIn (d+1) t (.bool a) (.bool b))=some (a==b):=by simp only [Op.equalIn,gj,eU h,Option.bind_some,gi]
theorem pr_loop {d e:Nat} {k j:IntKind} {xs ys:Array Value} (he:P.underlying e=some (.int k)) : ∀ (m s:Nat),(∀ i,s<=i->i<s+m -> ∃ a b,xs[i]? = some (.int j a)/\ys[i]? = some (.int j b)) ->
  ∃ r:Bool,(r=true ↔ ∀ i,s<=i->i<s+m->xs[i]? = ys[i]?)/\cf P (forIn (List.range' s m) ((none:Option Bool),()) fun i __s=>do
     let a <-part e xs (i*1)
     let b <-part e ys (i*1)
     let r <-Op.equalIn (d+1) e a b
     if (!r)=true then pure (ForInStep.done (some false,())) else pure (ForInStep.yield (none,())))=some (if r=true then (none,()) else (some false,()))
 | 0,s,_=>⟨true,⟨fun _ i h1 h2=>by omega,fun _=>rfl⟩,rfl⟩
 |m+1,s,h=>by
  obtain ⟨a,b,h1,h2⟩:=h s (DD _) (by omega);rw [List.range'_succ,List.forIn_cons];simp only [gj,GF,cE he h1,cE he h2,Option.bind_some,kR he];by_cases hab:a=b
  ·subst hab;obtain ⟨r,hr,ih⟩:=pr_loop he m (s+1) (fun i q1 q2=>h i (by omega) (by omega)) (d:=d);simp only [GF] at ih;refine ⟨r,hr.trans ⟨fun hall i q1 q2 => ?_,fun hh i q1 q2=>hh i (by omega) (by omega)⟩,?_⟩
   ·by_cases e:i=s
    ·subst e;rw [h1,h2]
    ·exact hall i (by omega) (by omega)
   ·simp only [EC,DP,DG,EF,gi,Option.bind_some];exact ih
  ·refine ⟨false,⟨fun h=>(by cases h),fun hh => ?_⟩,?_⟩
   ·have:=hh s (DD _) (by omega);rw [h1,h2] at this;exact absurd (by simpa using this) hab
   ·have:(a==b)=false:=by simpa using hab
    simp only [this,DO,EA,gi,Option.bind_some,DG,EF]
theorem pr_eq_arr {d m:Nat} {t e:TypeId} {k j:IntKind} {xs ys:Array Value} (h:P.underlying t=some (.array m e)) (hs:cS P e=some 1) (he:P.underlying e=some (.int k)) (hx : ∀ i,i<m -> ∃ a b,xs[i]? = some (.int j a)/\ys[i]? = some (.int j b)) :
  ∃ r:Bool,(r=true ↔ ∀ i,i<m->xs[i]? = ys[i]?)/\cf P (Op.equalIn (d+2) t (.agg xs) (.agg ys))=some r:=by
 rw [Op.equalIn];simp only [gj,eU h,Option.bind_some,pr_size hs,Std.Legacy.Range.forIn_eq_forIn_range'];obtain ⟨r,hr,this⟩:=pr_loop (d:=d) he (xs:=xs) (ys:=ys) (j:=j) m 0 (fun i _ q=>hx i (by omega));have hsz:([:m]:Std.Legacy.Range).size=m:=by simp [Std.Legacy.Range.size]
 rw [hsz,this];refine ⟨r,hr.trans ⟨fun hh i q=>hh i (FN _) (by omega),fun hh i _ q=>hh i (by omega)⟩,?_⟩;cases r<;>rfl
def eqF (P:Program) (d:Nat) (xs ys:Array Value):List Field->Option Bool
 | []=>some true
 | f :: fs => if f.name ≠ "_" then (cf P (part f.type xs f.offset)).bind fun a => (cf P (part f.type ys f.offset)).bind fun b => (cf P (Op.equalIn d f.type a b)).bind fun r => if r = true then eqF P d xs ys fs else some false else eqF P d xs ys fs
theorem uF {d:Nat} {t:TypeId} {fs:Array Field} {xs ys:Array Value} (h:P.underlying t=some (.struct fs)) (hp:P.stoodInHeld t=false):cf P (Op.equalIn (d+1) t (.agg xs) (.agg ys))=eqF P d xs ys fs.toList:=by
 simp only [Op.equalIn, gj, eU h, Option.bind_some, sB, hp, DG, EF];rw [<-Array.forIn_toList];generalize fs.toList=l;clear h;induction l with
 |nil=>rfl
 |cons f l ih=>
  rw [List.forIn_cons,eqF];by_cases hn : f.name ≠ "_"
  ·rw [DL hn,DL hn];simp only [gj];cases cf P (part f.type xs f.offset) with
   |none=>rfl
   |some a=>
    simp only [Option.bind_some];cases cf P (part f.type ys f.offset) with
    |none=>rfl
    |some b=>
     simp only [Option.bind_some];cases cf P (Op.equalIn d f.type a b) with
     |none=>rfl
     |some r=>
      cases r with
      |true=>
       simp only [Option.bind_some,DP,DG,EF,gi,EA];exact ih
      |false=>rfl
  ·rw [DM hn,DM hn];simp only [gj,gi,Option.bind_some];exact ih
theorem Cl {t:TypeId} {xs ys:Array Value} {r:Bool} (hg:P.eqGuardType P.depth t=false) (h1:ground (.agg xs)=true) (h2:ground (.agg ys)=true) (h:cf P (Op.equalIn 10000 t (.agg xs) (.agg ys))=some r) :
  aF P .eql t (.agg xs) (.agg ys)=some (.bool r)/\aF P .neq t (.agg xs) (.agg ys)=some (.bool !r):=by
 have e1:cf P (binOp .eql t (.agg xs) (.agg ys))=some (.bool r):=by simp only [binOp,Op.equal,Op.maxDepth,gj,h,Option.bind_some,gi]
 have e2:cf P (binOp .neq t (.agg xs) (.agg ys))=some (.bool !r):=by simp only [binOp,Op.equal,Op.maxDepth,gj,h,Option.bind_some,gi]
 unfold aF eqOk binA;simp only [hg,DO,EA,h1,h2,D9,e1,e2,flat];exact ⟨trivial,trivial⟩
end
theorem az.also {a b c:ai} {B B':Nat->Prop} (x:az a b B) (y:az b c B') (hB : ∀ d,d<a.next->B' d->B d):az a c B:=
 ⟨y.n0.trans x.n0,D7 x.next y.next,fun d hd hb=>(y.getB d (EJ hd x.next) (fun h=>hb (hB d hd h))).trans (x.getB d hd hb)⟩
theorem az.getE {h h':ai} {B:Nat->Prop} (x:az h h' B) {b:Nat} {k:ju} (e:h.get b=some k) (hB : ¬B b):h'.get b=some k:=(x.get b (h.aO e) hB).trans e
end
def rgA:Code->Code
 | .rangeFunc _ _ a _=>a
 |c=>c
def rgB:Code->Code
 | .rangeFunc _ _ _ b=>b
 |c=>c
theorem zZ {P:Program} {C:au} {c:Code} {g:Operand} {ps:Array Tmp} {e:aX} {h h2:ai} {i:FuncId} {first captured:Array Value} {v:Value} (hc0:c = .rangeFunc g ps (rgA c) (rgB c))
  (hv:ev e g = .func (.func i) first captured) (hb:hasBody P i=true) (hc:C i (first.toList ++ [.func (.yield h.next) #[] #[]]++captured.toList) (h.br (.obj (.loop .ready none e ps.toList (rgA c) (rgB c))))=some (v,h2)) :
  codeA P C c e h=endLoopA h.next e h2:=by
 rw [hc0];simp only [codeA,hv,hb,EA];rw [hc]
def Ag (h:ai) (L:Nat) (e:aX) (ps:List Tmp) (a b:Code):Prop:=h.getB L=some (.obj (.loop .ready none e ps a b))
theorem Ag.new (h:ai) (e:aX) (ps:List Tmp) (a b:Code):Ag (h.br (.obj (.loop .ready none e ps a b))) h.next e ps a b:=by unfold Ag;rw [ai.bO,DL rfl]
theorem az.allocO (h:ai) (o:fN) (B:Nat->Prop):az h (h.br (.obj o)) B:=
 ⟨rfl,by simp,fun c hc _=>by rw [ai.bO,DM (by omega)]⟩
theorem az.setO {h:ai} {L:Nat} {o o':fN} {B:Nat->Prop} (hg:h.getB L=some (.obj o)) (hB:B L):az h (h.setO L o') B:=
 ⟨rfl,by simp,fun c hc hn=>by
  by_cases e:c=L
  ·subst e;exact absurd hB hn
  ·exact ai.eN (h.bE hg) (h.lt_of_getB hg) _ e⟩
theorem Ag.keep {h h':ai} {L:Nat} {e:aX} {ps:List Tmp} {a b:Code} {B:Nat->Prop} (x:Ag h L e ps a b) (k:az h h' B) (hB : ¬B L):Ag h' L e ps a b:=az.obj k x hB
theorem Ag.fin {h:ai} {L:Nat} {e e0:aX} {ps:List Tmp} {a b:Code} (x:Ag h L e ps a b) : ∃ h',endLoopA L e0 h=some (.normal,e0,h')/\az h h' (· = L)/\h'.next=h.next:=by unfold Ag at x;refine ⟨h.setO L (.loop .exhausted none e ps a b),?_,az.setO x rfl,rfl⟩;unfold endLoopA;rw [x];rfl
theorem Ag.round {P:Program} {C:au} {h h1 h2:ai} {L:Nat} {e e1 e2:aX} {ps:List Tmp} {a b:Code} {args:List Value} (x:Ag h L e ps a b) (hl:args.length=ps.length) (oa:codeOk P a=true) (ob:codeOk P b=true)
  (ha:codeA P C a (fo e (ps.zip args)) h=some (.normal,e1,h1)) {B:Nat->Prop} (k1:az h h1 B) (hB : ¬B L)
  (hb:codeA P C b e1 (h1.setO L (.loop .busy none e ps a b))=some (.normal,e2,h2)) (k2:az (h1.setO L (.loop .busy none e ps a b)) h2 B) :
  ∃ h3,roundA P C L args h=some (.bool true,h3)/\Ag h3 L e ps a b/\h3.next=h2.next/\h3.n0=h.n0/\(∀ c,h3.get c=h2.get c)/\(∀ c,c≠L->h3.getB c=h2.getB c):=by
 have y:h1.getB L=some (.obj (.loop .ready none e ps a b)):=k1.obj x hB;have z:(h1.setO L (.loop .busy none e ps a b)).getB L=some (.obj (.loop .busy none e ps a b)):=ai.iU (h1.bE y) y _;have w:h2.getB L=some (.obj (.loop .busy none e ps a b)):=k2.obj z hB;refine ⟨h2.setO L (.loop .ready none e ps a b),?_,ai.iU (h2.bE w) w _,rfl,?_,fun c=>ai.ug w _ c,fun c hc=>ai.eN (h2.bE w) (h2.lt_of_getB w) _ hc⟩
 ·unfold Ag at x;unfold roundA;rw [x];simp only;rw [DL ⟨hl,oa,ob⟩,ha];simp only;rw [y];simp only;rw [hb];simp only;unfold ff;rw [w];rfl
 ·show h2.n0=h.n0;rw [k2.n0];exact k1.n0
theorem qS (n:Nat) (x:Nat->Value) (t:Nat) (v:Value):(aK n x).set t v=aK n (up x [(t,v)]):=by
 refine FU fun j => ?_;unfold aK;rw [HG,EN,EN,DY,IJ];by_cases hj:j<n
 ·rw [GJ hj];by_cases e:t=j
  ·subst e;rw [DL rfl,DL hj,Option.map_some,xi,DL rfl]
  ·rw [DM e,Option.map_some,Option.map_some,xi,DM e,up_nil]
 ·rw [ET (l:=List.range n) (by rw [IJ];omega)];by_cases e:t=j
  ·subst e;rw [DL rfl,DM hj];rfl
  ·rw [DM e];rfl
theorem ev_mkF {n t:Nat} (ht:t<n) (x:Nat->Value):ev (aK n x) (.tmp t)=x t:=by show (aK n x).getD t undef=x t;unfold aK;rw [DJ,EN,GJ ht];rfl
section
def over (A B:au):au:=fun f args h=>match A f args h with|some r=>some r|none=>B f args h
theorem qY {A B:au} {f:FuncId} {args:List Value} {h:ai} {r:Value×ai} (e:over A B f args h=some r):A f args h=some r\/(A f args h=none/\B f args h=some r):=by
 unfold over at e;split at e
 ·rename_i h1;exact .inl (h1.trans e)
 ·rename_i h1;exact .inr ⟨h1,e⟩
theorem xU {P:Program} {A B:au} (hA:bp P A) (hB:bp P B):bp P (over A B):=by
 refine ⟨?_,?_,?_,?_⟩
 ·intro f args h v h' e;rcases qY e with e|⟨_,e⟩
  ·exact hA.grow _ _ _ _ _ e
  ·exact hB.grow _ _ _ _ _ e
 ·intro f args h v h' e;rcases qY e with e|⟨_,e⟩
  ·exact hA.bd _ _ _ _ _ e
  ·exact hB.bd _ _ _ _ _ e
 ·intro f args h v h' e;rcases qY e with e|⟨_,e⟩
  ·exact hA.run _ _ _ _ _ e
  ·exact hB.run _ _ _ _ _ e
 ·intro f args h v h' e;rcases qY e with e|⟨_,e⟩
  ·exact hA.round _ _ _ _ _ e
  ·exact hB.round _ _ _ _ _ e
def only (S:List Nat) (A:au):au:=fun f args h=>if S.contains f=true then A f args h else none
theorem qW {S:List Nat} {A:au} {f:FuncId} {args:List Value} {h:ai} {r:Value×ai} (e:only S A f args h=some r):A f args h=some r:=by
 unfold only at e;split at e
 ·exact e
 ·cases e
theorem zK {P:Program} {S:List Nat} {A:au} (hA:bp P A):bp P (only S A):=
 ⟨fun _ _ _ _ _ e=>hA.grow _ _ _ _ _ (qW e),fun _ _ _ _ _ e=>hA.bd _ _ _ _ _ (qW e),fun _ _ _ _ _ e=>hA.run _ _ _ _ _ (qW e),fun _ _ _ _ _ e=>hA.round _ _ _ _ _ (qW e)⟩
section
variable {P:Program} {X Y:au} {S:List Nat}
noncomputable def CC2 (P:Program) (X Y:au) (S:List Nat):au:=CC P (over Y (only S (CC P X)))
theorem CC2_up {f:FuncId} {args:List Value} {h:ai} {r:Value×ai} (hS:S.contains f=true) (hY:Y f args h=none) (e:CC P X f args h=some r):CC2 P X Y S f args h=some r:=
 tv (by unfold over only;rw [hY,DL hS];exact e)
theorem BH {f:FuncId} {args:List Value} {h:ai} {r:Value×ai} (e:Y f args h=some r):CC2 P X Y S f args h=some r:=
 tv (by unfold over;rw [e])
theorem CC2_body {f:FuncId} {fn:Func} (i:cx P f fn) {args:List Value} {h:ai} {r:Value×ai} (hg:P.globals.size<=h.n0) (hS:S.contains f=false) (hY:Y f args h=none)
  (e:bw P (CC2 P X Y S) fn args h=some r):CC2 P X Y S f args h=some r:=
 CC_body i hg (by unfold over only;rw [hY,DM (by rw [hS];exact HX)]) e
theorem CC2_round {l:Nat} {args:List Value} {h:ai} {r:Value×ai} (hg:P.globals.size<=h.n0) (hS:S.contains (BS P l)=false) (hY:Y (BS P l) args h=none)
  (e:roundA P (CC2 P X Y S) l args h=some r):CC2 P X Y S (BS P l) args h=some r:=
 CC_round hg (by unfold over only;rw [hY,DM (by rw [hS];exact HX)]) e
theorem CC2_sound (hm:P.follows .mixedOrders=true) (hX:bp P X) (hY:bp P Y):bp P (CC2 P X Y S):=oh hm (xU hY (zK (oh hm hX)))
theorem cQ.of_CC2 (hm:P.follows .mixedOrders=true) (hX:bp P X) (hY:bp P Y) {f:FuncId} {fn:Func} (i:cx P f fn):cQ P f (CC2 P X Y S f):=cQ.of_CC hm (xU hY (zK (oh hm hX))) i
end
section
variable {P:Program} {C:au} {K:Ex->aX->ai->Prop}
theorem seqW {a b:Code} {e e':aX} {h h':ai} (ha:codeA P C a e h=some (.normal,e',h')) (hb:codeW P C (wD C) b e' h' K):codeW P C (wD C) (.seq a b) e h K:=by simp only [codeW];exact uD a ha hb
theorem seqW_ret {a b:Code} {e e':aX} {h h':ai} (ha:codeA P C a e h=some (.ret,e',h')) (hb:K .ret e' h'):codeW P C (wD C) (.seq a b) e h K:=by simp only [codeW];exact uD a ha hb
theorem pU {i t d d2 n:Nat} {o1 o2:Oper} (h1:o1.op = .next (.tmp t) false) (h2:o1.dst=some d) (h3:o1.guard=none) (h4:o2.op = .extract (.tmp d) 0) (h5:o2.dst=some d2) (h6:o2.guard=none)
  (hd:d<n) (ht:t<n) {x:Nat->Value} {h:ai} {l:List (Value×ai)} (hl:nextsA (x t) h=some l) (hk : ∀ r∈l,∃ v,extractA r.1 0=some v/\K .normal (aK n (up x [(d2,v),(d,r.1)])) r.2) :
  codeW P C (wD C) (.region i #[o1,o2] false) (aK n x) h K:=by
 have g1 : ∀ (y:Nat->Value) (t:Nat),t<n->ev (aK n y) (.tmp t)=y t:=by intro y t ht;show (aK n y).getD t undef=y t;unfold aK;rw [DJ,EN,GJ ht];rfl
 have w1 : ∀ e,iZ #[o1,o2] o1 e=true:=fun e=>by unfold iZ;rw [h3]
 have w2 : ∀ e,iZ #[o1,o2] o2 e=true:=fun e=>by unfold iZ;rw [h6]
 simp only [codeW,opsW,w1,w2,EA];unfold opW;rw [h1];simp only;refine ⟨l,by rw [g1 x t ht];exact hl,fun r hr => ?_⟩;obtain ⟨v,e1,e2⟩:=hk r hr;rw [h4];simp only;refine ⟨v,r.2,?_,?_⟩
 ·unfold opA;rw [h4];simp only;rw [h2];have:putD (aK n x) (some d) r.1=aK n (up x [(d,r.1)]):=qS n x d r.1;rw [this,g1 _ d hd,up_same,e1];rfl
 ·rw [h2,h5];have a1:putD (aK n x) (some d) r.1=aK n (up x [(d,r.1)]):=qS n x d r.1;have a2:putD (aK n (up x [(d,r.1)])) (some d2) v=aK n (up (up x [(d,r.1)]) [(d2,v)]):=qS n _ d2 v;rw [a1,a2];have a3:up (up x [(d,r.1)]) [(d2,v)]=up x [(d2,v),(d,r.1)]:=by
   funext t
   simp only [xi,up_nil]
  rw [a3];exact e2
end
end
end Go.Abs
