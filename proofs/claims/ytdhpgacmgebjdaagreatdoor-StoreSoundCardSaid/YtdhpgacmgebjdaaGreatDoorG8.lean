/-
  A part of the proof, shortened by a program.
  Conditions: as each theorem states.
-/
import Derived.Test.YtdhpgacmgebjdaaGreatDoorG7
import Derived.ProofKit
set_option linter.all false
namespace Go.Abs
noncomputable section
section
open Go.RowKit
def dO (W:World) (old:Nat->Option (List Vl)):ae:=⟨W.heap.size,old,.nil,0⟩
def iE (W:World):Mu:=fun b=>if b<W.heap.size then some ⟨b,0,0,0⟩ else none
def iw (W:World) (old:Nat->Option (List Vl)) {b:Nat} (hb:W.heap.size<=b):(dO W old).getB b=none:=by simp only [ae.gJ];unfold dO;simp only [Nat.add_zero];rw [DU (by omega),DU (by omega)]
def Ct (W:World) (old:Nat->Option (List Vl)) {b:Nat} (hb:W.heap.size<=b):(dO W old).get b=none:=by unfold ae.get;rw [iw W old hb];rfl
def ca.below {μ μ':Mu} {h h':ae} {W W':World} (hn : ∀ B,B<W.heap.size -> ¬AA μ h B) (St:ca μ h W μ' h' W'):Below W.heap.size W W':=
 ⟨St.os,St.tape,St.output,St.size,fun k hk=>St.same k hk (hn k hk)⟩
end
structure Late (ι:Type) where
 p:(ι->Prop)->Prop
 all : ∀ {q:ι->Prop},(∀ i,q i)->p q
 and : ∀ {q r s:ι->Prop},p q->p r->(∀ i,q i->r i->s i)->p s
section
variable {ι:Type} (E:Late ι) {P:Program} {C:ah} {D:ι->ah}
def Late.mono {q r:ι->Prop} (h:E.p q) (hr : ∀ i,q i->r i):E.p r:=E.and h (E.all (q:=fun _=>True) fun _=>trivial) fun i h _=>hr i h
variable (base : ∀ f args h r,C f args h=some r->E.p fun i=>D i f args h=some r)
include base
def zq (o:Oper) (ρ:Operand->Vl) (h:ae) (r:Vl×ae) (e:opA P C o ρ h=some r):E.p fun i=>opA P (D i) o ρ h=some r:=by
 unfold opA at e |-;split at e;all_goals first
  |exact E.all fun _=>e
  |skip
 rename_i c _;cases hc:c.callee with
 |builtin b=>simp only [hc] at e |-;exact E.all fun _=>e
 |invoke a b=>simp only [hc] at e;cases e
 |value f=>
  simp only [hc] at e |-;unfold callA at e |-;split at e
  ·split at e
   ·rename_i hi;simp only [hi,D8];exact base _ _ _ _ e
   ·cases e
  ·exact base _ _ _ _ e
  ·cases e
def uX (ops:Array Oper) : ∀ (l:List Oper) (e:aQ) (h:ae) (r:aQ×ae),opsA P C ops l e h=some r->E.p fun i=>opsA P (D i) ops l e h=some r
 | [],e,h,r,x=>E.all fun _=>x
 |o::l,e,h,r,x=>by
  simp only [opsA] at x |-;unfold stepA at x |-;by_cases hw:iR ops o e=true
  ·simp only [hw,D8] at x |-;cases ho:opA P C o (ev e) h with
   |none=>rw [ho] at x;cases x
   |some y=>
    rw [ho] at x;refine E.and (zq E base o (ev e) h y ho) (uX ops l _ _ r x) ?_;intro i h1 h2;simp only [h1];exact h2
  ·simp only [hw] at x |-;exact uX ops l _ _ r x
def oJ (ops:Array Oper) : ∀ (l:List (Nat×Oper)) (e:aQ) (h:ae) (r:List CG×aQ×ae),traceA P C ops l e h=some r->E.p fun i=>traceA P (D i) ops l e h=some r
 | [],e,h,r,x=>E.all fun _=>x
 | (n,o)::l,e,h,r,x=>by
   simp only [traceA] at x |-;by_cases hw:iR ops o e=true
   ·simp only [hw,D8] at x |-;cases ho:opA P C o (ev e) h with
    |none=>rw [ho] at x;cases x
    |some y=>
     rw [ho] at x;simp only at x;cases ht:traceA P C ops l (putD e o.dst y.1) y.2 with
     |none=>rw [ht] at x;cases x
     |some z=>
      rw [ht] at x;refine E.and (zq E base o (ev e) h y ho) (oJ ops l _ _ z ht) ?_;intro i h1 h2;simp only [h1,h2];exact x
   ·simp only [hw] at x |-;cases ht:traceA P C ops l (putD e o.dst undef) h with
    |none=>rw [ht] at x;cases x
    |some z=>
     rw [ht] at x;refine E.mono (oJ ops l _ _ z ht) ?_;intro i h2;simp only [h2];exact x
omit base in
def all_late {α:Type} (l:List α) (p:α->Bool) (q:ι->α->Bool) (hq : ∀ x∈l,p x=true->E.p fun i=>q i x=true) (h:l.all p=true):E.p fun i=>l.all (q i)=true:=by
 induction l with
 |nil=>exact E.all fun _=>rfl
 |cons x l ih=>
  simp only [List.all_cons,DN] at h |-;exact E.and (hq x EM h.1) (ih (fun y hy=>hq y (EK _ hy)) h.2) fun i a b=>⟨a,b⟩
def dynOk_late (ops:Array Oper) (l:List (Nat×Oper)) (tr:List CG) (hEnd:ae) (x:dynOk P C ops l tr hEnd=true):E.p fun i=>dynOk P (D i) ops l tr hEnd=true:=by
 unfold dynOk at x |-;refine all_late E _ _ (fun i x=>_) ?_ x;intro a _ ha;rw [FF] at ha;rcases ha with ha|ha
 ·exact E.all fun i=>by rw [FF];exact .inl ha
 ·let G:ι->(Nat×Oper)×Nat->Bool:=fun i y=>fA (gX ops) a.1.1.1 y.1.1||fA (gX ops) y.1.1 a.1.1.1||match pj (tr.map (·.sI)) (tr.map (·.h) ++ [hEnd]) (madeIn P l (a.2,y.2)) (if y.2<a.2 then y.2 else y.2+1) with
      |some h=>same (opA P (D i) a.1.1.2 (ev a.1.2.e) h) a.1.2.v
      |none=>false
  refine E.mono (all_late E _ _ G ?_ ha) ?_
  ·intro y _ hy;rw [FF] at hy;rcases hy with hy|hy
   ·exact E.all fun i=>by rw [FF];exact .inl hy
   ·split at hy
    ·rename_i h hh;unfold Abs.same at hy;split at hy
     ·rename_i v g hv;refine E.mono (zq E base _ _ _ _ hv) ?_;intro i hi;rw [FF];refine .inr ?_;rw [hh];simp only [hi,Abs.same];exact hy
     ·cases hy
    ·cases hy
  ·intro i hi;rw [FF];exact .inr hi
def DA (ops:Array Oper) (d:Bool) (e:aQ) (h:ae) (r:aQ×ae) (x:regionA P C ops d e h=some r):E.p fun i=>regionA P (D i) ops d e h=some r:=by
 unfold regionA at x |-;cases d with
 |false=>exact uX E base ops _ e h r x
 |true=>
  simp only [D8] at x |-;split at x
  ·rename_i hs;simp only [hs,D8];split at x
   ·rename_i tr e1 h1 ht;split at x
    ·rename_i hd;refine E.and (oJ E base ops _ e h _ ht) (dynOk_late E base ops _ tr h1 hd) ?_;intro i a b;simp only [a,b,D8];exact x
    ·cases x
   ·cases x
  ·cases x
omit base in
def Bc {step:aQ->ae->Option (Ex×aQ×ae)} {stepD:ι->aQ->ae->Option (Ex×aQ×ae)} (hs : ∀ e h r,step e h=some r->E.p fun i=>stepD i e h=some r) :
  ∀ (n:Nat) (e:aQ) (h:ae) (r:Ex×aQ×ae),iter step n e h=some r->E.p fun i=>iter (stepD i) n e h=some r
 | 0,_,_,_,x=>by cases x
 |n+1,e,h,r,x=>by
  simp only [iter] at x |-;split at x
  ·rename_i e1 h1 h2;refine E.and (hs _ _ _ h2) (Bc hs n _ _ r x) ?_;intro i a b;simp only [a];exact b
  ·rename_i hn;refine E.mono (hs _ _ _ x) ?_;intro i a;simp only [a];obtain ⟨ex,e1,h1⟩:=r;cases ex with
   |normal=>exact absurd x (hn e1 h1)
   |ret=>rfl
   |exit j=>rfl
def dD : ∀ (c:Code) (e:aQ) (h:ae) (r:Ex×aQ×ae),codeA P C c e h=some r->E.p fun i=>codeA P (D i) c e h=some r
 | .skip,e,h,r,x=>E.all fun _=>x
 | .region _ ops d,e,h,r,x=>by
   simp only [codeA] at x |-;split at x
   ·rename_i e1 h1 h2;refine E.mono (DA E base ops d e h _ h2) ?_;intro i a;simp only [a];exact x
   ·cases x
 | .seq a b,e,h,r,x=>by
   simp only [codeA] at x |-;split at x
   ·rename_i e1 h1 h2;refine E.and (dD a e h _ h2) (dD b _ _ r x) ?_;intro i p q;simp only [p];exact q
   ·rename_i hn;refine E.mono (dD a e h _ x) ?_;intro i p;simp only [p];obtain ⟨ex,e1,h1⟩:=r;cases ex with
    |normal=>exact absurd x (hn e1 h1)
    |ret=>rfl
    |exit j=>rfl
 | .cond c a b,e,h,r,x=>by
   simp only [codeA] at x |-;split at x
   ·exact dD a e h r x
   ·exact dD b e h r x
   ·cases x
 | .block j b,e,h,r,x=>by
   simp only [codeA] at x |-;split at x
   ·rename_i k e1 h1 h2;refine E.mono (dD b e h _ h2) ?_;intro i p;simp only [p];exact x
   ·rename_i hn;refine E.mono (dD b e h _ x) ?_;intro i p;simp only [p];obtain ⟨ex,e1,h1⟩:=r;cases ex with
    |exit k=>exact absurd x (hn k e1 h1)
    |ret=>rfl
    |normal=>rfl
 | .loop b,e,h,r,x=>by simp only [codeA] at x |-;exact Bc E (fun e h r y=>dD b e h r y) aK e h r x
 | .exit _,e,h,r,x=>E.all fun _=>x
 | .scope b,e,h,r,x=>by simp only [codeA] at x |-;exact dD b e h r x
 | .label _,e,h,r,x=>E.all fun _=>x
 | .ret,e,h,r,x=>E.all fun _=>x
 | .goto _,e,h,r,x=>by cases x
 | .rangeFunc g ps a b,e,h,r,x=>by
   simp only [codeA] at x |-;split at x
   ·rename_i i first captured hev
    split at x
    ·rename_i hi;split at x
     ·rename_i v h2 hc;refine E.mono (base _ _ _ _ hc) ?_;intro j hj;simp only [hi,D8,hj];exact x
     ·cases x
    ·cases x
   ·cases x
 | .refuse _,e,h,r,x=>by cases x
def lV (l:Nat) (args:List Vl) (h:ae) (r:Vl×ae) (x:roundA P C l args h=some r):E.p fun i=>roundA P (D i) l args h=some r:=by obtain ⟨v,h'⟩:=r;obtain ⟨st,p0,t0,q0,assign,body,e1,h1,p1,t1,q1,a1,b1,ex,e2,h2,hg,hlen,ho1,ho2,hca,hg1,hcb,hend⟩:=jJ x;refine E.and (dD E base assign _ _ _ hca) (dD E base body _ _ _ hcb) ?_;intro i c1 c2;unfold roundA;rw [hg];simp only;rw [DR ⟨hlen,ho1,ho2⟩,c1];simp only;rw [hg1];simp only;rw [c2];exact hend
def lh (fn:Func) (args:List Vl) (h:ae) (r:Vl×ae) (x:bodyA P C fn args h=some r):E.p fun i=>bodyA P (D i) fn args h=some r:=by
 unfold bodyA at x |-;cases hb:fn.body with
 |none=>rw [hb] at x;cases x
 |some c=>
  rw [hb] at x;simp only at x |-;cases hc:codeA P C c (args++List.replicate (fn.ntmps-args.length) undef) h with
  |none=>rw [hc] at x;cases x
  |some y=>
   rw [hc] at x;refine E.mono (dD E base c _ _ y hc) ?_;intro i a;simp only [a];exact x
end
def qc:Late Unit:=⟨fun q=>q (),fun h=>h (),fun a b h=>h () a b⟩
def qA:Late Nat:=⟨fun q => ∃ n,∀ m,n<=m->q m,fun h=>⟨0,fun m _=>h m⟩,fun a b h=>by obtain ⟨n,a⟩:=a;obtain ⟨k,b⟩:=b;exact ⟨max n k,fun m hm=>h m (a m (by omega)) (b m (by omega))⟩⟩
def callX (P:Program) (X:ah):Nat->ah
 | 0,f,args,h=>X f args h
 |k+1,f,args,h=>match X f args h with
  |some r=>some r
  |none=>if Nat.ble P.globals.size h.n0 then match P.funcs[f]? with
   |some fn=>if sw P fn then bodyA P (callX P X k) fn args h else none
   |none=>roundA P (callX P X k) (f-P.funcs.size) args h
  else none
def r9 {P:Program} {X:ah} : ∀ (n:Nat) (f:FuncId) (args:List Vl) (h:ae) (r:Vl×ae),callX P X n f args h=some r->callX P X (n+1) f args h=some r
 | 0,f,args,h,r,x=>by have x:X f args h=some r:=x;simp only [callX,x]
 |n+1,f,args,h,r,x=>by
  unfold callX at x |-;split at x
  ·exact x
  ·rename_i hX;split at x
   ·rename_i hg;rw [DR hg];split at x
    ·rename_i fn hf;split at x
     ·rename_i hk;rw [DR hk];exact lh (ι:=Unit) qc (D:=fun _=>callX P X (n+1)) (fun f args h r e=>r9 n f args h r e) fn args h r x
     ·cases x
    ·exact lV (ι:=Unit) qc (D:=fun _=>callX P X (n+1)) (fun f args h r e=>r9 n f args h r e) _ args h r x
   ·cases x
def nK {P:Program} {X:ah} {n m:Nat} (hm:n<=m) {f:FuncId} {args:List Vl} {h:ae} {r:Vl×ae} (x:callX P X n f args h=some r):callX P X m f args h=some r:=by
 obtain ⟨k,rfl⟩ : ∃ k,m=n+k:=⟨m-n,by omega⟩
 clear hm;induction k with
 |zero=>exact x
 |succ k ih=>exact r9 _ _ _ _ _ ih
def iz {P:Program} {X:ah} (hm:P.follows .mixedOrders=true) (hX:aZ P X) : ∀ k,aZ P (callX P X k)
 | 0=>hX
 |k+1=>by
  have ih:=iz hm hX k;have key : ∀ {f args h v h'},callX P X (k+1) f args h=some (v,h')->X f args h=some (v,h')\/(∃ fn,P.funcs[f]? = some fn/\sw P fn=true/\P.globals.size<=h.n0/\bodyA P (callX P X k) fn args h=some (v,h')) \/
    (P.funcs.size<=f/\P.globals.size<=h.n0/\roundA P (callX P X k) (f-P.funcs.size) args h=some (v,h')):=by
   intro f args h v h' he;unfold callX at he;split at he
   ·rename_i hx;exact .inl (hx.trans he)
   ·split at he
    ·rename_i h1;split at he
     ·rename_i fn hf;split at he
      ·rename_i hk;exact .inr (.inl ⟨fn,hf,hk,EO h1,he⟩)
      ·cases he
     ·rename_i hf;exact .inr (.inr ⟨Array.getElem?_eq_none_iff.1 hf,EO h1,he⟩)
    ·cases he
  refine ⟨?_,?_,?_,?_⟩
  ·intro f args h v h' he;rcases key he with hx|⟨fn,h1,h2,h3,h4⟩|⟨h1,h2,h3⟩
   ·exact hX.grow _ _ _ _ _ hx
   ·exact bodyA_grow ih h4
   ·exact roundA_grow ih h3
  ·intro f args h v h' he hba hbh;rcases key he with hx|⟨fn,h1,h2,h3,h4⟩|⟨h1,h2,h3⟩
   ·exact hX.bd _ _ _ _ _ hx hba hbh
   ·exact bodyA_bd ih h2 h3 h4 hba hbh
   ·exact roundA_bd ih h3 h2 hba hbh
  ·intro f args h v h' he hf hba hbh hg μ w args' S hfr r;rcases key he with hx|⟨fn,h1,h2,h3,h4⟩|⟨h1,_⟩
   ·exact hX.run _ _ _ _ _ hx hf hba hbh hg μ w args' S hfr r
   ·cases hb:fn.body with
    |none=>unfold bodyA at h4;rw [hb] at h4;cases h4
    |some c=>
     have hco:codeOk P c=true:=by unfold sw at h2;rw [hb] at h2;simp only [DN] at h2;exact h2.2
     have h2':=h2;unfold sw at h2';rw [DN,FU] at h2';exact .inl ⟨fn,h1,h2'.1,by rw [hb];rfl,zr ih hm h1 hb hco h4 hg hba hbh S hfr r⟩
   ·exact absurd hf (HY.2 h1)
  ·intro l args h v h' he hba hbh hg μ w args' L S hfr r hL;rcases key he with h0|⟨fn,h1,_⟩|⟨_,_,h2⟩
   ·exact hX.round _ _ _ _ _ h0 hba hbh hg μ w args' L S hfr r hL
   ·exact absurd (DZ.1 h1).1 (HY.2 (HW _ _))
   ·rw [show yid P l-P.funcs.size=l from GA _ _] at h2;exact round_sound ih hm h2 hg hba hbh S hfr r hL
open Classical in
def CC (P:Program) (X:ah):ah:=fun f args h=>if e : ∃ n,(callX P X n f args h).isSome then callX P X e.choose f args h else none
def qe {P:Program} {X:ah} {f:FuncId} {args:List Vl} {h:ae} {r:Vl×ae} (e:CC P X f args h=some r) : ∃ n,callX P X n f args h=some r:=by
 unfold CC at e;split at e
 ·exact ⟨_,e⟩
 ·cases e
def CC_of {P:Program} {X:ah} {n:Nat} {f:FuncId} {args:List Vl} {h:ae} {r:Vl×ae} (e:callX P X n f args h=some r):CC P X f args h=some r:=by
 have hx : ∃ n,(callX P X n f args h).isSome:=⟨n,by rw [e];rfl⟩
 unfold CC;rw [dif_pos hx];have h2:=hx.choose_spec;rw [E6] at h2;obtain ⟨r2,h2⟩:=h2;have h3:=nK (Nat.le_max_left n hx.choose) e;have h4:=nK (Nat.le_max_right n hx.choose) h2;rw [h2,<-h3,h4]
def xL {P:Program} {X:ah} {f:FuncId} {args:List Vl} {h:ae} {r:Vl×ae} (e:X f args h=some r):CC P X f args h=some r:=CC_of (n:=0) e
def jy {P:Program} {X:ah} {f:FuncId} {fn:Func} (i:bJ P f fn) {args:List Vl} {h:ae} {r:Vl×ae} (hg:P.globals.size<=h.n0) (hX:X f args h=none)
  (e:aY P (CC P X) fn args h=some r):CC P X f args h=some r:=by
 rw [nc] at e;have base : ∀ f args h r,CC P X f args h=some r->qA.p fun n=>callX P X n f args h=some r:=by intro f args h r e;obtain ⟨n,hn⟩:=qe e;exact ⟨n,fun m hm=>nK hm hn⟩
 obtain ⟨n,hn⟩:=lh qA (D:=callX P X) base fn args h r e;have hok:sw P fn=true:=by unfold sw;rw [i.name,i.body];simp only [EJ,E3];exact i.ok
 refine CC_of (n:=n+1) ?_;unfold callX;rw [hX];simp only;rw [DR (FV hg),i.at_];simp only;rw [DR hok];exact hn n (DO _)
def CC_round {P:Program} {X:ah} {l:Nat} {args:List Vl} {h:ae} {r:Vl×ae} (hg:P.globals.size<=h.n0) (hX:X (yid P l) args h=none)
  (e:roundA P (CC P X) l args h=some r):CC P X (yid P l) args h=some r:=by
 have base : ∀ f args h r,CC P X f args h=some r->qA.p fun n=>callX P X n f args h=some r:=by intro f args h r e;obtain ⟨n,hn⟩:=qe e;exact ⟨n,fun m hm=>nK hm hn⟩
 obtain ⟨n,hn⟩:=lV qA (D:=callX P X) base l args h r e;refine CC_of (n:=n+1) ?_;unfold callX;rw [hX];simp only;rw [DR (FV hg),show P.funcs[yid P l]? = none from FX (HW _ _)];simp only;rw [show yid P l-P.funcs.size=l from GA _ _];exact hn n (DO _)
def jK {P:Program} {X:ah} (hm:P.follows .mixedOrders=true) (hX:aZ P X):aZ P (CC P X):=by
 refine ⟨?_,?_,?_,?_⟩
 ·intro f args h v h' e;obtain ⟨n,e⟩:=qe e;exact (iz hm hX n).grow _ _ _ _ _ e
 ·intro f args h v h' e;obtain ⟨n,e⟩:=qe e;exact (iz hm hX n).bd _ _ _ _ _ e
 ·intro f args h v h' e;obtain ⟨n,e⟩:=qe e;exact (iz hm hX n).run _ _ _ _ _ e
 ·intro l args h v h' e;obtain ⟨n,e⟩:=qe e;exact (iz hm hX n).round _ _ _ _ _ e
def bq.of_CC {P:Program} {X:ah} (hm:P.follows .mixedOrders=true) (hX:aZ P X) {f:FuncId} {fn:Func} (i:bJ P f fn):bq P f (CC P X f) where
 fn:=(DZ.1 i.at_).1
 grow args h v h' e:=(jK hm hX).grow _ _ _ _ _ e
 bd args h v h' e:=(jK hm hX).bd _ _ _ _ _ e
 run args h v h' e:=(jK hm hX).run _ _ _ _ _ e (DZ.1 i.at_).1
def lW {α β:Type} (P:Program) (s:Sem α) (f:α->Sem β):cR P (s >>= f)=(cR P s).bind (fun a=>cR P (f a)):=by
 show cR P (s.bind f)=_;induction s with
 |pure a=>rfl
 |program k ih=>simp only [Sem.bind,cR];exact ih P
 |_=>rfl
def lQ {α:Type} (P:Program) (a:α):cR P (pure a)=some a:=rfl
def yN (P:Program):cR P program=some P:=rfl
section
variable {P:Program}
def mz {t:TypeId} {d:TypeDesc} (h:P.underlying t=some d):cR P (underlying t)=some d:=by unfold underlying;simp only [lW,yN,Option.bind_some,h,lQ]
def pr_size {t:TypeId} {n:Nat} (h:cL P t=some n):cR P (sizeOf t)=some n:=by unfold cL at h;rw [DT] at h;obtain ⟨i,h1,rfl⟩:=h;unfold Go.sizeOf typeInfo;simp only [lW,yN,Option.bind_some,h1,lQ]
def vA {t:TypeId} {k:IntKind} {xs:Array Vl} {off:Nat} {v:Vl} (h:P.underlying t=some (.int k)) (hx:xs[off]? = some v):cR P (part t xs off)=some v:=by unfold part isAgg;simp only [lW,mz h,Option.bind_some,lQ,hx];rfl
def pr_eq_int {d:Nat} {t:TypeId} {k j:IntKind} {a b:Int} (h:P.underlying t=some (.int k)):cR P (Op.equalIn (d+1) t (.int j a) (.int j b))=some (a==b):=by simp only [Op.equalIn,lW,mz h,Option.bind_some,D8,lQ]
def pr_loop {d e:Nat} {k j:IntKind} {xs ys:Array Vl} (he:P.underlying e=some (.int k)) : ∀ (m s:Nat),(∀ i,s<=i->i<s+m -> ∃ a b,xs[i]? = some (.int j a)/\ys[i]? = some (.int j b)) ->
  ∃ r:Bool,(r=true ↔ ∀ i,s<=i->i<s+m->xs[i]? = ys[i]?)/\cR P (forIn (List.range' s m) ((none:Option Bool),()) fun i __s=>do
     let a <-part e xs (i*1)
     let b <-part e ys (i*1)
     let r <-Op.equalIn (d+1) e a b
     if (!r)=true then pure (ForInStep.done (some false,())) else pure (ForInStep.yield (none,())))=some (if r=true then (none,()) else (some false,()))
 | 0,s,_=>⟨true,⟨fun _ i h1 h2=>by omega,fun _=>rfl⟩,rfl⟩
 |m+1,s,h=>by
  obtain ⟨a,b,h1,h2⟩:=h s (DO _) (by omega);rw [IY,List.forIn_cons];simp only [lW,FQ,vA he h1,vA he h2,Option.bind_some,pr_eq_int he];by_cases hab:a=b
  ·subst hab;obtain ⟨r,hr,ih⟩:=pr_loop he m (s+1) (fun i q1 q2=>h i (by omega) (by omega)) (d:=d);simp only [FQ] at ih;refine ⟨r,hr.trans ⟨fun hall i q1 q2 => ?_,fun hh i q1 q2=>hh i (by omega) (by omega)⟩,?_⟩
   ·by_cases e:i=s
    ·subst e;rw [h1,h2]
    ·exact hall i (by omega) (by omega)
   ·simp only [D6,EP,DJ,D3,lQ,Option.bind_some];exact ih
  ·refine ⟨false,⟨fun h=>(by cases h),fun hh => ?_⟩,?_⟩
   ·have:=hh s (DO _) (by omega);rw [h1,h2] at this;exact absurd (by simpa using this) hab
   ·have:(a==b)=false:=by simpa using hab
    simp only [this,EJ,D8,lQ,Option.bind_some,DJ,D3]
def pr_eq_arr {d m:Nat} {t e:TypeId} {k j:IntKind} {xs ys:Array Vl} (h:P.underlying t=some (.array m e)) (hs:cL P e=some 1) (he:P.underlying e=some (.int k)) (hx : ∀ i,i<m -> ∃ a b,xs[i]? = some (.int j a)/\ys[i]? = some (.int j b)) :
  ∃ r:Bool,(r=true ↔ ∀ i,i<m->xs[i]? = ys[i]?)/\cR P (Op.equalIn (d+2) t (.agg xs) (.agg ys))=some r:=by
 rw [Op.equalIn];simp only [lW,mz h,Option.bind_some,pr_size hs,Std.Legacy.Range.forIn_eq_forIn_range'];obtain ⟨r,hr,this⟩:=pr_loop (d:=d) he (xs:=xs) (ys:=ys) (j:=j) m 0 (fun i _ q=>hx i (by omega));have hsz:([:m]:Std.Legacy.Range).size=m:=by simp [Std.Legacy.Range.size]
 rw [hsz,this];refine ⟨r,hr.trans ⟨fun hh i q=>hh i (FB _) (by omega),fun hh i _ q=>hh i (by omega)⟩,?_⟩;cases r<;>rfl
def bin_agg {t:TypeId} {xs ys:Array Vl} {r:Bool} (hg:P.eqGuardType P.depth t=false) (h1:ground (.agg xs)=true) (h2:ground (.agg ys)=true) (h:cR P (Op.equalIn 10000 t (.agg xs) (.agg ys))=some r) :
  aE P .eql t (.agg xs) (.agg ys)=some (.bool r)/\aE P .neq t (.agg xs) (.agg ys)=some (.bool !r):=by
 have e1:cR P (binOp .eql t (.agg xs) (.agg ys))=some (.bool r):=by simp only [binOp,Op.equal,Op.maxDepth,lW,h,Option.bind_some,lQ]
 have e2:cR P (binOp .neq t (.agg xs) (.agg ys))=some (.bool !r):=by simp only [binOp,Op.equal,Op.maxDepth,lW,h,Option.bind_some,lQ]
 unfold aE eqOk binA;simp only [hg,EJ,D8,h1,h2,EY,e1,e2,flat];exact ⟨trivial,trivial⟩
end
def aw.also {a b c:ae} {B B':Nat->Prop} (x:aw a b B) (y:aw b c B') (hB : ∀ d,d<a.next->B' d->B d):aw a c B:=
 ⟨y.n0.trans x.n0,ED x.next y.next,fun d hd hb=>(y.getB d (FC hd x.next) (fun h=>hb (hB d hd h))).trans (x.getB d hd hb)⟩
def aw.getE {h h':ae} {B:Nat->Prop} (x:aw h h' B) {b:Nat} {k:eW} (e:h.get b=some k) (hB : ¬B b):h'.get b=some k:=(x.get b (h.aW e) hB).trans e
section
variable {P:Program} {C:ah} {W:dU}
def range_goodW (hW:mj P W) {g:Operand} {params:Array Tmp} {assign body:Code} (hok:codeOk P (.rangeFunc g params assign body)=true):uU P C W (.rangeFunc g params assign body):=by
 intro ro nd s rs e h K μ a w Q he hg hbe hbh S t r hmk hsz hro hQ;simp only [codeOk] at hok;simp only [codeW] at he;split at he
 ·rename_i i first captured hev
  obtain ⟨hbdy,he⟩:=he;obtain ⟨fn0, hfn, hname, hbody⟩ : ∃ fn, P.funcs[i]? = some fn ∧ (fn.name == "runtime.NumGoroutine") = false ∧ fn.body.isNone = false := by
   unfold hasBody at hbdy;split at hbdy
   ·rename_i fn hf;rw [DN,FU] at hbdy;exact ⟨fn,hf,hbdy.2,by rw [Option.isNone_eq_false_iff];exact hbdy.1⟩
   ·cases hbdy
  have hi:i<P.funcs.size:=(DZ.1 hfn).1;have hbv:=vw hg hbe hok;have hal:aA (h.bj (.obj (.loop .ready none e params.toList assign body))):=hbh.allocO (bW (F8 _) hbe);have hrv:=ry S hg r hok;rw [hev] at hbv hrv;obtain ⟨fg,first',captured',hfe,hfg,hr1,hr2⟩:=hrv.mS;cases hfg;have hba:cy (h.bj (.obj (.loop .ready none e params.toList assign body))).next (first.toList ++ [.func (.yield h.next) #[] #[]]++captured.toList)=true:=by
   obtain ⟨lf⟩:=first
   obtain ⟨lc⟩:=captured;simp only [bR,DN] at hbv;exact bT (bT (bW (by simp) hbv.2.1) (by simp [cy,bR,bdF])) (bW (by simp) hbv.2.2)
  have main : ∀ (fn:FuncId) (l:Nat) (rs':List Nat) (w1:World) (ob:Loop),(Instr.enterLoop fn a.tmps params assign body ro).run P w = .ok (l,dw rs') w1->w.heap.size<=l->w1.heap.size=l+1 ->
    (∀ C,C<w.heap.size->w1.heap[C]? = w.heap[C]?)->w1.heap[l]? = some (Obj.loop ob)->w1.os=w.os->w1.tape=w.tape->w1.output=w.output->w.drawn<=w1.drawn ->
    ob.state = .ready->ob.pending=none->ob.tmps=a.tmps->ob.params=params->ob.assign=assign->ob.body=body ->
    (∀ r∈rs',w.heap.size<=r/\r≠l/\w1.heap[r]? = some (.deferred (some [])))->rs'.Nodup ->
    ∃ (l:Nat) (mark:List Deferred) (w₁:World) (d:Deferred) (w₁':World) (f:FuncId) (args:Array Vl) (w₂:World),
    (Instr.enterLoop fn a.tmps params assign body (Fr ro).round).run P w = .ok (l,mark) w₁ /\
    (resolve a.eval (rangeCall g l) 0).run P w₁ = .ok d w₁' /\
    (∀ f',Target.leads P w₁' d.target d.args=some f'->(Fr ro).fn f') /\
    (invoke d.target d.args).run P w₁' = .ok (.enter f args) w₂ /\
    ((Fr ro).depth.isSome=true->1<=nd) /\
    CallsIn (Fr ro) (nd-1) P f args w₂ (rangePost (Fr ro) nd P l Q { a with defers:=mark++a.defers }):=by
   intro fn l rs' w1 ob hent hl1 hl2 hold hnew ho ht hp hdw q1 q2 q3 q4 q5 q6 hrs hnd;obtain ⟨S1,St1⟩:=S.allocO (o := .loop .ready none e params.toList assign body) t.free (ob := .loop ob) (w1:=w1) (B:=l) ho ht hp hl1 hl2 hold hnew
    ⟨q1,by rw [q2];rfl,by rw [q3];exact r.1.mono (Mu.iT (t _ (DO _))),by rw [q4],q5,q6⟩ hdw
   have hmono:=Mu.iT (L:=⟨l,0,0,0⟩) (t _ (DO _));have hyl:aD (μ.put h.next ⟨l,0,0,0⟩) (.func (.yield h.next) #[] #[]) (.func (.yield l) #[] #[]) := .func ⟨_,Mu.cf _ _ _,rfl⟩ rfl (by simp) rfl (by simp);have hall:=((hr1.mono hmono).append (aU.cons hyl (aU.nil _))).append (hr2.mono hmono);have top1:=t.step St1;have hcalls:=(hW.run _ _ _ _ he hi hba hal (by simpa using hg) _ w1 _ S1 top1 hall).fe hfn hname hbody;refine ⟨l,dw rs',w1,{ target := .fn (.func i) captured',args:=first' ++ #[.func (.yield l) #[] #[]] },w1,i,_,w1,hent,?_,fun _ _=>trivial,?_,(fun h=>by cases h),(tQ (r:=ro) (n:=nd-1) hcalls).mono ?_⟩
   ·unfold resolve;simp only [hfe,Deferred.ofValue,List.map_toArray,ES,HH,show a.eval (.const (.func (.yield l) #[] #[])) = .func (.yield l) #[] #[] from rfl];rfl
   ·simp only [invoke,callFunc,Sem.run_bind,run_program,Result.andThen_ok,hfn,hname,hbody,DJ,D3,Sem.run_pure]
    congr 2
    apply HR;simp
   ·rintro en w3 ⟨v,h2,⟨x,e',h',hl,hk⟩,hgr,hb1,hb2,μ3,v3,rfl,S3,St3,hv3⟩;obtain ⟨st,pend,tmps,ps,as,bo,hgl,hst,rfl,rfl,rfl⟩:=gT hl;have hgr1:h.next+1<=h2.next:=by have:=hgr.1;simpa using this
    have hμ3:μ3 h.next=some ⟨l,0,0,0⟩:=St3.mono top1.free _ _ (Mu.cf _ _ _);obtain ⟨L,ob3,g1,g2,g3,g4,g5⟩:=S3.obj h.next _ (h2.bk hgl) hgl;rw [hμ3] at g1;cases g1;cases ob3 with
    |loop r3=>
     obtain ⟨k1,k2,k3,k4,k5,k6⟩:=g3;have hend:(Instr.endLoop l).run P w3 = .ok r3.pending (w3.putObj l (.loop { r3 with state := .exhausted })):=run_endLoop g2 (by rw [k1];exact hst);refine ⟨r3.pending,_,hend,?_⟩;obtain ⟨S4,St4⟩:=S3.setO (o' := .loop .exhausted pend tmps ps as bo) (ob' := .loop { r3 with state := .exhausted }) hgl hμ3 ⟨rfl,k2,k3,k4,k5,k6⟩;have StA:=(St1.trans St3).trans St4;have hob:=hb2.obj _ _ hgl;have hq:Q (zG (pend.getD .normal)) { a with defers:=dw rs'++a.defers } (w3.putObj l (.loop { r3 with state := .exhausted })):=by
      refine hQ _ _ _ _ _ hk (((bp.allocO _ _).trans hgr).trans (bp.setO _ _ _)) (bW (by simp only [ae.kq];omega) hbe) (hb2.setO (h2.bk hgl) hgl hob) ⟨μ3,rs'++rs,S4,StA,⟨?_,?_⟩,?_⟩
      ·exact r.1.mono (StA.mono t.free)
      ·rw [r.2];simp [dw]
      ·have hm1:=hmk.step StA;have hnew2 : ∀ r∈rs',¬AA μ h r:=by rintro r hr ⟨b,k,L,o1,o2,o3,o4⟩;obtain ⟨L2,ob2,p1,p2,p3⟩:=S.place o1 o2;rw [p1] at o3;cases o3;have:=(DZ.1 p2).1;have:=(hrs r hr).1;omega
       have own1 : ∀ r∈rs',¬AA (μ.put h.next ⟨l,0,0,0⟩) (h.bj (.obj (.loop .ready none e' params.toList assign body))) r:=by
        rintro r hr ⟨b,k,L,o1,o2,o3,o4⟩;rw [h.bE] at o2;by_cases eb:b=h.next
        ·subst eb;rw [Mu.cf] at o3;cases o3;exact (hrs r hr).2.1 o4.symm
        ·rw [DU eb] at o2;rw [Mu.cK _ _ eb] at o3;exact hnew2 r hr ⟨b,k,L,o1,o2,o3,o4⟩
       have mk1:kF s (μ.put h.next ⟨l,0,0,0⟩) (h.bj (.obj (.loop .ready none e' params.toList assign body))) w1 rs':=
        ⟨hnd,fun r hr=>⟨ED hsz (hrs r hr).1,(hrs r hr).2.2,own1 r hr⟩⟩
       have mk2:=mk1.step (St3.trans St4);refine ⟨?_,fun r hr => ?_⟩
       ·rw [HP];refine ⟨hnd,hmk.dup,fun x hx y hy e => ?_⟩;have h5:=(hrs x hx).1;have h6:=(DZ.1 (hmk.at_ y hy).2.1).1;omega
       ·rcases EF.1 hr with h5|h5
        ·exact mk2.at_ r h5
        ·exact hm1.at_ r h5
     generalize w3.putObj l (.loop { r3 with state := .exhausted })=W at hq |-;generalize r3.pending=q at k2 |-;subst k2;cases pend with
     |none=>exact hq
     |some y=>exact xU hq
    |_=>exact g3.elim
  refine wpIn_rangeFunc fun fn _ => ?_;cases ro with
  |none=>
   refine main fn (w.heap.size+1) [w.heap.size] _ _ (run_enterLoop_outer fn a.tmps params assign body) (F8 _) (by simp) ?_ (by have:=World.alloc_heap_new (w.alloc (.deferred (some []))) (.loop { state := .ready,pending:=none,fn,tmps:=a.tmps,params,assign,body,defers:=w.heap.size });simpa using this) rfl rfl rfl (DO _) rfl rfl rfl rfl rfl rfl ?_ (by simp)
   ·intro C hC;rw [dh _ _ _ (by simp;omega),dh _ _ _ hC]
   ·intro r hr;rw [FI.1 hr];refine ⟨DO _,by omega,?_⟩;rw [dh _ _ _ (by simp)];exact World.alloc_heap_new w _
  |some l₀=>
   obtain ⟨r₀,hr₀⟩:=hro l₀ rfl;exact main fn w.heap.size [] _ _ (mG fn a.tmps params assign body hr₀) (DO _) (by simp) (fun C hC=>dh _ _ _ hC) (World.alloc_heap_new w _) rfl rfl rfl (DO _) rfl rfl rfl rfl rfl rfl (by simp) (by simp)
 ·exact he.elim
def dR (hC:aZ P C) (hW:mj P W) (hm:P.follows .mixedOrders=true) : ∀ (c:Code),codeOk P c=true->uU P C W c
 | .skip,_=>by intro ro nd s rs e h K μ a w Q he hg hbe hbh S t r hmk hsz hro hQ;exact wpIn_skip (hQ .normal e h a w he (bp.refl _) hbe hbh ⟨μ,rs,S,.bQ,r,hmk⟩)
 | .region id ops d,hok=>by
   intro ro nd s rs e h K μ a w Q he hg hbe hbh S t r hmk hsz hro hQ;simp only [codeOk] at hok;cases d with
   |true=>
    simp only [codeW] at he;obtain ⟨e',h',h2,hk⟩:=he;obtain ⟨b1,b2⟩:=xQ hC hok hg hbe hbh h2;refine lK hC hm hok h2 hg hbe hbh S t.free r ?_;rintro a' w' ⟨μ',hS,hSt,hr⟩;exact hQ .normal e' h' a' w' hk (sX hC h2) b1 b2 ⟨μ',rs,hS,hSt,hr,hmk.step hSt⟩
   |false=>
    simp only [codeW] at he;refine wpIn_region ?_;have:=rR hW (ro:=ro) (nd:=nd) (s:=s) (rs:=rs) (ops:=ops) (Q:=Q) ops.toList 0 rfl hok he hg hbe hbh S t r hmk (fun e' h' a' w' hk hgr b1 b2 hx=>hQ .normal e' h' a' w' hk hgr b1 b2 hx)
    rwa [Array.length_toList,<-List.range_eq_range'] at this
 | .seq b c,hok=>by
   intro ro nd s rs e h K μ a w Q he hg hbe hbh S t r hmk hsz hro hQ;simp only [codeOk,DN] at hok;simp only [codeW] at he;refine wpIn_seq ?_;refine dR hC hW hm b hok.1 _ _ s rs _ _ _ _ _ _ _ he hg hbe hbh S t r hmk hsz hro ?_;rintro x e' h' a' w' hk hgr hb1 hb2 ⟨μ1,rs1,hS,hSt,hr,hmk1⟩;cases x with
   |normal=>exact dR hC hW hm c hok.2 _ _ s rs1 _ _ _ _ _ _ _ hk (by rw [hgr.2.1];exact hg) hb1 hb2 hS (t.step hSt) hr hmk1 (ED hsz hSt.size) (hro.step hSt) (hQ.trans hgr hSt)
   |ret=>exact hQ _ e' h' a' w' hk hgr hb1 hb2 ⟨μ1,rs1,hS,hSt,hr,hmk1⟩
   |exit i=>exact hQ _ e' h' a' w' hk hgr hb1 hb2 ⟨μ1,rs1,hS,hSt,hr,hmk1⟩
 | .cond c x y,hok=>by
   intro ro nd s rs e h K μ a w Q he hg hbe hbh S t r hmk hsz hro hQ;simp only [codeOk,DN] at hok;simp only [codeW] at he;have hv:=ry S hg r hok.1.1;split at he
   ·rename_i h1;rw [h1] at hv;exact wpIn_cond_true hv.bool (dR hC hW hm x hok.1.2 _ _ s rs _ _ _ _ _ _ _ he hg hbe hbh S t r hmk hsz hro hQ)
   ·rename_i h1;rw [h1] at hv;exact wpIn_cond_false hv.bool (dR hC hW hm y hok.2 _ _ s rs _ _ _ _ _ _ _ he hg hbe hbh S t r hmk hsz hro hQ)
   ·exact he.elim
 | .block id b,hok=>by
   intro ro nd s rs e h K μ a w Q he hg hbe hbh S t r hmk hsz hro hQ;simp only [codeOk] at hok;simp only [codeW] at he;refine wpIn_block (dR hC hW hm b hok _ _ s rs _ _ _ _ _ _ _ he hg hbe hbh S t r hmk hsz hro ?_);intro x e' h' a' w' hk hgr hb1 hb2 hx;cases x with
   |normal=>exact hQ _ e' h' a' w' hk hgr hb1 hb2 hx
   |ret=>exact hQ _ e' h' a' w' hk hgr hb1 hb2 hx
   |exit i=>
    have hq:=hQ _ e' h' a' w' hk hgr hb1 hb2 hx;simp only [zG,Exit.inBlock];by_cases hj:i=id
    ·rw [DR hj] at hq |-;exact hq
    ·rw [DU hj] at hq |-;exact hq
 | .loop b,hok=>by intro ro nd s rs e h K μ a w Q he hg hbe hbh S t r hmk hsz hro hQ;simp only [codeOk] at hok;simp only [codeW] at he;exact wpIn_loop_rounds _ (xG (dR hC hW hm b hok) _ he hg hbe hbh S t r hmk hsz hro hQ)
 | .exit i,_=>by intro ro nd s rs e h K μ a w Q he hg hbe hbh S t r hmk hsz hro hQ;exact wpIn_exit (hQ (.exit i) e h a w he (bp.refl _) hbe hbh ⟨μ,rs,S,.bQ,r,hmk⟩)
 | .scope b,hok=>by intro ro nd s rs e h K μ a w Q he hg hbe hbh S t r hmk hsz hro hQ;simp only [codeOk] at hok;simp only [codeW] at he;refine jR (dR hC hW hm b hok _ _ s rs _ _ _ _ _ _ _ he hg hbe hbh S t r hmk hsz hro ?_);intro x e' h' a' w' hk hgr hb1 hb2 hx;have hq:=hQ x e' h' a' w' hk hgr hb1 hb2 hx;cases x<;>exact hq
 | .label _,_=>by intro ro nd s rs e h K μ a w Q he hg hbe hbh S t r hmk hsz hro hQ;exact wpIn_label (hQ .normal e h a w he (bp.refl _) hbe hbh ⟨μ,rs,S,.bQ,r,hmk⟩)
 | .ret,_=>by intro ro nd s rs e h K μ a w Q he hg hbe hbh S t r hmk hsz hro hQ;exact wpIn_ret (hQ .ret e h a w he (bp.refl _) hbe hbh ⟨μ,rs,S,.bQ,r,hmk⟩)
 | .goto _,hok=>by simp [codeOk] at hok
 | .rangeFunc g ps x y,hok=>range_goodW hW hok
 | .refuse _,hok=>by simp [codeOk] at hok
def vf (hC:aZ P C) (hW:mj P W) (hm:P.follows .mixedOrders=true) {f:FuncId} {fn:Func} {c:Code} (hf:P.funcs[f]? = some fn) (hb:fn.body=some c) (hok:codeOk P c=true)
  {args:List Vl} {h:ae} {K:Vl->ae->Prop} (he:bodyW P C W fn args h K) (hg:P.globals.size<=h.n0) (hba:cy h.next args=true) (hbh:aA h)
  {μ:Mu} {w:World} {args':List Vl} (S:cn μ h w) (t:Top μ h) (r:aU μ args args'):Calls P f args'.toArray w (pq μ h w K):=by
 unfold bodyW at he;rw [hb] at he;simp only at he;refine fr_calls (r:=none) (n:=0) (callsIn_of_wp_marks hf hb trivial ?_ rfl);have hbe:cy h.next (args++List.replicate (fn.ntmps-args.length) undef)=true:=
  bT hba (dM.2 fun x hx=>by rw [EZ hx];rfl)
 have her:gU (dw []) μ (args++List.replicate (fn.ntmps-args.length) undef) { tmps:=args'.toArray++Array.replicate (fn.ntmps-args'.toArray.size) undef,defers := [] }:=by refine ⟨?_,rfl⟩;have h1:args.length=args'.length:=r.1;simp only [FR,Array.toList_replicate,E7];rw [h1];exact r.append (aU.replicate μ _ (aD.undef μ))
 refine dR hC hW hm c hok none 0 w.heap.size [] _ _ _ _ _ _ _ he hg hbe hbh S t her ⟨by simp,by simp⟩ (DO _) (fun l hl=>by cases hl) ?_;rintro x e' h' a' w' hk hgr hb1 hb2 ⟨μ',rs,hS,hSt,hr,hmk⟩;have main : ∀ v h2,resultsA P fn.results.toList e' h'=some (v,h2)->K v h2->LeavesInM (Fr none) 0 P fn a'.tmps (pq μ h w K) a'.defers .returning w':=by
  intro v h2 hres hkv;have hh:=gY hres;subst hh;have fin:=nV (P:=P) (nd:=0) (fn:=fn) (a:=a') (R:=pq μ h w K) rs hS hSt hmk (fun w2 S2 St2=>by obtain ⟨v',h3,h4⟩:=oC (P:=P) (w:=w2) S2 hr hres;exact ⟨v',h3,v,h2,hkv,hgr,(vy hb2 hb1 hres).1,hb2,μ',v',rfl,S2,St2,h4⟩)
  rw [hr.2];exact fin
 cases x with
 |normal=>obtain ⟨v,h2,h3,h4⟩:=hk;exact main v h2 h3 h4
 |ret=>obtain ⟨v,h2,h3,h4⟩:=hk;exact main v h2 h3 h4
 |exit i=>exact hk.elim
def bq.of_bodyW (hC:aZ P C) (hW:mj P W) (hm:P.follows .mixedOrders=true) {f:FuncId} {fn:Func} (i:bJ P f fn) {s:List Vl->ae->ba}
  (grow : ∀ args h v h',s args h=some (v,h')->bp h h')
  (bd : ∀ args h v h',s args h=some (v,h')->cy h.next args=true->aA h->bR h'.next v=true/\aA h')
  (body : ∀ args h v h',s args h=some (v,h')->cy h.next args=true->aA h->P.globals.size<=h.n0->bodyW P C W fn args h fun v1 h1 => ∃ r,Gc h v h' v1 h1 r):bq P f s where
 fn:=(DZ.1 i.at_).1
 grow:=grow
 bd:=bd
 run:=by
  intro args h v h' hs hba hbh hg μ w args' S hfr r;have he:=body args h v h' hs hba hbh hg;have ht:Top (μ.cut h.next) h:=fun b hb=>by simp [Mu.cut,HY.2 hb]
  refine .inl ⟨fn,i.at_,i.name,by rw [i.body];rfl,(vf hC hW hm i.at_ i.body i.ok he hg hba hbh (S.cut hbh) ht (r.cut hba)).mono ?_⟩;rintro e w' ⟨v1,h1,⟨rr,G⟩,gr1,_,_,μ1,v',rfl,S1,St,hv⟩;obtain ⟨hb1,hb2⟩:=bd args h v h' hs hba hbh;obtain ⟨μ',h2,h3,h4⟩:=gc_sound G (grow args h v h' hs) gr1 hbh hb2 hb1 S1 St hv;exact ⟨μ',v',rfl,h2,h3,h4⟩
end
def codeA_W {P:Program} {C:ah} : ∀ (c:Code) {e e':aQ} {h h':ae} {x:Ex} {K:Ex->aQ->ae->Prop},codeA P C c e h=some (x,e',h')->K x e' h'->codeW P C (ofC C) c e h K:=by
 have opW_of : ∀ {o:Oper} {ρ:Operand->Vl} {h h':ae} {v:Vl} {K:Vl->ae->Prop},opA P C o ρ h=some (v,h')->K v h'->opW P (ofC C) o ρ h K:=by
  intro o ρ h h' v K ho hk;unfold opW;split
  ·rename_i it heq;unfold opA at ho;rw [heq] at ho;simp only [nextA,DJ,D3] at ho;split at ho
   ·rename_i r hr;refine ⟨[r],hr,?_⟩;intro q hq;rw [FI.1 hq];cases ho;exact hk
   ·cases ho
  ·rename_i f args tys heq;unfold opA at ho;rw [heq] at ho;simp only [callA] at ho;unfold callAW;split at ho
   ·rename_i i first captured hfe
    rw [hfe];split at ho
    ·rename_i hi;exact ⟨hi,v,h',ho,hk⟩
    ·cases ho
   ·rename_i l first captured hfe
    rw [hfe];exact ⟨v,h',ho,hk⟩
   ·cases ho
  ·rename_i hne1 hne2;refine ⟨v,h',?_,hk⟩;unfold opA at ho |-;cases hop:o.op with
   |call c=>
    rw [hop] at ho;simp only at ho |-;cases hc:c.callee with
    |value f=>
     exfalso;obtain ⟨cal,args,tys⟩:=c;simp only at hc;subst hc;exact hne2 f args tys hop
    |builtin b=>rw [hc] at ho;exact ho
    |invoke a b=>rw [hc] at ho;exact ho
   |_=>rw [hop] at ho;exact ho
 have opsW_of : ∀ {ops:Array Oper} (l:List Oper) {e e':aQ} {h h':ae} {K:aQ->ae->Prop},opsA P C ops l e h=some (e',h')->K e' h'->ju P (ofC C) ops l e h K:=by
  intro ops l;induction l with
  |nil=>
   intro e e' h h' K he hk;simp only [opsA,DH,DQ] at he;obtain ⟨rfl,rfl⟩:=he;exact hk
  |cons o l ih=>
   intro e e' h h' K he hk;simp only [opsA] at he;simp only [ju];split at he
   ·rename_i e1 h1 hs;unfold stepA at hs;split at hs
    ·rename_i hw;rw [DR hw];split at hs
     ·rename_i v h2 ho;cases hs;exact opW_of ho (ih he hk)
     ·cases hs
    ·rename_i hw;rw [DU hw];cases hs;exact ih he hk
   ·cases he
 intro c;induction c with
 |skip=>intro e e' h h' x K he hk;cases he;exact hk
 |region id ops d=>
  intro e e' h h' x K he hk;simp only [codeA] at he;split at he
  ·rename_i e1 h1 h2;cases he;cases d with
   |true=>exact ⟨e',h',h2,hk⟩
   |false=>exact opsW_of _ (by simpa [regionA] using h2) hk
  ·cases he
 |seq a b iha ihb=>
  intro e e' h h' x K he hk;simp only [codeA] at he;split at he
  ·rename_i e1 h1 h2;exact iha h2 (ihb he hk)
  ·rename_i hne;refine iha he ?_;cases x with
   |normal=>exact absurd he (hne _ _)
   |ret=>exact hk
   |exit i=>exact hk
 |cond q a b iha ihb=>
  intro e e' h h' x K he hk;simp only [codeA] at he;simp only [codeW];split at he
  ·rename_i hv;rw [hv];exact iha he hk
  ·rename_i hv;rw [hv];exact ihb he hk
  ·cases he
 |block id b ih=>
  intro e e' h h' x K he hk;simp only [codeA] at he;split at he
  ·rename_i i e1 h1 h2;cases he;exact ih h2 hk
  ·rename_i hne;refine ih he ?_;cases x with
   |normal=>exact hk
   |ret=>exact hk
   |exit i=>exact absurd he (hne _ _ _)
 |loop b ih=>
  intro e e' h h' x K he hk;simp only [codeA] at he;simp only [codeW];have : ∀ (n:Nat) {e e':aQ} {h h':ae} {x:Ex},iter (codeA P C b) n e h=some (x,e',h')->K x e' h'->oT (codeW P C (ofC C) b) n e h K:=by
   intro n;induction n with
   |zero=>intro e e' h h' x he;cases he
   |succ n ihn=>
    intro e e' h h' x he hk;simp only [iter] at he;simp only [oT];split at he
    ·rename_i e1 h1 h2;exact ih h2 (ihn he hk)
    ·rename_i hne;refine ih he ?_;cases x with
     |normal=>exact absurd he (hne _ _)
     |ret=>exact hk
     |exit i=>exact hk
  exact this _ he hk
 |rangeFunc g ps a b _ _=>
  intro e e' h h' x K he hk;simp only [codeA] at he;simp only [codeW];split at he
  ·rename_i i first captured hev
   rw [hev];split at he
   ·rename_i hi;split at he
    ·rename_i v h2 hc;exact ⟨hi,v,h2,hc,x,e',h',he,hk⟩
    ·cases he
   ·cases he
  ·cases he
 |exit i=>intro e e' h h' x K he hk;cases he;exact hk
 |scope b ih=>intro e e' h h' x K he hk;exact ih (by simpa [codeA] using he) hk
 |label l=>intro e e' h h' x K he hk;cases he;exact hk
 |goto l=>intro e e' h h' x K he hk;cases he
 |ret=>intro e e' h h' x K he hk;cases he;exact hk
 |refuse s=>intro e e' h h' x K he hk;cases he
def loopW_inv {P:Program} {C:ah} {W:dU} {b:Code} {K:Ex->aQ->ae->Prop} (Inv:Nat->aQ->ae->Prop)
  (hs : ∀ k e h,Inv k e h->codeW P C W b e h fun x e' h'=>match x with | .normal => ∃ j,j<k/\Inv j e' h'|x=>K x e' h')
  (hmono : ∀ e h (K K':Ex->aQ->ae->Prop),(∀ x e h,K x e h->K' x e h)->codeW P C W b e h K->codeW P C W b e h K') :
  ∀ {k:Nat} {e:aQ} {h:ae},k<aK->Inv k e h->codeW P C W (.loop b) e h K:=by
 have : ∀ (n k:Nat) (e:aQ) (h:ae),k<n->Inv k e h->oT (codeW P C W b) n e h K:=by
  intro n;induction n with
  |zero=>intro k e h hk;omega
  |succ n ih=>
   intro k e h hk hi;simp only [oT];refine hmono _ _ _ _ ?_ (hs k e h hi);intro x e' h' hx;cases x with
   |normal=>obtain ⟨j,hj,hi'⟩:=hx;exact ih j e' h' (by omega) hi'
   |ret=>exact hx
   |exit i=>exact hx
 intro k e h hk hi;simp only [codeW];exact this aK k e h hk hi
section
variable {P:Program} {C:ah} {W:dU}
def Ce (P:Program) (C:ah) (W:dU) (l:Nat) (args:List Vl) (h:ae) (K:Vl->ae->Prop):Prop:=
 ∃ st p0 t0 q0 assign body,h.getB l=some (.obj (.loop st p0 t0 q0 assign body))/\args.length=q0.length/\codeOk P assign=true/\codeOk P body=true /\
   codeW P C W assign (gQ t0 (q0.zip args)) h fun x1 e1 h1=>x1 = .normal /\ ∃ p1 t1 q1 a1 b1,h1.getB l=some (.obj (.loop .ready p1 t1 q1 a1 b1)) /\
    codeW P C W body e1 (h1.setO l (.loop .busy p1 t1 q1 a1 b1)) fun x _ h2 => ∃ v h',gI l x h2=some (v,h')/\K v h'
def Cs (hC:aZ P C) (hW:mj P W) (hm:P.follows .mixedOrders=true) {l:Nat} {args:List Vl} {h:ae} {K:Vl->ae->Prop} (he:Ce P C W l args h K) (hgl:P.globals.size<=h.n0)
  (hba:cy h.next args=true) (hbh:aA h) {μ:Mu} {w:World} {args':List Vl} {L:Loc} (S:cn μ h w) (t:Top μ h) (r:aU μ args args') (hL:μ l=some L) :
  ∃ fn tmps assign body,(Instr.yield L.blk args'.toArray).run P w = .ok (.round L.blk fn tmps assign body) w /\ ∀ n,RoundIn (Fr none) n P L.blk fn tmps assign body w (pq μ h w K):=by
 obtain ⟨st,p0,t0,q0,assign,body,hg,hlen,ho1,ho2,hca⟩:=he;obtain ⟨L0,ob,g1,g2,g3,g4,g5⟩:=S.obj l _ (h.bk hg) hg;rw [hL] at g1;cases g1;cases ob with
 |loop R=>
  obtain ⟨k1,k2,k3,k4,k5,k6⟩:=g3;have hsz:args'.toArray.size=R.params.size:=by have h5:=r.1;have h6:R.params.toList.length=R.params.size:=Array.length_toList;rw [k4] at h6;simp only [E7];omega
  refine ⟨R.fn,_,R.assign,R.body,run_yield g2 hsz,fun n => ?_⟩;rw [k5,k6];have hbe:=ql q0 (hbh.obj _ _ hg) hba;refine roundIn_of_wpIn (F:=Fr none) trivial ?_;refine dR hC hW hm assign ho1 (some L.blk) n w.heap.size [] _ _ _ _ _ _ _ hca hgl hbe hbh S t ?_ ⟨by simp,by simp⟩ (DO _) (fun l' hl'=>by cases hl';exact ⟨R,g2⟩) ?_
  ·refine ⟨?_,rfl⟩;have hfe:=u9 R.params args' R.tmps;have hp:=rY q0 k3 r;rw [<-k4] at hp |-;rw [<-hfe] at hp;exact hp
  ·rintro x1 e1 h1 a' w1 ⟨rfl,p1,t1,q1,a1,b1,hg1,hcb⟩ gr1 bd1 bd2 ⟨μ1,rs1,S1,St1,er1,mk1⟩;have hob1:=bd2.obj _ _ hg1;have hμ1:μ1 l=some L:=St1.mono t.free _ _ hL;obtain ⟨L1,ob1,j1,j2,j3,j4,j5⟩:=S1.obj l _ (h1.bk hg1) hg1;rw [hμ1] at j1;cases j1;cases ob1 with
   |loop R1=>
    obtain ⟨m1,m2,m3,m4,m5,m6⟩:=j3;refine ⟨_,run_beginRound j2 m1,?_⟩;obtain ⟨S2,St2⟩:=S1.setO (o' := .loop .busy p1 t1 q1 a1 b1) (ob' := .loop { R1 with state := .busy }) hg1 hμ1 ⟨rfl,m2,m3,m4,m5,m6⟩;have top2:=(t.step St1).step St2;refine dR hC hW hm body ho2 (some L.blk) n w.heap.size rs1 _ _ _ _ _ _ _ hcb (by rw [ae.wg,gr1.2.1];exact hgl) (by simpa using bd1) (bd2.setO (h1.bk hg1) hg1 hob1) S2 top2 er1 (mk1.step St2) ?_ ?_ ?_
    ·have:=St1.size;simpa using this
    ·intro l' hl';cases hl';exact ⟨_,World.putObj_heap_same (DZ.1 j2).1⟩
    ·rintro x e2 h2 a'' w3 ⟨v,h',hend,hk⟩ gr2 bd3 bd4 ⟨μ3,rs3,S3,St3,er3,mk3⟩;obtain ⟨s3,p3,t3,q3,a3,b3,hg3,rfl,rfl⟩:=iO hend;have StA:=(St1.trans St2).trans St3;have hμ3:μ3 l=some L:=StA.mono t.free _ _ hL;obtain ⟨L3,ob3,n1,n2,n3,n4,n5⟩:=S3.obj l _ (h2.bk hg3) hg3;rw [hμ3] at n1;cases n1;have hob2:=bd4.obj _ _ hg3;have grA:bp h (h2.setO l (.loop (if x = .normal then .ready else .done) (if x = .normal then none else some x) t3 q3 a3 b3)):=((gr1.trans (bp.setO _ _ _)).trans gr2).trans (bp.setO _ _ _);cases ob3 with
     |loop R3=>
      obtain ⟨o1,o2,o3,o4,o5,o6⟩:=n3;have fin : ∀ (j:Option Code),j=(if x = .normal then none else some (BR x)) -> ∃ v w',(Instr.endRound L.blk j).run P w3 = .ok v w'/\pq μ h w K (.returned v) w':=by
       intro j hj;refine ⟨_,_,run_endRound j n2,?_⟩;obtain ⟨S4,St4⟩:=S3.setO (o' := .loop (if x = .normal then .ready else .done) (if x = .normal then none else some x) t3 q3 a3 b3)
        (ob' := .loop { R3 with state:=if j.isNone then .ready else .done,pending:=j }) hg3 hμ3 (by
         refine ⟨?_,?_,o3,o4,o5,o6⟩
         ·subst hj;by_cases hx:x = .normal<;>simp [hx]
         ·subst hj;by_cases hx:x = .normal<;>simp [hx])
       refine ⟨_,_,hk,grA,rfl,bd4.setO (h2.bk hg3) hg3 hob2,μ3,_,rfl,S4,StA.trans St4,?_⟩;have:j.isNone=(x == .normal):=by subst hj;by_cases hx:x = .normal<;>simp [hx]
       rw [this];exact .flat rfl
      cases x with
      |normal=>exact fin none rfl
      |ret=>exact fin (some .ret) rfl
      |exit i=>exact fin (some (.exit i)) rfl
     |_=>exact n3.elim
   |_=>exact j3.elim
 |_=>exact g3.elim
end
def ou (P:Program) (D:Nat->Option (List Vl)):ae:=⟨P.globals.size,D,.nil,0⟩
def bq.closedQ {P:Program} {W:dU} (hW:mj P W) {f:FuncId} (hf:f<P.funcs.size) {v:Vl} (hv:flat v=true) (D:Nat->Option (List Vl)) (hD : ∀ b cs,D b=some cs->bD cs=true)
  (hr:W f [] (ou P D) fun v' _=>v'=v) (s:List Vl->ae->ba) (hs : ∀ args h r,s args h=some r->args = []/\r=(v,h) /\ ∀ b cs,b<P.globals.size->D b=some cs->h.get b=some cs):bq P f s:=by
 have hgetB : ∀ b,P.globals.size<=b->(ou P D).getB b=none:=by intro b hb;simp only [ae.gJ];unfold ou;simp only [Nat.add_zero];rw [DU (by omega),DU (by omega)]
 have hbd:aA (ou P D):=by
  refine ⟨?_,?_⟩
  ·intro b k hk;have hk:=ae.aO _ hk;by_cases hb:P.globals.size<=b
   ·rw [hgetB b hb] at hk;cases hk
   ·rw [ae.gJ] at hk;unfold ou at hk;simp only at hk;rw [DR (by omega)] at hk;cases hd:D b with
    |none=>rw [hd] at hk;cases hk
    |some cs=>
     rw [hd] at hk;cases hk;exact c9 (hD b _ hd)
  ·intro b o hk;rw [hgetB b (ae.bk (h:=ou P D) hk)] at hk;cases hk
 refine ⟨hf,?_,?_,?_⟩
 ·intro args h v' h' e;obtain ⟨_,h2,_⟩:=hs _ _ _ e;cases h2;exact bp.refl _
 ·intro args h v' h' e _ hb;obtain ⟨_,h2,_⟩:=hs _ _ _ e;cases h2;exact ⟨iP hv,hb⟩
 ·intro args h v' h' e _ hbh hg μ w args' S hfr r;obtain ⟨rfl,h2,hglob⟩:=hs _ _ _ e;cases h2;have ha:args' = []:=EE.1 r.1.symm;subst ha;have S0:cn (μ.cut P.globals.size) (ou P D) w:=by
   refine ⟨?_,?_,?_,?_,ED hg S.size,?_⟩
   ·intro b cs hb hc;have hb':b<P.globals.size:=hb;have hgt:=hglob b cs hb' hc;have hold:h.old b=some cs:=by
     unfold ae.get at hgt;simp only [ae.gJ] at hgt;rw [DR (FC hb' hg)] at hgt;cases ho:h.old b with
     |none=>rw [ho] at hgt;cases hgt
     |some c=>rw [ho] at hgt;exact hgt
    obtain ⟨L,arr,T,fr,h2,h3,h4,h5,h6⟩:=S.old b cs (FC hb' hg) hold;refine ⟨L,arr,T,fr,Mu.eu h2 hb',h3,h4,h5,?_⟩;have hfl:=hD b cs hc;refine ⟨h6.1,fun i x y hx hy hh => ?_⟩;have:=h6.2 i x y hx hy hh;have hxf:=DX.1 hfl x (EC hx);rw [this.bG hxf];exact .flat hxf
   ·intro b k hb hk;have:=ae.aO _ hk;rw [hgetB b hb] at this;cases this
   ·intro b k hb hk;rw [hgetB b hb] at hk;cases hk
   ·intro b b' k k' L L' hb _ _ hk;rw [hgetB b hb] at hk;cases hk
   ·intro b hb;obtain ⟨L,h2,h3⟩:=S.low b (FC hb hg);exact ⟨L,Mu.eu h2 hb,h3⟩
  have hno : ∀ B,¬AA (μ.cut P.globals.size) (ou P D) B:=by rintro B ⟨b,k,L,hb,hk,_⟩;rw [hgetB b hb] at hk;cases hk
  have ht:Top (μ.cut P.globals.size) (ou P D):=fun b hb=>by have : ¬b<P.globals.size:=HY.2 hb;simp [Mu.cut,this]
  refine (hW.run _ _ _ _ hr hf rfl hbd (DO _) (μ.cut P.globals.size) w [] S0 ht (aU.nil _)).mono ?_;rintro e w' ⟨v0,h0,rfl,_,_,_,μ1,v1,rfl,S1,St,hv1⟩;have same : ∀ (B:Nat) (x:Obj),w.heap[B]? = some x->w'.heap[B]? = some x:=by intro B x hx;rw [St.same B (DZ.1 hx).1 (hno B)];exact hx
  refine ⟨μ,v1,rfl,⟨?_,?_,?_,S.inj,ED S.size St.size,S.low⟩,⟨fun _ _=>rfl,rfl,rfl,DO _,St.os,St.tape,St.output,St.size,fun B hB _=>St.same B hB (hno B),fun B hB => .inl hB,St.loops,St.drawn⟩,?_⟩
  ·intro b cs hb hc;obtain ⟨L,arr,T,fr,h2,h3,h4,h5,h6⟩:=S.old b cs hb hc;exact ⟨L,arr,T,fr,h2,h3,h4,same _ _ h5,h6⟩
  ·intro b k hb hk;obtain ⟨L,arr,T,fr,h2,h3,h4,h5⟩:=S.new b k hb hk;exact ⟨L,arr,T,fr,h2,h3,same _ _ h4,h5⟩
  ·intro b o hb hk;obtain ⟨L,ob,h2,h3,h4⟩:=S.obj b o hb hk;exact ⟨L,ob,h2,same _ _ h3,h4⟩
  ·rw [hv1.bG hv];exact .flat hv
def rT {P:Program} {C D:ah} (hc : ∀ f args h r,C f args h=some r->D f args h=some r) {fn:Func} {args:List Vl} {h:ae} {r:Vl×ae} (e:bodyA P C fn args h=some r):aY P D fn args h=some r:=by rw [nc];exact lh qc (D:=fun _=>D) hc fn args h r e
structure Txt (P:Program) (f:FuncId) where
 t:ah->List Vl->ae->ba
 fn:Func
 i:bJ P f fn
 e : ∀ C args h r,t C args h=some r->aY P C fn args h=some r
section
variable {P:Program} {f:FuncId} {fn:Func} (i:bJ P f fn)
def tx0 {t:ah->ae->ba} (e : ∀ C h,aY P C fn [] h=t C h):Txt P f:=
 ⟨fun C args h=>match args with | []=>t C h|_=>none,fn,i,fun C args h r x=>by split at x;exact (e ..).trans x;cases x⟩
def tx1 {t:ah->Vl->ae->ba} (e : ∀ C x h,aY P C fn [x] h=t C x h):Txt P f:=
 ⟨fun C args h=>match args with | [x]=>t C x h|_=>none,fn,i,fun C args h r x=>by split at x;exact (e ..).trans x;cases x⟩
def tx2 {t:ah->Vl->Vl->ae->ba} (e : ∀ C x y h,aY P C fn [x,y] h=t C x y h):Txt P f:=
 ⟨fun C args h=>match args with | [x,y]=>t C x y h|_=>none,fn,i,fun C args h r x=>by split at x;exact (e ..).trans x;cases x⟩
def tx3 {t:ah->Vl->Vl->Vl->ae->ba} (e : ∀ C x y z h,aY P C fn [x,y,z] h=t C x y z h):Txt P f:=
 ⟨fun C args h=>match args with | [x,y,z]=>t C x y z h|_=>none,fn,i,fun C args h r x=>by split at x;exact (e ..).trans x;cases x⟩
end
inductive TxT (P:Program) where
 |fc (n:Nat) (t:Txt P n)
 |node (k:Nat) (l r:TxT P)
def TxT.get {P:Program} (t:TxT P):FuncId->Option (ah->List Vl->ae->ba):=
 TxT.rec (motive:=fun _=>FuncId->Option (ah->List Vl->ae->ba)) (fun n t f=>Bool.rec (motive:=fun _=>Option (ah->List Vl->ae->ba)) none (some t.t) (Nat.beq f n)) (fun k _ _ il ir f=>Bool.rec (motive:=fun _=>Option (ah->List Vl->ae->ba)) (ir f) (il f) (Nat.blt f k)) t
def TxT.ok {P:Program} : ∀ (t:TxT P) {f:FuncId} {s:ah->List Vl->ae->ba},t.get f=some s -> ∃ fn,bJ P f fn /\ ∀ C args h r,s C args h=some r->aY P C fn args h=some r
 | .fc n t,f,s,e=>by
   have e':Bool.rec (motive:=fun _=>Option (ah->List Vl->ae->ba)) none (some t.t) (Nat.beq f n)=some s:=e;clear e;cases hb:Nat.beq f n with
   |false=>rw [hb] at e';cases e'
   |true=>
    rw [hb] at e';cases FZ hb;cases e';exact ⟨t.fn,t.i,t.e⟩
 | .node k a b,f,s,e=>by
   have e:Bool.rec (motive:=fun _=>Option (ah->List Vl->ae->ba)) (b.get f) (a.get f) (Nat.blt f k)=some s:=e;cases hb:Nat.blt f k with
   |false=>rw [hb] at e;exact TxT.ok b e
   |true=>rw [hb] at e;exact TxT.ok a e
def callF_CC {P:Program} {ok:FuncId->Bool} {X:ah} {sm:FuncId->Bool} {T:FuncId->Option (ah->List Vl->ae->ba)} {fuel:Nat} (hfuel:fuel<=aK) (hok : ∀ f fn,ok f=true->P.funcs[f]? = some fn->sw P fn=true)
  (hs : ∀ f args h,sm f=false->X f args h=none) (hT : ∀ f s,T f=some s -> ∃ fn,bJ P f fn /\ ∀ C args h r,s C args h=some r->aY P C fn args h=some r) :
  ∀ (k:Nat) (f:FuncId) (args:List Vl) (h:ae) (r:Vl×ae),BM P ok X sm T fuel k f args h=some r->CC P X f args h=some r
 | 0,_,_,_,_,he=>by cases he
 |k+1,f,args,h,r,he=>by
  have ih:=callF_CC (sm:=sm) hfuel hok hs hT k;have he:(match sm f with
   |true=>X f args h
   |false=>match T f with
    |some t=>match Nat.ble P.globals.size h.n0 with
     |true=>t (BM P ok X sm T fuel k) args h
     |false=>none
    |none=>match ok f with
     |true=>match Nat.ble P.globals.size h.n0 with
      |true=>match P.funcs[f]? with
       |some fn=>bodyF P (BM P ok X sm T fuel k) fuel fn args h
       |none=>none
      |false=>none
     |false=>match Nat.ble P.funcs.size f&&Nat.ble P.globals.size h.n0 with
      |true=>roundF P (BM P ok X sm T fuel k) fuel (f-P.funcs.size) args h
      |false=>none)=some r:=he
  split at he
  ·exact xL he
  ·rename_i h0;have hX:=hs f args h h0;split at he
   ·rename_i t ht;split at he
    ·rename_i hg;obtain ⟨fn,i,e⟩:=hT f t ht;have:=e _ _ _ _ he;rw [nc] at this;exact jy i (EO hg) hX (rT ih this)
    ·cases he
   ·split at he
    ·rename_i h1;split at he
     ·rename_i hg;split at he
      ·rename_i fn h3;have h2:=hok f fn h1 h3;have e:=bodyF_sound P _ fuel hfuel he;unfold sw at h2;rw [DN,FU] at h2;cases hb:fn.body with
       |none=>unfold bodyA at e;rw [hb] at e;cases e
       |some c=>
        rw [hb] at h2;have hp:al fn []=c:=by unfold al;rw [hb];rfl
        exact jy ⟨h3,h2.1,by rw [hb];rfl,by rw [hp];exact h2.2⟩ (EO hg) hX (rT ih e)
      ·cases he
     ·cases he
    ·split at he
     ·rename_i h2;rw [DN] at h2;have hf:=EO h2.1;have e:=Dr P _ fuel hfuel he;have hy:yid P (f-P.funcs.size)=f:=Nat.add_sub_cancel' hf;have:=CC_round (l:=f-P.funcs.size) (X:=X) (EO h2.2) (by rw [hy];exact hX) (lV qc (D:=fun _=>CC P X) ih _ args h r e)
      rwa [hy] at this
     ·cases he
section
variable {P:Program} {C D:ah} {K:Nat} (hD:aZ P D) (hb : ∀ f args h r,K<=h.n0->C f args h=some r->D f args h=some r)
include hb
def opA_to (o:Oper) (ρ:Operand->Vl) (h:ae) (r:Vl×ae) (hG:K<=h.n0) (e:opA P C o ρ h=some r):opA P D o ρ h=some r:=by
 unfold opA at e |-;split at e;all_goals first
  |exact e
  |skip
 rename_i c _;cases hc:c.callee with
 |builtin b=>simp only [hc] at e |-;exact e
 |invoke a b=>simp only [hc] at e;cases e
 |value f=>
  simp only [hc] at e |-;unfold callA at e |-;split at e
  ·split at e
   ·rename_i hi;simp only [hi,D8];exact hb _ _ _ _ hG e
   ·cases e
  ·exact hb _ _ _ _ hG e
  ·cases e
omit hb in
def opA_read {o:Oper} (hk:(kindOf P o == .read)=true) (ρ:Operand->Vl) (h:ae):opA P C o ρ h=opA P D o ρ h:=by
 unfold kindOf at hk;unfold opA;split;all_goals first
  |rfl
  |skip
 rename_i c hc;rw [hc] at hk;simp only at hk;cases h1:c.callee with
 |builtin b=>rfl
 |invoke a b=>rfl
 |value f=>rw [h1] at hk;simp at hk
include hD
def Ch (ops:Array Oper) : ∀ (l:List Oper) (e:aQ) (h:ae) (r:aQ×ae),K<=h.n0->opsA P C ops l e h=some r->opsA P D ops l e h=some r
 | [],e,h,r,_,x=>x
 |o::l,e,h,r,hG,x=>by
  simp only [opsA] at x |-;unfold stepA at x |-;by_cases hw:iR ops o e=true
  ·simp only [hw,D8] at x |-;cases ho:opA P C o (ev e) h with
   |none=>rw [ho] at x;cases x
   |some y=>
    rw [ho] at x;have h1:=opA_to hb o (ev e) h y hG ho;simp only [h1];exact Ch ops l _ _ r (by rw [(jL hD h1).2.1];exact hG) x
  ·simp only [hw] at x |-;exact Ch ops l _ _ r hG x
def uR (ops:Array Oper) : ∀ (l:List (Nat×Oper)) (e:aQ) (h:ae) (r:List CG×aQ×ae),K<=h.n0->traceA P C ops l e h=some r->traceA P D ops l e h=some r
 | [],e,h,r,_,x=>x
 | (n,o)::l,e,h,r,hG,x=>by
   simp only [traceA] at x |-;by_cases hw:iR ops o e=true
   ·simp only [hw,D8] at x |-;cases ho:opA P C o (ev e) h with
    |none=>rw [ho] at x;cases x
    |some y=>
     rw [ho] at x;simp only at x;have h1:=opA_to hb o (ev e) h y hG ho;cases ht:traceA P C ops l (putD e o.dst y.1) y.2 with
     |none=>rw [ht] at x;cases x
     |some z=>
      rw [ht] at x;have h2:=uR ops l _ _ z (by rw [(jL hD h1).2.1];exact hG) ht;simp only [h1,h2];exact x
   ·simp only [hw] at x |-;cases ht:traceA P C ops l (putD e o.dst undef) h with
    |none=>rw [ht] at x;cases x
    |some z=>
     rw [ht] at x;have h2:=uR ops l _ _ z hG ht;simp only [h2];exact x
omit hD hb in
def dynOk_to (ops:Array Oper) (l:List (Nat×Oper)) (tr:List CG) (hEnd:ae) (x:dynOk P C ops l tr hEnd=true):dynOk P D ops l tr hEnd=true:=by
 unfold dynOk at x |-;simp only [DX] at x |-;intro a ha;have hx:=x a ha;rw [FF] at hx |-;rcases hx with hx|hx
 ·exact .inl hx
 ·by_cases hk:(kindOf P a.1.1.2 == .read)=true
  ·refine .inr ?_;rw [DX] at hx |-;intro y hy;have:=hx y hy;rw [FF] at this |-;rcases this with h|h
   ·exact .inl h
   ·refine .inr ?_;split at h
    ·rename_i g hg;rw [<-opA_read (C:=C) hk];exact h
    ·cases h
  ·refine .inl ?_;simp only [HV] at hk;rw [hk];rfl
def regionA_to (ops:Array Oper) (d:Bool) (e:aQ) (h:ae) (r:aQ×ae) (hG:K<=h.n0) (x:regionA P C ops d e h=some r):regionA P D ops d e h=some r:=by
 unfold regionA at x |-;cases d with
 |false=>exact Ch hD hb ops _ e h r hG x
 |true=>
  simp only [D8] at x |-;split at x
  ·rename_i hs;simp only [hs,D8];split at x
   ·rename_i tr e1 h1 ht;split at x
    ·rename_i hd;have a:=uR hD hb ops _ e h _ hG ht;have b:=dynOk_to (D:=D) ops _ tr h1 hd;simp only [a,b,D8];exact x
    ·cases x
   ·cases x
  ·cases x
omit hD hb in
def iter_to {s t:aQ->ae->Option (Ex×aQ×ae)} (hs : ∀ e h r,K<=h.n0->s e h=some r->t e h=some r) (hg : ∀ e h x e' h',t e h=some (x,e',h')->bp h h') :
  ∀ (n:Nat) (e:aQ) (h:ae) (r:Ex×aQ×ae),K<=h.n0->iter s n e h=some r->iter t n e h=some r
 | 0,_,_,_,_,x=>by cases x
 |n+1,e,h,r,hG,x=>by
  simp only [iter] at x |-;split at x
  ·rename_i e1 h1 h2;have a:=hs _ _ _ hG h2;simp only [a];exact iter_to hs hg n _ _ r (by rw [(hg _ _ _ _ _ a).2.1];exact hG) x
  ·rename_i hn;have a:=hs _ _ _ hG x;simp only [a];obtain ⟨ex,e1,h1⟩:=r;cases ex with
   |normal=>exact absurd x (hn e1 h1)
   |ret=>rfl
   |exit j=>rfl
def fz : ∀ (c:Code) (e:aQ) (h:ae) (r:Ex×aQ×ae),K<=h.n0->codeA P C c e h=some r->codeA P D c e h=some r
 | .skip,e,h,r,_,x=>x
 | .region _ ops d,e,h,r,hG,x=>by
   simp only [codeA] at x |-;split at x
   ·rename_i e1 h1 h2;simp only [regionA_to hD hb ops d e h _ hG h2];exact x
   ·cases x
 | .seq a b,e,h,r,hG,x=>by
   simp only [codeA] at x |-;split at x
   ·rename_i e1 h1 h2;have p:=fz a e h _ hG h2;simp only [p];exact fz b _ _ r (by rw [(bN hD a p).2.1];exact hG) x
   ·rename_i hn;have p:=fz a e h _ hG x;simp only [p];obtain ⟨ex,e1,h1⟩:=r;cases ex with
    |normal=>exact absurd x (hn e1 h1)
    |ret=>rfl
    |exit j=>rfl
 | .cond c a b,e,h,r,hG,x=>by
   simp only [codeA] at x |-;split at x
   ·exact fz a e h r hG x
   ·exact fz b e h r hG x
   ·cases x
 | .block j b,e,h,r,hG,x=>by
   simp only [codeA] at x |-;split at x
   ·rename_i k e1 h1 h2;simp only [fz b e h _ hG h2];exact x
   ·rename_i hn;have p:=fz b e h _ hG x;simp only [p];obtain ⟨ex,e1,h1⟩:=r;cases ex with
    |exit k=>exact absurd x (hn k e1 h1)
    |ret=>rfl
    |normal=>rfl
 | .loop b,e,h,r,hG,x=>by simp only [codeA] at x |-;exact iter_to (fun e h r y=>fz b e h r y) (fun _ _ _ _ _ h=>bN hD b h) aK e h r hG x
 | .exit _,e,h,r,_,x=>x
 | .scope b,e,h,r,hG,x=>by simp only [codeA] at x |-;exact fz b e h r hG x
 | .label _,e,h,r,_,x=>x
 | .ret,e,h,r,_,x=>x
 | .goto _,e,h,r,_,x=>by cases x
 | .rangeFunc g ps a b,e,h,r,hG,x=>by
   simp only [codeA] at x |-;split at x
   ·rename_i i first captured hev
    split at x
    ·rename_i hi;split at x
     ·rename_i v h2 hc;simp only [hi,D8,hb _ _ _ _ (by simpa using hG) hc];exact x
     ·cases x
    ·cases x
   ·cases x
 | .refuse _,e,h,r,_,x=>by cases x
def roundA_to (l:Nat) (args:List Vl) (h:ae) (r:Vl×ae) (hG:K<=h.n0) (x:roundA P C l args h=some r):roundA P D l args h=some r:=by obtain ⟨v,h'⟩:=r;obtain ⟨st,p0,t0,q0,assign,body,e1,h1,p1,t1,q1,a1,b1,ex,e2,h2,hg,hlen,ho1,ho2,hca,hg1,hcb,hend⟩:=jJ x;have c1:=fz hD hb assign _ _ _ hG hca;have c2:=fz hD hb body _ _ _ (by rw [ae.wg,(bN hD _ c1).2.1];exact hG) hcb;unfold roundA;rw [hg];simp only;rw [DR ⟨hlen,ho1,ho2⟩,c1];simp only;rw [hg1];simp only;rw [c2];exact hend
def bodyA_to (fn:Func) (args:List Vl) (h:ae) (r:Vl×ae) (hG:K<=h.n0) (x:bodyA P C fn args h=some r):bodyA P D fn args h=some r:=by
 unfold bodyA at x |-;cases hb':fn.body with
 |none=>rw [hb'] at x;cases x
 |some c=>
  rw [hb'] at x;simp only at x |-;cases hc:codeA P C c (args++List.replicate (fn.ntmps-args.length) undef) h with
  |none=>rw [hc] at x;cases x
  |some y=>
   rw [hc] at x;simp only [fz hD hb c _ _ y hG hc];exact x
end
def callU (P:Program) (X:ah):Nat->ah
 | 0,f,args,h=>X f args h
 |k+1,f,args,h=>match X f args h with
  |some r=>some r
  |none=>match P.funcs[f]? with
   |some fn=>if sw P fn then bodyA P (callU P X k) fn args h else none
   |none=>roundA P (callU P X k) (f-P.funcs.size) args h
def xJ {P:Program} {X:ah} (hm:P.follows .mixedOrders=true) (hX:aZ P X) : ∀ (n:Nat) (f:FuncId) (args:List Vl) (h:ae) (r:Vl×ae),P.globals.size<=h.n0->callU P X n f args h=some r->callX P X n f args h=some r
 | 0,f,args,h,r,_,x=>x
 |n+1,f,args,h,r,hG,x=>by
  have hs:=iz hm hX n;unfold callU at x;unfold callX;split at x
  ·rename_i y hy;(try rw [hy]);exact x
  ·rename_i hX';(try rw [hX']);(try simp only);rw [DR (FV hG)];split at x
   ·rename_i fn hf;(try rw [hf]);(try simp only);split at x
    ·rename_i hk;(try rw [DR hk]);exact bodyA_to hs (xJ hm hX n) fn args h r hG x
    ·cases x
   ·rename_i hf;(try rw [hf]);exact roundA_to hs (xJ hm hX n) _ args h r hG x
def r5 {P:Program} {X:ah} : ∀ (n:Nat) (f:FuncId) (args:List Vl) (h:ae) (r:Vl×ae),callU P X n f args h=some r->callU P X (n+1) f args h=some r
 | 0,f,args,h,r,x=>by have x:X f args h=some r:=x;simp only [callU,x]
 |n+1,f,args,h,r,x=>by
  unfold callU at x |-;split at x
  ·exact x
  ·rename_i hX;split at x
   ·rename_i fn hf;split at x
    ·rename_i hk;rw [DR hk];exact lh (ι:=Unit) qc (D:=fun _=>callU P X (n+1)) (fun f args h r e=>r5 n f args h r e) fn args h r x
    ·cases x
   ·exact lV (ι:=Unit) qc (D:=fun _=>callU P X (n+1)) (fun f args h r e=>r5 n f args h r e) _ args h r x
def rZ {P:Program} {X:ah} {n m:Nat} (hm:n<=m) {f:FuncId} {args:List Vl} {h:ae} {r:Vl×ae} (x:callU P X n f args h=some r):callU P X m f args h=some r:=by
 obtain ⟨k,rfl⟩ : ∃ k,m=n+k:=⟨m-n,by omega⟩
 clear hm;induction k with
 |zero=>exact x
 |succ k ih=>exact r5 _ _ _ _ _ ih
open Classical in
def CU (P:Program) (X:ah):ah:=fun f args h=>if e : ∃ n,(callU P X n f args h).isSome then callU P X e.choose f args h else none
def CU_spec {P:Program} {X:ah} {f:FuncId} {args:List Vl} {h:ae} {r:Vl×ae} (e:CU P X f args h=some r) : ∃ n,callU P X n f args h=some r:=by
 unfold CU at e;split at e
 ·exact ⟨_,e⟩
 ·cases e
def CU_of {P:Program} {X:ah} {n:Nat} {f:FuncId} {args:List Vl} {h:ae} {r:Vl×ae} (e:callU P X n f args h=some r):CU P X f args h=some r:=by
 have hx : ∃ n,(callU P X n f args h).isSome:=⟨n,by rw [e];rfl⟩
 unfold CU;rw [dif_pos hx];have h2:=hx.choose_spec;rw [E6] at h2;obtain ⟨r2,h2⟩:=h2;have h3:=rZ (Nat.le_max_left n hx.choose) e;have h4:=rZ (Nat.le_max_right n hx.choose) h2;rw [h2,<-h3,h4]
def yq {P:Program} {X:ah} {f:FuncId} {args:List Vl} {h:ae} {r:Vl×ae} (e:X f args h=some r):CU P X f args h=some r:=CU_of (n:=0) e
def CU_base {P:Program} {X:ah} (f:FuncId) (args:List Vl) (h:ae) (r:Vl×ae) (e:CU P X f args h=some r):qA.p fun n=>callU P X n f args h=some r:=by obtain ⟨n,hn⟩:=CU_spec e;exact ⟨n,fun m hm=>rZ hm hn⟩
def CU_body {P:Program} {X:ah} {f:FuncId} {fn:Func} (i:bJ P f fn) {args:List Vl} {h:ae} {r:Vl×ae} (hX:X f args h=none)
  (e:aY P (CU P X) fn args h=some r):CU P X f args h=some r:=by
 rw [nc] at e;obtain ⟨n,hn⟩:=lh qA (D:=callU P X) CU_base fn args h r e;have hok:sw P fn=true:=by unfold sw;rw [i.name,i.body];simp only [EJ,E3];exact i.ok
 refine CU_of (n:=n+1) ?_;unfold callU;rw [hX];simp only;rw [i.at_];simp only;rw [DR hok];exact hn n (DO _)
def CU_to {P:Program} {X:ah} (hm:P.follows .mixedOrders=true) (hX:aZ P X) {f:FuncId} {args:List Vl} {h:ae} {r:Vl×ae} (hG:P.globals.size<=h.n0) (e:CU P X f args h=some r):CC P X f args h=some r:=by obtain ⟨n,e⟩:=CU_spec e;exact CC_of (xJ hm hX n f args h r hG e)
def rgA:Code->Code
 | .rangeFunc _ _ a _=>a
 |c=>c
def rgB:Code->Code
 | .rangeFunc _ _ _ b=>b
 |c=>c
def u4 (h:ae) (L:Nat) (e:aQ) (ps:List Tmp) (a b:Code):Prop:=h.getB L=some (.obj (.loop .ready none e ps a b))
def u4.new (h:ae) (e:aQ) (ps:List Tmp) (a b:Code):u4 (h.bj (.obj (.loop .ready none e ps a b))) h.next e ps a b:=by unfold u4;rw [ae.bE,DR rfl]
def aw.allocO (h:ae) (o:fl) (B:Nat->Prop):aw h (h.bj (.obj o)) B:=
 ⟨rfl,by simp,fun c hc _=>by rw [ae.bE,DU (by omega)]⟩
def aw.setO {h:ae} {L:Nat} {o o':fl} {B:Nat->Prop} (hg:h.getB L=some (.obj o)) (hB:B L):aw h (h.setO L o') B:=
 ⟨rfl,by simp,fun c hc hn=>by
  by_cases e:c=L
  ·subst e;exact absurd hB hn
  ·exact ae.fw (h.bk hg) (h.lt_of_getB hg) _ e⟩
def u4.keep {h h':ae} {L:Nat} {e:aQ} {ps:List Tmp} {a b:Code} {B:Nat->Prop} (x:u4 h L e ps a b) (k:aw h h' B) (hB : ¬B L):u4 h' L e ps a b:=aw.obj k x hB
def u4.fin {h:ae} {L:Nat} {e e0:aQ} {ps:List Tmp} {a b:Code} (x:u4 h L e ps a b) : ∃ h',endLoopA L e0 h=some (.normal,e0,h')/\aw h h' (· = L)/\h'.next=h.next:=by unfold u4 at x;refine ⟨h.setO L (.loop .exhausted none e ps a b),?_,aw.setO x rfl,rfl⟩;unfold endLoopA;rw [x];rfl
def u4.round {P:Program} {C:ah} {h h1 h2:ae} {L:Nat} {e e1 e2:aQ} {ps:List Tmp} {a b:Code} {args:List Vl} (x:u4 h L e ps a b) (hl:args.length=ps.length) (oa:codeOk P a=true) (ob:codeOk P b=true)
  (ha:codeA P C a (gQ e (ps.zip args)) h=some (.normal,e1,h1)) {B:Nat->Prop} (k1:aw h h1 B) (hB : ¬B L)
  (hb:codeA P C b e1 (h1.setO L (.loop .busy none e ps a b))=some (.normal,e2,h2)) (k2:aw (h1.setO L (.loop .busy none e ps a b)) h2 B) :
  ∃ h3,roundA P C L args h=some (.bool true,h3)/\u4 h3 L e ps a b/\h3.next=h2.next/\h3.n0=h.n0/\(∀ c,h3.get c=h2.get c)/\(∀ c,c≠L->h3.getB c=h2.getB c):=by
 have y:h1.getB L=some (.obj (.loop .ready none e ps a b)):=k1.obj x hB;have z:(h1.setO L (.loop .busy none e ps a b)).getB L=some (.obj (.loop .busy none e ps a b)):=ae.fZ (h1.bk y) y _;have w:h2.getB L=some (.obj (.loop .busy none e ps a b)):=k2.obj z hB;refine ⟨h2.setO L (.loop .ready none e ps a b),?_,ae.fZ (h2.bk w) w _,rfl,?_,fun c=>ae.get_setO w _ c,fun c hc=>ae.fw (h2.bk w) (h2.lt_of_getB w) _ hc⟩
 ·unfold u4 at x;unfold roundA;rw [x];simp only;rw [DR ⟨hl,oa,ob⟩,ha];simp only;rw [y];simp only;rw [hb];simp only;unfold gI;rw [w];rfl
 ·show h2.n0=h.n0;rw [k2.n0];exact k1.n0
def jV (n:Nat) (x:Nat->Vl) (t:Nat) (v:Vl):(aT n x).set t v=aT n (up x [(t,v)]):=by
 refine FA fun j => ?_;unfold aT;rw [FE,EG,EG,DY,List.length_range];by_cases hj:j<n
 ·rw [F0 hj];by_cases e:t=j
  ·subst e;rw [DR rfl,DR hj,Option.map_some,gN,DR rfl]
  ·rw [DU e,Option.map_some,Option.map_some,gN,DU e,kZ]
 ·rw [ER (l:=List.range n) (by rw [List.length_range];omega)];by_cases e:t=j
  ·subst e;rw [DR rfl,DU hj];rfl
  ·rw [DU e];rfl
def fV {n t:Nat} (ht:t<n) (x:Nat->Vl):ev (aT n x) (.tmp t)=x t:=by show (aT n x).getD t undef=x t;unfold aT;rw [DV,EG,F0 ht];rfl
def over (A B:ah):ah:=fun f args h=>match A f args h with|some r=>some r|none=>B f args h
def qa {A B:ah} {f:FuncId} {args:List Vl} {h:ae} {r:Vl×ae} (e:over A B f args h=some r):A f args h=some r\/(A f args h=none/\B f args h=some r):=by
 unfold over at e;split at e
 ·rename_i h1;exact .inl (h1.trans e)
 ·rename_i h1;exact .inr ⟨h1,e⟩
def wY {P:Program} {A B:ah} (hA:aZ P A) (hB:aZ P B):aZ P (over A B):=by
 refine ⟨?_,?_,?_,?_⟩
 ·intro f args h v h' e;rcases qa e with e|⟨_,e⟩
  ·exact hA.grow _ _ _ _ _ e
  ·exact hB.grow _ _ _ _ _ e
 ·intro f args h v h' e;rcases qa e with e|⟨_,e⟩
  ·exact hA.bd _ _ _ _ _ e
  ·exact hB.bd _ _ _ _ _ e
 ·intro f args h v h' e;rcases qa e with e|⟨_,e⟩
  ·exact hA.run _ _ _ _ _ e
  ·exact hB.run _ _ _ _ _ e
 ·intro f args h v h' e;rcases qa e with e|⟨_,e⟩
  ·exact hA.round _ _ _ _ _ e
  ·exact hB.round _ _ _ _ _ e
def only (S:List Nat) (A:ah):ah:=fun f args h=>if S.contains f=true then A f args h else none
def qb {S:List Nat} {A:ah} {f:FuncId} {args:List Vl} {h:ae} {r:Vl×ae} (e:only S A f args h=some r):A f args h=some r:=by
 unfold only at e;split at e
 ·exact e
 ·cases e
def only_sound {P:Program} {S:List Nat} {A:ah} (hA:aZ P A):aZ P (only S A):=
 ⟨fun _ _ _ _ _ e=>hA.grow _ _ _ _ _ (qb e),fun _ _ _ _ _ e=>hA.bd _ _ _ _ _ (qb e),fun _ _ _ _ _ e=>hA.run _ _ _ _ _ (qb e),fun _ _ _ _ _ e=>hA.round _ _ _ _ _ (qb e)⟩
section
variable {P:Program} {X Y:ah} {S:List Nat}
end
section
variable {P:Program} {C:ah} {K:Ex->aQ->ae->Prop}
end
section
variable {P:Program} {C:ah}
def WLe (W W':dU):Prop := ∀ f args h (K K':Vl->ae->Prop),(∀ v h,K v h->K' v h)->W f args h K->W' f args h K'
def WLe.ofC (C:ah):WLe (ofC C) (Go.Abs.ofC C):=fun _ _ _ _ _ hk ⟨v,h',a,b⟩=>⟨v,h',a,hk _ _ b⟩
def opW_le {W W':dU} (hW:WLe W W') {o:Oper} {ρ:Operand->Vl} {h:ae} {K K':Vl->ae->Prop} (hk : ∀ v h,K v h->K' v h) (he:opW P W o ρ h K):opW P W' o ρ h K':=by
 unfold opW at he |-;split at he
 ·obtain ⟨l,h1,h2⟩:=he;exact ⟨l,h1,fun r hr=>hk _ _ (h2 r hr)⟩
 ·unfold callAW at he |-;split at he
  ·exact ⟨he.1,hW _ _ _ _ _ hk he.2⟩
  ·exact hW _ _ _ _ _ hk he
  ·exact he
 ·obtain ⟨v,h',h1,h2⟩:=he;exact ⟨v,h',h1,hk _ _ h2⟩
def CZ {W W':dU} (hW:WLe W W') {ops:Array Oper} : ∀ (l:List Oper) {e:aQ} {h:ae} {K K':aQ->ae->Prop},(∀ e h,K e h->K' e h)->ju P W ops l e h K->ju P W' ops l e h K'
 | [],_,_,_,_,hk,he=>hk _ _ he
 |o::l,_,_,_,_,hk,he=>by
  simp only [ju] at he |-;split at he
  ·rename_i hw;rw [DR hw];exact opW_le hW (fun v h=>CZ hW l hk) he
  ·rename_i hw;rw [DU hw];exact CZ hW l hk he
def iterW_le {s s':aQ->ae->(Ex->aQ->ae->Prop)->Prop} (hs : ∀ e h (K K':Ex->aQ->ae->Prop),(∀ x e h,K x e h->K' x e h)->s e h K->s' e h K') :
  ∀ (n:Nat) {e:aQ} {h:ae} {K K':Ex->aQ->ae->Prop},(∀ x e h,K x e h->K' x e h)->oT s n e h K->oT s' n e h K'
 | 0,_,_,_,_,_,he=>he
 |n+1,_,_,_,_,hk,he=>by
  simp only [oT] at he |-;refine hs _ _ _ _ ?_ he;intro x e h hx;cases x with
  |normal=>exact iterW_le hs n hk hx
  |ret=>exact hk _ _ _ hx
  |exit i=>exact hk _ _ _ hx
def iK {W W':dU} (hW:WLe W W') : ∀ (c:Code) {e:aQ} {h:ae} {K K':Ex->aQ->ae->Prop},(∀ x e h,K x e h->K' x e h)->codeW P C W c e h K->codeW P C W' c e h K':=by
 intro c;induction c with
 |skip=>intro e h K K' hk he;exact hk _ _ _ he
 |region id ops d=>
  intro e h K K' hk he;cases d with
  |true=>obtain ⟨e',h',h1,h2⟩:=he;exact ⟨e',h',h1,hk _ _ _ h2⟩
  |false=>exact CZ hW _ (fun e h=>hk _ e h) he
 |seq a b iha ihb=>
  intro e h K K' hk he;refine iha ?_ he;intro x e h hx;cases x with
  |normal=>exact ihb hk hx
  |ret=>exact hk _ _ _ hx
  |exit i=>exact hk _ _ _ hx
 |cond q a b iha ihb=>
  intro e h K K' hk he;simp only [codeW] at he |-;split at he
  ·exact iha hk he
  ·exact ihb hk he
  ·exact he
 |block id b ih=>
  intro e h K K' hk he;refine ih ?_ he;intro x e h hx;cases x<;>exact hk _ _ _ hx
 |loop b ih=>
  intro e h K K' hk he;simp only [codeW] at he |-;exact iterW_le (s:=codeW P C W b) (s':=codeW P C W' b) (fun e h K K' hk he=>ih hk he) aK hk he
 |rangeFunc g ps a b _ _=>
  intro e h K K' hk he;simp only [codeW] at he |-;split at he
  ·refine ⟨he.1,hW _ _ _ _ _ ?_ he.2⟩;rintro v h2 ⟨x,e',h',a1,a2⟩;exact ⟨x,e',h',a1,hk _ _ _ a2⟩
  ·exact he
 |exit i=>intro e h K K' hk he;exact hk _ _ _ he
 |scope b ih=>intro e h K K' hk he;exact ih hk he
 |label l=>intro e h K K' hk he;exact hk _ _ _ he
 |goto l=>intro e h K K' hk he;exact he
 |ret=>intro e h K K' hk he;exact hk _ _ _ he
 |refuse s=>intro e h K K' hk he;exact he
def bodyW_le {W W':dU} (hW:WLe W W') {fn:Func} {args:List Vl} {h:ae} {K K':Vl->ae->Prop} (hk : ∀ v h,K v h->K' v h) (he:bodyW P C W fn args h K):bodyW P C W' fn args h K':=by
 unfold bodyW at he |-;split at he
 ·exact he
 ·refine iK hW _ ?_ he;intro x e h hx;cases x with
  |normal=>obtain ⟨v,h2,a,b⟩:=hx;exact ⟨v,h2,a,hk _ _ b⟩
  |ret=>obtain ⟨v,h2,a,b⟩:=hx;exact ⟨v,h2,a,hk _ _ b⟩
  |exit i=>exact hx
def roundW_le {W W':dU} (hW:WLe W W') {l:Nat} {args:List Vl} {h:ae} {K K':Vl->ae->Prop} (hk : ∀ v h,K v h->K' v h) (he:Ce P C W l args h K):Ce P C W' l args h K':=by obtain ⟨st,p0,t0,q0,assign,body,hg,hl,o1,o2,hc⟩:=he;refine ⟨st,p0,t0,q0,assign,body,hg,hl,o1,o2,iK hW _ ?_ hc⟩;rintro x1 e1 h1 ⟨hx,p1,t1,q1,a1,b1,g1,hb⟩;refine ⟨hx,p1,t1,q1,a1,b1,g1,iK hW _ ?_ hb⟩;rintro x e h2 ⟨v,h',a,b⟩;exact ⟨v,h',a,hk _ _ b⟩
def WW (P:Program) (C:ah):Nat->dU
 | 0=>ofC C
 |n+1=>fun f args h K=>ofC C f args h K\/(∃ fn,bJ P f fn/\P.globals.size<=h.n0/\bodyW P C (WW P C n) fn args h K)\/(P.funcs.size<=f/\P.globals.size<=h.n0/\Ce P C (WW P C n) (f-P.funcs.size) args h K)
def xS : ∀ n,WLe (WW P C n) (WW P C n)
 | 0=>WLe.ofC C
 |n+1=>fun _ _ _ _ _ hk he=>by
  rcases he with he|⟨fn,i,hg,hb⟩|⟨hl,hg,hr⟩
  ·exact .inl (WLe.ofC C _ _ _ _ _ hk he)
  ·exact .inr (.inl ⟨fn,i,hg,bodyW_le (xS n) hk hb⟩)
  ·exact .inr (.inr ⟨hl,hg,roundW_le (xS n) hk hr⟩)
def WW_det : ∀ n,WLe (ofC C) (WW P C n)
 | 0=>WLe.ofC C
 |_+1=>fun _ _ _ _ _ hk he => .inl (WLe.ofC C _ _ _ _ _ hk he)
def WW_sound (hC:aZ P C) (hm:P.follows .mixedOrders=true) : ∀ n,mj P (WW P C n)
 | 0=>qf hC
 |n+1=>by
  have ih:=WW_sound hC hm n;refine ⟨?_,?_⟩
  ·intro f args h K he hf hb hh hg μ w args' S t r;rcases he with he|⟨fn,i,h3,h4⟩|⟨h1,_⟩
   ·exact (qf hC).run f args h K he hf hb hh hg μ w args' S t r
   ·exact .inl ⟨fn,i.at_,i.name,by rw [i.body];rfl,vf hC ih hm i.at_ i.body i.ok h4 hg hb hh S t r⟩
   ·exact absurd hf (HY.2 h1)
  ·intro l args h K he hb hh hg μ w args' L S t r hL;rcases he with he|⟨fn,i,_⟩|⟨_,_,h2⟩
   ·exact (qf hC).round l args h K he hb hh hg μ w args' L S t r hL
   ·exact absurd (DZ.1 i.at_).1 (HY.2 (HW _ _))
   ·rw [show yid P l-P.funcs.size=l from GA _ _] at h2;exact Cs hC ih hm h2 hg hb hh S t r hL
def Dh {n:Nat} {c:Code} {e e':aQ} {h h':ae} {x:Ex} {K:Ex->aQ->ae->Prop} (ha:codeA P C c e h=some (x,e',h')) (hk:K x e' h'):codeW P C (WW P C n) c e h K:=
 iK (WW_det n) c (fun _ _ _=>id) (codeA_W c ha hk)
def vR {n:Nat} {a b:Code} {e e':aQ} {h h':ae} {K:Ex->aQ->ae->Prop} (ha:codeA P C a e h=some (.normal,e',h')) (hb:codeW P C (WW P C n) b e' h' K):codeW P C (WW P C n) (.seq a b) e h K:=by simp only [codeW];exact Dh ha hb
def vM {W:dU} {a b:Code} {e:aQ} {h:ae} {K:Ex->aQ->ae->Prop} (x:codeW P C W a e h fun x e' h'=>match x with | .normal=>codeW P C W b e' h' K|x=>K x e' h'):codeW P C W (.seq a b) e h K:=by simp only [codeW];exact x
def zw {W:dU} {i:Nat} {b:Code} {e:aQ} {h:ae} {K:Ex->aQ->ae->Prop} (x:codeW P C W b e h fun x e' h'=>match x with | .exit j=>K (if j=i then .normal else .exit j) e' h'|x=>K x e' h'):codeW P C W (.block i b) e h K:=by simp only [codeW];exact x
def condWT {W:dU} {c:Operand} {a b:Code} {e:aQ} {h:ae} {K:Ex->aQ->ae->Prop} (hc:ev e c = .bool true) (k:codeW P C W a e h K):codeW P C W (.cond c a b) e h K:=by simp only [codeW,hc];exact k
def Cw {W:dU} {c:Operand} {a b:Code} {e:aQ} {h:ae} {K:Ex->aQ->ae->Prop} (hc:ev e c = .bool false) (k:codeW P C W b e h K):codeW P C W (.cond c a b) e h K:=by simp only [codeW,hc];exact k
def skipWW {W:dU} {e:aQ} {h:ae} {K:Ex->aQ->ae->Prop} (k:K .normal e h):codeW P C W .skip e h K:=k
def calleeOf (o:Oper):Option (Operand×List Operand):=match o.op with | .call { callee := .value f,args,.. }=>some (f,args.toList)|_=>none
def opW_call {W:dU} {o:Oper} {fo:Operand} {ao:List Operand} (h:calleeOf o=some (fo,ao)) {ρ:Operand->Vl} {hp:ae} {K:Vl->ae->Prop} (e:callAW P W (ρ fo) (ao.map ρ) hp K):opW P W o ρ hp K:=by
 unfold calleeOf at h;split at h
 ·rename_i f args tys heq;simp only [DH,DQ] at h;obtain ⟨rfl,rfl⟩:=h;unfold opW;rw [heq];exact e
 ·cases h
def qk {ops:Array Oper} {o:Oper} (h:o.guard=none) (e:aQ):iR ops o e=true:=by unfold iR;rw [h]
def wN {W:dU} {ops ops':Array Oper} : ∀ (l:List Oper) {e:aQ} {h:ae} {K:aQ->ae->Prop},(∀ o∈l,o.guard=none)->ju P W ops l e h K=ju P W ops' l e h K
 | [],_,_,_,_=>rfl
 |o::l,e,h,K,hg=>by
  simp only [ju,qk (hg o EM),D8]
  congr 1
  funext v h
  exact wN l fun q hq=>hg q (EK _ hq)
def yT {W:dU} {ops:Array Oper} : ∀ (l l2:List Oper) {e:aQ} {h:ae} {K:aQ->ae->Prop},ju P W ops (l++l2) e h K=ju P W ops l e h (fun e h=>ju P W ops l2 e h K)
 | [],_,_,_,_=>rfl
 |o::l,l2,e,h,K=>by
  simp only [List.cons_append,ju];by_cases hw:iR ops o e=true
  ·simp only [DR hw]
   congr 1
   funext v h
   exact yT l l2
  ·simp only [DU hw];exact yT l l2
def ln (c:Code) (a b:Nat):Code:=match c with | .region i ops d => .region i ((ops.toList.drop a).take (b-a)).toArray d|c=>c
def tS (c:Code):List Oper:=match c with | .region _ ops _=>ops.toList|_ => []
def zu (c:Code):Bool:=match c with | .region _ ops false=>ops.toList.all fun o=>o.guard.isNone|_=>false
def mH {n m k d:Nat} {c:Code} {o:Oper} {fo:Operand} {ao:List Operand} (hr:zu c=true) (hs:(tS c).length=m) (hk:(tS c)[k]? = some o) (ho:calleeOf o=some (fo,ao)) (hd:o.dst=some d) {e e1:aQ} {h h1:ae} {K:Ex->aQ->ae->Prop}
  (hp:codeA P C (ln c 0 k) e h=some (.normal,e1,h1)) (hc:callAW P (WW P C n) (ev e1 fo) (ao.map (ev e1)) h1 fun v h2=>codeW P C (WW P C n) (ln c (k+1) m) (e1.set d v) h2 K):codeW P C (WW P C n) c e h K:=by
 cases c with
 |region i ops dr=>
  cases dr with
  |true=>cases hr
  |false=>
   have hg : ∀ q∈ops.toList,q.guard=none:=fun q hq=>by have:=DX.1 (show ops.toList.all (fun o=>o.guard.isNone)=true from hr) q hq;simpa using this
   have hk:ops.toList[k]? = some o:=hk;have hs:ops.toList.length=m:=hs;obtain ⟨hlt,hk'⟩:=D9.1 hk;have hsplit:ops.toList=(ops.toList.drop 0).take (k-0)++o::(ops.toList.drop (k+1)).take (m-(k+1)):=by rw [FO,Nat.sub_zero,EB (l:=ops.toList.drop (k+1)) (by rw [FK];omega),<-hk',<-List.drop_eq_getElem_cons hlt,F7]
   simp only [codeW];rw [hsplit,yT];have hg1 : ∀ q∈(ops.toList.drop 0).take (k-0),q.guard=none:=fun q hq=>hg q (ET (EH hq));have hg2 : ∀ q∈(ops.toList.drop (k+1)).take (m-(k+1)),q.guard=none:=fun q hq=>hg q (ET (EH hq));have hgo:=hg o (EC hk);rw [wN (ops':=((ops.toList.drop 0).take (k-0)).toArray) _ hg1];have hd1:=Dh (n:=n) (K:=fun x e h=>x = .normal/\ju P (WW P C n) ops (o::(ops.toList.drop (k+1)).take (m-(k+1))) e h (K .normal)) hp ⟨rfl,by
    simp only [ju,qk hgo,D8];refine opW_call ho ?_;have q1 : ∀ v h2,codeW P C (WW P C n) (ln (.region i ops false) (k+1) m) (e1.set d v) h2 K=ju P (WW P C n) ops ((ops.toList.drop (k+1)).take (m-(k+1))) (putD e1 o.dst v) h2 (K .normal):=fun v h2=>by show ju P (WW P C n) _ _ _ _ _=_;rw [hd];exact wN _ (by simpa using hg2)
    have e2:(fun v h2=>codeW P C (WW P C n) (ln (.region i ops false) (k+1) m) (e1.set d v) h2 K)=fun v h2=>ju P (WW P C n) ops ((ops.toList.drop (k+1)).take (m-(k+1))) (putD e1 o.dst v) h2 (K .normal):=by
     funext v h2
     exact q1 v h2
    rw [<-e2];exact hc⟩
   have hd2:ju P (WW P C n) ((ops.toList.drop 0).take (k-0)).toArray ((ops.toList.drop 0).take (k-0)) e h (fun e h=>Ex.normal = .normal/\ju P (WW P C n) ops (o::(ops.toList.drop (k+1)).take (m-(k+1))) e h (K .normal)):=by simpa only [ln,codeW] using hd1
   have e3:(fun (e:aQ) (h:ae)=>Ex.normal = .normal/\ju P (WW P C n) ops (o::(ops.toList.drop (k+1)).take (m-(k+1))) e h (K .normal))=fun e h=>ju P (WW P C n) ops (o::(ops.toList.drop (k+1)).take (m-(k+1))) e h (K .normal):=by
    funext e h
    exact propext ⟨fun x=>x.2,fun x=>⟨rfl,x⟩⟩
   rw [<-e3];exact hd2
 |_=>cases hr
def nextWn {W:dU} {i t d d2 n:Nat} {o1 o2:Oper} (h1:o1.op = .next (.tmp t) false) (h2:o1.dst=some d) (h3:o1.guard=none) (h4:o2.op = .extract (.tmp d) 0) (h5:o2.dst=some d2) (h6:o2.guard=none)
  (hd:d<n) (ht:t<n) {x:Nat->Vl} {h:ae} {K:Ex->aQ->ae->Prop} {l:List (Vl×ae)} (hl:nextsA (x t) h=some l) (hk : ∀ r∈l,∃ v,extractA r.1 0=some v/\K .normal (aT n (up x [(d2,v),(d,r.1)])) r.2) :
  codeW P C W (.region i #[o1,o2] false) (aT n x) h K:=by
 simp only [codeW,ju,qk h3,qk h6,D8];unfold opW;rw [h1];simp only;refine ⟨l,by rw [fV ht];exact hl,fun r hr => ?_⟩;obtain ⟨v,e1,e2⟩:=hk r hr;rw [h4];simp only;have a1:putD (aT n x) o1.dst r.1=aT n (up x [(d,r.1)]):=by rw [h2];exact jV n x d r.1
 refine ⟨v,r.2,?_,?_⟩
 ·unfold opA;rw [h4];simp only;rw [a1,fV hd,gN,DR rfl,e1];rfl
 ·rw [a1];have a2:putD (aT n (up x [(d,r.1)])) o2.dst v=aT n (up (up x [(d,r.1)]) [(d2,v)]):=by rw [h5];exact jV n _ d2 v
  rw [a2];have a3:up (up x [(d,r.1)]) [(d2,v)]=up x [(d2,v),(d,r.1)]:=by
   funext t
   simp only [gN,kZ]
  rw [a3];exact e2
structure qS (h:ae) (b:Nat) (es:List (Vl×Vl×Nat)) (ck:Nat):Prop where
 get:h.getB b=some (.obj (.map es ck))
 nd:(es.map (·.2.2)).Nodup
 lt : ∀ e∈es,e.2.2<ck
def pF (h:ae) (ib mb ck:Nat) (seen:List Nat):Prop:=h.getB ib=some (.obj (.iter (some mb) ck seen ck))
def candsG {es:List (Vl×Vl×Nat)} {ck:Nat} {seen:List Nat} (hlt : ∀ e∈es,e.2.2<ck) :
  ∃ l,uy es ck seen ck=some l /\ ∀ c∈l,(c=none /\ ∀ e∈es,e.2.2∈seen) \/ ∃ e∈es,e.2.2∉seen/\c=some e:=by
 have h1:(!seen.isEmpty && !es.isEmpty&&es.all fun e=>decide (ck<=e.2.2))=false:=by
  cases es with
  |nil=>simp
  |cons r M=>
   have:=hlt r EM;have : ¬ck<=r.2.2:=by omega
   simp [this]
 unfold uy;rw [DU (by rw [h1];decide)];refine ⟨_,rfl,?_⟩;intro c hc;rcases EF.1 hc with hc|hc
 ·refine .inl ?_;split at hc
  ·rename_i he;refine ⟨FI.1 hc,fun e hm => ?_⟩;rw [List.isEmpty_iff] at he;have h2:e∉(es.filter fun e => !seen.contains e.2.2).filter fun e=>decide (e.2.2<ck):=by rw [he];exact EU
   rw [E8,E8] at h2;by_cases hh:e.2.2∈seen
   ·exact hh
   ·exact absurd ⟨⟨hm,by simpa using hh⟩,by simpa using hlt e hm⟩ h2
  ·cases hc
 ·obtain ⟨e,he,rfl⟩:=EL.1 hc;have hl:e∈es.filter fun e => !seen.contains e.2.2:=by
   rcases EF.1 he with he|he
   ·exact (E8.1 he).1
   ·exact (E8.1 he).1
  rw [E8] at hl;exact .inr ⟨e,hl.1,by simpa using hl.2,rfl⟩
def sub_len {α:Type} [DecidableEq α] {l m:List α} (d:l.Nodup) (h : ∀ x∈l,x∈m):l.length<=m.length:=by
 induction l generalizing m with
 |nil=>exact FB _
 |cons x l ih=>
  rw [H3] at d;have hx:=h x EM;have:=ih (m:=m.erase x) d.2 fun y hy=>by have hne:y≠x:=fun e=>d.1 (by rw [<-e];exact hy);exact (List.mem_erase_of_ne hne).2 (h y (EK _ hy))
  rw [List.length_erase_of_mem hx] at this;have hp:=List.length_pos_of_mem hx;simp only [List.length_cons];omega
def rangeW {n:Nat} {i t d d2 N:Nat} {o1 o2:Oper} (h1:o1.op = .next (.tmp t) false) (h2:o1.dst=some d) (h3:o1.guard=none) (h4:o2.op = .extract (.tmp d) 0) (h5:o2.dst=some d2) (h6:o2.guard=none) (hd:d<N) (ht:t<N)
  {rest:Code} {ib mb ck:Nat} {es:List (Vl×Vl×Nat)} (Inv:List (Vl×Vl×Nat)->(Nat->Vl)->ae->Prop) {Kx:Ex->aQ->ae->Prop}
  (it : ∀ done y g,Inv done y g->qS g mb es ck/\pF g ib mb ck (done.map (·.2.2))/\y t=ptr ib 0)
  (step : ∀ done e y g,e∈es->e∉done->(done ++ [e]).length<=es.length->Inv done y g->codeW P C (WW P C n) rest (aT N (up y [(d2,.bool true),(d,.tuple #[.bool true,e.1,e.2.1])])) (g.setO ib (.iter (some mb) ck (done.map (·.2.2) ++ [e.2.2]) ck)) fun x e' h'=>match x with | .normal => ∃ y',e'=aT N y'/\Inv (done ++ [e]) y' h'|x=>Kx x e' h')
  (fin : ∀ done y g,done.Perm es->Inv done y g->codeW P C (WW P C n) rest (aT N (up y [(d2,.bool false),(d,.tuple #[.bool false])])) g fun x e' h'=>match x with | .normal=>False|x=>Kx x e' h')
  {x:Nat->Vl} {h:ae} (hI:Inv [] x h) (hl:es.length+1<aK):codeW P C (WW P C n) (.loop (.seq (.region i #[o1,o2] false) rest)) (aT N x) h Kx:=by
 refine loopW_inv (fun k e g => ∃ done y,e=aT N y/\k+done.length=es.length/\done.Nodup/\(∀ q∈done,q∈es)/\Inv done y g) ?_ (fun e h K K'=>iK (xS n) _) (k:=es.length) (by omega) ⟨[],x,rfl,rfl,I5,(fun q hq=>by cases hq),hI⟩;rintro k e g ⟨done,y,rfl,hk,nd,hsub,hi⟩;obtain ⟨mg,ig,yt⟩:=it _ _ _ hi;obtain ⟨l,hl2,hc⟩:=candsG (seen:=done.map (·.2.2)) mg.lt;refine vM (nextWn h1 h2 h3 h4 h5 h6 hd ht (l:=l.map fun c=>stepTo ib mb ck (done.map (·.2.2)) ck c g) ?_ ?_)
 ·rw [yt];unfold nextsA ptr;simp only [show g.getB ib=_ from ig,mg.get,hl2,Option.map_some]
 ·rintro r hr;obtain ⟨c,hcm,rfl⟩:=EL.1 hr;have hin : ∀ e∈es,e.2.2∈done.map (·.2.2)->e∈done:=fun e he hh=>by
   obtain ⟨q,hq,e2⟩:=EL.1 hh;have hqe:=hsub q hq;have:q=e:=by
    have nd:=mg.nd;obtain ⟨a,ha,rfl⟩:=List.mem_iff_getElem.1 hqe;obtain ⟨b,hb,rfl⟩:=List.mem_iff_getElem.1 he;have:a=b:=by
      have pw:=List.pairwise_iff_getElem.1 nd;rcases Nat.lt_trichotomy a b with hh|hh|hh
      ·exact absurd (by rw [IE,IE];exact e2) (pw a b (by rw [DY];exact ha) (by rw [DY];exact hb) hh)
      ·exact hh
      ·exact absurd (by rw [IE,IE];exact e2.symm) (pw b a (by rw [DY];exact hb) (by rw [DY];exact ha) hh)
    subst this;rfl
   rw [<-this];exact hq
  rcases hc c hcm with ⟨rfl,hall⟩|⟨e,he,hns,rfl⟩
  ·refine ⟨.bool false,rfl,?_⟩;have hperm:done.Perm es:=by
    have ndE:es.Nodup:=I4 (·.2.2) (fun a b h q=>h (by rw [q])) mg.nd
    classical
    exact (List.perm_ext_iff_of_nodup nd ndE).2 fun a=>⟨hsub a,fun ha=>hin a ha (hall a ha)⟩
   refine iK (xS n) _ ?_ (fin done y g hperm hi);intro x e' h' hx;cases x with
   |normal=>exact hx.elim
   |ret=>exact hx
   |exit j=>exact hx
  ·refine ⟨.bool true,rfl,?_⟩;have hnd:e∉done:=fun hh=>hns (EL.2 ⟨e,hh,rfl⟩);have hnd2:(done ++ [e]).Nodup:=HP.2 ⟨nd,by simp,fun a ha b hb q=>by rw [FI.1 hb] at q;subst q;exact hnd ha⟩
   have hsub2 : ∀ q∈done ++ [e],q∈es:=fun q hq=>by
    rcases EF.1 hq with hq|hq
    ·exact hsub q hq
    ·rw [FI.1 hq];exact he
   have hle:(done ++ [e]).length<=es.length:=by
    classical
    exact sub_len hnd2 hsub2
   rw [DW,List.length_singleton] at hle;refine iK (xS n) _ ?_ (step done e y g he hnd (by rw [DW,List.length_singleton];exact hle) hi);intro x e' h' hx;cases x with
   |normal=>
    obtain ⟨y',e1,hi'⟩:=hx;exact ⟨k-1,by omega,done ++ [e],y',e1,by rw [DW,List.length_singleton];omega,hnd2,hsub2,hi'⟩
   |ret=>exact hx
   |exit j=>exact hx
end
section
open Go.RowKit
def nice (n:Nat):Vl->Bool
 | .pointer (some ⟨b,_,none⟩)=>decide (b<n)
 | .slice (some ⟨b,_,none⟩) _ _=>decide (b<n)
 |v=>flat v
def clean (n:Nat) (v:Vl):Vl:=
 if nice n v then v else match v with
  | .slice (some _) 0 0 => .slice (some ⟨0,0,some 0⟩) 0 0
  |_ => .chan (some 0)
def view (W:World) (b:Nat):Option (List Vl):=
 match W.heap[b]? with
 |some (.cells arr _ _)=>some (arr.toList.map (clean W.heap.size))
 |_=>none
def nice_rel {W:World} {v:Vl} (h:nice W.heap.size v=true):aD (iE W) v v:=by
 unfold nice at h;split at h
 ·rename_i b off;simp only [D7] at h;have hm:iE W b=some ⟨b,0,0,0⟩:=by unfold iE;rw [DR h]
  have:=aD.ptr (off:=off) hm;simpa using this
 ·rename_i b off l c;simp only [D7] at h;have hm:iE W b=some ⟨b,0,0,0⟩:=by unfold iE;rw [DR h]
  have:=aD.slice (off:=off) (len:=l) (cap:=c) hm;simpa using this
 ·exact .flat h
def nice_bd {n:Nat} {v:Vl} (h:nice n v=true):bR n v=true:=by
 unfold nice at h;split at h
 ·simpa [bR] using h
 ·simpa [bR] using h
 ·exact iP h
def qv {W:World} {v:Vl} (h:cw (clean W.heap.size v)=false):aD (iE W) (clean W.heap.size v) v:=by
 unfold clean at h |-;split at h
 ·rename_i hn;rw [DR hn];exact nice_rel hn
 ·rename_i hn;rw [DU hn];split at h
  ·exact .yH
  ·simp [cw] at h
def tV {n:Nat} {v:Vl} (hn:0<n):bR n (clean n v)=true:=by
 unfold clean;split
 ·rename_i h;exact nice_bd h
 ·split
  ·simpa [bR] using hn
  ·rfl
def view_sim (W:World):cn (iE W) (dO W (view W)) W:=by
 refine ⟨?_,?_,?_,?_,DO _,?_⟩
 ·intro b cs hb hc;have hb2:b<W.heap.size:=hb;have hc2:view W b=some cs:=hc;unfold view at hc2;split at hc2
  ·rename_i arr T fr hg;cases hc2;refine ⟨⟨b,0,0,0⟩,arr,T,fr,by unfold iE;rw [DR hb2],rfl,rfl,hg,?_,?_⟩
   ·simp
   ·intro i x y hx hy hh;rw [EG,DT] at hx;obtain ⟨z,hz,rfl⟩:=hx;rw [DY,EB (DO _),hz] at hy;cases hy;exact qv hh
  ·cases hc2
 ·intro b k hb hk;rw [Ct W _ hb] at hk;cases hk
 ·intro b k hb hk;rw [iw W _ hb] at hk;cases hk
 ·intro b b' k k' L L' hb _ _ hk;rw [iw W _ hb] at hk;cases hk
 ·intro b hb;have hb2:b<W.heap.size:=hb;exact ⟨⟨b,0,0,0⟩,by unfold iE;rw [DR hb2],rfl,rfl⟩
def tN (W:World) (b:Nat):(dO W (view W)).get b=view W b:=by
 unfold ae.get;simp only [ae.gJ];unfold dO;simp only [Nat.add_zero];by_cases hb:b<W.heap.size
 ·rw [DR hb];cases view W b<;>rfl
 ·rw [DU hb,DU hb];unfold view;rw [FX (by omega)];rfl
def view_obj (W:World) (b:Nat) (o:fl):(dO W (view W)).getB b≠some (.obj o):=fun hk=>by have h0:=ae.bk (h:=dO W (view W)) hk;rw [iw W _ h0] at hk;cases hk
def view_bd (W:World):aA (dO W (view W)):=by
 refine ⟨?_,fun b o hk=>absurd hk (view_obj W b o)⟩;intro b k hk;rw [tN] at hk;have hn:(dO W (view W)).next=W.heap.size:=rfl;rw [hn];unfold view at hk;split at hk
 ·rename_i arr T fr hg;cases hk;have hpos:0<W.heap.size:=by have:=(DZ.1 hg).1;omega
  rw [dM];intro x hx;obtain ⟨y,_,rfl⟩:=EL.1 hx;exact tV hpos
 ·cases hk
def qu {W:World} {a:Addr} {v:Vl} (h:W.cell? a=some v):a.spot=none/\a.block<W.heap.size /\ ∃ k,view W a.block=some k/\k[a.off]? = some (clean W.heap.size v):=by
 unfold World.cell? at h;split at h
 ·rename_i c T fr hg;split at h
  ·cases h
  ·rename_i hs;refine ⟨by simpa using hs,(DZ.1 hg).1,c.toList.map (clean W.heap.size),?_,?_⟩
   ·unfold view;rw [hg]
   ·rw [EG,HK,h];rfl
 ·cases h
end
end
end Go.Abs
