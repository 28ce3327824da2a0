/-
  A part of the proof, shortened by a program.
  Conditions: as each theorem states.
-/
import Derived.Test.YtdhpgacmgebjdaaGreatDoorG7
import Derived.ProofKit
set_option linter.all false
namespace Go.Abs
noncomputable section
section
open Go.RowKit
def fy (W:World) (old:Nat->Option (List Vl)):ae:=⟨W.heap.size,old,.nil,0⟩
def mm (W:World):Mu:=fun b=>if b<W.heap.size then some ⟨b,0,0,0⟩ else none
def jR (W:World) (old:Nat->Option (List Vl)) {b:Nat} (hb:W.heap.size<=b):(fy W old).getB b=none:=by simp only [ae.eZ];unfold fy;simp only [Nat.add_zero];rw [DL (by omega),DL (by omega)]
def Ct (W:World) (old:Nat->Option (List Vl)) {b:Nat} (hb:W.heap.size<=b):(fy W old).get b=none:=by unfold ae.get;rw [jR W old hb];rfl
def ct.below {μ μ':Mu} {h h':ae} {W W':World} (hn : ∀ B,B<W.heap.size -> ¬Ci μ h B) (St:ct μ h W μ' h' W'):Below W.heap.size W W':=
 ⟨St.os,St.tape,St.output,St.size,fun k hk=>St.same k hk (hn k hk)⟩
end
structure Late (ι:Type) where
 p:(ι->Prop)->Prop
 all : ∀ {q:ι->Prop},(∀ i,q i)->p q
 and : ∀ {q r s:ι->Prop},p q->p r->(∀ i,q i->r i->s i)->p s
section
variable {ι:Type} (E:Late ι) {P:Program} {C:ah} {D:ι->ah}
def Late.mono {q r:ι->Prop} (h:E.p q) (hr : ∀ i,q i->r i):E.p r:=E.and h (E.all (q:=fun _=>True) fun _=>trivial) fun i h _=>hr i h
variable (cK : ∀ f args h r,C f args h=some r->E.p fun i=>D i f args h=some r)
include cK
def yx (o:Oper) (ρ:Operand->Vl) (h:ae) (r:Vl×ae) (e:opA P C o ρ h=some r):E.p fun i=>opA P (D i) o ρ h=some r:=by
 unfold opA at e |-;split at e;all_goals first
  |exact E.all fun _=>e
  |skip
 rename_i c _;cases hc:c.callee with
 |builtin b=>simp only [hc] at e |-;exact E.all fun _=>e
 |invoke a b=>simp only [hc] at e;cases e
 |value f=>
  simp only [hc] at e |-;unfold callA at e |-;split at e
  ·split at e
   ·rename_i hi;simp only [hi,DV];exact cK _ _ _ _ e
   ·cases e
  ·exact cK _ _ _ _ e
  ·cases e
def uF (ops:Array Oper) : ∀ (l:List Oper) (e:aO) (h:ae) (r:aO×ae),opsA P C ops l e h=some r->E.p fun i=>opsA P (D i) ops l e h=some r
 | [],e,h,r,x=>E.all fun _=>x
 |o::l,e,h,r,x=>by
  simp only [opsA] at x |-;unfold stepA at x |-;by_cases hw:ki ops o e=true
  ·simp only [hw,DV] at x |-;cases ho:opA P C o (ev e) h with
   |none=>rw [ho] at x;cases x
   |some y=>
    rw [ho] at x;refine E.and (yx E cK o (ev e) h y ho) (uF ops l _ _ r x) ?_;intro i h1 h2;simp only [h1];exact h2
  ·simp only [hw] at x |-;exact uF ops l _ _ r x
def qw (ops:Array Oper) : ∀ (l:List (Nat×Oper)) (e:aO) (h:ae) (r:List Ce×aO×ae),traceA P C ops l e h=some r->E.p fun i=>traceA P (D i) ops l e h=some r
 | [],e,h,r,x=>E.all fun _=>x
 | (n,o)::l,e,h,r,x=>by
   simp only [traceA] at x |-;by_cases hw:ki ops o e=true
   ·simp only [hw,DV] at x |-;cases ho:opA P C o (ev e) h with
    |none=>rw [ho] at x;cases x
    |some y=>
     rw [ho] at x;simp only at x;cases ht:traceA P C ops l (putD e o.dst y.1) y.2 with
     |none=>rw [ht] at x;cases x
     |some z=>
      rw [ht] at x;refine E.and (yx E cK o (ev e) h y ho) (qw ops l _ _ z ht) ?_;intro i h1 h2;simp only [h1,h2];exact x
   ·simp only [hw] at x |-;cases ht:traceA P C ops l (putD e o.dst undef) h with
    |none=>rw [ht] at x;cases x
    |some z=>
     rw [ht] at x;refine E.mono (qw ops l _ _ z ht) ?_;intro i h2;simp only [h2];exact x
omit cK in
def all_late {α:Type} (l:List α) (p:α->Bool) (q:ι->α->Bool) (hq : ∀ x∈l,p x=true->E.p fun i=>q i x=true) (h:l.all p=true):E.p fun i=>l.all (q i)=true:=by
 induction l with
 |nil=>exact E.all fun _=>rfl
 |cons x l ih=>
  simp only [List.all_cons,DD] at h |-;exact E.and (hq x EW h.1) (ih (fun y hy=>hq y (EL _ hy)) h.2) fun i a b=>⟨a,b⟩
def dynOk_late (ops:Array Oper) (l:List (Nat×Oper)) (tr:List Ce) (hEnd:ae) (x:dynOk P C ops l tr hEnd=true):E.p fun i=>dynOk P (D i) ops l tr hEnd=true:=by
 unfold dynOk at x |-;refine all_late E _ _ (fun i x=>_) ?_ x;intro a _ ha;rw [FI] at ha;rcases ha with ha|ha
 ·exact E.all fun i=>by rw [FI];exact .inl ha
 ·let G:ι->(Nat×Oper)×Nat->Bool:=fun i y=>fN (iy ops) a.1.1.1 y.1.1||fN (iy ops) y.1.1 a.1.1.1||match qc (tr.map (·.sX)) (tr.map (·.h) ++ [hEnd]) (madeIn P l (a.2,y.2)) (if y.2<a.2 then y.2 else y.2+1) with
      |some h=>same (opA P (D i) a.1.1.2 (ev a.1.2.e) h) a.1.2.v
      |none=>false
  refine E.mono (all_late E _ _ G ?_ ha) ?_
  ·intro y _ hy;rw [FI] at hy;rcases hy with hy|hy
   ·exact E.all fun i=>by rw [FI];exact .inl hy
   ·split at hy
    ·rename_i h hh;unfold Abs.same at hy;split at hy
     ·rename_i v g hv;refine E.mono (yx E cK _ _ _ _ hv) ?_;intro i hi;rw [FI];refine .inr ?_;rw [hh];simp only [hi,Abs.same];exact hy
     ·cases hy
    ·cases hy
  ·intro i hi;rw [FI];exact .inr hi
def Cl (ops:Array Oper) (d:Bool) (e:aO) (h:ae) (r:aO×ae) (x:regionA P C ops d e h=some r):E.p fun i=>regionA P (D i) ops d e h=some r:=by
 unfold regionA at x |-;cases d with
 |false=>exact uF E cK ops _ e h r x
 |true=>
  simp only [DV] at x |-;split at x
  ·rename_i hs;simp only [hs,DV];split at x
   ·rename_i tr e1 h1 ht;split at x
    ·rename_i hd;refine E.and (qw E cK ops _ e h _ ht) (dynOk_late E cK ops _ tr h1 hd) ?_;intro i a b;simp only [a,b,DV];exact x
    ·cases x
   ·cases x
  ·cases x
omit cK in
def Aw {step:aO->ae->Option (Ex×aO×ae)} {stepD:ι->aO->ae->Option (Ex×aO×ae)} (hs : ∀ e h r,step e h=some r->E.p fun i=>stepD i e h=some r) :
  ∀ (n:Nat) (e:aO) (h:ae) (r:Ex×aO×ae),iter step n e h=some r->E.p fun i=>iter (stepD i) n e h=some r
 | 0,_,_,_,x=>by cases x
 |n+1,e,h,r,x=>by
  simp only [iter] at x |-;split at x
  ·rename_i e1 h1 h2;refine E.and (hs _ _ _ h2) (Aw hs n _ _ r x) ?_;intro i a b;simp only [a];exact b
  ·rename_i hn;refine E.mono (hs _ _ _ x) ?_;intro i a;simp only [a];obtain ⟨ex,e1,h1⟩:=r;cases ex with
   |normal=>exact absurd x (hn e1 h1)
   |ret=>rfl
   |exit j=>rfl
def dL : ∀ (c:Code) (e:aO) (h:ae) (r:Ex×aO×ae),codeA P C c e h=some r->E.p fun i=>codeA P (D i) c e h=some r
 | .skip,e,h,r,x=>E.all fun _=>x
 | .region _ ops d,e,h,r,x=>by
   simp only [codeA] at x |-;split at x
   ·rename_i e1 h1 h2;refine E.mono (Cl E cK ops d e h _ h2) ?_;intro i a;simp only [a];exact x
   ·cases x
 | .seq a b,e,h,r,x=>by
   simp only [codeA] at x |-;split at x
   ·rename_i e1 h1 h2;refine E.and (dL a e h _ h2) (dL b _ _ r x) ?_;intro i p q;simp only [p];exact q
   ·rename_i hn;refine E.mono (dL a e h _ x) ?_;intro i p;simp only [p];obtain ⟨ex,e1,h1⟩:=r;cases ex with
    |normal=>exact absurd x (hn e1 h1)
    |ret=>rfl
    |exit j=>rfl
 | .cond c a b,e,h,r,x=>by
   simp only [codeA] at x |-;split at x
   ·exact dL a e h r x
   ·exact dL b e h r x
   ·cases x
 | .block j b,e,h,r,x=>by
   simp only [codeA] at x |-;split at x
   ·rename_i k e1 h1 h2;refine E.mono (dL b e h _ h2) ?_;intro i p;simp only [p];exact x
   ·rename_i hn;refine E.mono (dL b e h _ x) ?_;intro i p;simp only [p];obtain ⟨ex,e1,h1⟩:=r;cases ex with
    |exit k=>exact absurd x (hn k e1 h1)
    |ret=>rfl
    |normal=>rfl
 | .loop b,e,h,r,x=>by simp only [codeA] at x |-;exact Aw E (fun e h r y=>dL b e h r y) az e h r x
 | .exit _,e,h,r,x=>E.all fun _=>x
 | .scope b,e,h,r,x=>by simp only [codeA] at x |-;exact dL b e h r x
 | .label _,e,h,r,x=>E.all fun _=>x
 | .ret,e,h,r,x=>E.all fun _=>x
 | .goto _,e,h,r,x=>by cases x
 | .rangeFunc g ps a b,e,h,r,x=>by
   simp only [codeA] at x |-;split at x
   ·rename_i i first captured hev
    split at x
    ·rename_i hi;split at x
     ·rename_i v h2 hc;refine E.mono (cK _ _ _ _ hc) ?_;intro j hj;simp only [hi,DV,hj];exact x
     ·cases x
    ·cases x
   ·cases x
 | .refuse _,e,h,r,x=>by cases x
def jW (l:Nat) (args:List Vl) (h:ae) (r:Vl×ae) (x:roundA P C l args h=some r):E.p fun i=>roundA P (D i) l args h=some r:=by obtain ⟨v,h'⟩:=r;obtain ⟨st,p0,t0,q0,assign,body,e1,h1,p1,t1,q1,a1,b1,ex,e2,h2,hg,hlen,ho1,ho2,hca,hg1,hcb,hend⟩:=jS x;refine E.and (dL E cK assign _ _ _ hca) (dL E cK body _ _ _ hcb) ?_;intro i c1 c2;unfold roundA;rw [hg];simp only;rw [DH ⟨hlen,ho1,ho2⟩,c1];simp only;rw [hg1];simp only;rw [c2];exact hend
def lV (fn:Func) (args:List Vl) (h:ae) (r:Vl×ae) (x:bodyA P C fn args h=some r):E.p fun i=>bodyA P (D i) fn args h=some r:=by
 unfold bodyA at x |-;cases hb:fn.body with
 |none=>rw [hb] at x;cases x
 |some c=>
  rw [hb] at x;simp only at x |-;cases hc:codeA P C c (args++List.replicate (fn.ntmps-args.length) undef) h with
  |none=>rw [hc] at x;cases x
  |some y=>
   rw [hc] at x;refine E.mono (dL E cK c _ _ y hc) ?_;intro i a;simp only [a];exact x
end
def qU:Late Unit:=⟨fun q=>q (),fun h=>h (),fun a b h=>h () a b⟩
def nH:Late Nat:=⟨fun q => ∃ n,∀ m,n<=m->q m,fun h=>⟨0,fun m _=>h m⟩,fun a b h=>by obtain ⟨n,a⟩:=a;obtain ⟨k,b⟩:=b;exact ⟨max n k,fun m hm=>h m (a m (by omega)) (b m (by omega))⟩⟩
def callX (P:Program) (X:ah):Nat->ah
 | 0,f,args,h=>X f args h
 |k+1,f,args,h=>match X f args h with
  |some r=>some r
  |none=>if Nat.ble P.globals.size h.n0 then match P.funcs[f]? with
   |some fn=>if sH P fn then bodyA P (callX P X k) fn args h else none
   |none=>roundA P (callX P X k) (f-P.funcs.size) args h
  else none
def sS {P:Program} {X:ah} : ∀ (n:Nat) (f:FuncId) (args:List Vl) (h:ae) (r:Vl×ae),callX P X n f args h=some r->callX P X (n+1) f args h=some r
 | 0,f,args,h,r,x=>by have x:X f args h=some r:=x;simp only [callX,x]
 |n+1,f,args,h,r,x=>by
  unfold callX at x |-;split at x
  ·exact x
  ·rename_i hX;split at x
   ·rename_i hg;rw [DH hg];split at x
    ·rename_i fn hf;split at x
     ·rename_i hk;rw [DH hk];exact lV (ι:=Unit) qU (D:=fun _=>callX P X (n+1)) (fun f args h r e=>sS n f args h r e) fn args h r x
     ·cases x
    ·exact jW (ι:=Unit) qU (D:=fun _=>callX P X (n+1)) (fun f args h r e=>sS n f args h r e) _ args h r x
   ·cases x
def oi {P:Program} {X:ah} {n m:Nat} (hm:n<=m) {f:FuncId} {args:List Vl} {h:ae} {r:Vl×ae} (x:callX P X n f args h=some r):callX P X m f args h=some r:=by
 obtain ⟨k,rfl⟩ : ∃ k,m=n+k:=⟨m-n,by omega⟩
 clear hm;induction k with
 |zero=>exact x
 |succ k ih=>exact sS _ _ _ _ _ ih
def iM {P:Program} {X:ah} (hm:P.follows .mixedOrders=true) (hX:bk P X) : ∀ k,bk P (callX P X k)
 | 0=>hX
 |k+1=>by
  have ih:=iM hm hX k;have key : ∀ {f args h v h'},callX P X (k+1) f args h=some (v,h')->X f args h=some (v,h')\/(∃ fn,P.funcs[f]? = some fn/\sH P fn=true/\P.globals.size<=h.n0/\bodyA P (callX P X k) fn args h=some (v,h')) \/
    (P.funcs.size<=f/\P.globals.size<=h.n0/\roundA P (callX P X k) (f-P.funcs.size) args h=some (v,h')):=by
   intro f args h v h' he;unfold callX at he;split at he
   ·rename_i hx;exact .inl (hx.trans he)
   ·split at he
    ·rename_i h1;split at he
     ·rename_i fn hf;split at he
      ·rename_i hk;exact .inr (.inl ⟨fn,hf,hk,EH h1,he⟩)
      ·cases he
     ·rename_i hf;exact .inr (.inr ⟨Array.getElem?_eq_none_iff.1 hf,EH h1,he⟩)
    ·cases he
  refine ⟨?_,?_,?_,?_⟩
  ·intro f args h v h' he;rcases key he with hx|⟨fn,h1,h2,h3,h4⟩|⟨h1,h2,h3⟩
   ·exact hX.grow _ _ _ _ _ hx
   ·exact bodyA_grow ih h4
   ·exact roundA_grow ih h3
  ·intro f args h v h' he hba hbh;rcases key he with hx|⟨fn,h1,h2,h3,h4⟩|⟨h1,h2,h3⟩
   ·exact hX.bd _ _ _ _ _ hx hba hbh
   ·exact bodyA_bd ih h2 h3 h4 hba hbh
   ·exact roundA_bd ih h3 h2 hba hbh
  ·intro f args h v h' he hf hba hbh hg μ w args' S hfr r;rcases key he with hx|⟨fn,h1,h2,h3,h4⟩|⟨h1,_⟩
   ·exact hX.run _ _ _ _ _ hx hf hba hbh hg μ w args' S hfr r
   ·cases hb:fn.body with
    |none=>unfold bodyA at h4;rw [hb] at h4;cases h4
    |some c=>
     have hco:codeOk P c=true:=by unfold sH at h2;rw [hb] at h2;simp only [DD] at h2;exact h2.2
     have h2':=h2;unfold sH at h2';rw [DD,GI] at h2';exact .inl ⟨fn,h1,h2'.1,by rw [hb];rfl,xL ih hm h1 hb hco h4 hg hba hbh S hfr r⟩
   ·exact absurd hf (IW.2 h1)
  ·intro l args h v h' he hba hbh hg μ w args' L S hfr r hL;rcases key he with h0|⟨fn,h1,_⟩|⟨_,_,h2⟩
   ·exact hX.round _ _ _ _ _ h0 hba hbh hg μ w args' L S hfr r hL
   ·exact absurd (DT.1 h1).1 (IW.2 (HL _ _))
   ·rw [show zh P l-P.funcs.size=l from FY _ _] at h2;exact round_sound ih hm h2 hg hba hbh S hfr r hL
open Classical in
def CC (P:Program) (X:ah):ah:=fun f args h=>if e : ∃ n,(callX P X n f args h).isSome then callX P X e.choose f args h else none
def qT {P:Program} {X:ah} {f:FuncId} {args:List Vl} {h:ae} {r:Vl×ae} (e:CC P X f args h=some r) : ∃ n,callX P X n f args h=some r:=by
 unfold CC at e;split at e
 ·exact ⟨_,e⟩
 ·cases e
def CC_of {P:Program} {X:ah} {n:Nat} {f:FuncId} {args:List Vl} {h:ae} {r:Vl×ae} (e:callX P X n f args h=some r):CC P X f args h=some r:=by
 have hx : ∃ n,(callX P X n f args h).isSome:=⟨n,by rw [e];rfl⟩
 unfold CC;rw [dif_pos hx];have h2:=hx.choose_spec;rw [E9] at h2;obtain ⟨r2,h2⟩:=h2;have h3:=oi (Nat.le_max_left n hx.choose) e;have h4:=oi (Nat.le_max_right n hx.choose) h2;rw [h2,<-h3,h4]
def CC_known {P:Program} {X:ah} {f:FuncId} {args:List Vl} {h:ae} {r:Vl×ae} (e:X f args h=some r):CC P X f args h=some r:=CC_of (n:=0) e
def tS {P:Program} {X:ah} {f:FuncId} {fn:Func} (i:bE P f fn) {args:List Vl} {h:ae} {r:Vl×ae} (hg:P.globals.size<=h.n0) (hX:X f args h=none)
  (e:aV P (CC P X) fn args h=some r):CC P X f args h=some r:=by
 rw [mS] at e;have cK : ∀ f args h r,CC P X f args h=some r->nH.p fun n=>callX P X n f args h=some r:=by intro f args h r e;obtain ⟨n,hn⟩:=qT e;exact ⟨n,fun m hm=>oi hm hn⟩
 obtain ⟨n,hn⟩:=lV nH (D:=callX P X) cK fn args h r e;have hok:sH P fn=true:=by unfold sH;rw [i.name,i.body];simp only [EG,EU];exact i.ok
 refine CC_of (n:=n+1) ?_;unfold callX;rw [hX];simp only;rw [DH (FM hg),i.at_];simp only;rw [DH hok];exact hn n (DG _)
def CC_round {P:Program} {X:ah} {l:Nat} {args:List Vl} {h:ae} {r:Vl×ae} (hg:P.globals.size<=h.n0) (hX:X (zh P l) args h=none)
  (e:roundA P (CC P X) l args h=some r):CC P X (zh P l) args h=some r:=by
 have cK : ∀ f args h r,CC P X f args h=some r->nH.p fun n=>callX P X n f args h=some r:=by intro f args h r e;obtain ⟨n,hn⟩:=qT e;exact ⟨n,fun m hm=>oi hm hn⟩
 obtain ⟨n,hn⟩:=jW nH (D:=callX P X) cK l args h r e;refine CC_of (n:=n+1) ?_;unfold callX;rw [hX];simp only;rw [DH (FM hg),show P.funcs[zh P l]? = none from FQ (HL _ _)];simp only;rw [show zh P l-P.funcs.size=l from FY _ _];exact hn n (DG _)
def kY {P:Program} {X:ah} (hm:P.follows .mixedOrders=true) (hX:bk P X):bk P (CC P X):=by
 refine ⟨?_,?_,?_,?_⟩
 ·intro f args h v h' e;obtain ⟨n,e⟩:=qT e;exact (iM hm hX n).grow _ _ _ _ _ e
 ·intro f args h v h' e;obtain ⟨n,e⟩:=qT e;exact (iM hm hX n).bd _ _ _ _ _ e
 ·intro f args h v h' e;obtain ⟨n,e⟩:=qT e;exact (iM hm hX n).run _ _ _ _ _ e
 ·intro l args h v h' e;obtain ⟨n,e⟩:=qT e;exact (iM hm hX n).round _ _ _ _ _ e
def bU.of_CC {P:Program} {X:ah} (hm:P.follows .mixedOrders=true) (hX:bk P X) {f:FuncId} {fn:Func} (i:bE P f fn):bU P f (CC P X f) where
 fn:=(DT.1 i.at_).1
 grow args h v h' e:=(kY hm hX).grow _ _ _ _ _ e
 bd args h v h' e:=(kY hm hX).bd _ _ _ _ _ e
 run args h v h' e:=(kY hm hX).run _ _ _ _ _ e (DT.1 i.at_).1
def mw {α β:Type} (P:Program) (s:Sem α) (f:α->Sem β):cZ P (s >>= f)=(cZ P s).bind (fun a=>cZ P (f a)):=by
 show cZ P (s.bind f)=_;induction s with
 |pure a=>rfl
 |program k ih=>simp only [Sem.bind,cZ];exact ih P
 |_=>rfl
def mq {α:Type} (P:Program) (a:α):cZ P (pure a)=some a:=rfl
def xy (P:Program):cZ P program=some P:=rfl
section
variable {P:Program}
def mK {t:TypeId} {d:TypeDesc} (h:P.underlying t=some d):cZ P (underlying t)=some d:=by unfold underlying;simp only [mw,xy,Option.bind_some,h,mq]
def pr_size {t:TypeId} {n:Nat} (h:cQ P t=some n):cZ P (sizeOf t)=some n:=by unfold cQ at h;rw [DJ] at h;obtain ⟨i,h1,rfl⟩:=h;unfold Go.sizeOf typeInfo;simp only [mw,xy,Option.bind_some,h1,mq]
def vH {t:TypeId} {k:IntKind} {xs:Array Vl} {off:Nat} {v:Vl} (h:P.underlying t=some (.int k)) (hx:xs[off]? = some v):cZ P (part t xs off)=some v:=by unfold part isAgg;simp only [mw,mK h,Option.bind_some,mq,hx];rfl
def pr_eq_int {d:Nat} {t:TypeId} {k j:IntKind} {a b:Int} (h:P.underlying t=some (.int k)):cZ P (Op.equalIn (d+1) t (.int j a) (.int j b))=some (a==b):=by simp only [Op.equalIn,mw,mK h,Option.bind_some,DV,mq]
def pr_loop {d e:Nat} {k j:IntKind} {xs ys:Array Vl} (he:P.underlying e=some (.int k)) : ∀ (m s:Nat),(∀ i,s<=i->i<s+m -> ∃ a b,xs[i]? = some (.int j a)/\ys[i]? = some (.int j b)) ->
  ∃ r:Bool,(r=true ↔ ∀ i,s<=i->i<s+m->xs[i]? = ys[i]?)/\cZ P (forIn (List.range' s m) ((none:Option Bool),()) fun i __s=>do
     let a <-part e xs (i*1)
     let b <-part e ys (i*1)
     let r <-Op.equalIn (d+1) e a b
     if (!r)=true then pure (ForInStep.done (some false,())) else pure (ForInStep.yield (none,())))=some (if r=true then (none,()) else (some false,()))
 | 0,s,_=>⟨true,⟨fun _ i h1 h2=>by omega,fun _=>rfl⟩,rfl⟩
 |m+1,s,h=>by
  obtain ⟨a,b,h1,h2⟩:=h s (DG _) (by omega);rw [List.range'_succ,List.forIn_cons];simp only [mw,FG,vH he h1,vH he h2,Option.bind_some,pr_eq_int he];by_cases hab:a=b
  ·subst hab;obtain ⟨r,hr,ih⟩:=pr_loop he m (s+1) (fun i q1 q2=>h i (by omega) (by omega)) (d:=d);simp only [FG] at ih;refine ⟨r,hr.trans ⟨fun hall i q1 q2 => ?_,fun hh i q1 q2=>hh i (by omega) (by omega)⟩,?_⟩
   ·by_cases e:i=s
    ·subst e;rw [h1,h2]
    ·exact hall i (by omega) (by omega)
   ·simp only [DP,EK,DB,DS,mq,Option.bind_some];exact ih
  ·refine ⟨false,⟨fun h=>(by cases h),fun hh => ?_⟩,?_⟩
   ·have:=hh s (DG _) (by omega);rw [h1,h2] at this;exact absurd (by simpa using this) hab
   ·have:(a==b)=false:=by simpa using hab
    simp only [this,EG,DV,mq,Option.bind_some,DB,DS]
def pr_eq_arr {d m:Nat} {t e:TypeId} {k j:IntKind} {xs ys:Array Vl} (h:P.underlying t=some (.array m e)) (hs:cQ P e=some 1) (he:P.underlying e=some (.int k)) (hx : ∀ i,i<m -> ∃ a b,xs[i]? = some (.int j a)/\ys[i]? = some (.int j b)) :
  ∃ r:Bool,(r=true ↔ ∀ i,i<m->xs[i]? = ys[i]?)/\cZ P (Op.equalIn (d+2) t (.agg xs) (.agg ys))=some r:=by
 rw [Op.equalIn];simp only [mw,mK h,Option.bind_some,pr_size hs,Std.Legacy.Range.forIn_eq_forIn_range'];obtain ⟨r,hr,this⟩:=pr_loop (d:=d) he (xs:=xs) (ys:=ys) (j:=j) m 0 (fun i _ q=>hx i (by omega));have hsz:([:m]:Std.Legacy.Range).size=m:=by simp [Std.Legacy.Range.size]
 rw [hsz,this];refine ⟨r,hr.trans ⟨fun hh i q=>hh i (FL _) (by omega),fun hh i _ q=>hh i (by omega)⟩,?_⟩;cases r<;>rfl
def bin_agg {t:TypeId} {xs ys:Array Vl} {r:Bool} (hg:P.eqGuardType P.depth t=false) (h1:ground (.agg xs)=true) (h2:ground (.agg ys)=true) (h:cZ P (Op.equalIn 10000 t (.agg xs) (.agg ys))=some r) :
  aA P .eql t (.agg xs) (.agg ys)=some (.bool r)/\aA P .neq t (.agg xs) (.agg ys)=some (.bool !r):=by
 have e1:cZ P (binOp .eql t (.agg xs) (.agg ys))=some (.bool r):=by simp only [binOp,Op.equal,Op.maxDepth,mw,h,Option.bind_some,mq]
 have e2:cZ P (binOp .neq t (.agg xs) (.agg ys))=some (.bool !r):=by simp only [binOp,Op.equal,Op.maxDepth,mw,h,Option.bind_some,mq]
 unfold aA eqOk binA;simp only [hg,EG,DV,h1,h2,EJ,e1,e2,flat];exact ⟨trivial,trivial⟩
end
def au.also {a b c:ae} {B B':Nat->Prop} (x:au a b B) (y:au b c B') (hB : ∀ d,d<a.next->B' d->B d):au a c B:=
 ⟨y.n0.trans x.n0,D9 x.next y.next,fun d hd hb=>(y.getB d (EX hd x.next) (fun h=>hb (hB d hd h))).trans (x.getB d hd hb)⟩
def au.getE {h h':ae} {B:Nat->Prop} (x:au h h' B) {b:Nat} {k:eh} (e:h.get b=some k) (hB : ¬B b):h'.get b=some k:=(x.get b (h.aL e) hB).trans e
section
variable {P:Program} {C:ah} {W:mr}
end
section
variable {P:Program} {C:ah} {W:mr}
def roundW (P:Program) (C:ah) (W:mr) (l:Nat) (args:List Vl) (h:ae) (K:Vl->ae->Prop):Prop:=
 ∃ st p0 t0 q0 assign body,h.getB l=some (.obj (.loop st p0 t0 q0 assign body))/\args.length=q0.length/\codeOk P assign=true/\codeOk P body=true /\
   rH P C W assign (iq t0 (q0.zip args)) h fun x1 e1 h1=>x1 = .normal /\ ∃ p1 t1 q1 a1 b1,h1.getB l=some (.obj (.loop .ready p1 t1 q1 a1 b1)) /\
    rH P C W body e1 (h1.setO l (.loop .busy p1 t1 q1 a1 b1)) fun x _ h2 => ∃ v h',gX l x h2=some (v,h')/\K v h'
end
def gH (P:Program) (D:Nat->Option (List Vl)):ae:=⟨P.globals.size,D,.nil,0⟩
def bU.closedQ {P:Program} {W:mr} (hW:WSound P W) {f:FuncId} (hf:f<P.funcs.size) {v:Vl} (hv:flat v=true) (D:Nat->Option (List Vl)) (hD : ∀ b cs,D b=some cs->bD cs=true)
  (hr:W f [] (gH P D) fun v' _=>v'=v) (s:List Vl->ae->aY) (hs : ∀ args h r,s args h=some r->args = []/\r=(v,h) /\ ∀ b cs,b<P.globals.size->D b=some cs->h.get b=some cs):bU P f s:=by
 have hgetB : ∀ b,P.globals.size<=b->(gH P D).getB b=none:=by intro b hb;simp only [ae.eZ];unfold gH;simp only [Nat.add_zero];rw [DL (by omega),DL (by omega)]
 have hbd:aE (gH P D):=by
  refine ⟨?_,?_⟩
  ·intro b k hk;have hk:=ae.aJ _ hk;by_cases hb:P.globals.size<=b
   ·rw [hgetB b hb] at hk;cases hk
   ·rw [ae.eZ] at hk;unfold gH at hk;simp only at hk;rw [DH (by omega)] at hk;cases hd:D b with
    |none=>rw [hd] at hk;cases hk
    |some cs=>
     rw [hd] at hk;cases hk;exact dh (hD b _ hd)
  ·intro b o hk;rw [hgetB b (ae.bS (h:=gH P D) hk)] at hk;cases hk
 refine ⟨hf,?_,?_,?_⟩
 ·intro args h v' h' e;obtain ⟨_,h2,_⟩:=hs _ _ _ e;cases h2;exact bH.refl _
 ·intro args h v' h' e _ hb;obtain ⟨_,h2,_⟩:=hs _ _ _ e;cases h2;exact ⟨je hv,hb⟩
 ·intro args h v' h' e _ hbh hg μ w args' S hfr r;obtain ⟨rfl,h2,hglob⟩:=hs _ _ _ e;cases h2;have ha:args' = []:=EC.1 r.1.symm;subst ha;have S0:cD (μ.cut P.globals.size) (gH P D) w:=by
   refine ⟨?_,?_,?_,?_,D9 hg S.size,?_⟩
   ·intro b cs hb hc;have hb':b<P.globals.size:=hb;have hgt:=hglob b cs hb' hc;have hold:h.old b=some cs:=by
     unfold ae.get at hgt;simp only [ae.eZ] at hgt;rw [DH (EX hb' hg)] at hgt;cases ho:h.old b with
     |none=>rw [ho] at hgt;cases hgt
     |some c=>rw [ho] at hgt;exact hgt
    obtain ⟨L,arr,T,fr,h2,h3,h4,h5,h6⟩:=S.old b cs (EX hb' hg) hold;refine ⟨L,arr,T,fr,Mu.eP h2 hb',h3,h4,h5,?_⟩;have hfl:=hD b cs hc;refine ⟨h6.1,fun i x y hx hy hh => ?_⟩;have:=h6.2 i x y hx hy hh;have hxf:=DQ.1 hfl x (D7 hx);rw [this.bG hxf];exact .flat hxf
   ·intro b k hb hk;have:=ae.aJ _ hk;rw [hgetB b hb] at this;cases this
   ·intro b k hb hk;rw [hgetB b hb] at hk;cases hk
   ·intro b b' k k' L L' hb _ _ hk;rw [hgetB b hb] at hk;cases hk
   ·intro b hb;obtain ⟨L,h2,h3⟩:=S.low b (EX hb hg);exact ⟨L,Mu.eP h2 hb,h3⟩
  have hno : ∀ B,¬Ci (μ.cut P.globals.size) (gH P D) B:=by rintro B ⟨b,k,L,hb,hk,_⟩;rw [hgetB b hb] at hk;cases hk
  have ht:Top (μ.cut P.globals.size) (gH P D):=fun b hb=>by have : ¬b<P.globals.size:=IW.2 hb;simp [Mu.cut,this]
  refine (hW.run _ _ _ _ hr hf rfl hbd (DG _) (μ.cut P.globals.size) w [] S0 ht (aT.nil _)).mono ?_;rintro e w' ⟨v0,h0,rfl,_,_,_,μ1,v1,rfl,S1,St,hv1⟩;have same : ∀ (B:Nat) (x:Obj),w.heap[B]? = some x->w'.heap[B]? = some x:=by intro B x hx;rw [St.same B (DT.1 hx).1 (hno B)];exact hx
  refine ⟨μ,v1,rfl,⟨?_,?_,?_,S.inj,D9 S.size St.size,S.low⟩,⟨fun _ _=>rfl,rfl,rfl,DG _,St.os,St.tape,St.output,St.size,fun B hB _=>St.same B hB (hno B),fun B hB => .inl hB,St.loops,St.drawn⟩,?_⟩
  ·intro b cs hb hc;obtain ⟨L,arr,T,fr,h2,h3,h4,h5,h6⟩:=S.old b cs hb hc;exact ⟨L,arr,T,fr,h2,h3,h4,same _ _ h5,h6⟩
  ·intro b k hb hk;obtain ⟨L,arr,T,fr,h2,h3,h4,h5⟩:=S.new b k hb hk;exact ⟨L,arr,T,fr,h2,h3,same _ _ h4,h5⟩
  ·intro b o hb hk;obtain ⟨L,ob,h2,h3,h4⟩:=S.obj b o hb hk;exact ⟨L,ob,h2,same _ _ h3,h4⟩
  ·rw [hv1.bG hv];exact .flat hv
def r9 {P:Program} {C D:ah} (hc : ∀ f args h r,C f args h=some r->D f args h=some r) {fn:Func} {args:List Vl} {h:ae} {r:Vl×ae} (e:bodyA P C fn args h=some r):aV P D fn args h=some r:=by rw [mS];exact lV qU (D:=fun _=>D) hc fn args h r e
structure Txt (P:Program) (f:FuncId) where
 t:ah->List Vl->ae->aY
 fn:Func
 i:bE P f fn
 e : ∀ C args h r,t C args h=some r->aV P C fn args h=some r
section
variable {P:Program} {f:FuncId} {fn:Func} (i:bE P f fn)
def tx0 {t:ah->ae->aY} (e : ∀ C h,aV P C fn [] h=t C h):Txt P f:=
 ⟨fun C args h=>match args with | []=>t C h|_=>none,fn,i,fun C args h r x=>by split at x;exact (e ..).trans x;cases x⟩
def tx1 {t:ah->Vl->ae->aY} (e : ∀ C x h,aV P C fn [x] h=t C x h):Txt P f:=
 ⟨fun C args h=>match args with | [x]=>t C x h|_=>none,fn,i,fun C args h r x=>by split at x;exact (e ..).trans x;cases x⟩
def tx2 {t:ah->Vl->Vl->ae->aY} (e : ∀ C x y h,aV P C fn [x,y] h=t C x y h):Txt P f:=
 ⟨fun C args h=>match args with | [x,y]=>t C x y h|_=>none,fn,i,fun C args h r x=>by split at x;exact (e ..).trans x;cases x⟩
def tx3 {t:ah->Vl->Vl->Vl->ae->aY} (e : ∀ C x y z h,aV P C fn [x,y,z] h=t C x y z h):Txt P f:=
 ⟨fun C args h=>match args with | [x,y,z]=>t C x y z h|_=>none,fn,i,fun C args h r x=>by split at x;exact (e ..).trans x;cases x⟩
end
inductive TxT (P:Program) where
 |fq (n:Nat) (t:Txt P n)
 |node (k:Nat) (l r:TxT P)
def TxT.get {P:Program} (t:TxT P):FuncId->Option (ah->List Vl->ae->aY):=
 TxT.rec (motive:=fun _=>FuncId->Option (ah->List Vl->ae->aY)) (fun n t f=>Bool.rec (motive:=fun _=>Option (ah->List Vl->ae->aY)) none (some t.t) (Nat.beq f n)) (fun k _ _ il ir f=>Bool.rec (motive:=fun _=>Option (ah->List Vl->ae->aY)) (ir f) (il f) (Nat.blt f k)) t
def TxT.ok {P:Program} : ∀ (t:TxT P) {f:FuncId} {s:ah->List Vl->ae->aY},t.get f=some s -> ∃ fn,bE P f fn /\ ∀ C args h r,s C args h=some r->aV P C fn args h=some r
 | .fq n t,f,s,e=>by
   have e':Bool.rec (motive:=fun _=>Option (ah->List Vl->ae->aY)) none (some t.t) (Nat.beq f n)=some s:=e;clear e;cases hb:Nat.beq f n with
   |false=>rw [hb] at e';cases e'
   |true=>
    rw [hb] at e';cases FW hb;cases e';exact ⟨t.fn,t.i,t.e⟩
 | .node k a b,f,s,e=>by
   have e:Bool.rec (motive:=fun _=>Option (ah->List Vl->ae->aY)) (b.get f) (a.get f) (Nat.blt f k)=some s:=e;cases hb:Nat.blt f k with
   |false=>rw [hb] at e;exact TxT.ok b e
   |true=>rw [hb] at e;exact TxT.ok a e
def callF_CC {P:Program} {ok:FuncId->Bool} {X:ah} {sm:FuncId->Bool} {T:FuncId->Option (ah->List Vl->ae->aY)} {fuel:Nat} (hfuel:fuel<=az) (hok : ∀ f fn,ok f=true->P.funcs[f]? = some fn->sH P fn=true)
  (hs : ∀ f args h,sm f=false->X f args h=none) (hT : ∀ f s,T f=some s -> ∃ fn,bE P f fn /\ ∀ C args h r,s C args h=some r->aV P C fn args h=some r) :
  ∀ (k:Nat) (f:FuncId) (args:List Vl) (h:ae) (r:Vl×ae),yg P ok X sm T fuel k f args h=some r->CC P X f args h=some r
 | 0,_,_,_,_,he=>by cases he
 |k+1,f,args,h,r,he=>by
  have ih:=callF_CC (sm:=sm) hfuel hok hs hT k;have he:(match sm f with
   |true=>X f args h
   |false=>match T f with
    |some t=>match Nat.ble P.globals.size h.n0 with
     |true=>t (yg P ok X sm T fuel k) args h
     |false=>none
    |none=>match ok f with
     |true=>match Nat.ble P.globals.size h.n0 with
      |true=>match P.funcs[f]? with
       |some fn=>bodyF P (yg P ok X sm T fuel k) fuel fn args h
       |none=>none
      |false=>none
     |false=>match Nat.ble P.funcs.size f&&Nat.ble P.globals.size h.n0 with
      |true=>roundF P (yg P ok X sm T fuel k) fuel (f-P.funcs.size) args h
      |false=>none)=some r:=he
  split at he
  ·exact CC_known he
  ·rename_i h0;have hX:=hs f args h h0;split at he
   ·rename_i t ht;split at he
    ·rename_i hg;obtain ⟨fn,i,e⟩:=hT f t ht;have:=e _ _ _ _ he;rw [mS] at this;exact tS i (EH hg) hX (r9 ih this)
    ·cases he
   ·split at he
    ·rename_i h1;split at he
     ·rename_i hg;split at he
      ·rename_i fn h3;have h2:=hok f fn h1 h3;have e:=bodyF_sound P _ fuel hfuel he;unfold sH at h2;rw [DD,GI] at h2;cases hb:fn.body with
       |none=>unfold bodyA at e;rw [hb] at e;cases e
       |some c=>
        rw [hb] at h2;have hp:aq fn []=c:=by unfold aq;rw [hb];rfl
        exact tS ⟨h3,h2.1,by rw [hb];rfl,by rw [hp];exact h2.2⟩ (EH hg) hX (r9 ih e)
      ·cases he
     ·cases he
    ·split at he
     ·rename_i h2;rw [DD] at h2;have hf:=EH h2.1;have e:=CX P _ fuel hfuel he;have hy:zh P (f-P.funcs.size)=f:=Nat.add_sub_cancel' hf;have:=CC_round (l:=f-P.funcs.size) (X:=X) (EH h2.2) (by rw [hy];exact hX) (jW qU (D:=fun _=>CC P X) ih _ args h r e)
      rwa [hy] at this
     ·cases he
section
variable {P:Program} {C D:ah} {K:Nat} (hD:bk P D) (hb : ∀ f args h r,K<=h.n0->C f args h=some r->D f args h=some r)
include hb
def opA_to (o:Oper) (ρ:Operand->Vl) (h:ae) (r:Vl×ae) (hG:K<=h.n0) (e:opA P C o ρ h=some r):opA P D o ρ h=some r:=by
 unfold opA at e |-;split at e;all_goals first
  |exact e
  |skip
 rename_i c _;cases hc:c.callee with
 |builtin b=>simp only [hc] at e |-;exact e
 |invoke a b=>simp only [hc] at e;cases e
 |value f=>
  simp only [hc] at e |-;unfold callA at e |-;split at e
  ·split at e
   ·rename_i hi;simp only [hi,DV];exact hb _ _ _ _ hG e
   ·cases e
  ·exact hb _ _ _ _ hG e
  ·cases e
omit hb in
def opA_read {o:Oper} (hk:(kindOf P o == .read)=true) (ρ:Operand->Vl) (h:ae):opA P C o ρ h=opA P D o ρ h:=by
 unfold kindOf at hk;unfold opA;split;all_goals first
  |rfl
  |skip
 rename_i c hc;rw [hc] at hk;simp only at hk;cases h1:c.callee with
 |builtin b=>rfl
 |invoke a b=>rfl
 |value f=>rw [h1] at hk;simp at hk
include hD
def CG (ops:Array Oper) : ∀ (l:List Oper) (e:aO) (h:ae) (r:aO×ae),K<=h.n0->opsA P C ops l e h=some r->opsA P D ops l e h=some r
 | [],e,h,r,_,x=>x
 |o::l,e,h,r,hG,x=>by
  simp only [opsA] at x |-;unfold stepA at x |-;by_cases hw:ki ops o e=true
  ·simp only [hw,DV] at x |-;cases ho:opA P C o (ev e) h with
   |none=>rw [ho] at x;cases x
   |some y=>
    rw [ho] at x;have h1:=opA_to hb o (ev e) h y hG ho;simp only [h1];exact CG ops l _ _ r (by rw [(kW hD h1).2.1];exact hG) x
  ·simp only [hw] at x |-;exact CG ops l _ _ r hG x
def uA (ops:Array Oper) : ∀ (l:List (Nat×Oper)) (e:aO) (h:ae) (r:List Ce×aO×ae),K<=h.n0->traceA P C ops l e h=some r->traceA P D ops l e h=some r
 | [],e,h,r,_,x=>x
 | (n,o)::l,e,h,r,hG,x=>by
   simp only [traceA] at x |-;by_cases hw:ki ops o e=true
   ·simp only [hw,DV] at x |-;cases ho:opA P C o (ev e) h with
    |none=>rw [ho] at x;cases x
    |some y=>
     rw [ho] at x;simp only at x;have h1:=opA_to hb o (ev e) h y hG ho;cases ht:traceA P C ops l (putD e o.dst y.1) y.2 with
     |none=>rw [ht] at x;cases x
     |some z=>
      rw [ht] at x;have h2:=uA ops l _ _ z (by rw [(kW hD h1).2.1];exact hG) ht;simp only [h1,h2];exact x
   ·simp only [hw] at x |-;cases ht:traceA P C ops l (putD e o.dst undef) h with
    |none=>rw [ht] at x;cases x
    |some z=>
     rw [ht] at x;have h2:=uA ops l _ _ z hG ht;simp only [h2];exact x
omit hD hb in
def dynOk_to (ops:Array Oper) (l:List (Nat×Oper)) (tr:List Ce) (hEnd:ae) (x:dynOk P C ops l tr hEnd=true):dynOk P D ops l tr hEnd=true:=by
 unfold dynOk at x |-;simp only [DQ] at x |-;intro a ha;have hx:=x a ha;rw [FI] at hx |-;rcases hx with hx|hx
 ·exact .inl hx
 ·by_cases hk:(kindOf P a.1.1.2 == .read)=true
  ·refine .inr ?_;rw [DQ] at hx |-;intro y hy;have:=hx y hy;rw [FI] at this |-;rcases this with h|h
   ·exact .inl h
   ·refine .inr ?_;split at h
    ·rename_i g hg;rw [<-opA_read (C:=C) hk];exact h
    ·cases h
  ·refine .inl ?_;simp only [HU] at hk;rw [hk];rfl
def regionA_to (ops:Array Oper) (d:Bool) (e:aO) (h:ae) (r:aO×ae) (hG:K<=h.n0) (x:regionA P C ops d e h=some r):regionA P D ops d e h=some r:=by
 unfold regionA at x |-;cases d with
 |false=>exact CG hD hb ops _ e h r hG x
 |true=>
  simp only [DV] at x |-;split at x
  ·rename_i hs;simp only [hs,DV];split at x
   ·rename_i tr e1 h1 ht;split at x
    ·rename_i hd;have a:=uA hD hb ops _ e h _ hG ht;have b:=dynOk_to (D:=D) ops _ tr h1 hd;simp only [a,b,DV];exact x
    ·cases x
   ·cases x
  ·cases x
omit hD hb in
def iter_to {s t:aO->ae->Option (Ex×aO×ae)} (hs : ∀ e h r,K<=h.n0->s e h=some r->t e h=some r) (hg : ∀ e h x e' h',t e h=some (x,e',h')->bH h h') :
  ∀ (n:Nat) (e:aO) (h:ae) (r:Ex×aO×ae),K<=h.n0->iter s n e h=some r->iter t n e h=some r
 | 0,_,_,_,_,x=>by cases x
 |n+1,e,h,r,hG,x=>by
  simp only [iter] at x |-;split at x
  ·rename_i e1 h1 h2;have a:=hs _ _ _ hG h2;simp only [a];exact iter_to hs hg n _ _ r (by rw [(hg _ _ _ _ _ a).2.1];exact hG) x
  ·rename_i hn;have a:=hs _ _ _ hG x;simp only [a];obtain ⟨ex,e1,h1⟩:=r;cases ex with
   |normal=>exact absurd x (hn e1 h1)
   |ret=>rfl
   |exit j=>rfl
def fH : ∀ (c:Code) (e:aO) (h:ae) (r:Ex×aO×ae),K<=h.n0->codeA P C c e h=some r->codeA P D c e h=some r
 | .skip,e,h,r,_,x=>x
 | .region _ ops d,e,h,r,hG,x=>by
   simp only [codeA] at x |-;split at x
   ·rename_i e1 h1 h2;simp only [regionA_to hD hb ops d e h _ hG h2];exact x
   ·cases x
 | .seq a b,e,h,r,hG,x=>by
   simp only [codeA] at x |-;split at x
   ·rename_i e1 h1 h2;have p:=fH a e h _ hG h2;simp only [p];exact fH b _ _ r (by rw [(bV hD a p).2.1];exact hG) x
   ·rename_i hn;have p:=fH a e h _ hG x;simp only [p];obtain ⟨ex,e1,h1⟩:=r;cases ex with
    |normal=>exact absurd x (hn e1 h1)
    |ret=>rfl
    |exit j=>rfl
 | .cond c a b,e,h,r,hG,x=>by
   simp only [codeA] at x |-;split at x
   ·exact fH a e h r hG x
   ·exact fH b e h r hG x
   ·cases x
 | .block j b,e,h,r,hG,x=>by
   simp only [codeA] at x |-;split at x
   ·rename_i k e1 h1 h2;simp only [fH b e h _ hG h2];exact x
   ·rename_i hn;have p:=fH b e h _ hG x;simp only [p];obtain ⟨ex,e1,h1⟩:=r;cases ex with
    |exit k=>exact absurd x (hn k e1 h1)
    |ret=>rfl
    |normal=>rfl
 | .loop b,e,h,r,hG,x=>by simp only [codeA] at x |-;exact iter_to (fun e h r y=>fH b e h r y) (fun _ _ _ _ _ h=>bV hD b h) az e h r hG x
 | .exit _,e,h,r,_,x=>x
 | .scope b,e,h,r,hG,x=>by simp only [codeA] at x |-;exact fH b e h r hG x
 | .label _,e,h,r,_,x=>x
 | .ret,e,h,r,_,x=>x
 | .goto _,e,h,r,_,x=>by cases x
 | .rangeFunc g ps a b,e,h,r,hG,x=>by
   simp only [codeA] at x |-;split at x
   ·rename_i i first captured hev
    split at x
    ·rename_i hi;split at x
     ·rename_i v h2 hc;simp only [hi,DV,hb _ _ _ _ (by simpa using hG) hc];exact x
     ·cases x
    ·cases x
   ·cases x
 | .refuse _,e,h,r,_,x=>by cases x
def roundA_to (l:Nat) (args:List Vl) (h:ae) (r:Vl×ae) (hG:K<=h.n0) (x:roundA P C l args h=some r):roundA P D l args h=some r:=by obtain ⟨v,h'⟩:=r;obtain ⟨st,p0,t0,q0,assign,body,e1,h1,p1,t1,q1,a1,b1,ex,e2,h2,hg,hlen,ho1,ho2,hca,hg1,hcb,hend⟩:=jS x;have c1:=fH hD hb assign _ _ _ hG hca;have c2:=fH hD hb body _ _ _ (by rw [ae.BU,(bV hD _ c1).2.1];exact hG) hcb;unfold roundA;rw [hg];simp only;rw [DH ⟨hlen,ho1,ho2⟩,c1];simp only;rw [hg1];simp only;rw [c2];exact hend
def bodyA_to (fn:Func) (args:List Vl) (h:ae) (r:Vl×ae) (hG:K<=h.n0) (x:bodyA P C fn args h=some r):bodyA P D fn args h=some r:=by
 unfold bodyA at x |-;cases hb':fn.body with
 |none=>rw [hb'] at x;cases x
 |some c=>
  rw [hb'] at x;simp only at x |-;cases hc:codeA P C c (args++List.replicate (fn.ntmps-args.length) undef) h with
  |none=>rw [hc] at x;cases x
  |some y=>
   rw [hc] at x;simp only [fH hD hb c _ _ y hG hc];exact x
end
def callU (P:Program) (X:ah):Nat->ah
 | 0,f,args,h=>X f args h
 |k+1,f,args,h=>match X f args h with
  |some r=>some r
  |none=>match P.funcs[f]? with
   |some fn=>if sH P fn then bodyA P (callU P X k) fn args h else none
   |none=>roundA P (callU P X k) (f-P.funcs.size) args h
def yV {P:Program} {X:ah} (hm:P.follows .mixedOrders=true) (hX:bk P X) : ∀ (n:Nat) (f:FuncId) (args:List Vl) (h:ae) (r:Vl×ae),P.globals.size<=h.n0->callU P X n f args h=some r->callX P X n f args h=some r
 | 0,f,args,h,r,_,x=>x
 |n+1,f,args,h,r,hG,x=>by
  have hs:=iM hm hX n;unfold callU at x;unfold callX;split at x
  ·rename_i y hy
   (try rw [hy])
   exact x
  ·rename_i hX'
   (try rw [hX'])
   (try simp only)
   rw [DH (FM hG)];split at x
   ·rename_i fn hf
    (try rw [hf])
    (try simp only)
    split at x
    ·rename_i hk
     (try rw [DH hk])
     exact bodyA_to hs (yV hm hX n) fn args h r hG x
    ·cases x
   ·rename_i hf
    (try rw [hf])
    exact roundA_to hs (yV hm hX n) _ args h r hG x
def sx {P:Program} {X:ah} : ∀ (n:Nat) (f:FuncId) (args:List Vl) (h:ae) (r:Vl×ae),callU P X n f args h=some r->callU P X (n+1) f args h=some r
 | 0,f,args,h,r,x=>by have x:X f args h=some r:=x;simp only [callU,x]
 |n+1,f,args,h,r,x=>by
  unfold callU at x |-;split at x
  ·exact x
  ·rename_i hX;split at x
   ·rename_i fn hf;split at x
    ·rename_i hk;rw [DH hk];exact lV (ι:=Unit) qU (D:=fun _=>callU P X (n+1)) (fun f args h r e=>sx n f args h r e) fn args h r x
    ·cases x
   ·exact jW (ι:=Unit) qU (D:=fun _=>callU P X (n+1)) (fun f args h r e=>sx n f args h r e) _ args h r x
def rS {P:Program} {X:ah} {n m:Nat} (hm:n<=m) {f:FuncId} {args:List Vl} {h:ae} {r:Vl×ae} (x:callU P X n f args h=some r):callU P X m f args h=some r:=by
 obtain ⟨k,rfl⟩ : ∃ k,m=n+k:=⟨m-n,by omega⟩
 clear hm;induction k with
 |zero=>exact x
 |succ k ih=>exact sx _ _ _ _ _ ih
open Classical in
def CU (P:Program) (X:ah):ah:=fun f args h=>if e : ∃ n,(callU P X n f args h).isSome then callU P X e.choose f args h else none
def CU_spec {P:Program} {X:ah} {f:FuncId} {args:List Vl} {h:ae} {r:Vl×ae} (e:CU P X f args h=some r) : ∃ n,callU P X n f args h=some r:=by
 unfold CU at e;split at e
 ·exact ⟨_,e⟩
 ·cases e
def CU_of {P:Program} {X:ah} {n:Nat} {f:FuncId} {args:List Vl} {h:ae} {r:Vl×ae} (e:callU P X n f args h=some r):CU P X f args h=some r:=by
 have hx : ∃ n,(callU P X n f args h).isSome:=⟨n,by rw [e];rfl⟩
 unfold CU;rw [dif_pos hx];have h2:=hx.choose_spec;rw [E9] at h2;obtain ⟨r2,h2⟩:=h2;have h3:=rS (Nat.le_max_left n hx.choose) e;have h4:=rS (Nat.le_max_right n hx.choose) h2;rw [h2,<-h3,h4]
def yw {P:Program} {X:ah} {f:FuncId} {args:List Vl} {h:ae} {r:Vl×ae} (e:X f args h=some r):CU P X f args h=some r:=CU_of (n:=0) e
def CU_base {P:Program} {X:ah} (f:FuncId) (args:List Vl) (h:ae) (r:Vl×ae) (e:CU P X f args h=some r):nH.p fun n=>callU P X n f args h=some r:=by obtain ⟨n,hn⟩:=CU_spec e;exact ⟨n,fun m hm=>rS hm hn⟩
def Cp {P:Program} {X:ah} {f:FuncId} {fn:Func} (i:bE P f fn) {args:List Vl} {h:ae} {r:Vl×ae} (hX:X f args h=none)
  (e:aV P (CU P X) fn args h=some r):CU P X f args h=some r:=by
 rw [mS] at e;obtain ⟨n,hn⟩:=lV nH (D:=callU P X) CU_base fn args h r e;have hok:sH P fn=true:=by unfold sH;rw [i.name,i.body];simp only [EG,EU];exact i.ok
 refine CU_of (n:=n+1) ?_;unfold callU;rw [hX];simp only;rw [i.at_];simp only;rw [DH hok];exact hn n (DG _)
def CU_round {P:Program} {X:ah} {l:Nat} {args:List Vl} {h:ae} {r:Vl×ae} (hX:X (zh P l) args h=none)
  (e:roundA P (CU P X) l args h=some r):CU P X (zh P l) args h=some r:=by
 obtain ⟨n,hn⟩:=jW nH (D:=callU P X) CU_base l args h r e;refine CU_of (n:=n+1) ?_;unfold callU;rw [hX];simp only;rw [show P.funcs[zh P l]? = none from FQ (HL _ _)];simp only;rw [show zh P l-P.funcs.size=l from FY _ _];exact hn n (DG _)
def CU_to {P:Program} {X:ah} (hm:P.follows .mixedOrders=true) (hX:bk P X) {f:FuncId} {args:List Vl} {h:ae} {r:Vl×ae} (hG:P.globals.size<=h.n0) (e:CU P X f args h=some r):CC P X f args h=some r:=by obtain ⟨n,e⟩:=CU_spec e;exact CC_of (yV hm hX n f args h r hG e)
def BA:Code->Code
 | .rangeFunc _ _ a _=>a
 |c=>c
def Bs:Code->Code
 | .rangeFunc _ _ _ b=>b
 |c=>c
def code_range {P:Program} {C:ah} {c:Code} {g:Operand} {ps:Array Tmp} {e:aO} {h h2:ae} {i:FuncId} {first captured:Array Vl} {v:Vl} (hc0:c = .rangeFunc g ps (BA c) (Bs c))
  (hv:ev e g = .func (.func i) first captured) (hb:hasBody P i=true) (hc:C i (first.toList ++ [.func (.yield h.next) #[] #[]]++captured.toList) (h.ba (.obj (.loop .ready none e ps.toList (BA c) (Bs c))))=some (v,h2)) :
  codeA P C c e h=endLoopA h.next e h2:=by
 rw [hc0];simp only [codeA,hv,hb,DV];rw [hc]
def Ad (h:ae) (L:Nat) (e:aO) (ps:List Tmp) (a b:Code):Prop:=h.getB L=some (.obj (.loop .ready none e ps a b))
def Ad.new (h:ae) (e:aO) (ps:List Tmp) (a b:Code):Ad (h.ba (.obj (.loop .ready none e ps a b))) h.next e ps a b:=by unfold Ad;rw [ae.bK,DH rfl]
def au.allocO (h:ae) (o:fF) (B:Nat->Prop):au h (h.ba (.obj o)) B:=
 ⟨rfl,by simp,fun c hc _=>by rw [ae.bK,DL (by omega)]⟩
def au.setO {h:ae} {L:Nat} {o o':fF} {B:Nat->Prop} (hg:h.getB L=some (.obj o)) (hB:B L):au h (h.setO L o') B:=
 ⟨rfl,by simp,fun c hc hn=>by
  by_cases e:c=L
  ·subst e;exact absurd hB hn
  ·exact ae.fK (h.bS hg) (h.lt_of_getB hg) _ e⟩
def Ad.keep {h h':ae} {L:Nat} {e:aO} {ps:List Tmp} {a b:Code} {B:Nat->Prop} (x:Ad h L e ps a b) (k:au h h' B) (hB : ¬B L):Ad h' L e ps a b:=au.obj k x hB
def Ad.fin {h:ae} {L:Nat} {e e0:aO} {ps:List Tmp} {a b:Code} (x:Ad h L e ps a b) : ∃ h',endLoopA L e0 h=some (.normal,e0,h')/\au h h' (· = L)/\h'.next=h.next:=by unfold Ad at x;refine ⟨h.setO L (.loop .exhausted none e ps a b),?_,au.setO x rfl,rfl⟩;unfold endLoopA;rw [x];rfl
def Ad.round {P:Program} {C:ah} {h h1 h2:ae} {L:Nat} {e e1 e2:aO} {ps:List Tmp} {a b:Code} {args:List Vl} (x:Ad h L e ps a b) (hl:args.length=ps.length) (oa:codeOk P a=true) (ob:codeOk P b=true)
  (ha:codeA P C a (iq e (ps.zip args)) h=some (.normal,e1,h1)) {B:Nat->Prop} (k1:au h h1 B) (hB : ¬B L)
  (hb:codeA P C b e1 (h1.setO L (.loop .busy none e ps a b))=some (.normal,e2,h2)) (k2:au (h1.setO L (.loop .busy none e ps a b)) h2 B) :
  ∃ h3,roundA P C L args h=some (.bool true,h3)/\Ad h3 L e ps a b/\h3.next=h2.next/\h3.n0=h.n0/\(∀ c,h3.get c=h2.get c)/\(∀ c,c≠L->h3.getB c=h2.getB c):=by
 have y:h1.getB L=some (.obj (.loop .ready none e ps a b)):=k1.obj x hB;have z:(h1.setO L (.loop .busy none e ps a b)).getB L=some (.obj (.loop .busy none e ps a b)):=ae.fh (h1.bS y) y _;have w:h2.getB L=some (.obj (.loop .busy none e ps a b)):=k2.obj z hB;refine ⟨h2.setO L (.loop .ready none e ps a b),?_,ae.fh (h2.bS w) w _,rfl,?_,fun c=>ae.get_setO w _ c,fun c hc=>ae.fK (h2.bS w) (h2.lt_of_getB w) _ hc⟩
 ·unfold Ad at x;unfold roundA;rw [x];simp only;rw [DH ⟨hl,oa,ob⟩,ha];simp only;rw [y];simp only;rw [hb];simp only;unfold gX;rw [w];rfl
 ·show h2.n0=h.n0;rw [k2.n0];exact k1.n0
def mkF_set (n:Nat) (x:Nat->Vl) (t:Nat) (v:Vl):(aS n x).set t v=aS n (up x [(t,v)]):=by
 refine FC fun j => ?_;unfold aS;rw [FU,D4,D4,EB,List.length_range];by_cases hj:j<n
 ·rw [FZ hj];by_cases e:t=j
  ·subst e;rw [DH rfl,DH hj,Option.map_some,jj,DH rfl]
  ·rw [DL e,Option.map_some,Option.map_some,jj,DL e,mL]
 ·rw [EN (l:=List.range n) (by rw [List.length_range];omega)];by_cases e:t=j
  ·subst e;rw [DH rfl,DL hj];rfl
  ·rw [DL e];rfl
def ev_mkF {n t:Nat} (ht:t<n) (x:Nat->Vl):ev (aS n x) (.tmp t)=x t:=by show (aS n x).getD t undef=x t;unfold aS;rw [DK,D4,FZ ht];rfl
def over (A B:ah):ah:=fun f args h=>match A f args h with|some r=>some r|none=>B f args h
def rh {A B:ah} {f:FuncId} {args:List Vl} {h:ae} {r:Vl×ae} (e:over A B f args h=some r):A f args h=some r\/(A f args h=none/\B f args h=some r):=by
 unfold over at e;split at e
 ·rename_i h1;exact .inl (h1.trans e)
 ·rename_i h1;exact .inr ⟨h1,e⟩
def over_sound {P:Program} {A B:ah} (hA:bk P A) (hB:bk P B):bk P (over A B):=by
 refine ⟨?_,?_,?_,?_⟩
 ·intro f args h v h' e;rcases rh e with e|⟨_,e⟩
  ·exact hA.grow _ _ _ _ _ e
  ·exact hB.grow _ _ _ _ _ e
 ·intro f args h v h' e;rcases rh e with e|⟨_,e⟩
  ·exact hA.bd _ _ _ _ _ e
  ·exact hB.bd _ _ _ _ _ e
 ·intro f args h v h' e;rcases rh e with e|⟨_,e⟩
  ·exact hA.run _ _ _ _ _ e
  ·exact hB.run _ _ _ _ _ e
 ·intro f args h v h' e;rcases rh e with e|⟨_,e⟩
  ·exact hA.round _ _ _ _ _ e
  ·exact hB.round _ _ _ _ _ e
def only (S:List Nat) (A:ah):ah:=fun f args h=>if S.contains f=true then A f args h else none
def qG {S:List Nat} {A:ah} {f:FuncId} {args:List Vl} {h:ae} {r:Vl×ae} (e:only S A f args h=some r):A f args h=some r:=by
 unfold only at e;split at e
 ·exact e
 ·cases e
def only_sound {P:Program} {S:List Nat} {A:ah} (hA:bk P A):bk P (only S A):=
 ⟨fun _ _ _ _ _ e=>hA.grow _ _ _ _ _ (qG e),fun _ _ _ _ _ e=>hA.bd _ _ _ _ _ (qG e),fun _ _ _ _ _ e=>hA.run _ _ _ _ _ (qG e),fun _ _ _ _ _ e=>hA.round _ _ _ _ _ (qG e)⟩
section
variable {P:Program} {X Y:ah} {S:List Nat}
end
section
variable {P:Program} {C:ah} {K:Ex->aO->ae->Prop}
end
section
variable {P:Program} {C:ah}
def WW (P:Program) (C:ah):Nat->mr
 | 0=>ofC C
 |n+1=>fun f args h K=>ofC C f args h K\/(∃ fn,bE P f fn/\P.globals.size<=h.n0/\bodyW P C (WW P C n) fn args h K)\/(P.funcs.size<=f/\P.globals.size<=h.n0/\roundW P C (WW P C n) (f-P.funcs.size) args h K)
structure MapG (h:ae) (b:Nat) (es:List (Vl×Vl×Nat)) (ck:Nat):Prop where
 get:h.getB b=some (.obj (.map es ck))
 nd:(es.map (·.2.2)).Nodup
 lt : ∀ e∈es,e.2.2<ck
end
section
open Go.RowKit
def nice (n:Nat):Vl->Bool
 | .pointer (some ⟨b,_,none⟩)=>decide (b<n)
 | .slice (some ⟨b,_,none⟩) _ _=>decide (b<n)
 |v=>flat v
def clean (n:Nat) (v:Vl):Vl:=
 if nice n v then v else match v with
  | .slice (some _) 0 0 => .slice (some ⟨0,0,some 0⟩) 0 0
  |_ => .chan (some 0)
def view (W:World) (b:Nat):Option (List Vl):=
 match W.heap[b]? with
 |some (.cells arr _ _)=>some (arr.toList.map (clean W.heap.size))
 |_=>none
def nice_rel {W:World} {v:Vl} (h:nice W.heap.size v=true):aF (mm W) v v:=by
 unfold nice at h;split at h
 ·rename_i b off;simp only [DR] at h;have hm:mm W b=some ⟨b,0,0,0⟩:=by unfold mm;rw [DH h]
  have:=aF.ptr (off:=off) hm;simpa using this
 ·rename_i b off l c;simp only [DR] at h;have hm:mm W b=some ⟨b,0,0,0⟩:=by unfold mm;rw [DH h]
  have:=aF.slice (off:=off) (len:=l) (cap:=c) hm;simpa using this
 ·exact .flat h
def nice_bd {n:Nat} {v:Vl} (h:nice n v=true):b9 n v=true:=by
 unfold nice at h;split at h
 ·simpa [b9] using h
 ·simpa [b9] using h
 ·exact je h
def vf {W:World} {v:Vl} (h:bW (clean W.heap.size v)=false):aF (mm W) (clean W.heap.size v) v:=by
 unfold clean at h |-;split at h
 ·rename_i hn;rw [DH hn];exact nice_rel hn
 ·rename_i hn;rw [DL hn];split at h
  ·exact .zA
  ·simp [bW] at h
def yD {n:Nat} {v:Vl} (hn:0<n):b9 n (clean n v)=true:=by
 unfold clean;split
 ·rename_i h;exact nice_bd h
 ·split
  ·simpa [b9] using hn
  ·rfl
def view_sim (W:World):cD (mm W) (fy W (view W)) W:=by
 refine ⟨?_,?_,?_,?_,DG _,?_⟩
 ·intro b cs hb hc;have hb2:b<W.heap.size:=hb;have hc2:view W b=some cs:=hc;unfold view at hc2;split at hc2
  ·rename_i arr T fr hg;cases hc2;refine ⟨⟨b,0,0,0⟩,arr,T,fr,by unfold mm;rw [DH hb2],rfl,rfl,hg,?_,?_⟩
   ·simp
   ·intro i x y hx hy hh;rw [D4,DJ] at hx;obtain ⟨z,hz,rfl⟩:=hx;rw [EB,D3 (DG _),hz] at hy;cases hy;exact vf hh
  ·cases hc2
 ·intro b k hb hk;rw [Ct W _ hb] at hk;cases hk
 ·intro b k hb hk;rw [jR W _ hb] at hk;cases hk
 ·intro b b' k k' L L' hb _ _ hk;rw [jR W _ hb] at hk;cases hk
 ·intro b hb;have hb2:b<W.heap.size:=hb;exact ⟨⟨b,0,0,0⟩,by unfold mm;rw [DH hb2],rfl,rfl⟩
def xn (W:World) (b:Nat):(fy W (view W)).get b=view W b:=by
 unfold ae.get;simp only [ae.eZ];unfold fy;simp only [Nat.add_zero];by_cases hb:b<W.heap.size
 ·rw [DH hb];cases view W b<;>rfl
 ·rw [DL hb,DL hb];unfold view;rw [FQ (by omega)];rfl
def view_obj (W:World) (b:Nat) (o:fF):(fy W (view W)).getB b≠some (.obj o):=fun hk=>by have h0:=ae.bS (h:=fy W (view W)) hk;rw [jR W _ h0] at hk;cases hk
def view_bd (W:World):aE (fy W (view W)):=by
 refine ⟨?_,fun b o hk=>absurd hk (view_obj W b o)⟩;intro b k hk;rw [xn] at hk;have hn:(fy W (view W)).next=W.heap.size:=rfl;rw [hn];unfold view at hk;split at hk
 ·rename_i arr T fr hg;cases hk;have hpos:0<W.heap.size:=by have:=(DT.1 hg).1;omega
  rw [eX];intro x hx;obtain ⟨y,_,rfl⟩:=EZ.1 hx;exact yD hpos
 ·cases hk
def Bj {W:World} {a:Addr} {v:Vl} (h:W.cell? a=some v):a.spot=none/\a.block<W.heap.size /\ ∃ k,view W a.block=some k/\k[a.off]? = some (clean W.heap.size v):=by
 unfold World.cell? at h;split at h
 ·rename_i c T fr hg;split at h
  ·cases h
  ·rename_i hs;refine ⟨by simpa using hs,(DT.1 hg).1,c.toList.map (clean W.heap.size),?_,?_⟩
   ·unfold view;rw [hg]
   ·rw [D4,Array.getElem?_toList,h];rfl
 ·cases h
end
end
end Go.Abs
namespace Go.Abs
open Go
noncomputable section
section
variable {P:Program}
def sD (D:Nat->Option (List Vl)) {b:Nat} (hb:P.globals.size<=b):(gH P D).getB b=none:=by simp only [ae.eZ];unfold gH;simp only [Nat.add_zero];rw [DL (by omega),DL (by omega)]
def bareG_bd (D:Nat->Option (List Vl)) (hD : ∀ b cs,D b=some cs->bD cs=true):aE (gH P D):=by
 refine ⟨?_,?_⟩
 ·intro b k hk;have hk:=ae.aJ _ hk;by_cases hb:P.globals.size<=b
  ·rw [sD D hb] at hk;cases hk
  ·rw [ae.eZ] at hk;unfold gH at hk;simp only at hk;rw [DH (by omega)] at hk;cases hd:D b with
   |none=>rw [hd] at hk;cases hk
   |some cs=>
    rw [hd] at hk;cases hk;exact dh (hD b _ hd)
 ·intro b o hk;rw [sD D (ae.bS (h:=gH P D) hk)] at hk;cases hk
def bU.closedB {W:mr} (hW:WSound P W) {f:FuncId} (hf:f<P.funcs.size) (D:Nat->Option (List Vl)) (hD : ∀ b cs,D b=some cs->bD cs=true)
  {k0 k1 k2:eh} (f0:bD k0=true) (f1:bD k1=true) (f2:bD k2=true) {a0:List Vl} (ha0:cT (P.globals.size+1) a0=true) {v0:Vl} {B:Nat} (hB:P.globals.size<B)
  (hr:W f a0 ((gH P D).alloc k0) fun v g=>v=v0/\g.get P.globals.size=some k1/\g.get B=some k2) (s:List Vl->ae->aY)
  (hs : ∀ args h r,s args h=some r -> ∃ fb v,args=nt (ren1 P.globals.size fb) a0/\h.n0<=fb/\h.get fb=some k0/\r=(v,(h.set fb k1).alloc k2)/\b9 (h.next+1) v=true/\(∀ n,v0=ft (fun b=>if b=h.next then B else n+b) v) /\
   ∀ b cs,b<P.globals.size->D b=some cs->h.get b=some cs):bU P f s:=by
 refine ⟨hf,?_,?_,?_⟩
 ·intro args h v h' e;obtain ⟨fb,v1,_,_,_,h2,_⟩:=hs _ _ _ e;cases h2;exact ⟨by simp,by simp,by simp⟩
 ·intro args h v h' e _ hb;obtain ⟨fb,v1,_,h0,hg,h2,h3,_⟩:=hs _ _ _ e;cases h2;refine ⟨by simpa using h3,aE.alloc ?_ (dh f2)⟩;exact hb.ru h0 (h.aL hg) (fun k e=>by cases e;exact dh f1) (fun o e=>by cases e)
 ·intro args h v h' e _ hbh hg μ w args' S hfr r;obtain ⟨fb,v1,rfl,hfb,hkb,h2,_,hv,hglob⟩:=hs _ _ _ e;cases h2;generalize hG:P.globals.size=G at *;have hfn:=h.aL hkb;have hnn:=h.n0_le_next;obtain ⟨Lf,arr,T,fr,q1,q2,q3,q4,q5,q6,q7,q8⟩:=S.new fb k0 hfb hkb
  let μ0:Mu:=fun b=>if b<G then μ b else if b=G then μ fb else none
  let g0:=(gH P D).alloc k0
  have gn:(gH P D).next=G:=hG;have g0n:g0.n0=G:=hG;have gG : ∀ b,G<=b->g0.getB b=if b=G then some (.cells k0) else none:=fun b hb=>by
   show ((gH P D).alloc k0).getB b=_;rw [ae.dg,gn];split
   ·rfl
   ·exact sD D (hG▸hb)
  have gg : ∀ b,G<=b->g0.get b=if b=G then some k0 else none:=fun b hb=>by unfold ae.get;rw [gG b hb];split<;>rfl
  have m0:μ0 G=some Lf:=by simp [μ0,q1]
  have S0:cD μ0 g0 w:=by
   refine ⟨?_,?_,?_,?_,D9 (g0n▸hg) S.size,?_⟩
   ·intro b cs hb hc;have hb':b<G:=g0n▸hb;have hgt:=hglob b cs hb' hc;have hold:h.old b=some cs:=by
     unfold ae.get at hgt;simp only [ae.eZ] at hgt;rw [DH (EX hb' hg)] at hgt;cases ho:h.old b with
     |none=>rw [ho] at hgt;cases hgt
     |some c=>rw [ho] at hgt;exact hgt
    obtain ⟨L,arr,T,fr,h2,h3,h4,h5,h6⟩:=S.old b cs (EX hb' hg) hold;refine ⟨L,arr,T,fr,by simp [μ0,hb',h2],h3,h4,h5,?_⟩;have hfl:=hD b cs hc;refine ⟨h6.1,fun i x y hx hy hh => ?_⟩;have:=h6.2 i x y hx hy hh;have hxf:=DQ.1 hfl x (D7 hx);rw [this.bG hxf];exact .flat hxf
   ·intro b k hb hk;rw [gg b (g0n▸hb)] at hk;split at hk
    ·rename_i e1;cases hk;subst e1;refine ⟨Lf,arr,T,fr,m0,q2,q3,q4,q5,q6,?_,?_⟩
     ·rw [g0n];exact D9 hg q7
     ·rw [q8.bG f0];exact .gQ f0
    ·cases hk
   ·intro b k hb hk;rw [gG b (g0n▸hb)] at hk;split at hk<;>cases hk
   ·intro b b' k k' L L' hb hb' hne hk hk';rw [gG b (g0n▸hb)] at hk;rw [gG b' (g0n▸hb')] at hk';split at hk
    ·split at hk'
     ·omega
     ·cases hk'
    ·cases hk
   ·intro b hb;have hb':b<G:=g0n▸hb;obtain ⟨L,h2,h3⟩:=S.low b (EX hb' hg);exact ⟨L,by simp [μ0,hb',h2],h3⟩
  have g0x:g0.next=G+1:=by show (gH P D).next+1=_;rw [gn]
  have ht:Top μ0 g0:=fun b hb=>by rw [g0x] at hb;simp only [μ0];rw [DL (by omega),DL (by omega)]
  have hbd:aE g0:=(bareG_bd D hD).alloc (dh f0);have rA:aT μ0 a0 args':=by
   have:=(aT.mf _ r).cut ha0;refine this.mono fun b L hb => ?_;obtain ⟨x1,x2⟩:=Mu.yU hb;simp only [μ0];by_cases c:b=G
   ·subst c;rw [DL (GZ _),DH rfl];simpa [ren1] using x1
   ·rw [DH (by omega)];simpa [ren1,c] using x1
  have own0 : ∀ X,Ci μ0 g0 X->X=Lf.blk:=by
   rintro X ⟨b,k,L,hb,hk,hL,hX⟩;rw [gG b (g0n▸hb)] at hk;split at hk
   ·rename_i e1;subst e1;rw [m0] at hL;cases hL;exact hX.symm
   ·cases hk
  refine (hW.run _ _ _ _ hr hf (by rw [g0x];exact ha0) hbd (by rw [hG,g0n];exact DG _) μ0 w args' S0 ht rA).mono ?_;rintro e w' ⟨v2,g1,⟨rfl,x1,x2⟩,gr,_,_,μ1,v3,rfl,S1,St,hv1⟩;have g1n:g1.n0=G:=gr.2.1.trans g0n;have m1:μ1 G=some Lf:=by rw [St.ext G (.inl (by rw [g0x];omega))];exact m0
  obtain ⟨L2,ar2,T2,fr2,z1,z2,z3,z4,z5,z6,z7,z8⟩:=S1.new B k2 (by rw [g1n];omega) x2;obtain ⟨L1,ar1,T1,fr1,y1,y2,y3,y4,y5,y6,y7,y8⟩:=S1.new G k1 (by rw [g1n];omega) x1;rw [m1] at y1;cases y1;have new2:w.heap.size<=L2.blk:=by
   rcases St.own L2.blk ⟨B,_,L2,by rw [g1n];omega,g1.aJ x2,z1,rfl⟩ with c|c
   ·exact absurd (own0 _ c).symm (S1.inj G B _ _ _ _ (by rw [g1n];omega) (by rw [g1n];omega) (by omega) (g1.aJ x1) (g1.aJ x2) m1 z1)
   ·exact c
  have same : ∀ X,X<w.heap.size->X≠Lf.blk->w'.heap[X]? = w.heap[X]? := fun X hX hne=>St.same X hX fun hO=>hne (own0 X hO)
  let μ':Mu:=fun b=>if b=h.next then μ1 B else μ b
  have hnx:μ h.next=none:=hfr _ (DG _) (by simp);have up : ∀ b L,μ b=some L->μ' b=some L:=fun b L hb=>by simp only [μ'];rw [DL (fun c=>by rw [c,hnx] at hb;cases hb)];exact hb
  have ml : ∀ b,b<h.next->μ' b=μ b:=fun b hb=>by simp only [μ'];rw [DL (by omega)]
  have mn:μ' h.next=some L2:=by simp only [μ',DV];exact z1
  have gget : ∀ b k,((h.set fb k1).alloc k2).getB b=some k->(b=h.next/\k = .cells k2)\/(b=fb/\k = .cells k1)\/(b≠fb/\b<h.next/\h.getB b=some k):=by
   intro b k hk;rw [ae.dg,ae.next_set] at hk;split at hk
   ·cases hk;exact .inl ⟨‹_›,rfl⟩
   ·by_cases c:b=fb
    ·rw [c,ae.jK hfb hkb] at hk;cases hk;exact .inr (.inl ⟨c,rfl⟩)
    ·rw [ae.cj hfb hfn _ c] at hk;exact .inr (.inr ⟨c,h.lt_of_getB hk,hk⟩)
  have blk : ∀ b k L,h.n0<=b->h.getB b=some k->μ b=some L->L.blk<w.heap.size:=by
   intro b k L hb hk hL;cases k with
   |cells k=>
    obtain ⟨L',_,_,_,h2,_,h4,_⟩:=S.new b k hb (h.get_of_getB hk);rw [hL] at h2;cases h2;exact (DT.1 h4).1
   |obj o=>
    obtain ⟨L',_,h2,h4,_⟩:=S.obj b o hb hk;rw [hL] at h2;cases h2;exact (DT.1 h4).1
  have nf : ∀ b k L,h.n0<=b->b≠fb->h.getB b=some k->μ b=some L->L.blk≠Lf.blk:=fun b k L hb c hk hL=>S.inj b fb _ _ _ _ hb hfb c hk (h.aJ hkb) hL q1;have lf:=blk fb _ _ hfb (h.aJ hkb) q1;have ex : ∀ b k,h.n0<=b->h.getB b=some k -> ∃ L,μ b=some L:=fun b k hb hk=>by
   cases k with
   |cells k=>obtain ⟨L',_,_,_,h2,_⟩:=S.new b k hb (h.get_of_getB hk);exact ⟨_,h2⟩
   |obj o=>obtain ⟨L',_,h2,_⟩:=S.obj b o hb hk;exact ⟨_,h2⟩
  refine ⟨μ',v3,rfl,⟨?_,?_,?_,?_,D9 S.size St.size,?_⟩,⟨?_,by simp,by simp,by simp,St.os,St.tape,St.output,St.size,?_,?_,St.loops,St.drawn⟩,?_⟩
  ·intro b cs hb hc;obtain ⟨L,arr,T,fr,h2,h3,h4,h5,h6⟩:=S.old b cs hb hc;refine ⟨L,arr,T,fr,up _ _ h2,h3,h4,?_,h6.1,fun i x y hx hy hh=>(h6.2 i x y hx hy hh).mono up⟩;have hb':b<h.n0:=hb;rw [same b (DT.1 h5).1 (by omega)];exact h5
  ·intro b k hb hk;rcases gget b _ (ae.aJ _ hk) with ⟨rfl,e1⟩|⟨rfl,e1⟩|⟨c,hl,hk⟩
   ·cases e1;refine ⟨L2,ar2,T2,fr2,mn,z2,z3,z4,z5,z6,D9 S.size new2,?_⟩;rw [z8.bG f2];exact .gQ f2
   ·cases e1;refine ⟨Lf,ar1,T1,fr1,up _ _ q1,y2,y3,y4,y5,y6,q7,?_⟩;rw [y8.bG f1];exact .gQ f1
   ·obtain ⟨L,arr,T,fr,h2,h3,h4,h5,h6,h7,h8,h9⟩:=S.new b k hb (h.get_of_getB hk);refine ⟨L,arr,T,fr,up _ _ h2,h3,?_,h5,h6,h7,h8,h9.mono up⟩;rw [same _ (blk b _ _ hb hk h2) (nf b _ _ hb c hk h2)];exact h4
  ·intro b o hb hk;rcases gget b _ hk with ⟨_,e1⟩|⟨_,e1⟩|⟨c,hl,hk⟩
   ·cases e1
   ·cases e1
   ·obtain ⟨L,ob,h2,h3,h4,h5⟩:=S.obj b o hb hk;refine ⟨L,ob,up _ _ h2,?_,h4.mono up,h5⟩;rw [same _ (blk b _ _ hb hk h2) (nf b _ _ hb c hk h2)];exact h3
  ·have key : ∀ b k,h.n0<=b->((h.set fb k1).alloc k2).getB b=some k->b=h.next \/ ∃ k',h.getB b=some k':=by
    intro b k _ hk;rcases gget b _ hk with ⟨c,_⟩|⟨c,_⟩|⟨_,_,hk⟩
    ·exact .inl c
    ·exact .inr ⟨_,c▸h.aJ hkb⟩
    ·exact .inr ⟨_,hk⟩
   intro b b' k k' L L' hb hb' hne hk hk' hL hL';rcases key b k hb hk with c|⟨j,hj⟩<;>rcases key b' k' hb' hk' with c'|⟨j',hj'⟩
   ·exact absurd (c.trans c'.symm) hne
   ·rw [c,mn] at hL;cases hL;rw [ml b' (h.lt_of_getB hj')] at hL';have:=blk b' _ _ hb' hj' hL';omega
   ·rw [c',mn] at hL';cases hL';rw [ml b (h.lt_of_getB hj)] at hL;have:=blk b _ _ hb hj hL;omega
   ·rw [ml b (h.lt_of_getB hj)] at hL;rw [ml b' (h.lt_of_getB hj')] at hL';exact S.inj b b' _ _ _ _ hb hb' hne hj hj' hL hL'
  ·intro b hb;obtain ⟨L,h2,h3⟩:=S.low b hb;exact ⟨L,up _ _ h2,h3⟩
  ·intro b hb;rcases hb with hb|hb
   ·exact ml b hb
   ·simp only [μ'];rw [DL (by simp at hb;omega)]
  ·intro X hX hO;exact same X hX fun c=>hO ⟨fb,_,Lf,hfb,h.aJ hkb,q1,c.symm⟩
  ·rintro X ⟨b,k,L,hb,hk,hL,hX⟩;rcases gget b _ hk with ⟨c,_⟩|⟨c,_⟩|⟨_,hl,hk⟩
   ·rw [c,mn] at hL;cases hL;exact .inr (hX▸new2)
   ·rw [c] at hL;rw [ml fb hfn] at hL;exact .inl ⟨fb,_,L,hfb,h.aJ hkb,hL,hX⟩
   ·rw [ml b hl] at hL;exact .inl ⟨b,_,L,hb,hk,hL,hX⟩
  ·have:=aF.pW v (hv g1.next▸hv1);refine this.mono fun b L hb => ?_;by_cases c:b=h.next
   ·rw [DH c] at hb;rw [c,mn];rw [z1] at hb;exact hb
   ·rw [DL c] at hb;rw [St.ext _ (.inr (HL _ _)),ht _ (D9 gr.1 (HL _ _))] at hb;cases hb
end
end
end Go.Abs
