/-
  A part of the proof, shortened by a program.
  Conditions: as each theorem states.
-/
import Derived.Test.YtdhpgacmgebjdaaGreatDoorG6
set_option linter.all false
namespace Go.Abs
noncomputable section
inductive VT where
 |nil
 |node (l:VT) (v:Vl) (r:VT)
def VT.get (t:VT):Nat->Vl:=
 VT.rec (motive:=fun _=>Nat->Vl) (fun _=>undef) (fun _ v _ il ir n=>Nat.rec (motive:=fun _=>Vl) v (fun m _=>Bool.rec (motive:=fun _=>Vl) (il (Nat.div m 2)) (ir (Nat.div m 2)) (Nat.beq (Nat.mod m 2) 1)) n) t
def VT.set (t:VT):Nat->Vl->VT:=
 VT.rec (motive:=fun _=>Nat->Vl->VT) (fun _ _ => .nil) (fun l x r il ir n v=>Nat.rec (motive:=fun _=>VT) (.node l v r) (fun m _=>Bool.rec (motive:=fun _=>VT) (.node (il (Nat.div m 2) v) x r) (.node l x (ir (Nat.div m 2) v)) (Nat.beq (Nat.mod m 2) 1)) n) t
def VT.of (d:Nat):(Nat->Vl)->VT:=
 Nat.rec (motive:=fun _=>(Nat->Vl)->VT) (fun _ => .nil) (fun _ ih f => .node (ih fun i=>f (2*i+1)) (f 0) (ih fun i=>f (2*i+2))) d
def VT.has:VT->Nat->Prop
 | .nil,_=>False
 | .node l _ r,n=>if n=0 then True else if n%2=1 then l.has (n/2) else r.has (n/2-1)
def VT.kv (l:VT) (v:Vl) (r:VT) (n:Nat):(VT.node l v r).get n=if n=0 then v else if n%2=1 then l.get (n/2) else r.get (n/2-1):=by
 cases n with
 |zero=>rfl
 |succ m=>
  show Bool.rec (motive:=fun _=>Vl) (l.get (m/2)) (r.get (m/2)) (Nat.beq (m%2) 1)=_;rw [DU (by omega)];by_cases h:m%2=1
  ·rw [h,DU (by omega),show (m+1)/2-1=m/2 by omega];rfl
  ·rw [show m%2=0 by omega,DR (by omega),show (m+1)/2=m/2 by omega];rfl
def VT.set_node (l:VT) (x:Vl) (r:VT) (n:Nat) (v:Vl):(VT.node l x r).set n v=if n=0 then .node l v r else if n%2=1 then .node (l.set (n/2) v) x r else .node l x (r.set (n/2-1) v):=by
 cases n with
 |zero=>rfl
 |succ m=>
  show Bool.rec (motive:=fun _=>VT) (.node (l.set (m/2) v) x r) (.node l x (r.set (m/2) v)) (Nat.beq (m%2) 1)=_;rw [DU (by omega)];by_cases h:m%2=1
  ·rw [h,DU (by omega),show (m+1)/2-1=m/2 by omega];rfl
  ·rw [show m%2=0 by omega,DR (by omega),show (m+1)/2=m/2 by omega];rfl
def VT.of_succ (d:Nat) (f:Nat->Vl):VT.of (d+1) f = .node (VT.of d fun i=>f (2*i+1)) (f 0) (VT.of d fun i=>f (2*i+2)):=rfl
def VT.oh : ∀ (t:VT) (n:Nat) (v:Vl) (m:Nat),t.has n->(t.set n v).get m=if m=n then v else t.get m
 | .nil,n,v,m,h=>h.elim
 | .node l x r,n,v,m,h=>by
   rw [VT.set_node];simp only [VT.has] at h;by_cases h0:n=0
   ·subst h0;rw [DR rfl,VT.kv,VT.kv];by_cases hm:m=0
    ·simp [hm]
    ·simp [hm]
   ·rw [DU h0] at h |-;by_cases h1:n%2=1
    ·rw [DR h1] at h |-;rw [VT.kv,VT.kv];by_cases hm:m=0
     ·subst hm;rw [DR rfl,DR rfl,DU (fun h=>h0 h.symm)]
     ·rw [DU hm,DU hm];by_cases hm1:m%2=1
      ·rw [DR hm1,DR hm1,VT.oh l _ v _ h];by_cases e:m=n
       ·subst e;simp
       ·rw [DU e,DU (by omega)]
      ·rw [DU hm1,DU hm1,DU (by omega)]
    ·rw [DU h1] at h |-;rw [VT.kv,VT.kv];by_cases hm:m=0
     ·subst hm;rw [DR rfl,DR rfl,DU (fun h=>h0 h.symm)]
     ·rw [DU hm,DU hm];by_cases hm1:m%2=1
      ·rw [DR hm1,DR hm1,DU (by omega)]
      ·rw [DU hm1,DU hm1,VT.oh r _ v _ h];by_cases e:m=n
       ·subst e;simp
       ·rw [DU e,DU (by omega)]
def VT.CQ : ∀ (t:VT) (n:Nat) (v:Vl) (m:Nat),(t.set n v).has m↔t.has m
 | .nil,n,v,m=>Iff.rfl
 | .node l x r,n,v,m=>by
   rw [VT.set_node];by_cases h0:n=0
   ·rw [DR h0];exact Iff.rfl
   ·rw [DU h0];by_cases h1:n%2=1
    ·rw [DR h1];simp only [VT.has];by_cases hm:m=0
     ·simp [hm]
     ·rw [DU hm,DU hm];split
      ·exact VT.CQ l ..
      ·exact Iff.rfl
    ·rw [DU h1];simp only [VT.has];by_cases hm:m=0
     ·simp [hm]
     ·rw [DU hm,DU hm];split
      ·exact Iff.rfl
      ·exact VT.CQ r ..
def VT.wA : ∀ (d:Nat) (f:Nat->Vl) (i:Nat),i+1<2^d->(VT.of d f).has i/\(VT.of d f).get i=f i
 | 0,f,i,h=>by simp at h
 |d+1,f,i,h=>by
  rw [VT.of_succ,VT.kv];simp only [VT.has];by_cases h0:i=0
  ·subst h0;simp
  ·rw [DU h0,DU h0];have h2:2^(d+1)=2*2^d:=by rw [Nat.pow_succ];omega
   by_cases h1:i%2=1
   ·rw [DR h1,DR h1];obtain ⟨a,b⟩:=VT.wA d (fun i=>f (2*i+1)) (i/2) (by omega);exact ⟨a,by rw [b];congr 1;omega⟩
   ·rw [DU h1,DU h1];obtain ⟨a,b⟩:=VT.wA d (fun i=>f (2*i+2)) (i/2-1) (by omega);exact ⟨a,by rw [b];congr 1;omega⟩
structure Bb (n:Nat) (t:VT) (e:aQ):Prop where
 len:e.length=n
 at_ : ∀ i,i<n->t.has i/\t.get i=e.getD i undef
def oD (n:Nat) (e:List Vl):VT:=VT.of (Nat.log2 n+2) fun i=>e.getD i undef
def rep_of (e:aQ):Bb e.length (oD e.length e) e:=by refine ⟨rfl,fun i hi=>VT.wA _ _ _ ?_⟩;have h1:e.length<2^(Nat.log2 e.length+1):=Nat.lt_log2_self;rw [Nat.pow_succ];omega
def rep_args (n:Nat) (args:List Vl) (h:args.length<=n):Bb n (oD n args) (args++List.replicate (n-args.length) undef):=by
 refine ⟨by simp;omega,fun i hi => ?_⟩;have h1:n<2^(Nat.log2 n+1):=Nat.lt_log2_self;obtain ⟨a,b⟩:=VT.wA (Nat.log2 n+2) (fun i=>args.getD i undef) i (by rw [Nat.pow_succ];omega);refine ⟨a,?_⟩;unfold oD;rw [b];rw [DV,DV];by_cases hl:i<args.length
 ·rw [EX hl]
 ·rw [EI (by omega),ER (by omega),HU];split<;>rfl
def toL (n:Nat) (t:VT):aQ:=(List.range n).map t.get
def Bb.toL {n:Nat} {t:VT} {e:aQ} (r:Bb n t e):toL n t=e:=by
 apply FA;intro i;unfold Abs.toL;rw [EG];by_cases hi:i<n
 ·rw [F0 hi,Option.map_some,(r.at_ i hi).2];have:i<e.length:=by rw [r.len];exact hi
  simp [DL this]
 ·have : ¬i<e.length:=by rw [r.len];exact hi
  rw [ER (by simpa using hi),ER (by omega)];rfl
def setT (n:Nat) (t:VT) (d:Option Tmp) (v:Vl):VT:=
 match d with
 |some i=>match Nat.blt i n with
  |true=>t.set i v
  |false=>t
 |none=>t
def Bb.put {n:Nat} {t:VT} {e:aQ} (r:Bb n t e) (d:Option Tmp) (v:Vl):Bb n (setT n t d v) (putD e d v):=by
 cases d with
 |none=>exact r
 |some i=>
  unfold setT putD;simp only;cases hb:Nat.blt i n with
  |true=>
   have hi:i<n:=by simpa using hb
   refine ⟨by simp [r.len],fun j hj=>⟨(VT.CQ ..).2 (r.at_ j hj).1,?_⟩⟩;simp only;rw [VT.oh _ _ _ _ (r.at_ i hi).1,(r.at_ j hj).2,DV,DV,FE];by_cases e:j=i
   ·subst e;simp [r.len,hj]
   ·rw [DU e,DU (fun h=>e h.symm)]
  |false=>
   have hi : ¬i<n:=by intro h;rw [show Nat.blt i n=true by simpa using h] at hb;cases hb
   have:e.set i v=e:=List.set_eq_of_length_le (by rw [r.len];exact Nat.le_of_not_lt hi);rw [this];exact r
def evT (n:Nat) (t:VT):Operand->Vl
 | .tmp i=>match Nat.blt i n with
   |true=>t.get i
   |false=>undef
 | .const v=>v
 | .global g=>ptr g 0
 | .func f => .func (.func f) #[] #[]
def Bb.ev {n:Nat} {t:VT} {e:aQ} (r:Bb n t e):ev e=evT n t:=by
 funext x
 cases x with
 |tmp i=>
  simp only [Abs.ev,evT];cases hb:Nat.blt i n with
  |true=>
   have hi:i<n:=by simpa using hb
   exact ((r.at_ i hi).2).symm
  |false=>
   have hi : ¬i<n:=by intro h;rw [show Nat.blt i n=true by simpa using h] at hb;cases hb
   rw [DV,ER (by rw [r.len];exact Nat.le_of_not_lt hi)];rfl
 |_=>rfl
def Dg (n:Nat) (ops:Array Oper) (t:VT) (j:Nat):Option Bool:=
 match (ops[j]?).bind (·.dst) with
 |some i=>match Nat.blt i n with
  |true=>bC (t.get i)
  |false=>none
 |none=>none
def Bb.yield {n:Nat} {t:VT} {e:aQ} (r:Bb n t e) (ops:Array Oper) (j:Nat):iM ops e j=Dg n ops t j:=by
 unfold iM Dg;cases (ops[j]?).bind (·.dst) with
 |none=>rfl
 |some i=>
  simp only [Option.bind_some];cases hb:Nat.blt i n with
  |true=>
   have hi:i<n:=by simpa using hb
   have:i<e.length:=by rw [r.len];exact hi
   rw [(r.at_ i hi).2,DV,DL this];simp only [Option.getD_some];cases e[i]<;>rfl
  |false=>
   have hi : ¬i<n:=by intro h;rw [show Nat.blt i n=true by simpa using h] at hb;cases hb
   rw [ER (by rw [r.len];exact Nat.le_of_not_lt hi)]
section
variable {α:Type} (P:Program) (C:ah) (n:Nat)
def opsF (ops:Array Oper) (os:List Oper):VT->ae->(VT->ae->Option α)->Option α:=
 List.rec (motive:=fun _=>VT->ae->(VT->ae->Option α)->Option α) (fun t h k=>k t h)
  (fun o _ ih t h k=>
   match o.guard with
   |none=>aa (CI o.op P C (evT n t) h) fun v h'=>ih (setT n t o.dst v) h' k
   |some (j,want)=>aa (au (Dg n ops t j==some want) (CI o.op P C (evT n t) h) h) fun v h'=>ih (setT n t o.dst v) h' k) os
def sF (ops:Array Oper) : ∀ (os:List Oper) {t:VT} {e:aQ} {h:ae} {k:VT->ae->Option α} {a:α},Bb n t e->opsF P C n ops os t h k=some a ->
  ∃ e' h' t',opsA P C ops os e h=some (e',h')/\Bb n t' e'/\k t' h'=some a
 | [],t,e,h,k,a,r,he=>⟨e,h,t,rfl,r,he⟩
 |o::os,t,e,h,k,a,r,he=>by
  have ih := @sF ops os;have he:(match o.guard with
   |none=>aa (CI o.op P C (evT n t) h) fun v h'=>opsF P C n ops os (setT n t o.dst v) h' k
   |some (j,want)=>aa (au (Dg n ops t j==some want) (CI o.op P C (evT n t) h) h) fun v h'=>opsF P C n ops os (setT n t o.dst v) h' k)=some a:=he
  simp only [opK_eq] at he;unfold opsA stepA iR;cases hg:o.guard with
  |none=>
   rw [hg] at he;simp only [D8] at he |-;rw [r.ev];cases ho:opA P C o (evT n t) h with
   |none=>rw [ho] at he;cases he
   |some x=>
    obtain ⟨v,h'⟩:=x;rw [ho] at he;obtain ⟨e',h2,t',h3,h4,h5⟩:=ih (r.put o.dst v) he;exact ⟨e',h2,t',h3,h4,h5⟩
  |some g=>
   obtain ⟨j,want⟩:=g;rw [hg] at he;simp only at he |-;rw [<-r.yield] at he;by_cases hy:(iM ops e j==some want)=true
   ·rw [hy] at he;rw [DR hy,r.ev];simp only [au] at he;cases ho:opA P C o (evT n t) h with
    |none=>rw [ho] at he;cases he
    |some x=>
     obtain ⟨v,h'⟩:=x;rw [ho] at he;obtain ⟨e',h2,t',h3,h4,h5⟩:=ih (r.put o.dst v) he;exact ⟨e',h2,t',h3,h4,h5⟩
   ·rw [DU hy];rw [HV] at hy;rw [hy] at he;simp only [au,aa] at he;obtain ⟨e',h2,t',h3,h4,h5⟩:=ih (r.put o.dst undef) he;exact ⟨e',h2,t',h3,h4,h5⟩
def Cb (ops:Array Oper) (draw:Bool) (t:VT) (h:ae) (k:VT->ae->Option α):Option α:=
 match draw with
 |false=>opsF P C n ops ops.toList t h k
 |true=>match pn P ops with
  |true=>opsF P C n ops ((late P ops).map (·.2)) t h k
  |false=>match regionA P C ops true (toL n t) h with
   |some (e',h')=>k (oD n e') h'
   |none=>none
def Ax (ops:Array Oper) (draw:Bool) {t:VT} {e:aQ} {h:ae} {k:VT->ae->Option α} {a:α} (r:Bb n t e) (he:Cb P C n ops draw t h k=some a) :
  ∃ e' h' t',regionA P C ops draw e h=some (e',h')/\Bb n t' e'/\k t' h'=some a:=by
 unfold Cb at he;cases draw with
 |false=>exact sF P C n ops _ r he
 |true=>
  simp only at he;cases hl:pn P ops with
  |true=>
   rw [hl] at he;obtain ⟨e',h',t',h1,h2,h3⟩:=sF P C n ops _ r he;refine ⟨e',h',t',?_,h2,h3⟩;unfold regionA;have hl2:=hl;unfold pn at hl;rw [DN] at hl;rw [DR rfl,DR hl.1];rw [<-mU] at h1;cases ht:traceA P C ops (late P ops) e h with
   |none=>rw [ht] at h1;cases h1
   |some x=>
    obtain ⟨tr,e2,h4⟩:=x;rw [ht] at h1;cases h1;simp only;rw [DR (yI hl.2 tr h')]
  |false=>
   rw [hl] at he;simp only at he;rw [r.toL] at he;cases hr:regionA P C ops true e h with
   |none=>rw [hr] at he;cases he
   |some x=>
    obtain ⟨e',h'⟩:=x;rw [hr] at he;have hlen:e'.length=n:=by
     rw [<-r.len];unfold regionA at hr;rw [DR rfl] at hr;split at hr
     ·split at hr
      ·rename_i tr e2 h2 ht;split at hr
       ·cases hr;have h1:opsA P C ops ((late P ops).map (·.2)) e h=some (e',h'):=by rw [<-mU,ht];rfl
        have : ∀ (os:List Oper) (e:aQ) (h:ae) (e':aQ) (h':ae),opsA P C ops os e h=some (e',h')->e'.length=e.length:=by
         intro os;induction os with
         |nil=>intro e h e' h' he;simp only [opsA,DH,DQ] at he;rw [he.1]
         |cons o os ih=>
          intro e h e' h' he;simp only [opsA] at he;split at he
          ·rename_i e1 h1 hs;have h2:=ih _ _ _ _ he;rw [h2];unfold stepA at hs;split at hs
           ·split at hs
            ·cases hs;exact pO ..
            ·cases hs
           ·cases hs;exact pO ..
          ·cases he
        exact this _ _ _ _ _ h1
       ·cases hr
      ·cases hr
     ·cases hr
    refine ⟨e',h',oD n e',rfl,?_,he⟩;subst hlen;exact rep_of e'
def condF (v:Vl) (a b:Option α):Option α:=
 match v with
 | .bool true=>a
 | .bool false=>b
 |_=>none
def Bg (id i:Nat) (k x:Option α):Option α:=Bool.rec (motive:=fun _=>Option α) x k (Nat.beq i id)
def loopF (b:VT->ae->(VT->ae->Option α)->Option α) (fuel:Nat):VT->ae->Option α:=
 Nat.rec (motive:=fun _=>VT->ae->Option α) (fun _ _=>none) (fun _ ih t h=>b t h ih) fuel
def cameF (o:Option (Ex×aQ×ae)) (t:VT) (k r:VT->ae->Option α) (x:Nat->VT->ae->Option α):Option α:=
 match o with
 |some (.normal,_,h)=>k t h
 |some (.ret,_,h)=>r t h
 |some (.exit i,_,h)=>x i t h
 |none=>none
def range_env {P:Program} {C:ah} {g:Operand} {ps:Array Tmp} {as b:Code} {e e':aQ} {h h':ae} {x:Ex} (he:codeA P C (.rangeFunc g ps as b) e h=some (x,e',h')):e'=e:=by obtain ⟨_,_,_,_,_,_,_,_,hl⟩:=lZ he;obtain ⟨_,_,_,_,_,_,_,_,_,h2,_⟩:=gT hl;exact h2
def rn (fuel:Nat) (c:Code):VT->ae->(VT->ae->Option α)->(VT->ae->Option α)->(Nat->VT->ae->Option α)->Option α:=
 Code.rec (motive:=fun _=>VT->ae->(VT->ae->Option α)->(VT->ae->Option α)->(Nat->VT->ae->Option α)->Option α)
  (fun t h k _ _=>k t h)
  (fun _ ops draw t h k _ _=>Cb P C n ops draw t h k)
  (fun _ _ ia ib t h k r x=>ia t h (fun t' h'=>ib t' h' k r x) r x)
  (fun q _ _ ia ib t h k r x=>condF (evT n t q) (ia t h k r x) (ib t h k r x))
  (fun id _ ib t h k r x=>ib t h k r (fun i t' h'=>Bg id i (k t' h') (x i t' h')))
  (fun _ ib t h _ r x=>loopF (fun t h k=>ib t h k r x) fuel t h)
  (fun g ps a b _ _ t h k r x=>cameF (codeA P C (.rangeFunc g ps a b) (toL n t) h) t k r x)
  (fun i t h _ _ x=>x i t h)
  (fun _ ib t h k r x=>ib t h k r x)
  (fun _ t h k _ _=>k t h)
  (fun _ _ _ _ _ _=>none)
  (fun t h _ r _=>r t h)
  (fun _ _ _ _ _ _=>none) c
def Came (a:α) (k r:VT->ae->Option α) (x:Nat->VT->ae->Option α) (ex:Ex) (t:VT) (h:ae):Prop:=
 match ex with
 | .normal=>k t h=some a
 | .ret=>r t h=some a
 | .exit i=>x i t h=some a
def dQ (fuel:Nat) (hfuel:fuel<=aK) : ∀ (c:Code) {t:VT} {e:aQ} {h:ae} {k r:VT->ae->Option α} {x:Nat->VT->ae->Option α} {a:α},Bb n t e->rn P C n fuel c t h k r x=some a ->
  ∃ ex e' h' t',codeA P C c e h=some (ex,e',h')/\Bb n t' e'/\Came a k r x ex t' h'
 | .skip,t,e,h,k,r,x,a,hr,he=>⟨.normal,e,h,t,rfl,hr,he⟩
 | .region _ ops d,t,e,h,k,r,x,a,hr,he=>by obtain ⟨e',h',t',h1,h2,h3⟩:=Ax P C n ops d hr he;exact ⟨.normal,e',h',t',by simp only [codeA,h1],h2,h3⟩
 | .seq c d,t,e,h,k,r,x,a,hr,he=>by
   obtain ⟨ex,e',h',t',h1,h2,h3⟩:=dQ fuel hfuel c (k:=fun t' h'=>rn P C n fuel d t' h' k r x) hr he;cases ex with
   |normal=>
    obtain ⟨ex2,e2,h4,t2,h5,h6,h7⟩:=dQ fuel hfuel d h2 h3;exact ⟨ex2,e2,h4,t2,by simp only [codeA,h1];exact h5,h6,h7⟩
   |ret=>exact ⟨.ret,e',h',t',by simp only [codeA,h1],h2,h3⟩
   |exit i=>exact ⟨.exit i,e',h',t',by simp only [codeA,h1],h2,h3⟩
 | .cond q c d,t,e,h,k,r,x,a,hr,he=>by
   have he:condF (evT n t q) (rn P C n fuel c t h k r x) (rn P C n fuel d t h k r x)=some a:=he;unfold condF at he;unfold codeA;rw [hr.ev];split at he
   ·rename_i hv;rw [hv];exact dQ fuel hfuel c hr he
   ·rename_i hv;rw [hv];exact dQ fuel hfuel d hr he
   ·cases he
 | .block id b,t,e,h,k,r,x,a,hr,he=>by
   obtain ⟨ex,e',h',t',h1,h2,h3⟩:=dQ fuel hfuel b (x:=fun i t' h'=>Bg id i (k t' h') (x i t' h')) hr he;cases ex with
   |normal=>exact ⟨.normal,e',h',t',by simp only [codeA,h1],h2,h3⟩
   |ret=>exact ⟨.ret,e',h',t',by simp only [codeA,h1],h2,h3⟩
   |exit i=>
    simp only [Came,Bg] at h3;cases hb:Nat.beq i id with
    |true=>
     rw [hb] at h3;exact ⟨.normal,e',h',t',by simp only [codeA,h1];rw [DR (FZ hb)],h2,h3⟩
    |false=>
     rw [hb] at h3;exact ⟨.exit i,e',h',t',by simp only [codeA,h1];rw [DU (F6 hb)],h2,h3⟩
 | .loop b,t,e,h,k,r,x,a,hr,he=>by
   have he:loopF (fun t h k=>rn P C n fuel b t h k r x) fuel t h=some a:=he;have main : ∀ (f m:Nat) (t:VT) (e:aQ) (h:ae),f<=m->Bb n t e->loopF (fun t h k=>rn P C n fuel b t h k r x) f t h=some a ->
     ∃ ex e' h' t',iter (codeA P C b) m e h=some (ex,e',h')/\Bb n t' e'/\ex ≠ .normal/\Came a k r x ex t' h':=by
    intro f;induction f with
    |zero=>intro m t e h _ _ he;cases he
    |succ f ih=>
     intro m t e h hm hr he;obtain ⟨m,rfl⟩ : ∃ m',m=m'+1:=⟨m-1,by omega⟩
     obtain ⟨ex,e',h',t',h1,h2,h3⟩:=dQ fuel hfuel b (k:=fun t h=>loopF (fun t h k=>rn P C n fuel b t h k r x) f t h) hr he;cases ex with
     |normal=>
      obtain ⟨ex2,e2,h4,t2,h5,h6,h7⟩:=ih m t' e' h' (by omega) h2 h3;exact ⟨ex2,e2,h4,t2,by simp only [iter,h1];exact h5,h6,h7⟩
     |ret=>exact ⟨.ret,e',h',t',by simp only [iter,h1],h2,by simp,h3⟩
     |exit i=>exact ⟨.exit i,e',h',t',by simp only [iter,h1],h2,by simp,h3⟩
   obtain ⟨ex,e',h',t',h1,h2,h3,h4⟩:=main fuel aK t e h hfuel hr he;refine ⟨ex,e',h',t',h1,h2,h4⟩
 | .exit i,t,e,h,k,r,x,a,hr,he=>⟨.exit i,e,h,t,rfl,hr,he⟩
 | .scope b,t,e,h,k,r,x,a,hr,he=>by have:=dQ fuel hfuel b hr he;exact this
 | .label _,t,e,h,k,r,x,a,hr,he=>⟨.normal,e,h,t,rfl,hr,he⟩
 | .ret,t,e,h,k,r,x,a,hr,he=>⟨.ret,e,h,t,rfl,hr,he⟩
 | .goto _,t,e,h,k,r,x,a,hr,he=>by cases he
 | .rangeFunc g ps as b,t,e,h,k,r,x,a,hr,he=>by
   have he:cameF (codeA P C (.rangeFunc g ps as b) (toL n t) h) t k r x=some a:=he;rw [hr.toL] at he;unfold cameF at he;cases hc:codeA P C (.rangeFunc g ps as b) e h with
   |none=>rw [hc] at he;cases he
   |some y=>
    obtain ⟨ex,e',h'⟩:=y;rw [hc] at he;have he':=range_env hc;subst he';refine ⟨ex,e',h',t,rfl,hr,?_⟩;cases ex<;>exact he
 | .refuse _,t,e,h,k,r,x,a,hr,he=>by cases he
end
def resT (P:Program) (n:Nat) (rs:List ResultVar) (t:VT) (h:ae):ba:=resultsA P rs (toL n t) h
def bodyF (P:Program) (C:ah) (fuel:Nat) (fn:Func) (args:List Vl) (h:ae):ba:=
 match fn.body with
 |none=>none
 |some c=>match Nat.ble args.length fn.ntmps with
  |true=>rn P C fn.ntmps fuel c (oD fn.ntmps args) h (resT P fn.ntmps fn.results.toList) (resT P fn.ntmps fn.results.toList) (fun _ _ _=>none)
  |false=>none
def bodyF_sound (P:Program) (C:ah) (fuel:Nat) (hfuel:fuel<=aK) {fn:Func} {args:List Vl} {h:ae} {a:Vl×ae} (he:bodyF P C fuel fn args h=some a):bodyA P C fn args h=some a:=by
 unfold bodyF at he;unfold bodyA;cases hb:fn.body with
 |none=>rw [hb] at he;cases he
 |some c=>
  rw [hb] at he;simp only at he |-;cases hn:Nat.ble args.length fn.ntmps with
  |false=>rw [hn] at he;cases he
  |true=>
   rw [hn] at he;obtain ⟨ex,e',h',t',h1,h2,h3⟩:=dQ P C fn.ntmps fuel hfuel c (rep_args _ args (EO hn)) he;rw [h1];cases ex with
   |normal=>simp only [Came,resT] at h3;rw [h2.toL] at h3;exact h3
   |ret=>simp only [Came,resT] at h3;rw [h2.toL] at h3;exact h3
   |exit i=>cases h3
def roundF (P:Program) (C:ah) (fuel:Nat) (l:Nat) (args:List Vl) (h:ae):ba:=
 match h.getB l with
 |some (.obj (.loop _ _ tmps params assign body))=>
  match Nat.beq args.length params.length&&(codeOk P assign&&codeOk P body) with
  |true=>rn P C tmps.length fuel assign (oD tmps.length (gQ tmps (params.zip args))) h
    (fun t h1=>match h1.getB l with
     |some (.obj (.loop .ready p1 t1 q1 a1 b1))=>rn P C tmps.length fuel body t (h1.setO l (.loop .busy p1 t1 q1 a1 b1)) (fun _ h2=>gI l .normal h2) (fun _ h2=>gI l .ret h2) (fun i _ h2=>gI l (.exit i) h2)
     |_=>none) (fun _ _=>none) (fun _ _ _=>none)
  |false=>none
 |_=>none
def qZ : ∀ {e:aQ} (l:List (Tmp×Vl)),(gQ e l).length=e.length
 |e,[]=>rfl
 |e,(t,v)::l=>by simp only [gQ];rw [qZ l];simp
def Dr (P:Program) (C:ah) (fuel:Nat) (hfuel:fuel<=aK) {l:Nat} {args:List Vl} {h:ae} {a:Vl×ae} (he:roundF P C fuel l args h=some a):roundA P C l args h=some a:=by
 unfold roundF at he;unfold roundA;split at he
 ·rename_i st p0 tmps params assign body hg;rw [hg];simp only;split at he
  ·rename_i hb;rw [DN,DN] at hb;rw [DR ⟨FZ hb.1,hb.2.1,hb.2.2⟩];have hrep:Bb tmps.length (oD tmps.length (gQ tmps (params.zip args))) (gQ tmps (params.zip args)):=by have:=rep_of (gQ tmps (params.zip args));rw [qZ] at this;exact this
   obtain ⟨ex,e1,h1,t1,hc1,r1,c1⟩:=dQ P C _ fuel hfuel assign hrep he;rw [hc1];cases ex with
   |ret=>cases c1
   |exit i=>cases c1
   |normal=>
    simp only [Came] at c1;simp only;split at c1
    ·rename_i p1 t1' q1 a1 b1 hg1;rw [hg1];simp only;obtain ⟨ex2,e2,h2,t2,hc2,r2,c2⟩:=dQ P C _ fuel hfuel body r1 c1;rw [hc2];cases ex2<;>exact c2
    ·cases c1
  ·cases he
 ·cases he
def BM (P:Program) (ok:FuncId->Bool) (X:ah) (sm:FuncId->Bool) (T:FuncId->Option (ah->List Vl->ae->ba)) (fuel:Nat) (k:Nat):ah:=
 Nat.rec (motive:=fun _=>ah) (fun _ _ _=>none)
  (fun _ ih f args h=>
   match sm f with
   |true=>X f args h
   |false=>match T f with
    |some t=>match Nat.ble P.globals.size h.n0 with
     |true=>t ih args h
     |false=>none
    |none=>match ok f with
     |true=>match Nat.ble P.globals.size h.n0 with
      |true=>match P.funcs[f]? with
       |some fn=>bodyF P ih fuel fn args h
       |none=>none
      |false=>none
     |false=>match Nat.ble P.funcs.size f&&Nat.ble P.globals.size h.n0 with
      |true=>roundF P ih fuel (f-P.funcs.size) args h
      |false=>none) k
def dE (n:Nat) (Inv:Nat->(Nat->Vl)->ae->Prop) (fin:Ex->(Nat->Vl)->ae->Prop) (k:Nat) (o:Option (Ex×aQ×ae)):Prop:=
 ∃ ex x' h',o=some (ex,aT n x',h')/\((ex = .normal /\ ∃ j,j<k/\Inv j x' h')\/(ex ≠ .normal/\fin ex x' h'))
def Fin (n:Nat) (fin:Ex->(Nat->Vl)->ae->Prop) (o:Option (Ex×aQ×ae)):Prop := ∃ ex x' h',o=some (ex,aT n x',h')/\fin ex x' h'
section
variable {n:Nat} {Inv:Nat->(Nat->Vl)->ae->Prop} {fin:Ex->(Nat->Vl)->ae->Prop} {k:Nat}
def dE.next {x':Nat->Vl} {h':ae} (j:Nat) (hj:j<k) (hi:Inv j x' h'):dE n Inv fin k (some (.normal,aT n x',h')):=⟨_,_,_,rfl,.inl ⟨rfl,j,hj,hi⟩⟩
def dE.out {x':Nat->Vl} {h':ae} (i:Nat) (hi:fin (.exit i) x' h'):dE n Inv fin k (some (.exit i,aT n x',h')):=⟨_,_,_,rfl,.inr ⟨by simp,hi⟩⟩
def dE.ret {x':Nat->Vl} {h':ae} (hi:fin .ret x' h'):dE n Inv fin k (some (.ret,aT n x',h')):=⟨_,_,_,rfl,.inr ⟨by simp,hi⟩⟩
def cj {P:Program} {C:ah} {b:Code} {T:(Nat->Vl)->ae->Option (Ex×aQ×ae)} (hT : ∀ x h,codeA P C b (aT n x) h=T x h)
  (hs : ∀ k x h,Inv k x h->dE n Inv fin k (T x h)) {x:Nat->Vl} {h:ae} (k:Nat) (hk:k<aK) (hi:Inv k x h):Fin n fin (iter (codeA P C b) aK (aT n x) h):=
 tf hT hs hk hi
def cp {α:Type} {Q:Option α->Prop} {o:Option (Ex×aQ×ae)} {r:aQ->ae->Option α} {x:Nat->aQ->ae->Option α} (f:Fin n fin o)
  (h : ∀ ex x' h',fin ex x' h'->Q (fb (some (ex,aT n x',h')) r x)):Q (fb o r x):=by
 obtain ⟨ex,x',h',rfl,hf⟩:=f;exact h ex x' h' hf
end
def pW {P:Program} {rs:List ResultVar} {n t:Nat} (hr:rs = [.tmp t]) (ht:t<n) (x:Nat->Vl) (h:ae):resultsA P rs (aT n x) h=some (x t,h):=by
 subst hr;have:(aT n x).getD t undef=x t:=by unfold aT;rw [DV,EG,F0 ht];rfl
 simp only [resultsA,dy,Option.map_some,this]
def Top (μ:Mu) (h:ae):Prop := ∀ b,h.next<=b->μ b=none
def Top.free {μ:Mu} {h h':ae} (t:Top μ h):eX μ h h':=fun b h1 _=>t b h1
def Top.step {μ μ':Mu} {h h':ae} {w w':World} (t:Top μ h) (st:ca μ h w μ' h' w'):Top μ' h':=fun b hb=>by rw [st.ext b (.inr hb)];exact t b (ED st.next hb)
abbrev dU:=FuncId->List Vl->ae->(Vl->ae->Prop)->Prop
def ofC (C:ah):dU:=fun f args h K => ∃ v h',C f args h=some (v,h')/\K v h'
def pq (μ:Mu) (h:ae) (w:World) (K:Vl->ae->Prop) (e:Ending) (w':World):Prop:=
 ∃ v h',K v h'/\bp h h'/\bR h'.next v=true/\aA h'/\mJ μ h w v h' e w'
structure mj (P:Program) (W:dU):Prop where
 run : ∀ f args h K,W f args h K->f<P.funcs.size->cy h.next args=true->aA h->P.globals.size<=h.n0 -> ∀ μ w args',cn μ h w->Top μ h->aU μ args args'->Cj P f args'.toArray w (pq μ h w K)
 round : ∀ l args h K,W (yid P l) args h K->cy h.next args=true->aA h->P.globals.size<=h.n0 -> ∀ μ w args' L,cn μ h w->Top μ h->aU μ args args'->μ l=some L ->
  ∃ fn tmps assign body,(Instr.yield L.blk args'.toArray).run P w = .ok (.round L.blk fn tmps assign body) w /\ ∀ n,RoundIn (Fr none) n P L.blk fn tmps assign body w (pq μ h w K)
def qf {P:Program} {C:ah} (hC:aZ P C):mj P (ofC C):=by
 have up : ∀ {f args h v h'} {K:Vl->ae->Prop} {μ w},C f args h=some (v,h')->K v h'->cy h.next args=true->aA h -> ∀ e w',mJ μ h w v h' e w'->pq μ h w K e w':=by intro f args h v h' K μ w he hk hb hh e w' ha;obtain ⟨h1,h2⟩:=hC.bd _ _ _ _ _ he hb hh;exact ⟨v,h',hk,hC.grow _ _ _ _ _ he,h1,h2,ha⟩
 refine ⟨?_,?_⟩
 ·rintro f args h K ⟨v,h',he,hk⟩ hf hb hh hg μ w args' S t r;exact (hC.run _ _ _ _ _ he hf hb hh hg μ w args' S t.free r).mono (up he hk hb hh)
 ·rintro l args h K ⟨v,h',he,hk⟩ hb hh hg μ w args' L S t r hL;obtain ⟨fn,tmps,assign,body,h1,h2⟩:=hC.round _ _ _ _ _ he hb hh hg μ w args' L S t.free r hL;exact ⟨fn,tmps,assign,body,h1,fun n=>(h2 n).mono (up he hk hb hh)⟩
def callAW (P:Program) (W:dU) (f:Vl) (args:List Vl) (h:ae) (K:Vl->ae->Prop):Prop:=
 match f with
 | .func (.func i) first captured=>i<P.funcs.size/\W i (first.toList++args++captured.toList) h K
 | .func (.yield l) first _=>W (yid P l) (first.toList++args) h K
 |_=>False
def noC:ah:=fun _ _ _=>none
def mO (P:Program):aZ P noC:=⟨by simp [noC],by simp [noC],by simp [noC],by simp [noC]⟩
def opW (P:Program) (W:dU) (o:Oper) (ρ:Operand->Vl) (h:ae) (K:Vl->ae->Prop):Prop:=
 match o.op with
 | .next it false => ∃ l,nextsA (ρ it) h=some l /\ ∀ r∈l,K r.1 r.2
 | .call { callee := .value f,args,.. }=>callAW P W (ρ f) (args.toList.map ρ) h K
 |_ => ∃ v h',opA P noC o ρ h=some (v,h')/\K v h'
def ju (P:Program) (W:dU) (ops:Array Oper):List Oper->aQ->ae->(aQ->ae->Prop)->Prop
 | [],e,h,K=>K e h
 |o::rest,e,h,K=>if iR ops o e=true then opW P W o (ev e) h fun v h'=>ju P W ops rest (putD e o.dst v) h' K else ju P W ops rest (putD e o.dst undef) h K
def oT (step:aQ->ae->(Ex->aQ->ae->Prop)->Prop):Nat->aQ->ae->(Ex->aQ->ae->Prop)->Prop
 | 0,_,_,_=>False
 |n+1,e,h,K=>step e h fun x e' h'=>match x with
  | .normal=>oT step n e' h' K
  |x=>K x e' h'
def codeW (P:Program) (C:ah) (W:dU):Code->aQ->ae->(Ex->aQ->ae->Prop)->Prop
 | .skip,e,h,K=>K .normal e h
 | .region _ ops draw,e,h,K=>match draw with
   |true => ∃ e' h',regionA P C ops true e h=some (e',h')/\K .normal e' h'
   |false=>ju P W ops ops.toList e h (K .normal)
 | .seq a b,e,h,K=>codeW P C W a e h fun x e' h'=>match x with
   | .normal=>codeW P C W b e' h' K
   |x=>K x e' h'
 | .cond c a b,e,h,K=>match ev e c with
   | .bool true=>codeW P C W a e h K
   | .bool false=>codeW P C W b e h K
   |_=>False
 | .block id b,e,h,K=>codeW P C W b e h fun x e' h'=>match x with
   | .exit i=>K (if i=id then .normal else .exit i) e' h'
   |x=>K x e' h'
 | .loop b,e,h,K=>oT (codeW P C W b) aK e h K
 | .exit i,e,h,K=>K (.exit i) e h
 | .scope b,e,h,K=>codeW P C W b e h K
 | .label _,e,h,K=>K .normal e h
 | .ret,e,h,K=>K .ret e h
 | .rangeFunc g ps a b,e,h,K=>match ev e g with
   | .func (.func i) first captured=>hasBody P i=true/\W i (first.toList ++ [.func (.yield h.next) #[] #[]]++captured.toList) (h.bj (.obj (.loop .ready none e ps.toList a b)))
     fun _ h2 => ∃ x e' h',endLoopA h.next e h2=some (x,e',h')/\K x e' h'
   |_=>False
 | .goto _,_,_,_=>False
 | .refuse _,_,_,_=>False
def bodyW (P:Program) (C:ah) (W:dU) (fn:Func) (args:List Vl) (h:ae) (K:Vl->ae->Prop):Prop:=
 match fn.body with
 |none=>False
 |some c=>codeW P C W c (args++List.replicate (fn.ntmps-args.length) undef) h fun x e h'=>match x with
  | .exit _=>False
  |_ => ∃ v h2,resultsA P fn.results.toList e h'=some (v,h2)/\K v h2
section
variable {P:Program} {C:ah} {W:dU}
def GoodW (P:Program) (o:Oper) (a:Act) (μ:Mu) (h:ae) (w:World) (K:Vl->ae->Prop):Prop:=
 ∀ (r:Option Nat) (n:Nat) (K':Act->World->Prop) (Q:Exit->Act->World->Prop),
   (∀ v h' μ' v' w',K v h'->bp h h'->bR h'.next v=true->aA h'->cn μ' h' w'->ca μ h w μ' h' w'->aD μ' v v'->K' (a.put o.dst v') w')->o.wpIn (Fr r) n P a w K' Q
def opW_det {o:Oper} {a:Act} {μ:Mu} {h:ae} {w:World} {ρ:Operand->Vl} {K:Vl->ae->Prop} (S:cn μ h w) (t:Top μ h) (hρ : ∀ x∈o.op.operands.toList,aD μ (ρ x) (a.eval x)) (hg:P.globals.size<=h.n0)
  (hbo : ∀ x∈o.op.operands.toList,bR h.next (ρ x)=true) (hbh:aA h) (e : ∃ v h',opA P noC o ρ h=some (v,h')/\K v h'):GoodW P o a μ h w K:=by
 obtain ⟨v,h',ho,hk⟩:=e;intro r n K' Q hK;obtain ⟨h1,h2⟩:=yU (mO P) hbh hbo ho;exact uP (mO P) S t.free hρ hg (fun _ _ _ _=>⟨hbo,hbh⟩) ho r n K' Q (fun μ' v' w' hS hSt hv=>hK v h' μ' v' w' hk (jL (mO P) ho) h1 h2 hS hSt hv)
def opW_sound (hW:mj P W) {o:Oper} {a:Act} {μ:Mu} {h:ae} {w:World} {ρ:Operand->Vl} {K:Vl->ae->Prop} (S:cn μ h w) (t:Top μ h) (hρ : ∀ x∈o.op.operands.toList,aD μ (ρ x) (a.eval x)) (hg:P.globals.size<=h.n0)
  (hbo : ∀ x∈o.op.operands.toList,bR h.next (ρ x)=true) (hbh:aA h) (e:opW P W o ρ h K):GoodW P o a μ h w K:=by
 unfold opW at e;split at e
 ·rename_i it heq;rw [heq] at hρ hbo;obtain ⟨l,hl,hk⟩:=e;intro r n K' Q hK;obtain ⟨p,hp,v',w',hrun,hS,hSt,hv⟩:=vu (P:=P) (ty:=o.type) S (hρ it (by simp [Op.operands])) hl;obtain ⟨hb1,hb2⟩:=bd_nexts hbh hl p hp;refine ⟨fun _ _=>trivial,?_⟩;rw [gH (x := .value v') (w':=w') (by unfold execOp;rw [heq];simp only [Sem.run_bind,hrun,Result.andThen_ok,Sem.run_pure]) (by intro d hd;cases hd)];exact hK p.1 p.2 μ v' w' (hk p hp) (wO hl p hp) hb1 hb2 hS hSt hv
 ·rename_i f args tys heq;rw [heq] at hρ hbo;have hfv:=hρ f (by simp [Op.operands,Call.operands]);have hff:=hbo f (by simp [Op.operands,Call.operands]);have hargs : ∀ x∈args.toList,aD μ (ρ x) (a.eval x):=fun x hx=>hρ x (by simp only [Op.operands,Call.operands,FR,EF];exact .inr hx)
  have hargb:cy h.next (args.toList.map ρ)=true:=by rw [dM];intro y hy;obtain ⟨x,hx,rfl⟩:=EL.1 hy;exact hbo x (by simp only [Op.operands,Call.operands,FR,EF];exact .inr hx)
  unfold callAW at e;split at e
  ·rename_i i first captured hfe
   obtain ⟨hi,e⟩:=e;rw [hfe] at hfv;obtain ⟨g,first',captured',hfe',hg',h1,h2⟩:=hfv.mS;cases hg';have hall:=(h1.append (lA hargs)).append h2;have hba:cy h.next (first.toList++args.toList.map ρ++captured.toList)=true:=by
    rw [hfe] at hff;obtain ⟨lf⟩:=first
    obtain ⟨lc⟩:=captured;simp only [bR,DN] at hff;exact bT (bT hff.2.1 hargb) hff.2.2
   have hcalls:=hW.run _ _ _ _ e hi hba hbh hg μ w _ S t hall;intro r n K' Q hK;refine ⟨fun _ _=>trivial,?_⟩;have hres:(execOp a.eval o).run P w=(callFunc i ((first'.toList++args.toList.map a.eval++captured'.toList).toArray)).run P w:=by
    unfold execOp;rw [heq];simp only;unfold resolve;simp only [hfe',Deferred.ofValue,Sem.run_bind,Sem.run_pure,Result.andThen_ok,invoke]
    congr 2
    apply HR;simp
   rcases hcalls with ⟨fn,hfn,hname,hbody,hcalls⟩|⟨v',w',hrun,v0,h0,hk,hgr,hb1,hb2,μ',v1,hv1,hS,hSt,hv⟩
   ·rw [gH (x := .enter i ((first'.toList++args.toList.map a.eval++captured'.toList).toArray)) (w':=w) (by rw [hres];unfold callFunc;simp only [Sem.run_bind,run_program,Result.andThen_ok,hfn,hname,hbody,DJ,D3,Sem.run_pure]) (by intro d hd;cases hd)]
    refine ⟨(fun h=>by cases h),?_⟩;refine (tQ hcalls).mono ?_;rintro e w' ⟨v0,h0,hk,hgr,hb1,hb2,μ',v',rfl,hS,hSt,hv⟩;exact hK v0 h0 μ' v' w' hk hgr hb1 hb2 hS hSt hv
   ·cases hv1;rw [gH (x := .value v') (w':=w') (by rw [hres];exact hrun) (by intro d hd;cases hd)];exact hK v0 h0 μ' v' w' hk hgr hb1 hb2 hS hSt hv
  ·rename_i l first captured hfe
   rw [hfe] at hfv;obtain ⟨g,first',captured',hfe',hg',h1,h2⟩:=hfv.mS;obtain ⟨L,hL,rfl⟩:=hg';have hall:=h1.append (lA hargs);have hba:cy h.next (first.toList++args.toList.map ρ)=true:=by
    rw [hfe] at hff;obtain ⟨lf⟩:=first
    obtain ⟨lc⟩:=captured;simp only [bR,DN] at hff;exact bT hff.2.1 hargb
   obtain ⟨fn,tmps,assign,body,hy,hround⟩:=hW.round _ _ _ _ e hba hbh hg μ w _ L S t hall hL;intro r n K' Q hK;refine ⟨fun _ _=>trivial,?_⟩;have hres:(execOp a.eval o).run P w = .ok (.round L.blk fn tmps assign body) w:=by
    unfold execOp;rw [heq];simp only;unfold resolve;simp only [hfe',Deferred.ofValue,Sem.run_bind,Sem.run_pure,Result.andThen_ok,invoke];have:first'++args.map a.eval=(first'.toList++args.toList.map a.eval).toArray:=by apply HR;simp
    rw [this];exact hy
   rw [gH hres (by intro d hd;cases hd)];refine ⟨(fun h=>by cases h),?_⟩;refine RoundIn.mono (F:=Fr r) (hround (n-1)) ?_;rintro e w' ⟨v0,h0,hk,hgr,hb1,hb2,μ',v',rfl,hS,hSt,hv⟩;exact hK v0 h0 μ' v' w' hk hgr hb1 hb2 hS hSt hv
  ·exact e.elim
 ·exact opW_det S t hρ hg hbo hbh e
def QW (s:Nat) (μ:Mu) (h:ae) (w:World) (K:Ex->aQ->ae->Prop) (Q:Exit->Act->World->Prop):Prop:=
 ∀ x e' h' a' w',K x e' h'->bp h h'->cy h'.next e'=true->aA h'->(∃ μ' rs,cn μ' h' w'/\ca μ h w μ' h' w'/\gU (dw rs) μ' e' a'/\kF s μ' h' w' rs)->Q (zG x) a' w'
def uU (P:Program) (C:ah) (W:dU) (c:Code):Prop:=
 ∀ (ro:Option Nat) (nd s:Nat) (rs:List Nat) (e:aQ) (h:ae) (K:Ex->aQ->ae->Prop) (μ:Mu) (a:Act) (w:World) (Q:Exit->Act->World->Prop),codeW P C W c e h K->P.globals.size<=h.n0->cy h.next e=true->aA h->cn μ h w->Top μ h ->
   gU (dw rs) μ e a->kF s μ h w rs->s<=w.heap.size->RoOk ro w->QW s μ h w K Q->c.wpIn (Fr ro) nd P Q a w
def rR (hW:mj P W) {ro:Option Nat} {nd s:Nat} {rs:List Nat} {ops:Array Oper} {Q:Exit->Act->World->Prop} : ∀ (l:List Oper) (k:Nat) {μ:Mu} {e:aQ} {h:ae} {K:aQ->ae->Prop} {a:Act} {w:World},ops.toList.drop k=l->l.all (nq P)=true ->
  ju P W ops l e h K->P.globals.size<=h.n0->cy h.next e=true->aA h->cn μ h w->Top μ h->gU (dw rs) μ e a->kF s μ h w rs ->
  (∀ e' h' a' w',K e' h'->bp h h'->cy h'.next e'=true->aA h'->(∃ μ' rs,cn μ' h' w'/\ca μ h w μ' h' w'/\gU (dw rs) μ' e' a'/\kF s μ' h' w' rs)->Q .normal a' w')->wpOpsIn (Fr ro) nd P ops Q (List.range' k l.length) a w
 | [],k,μ,e,h,K,a,w,_,_,he,_,hbe,hbh,S,t,r,m,hQ=>by simp only [List.length_nil,List.range'_zero,wpOpsIn];exact hQ e h a w he (bp.refl _) hbe hbh ⟨μ,rs,S,.bQ,r,m⟩
 |o::l,k,μ,e,h,K,a,w,hd,hok,he,hg,hbe,hbh,S,t,r,m,hQ=>by
  simp only [ju] at he;simp only [List.all_cons,DN] at hok;have hko:ops[k]? = some o:=by
   have:ops.toList[k]? = some o:=by have:=E2 (fun l=>l[0]?) hd;simpa using this
   simpa using this
  have hd':ops.toList.drop (k+1)=l:=by have:=E2 (List.drop 1) hd;rw [F4] at this;simpa [Nat.add_comm] using this
  simp only [List.length_cons,IY,wpOpsIn,hko,zd (ops:=ops) r] at he |-;by_cases hw:Region.wanted o (yielded ops a.tmps)=true
  ·rw [DR hw] at he |-;have hbo : ∀ x∈o.op.operands.toList,bR h.next (ev e x)=true:=fun x hx=>vw hg hbe (DX.1 hok.1 x hx);refine opW_sound hW (ρ:=ev e) S t (fun x hx=>ry S hg r (DX.1 hok.1 x hx)) hg hbo hbh he _ _ _ _ ?_;intro v h1 μ1 v' w1 hk hgr hb1 hb2 hS hSt hv;refine rR hW l (k+1) hd' hok.2 hk (by rw [hgr.2.1];exact hg) (lO (bW hgr.1 hbe) hb1) hb2 hS (t.step hSt) ((r.mono (hSt.mono t.free)).put o.dst hv) (m.step hSt) ?_;rintro e' h' a' w' hk' hgr' hb1' hb2' ⟨μ2,rs2,hS2,hSt2,r2,m2⟩;exact hQ e' h' a' w' hk' (hgr.trans hgr') hb1' hb2' ⟨μ2,rs2,hS2,hSt.trans hSt2,r2,m2⟩
  ·rw [DU hw] at he |-;exact ⟨fun _ _=>trivial,rR hW l (k+1) hd' hok.2 he hg (lO hbe rfl) hbh S t (r.put o.dst mX) m hQ⟩
def QW.trans {s:Nat} {μ μ1:Mu} {h h1:ae} {w w1:World} {K:Ex->aQ->ae->Prop} {Q:Exit->Act->World->Prop} (q:QW s μ h w K Q) (hgr:bp h h1) (st:ca μ h w μ1 h1 w1):QW s μ1 h1 w1 K Q:=by rintro x e' h' a' w' hk hg hb1 hb2 ⟨μ',rs,S,St,r,m⟩;exact q x e' h' a' w' hk (hgr.trans hg) hb1 hb2 ⟨μ',rs,S,st.trans St,r,m⟩
def xG {b:Code} (hb:uU P C W b) : ∀ (n:Nat) {e:aQ} {h:ae} {K:Ex->aQ->ae->Prop} {ro:Option Nat} {nd s:Nat} {rs:List Nat} {μ:Mu} {a:Act} {w:World} {Q:Exit->Act->World->Prop},oT (codeW P C W b) n e h K ->
  P.globals.size<=h.n0->cy h.next e=true->aA h->cn μ h w->Top μ h->gU (dw rs) μ e a->kF s μ h w rs->s<=w.heap.size->RoOk ro w->QW s μ h w K Q->Code.roundsIn (Fr ro) nd P b Q n a w
 | 0,_,_,_,_,_,_,_,_,_,_,_,he,_,_,_,_,_,_,_,_,_,_=>he.elim
 |n+1,e,h,K,ro,nd,s,rs,μ,a,w,Q,he,hg,hbe,hbh,S,t,r,hmk,hsz,hro,hQ=>by
  rw [oO];simp only [oT] at he;refine hb _ _ s rs _ _ _ _ _ _ _ he hg hbe hbh S t r hmk hsz hro ?_;rintro x e' h' a' w' hk hgr hb1 hb2 ⟨μ1,rs1,hS,hSt,hr,hmk1⟩;cases x with
  |normal=>exact xG hb n hk (by rw [hgr.2.1];exact hg) hb1 hb2 hS (t.step hSt) hr hmk1 (ED hsz hSt.size) (hro.step hSt) (hQ.trans hgr hSt)
  |ret=>exact hQ _ e' h' a' w' hk hgr hb1 hb2 ⟨μ1,rs1,hS,hSt,hr,hmk1⟩
  |exit i=>exact hQ _ e' h' a' w' hk hgr hb1 hb2 ⟨μ1,rs1,hS,hSt,hr,hmk1⟩
end
end
end Go.Abs
