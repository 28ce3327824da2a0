/-
  A part of the proof, spaces and names shortened by a program (a claim may hold 1,500,000 bytes).
  Conditions: as each theorem states.
-/
import Derived.Test.YtdnahgfgoajmcaaGreatDoorG6
namespace Go.Abs
section
inductive VT where
 |nil
 |node (l:VT) (v:Value) (r:VT)
noncomputable def pick3 {α:Type} (n:Nat) (a b c:α):α:=
 Bool.rec (motive:=fun _=>α) (Bool.rec (motive:=fun _=>α) c b (Nat.beq (n%2) 1)) a (Nat.beq n 0)
theorem pick3_eq {α:Type} (n:Nat) (a b c:α):pick3 n a b c=if n=0 then a else if n%2=1 then b else c:=by
 unfold pick3;cases h:Nat.beq n 0 with
 |true=>rw [DL (GQ h)]
 |false=>
  rw [DM (HQ h)];cases h2:Nat.beq (n%2) 1 with
  |true=>rw [DL (GQ h2)]
  |false=>rw [DM (HQ h2)]
noncomputable def VT.get (t:VT):Nat->Value:=
 VT.rec (motive:=fun _=>Nat->Value) (fun _=>undef) (fun _ v _ il ir n=>pick3 n v (il (n/2)) (ir (n/2-1))) t
noncomputable def VT.set (t:VT):Nat->Value->VT:=
 VT.rec (motive:=fun _=>Nat->Value->VT) (fun _ _ => .nil) (fun l x r il ir n v=>pick3 n (.node l v r) (.node (il (n/2) v) x r) (.node l x (ir (n/2-1) v))) t
noncomputable def VT.of (d:Nat):(Nat->Value)->VT:=
 Nat.rec (motive:=fun _=>(Nat->Value)->VT) (fun _ => .nil) (fun _ ih f => .node (ih fun i=>f (2*i+1)) (f 0) (ih fun i=>f (2*i+2))) d
def VT.has:VT->Nat->Prop
 | .nil,_=>False
 | .node l _ r,n=>if n=0 then True else if n%2=1 then l.has (n/2) else r.has (n/2-1)
theorem VT.mc (l:VT) (v:Value) (r:VT) (n:Nat):(VT.node l v r).get n=if n=0 then v else if n%2=1 then l.get (n/2) else r.get (n/2-1):=pick3_eq ..
theorem VT.set_node (l:VT) (x:Value) (r:VT) (n:Nat) (v:Value):(VT.node l x r).set n v=if n=0 then .node l v r else if n%2=1 then .node (l.set (n/2) v) x r else .node l x (r.set (n/2-1) v):=pick3_eq ..
theorem VT.of_succ (d:Nat) (f:Nat->Value):VT.of (d+1) f = .node (VT.of d fun i=>f (2*i+1)) (f 0) (VT.of d fun i=>f (2*i+2)):=rfl
theorem VT.oP : ∀ (t:VT) (n:Nat) (v:Value) (m:Nat),t.has n->(t.set n v).get m=if m=n then v else t.get m
 | .nil,n,v,m,h=>h.elim
 | .node l x r,n,v,m,h=>by
   rw [VT.set_node];simp only [VT.has] at h;by_cases h0:n=0
   ·subst h0;rw [DL rfl,VT.mc,VT.mc];by_cases hm:m=0
    ·simp [hm]
    ·simp [hm]
   ·rw [DM h0] at h |-;by_cases h1:n%2=1
    ·rw [DL h1] at h |-;rw [VT.mc,VT.mc];by_cases hm:m=0
     ·subst hm;rw [DL rfl,DL rfl,DM (fun h=>h0 h.symm)]
     ·rw [DM hm,DM hm];by_cases hm1:m%2=1
      ·rw [DL hm1,DL hm1,VT.oP l _ v _ h];by_cases e:m=n
       ·subst e;simp
       ·rw [DM e,DM (by omega)]
      ·rw [DM hm1,DM hm1,DM (by omega)]
    ·rw [DM h1] at h |-;rw [VT.mc,VT.mc];by_cases hm:m=0
     ·subst hm;rw [DL rfl,DL rfl,DM (fun h=>h0 h.symm)]
     ·rw [DM hm,DM hm];by_cases hm1:m%2=1
      ·rw [DL hm1,DL hm1,DM (by omega)]
      ·rw [DM hm1,DM hm1,VT.oP r _ v _ h];by_cases e:m=n
       ·subst e;simp
       ·rw [DM e,DM (by omega)]
theorem VT.Cs : ∀ (t:VT) (n:Nat) (v:Value) (m:Nat),(t.set n v).has m↔t.has m
 | .nil,n,v,m=>Iff.rfl
 | .node l x r,n,v,m=>by
   rw [VT.set_node];by_cases h0:n=0
   ·rw [DL h0];exact Iff.rfl
   ·rw [DM h0];by_cases h1:n%2=1
    ·rw [DL h1];simp only [VT.has];by_cases hm:m=0
     ·simp [hm]
     ·rw [DM hm,DM hm];split
      ·exact VT.Cs l ..
      ·exact Iff.rfl
    ·rw [DM h1];simp only [VT.has];by_cases hm:m=0
     ·simp [hm]
     ·rw [DM hm,DM hm];split
      ·exact Iff.rfl
      ·exact VT.Cs r ..
theorem VT.xw : ∀ (d:Nat) (f:Nat->Value) (i:Nat),i+1<2^d->(VT.of d f).has i/\(VT.of d f).get i=f i
 | 0,f,i,h=>by simp at h
 |d+1,f,i,h=>by
  rw [VT.of_succ,VT.mc];simp only [VT.has];by_cases h0:i=0
  ·subst h0;simp
  ·rw [DM h0,DM h0];have h2:2^(d+1)=2*2^d:=by rw [Nat.pow_succ];omega
   by_cases h1:i%2=1
   ·rw [DL h1,DL h1];obtain ⟨a,b⟩:=VT.xw d (fun i=>f (2*i+1)) (i/2) (by omega);exact ⟨a,by rw [b];congr 1;omega⟩
   ·rw [DM h1,DM h1];obtain ⟨a,b⟩:=VT.xw d (fun i=>f (2*i+2)) (i/2-1) (by omega);exact ⟨a,by rw [b];congr 1;omega⟩
structure vf (n:Nat) (t:VT) (e:aX):Prop where
 len:e.length=n
 fB : ∀ i,i<n->t.has i/\t.get i=e.getD i undef
noncomputable def lQ (n:Nat) (e:List Value):VT:=VT.of (Nat.log2 n+2) fun i=>e.getD i undef
theorem rep_of (e:aX):vf e.length (lQ e.length e) e:=by refine ⟨rfl,fun i hi=>VT.xw _ _ _ ?_⟩;have h1:e.length<2^(Nat.log2 e.length+1):=Nat.lt_log2_self;rw [Nat.pow_succ];omega
theorem rep_args (n:Nat) (args:List Value) (h:args.length<=n):vf n (lQ n args) (args++List.replicate (n-args.length) undef):=by
 refine ⟨by simp;omega,fun i hi => ?_⟩;have h1:n<2^(Nat.log2 n+1):=Nat.lt_log2_self;obtain ⟨a,b⟩:=VT.xw (Nat.log2 n+2) (fun i=>args.getD i undef) i (by rw [Nat.pow_succ];omega);refine ⟨a,?_⟩;unfold lQ;rw [b];rw [DJ,DJ];by_cases hl:i<args.length
 ·rw [E9 hl]
 ·rw [EH (by omega),ET (by omega),GY];split<;>rfl
noncomputable def toL (n:Nat) (t:VT):aX:=(List.range n).map t.get
theorem vf.toL {n:Nat} {t:VT} {e:aX} (r:vf n t e):toL n t=e:=by
 apply FU;intro i;unfold Abs.toL;rw [EN];by_cases hi:i<n
 ·rw [GJ hi,Option.map_some,(r.fB i hi).2];have:i<e.length:=by rw [r.len];exact hi
  simp [DB this]
 ·have : ¬i<e.length:=by rw [r.len];exact hi
  rw [ET (by simpa using hi),ET (by omega)];rfl
noncomputable def setT (n:Nat) (t:VT) (d:Option Tmp) (v:Value):VT:=
 match d with
 |some i=>match Nat.blt i n with
  |true=>t.set i v
  |false=>t
 |none=>t
theorem vf.put {n:Nat} {t:VT} {e:aX} (r:vf n t e) (d:Option Tmp) (v:Value):vf n (setT n t d v) (putD e d v):=by
 cases d with
 |none=>exact r
 |some i=>
  unfold setT putD;simp only;cases hb:Nat.blt i n with
  |true=>
   have hi:i<n:=by simpa using hb
   refine ⟨by simp [r.len],fun j hj=>⟨(VT.Cs ..).2 (r.fB j hj).1,?_⟩⟩;simp only;rw [VT.oP _ _ _ _ (r.fB i hi).1,(r.fB j hj).2,DJ,DJ,HG];by_cases e:j=i
   ·subst e;simp [r.len,hj]
   ·rw [DM e,DM (fun h=>e h.symm)]
  |false=>
   have hi : ¬i<n:=by intro h;rw [show Nat.blt i n=true by simpa using h] at hb;cases hb
   have:e.set i v=e:=List.set_eq_of_length_le (by rw [r.len];exact Nat.le_of_not_lt hi);rw [this];exact r
noncomputable def evT (n:Nat) (t:VT):Operand->Value
 | .tmp i=>match Nat.blt i n with
   |true=>t.get i
   |false=>undef
 | .const v=>v
 | .global g=>ptr g 0
 | .func f => .func (.func f) #[] #[]
theorem vf.ev {n:Nat} {t:VT} {e:aX} (r:vf n t e):ev e=evT n t:=by
 funext x
 cases x with
 |tmp i=>
  simp only [Abs.ev,evT];cases hb:Nat.blt i n with
  |true=>
   have hi:i<n:=by simpa using hb
   exact ((r.fB i hi).2).symm
  |false=>
   have hi : ¬i<n:=by intro h;rw [show Nat.blt i n=true by simpa using h] at hb;cases hb
   rw [DJ,ET (by rw [r.len];exact Nat.le_of_not_lt hi)];rfl
 |_=>rfl
noncomputable def u7 (n:Nat) (ops:Array Oper) (t:VT) (j:Nat):Option Bool:=
 match (ops[j]?).bind (·.dst) with
 |some i=>match Nat.blt i n with
  |true=>cn (t.get i)
  |false=>none
 |none=>none
theorem vf.yield {n:Nat} {t:VT} {e:aX} (r:vf n t e) (ops:Array Oper) (j:Nat):iM ops e j=u7 n ops t j:=by
 unfold iM u7;cases (ops[j]?).bind (·.dst) with
 |none=>rfl
 |some i=>
  simp only [Option.bind_some];cases hb:Nat.blt i n with
  |true=>
   have hi:i<n:=by simpa using hb
   have:i<e.length:=by rw [r.len];exact hi
   rw [(r.fB i hi).2,DJ,DB this];simp only [Option.getD_some];cases e[i]<;>rfl
  |false=>
   have hi : ¬i<n:=by intro h;rw [show Nat.blt i n=true by simpa using h] at hb;cases hb
   rw [ET (by rw [r.len];exact Nat.le_of_not_lt hi)]
section
variable {α:Type} (P:Program) (C:au) (n:Nat)
noncomputable def opsF (ops:Array Oper) (os:List Oper):VT->ai->(VT->ai->Option α)->Option α:=
 List.rec (motive:=fun _=>VT->ai->(VT->ai->Option α)->Option α) (fun t h k=>k t h)
  (fun o _ ih t h k=>
   match o.guard with
   |none=>af (opA P C o (evT n t) h) fun v h'=>ih (setT n t o.dst v) h' k
   |some (j,want)=>af (ay (u7 n ops t j==some want) (opA P C o (evT n t) h) h) fun v h'=>ih (setT n t o.dst v) h' k) os
theorem si (ops:Array Oper) : ∀ (os:List Oper) {t:VT} {e:aX} {h:ai} {k:VT->ai->Option α} {a:α},vf n t e->opsF P C n ops os t h k=some a ->
  ∃ e' h' t',opsA P C ops os e h=some (e',h')/\vf n t' e'/\k t' h'=some a
 | [],t,e,h,k,a,r,he=>⟨e,h,t,rfl,r,he⟩
 |o::os,t,e,h,k,a,r,he=>by
  have ih := @si ops os;have he:(match o.guard with
   |none=>af (opA P C o (evT n t) h) fun v h'=>opsF P C n ops os (setT n t o.dst v) h' k
   |some (j,want)=>af (ay (u7 n ops t j==some want) (opA P C o (evT n t) h) h) fun v h'=>opsF P C n ops os (setT n t o.dst v) h' k)=some a:=he
  unfold opsA stepA iZ;cases hg:o.guard with
  |none=>
   rw [hg] at he;simp only [EA] at he |-;rw [r.ev];cases ho:opA P C o (evT n t) h with
   |none=>rw [ho] at he;cases he
   |some x=>
    obtain ⟨v,h'⟩:=x;rw [ho] at he;obtain ⟨e',h2,t',h3,h4,h5⟩:=ih (r.put o.dst v) he;exact ⟨e',h2,t',h3,h4,h5⟩
  |some g=>
   obtain ⟨j,want⟩:=g;rw [hg] at he;simp only at he |-;rw [<-r.yield] at he;by_cases hy:(iM ops e j==some want)=true
   ·rw [hy] at he;rw [DL hy,r.ev];simp only [ay] at he;cases ho:opA P C o (evT n t) h with
    |none=>rw [ho] at he;cases he
    |some x=>
     obtain ⟨v,h'⟩:=x;rw [ho] at he;obtain ⟨e',h2,t',h3,h4,h5⟩:=ih (r.put o.dst v) he;exact ⟨e',h2,t',h3,h4,h5⟩
   ·rw [DM hy];rw [HY] at hy;rw [hy] at he;simp only [ay,af] at he;obtain ⟨e',h2,t',h3,h4,h5⟩:=ih (r.put o.dst undef) he;exact ⟨e',h2,t',h3,h4,h5⟩
noncomputable def xD (ops:Array Oper) (draw:Bool) (t:VT) (h:ai) (k:VT->ai->Option α):Option α:=
 match draw with
 |false=>opsF P C n ops ops.toList t h k
 |true=>match qs P ops with
  |true=>opsF P C n ops ((late P ops).map (·.2)) t h k
  |false=>match regionA P C ops true (toL n t) h with
   |some (e',h')=>k (lQ n e') h'
   |none=>none
theorem rO (ops:Array Oper) (draw:Bool) {t:VT} {e:aX} {h:ai} {k:VT->ai->Option α} {a:α} (r:vf n t e) (he:xD P C n ops draw t h k=some a) :
  ∃ e' h' t',regionA P C ops draw e h=some (e',h')/\vf n t' e'/\k t' h'=some a:=by
 unfold xD at he;cases draw with
 |false=>exact si P C n ops _ r he
 |true=>
  simp only at he;cases hl:qs P ops with
  |true=>
   rw [hl] at he;obtain ⟨e',h',t',h1,h2,h3⟩:=si P C n ops _ r he;refine ⟨e',h',t',?_,h2,h3⟩;unfold regionA;have hl2:=hl;unfold qs at hl;rw [DK] at hl;rw [DL rfl,DL hl.1];rw [<-nM] at h1;cases ht:traceA P C ops (late P ops) e h with
   |none=>rw [ht] at h1;cases h1
   |some x=>
    obtain ⟨tr,e2,h4⟩:=x;rw [ht] at h1;cases h1;simp only;rw [DL (zW hl.2 tr h')]
  |false=>
   rw [hl] at he;simp only at he;rw [r.toL] at he;cases hr:regionA P C ops true e h with
   |none=>rw [hr] at he;cases he
   |some x=>
    obtain ⟨e',h'⟩:=x;rw [hr] at he;have hlen:e'.length=n:=by
     rw [<-r.len];unfold regionA at hr;rw [DL rfl] at hr;split at hr
     ·split at hr
      ·rename_i tr e2 h2 ht;split at hr
       ·cases hr;have h1:opsA P C ops ((late P ops).map (·.2)) e h=some (e',h'):=by rw [<-nM,ht];rfl
        have : ∀ (os:List Oper) (e:aX) (h:ai) (e':aX) (h':ai),opsA P C ops os e h=some (e',h')->e'.length=e.length:=by
         intro os;induction os with
         |nil=>intro e h e' h' he;simp only [opsA,DA,DN] at he;rw [he.1]
         |cons o os ih=>
          intro e h e' h' he;simp only [opsA] at he;split at he
          ·rename_i e1 h1 hs;have h2:=ih _ _ _ _ he;rw [h2];unfold stepA at hs;split at hs
           ·split at hs
            ·cases hs;exact qE ..
            ·cases hs
           ·cases hs;exact qE ..
          ·cases he
        exact this _ _ _ _ _ h1
       ·cases hr
      ·cases hr
     ·cases hr
    refine ⟨e',h',lQ n e',rfl,?_,he⟩;subst hlen;exact rep_of e'
noncomputable def condF (v:Value) (a b:Option α):Option α:=
 match v with
 | .bool true=>a
 | .bool false=>b
 |_=>none
noncomputable def leave (id i:Nat) (k x:Option α):Option α:=Bool.rec (motive:=fun _=>Option α) x k (Nat.beq i id)
noncomputable def loopF (b:VT->ai->(VT->ai->Option α)->Option α) (fuel:Nat):VT->ai->Option α:=
 Nat.rec (motive:=fun _=>VT->ai->Option α) (fun _ _=>none) (fun _ ih t h=>b t h ih) fuel
noncomputable def cameF (o:Option (Ex×aX×ai)) (t:VT) (k r:VT->ai->Option α) (x:Nat->VT->ai->Option α):Option α:=
 match o with
 |some (.normal,_,h)=>k t h
 |some (.ret,_,h)=>r t h
 |some (.exit i,_,h)=>x i t h
 |none=>none
theorem range_env {P:Program} {C:au} {g:Operand} {ps:Array Tmp} {as b:Code} {e e':aX} {h h':ai} {x:Ex} (he:codeA P C (.rangeFunc g ps as b) e h=some (x,e',h')):e'=e:=by obtain ⟨_,_,_,_,_,_,_,_,hl⟩:=mB he;obtain ⟨_,_,_,_,_,_,_,_,_,h2,_⟩:=eu hl;exact h2
noncomputable def rQ (fuel:Nat) (c:Code):VT->ai->(VT->ai->Option α)->(VT->ai->Option α)->(Nat->VT->ai->Option α)->Option α:=
 Code.rec (motive:=fun _=>VT->ai->(VT->ai->Option α)->(VT->ai->Option α)->(Nat->VT->ai->Option α)->Option α)
  (fun t h k _ _=>k t h)
  (fun _ ops draw t h k _ _=>xD P C n ops draw t h k)
  (fun _ _ ia ib t h k r x=>ia t h (fun t' h'=>ib t' h' k r x) r x)
  (fun q _ _ ia ib t h k r x=>condF (evT n t q) (ia t h k r x) (ib t h k r x))
  (fun id _ ib t h k r x=>ib t h k r (fun i t' h'=>leave id i (k t' h') (x i t' h')))
  (fun _ ib t h _ r x=>loopF (fun t h k=>ib t h k r x) fuel t h)
  (fun g ps a b _ _ t h k r x=>cameF (codeA P C (.rangeFunc g ps a b) (toL n t) h) t k r x)
  (fun i t h _ _ x=>x i t h)
  (fun _ ib t h k r x=>ib t h k r x)
  (fun _ t h k _ _=>k t h)
  (fun _ _ _ _ _ _=>none)
  (fun t h _ r _=>r t h)
  (fun _ _ _ _ _ _=>none) c
def Came (a:α) (k r:VT->ai->Option α) (x:Nat->VT->ai->Option α) (ex:Ex) (t:VT) (h:ai):Prop:=
 match ex with
 | .normal=>k t h=some a
 | .ret=>r t h=some a
 | .exit i=>x i t h=some a
theorem ez (fuel:Nat) (hfuel:fuel<=aD) : ∀ (c:Code) {t:VT} {e:aX} {h:ai} {k r:VT->ai->Option α} {x:Nat->VT->ai->Option α} {a:α},vf n t e->rQ P C n fuel c t h k r x=some a ->
  ∃ ex e' h' t',codeA P C c e h=some (ex,e',h')/\vf n t' e'/\Came a k r x ex t' h'
 | .skip,t,e,h,k,r,x,a,hr,he=>⟨.normal,e,h,t,rfl,hr,he⟩
 | .region _ ops d,t,e,h,k,r,x,a,hr,he=>by obtain ⟨e',h',t',h1,h2,h3⟩:=rO P C n ops d hr he;exact ⟨.normal,e',h',t',by simp only [codeA,h1],h2,h3⟩
 | .seq c d,t,e,h,k,r,x,a,hr,he=>by
   obtain ⟨ex,e',h',t',h1,h2,h3⟩:=ez fuel hfuel c (k:=fun t' h'=>rQ P C n fuel d t' h' k r x) hr he;cases ex with
   |normal=>
    obtain ⟨ex2,e2,h4,t2,h5,h6,h7⟩:=ez fuel hfuel d h2 h3;exact ⟨ex2,e2,h4,t2,by simp only [codeA,h1];exact h5,h6,h7⟩
   |ret=>exact ⟨.ret,e',h',t',by simp only [codeA,h1],h2,h3⟩
   |exit i=>exact ⟨.exit i,e',h',t',by simp only [codeA,h1],h2,h3⟩
 | .cond q c d,t,e,h,k,r,x,a,hr,he=>by
   have he:condF (evT n t q) (rQ P C n fuel c t h k r x) (rQ P C n fuel d t h k r x)=some a:=he;unfold condF at he;unfold codeA;rw [hr.ev];split at he
   ·rename_i hv;rw [hv];exact ez fuel hfuel c hr he
   ·rename_i hv;rw [hv];exact ez fuel hfuel d hr he
   ·cases he
 | .block id b,t,e,h,k,r,x,a,hr,he=>by
   obtain ⟨ex,e',h',t',h1,h2,h3⟩:=ez fuel hfuel b (x:=fun i t' h'=>leave id i (k t' h') (x i t' h')) hr he;cases ex with
   |normal=>exact ⟨.normal,e',h',t',by simp only [codeA,h1],h2,h3⟩
   |ret=>exact ⟨.ret,e',h',t',by simp only [codeA,h1],h2,h3⟩
   |exit i=>
    simp only [Came,leave] at h3;cases hb:Nat.beq i id with
    |true=>
     rw [hb] at h3;exact ⟨.normal,e',h',t',by simp only [codeA,h1];rw [DL (GQ hb)],h2,h3⟩
    |false=>
     rw [hb] at h3;exact ⟨.exit i,e',h',t',by simp only [codeA,h1];rw [DM (HQ hb)],h2,h3⟩
 | .loop b,t,e,h,k,r,x,a,hr,he=>by
   have he:loopF (fun t h k=>rQ P C n fuel b t h k r x) fuel t h=some a:=he;have main : ∀ (f m:Nat) (t:VT) (e:aX) (h:ai),f<=m->vf n t e->loopF (fun t h k=>rQ P C n fuel b t h k r x) f t h=some a ->
     ∃ ex e' h' t',iter (codeA P C b) m e h=some (ex,e',h')/\vf n t' e'/\ex ≠ .normal/\Came a k r x ex t' h':=by
    intro f;induction f with
    |zero=>intro m t e h _ _ he;cases he
    |succ f ih=>
     intro m t e h hm hr he;obtain ⟨m,rfl⟩ : ∃ m',m=m'+1:=⟨m-1,by omega⟩
     obtain ⟨ex,e',h',t',h1,h2,h3⟩:=ez fuel hfuel b (k:=fun t h=>loopF (fun t h k=>rQ P C n fuel b t h k r x) f t h) hr he;cases ex with
     |normal=>
      obtain ⟨ex2,e2,h4,t2,h5,h6,h7⟩:=ih m t' e' h' (by omega) h2 h3;exact ⟨ex2,e2,h4,t2,by simp only [iter,h1];exact h5,h6,h7⟩
     |ret=>exact ⟨.ret,e',h',t',by simp only [iter,h1],h2,by simp,h3⟩
     |exit i=>exact ⟨.exit i,e',h',t',by simp only [iter,h1],h2,by simp,h3⟩
   obtain ⟨ex,e',h',t',h1,h2,h3,h4⟩:=main fuel aD t e h hfuel hr he;refine ⟨ex,e',h',t',h1,h2,h4⟩
 | .exit i,t,e,h,k,r,x,a,hr,he=>⟨.exit i,e,h,t,rfl,hr,he⟩
 | .scope b,t,e,h,k,r,x,a,hr,he=>by have:=ez fuel hfuel b hr he;exact this
 | .label _,t,e,h,k,r,x,a,hr,he=>⟨.normal,e,h,t,rfl,hr,he⟩
 | .ret,t,e,h,k,r,x,a,hr,he=>⟨.ret,e,h,t,rfl,hr,he⟩
 | .goto _,t,e,h,k,r,x,a,hr,he=>by cases he
 | .rangeFunc g ps as b,t,e,h,k,r,x,a,hr,he=>by
   have he:cameF (codeA P C (.rangeFunc g ps as b) (toL n t) h) t k r x=some a:=he;rw [hr.toL] at he;unfold cameF at he;cases hc:codeA P C (.rangeFunc g ps as b) e h with
   |none=>rw [hc] at he;cases he
   |some y=>
    obtain ⟨ex,e',h'⟩:=y;rw [hc] at he;have he':=range_env hc;subst he';refine ⟨ex,e',h',t,rfl,hr,?_⟩;cases ex<;>exact he
 | .refuse _,t,e,h,k,r,x,a,hr,he=>by cases he
end
noncomputable def resT (P:Program) (n:Nat) (rs:List ResultVar) (t:VT) (h:ai):bc:=resultsA P rs (toL n t) h
noncomputable def bodyF (P:Program) (C:au) (fuel:Nat) (fn:Func) (args:List Value) (h:ai):bc:=
 match fn.body with
 |none=>none
 |some c=>match Nat.ble args.length fn.ntmps with
  |true=>rQ P C fn.ntmps fuel c (lQ fn.ntmps args) h (resT P fn.ntmps fn.results.toList) (resT P fn.ntmps fn.results.toList) (fun _ _ _=>none)
  |false=>none
theorem bodyF_sound (P:Program) (C:au) (fuel:Nat) (hfuel:fuel<=aD) {fn:Func} {args:List Value} {h:ai} {a:Value×ai} (he:bodyF P C fuel fn args h=some a):bodyA P C fn args h=some a:=by
 unfold bodyF at he;unfold bodyA;cases hb:fn.body with
 |none=>rw [hb] at he;cases he
 |some c=>
  rw [hb] at he;simp only at he |-;cases hn:Nat.ble args.length fn.ntmps with
  |false=>rw [hn] at he;cases he
  |true=>
   rw [hn] at he;obtain ⟨ex,e',h',t',h1,h2,h3⟩:=ez P C fn.ntmps fuel hfuel c (rep_args _ args (EY hn)) he;rw [h1];cases ex with
   |normal=>simp only [Came,resT] at h3;rw [h2.toL] at h3;exact h3
   |ret=>simp only [Came,resT] at h3;rw [h2.toL] at h3;exact h3
   |exit i=>cases h3
noncomputable def roundF (P:Program) (C:au) (fuel:Nat) (l:Nat) (args:List Value) (h:ai):bc:=
 match h.getB l with
 |some (.obj (.loop _ _ tmps params assign body))=>
  match Nat.beq args.length params.length&&(codeOk P assign&&codeOk P body) with
  |true=>rQ P C tmps.length fuel assign (lQ tmps.length (fo tmps (params.zip args))) h
    (fun t h1=>match h1.getB l with
     |some (.obj (.loop .ready p1 t1 q1 a1 b1))=>rQ P C tmps.length fuel body t (h1.setO l (.loop .busy p1 t1 q1 a1 b1)) (fun _ h2=>ff l .normal h2) (fun _ h2=>ff l .ret h2) (fun i _ h2=>ff l (.exit i) h2)
     |_=>none) (fun _ _=>none) (fun _ _ _=>none)
  |false=>none
 |_=>none
theorem nH : ∀ {e:aX} (l:List (Tmp×Value)),(fo e l).length=e.length
 |e,[]=>rfl
 |e,(t,v)::l=>by simp only [fo];rw [nH l];simp
theorem Cz (P:Program) (C:au) (fuel:Nat) (hfuel:fuel<=aD) {l:Nat} {args:List Value} {h:ai} {a:Value×ai} (he:roundF P C fuel l args h=some a):roundA P C l args h=some a:=by
 unfold roundF at he;unfold roundA;split at he
 ·rename_i st p0 tmps params assign body hg;rw [hg];simp only;split at he
  ·rename_i hb;rw [DK,DK] at hb;rw [DL ⟨GQ hb.1,hb.2.1,hb.2.2⟩];have hrep:vf tmps.length (lQ tmps.length (fo tmps (params.zip args))) (fo tmps (params.zip args)):=by have:=rep_of (fo tmps (params.zip args));rw [nH] at this;exact this
   obtain ⟨ex,e1,h1,t1,hc1,r1,c1⟩:=ez P C _ fuel hfuel assign hrep he;rw [hc1];cases ex with
   |ret=>cases c1
   |exit i=>cases c1
   |normal=>
    simp only [Came] at c1;simp only;split at c1
    ·rename_i p1 t1' q1 a1 b1 hg1;rw [hg1];simp only;obtain ⟨ex2,e2,h2,t2,hc2,r2,c2⟩:=ez P C _ fuel hfuel body r1 c1;rw [hc2];cases ex2<;>exact c2
    ·cases c1
  ·cases he
 ·cases he
noncomputable def pb (P:Program) (ok:FuncId->Bool) (X:au) (sm:FuncId->Bool) (fuel:Nat) (k:Nat):au:=
 Nat.rec (motive:=fun _=>au) (fun _ _ _=>none)
  (fun _ ih f args h=>
   match sm f with
   |true=>X f args h
   |false=>match ok f with
    |true=>match Nat.ble P.globals.size h.n0 with
     |true=>match P.funcs[f]? with
      |some fn=>bodyF P ih fuel fn args h
      |none=>none
     |false=>none
    |false=>match Nat.ble P.funcs.size f&&Nat.ble P.globals.size h.n0 with
     |true=>roundF P ih fuel (f-P.funcs.size) args h
     |false=>none) k
theorem wQ {P:Program} {ok:FuncId->Bool} {X:au} {sm:FuncId->Bool} {fuel:Nat} (hX:bp P X) (hfuel:fuel<=aD) (hm:P.follows .mixedOrders=true) (hok : ∀ f fn,ok f=true->P.funcs[f]? = some fn->pH P fn=true) :
  ∀ k,bp P (pb P ok X sm fuel k)
 | 0=>⟨(by intro f args h v h' e;cases e),(by intro f args h v h' e;cases e),(by intro f args h v h' e;cases e),(by intro f args h v h' e;cases e)⟩
 |k+1=>by
  have ih:=wQ (sm:=sm) hX hfuel hm hok k;have key : ∀ {f args h v h'},pb P ok X sm fuel (k+1) f args h=some (v,h')->X f args h=some (v,h')\/(∃ fn,P.funcs[f]? = some fn/\pH P fn=true/\P.globals.size<=h.n0/\bodyA P (pb P ok X sm fuel k) fn args h=some (v,h')) \/
    (P.funcs.size<=f/\P.globals.size<=h.n0/\roundA P (pb P ok X sm fuel k) (f-P.funcs.size) args h=some (v,h')):=by
   intro f args h v h' he;have he:(match sm f with
   |true=>X f args h
   |false=>match ok f with
    |true=>match Nat.ble P.globals.size h.n0 with
     |true=>match P.funcs[f]? with
      |some fn=>bodyF P (pb P ok X sm fuel k) fuel fn args h
      |none=>none
     |false=>none
    |false=>match Nat.ble P.funcs.size f&&Nat.ble P.globals.size h.n0 with
     |true=>roundF P (pb P ok X sm fuel k) fuel (f-P.funcs.size) args h
     |false=>none)=some (v,h'):=he
   cases h0:sm f with
   |true=>rw [h0] at he;exact .inl he
   |false=>
    rw [h0] at he;cases h1:ok f with
    |false=>
     rw [h1] at he;cases h2:(Nat.ble P.funcs.size f&&Nat.ble P.globals.size h.n0) with
     |false=>rw [h2] at he;cases he
     |true=>
      rw [h2] at he;rw [DK] at h2;exact .inr (.inr ⟨EY h2.1,EY h2.2,Cz P _ fuel hfuel he⟩)
    |true=>
     rw [h1] at he;cases h2:Nat.ble P.globals.size h.n0 with
     |false=>rw [h2] at he;cases he
     |true=>
      rw [h2] at he;cases h3:P.funcs[f]? with
      |none=>simp only [h3] at he;cases he
      |some fn=>
       simp only [h3] at he;exact .inr (.inl ⟨fn,rfl,hok f fn h1 h3,EY h2,bodyF_sound P _ fuel hfuel he⟩)
  refine ⟨?_,?_,?_,?_⟩
  ·intro f args h v h' he;rcases key he with h0|⟨fn,h1,h2,h3,h4⟩|⟨h1,h2,h3⟩
   ·exact hX.grow _ _ _ _ _ h0
   ·exact zo ih h4
   ·exact wS ih h3
  ·intro f args h v h' he hba hbh;rcases key he with h0|⟨fn,h1,h2,h3,h4⟩|⟨h1,h2,h3⟩
   ·exact hX.bd _ _ _ _ _ h0 hba hbh
   ·exact bodyA_bd ih h2 h3 h4 hba hbh
   ·exact BL ih h3 h2 hba hbh
  ·intro f args h v h' he hf hba hbh hg μ w args' S hfr r;rcases key he with h0|⟨fn,h1,h2,h3,h4⟩|⟨h1,_⟩
   ·exact hX.run _ _ _ _ _ h0 hf hba hbh hg μ w args' S hfr r
   ·cases hb:fn.body with
    |none=>unfold bodyA at h4;rw [hb] at h4;cases h4
    |some c=>
     have hco:codeOk P c=true:=by unfold pH at h2;rw [hb] at h2;simp only [DK] at h2;exact h2.2
     have h2':=h2;unfold pH at h2';rw [DK,FW] at h2';exact .inl ⟨fn,h1,h2'.1,by rw [hb];rfl,yR ih hm h1 hb hco h4 hg hba hbh S hfr r⟩
   ·exact absurd hf (IK.2 h1)
  ·intro l args h v h' he hba hbh hg μ w args' L S hfr r hL;rcases key he with h0|⟨fn,h1,_⟩|⟨_,_,h2⟩
   ·exact hX.round _ _ _ _ _ h0 hba hbh hg μ w args' L S hfr r hL
   ·exact absurd (DT.1 h1).1 (IK.2 (H9 _ _))
   ·rw [show BS P l-P.funcs.size=l from FO _ _] at h2;exact wo ih hm h2 hg hba hbh S hfr r hL
end
section
def dJ (n:Nat) (Inv:Nat->(Nat->Value)->ai->Prop) (fin:Ex->(Nat->Value)->ai->Prop) (k:Nat) (o:Option (Ex×aX×ai)):Prop:=
 ∃ ex x' h',o=some (ex,aK n x',h')/\((ex = .normal /\ ∃ j,j<k/\Inv j x' h')\/(ex ≠ .normal/\fin ex x' h'))
def Fin (n:Nat) (fin:Ex->(Nat->Value)->ai->Prop) (o:Option (Ex×aX×ai)):Prop := ∃ ex x' h',o=some (ex,aK n x',h')/\fin ex x' h'
section
variable {n:Nat} {Inv:Nat->(Nat->Value)->ai->Prop} {fin:Ex->(Nat->Value)->ai->Prop} {k:Nat}
theorem dJ.next {x':Nat->Value} {h':ai} (j:Nat) (hj:j<k) (hi:Inv j x' h'):dJ n Inv fin k (some (.normal,aK n x',h')):=⟨_,_,_,rfl,.inl ⟨rfl,j,hj,hi⟩⟩
theorem dJ.out {x':Nat->Value} {h':ai} (i:Nat) (hi:fin (.exit i) x' h'):dJ n Inv fin k (some (.exit i,aK n x',h')):=⟨_,_,_,rfl,.inr ⟨by simp,hi⟩⟩
theorem dJ.ret {x':Nat->Value} {h':ai} (hi:fin .ret x' h'):dJ n Inv fin k (some (.ret,aK n x',h')):=⟨_,_,_,rfl,.inr ⟨by simp,hi⟩⟩
theorem bC {P:Program} {C:au} {b:Code} {T:(Nat->Value)->ai->Option (Ex×aX×ai)} (hT : ∀ x h,codeA P C b (aK n x) h=T x h)
  (hs : ∀ k x h,Inv k x h->dJ n Inv fin k (T x h)) {x:Nat->Value} {h:ai} (k:Nat) (hk:k<aD) (hi:Inv k x h):Fin n fin (iter (codeA P C b) aD (aK n x) h):=
 loop_inv hT hs hk hi
theorem bH {α:Type} {Q:Option α->Prop} {o:Option (Ex×aX×ai)} {r:aX->ai->Option α} {x:Nat->aX->ai->Option α} (f:Fin n fin o)
  (h : ∀ ex x' h',fin ex x' h'->Q (fe (some (ex,aK n x',h')) r x)):Q (fe o r x):=by
 obtain ⟨ex,x',h',rfl,hf⟩:=f;exact h ex x' h' hf
end
theorem iD {P:Program} {rs:List ResultVar} {n t:Nat} (hr:rs = [.tmp t]) (ht:t<n) (x:Nat->Value) (h:ai):resultsA P rs (aK n x) h=some (x t,h):=by
 subst hr;have:(aK n x).getD t undef=x t:=by unfold aK;rw [DJ,EN,GJ ht];rfl
 simp only [resultsA,gh,Option.map_some,this]
end
end Go.Abs
namespace Go.Proofs.YtdnahgfgoajmcaaGreatDoor
open Go Go.Abs
end Go.Proofs.YtdnahgfgoajmcaaGreatDoor
