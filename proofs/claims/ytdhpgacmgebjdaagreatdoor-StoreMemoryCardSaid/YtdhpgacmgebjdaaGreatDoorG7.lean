/-
  A part of the proof, shortened by a program.
  Conditions: as each theorem states.
-/
import Derived.Test.YtdhpgacmgebjdaaGreatDoorG6
set_option linter.all false
namespace Go.Abs
noncomputable section
inductive VT where
 |nil
 |node (l:VT) (v:Vl) (r:VT)
def VT.get (t:VT):Nat->Vl:=
 VT.rec (motive:=fun _=>Nat->Vl) (fun _=>undef) (fun _ v _ il ir n=>Nat.rec (motive:=fun _=>Vl) v (fun m _=>Bool.rec (motive:=fun _=>Vl) (il (Nat.div m 2)) (ir (Nat.div m 2)) (Nat.beq (Nat.mod m 2) 1)) n) t
def VT.set (t:VT):Nat->Vl->VT:=
 VT.rec (motive:=fun _=>Nat->Vl->VT) (fun _ _ => .nil) (fun l x r il ir n v=>Nat.rec (motive:=fun _=>VT) (.node l v r) (fun m _=>Bool.rec (motive:=fun _=>VT) (.node (il (Nat.div m 2) v) x r) (.node l x (ir (Nat.div m 2) v)) (Nat.beq (Nat.mod m 2) 1)) n) t
def VT.of (d:Nat):(Nat->Vl)->VT:=
 Nat.rec (motive:=fun _=>(Nat->Vl)->VT) (fun _ => .nil) (fun _ ih f => .node (ih fun i=>f (2*i+1)) (f 0) (ih fun i=>f (2*i+2))) d
def VT.has:VT->Nat->Prop
 | .nil,_=>False
 | .node l _ r,n=>if n=0 then True else if n%2=1 then l.has (n/2) else r.has (n/2-1)
def VT.lv (l:VT) (v:Vl) (r:VT) (n:Nat):(VT.node l v r).get n=if n=0 then v else if n%2=1 then l.get (n/2) else r.get (n/2-1):=by
 cases n with
 |zero=>rfl
 |succ m=>
  show Bool.rec (motive:=fun _=>Vl) (l.get (m/2)) (r.get (m/2)) (Nat.beq (m%2) 1)=_;rw [DL (by omega)];by_cases h:m%2=1
  ·rw [h,DL (by omega),show (m+1)/2-1=m/2 by omega];rfl
  ·rw [show m%2=0 by omega,DH (by omega),show (m+1)/2=m/2 by omega];rfl
def VT.set_node (l:VT) (x:Vl) (r:VT) (n:Nat) (v:Vl):(VT.node l x r).set n v=if n=0 then .node l v r else if n%2=1 then .node (l.set (n/2) v) x r else .node l x (r.set (n/2-1) v):=by
 cases n with
 |zero=>rfl
 |succ m=>
  show Bool.rec (motive:=fun _=>VT) (.node (l.set (m/2) v) x r) (.node l x (r.set (m/2) v)) (Nat.beq (m%2) 1)=_;rw [DL (by omega)];by_cases h:m%2=1
  ·rw [h,DL (by omega),show (m+1)/2-1=m/2 by omega];rfl
  ·rw [show m%2=0 by omega,DH (by omega),show (m+1)/2=m/2 by omega];rfl
def VT.of_succ (d:Nat) (f:Nat->Vl):VT.of (d+1) f = .node (VT.of d fun i=>f (2*i+1)) (f 0) (VT.of d fun i=>f (2*i+2)):=rfl
def VT.oq : ∀ (t:VT) (n:Nat) (v:Vl) (m:Nat),t.has n->(t.set n v).get m=if m=n then v else t.get m
 | .nil,n,v,m,h=>h.elim
 | .node l x r,n,v,m,h=>by
   rw [VT.set_node];simp only [VT.has] at h;by_cases h0:n=0
   ·subst h0;rw [DH rfl,VT.lv,VT.lv];by_cases hm:m=0
    ·simp [hm]
    ·simp [hm]
   ·rw [DL h0] at h |-;by_cases h1:n%2=1
    ·rw [DH h1] at h |-;rw [VT.lv,VT.lv];by_cases hm:m=0
     ·subst hm;rw [DH rfl,DH rfl,DL (fun h=>h0 h.symm)]
     ·rw [DL hm,DL hm];by_cases hm1:m%2=1
      ·rw [DH hm1,DH hm1,VT.oq l _ v _ h];by_cases e:m=n
       ·subst e;simp
       ·rw [DL e,DL (by omega)]
      ·rw [DL hm1,DL hm1,DL (by omega)]
    ·rw [DL h1] at h |-;rw [VT.lv,VT.lv];by_cases hm:m=0
     ·subst hm;rw [DH rfl,DH rfl,DL (fun h=>h0 h.symm)]
     ·rw [DL hm,DL hm];by_cases hm1:m%2=1
      ·rw [DH hm1,DH hm1,DL (by omega)]
      ·rw [DL hm1,DL hm1,VT.oq r _ v _ h];by_cases e:m=n
       ·subst e;simp
       ·rw [DL e,DL (by omega)]
def VT.C9 : ∀ (t:VT) (n:Nat) (v:Vl) (m:Nat),(t.set n v).has m↔t.has m
 | .nil,n,v,m=>Iff.rfl
 | .node l x r,n,v,m=>by
   rw [VT.set_node];by_cases h0:n=0
   ·rw [DH h0];exact Iff.rfl
   ·rw [DL h0];by_cases h1:n%2=1
    ·rw [DH h1];simp only [VT.has];by_cases hm:m=0
     ·simp [hm]
     ·rw [DL hm,DL hm];split
      ·exact VT.C9 l ..
      ·exact Iff.rfl
    ·rw [DL h1];simp only [VT.has];by_cases hm:m=0
     ·simp [hm]
     ·rw [DL hm,DL hm];split
      ·exact Iff.rfl
      ·exact VT.C9 r ..
def VT.wU : ∀ (d:Nat) (f:Nat->Vl) (i:Nat),i+1<2^d->(VT.of d f).has i/\(VT.of d f).get i=f i
 | 0,f,i,h=>by simp at h
 |d+1,f,i,h=>by
  rw [VT.of_succ,VT.lv];simp only [VT.has];by_cases h0:i=0
  ·subst h0;simp
  ·rw [DL h0,DL h0];have h2:2^(d+1)=2*2^d:=by rw [Nat.pow_succ];omega
   by_cases h1:i%2=1
   ·rw [DH h1,DH h1];obtain ⟨a,b⟩:=VT.wU d (fun i=>f (2*i+1)) (i/2) (by omega);exact ⟨a,by rw [b];congr 1;omega⟩
   ·rw [DL h1,DL h1];obtain ⟨a,b⟩:=VT.wU d (fun i=>f (2*i+2)) (i/2-1) (by omega);exact ⟨a,by rw [b];congr 1;omega⟩
structure Bi (n:Nat) (t:VT) (e:aO):Prop where
 len:e.length=n
 at_ : ∀ i,i<n->t.has i/\t.get i=e.getD i undef
def qz (n:Nat) (e:List Vl):VT:=VT.of (Nat.log2 n+2) fun i=>e.getD i undef
def rep_of (e:aO):Bi e.length (qz e.length e) e:=by refine ⟨rfl,fun i hi=>VT.wU _ _ _ ?_⟩;have h1:e.length<2^(Nat.log2 e.length+1):=Nat.lt_log2_self;rw [Nat.pow_succ];omega
def rep_args (n:Nat) (args:List Vl) (h:args.length<=n):Bi n (qz n args) (args++List.replicate (n-args.length) undef):=by
 refine ⟨by simp;omega,fun i hi => ?_⟩;have h1:n<2^(Nat.log2 n+1):=Nat.lt_log2_self;obtain ⟨a,b⟩:=VT.wU (Nat.log2 n+2) (fun i=>args.getD i undef) i (by rw [Nat.pow_succ];omega);refine ⟨a,?_⟩;unfold qz;rw [b];rw [DK,DK];by_cases hl:i<args.length
 ·rw [EI hl]
 ·rw [DX (by omega),EN (by omega),HE];split<;>rfl
def toL (n:Nat) (t:VT):aO:=(List.range n).map t.get
def Bi.toL {n:Nat} {t:VT} {e:aO} (r:Bi n t e):toL n t=e:=by
 apply FC;intro i;unfold Abs.toL;rw [D4];by_cases hi:i<n
 ·rw [FZ hi,Option.map_some,(r.at_ i hi).2];have:i<e.length:=by rw [r.len];exact hi
  simp [DE this]
 ·have : ¬i<e.length:=by rw [r.len];exact hi
  rw [EN (by simpa using hi),EN (by omega)];rfl
def setT (n:Nat) (t:VT) (d:Option Tmp) (v:Vl):VT:=
 match d with
 |some i=>match Nat.blt i n with
  |true=>t.set i v
  |false=>t
 |none=>t
def Bi.put {n:Nat} {t:VT} {e:aO} (r:Bi n t e) (d:Option Tmp) (v:Vl):Bi n (setT n t d v) (putD e d v):=by
 cases d with
 |none=>exact r
 |some i=>
  unfold setT putD;simp only;cases hb:Nat.blt i n with
  |true=>
   have hi:i<n:=by simpa using hb
   refine ⟨by simp [r.len],fun j hj=>⟨(VT.C9 ..).2 (r.at_ j hj).1,?_⟩⟩;simp only;rw [VT.oq _ _ _ _ (r.at_ i hi).1,(r.at_ j hj).2,DK,DK,FU];by_cases e:j=i
   ·subst e;simp [r.len,hj]
   ·rw [DL e,DL (fun h=>e h.symm)]
  |false=>
   have hi : ¬i<n:=by intro h;rw [show Nat.blt i n=true by simpa using h] at hb;cases hb
   have:e.set i v=e:=List.set_eq_of_length_le (by rw [r.len];exact Nat.le_of_not_lt hi);rw [this];exact r
def evT (n:Nat) (t:VT):Operand->Vl
 | .tmp i=>match Nat.blt i n with
   |true=>t.get i
   |false=>undef
 | .const v=>v
 | .global g=>ptr g 0
 | .func f => .func (.func f) #[] #[]
def Bi.ev {n:Nat} {t:VT} {e:aO} (r:Bi n t e):ev e=evT n t:=by
 funext x
 cases x with
 |tmp i=>
  simp only [Abs.ev,evT];cases hb:Nat.blt i n with
  |true=>
   have hi:i<n:=by simpa using hb
   exact ((r.at_ i hi).2).symm
  |false=>
   have hi : ¬i<n:=by intro h;rw [show Nat.blt i n=true by simpa using h] at hb;cases hb
   rw [DK,EN (by rw [r.len];exact Nat.le_of_not_lt hi)];rfl
 |_=>rfl
def Bp (n:Nat) (ops:Array Oper) (t:VT) (j:Nat):Option Bool:=
 match (ops[j]?).bind (·.dst) with
 |some i=>match Nat.blt i n with
  |true=>bt (t.get i)
  |false=>none
 |none=>none
def Bi.yield {n:Nat} {t:VT} {e:aO} (r:Bi n t e) (ops:Array Oper) (j:Nat):iW ops e j=Bp n ops t j:=by
 unfold iW Bp;cases (ops[j]?).bind (·.dst) with
 |none=>rfl
 |some i=>
  simp only [Option.bind_some];cases hb:Nat.blt i n with
  |true=>
   have hi:i<n:=by simpa using hb
   have:i<e.length:=by rw [r.len];exact hi
   rw [(r.at_ i hi).2,DK,DE this];simp only [Option.getD_some];cases e[i]<;>rfl
  |false=>
   have hi : ¬i<n:=by intro h;rw [show Nat.blt i n=true by simpa using h] at hb;cases hb
   rw [EN (by rw [r.len];exact Nat.le_of_not_lt hi)]
section
variable {α:Type} (P:Program) (C:ah) (n:Nat)
def opsF (ops:Array Oper) (os:List Oper):VT->ae->(VT->ae->Option α)->Option α:=
 List.rec (motive:=fun _=>VT->ae->(VT->ae->Option α)->Option α) (fun t h k=>k t h)
  (fun o _ ih t h k=>
   match o.guard with
   |none=>aa (opK o.op P C (evT n t) h) fun v h'=>ih (setT n t o.dst v) h' k
   |some (j,want)=>aa (al (Bp n ops t j==some want) (opK o.op P C (evT n t) h) h) fun v h'=>ih (setT n t o.dst v) h' k) os
def sJ (ops:Array Oper) : ∀ (os:List Oper) {t:VT} {e:aO} {h:ae} {k:VT->ae->Option α} {a:α},Bi n t e->opsF P C n ops os t h k=some a ->
  ∃ e' h' t',opsA P C ops os e h=some (e',h')/\Bi n t' e'/\k t' h'=some a
 | [],t,e,h,k,a,r,he=>⟨e,h,t,rfl,r,he⟩
 |o::os,t,e,h,k,a,r,he=>by
  have ih := @sJ ops os;have he:(match o.guard with
   |none=>aa (opK o.op P C (evT n t) h) fun v h'=>opsF P C n ops os (setT n t o.dst v) h' k
   |some (j,want)=>aa (al (Bp n ops t j==some want) (opK o.op P C (evT n t) h) h) fun v h'=>opsF P C n ops os (setT n t o.dst v) h' k)=some a:=he
  simp only [opK_eq] at he;unfold opsA stepA ki;cases hg:o.guard with
  |none=>
   rw [hg] at he;simp only [DV] at he |-;rw [r.ev];cases ho:opA P C o (evT n t) h with
   |none=>rw [ho] at he;cases he
   |some x=>
    obtain ⟨v,h'⟩:=x;rw [ho] at he;obtain ⟨e',h2,t',h3,h4,h5⟩:=ih (r.put o.dst v) he;exact ⟨e',h2,t',h3,h4,h5⟩
  |some g=>
   obtain ⟨j,want⟩:=g;rw [hg] at he;simp only at he |-;rw [<-r.yield] at he;by_cases hy:(iW ops e j==some want)=true
   ·rw [hy] at he;rw [DH hy,r.ev];simp only [al] at he;cases ho:opA P C o (evT n t) h with
    |none=>rw [ho] at he;cases he
    |some x=>
     obtain ⟨v,h'⟩:=x;rw [ho] at he;obtain ⟨e',h2,t',h3,h4,h5⟩:=ih (r.put o.dst v) he;exact ⟨e',h2,t',h3,h4,h5⟩
   ·rw [DL hy];rw [HU] at hy;rw [hy] at he;simp only [al,aa] at he;obtain ⟨e',h2,t',h3,h4,h5⟩:=ih (r.put o.dst undef) he;exact ⟨e',h2,t',h3,h4,h5⟩
def CZ (ops:Array Oper) (draw:Bool) (t:VT) (h:ae) (k:VT->ae->Option α):Option α:=
 match draw with
 |false=>opsF P C n ops ops.toList t h k
 |true=>match qs P ops with
  |true=>opsF P C n ops ((late P ops).map (·.2)) t h k
  |false=>match regionA P C ops true (toL n t) h with
   |some (e',h')=>k (qz n e') h'
   |none=>none
def zW (ops:Array Oper) (draw:Bool) {t:VT} {e:aO} {h:ae} {k:VT->ae->Option α} {a:α} (r:Bi n t e) (he:CZ P C n ops draw t h k=some a) :
  ∃ e' h' t',regionA P C ops draw e h=some (e',h')/\Bi n t' e'/\k t' h'=some a:=by
 unfold CZ at he;cases draw with
 |false=>exact sJ P C n ops _ r he
 |true=>
  simp only at he;cases hl:qs P ops with
  |true=>
   rw [hl] at he;obtain ⟨e',h',t',h1,h2,h3⟩:=sJ P C n ops _ r he;refine ⟨e',h',t',?_,h2,h3⟩;unfold regionA;have hl2:=hl;unfold qs at hl;rw [DD] at hl;rw [DH rfl,DH hl.1];rw [<-nm] at h1;cases ht:traceA P C ops (late P ops) e h with
   |none=>rw [ht] at h1;cases h1
   |some x=>
    obtain ⟨tr,e2,h4⟩:=x;rw [ht] at h1;cases h1;simp only;rw [DH (yA hl.2 tr h')]
  |false=>
   rw [hl] at he;simp only at he;rw [r.toL] at he;cases hr:regionA P C ops true e h with
   |none=>rw [hr] at he;cases he
   |some x=>
    obtain ⟨e',h'⟩:=x;rw [hr] at he;have hlen:e'.length=n:=by
     rw [<-r.len];unfold regionA at hr;rw [DH rfl] at hr;split at hr
     ·split at hr
      ·rename_i tr e2 h2 ht;split at hr
       ·cases hr;have h1:opsA P C ops ((late P ops).map (·.2)) e h=some (e',h'):=by rw [<-nm,ht];rfl
        have : ∀ (os:List Oper) (e:aO) (h:ae) (e':aO) (h':ae),opsA P C ops os e h=some (e',h')->e'.length=e.length:=by
         intro os;induction os with
         |nil=>intro e h e' h' he;simp only [opsA,DA,DF] at he;rw [he.1]
         |cons o os ih=>
          intro e h e' h' he;simp only [opsA] at he;split at he
          ·rename_i e1 h1 hs;have h2:=ih _ _ _ _ he;rw [h2];unfold stepA at hs;split at hs
           ·split at hs
            ·cases hs;exact pc ..
            ·cases hs
           ·cases hs;exact pc ..
          ·cases he
        exact this _ _ _ _ _ h1
       ·cases hr
      ·cases hr
     ·cases hr
    refine ⟨e',h',qz n e',rfl,?_,he⟩;subst hlen;exact rep_of e'
def condF (v:Vl) (a b:Option α):Option α:=
 match v with
 | .bool true=>a
 | .bool false=>b
 |_=>none
def AW (id i:Nat) (k x:Option α):Option α:=Bool.rec (motive:=fun _=>Option α) x k (Nat.beq i id)
def loopF (b:VT->ae->(VT->ae->Option α)->Option α) (fuel:Nat):VT->ae->Option α:=
 Nat.rec (motive:=fun _=>VT->ae->Option α) (fun _ _=>none) (fun _ ih t h=>b t h ih) fuel
def cameF (o:Option (Ex×aO×ae)) (t:VT) (k r:VT->ae->Option α) (x:Nat->VT->ae->Option α):Option α:=
 match o with
 |some (.normal,_,h)=>k t h
 |some (.ret,_,h)=>r t h
 |some (.exit i,_,h)=>x i t h
 |none=>none
def range_env {P:Program} {C:ah} {g:Operand} {ps:Array Tmp} {as b:Code} {e e':aO} {h h':ae} {x:Ex} (he:codeA P C (.rangeFunc g ps as b) e h=some (x,e',h')):e'=e:=by obtain ⟨_,_,_,_,_,_,_,_,hl⟩:=mB he;obtain ⟨_,_,_,_,_,_,_,_,_,h2,_⟩:=jI hl;exact h2
def rK (fuel:Nat) (c:Code):VT->ae->(VT->ae->Option α)->(VT->ae->Option α)->(Nat->VT->ae->Option α)->Option α:=
 Code.rec (motive:=fun _=>VT->ae->(VT->ae->Option α)->(VT->ae->Option α)->(Nat->VT->ae->Option α)->Option α)
  (fun t h k _ _=>k t h)
  (fun _ ops draw t h k _ _=>CZ P C n ops draw t h k)
  (fun _ _ ia ib t h k r x=>ia t h (fun t' h'=>ib t' h' k r x) r x)
  (fun q _ _ ia ib t h k r x=>condF (evT n t q) (ia t h k r x) (ib t h k r x))
  (fun id _ ib t h k r x=>ib t h k r (fun i t' h'=>AW id i (k t' h') (x i t' h')))
  (fun _ ib t h _ r x=>loopF (fun t h k=>ib t h k r x) fuel t h)
  (fun g ps a b _ _ t h k r x=>cameF (codeA P C (.rangeFunc g ps a b) (toL n t) h) t k r x)
  (fun i t h _ _ x=>x i t h)
  (fun _ ib t h k r x=>ib t h k r x)
  (fun _ t h k _ _=>k t h)
  (fun _ _ _ _ _ _=>none)
  (fun t h _ r _=>r t h)
  (fun _ _ _ _ _ _=>none) c
def Came (a:α) (k r:VT->ae->Option α) (x:Nat->VT->ae->Option α) (ex:Ex) (t:VT) (h:ae):Prop:=
 match ex with
 | .normal=>k t h=some a
 | .ret=>r t h=some a
 | .exit i=>x i t h=some a
def dR (fuel:Nat) (hfuel:fuel<=az) : ∀ (c:Code) {t:VT} {e:aO} {h:ae} {k r:VT->ae->Option α} {x:Nat->VT->ae->Option α} {a:α},Bi n t e->rK P C n fuel c t h k r x=some a ->
  ∃ ex e' h' t',codeA P C c e h=some (ex,e',h')/\Bi n t' e'/\Came a k r x ex t' h'
 | .skip,t,e,h,k,r,x,a,hr,he=>⟨.normal,e,h,t,rfl,hr,he⟩
 | .region _ ops d,t,e,h,k,r,x,a,hr,he=>by obtain ⟨e',h',t',h1,h2,h3⟩:=zW P C n ops d hr he;exact ⟨.normal,e',h',t',by simp only [codeA,h1],h2,h3⟩
 | .seq c d,t,e,h,k,r,x,a,hr,he=>by
   obtain ⟨ex,e',h',t',h1,h2,h3⟩:=dR fuel hfuel c (k:=fun t' h'=>rK P C n fuel d t' h' k r x) hr he;cases ex with
   |normal=>
    obtain ⟨ex2,e2,h4,t2,h5,h6,h7⟩:=dR fuel hfuel d h2 h3;exact ⟨ex2,e2,h4,t2,by simp only [codeA,h1];exact h5,h6,h7⟩
   |ret=>exact ⟨.ret,e',h',t',by simp only [codeA,h1],h2,h3⟩
   |exit i=>exact ⟨.exit i,e',h',t',by simp only [codeA,h1],h2,h3⟩
 | .cond q c d,t,e,h,k,r,x,a,hr,he=>by
   have he:condF (evT n t q) (rK P C n fuel c t h k r x) (rK P C n fuel d t h k r x)=some a:=he;unfold condF at he;unfold codeA;rw [hr.ev];split at he
   ·rename_i hv;rw [hv];exact dR fuel hfuel c hr he
   ·rename_i hv;rw [hv];exact dR fuel hfuel d hr he
   ·cases he
 | .block id b,t,e,h,k,r,x,a,hr,he=>by
   obtain ⟨ex,e',h',t',h1,h2,h3⟩:=dR fuel hfuel b (x:=fun i t' h'=>AW id i (k t' h') (x i t' h')) hr he;cases ex with
   |normal=>exact ⟨.normal,e',h',t',by simp only [codeA,h1],h2,h3⟩
   |ret=>exact ⟨.ret,e',h',t',by simp only [codeA,h1],h2,h3⟩
   |exit i=>
    simp only [Came,AW] at h3;cases hb:Nat.beq i id with
    |true=>
     rw [hb] at h3;exact ⟨.normal,e',h',t',by simp only [codeA,h1];rw [DH (FW hb)],h2,h3⟩
    |false=>
     rw [hb] at h3;exact ⟨.exit i,e',h',t',by simp only [codeA,h1];rw [DL (GB hb)],h2,h3⟩
 | .loop b,t,e,h,k,r,x,a,hr,he=>by
   have he:loopF (fun t h k=>rK P C n fuel b t h k r x) fuel t h=some a:=he;have main : ∀ (f m:Nat) (t:VT) (e:aO) (h:ae),f<=m->Bi n t e->loopF (fun t h k=>rK P C n fuel b t h k r x) f t h=some a ->
     ∃ ex e' h' t',iter (codeA P C b) m e h=some (ex,e',h')/\Bi n t' e'/\ex ≠ .normal/\Came a k r x ex t' h':=by
    intro f;induction f with
    |zero=>intro m t e h _ _ he;cases he
    |succ f ih=>
     intro m t e h hm hr he;obtain ⟨m,rfl⟩ : ∃ m',m=m'+1:=⟨m-1,by omega⟩
     obtain ⟨ex,e',h',t',h1,h2,h3⟩:=dR fuel hfuel b (k:=fun t h=>loopF (fun t h k=>rK P C n fuel b t h k r x) f t h) hr he;cases ex with
     |normal=>
      obtain ⟨ex2,e2,h4,t2,h5,h6,h7⟩:=ih m t' e' h' (by omega) h2 h3;exact ⟨ex2,e2,h4,t2,by simp only [iter,h1];exact h5,h6,h7⟩
     |ret=>exact ⟨.ret,e',h',t',by simp only [iter,h1],h2,by simp,h3⟩
     |exit i=>exact ⟨.exit i,e',h',t',by simp only [iter,h1],h2,by simp,h3⟩
   obtain ⟨ex,e',h',t',h1,h2,h3,h4⟩:=main fuel az t e h hfuel hr he;refine ⟨ex,e',h',t',h1,h2,h4⟩
 | .exit i,t,e,h,k,r,x,a,hr,he=>⟨.exit i,e,h,t,rfl,hr,he⟩
 | .scope b,t,e,h,k,r,x,a,hr,he=>by have:=dR fuel hfuel b hr he;exact this
 | .label _,t,e,h,k,r,x,a,hr,he=>⟨.normal,e,h,t,rfl,hr,he⟩
 | .ret,t,e,h,k,r,x,a,hr,he=>⟨.ret,e,h,t,rfl,hr,he⟩
 | .goto _,t,e,h,k,r,x,a,hr,he=>by cases he
 | .rangeFunc g ps as b,t,e,h,k,r,x,a,hr,he=>by
   have he:cameF (codeA P C (.rangeFunc g ps as b) (toL n t) h) t k r x=some a:=he;rw [hr.toL] at he;unfold cameF at he;cases hc:codeA P C (.rangeFunc g ps as b) e h with
   |none=>rw [hc] at he;cases he
   |some y=>
    obtain ⟨ex,e',h'⟩:=y;rw [hc] at he;have he':=range_env hc;subst he';refine ⟨ex,e',h',t,rfl,hr,?_⟩;cases ex<;>exact he
 | .refuse _,t,e,h,k,r,x,a,hr,he=>by cases he
end
def resT (P:Program) (n:Nat) (rs:List ResultVar) (t:VT) (h:ae):aY:=resultsA P rs (toL n t) h
def bodyF (P:Program) (C:ah) (fuel:Nat) (fn:Func) (args:List Vl) (h:ae):aY:=
 match fn.body with
 |none=>none
 |some c=>match Nat.ble args.length fn.ntmps with
  |true=>rK P C fn.ntmps fuel c (qz fn.ntmps args) h (resT P fn.ntmps fn.results.toList) (resT P fn.ntmps fn.results.toList) (fun _ _ _=>none)
  |false=>none
def bodyF_sound (P:Program) (C:ah) (fuel:Nat) (hfuel:fuel<=az) {fn:Func} {args:List Vl} {h:ae} {a:Vl×ae} (he:bodyF P C fuel fn args h=some a):bodyA P C fn args h=some a:=by
 unfold bodyF at he;unfold bodyA;cases hb:fn.body with
 |none=>rw [hb] at he;cases he
 |some c=>
  rw [hb] at he;simp only at he |-;cases hn:Nat.ble args.length fn.ntmps with
  |false=>rw [hn] at he;cases he
  |true=>
   rw [hn] at he;obtain ⟨ex,e',h',t',h1,h2,h3⟩:=dR P C fn.ntmps fuel hfuel c (rep_args _ args (EH hn)) he;rw [h1];cases ex with
   |normal=>simp only [Came,resT] at h3;rw [h2.toL] at h3;exact h3
   |ret=>simp only [Came,resT] at h3;rw [h2.toL] at h3;exact h3
   |exit i=>cases h3
def roundF (P:Program) (C:ah) (fuel:Nat) (l:Nat) (args:List Vl) (h:ae):aY:=
 match h.getB l with
 |some (.obj (.loop _ _ tmps params assign body))=>
  match Nat.beq args.length params.length&&(codeOk P assign&&codeOk P body) with
  |true=>rK P C tmps.length fuel assign (qz tmps.length (iq tmps (params.zip args))) h
    (fun t h1=>match h1.getB l with
     |some (.obj (.loop .ready p1 t1 q1 a1 b1))=>rK P C tmps.length fuel body t (h1.setO l (.loop .busy p1 t1 q1 a1 b1)) (fun _ h2=>gX l .normal h2) (fun _ h2=>gX l .ret h2) (fun i _ h2=>gX l (.exit i) h2)
     |_=>none) (fun _ _=>none) (fun _ _ _=>none)
  |false=>none
 |_=>none
def rG : ∀ {e:aO} (l:List (Tmp×Vl)),(iq e l).length=e.length
 |e,[]=>rfl
 |e,(t,v)::l=>by simp only [iq];rw [rG l];simp
def CX (P:Program) (C:ah) (fuel:Nat) (hfuel:fuel<=az) {l:Nat} {args:List Vl} {h:ae} {a:Vl×ae} (he:roundF P C fuel l args h=some a):roundA P C l args h=some a:=by
 unfold roundF at he;unfold roundA;split at he
 ·rename_i st p0 tmps params assign body hg;rw [hg];simp only;split at he
  ·rename_i hb;rw [DD,DD] at hb;rw [DH ⟨FW hb.1,hb.2.1,hb.2.2⟩];have hrep:Bi tmps.length (qz tmps.length (iq tmps (params.zip args))) (iq tmps (params.zip args)):=by have:=rep_of (iq tmps (params.zip args));rw [rG] at this;exact this
   obtain ⟨ex,e1,h1,t1,hc1,r1,c1⟩:=dR P C _ fuel hfuel assign hrep he;rw [hc1];cases ex with
   |ret=>cases c1
   |exit i=>cases c1
   |normal=>
    simp only [Came] at c1;simp only;split at c1
    ·rename_i p1 t1' q1 a1 b1 hg1;rw [hg1];simp only;obtain ⟨ex2,e2,h2,t2,hc2,r2,c2⟩:=dR P C _ fuel hfuel body r1 c1;rw [hc2];cases ex2<;>exact c2
    ·cases c1
  ·cases he
 ·cases he
def yg (P:Program) (ok:FuncId->Bool) (X:ah) (sm:FuncId->Bool) (T:FuncId->Option (ah->List Vl->ae->aY)) (fuel:Nat) (k:Nat):ah:=
 Nat.rec (motive:=fun _=>ah) (fun _ _ _=>none)
  (fun _ ih f args h=>
   match sm f with
   |true=>X f args h
   |false=>match T f with
    |some t=>match Nat.ble P.globals.size h.n0 with
     |true=>t ih args h
     |false=>none
    |none=>match ok f with
     |true=>match Nat.ble P.globals.size h.n0 with
      |true=>match P.funcs[f]? with
       |some fn=>bodyF P ih fuel fn args h
       |none=>none
      |false=>none
     |false=>match Nat.ble P.funcs.size f&&Nat.ble P.globals.size h.n0 with
      |true=>roundF P ih fuel (f-P.funcs.size) args h
      |false=>none) k
def dE (n:Nat) (Inv:Nat->(Nat->Vl)->ae->Prop) (fin:Ex->(Nat->Vl)->ae->Prop) (k:Nat) (o:Option (Ex×aO×ae)):Prop:=
 ∃ ex x' h',o=some (ex,aS n x',h')/\((ex = .normal /\ ∃ j,j<k/\Inv j x' h')\/(ex ≠ .normal/\fin ex x' h'))
def Fin (n:Nat) (fin:Ex->(Nat->Vl)->ae->Prop) (o:Option (Ex×aO×ae)):Prop := ∃ ex x' h',o=some (ex,aS n x',h')/\fin ex x' h'
section
variable {n:Nat} {Inv:Nat->(Nat->Vl)->ae->Prop} {fin:Ex->(Nat->Vl)->ae->Prop} {k:Nat}
def dE.next {x':Nat->Vl} {h':ae} (j:Nat) (hj:j<k) (hi:Inv j x' h'):dE n Inv fin k (some (.normal,aS n x',h')):=⟨_,_,_,rfl,.inl ⟨rfl,j,hj,hi⟩⟩
def dE.out {x':Nat->Vl} {h':ae} (i:Nat) (hi:fin (.exit i) x' h'):dE n Inv fin k (some (.exit i,aS n x',h')):=⟨_,_,_,rfl,.inr ⟨by simp,hi⟩⟩
def dE.ret {x':Nat->Vl} {h':ae} (hi:fin .ret x' h'):dE n Inv fin k (some (.ret,aS n x',h')):=⟨_,_,_,rfl,.inr ⟨by simp,hi⟩⟩
def bL {P:Program} {C:ah} {b:Code} {T:(Nat->Vl)->ae->Option (Ex×aO×ae)} (hT : ∀ x h,codeA P C b (aS n x) h=T x h)
  (hs : ∀ k x h,Inv k x h->dE n Inv fin k (T x h)) {x:Nat->Vl} {h:ae} (k:Nat) (hk:k<az) (hi:Inv k x h):Fin n fin (iter (codeA P C b) az (aS n x) h):=
 tc hT hs hk hi
def cH {α:Type} {Q:Option α->Prop} {o:Option (Ex×aO×ae)} {r:aO->ae->Option α} {x:Nat->aO->ae->Option α} (f:Fin n fin o)
  (h : ∀ ex x' h',fin ex x' h'->Q (dH (some (ex,aS n x',h')) r x)):Q (dH o r x):=by
 obtain ⟨ex,x',h',rfl,hf⟩:=f;exact h ex x' h' hf
end
def res_one {P:Program} {rs:List ResultVar} {n t:Nat} (hr:rs = [.tmp t]) (ht:t<n) (x:Nat->Vl) (h:ae):resultsA P rs (aS n x) h=some (x t,h):=by
 subst hr;have:(aS n x).getD t undef=x t:=by unfold aS;rw [DK,D4,FZ ht];rfl
 simp only [resultsA,dy,Option.map_some,this]
def Top (μ:Mu) (h:ae):Prop := ∀ b,h.next<=b->μ b=none
def Top.free {μ:Mu} {h h':ae} (t:Top μ h):fi μ h h':=fun b h1 _=>t b h1
abbrev mr:=FuncId->List Vl->ae->(Vl->ae->Prop)->Prop
def ofC (C:ah):mr:=fun f args h K => ∃ v h',C f args h=some (v,h')/\K v h'
def AfterW (μ:Mu) (h:ae) (w:World) (K:Vl->ae->Prop) (e:Ending) (w':World):Prop:=
 ∃ v h',K v h'/\bH h h'/\b9 h'.next v=true/\aE h'/\pS μ h w v h' e w'
structure WSound (P:Program) (W:mr):Prop where
 run : ∀ f args h K,W f args h K->f<P.funcs.size->cT h.next args=true->aE h->P.globals.size<=h.n0 -> ∀ μ w args',cD μ h w->Top μ h->aT μ args args'->Runs P f args'.toArray w (AfterW μ h w K)
 round : ∀ l args h K,W (zh P l) args h K->cT h.next args=true->aE h->P.globals.size<=h.n0 -> ∀ μ w args' L,cD μ h w->Top μ h->aT μ args args'->μ l=some L ->
  ∃ fn tmps assign body,(Instr.yield L.blk args'.toArray).run P w = .ok (.round L.blk fn tmps assign body) w /\ ∀ n,RoundIn (Fr none) n P L.blk fn tmps assign body w (AfterW μ h w K)
def Bh {P:Program} {C:ah} (hC:bk P C):WSound P (ofC C):=by
 have up : ∀ {f args h v h'} {K:Vl->ae->Prop} {μ w},C f args h=some (v,h')->K v h'->cT h.next args=true->aE h -> ∀ e w',pS μ h w v h' e w'->AfterW μ h w K e w':=by intro f args h v h' K μ w he hk hb hh e w' ha;obtain ⟨h1,h2⟩:=hC.bd _ _ _ _ _ he hb hh;exact ⟨v,h',hk,hC.grow _ _ _ _ _ he,h1,h2,ha⟩
 refine ⟨?_,?_⟩
 ·rintro f args h K ⟨v,h',he,hk⟩ hf hb hh hg μ w args' S t r;exact (hC.run _ _ _ _ _ he hf hb hh hg μ w args' S t.free r).mono (up he hk hb hh)
 ·rintro l args h K ⟨v,h',he,hk⟩ hb hh hg μ w args' L S t r hL;obtain ⟨fn,tmps,assign,body,h1,h2⟩:=hC.round _ _ _ _ _ he hb hh hg μ w args' L S t.free r hL;exact ⟨fn,tmps,assign,body,h1,fun n=>(h2 n).mono (up he hk hb hh)⟩
def callAW (P:Program) (W:mr) (f:Vl) (args:List Vl) (h:ae) (K:Vl->ae->Prop):Prop:=
 match f with
 | .func (.func i) first captured=>i<P.funcs.size/\W i (first.toList++args++captured.toList) h K
 | .func (.yield l) first _=>W (zh P l) (first.toList++args) h K
 |_=>False
def noC:ah:=fun _ _ _=>none
def noC_sound (P:Program):bk P noC:=⟨by simp [noC],by simp [noC],by simp [noC],by simp [noC]⟩
def opW (P:Program) (W:mr) (o:Oper) (ρ:Operand->Vl) (h:ae) (K:Vl->ae->Prop):Prop:=
 match o.op with
 | .next it false => ∃ l,nextsA (ρ it) h=some l /\ ∀ r∈l,K r.1 r.2
 | .call { callee := .value f,args,.. }=>callAW P W (ρ f) (args.toList.map ρ) h K
 |_ => ∃ v h',opA P noC o ρ h=some (v,h')/\K v h'
def opsW (P:Program) (W:mr) (ops:Array Oper):List Oper->aO->ae->(aO->ae->Prop)->Prop
 | [],e,h,K=>K e h
 |o::rest,e,h,K=>if ki ops o e=true then opW P W o (ev e) h fun v h'=>opsW P W ops rest (putD e o.dst v) h' K else opsW P W ops rest (putD e o.dst undef) h K
def iterW (step:aO->ae->(Ex->aO->ae->Prop)->Prop):Nat->aO->ae->(Ex->aO->ae->Prop)->Prop
 | 0,_,_,_=>False
 |n+1,e,h,K=>step e h fun x e' h'=>match x with
  | .normal=>iterW step n e' h' K
  |x=>K x e' h'
def rH (P:Program) (C:ah) (W:mr):Code->aO->ae->(Ex->aO->ae->Prop)->Prop
 | .skip,e,h,K=>K .normal e h
 | .region _ ops draw,e,h,K=>match draw with
   |true => ∃ e' h',regionA P C ops true e h=some (e',h')/\K .normal e' h'
   |false=>opsW P W ops ops.toList e h (K .normal)
 | .seq a b,e,h,K=>rH P C W a e h fun x e' h'=>match x with
   | .normal=>rH P C W b e' h' K
   |x=>K x e' h'
 | .cond c a b,e,h,K=>match ev e c with
   | .bool true=>rH P C W a e h K
   | .bool false=>rH P C W b e h K
   |_=>False
 | .block id b,e,h,K=>rH P C W b e h fun x e' h'=>match x with
   | .exit i=>K (if i=id then .normal else .exit i) e' h'
   |x=>K x e' h'
 | .loop b,e,h,K=>iterW (rH P C W b) az e h K
 | .exit i,e,h,K=>K (.exit i) e h
 | .scope b,e,h,K=>rH P C W b e h K
 | .label _,e,h,K=>K .normal e h
 | .ret,e,h,K=>K .ret e h
 | .rangeFunc g ps a b,e,h,K=>match ev e g with
   | .func (.func i) first captured=>hasBody P i=true/\W i (first.toList ++ [.func (.yield h.next) #[] #[]]++captured.toList) (h.ba (.obj (.loop .ready none e ps.toList a b)))
     fun _ h2 => ∃ x e' h',endLoopA h.next e h2=some (x,e',h')/\K x e' h'
   |_=>False
 | .goto _,_,_,_=>False
 | .refuse _,_,_,_=>False
def bodyW (P:Program) (C:ah) (W:mr) (fn:Func) (args:List Vl) (h:ae) (K:Vl->ae->Prop):Prop:=
 match fn.body with
 |none=>False
 |some c=>rH P C W c (args++List.replicate (fn.ntmps-args.length) undef) h fun x e h'=>match x with
  | .exit _=>False
  |_ => ∃ v h2,resultsA P fn.results.toList e h'=some (v,h2)/\K v h2
section
variable {P:Program} {C:ah} {W:mr}
end
end
end Go.Abs
