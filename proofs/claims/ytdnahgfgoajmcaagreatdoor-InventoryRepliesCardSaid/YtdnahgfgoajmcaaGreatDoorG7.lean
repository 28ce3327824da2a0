/-
  A part of the proof, spaces and names shortened by a program (a claim may hold 1,500,000 bytes).
  Conditions: as each theorem states.
-/
import Derived.Test.YtdnahgfgoajmcaaGreatDoorG6
namespace Go.Abs
section
inductive VT where
 |nil
 |node (l:VT) (v:Value) (r:VT)
noncomputable def pick3 {α:Type} (n:Nat) (a b c:α):α:=
 Bool.rec (motive:=fun _=>α) (Bool.rec (motive:=fun _=>α) c b (Nat.beq (n%2) 1)) a (Nat.beq n 0)
theorem pick3_eq {α:Type} (n:Nat) (a b c:α):pick3 n a b c=if n=0 then a else if n%2=1 then b else c:=by
 unfold pick3;cases h:Nat.beq n 0 with
 |true=>rw [DL (F8 h)]
 |false=>
  rw [DM (GU h)];cases h2:Nat.beq (n%2) 1 with
  |true=>rw [DL (F8 h2)]
  |false=>rw [DM (GU h2)]
noncomputable def VT.get (t:VT):Nat->Value:=
 VT.rec (motive:=fun _=>Nat->Value) (fun _=>undef) (fun _ v _ il ir n=>pick3 n v (il (n/2)) (ir (n/2-1))) t
noncomputable def VT.set (t:VT):Nat->Value->VT:=
 VT.rec (motive:=fun _=>Nat->Value->VT) (fun _ _ => .nil) (fun l x r il ir n v=>pick3 n (.node l v r) (.node (il (n/2) v) x r) (.node l x (ir (n/2-1) v))) t
noncomputable def VT.of (d:Nat):(Nat->Value)->VT:=
 Nat.rec (motive:=fun _=>(Nat->Value)->VT) (fun _ => .nil) (fun _ ih f => .node (ih fun i=>f (2*i+1)) (f 0) (ih fun i=>f (2*i+2))) d
def VT.has:VT->Nat->Prop
 | .nil,_=>False
 | .node l _ r,n=>if n=0 then True else if n%2=1 then l.has (n/2) else r.has (n/2-1)
theorem VT.jZ (l:VT) (v:Value) (r:VT) (n:Nat):(VT.node l v r).get n=if n=0 then v else if n%2=1 then l.get (n/2) else r.get (n/2-1):=pick3_eq ..
theorem VT.set_node (l:VT) (x:Value) (r:VT) (n:Nat) (v:Value):(VT.node l x r).set n v=if n=0 then .node l v r else if n%2=1 then .node (l.set (n/2) v) x r else .node l x (r.set (n/2-1) v):=pick3_eq ..
theorem VT.of_succ (d:Nat) (f:Nat->Value):VT.of (d+1) f = .node (VT.of d fun i=>f (2*i+1)) (f 0) (VT.of d fun i=>f (2*i+2)):=rfl
theorem VT.nZ : ∀ (t:VT) (n:Nat) (v:Value) (m:Nat),t.has n->(t.set n v).get m=if m=n then v else t.get m
 | .nil,n,v,m,h=>h.elim
 | .node l x r,n,v,m,h=>by
   rw [VT.set_node];simp only [VT.has] at h;by_cases h0:n=0
   ·subst h0;rw [DL rfl,VT.jZ,VT.jZ];by_cases hm:m=0
    ·simp [hm]
    ·simp [hm]
   ·rw [DM h0] at h |-;by_cases h1:n%2=1
    ·rw [DL h1] at h |-;rw [VT.jZ,VT.jZ];by_cases hm:m=0
     ·subst hm;rw [DL rfl,DL rfl,DM (fun h=>h0 h.symm)]
     ·rw [DM hm,DM hm];by_cases hm1:m%2=1
      ·rw [DL hm1,DL hm1,VT.nZ l _ v _ h];by_cases e:m=n
       ·subst e;simp
       ·rw [DM e,DM (by omega)]
      ·rw [DM hm1,DM hm1,DM (by omega)]
    ·rw [DM h1] at h |-;rw [VT.jZ,VT.jZ];by_cases hm:m=0
     ·subst hm;rw [DL rfl,DL rfl,DM (fun h=>h0 h.symm)]
     ·rw [DM hm,DM hm];by_cases hm1:m%2=1
      ·rw [DL hm1,DL hm1,DM (by omega)]
      ·rw [DM hm1,DM hm1,VT.nZ r _ v _ h];by_cases e:m=n
       ·subst e;simp
       ·rw [DM e,DM (by omega)]
theorem VT.CR : ∀ (t:VT) (n:Nat) (v:Value) (m:Nat),(t.set n v).has m↔t.has m
 | .nil,n,v,m=>Iff.rfl
 | .node l x r,n,v,m=>by
   rw [VT.set_node];by_cases h0:n=0
   ·rw [DL h0];exact Iff.rfl
   ·rw [DM h0];by_cases h1:n%2=1
    ·rw [DL h1];simp only [VT.has];by_cases hm:m=0
     ·simp [hm]
     ·rw [DM hm,DM hm];split
      ·exact VT.CR l ..
      ·exact Iff.rfl
    ·rw [DM h1];simp only [VT.has];by_cases hm:m=0
     ·simp [hm]
     ·rw [DM hm,DM hm];split
      ·exact Iff.rfl
      ·exact VT.CR r ..
theorem VT.xp : ∀ (d:Nat) (f:Nat->Value) (i:Nat),i+1<2^d->(VT.of d f).has i/\(VT.of d f).get i=f i
 | 0,f,i,h=>by simp at h
 |d+1,f,i,h=>by
  rw [VT.of_succ,VT.jZ];simp only [VT.has];by_cases h0:i=0
  ·subst h0;simp
  ·rw [DM h0,DM h0];have h2:2^(d+1)=2*2^d:=by rw [Nat.pow_succ];omega
   by_cases h1:i%2=1
   ·rw [DL h1,DL h1];obtain ⟨a,b⟩:=VT.xp d (fun i=>f (2*i+1)) (i/2) (by omega);exact ⟨a,by rw [b];congr 1;omega⟩
   ·rw [DM h1,DM h1];obtain ⟨a,b⟩:=VT.xp d (fun i=>f (2*i+2)) (i/2-1) (by omega);exact ⟨a,by rw [b];congr 1;omega⟩
structure vH (n:Nat) (t:VT) (e:aW):Prop where
 len:e.length=n
 fA : ∀ i,i<n->t.has i/\t.get i=e.getD i undef
noncomputable def j0 (n:Nat) (e:List Value):VT:=VT.of (Nat.log2 n+2) fun i=>e.getD i undef
theorem rep_of (e:aW):vH e.length (j0 e.length e) e:=by refine ⟨rfl,fun i hi=>VT.xp _ _ _ ?_⟩;have h1:e.length<2^(Nat.log2 e.length+1):=Nat.lt_log2_self;rw [Nat.pow_succ];omega
theorem rep_args (n:Nat) (args:List Value) (h:args.length<=n):vH n (j0 n args) (args++List.replicate (n-args.length) undef):=by
 refine ⟨by simp;omega,fun i hi => ?_⟩;have h1:n<2^(Nat.log2 n+1):=Nat.lt_log2_self;obtain ⟨a,b⟩:=VT.xp (Nat.log2 n+2) (fun i=>args.getD i undef) i (by rw [Nat.pow_succ];omega);refine ⟨a,?_⟩;unfold j0;rw [b];rw [DK,DK];by_cases hl:i<args.length
 ·rw [E7 hl]
 ·rw [EG (by omega),EK (by omega),GH];split<;>rfl
noncomputable def toL (n:Nat) (t:VT):aW:=(List.range n).map t.get
theorem vH.toL {n:Nat} {t:VT} {e:aW} (r:vH n t e):toL n t=e:=by
 apply FE;intro i;unfold Abs.toL;rw [EF];by_cases hi:i<n
 ·rw [F1 hi,Option.map_some,(r.fA i hi).2];have:i<e.length:=by rw [r.len];exact hi
  simp [DC this]
 ·have : ¬i<e.length:=by rw [r.len];exact hi
  rw [EK (by simpa using hi),EK (by omega)];rfl
noncomputable def setT (n:Nat) (t:VT) (d:Option Tmp) (v:Value):VT:=
 match d with
 |some i=>match Nat.blt i n with
  |true=>t.set i v
  |false=>t
 |none=>t
theorem vH.put {n:Nat} {t:VT} {e:aW} (r:vH n t e) (d:Option Tmp) (v:Value):vH n (setT n t d v) (putD e d v):=by
 cases d with
 |none=>exact r
 |some i=>
  unfold setT putD;simp only;cases hb:Nat.blt i n with
  |true=>
   have hi:i<n:=by simpa using hb
   refine ⟨by simp [r.len],fun j hj=>⟨(VT.CR ..).2 (r.fA j hj).1,?_⟩⟩;simp only;rw [VT.nZ _ _ _ _ (r.fA i hi).1,(r.fA j hj).2,DK,DK,GM];by_cases e:j=i
   ·subst e;simp [r.len,hj]
   ·rw [DM e,DM (fun h=>e h.symm)]
  |false=>
   have hi : ¬i<n:=by intro h;rw [show Nat.blt i n=true by simpa using h] at hb;cases hb
   have:e.set i v=e:=List.set_eq_of_length_le (by rw [r.len];exact Nat.le_of_not_lt hi);rw [this];exact r
noncomputable def evT (n:Nat) (t:VT):Operand->Value
 | .tmp i=>match Nat.blt i n with
   |true=>t.get i
   |false=>undef
 | .const v=>v
 | .global g=>ptr g 0
 | .func f => .func (.func f) #[] #[]
theorem vH.ev {n:Nat} {t:VT} {e:aW} (r:vH n t e):ev e=evT n t:=by
 funext x
 cases x with
 |tmp i=>
  simp only [Abs.ev,evT];cases hb:Nat.blt i n with
  |true=>
   have hi:i<n:=by simpa using hb
   exact ((r.fA i hi).2).symm
  |false=>
   have hi : ¬i<n:=by intro h;rw [show Nat.blt i n=true by simpa using h] at hb;cases hb
   rw [DK,EK (by rw [r.len];exact Nat.le_of_not_lt hi)];rfl
 |_=>rfl
noncomputable def uK (n:Nat) (ops:Array Oper) (t:VT) (j:Nat):Option Bool:=
 match (ops[j]?).bind (·.dst) with
 |some i=>match Nat.blt i n with
  |true=>aR (t.get i)
  |false=>none
 |none=>none
theorem vH.yield {n:Nat} {t:VT} {e:aW} (r:vH n t e) (ops:Array Oper) (j:Nat):gV ops e j=uK n ops t j:=by
 unfold gV uK;cases (ops[j]?).bind (·.dst) with
 |none=>rfl
 |some i=>
  simp only [Option.bind_some];cases hb:Nat.blt i n with
  |true=>
   have hi:i<n:=by simpa using hb
   have:i<e.length:=by rw [r.len];exact hi
   rw [(r.fA i hi).2,DK,DC this];simp only [Option.getD_some];cases e[i]<;>rfl
  |false=>
   have hi : ¬i<n:=by intro h;rw [show Nat.blt i n=true by simpa using h] at hb;cases hb
   rw [EK (by rw [r.len];exact Nat.le_of_not_lt hi)]
section
variable {α:Type} (P:Program) (C:aj) (n:Nat)
noncomputable def opsF (ops:Array Oper) (os:List Oper):VT->ad->(VT->ad->Option α)->Option α:=
 List.rec (motive:=fun _=>VT->ad->(VT->ad->Option α)->Option α) (fun t h k=>k t h)
  (fun o _ ih t h k=>
   match o.guard with
   |none=>ab (opA P C o (evT n t) h) fun v h'=>ih (setT n t o.dst v) h' k
   |some (j,want)=>ab (ai (uK n ops t j==some want) (opA P C o (evT n t) h) h) fun v h'=>ih (setT n t o.dst v) h' k) os
theorem sy (ops:Array Oper) : ∀ (os:List Oper) {t:VT} {e:aW} {h:ad} {k:VT->ad->Option α} {a:α},vH n t e->opsF P C n ops os t h k=some a ->
  ∃ e' h' t',opsA P C ops os e h=some (e',h')/\vH n t' e'/\k t' h'=some a
 | [],t,e,h,k,a,r,he=>⟨e,h,t,rfl,r,he⟩
 |o::os,t,e,h,k,a,r,he=>by
  have ih := @sy ops os;have he:(match o.guard with
   |none=>ab (opA P C o (evT n t) h) fun v h'=>opsF P C n ops os (setT n t o.dst v) h' k
   |some (j,want)=>ab (ai (uK n ops t j==some want) (opA P C o (evT n t) h) h) fun v h'=>opsF P C n ops os (setT n t o.dst v) h' k)=some a:=he
  unfold opsA stepA iH;cases hg:o.guard with
  |none=>
   rw [hg] at he;simp only [DY] at he |-;rw [r.ev];cases ho:opA P C o (evT n t) h with
   |none=>rw [ho] at he;cases he
   |some x=>
    obtain ⟨v,h'⟩:=x;rw [ho] at he;obtain ⟨e',h2,t',h3,h4,h5⟩:=ih (r.put o.dst v) he;exact ⟨e',h2,t',h3,h4,h5⟩
  |some g=>
   obtain ⟨j,want⟩:=g;rw [hg] at he;simp only at he |-;rw [<-r.yield] at he;by_cases hy:(gV ops e j==some want)=true
   ·rw [hy] at he;rw [DL hy,r.ev];simp only [ai] at he;cases ho:opA P C o (evT n t) h with
    |none=>rw [ho] at he;cases he
    |some x=>
     obtain ⟨v,h'⟩:=x;rw [ho] at he;obtain ⟨e',h2,t',h3,h4,h5⟩:=ih (r.put o.dst v) he;exact ⟨e',h2,t',h3,h4,h5⟩
   ·rw [DM hy];rw [HF] at hy;rw [hy] at he;simp only [ai,ab] at he;obtain ⟨e',h2,t',h3,h4,h5⟩:=ih (r.put o.dst undef) he;exact ⟨e',h2,t',h3,h4,h5⟩
noncomputable def xr (ops:Array Oper) (draw:Bool) (t:VT) (h:ad) (k:VT->ad->Option α):Option α:=
 match draw with
 |false=>opsF P C n ops ops.toList t h k
 |true=>match oU P ops with
  |true=>opsF P C n ops ((late P ops).map (·.2)) t h k
  |false=>match regionA P C ops true (toL n t) h with
   |some (e',h')=>k (j0 n e') h'
   |none=>none
theorem qZ (ops:Array Oper) (draw:Bool) {t:VT} {e:aW} {h:ad} {k:VT->ad->Option α} {a:α} (r:vH n t e) (he:xr P C n ops draw t h k=some a) :
  ∃ e' h' t',regionA P C ops draw e h=some (e',h')/\vH n t' e'/\k t' h'=some a:=by
 unfold xr at he;cases draw with
 |false=>exact sy P C n ops _ r he
 |true=>
  simp only at he;cases hl:oU P ops with
  |true=>
   rw [hl] at he;obtain ⟨e',h',t',h1,h2,h3⟩:=sy P C n ops _ r he;refine ⟨e',h',t',?_,h2,h3⟩;unfold regionA;have hl2:=hl;unfold oU at hl;rw [DJ] at hl;rw [DL rfl,DL hl.1];rw [<-ny] at h1;cases ht:traceA P C ops (late P ops) e h with
   |none=>rw [ht] at h1;cases h1
   |some x=>
    obtain ⟨tr,e2,h4⟩:=x;rw [ht] at h1;cases h1;simp only;rw [DL (xO hl.2 tr h')]
  |false=>
   rw [hl] at he;simp only at he;rw [r.toL] at he;cases hr:regionA P C ops true e h with
   |none=>rw [hr] at he;cases he
   |some x=>
    obtain ⟨e',h'⟩:=x;rw [hr] at he;have hlen:e'.length=n:=by
     rw [<-r.len];unfold regionA at hr;rw [DL rfl] at hr;split at hr
     ·split at hr
      ·rename_i tr e2 h2 ht;split at hr
       ·cases hr;have h1:opsA P C ops ((late P ops).map (·.2)) e h=some (e',h'):=by rw [<-ny,ht];rfl
        have : ∀ (os:List Oper) (e:aW) (h:ad) (e':aW) (h':ad),opsA P C ops os e h=some (e',h')->e'.length=e.length:=by
         intro os;induction os with
         |nil=>intro e h e' h' he;simp only [opsA,DE,DO] at he;rw [he.1]
         |cons o os ih=>
          intro e h e' h' he;simp only [opsA] at he;split at he
          ·rename_i e1 h1 hs;have h2:=ih _ _ _ _ he;rw [h2];unfold stepA at hs;split at hs
           ·split at hs
            ·cases hs;exact pf ..
            ·cases hs
           ·cases hs;exact pf ..
          ·cases he
        exact this _ _ _ _ _ h1
       ·cases hr
      ·cases hr
     ·cases hr
    refine ⟨e',h',j0 n e',rfl,?_,he⟩;subst hlen;exact rep_of e'
noncomputable def condF (v:Value) (a b:Option α):Option α:=
 match v with
 | .bool true=>a
 | .bool false=>b
 |_=>none
noncomputable def leave (id i:Nat) (k x:Option α):Option α:=Bool.rec (motive:=fun _=>Option α) x k (Nat.beq i id)
noncomputable def loopF (b:VT->ad->(VT->ad->Option α)->Option α) (fuel:Nat):VT->ad->Option α:=
 Nat.rec (motive:=fun _=>VT->ad->Option α) (fun _ _=>none) (fun _ ih t h=>b t h ih) fuel
noncomputable def cameF (o:Option (Ex×aW×ad)) (t:VT) (k r:VT->ad->Option α) (x:Nat->VT->ad->Option α):Option α:=
 match o with
 |some (.normal,_,h)=>k t h
 |some (.ret,_,h)=>r t h
 |some (.exit i,_,h)=>x i t h
 |none=>none
theorem range_env {P:Program} {C:aj} {g:Operand} {ps:Array Tmp} {as b:Code} {e e':aW} {h h':ad} {x:Ex} (he:codeA P C (.rangeFunc g ps as b) e h=some (x,e',h')):e'=e:=by obtain ⟨_,_,_,_,_,_,_,_,hl⟩:=lh he;obtain ⟨_,_,_,_,_,_,_,_,_,h2,_⟩:=dK hl;exact h2
noncomputable def rn (fuel:Nat) (c:Code):VT->ad->(VT->ad->Option α)->(VT->ad->Option α)->(Nat->VT->ad->Option α)->Option α:=
 Code.rec (motive:=fun _=>VT->ad->(VT->ad->Option α)->(VT->ad->Option α)->(Nat->VT->ad->Option α)->Option α)
  (fun t h k _ _=>k t h)
  (fun _ ops draw t h k _ _=>xr P C n ops draw t h k)
  (fun _ _ ia ib t h k r x=>ia t h (fun t' h'=>ib t' h' k r x) r x)
  (fun q _ _ ia ib t h k r x=>condF (evT n t q) (ia t h k r x) (ib t h k r x))
  (fun id _ ib t h k r x=>ib t h k r (fun i t' h'=>leave id i (k t' h') (x i t' h')))
  (fun _ ib t h _ r x=>loopF (fun t h k=>ib t h k r x) fuel t h)
  (fun g ps a b _ _ t h k r x=>cameF (codeA P C (.rangeFunc g ps a b) (toL n t) h) t k r x)
  (fun i t h _ _ x=>x i t h)
  (fun _ ib t h k r x=>ib t h k r x)
  (fun _ t h k _ _=>k t h)
  (fun _ _ _ _ _ _=>none)
  (fun t h _ r _=>r t h)
  (fun _ _ _ _ _ _=>none) c
def Came (a:α) (k r:VT->ad->Option α) (x:Nat->VT->ad->Option α) (ex:Ex) (t:VT) (h:ad):Prop:=
 match ex with
 | .normal=>k t h=some a
 | .ret=>r t h=some a
 | .exit i=>x i t h=some a
theorem dN (fuel:Nat) (hfuel:fuel<=aB) : ∀ (c:Code) {t:VT} {e:aW} {h:ad} {k r:VT->ad->Option α} {x:Nat->VT->ad->Option α} {a:α},vH n t e->rn P C n fuel c t h k r x=some a ->
  ∃ ex e' h' t',codeA P C c e h=some (ex,e',h')/\vH n t' e'/\Came a k r x ex t' h'
 | .skip,t,e,h,k,r,x,a,hr,he=>⟨.normal,e,h,t,rfl,hr,he⟩
 | .region _ ops d,t,e,h,k,r,x,a,hr,he=>by obtain ⟨e',h',t',h1,h2,h3⟩:=qZ P C n ops d hr he;exact ⟨.normal,e',h',t',by simp only [codeA,h1],h2,h3⟩
 | .seq c d,t,e,h,k,r,x,a,hr,he=>by
   obtain ⟨ex,e',h',t',h1,h2,h3⟩:=dN fuel hfuel c (k:=fun t' h'=>rn P C n fuel d t' h' k r x) hr he;cases ex with
   |normal=>
    obtain ⟨ex2,e2,h4,t2,h5,h6,h7⟩:=dN fuel hfuel d h2 h3;exact ⟨ex2,e2,h4,t2,by simp only [codeA,h1];exact h5,h6,h7⟩
   |ret=>exact ⟨.ret,e',h',t',by simp only [codeA,h1],h2,h3⟩
   |exit i=>exact ⟨.exit i,e',h',t',by simp only [codeA,h1],h2,h3⟩
 | .cond q c d,t,e,h,k,r,x,a,hr,he=>by
   have he:condF (evT n t q) (rn P C n fuel c t h k r x) (rn P C n fuel d t h k r x)=some a:=he;unfold condF at he;unfold codeA;rw [hr.ev];split at he
   ·rename_i hv;rw [hv];exact dN fuel hfuel c hr he
   ·rename_i hv;rw [hv];exact dN fuel hfuel d hr he
   ·cases he
 | .block id b,t,e,h,k,r,x,a,hr,he=>by
   obtain ⟨ex,e',h',t',h1,h2,h3⟩:=dN fuel hfuel b (x:=fun i t' h'=>leave id i (k t' h') (x i t' h')) hr he;cases ex with
   |normal=>exact ⟨.normal,e',h',t',by simp only [codeA,h1],h2,h3⟩
   |ret=>exact ⟨.ret,e',h',t',by simp only [codeA,h1],h2,h3⟩
   |exit i=>
    simp only [Came,leave] at h3;cases hb:Nat.beq i id with
    |true=>
     rw [hb] at h3;exact ⟨.normal,e',h',t',by simp only [codeA,h1];rw [DL (F8 hb)],h2,h3⟩
    |false=>
     rw [hb] at h3;exact ⟨.exit i,e',h',t',by simp only [codeA,h1];rw [DM (GU hb)],h2,h3⟩
 | .loop b,t,e,h,k,r,x,a,hr,he=>by
   have he:loopF (fun t h k=>rn P C n fuel b t h k r x) fuel t h=some a:=he;have main : ∀ (f m:Nat) (t:VT) (e:aW) (h:ad),f<=m->vH n t e->loopF (fun t h k=>rn P C n fuel b t h k r x) f t h=some a ->
     ∃ ex e' h' t',iter (codeA P C b) m e h=some (ex,e',h')/\vH n t' e'/\ex ≠ .normal/\Came a k r x ex t' h':=by
    intro f;induction f with
    |zero=>intro m t e h _ _ he;cases he
    |succ f ih=>
     intro m t e h hm hr he;obtain ⟨m,rfl⟩ : ∃ m',m=m'+1:=⟨m-1,by omega⟩
     obtain ⟨ex,e',h',t',h1,h2,h3⟩:=dN fuel hfuel b (k:=fun t h=>loopF (fun t h k=>rn P C n fuel b t h k r x) f t h) hr he;cases ex with
     |normal=>
      obtain ⟨ex2,e2,h4,t2,h5,h6,h7⟩:=ih m t' e' h' (by omega) h2 h3;exact ⟨ex2,e2,h4,t2,by simp only [iter,h1];exact h5,h6,h7⟩
     |ret=>exact ⟨.ret,e',h',t',by simp only [iter,h1],h2,by simp,h3⟩
     |exit i=>exact ⟨.exit i,e',h',t',by simp only [iter,h1],h2,by simp,h3⟩
   obtain ⟨ex,e',h',t',h1,h2,h3,h4⟩:=main fuel aB t e h hfuel hr he;refine ⟨ex,e',h',t',h1,h2,h4⟩
 | .exit i,t,e,h,k,r,x,a,hr,he=>⟨.exit i,e,h,t,rfl,hr,he⟩
 | .scope b,t,e,h,k,r,x,a,hr,he=>by have:=dN fuel hfuel b hr he;exact this
 | .label _,t,e,h,k,r,x,a,hr,he=>⟨.normal,e,h,t,rfl,hr,he⟩
 | .ret,t,e,h,k,r,x,a,hr,he=>⟨.ret,e,h,t,rfl,hr,he⟩
 | .goto _,t,e,h,k,r,x,a,hr,he=>by cases he
 | .rangeFunc g ps as b,t,e,h,k,r,x,a,hr,he=>by
   have he:cameF (codeA P C (.rangeFunc g ps as b) (toL n t) h) t k r x=some a:=he;rw [hr.toL] at he;unfold cameF at he;cases hc:codeA P C (.rangeFunc g ps as b) e h with
   |none=>rw [hc] at he;cases he
   |some y=>
    obtain ⟨ex,e',h'⟩:=y;rw [hc] at he;have he':=range_env hc;subst he';refine ⟨ex,e',h',t,rfl,hr,?_⟩;cases ex<;>exact he
 | .refuse _,t,e,h,k,r,x,a,hr,he=>by cases he
end
noncomputable def resT (P:Program) (n:Nat) (rs:List ResultVar) (t:VT) (h:ad):aS:=resultsA P rs (toL n t) h
noncomputable def bodyF (P:Program) (C:aj) (fuel:Nat) (fn:Func) (args:List Value) (h:ad):aS:=
 match fn.body with
 |none=>none
 |some c=>match Nat.ble args.length fn.ntmps with
  |true=>rn P C fn.ntmps fuel c (j0 fn.ntmps args) h (resT P fn.ntmps fn.results.toList) (resT P fn.ntmps fn.results.toList) (fun _ _ _=>none)
  |false=>none
theorem bodyF_sound (P:Program) (C:aj) (fuel:Nat) (hfuel:fuel<=aB) {fn:Func} {args:List Value} {h:ad} {a:Value×ad} (he:bodyF P C fuel fn args h=some a):bodyA P C fn args h=some a:=by
 unfold bodyF at he;unfold bodyA;cases hb:fn.body with
 |none=>rw [hb] at he;cases he
 |some c=>
  rw [hb] at he;simp only at he |-;cases hn:Nat.ble args.length fn.ntmps with
  |false=>rw [hn] at he;cases he
  |true=>
   rw [hn] at he;obtain ⟨ex,e',h',t',h1,h2,h3⟩:=dN P C fn.ntmps fuel hfuel c (rep_args _ args (EV hn)) he;rw [h1];cases ex with
   |normal=>simp only [Came,resT] at h3;rw [h2.toL] at h3;exact h3
   |ret=>simp only [Came,resT] at h3;rw [h2.toL] at h3;exact h3
   |exit i=>cases h3
noncomputable def roundF (P:Program) (C:aj) (fuel:Nat) (l:Nat) (args:List Value) (h:ad):aS:=
 match h.getB l with
 |some (.obj (.loop _ _ tmps params assign body))=>
  match Nat.beq args.length params.length&&(codeOk P assign&&codeOk P body) with
  |true=>rn P C tmps.length fuel assign (j0 tmps.length (eQ tmps (params.zip args))) h
    (fun t h1=>match h1.getB l with
     |some (.obj (.loop .ready p1 t1 q1 a1 b1))=>rn P C tmps.length fuel body t (h1.setO l (.loop .busy p1 t1 q1 a1 b1)) (fun _ h2=>eN l .normal h2) (fun _ h2=>eN l .ret h2) (fun i _ h2=>eN l (.exit i) h2)
     |_=>none) (fun _ _=>none) (fun _ _ _=>none)
  |false=>none
 |_=>none
theorem mv : ∀ {e:aW} (l:List (Tmp×Value)),(eQ e l).length=e.length
 |e,[]=>rfl
 |e,(t,v)::l=>by simp only [eQ];rw [mv l];simp
theorem Ci (P:Program) (C:aj) (fuel:Nat) (hfuel:fuel<=aB) {l:Nat} {args:List Value} {h:ad} {a:Value×ad} (he:roundF P C fuel l args h=some a):roundA P C l args h=some a:=by
 unfold roundF at he;unfold roundA;split at he
 ·rename_i st p0 tmps params assign body hg;rw [hg];simp only;split at he
  ·rename_i hb;rw [DJ,DJ] at hb;rw [DL ⟨F8 hb.1,hb.2.1,hb.2.2⟩];have hrep:vH tmps.length (j0 tmps.length (eQ tmps (params.zip args))) (eQ tmps (params.zip args)):=by have:=rep_of (eQ tmps (params.zip args));rw [mv] at this;exact this
   obtain ⟨ex,e1,h1,t1,hc1,r1,c1⟩:=dN P C _ fuel hfuel assign hrep he;rw [hc1];cases ex with
   |ret=>cases c1
   |exit i=>cases c1
   |normal=>
    simp only [Came] at c1;simp only;split at c1
    ·rename_i p1 t1' q1 a1 b1 hg1;rw [hg1];simp only;obtain ⟨ex2,e2,h2,t2,hc2,r2,c2⟩:=dN P C _ fuel hfuel body r1 c1;rw [hc2];cases ex2<;>exact c2
    ·cases c1
  ·cases he
 ·cases he
noncomputable def ov (P:Program) (ok:FuncId->Bool) (X:aj) (sm:FuncId->Bool) (fuel:Nat) (k:Nat):aj:=
 Nat.rec (motive:=fun _=>aj) (fun _ _ _=>none)
  (fun _ ih f args h=>
   match sm f with
   |true=>X f args h
   |false=>match ok f with
    |true=>match Nat.ble P.globals.size h.n0 with
     |true=>match P.funcs[f]? with
      |some fn=>bodyF P ih fuel fn args h
      |none=>none
     |false=>none
    |false=>match Nat.ble P.funcs.size f&&Nat.ble P.globals.size h.n0 with
     |true=>roundF P ih fuel (f-P.funcs.size) args h
     |false=>none) k
theorem wE {P:Program} {ok:FuncId->Bool} {X:aj} {sm:FuncId->Bool} {fuel:Nat} (hX:bp P X) (hfuel:fuel<=aB) (hm:P.follows .mixedOrders=true) (hok : ∀ f fn,ok f=true->P.funcs[f]? = some fn->oZ P fn=true) :
  ∀ k,bp P (ov P ok X sm fuel k)
 | 0=>⟨(by intro f args h v h' e;cases e),(by intro f args h v h' e;cases e),(by intro f args h v h' e;cases e),(by intro f args h v h' e;cases e)⟩
 |k+1=>by
  have ih:=wE (sm:=sm) hX hfuel hm hok k;have key : ∀ {f args h v h'},ov P ok X sm fuel (k+1) f args h=some (v,h')->X f args h=some (v,h')\/(∃ fn,P.funcs[f]? = some fn/\oZ P fn=true/\P.globals.size<=h.n0/\bodyA P (ov P ok X sm fuel k) fn args h=some (v,h')) \/
    (P.funcs.size<=f/\P.globals.size<=h.n0/\roundA P (ov P ok X sm fuel k) (f-P.funcs.size) args h=some (v,h')):=by
   intro f args h v h' he;have he:(match sm f with
   |true=>X f args h
   |false=>match ok f with
    |true=>match Nat.ble P.globals.size h.n0 with
     |true=>match P.funcs[f]? with
      |some fn=>bodyF P (ov P ok X sm fuel k) fuel fn args h
      |none=>none
     |false=>none
    |false=>match Nat.ble P.funcs.size f&&Nat.ble P.globals.size h.n0 with
     |true=>roundF P (ov P ok X sm fuel k) fuel (f-P.funcs.size) args h
     |false=>none)=some (v,h'):=he
   cases h0:sm f with
   |true=>rw [h0] at he;exact .inl he
   |false=>
    rw [h0] at he;cases h1:ok f with
    |false=>
     rw [h1] at he;cases h2:(Nat.ble P.funcs.size f&&Nat.ble P.globals.size h.n0) with
     |false=>rw [h2] at he;cases he
     |true=>
      rw [h2] at he;rw [DJ] at h2;exact .inr (.inr ⟨EV h2.1,EV h2.2,Ci P _ fuel hfuel he⟩)
    |true=>
     rw [h1] at he;cases h2:Nat.ble P.globals.size h.n0 with
     |false=>rw [h2] at he;cases he
     |true=>
      rw [h2] at he;cases h3:P.funcs[f]? with
      |none=>simp only [h3] at he;cases he
      |some fn=>
       simp only [h3] at he;exact .inr (.inl ⟨fn,rfl,hok f fn h1 h3,EV h2,bodyF_sound P _ fuel hfuel he⟩)
  refine ⟨?_,?_,?_,?_⟩
  ·intro f args h v h' he;rcases key he with h0|⟨fn,h1,h2,h3,h4⟩|⟨h1,h2,h3⟩
   ·exact hX.grow _ _ _ _ _ h0
   ·exact zm ih h4
   ·exact wy ih h3
  ·intro f args h v h' he hba hbh;rcases key he with h0|⟨fn,h1,h2,h3,h4⟩|⟨h1,h2,h3⟩
   ·exact hX.bd _ _ _ _ _ h0 hba hbh
   ·exact bodyA_bd ih h2 h3 h4 hba hbh
   ·exact Bn ih h3 h2 hba hbh
  ·intro f args h v h' he hf hba hbh hg μ w args' S hfr r;rcases key he with h0|⟨fn,h1,h2,h3,h4⟩|⟨h1,_⟩
   ·exact hX.run _ _ _ _ _ h0 hf hba hbh hg μ w args' S hfr r
   ·cases hb:fn.body with
    |none=>unfold bodyA at h4;rw [hb] at h4;cases h4
    |some c=>
     have hco:codeOk P c=true:=by unfold oZ at h2;rw [hb] at h2;simp only [DJ] at h2;exact h2.2
     have h2':=h2;unfold oZ at h2';rw [DJ,FK] at h2';exact .inl ⟨fn,h1,h2'.1,by rw [hb];rfl,yi ih hm h1 hb hco h4 hg hba hbh S hfr r⟩
   ·exact absurd hf (H2.2 h1)
  ·intro l args h v h' he hba hbh hg μ w args' L S hfr r hL;rcases key he with h0|⟨fn,h1,_⟩|⟨_,_,h2⟩
   ·exact hX.round _ _ _ _ _ h0 hba hbh hg μ w args' L S hfr r hL
   ·exact absurd (DX.1 h1).1 (H2.2 (HP _ _))
   ·rw [show Bs P l-P.funcs.size=l from FF _ _] at h2;exact wH ih hm h2 hg hba hbh S hfr r hL
end
section
def cR (n:Nat) (Inv:Nat->(Nat->Value)->ad->Prop) (fin:Ex->(Nat->Value)->ad->Prop) (k:Nat) (o:Option (Ex×aW×ad)):Prop:=
 ∃ ex x' h',o=some (ex,aL n x',h')/\((ex = .normal /\ ∃ j,j<k/\Inv j x' h')\/(ex ≠ .normal/\fin ex x' h'))
def Fin (n:Nat) (fin:Ex->(Nat->Value)->ad->Prop) (o:Option (Ex×aW×ad)):Prop := ∃ ex x' h',o=some (ex,aL n x',h')/\fin ex x' h'
section
variable {n:Nat} {Inv:Nat->(Nat->Value)->ad->Prop} {fin:Ex->(Nat->Value)->ad->Prop} {k:Nat}
theorem cR.next {x':Nat->Value} {h':ad} (j:Nat) (hj:j<k) (hi:Inv j x' h'):cR n Inv fin k (some (.normal,aL n x',h')):=⟨_,_,_,rfl,.inl ⟨rfl,j,hj,hi⟩⟩
theorem cR.out {x':Nat->Value} {h':ad} (i:Nat) (hi:fin (.exit i) x' h'):cR n Inv fin k (some (.exit i,aL n x',h')):=⟨_,_,_,rfl,.inr ⟨by simp,hi⟩⟩
theorem cR.ret {x':Nat->Value} {h':ad} (hi:fin .ret x' h'):cR n Inv fin k (some (.ret,aL n x',h')):=⟨_,_,_,rfl,.inr ⟨by simp,hi⟩⟩
theorem bk {P:Program} {C:aj} {b:Code} {T:(Nat->Value)->ad->Option (Ex×aW×ad)} (hT : ∀ x h,codeA P C b (aL n x) h=T x h)
  (hs : ∀ k x h,Inv k x h->cR n Inv fin k (T x h)) {x:Nat->Value} {h:ad} (k:Nat) (hk:k<aB) (hi:Inv k x h):Fin n fin (iter (codeA P C b) aB (aL n x) h):=
 loop_inv hT hs hk hi
theorem bq {α:Type} {Q:Option α->Prop} {o:Option (Ex×aW×ad)} {r:aW->ad->Option α} {x:Nat->aW->ad->Option α} (f:Fin n fin o)
  (h : ∀ ex x' h',fin ex x' h'->Q (dj (some (ex,aL n x',h')) r x)):Q (dj o r x):=by
 obtain ⟨ex,x',h',rfl,hf⟩:=f;exact h ex x' h' hf
end
theorem gu {P:Program} {rs:List ResultVar} {n t:Nat} (hr:rs = [.tmp t]) (ht:t<n) (x:Nat->Value) (h:ad):resultsA P rs (aL n x) h=some (x t,h):=by
 subst hr;have:(aL n x).getD t undef=x t:=by unfold aL;rw [DK,EF,F1 ht];rfl
 simp only [resultsA,fj,Option.map_some,this]
end
section
def Br (μ:Mu) (h:ad):Prop := ∀ b,h.next<=b->μ b=none
theorem Br.free {μ:Mu} {h h':ad} (t:Br μ h):fh μ h h':=fun b h1 _=>t b h1
theorem Br.step {μ μ':Mu} {h h':ad} {w w':World} (t:Br μ h) (st:cd μ h w μ' h' w'):Br μ' h':=fun b hb=>by rw [st.ext b (.inr hb)];exact t b (D5 st.next hb)
abbrev kT:=FuncId->List Value->ad->(Value->ad->Prop)->Prop
def vR (C:aj):kT:=fun f args h K => ∃ v h',C f args h=some (v,h')/\K v h'
def mc (μ:Mu) (h:ad) (w:World) (K:Value->ad->Prop) (e:Ending) (w':World):Prop:=
 ∃ v h',K v h'/\bC h h'/\bW h'.next v=true/\aI h'/\mP μ h w v h' e w'
structure ma (P:Program) (W:kT):Prop where
 run : ∀ f args h K,W f args h K->f<P.funcs.size->cL h.next args=true->aI h->P.globals.size<=h.n0 -> ∀ μ w args',cm μ h w->Br μ h->aP μ args args'->Cy P f args'.toArray w (mc μ h w K)
 round : ∀ l args h K,W (Bs P l) args h K->cL h.next args=true->aI h->P.globals.size<=h.n0 -> ∀ μ w args' L,cm μ h w->Br μ h->aP μ args args'->μ l=some L ->
  ∃ fn tmps assign body,(Instr.yield L.blk args'.toArray).run P w = .ok (.round L.blk fn tmps assign body) w /\ ∀ n,RoundIn (Fr none) n P L.blk fn tmps assign body w (mc μ h w K)
theorem uy {P:Program} {C:aj} (hC:bp P C):ma P (vR C):=by
 have up : ∀ {f args h v h'} {K:Value->ad->Prop} {μ w},C f args h=some (v,h')->K v h'->cL h.next args=true->aI h -> ∀ e w',mP μ h w v h' e w'->mc μ h w K e w':=by intro f args h v h' K μ w he hk hb hh e w' ha;obtain ⟨h1,h2⟩:=hC.bd _ _ _ _ _ he hb hh;exact ⟨v,h',hk,hC.grow _ _ _ _ _ he,h1,h2,ha⟩
 refine ⟨?_,?_⟩
 ·rintro f args h K ⟨v,h',he,hk⟩ hf hb hh hg μ w args' S t r;exact (hC.run _ _ _ _ _ he hf hb hh hg μ w args' S t.free r).mono (up he hk hb hh)
 ·rintro l args h K ⟨v,h',he,hk⟩ hb hh hg μ w args' L S t r hL;obtain ⟨fn,tmps,assign,body,h1,h2⟩:=hC.round _ _ _ _ _ he hb hh hg μ w args' L S t.free r hL;exact ⟨fn,tmps,assign,body,h1,fun n=>(h2 n).mono (up he hk hb hh)⟩
def callAW (P:Program) (W:kT) (f:Value) (args:List Value) (h:ad) (K:Value->ad->Prop):Prop:=
 match f with
 | .func (.func i) first captured=>i<P.funcs.size/\W i (first.toList++args++captured.toList) h K
 | .func (.yield l) first _=>W (Bs P l) (first.toList++args) h K
 |_=>False
def noC:aj:=fun _ _ _=>none
theorem vE (P:Program):bp P noC:=⟨by simp [noC],by simp [noC],by simp [noC],by simp [noC]⟩
def opW (P:Program) (W:kT) (o:Oper) (ρ:Operand->Value) (h:ad) (K:Value->ad->Prop):Prop:=
 match o.op with
 | .next it false => ∃ l,nextsA (ρ it) h=some l /\ ∀ r∈l,K r.1 r.2
 | .call { callee := .value f,args,.. }=>callAW P W (ρ f) (args.toList.map ρ) h K
 |_ => ∃ v h',opA P noC o ρ h=some (v,h')/\K v h'
def opsW (P:Program) (W:kT) (ops:Array Oper):List Oper->aW->ad->(aW->ad->Prop)->Prop
 | [],e,h,K=>K e h
 |o::cI,e,h,K=>if iH ops o e=true then opW P W o (ev e) h fun v h'=>opsW P W ops cI (putD e o.dst v) h' K else opsW P W ops cI (putD e o.dst undef) h K
def nu (step:aW->ad->(Ex->aW->ad->Prop)->Prop):Nat->aW->ad->(Ex->aW->ad->Prop)->Prop
 | 0,_,_,_=>False
 |n+1,e,h,K=>step e h fun x e' h'=>match x with
  | .normal=>nu step n e' h' K
  |x=>K x e' h'
def codeW (P:Program) (C:aj) (W:kT):Code->aW->ad->(Ex->aW->ad->Prop)->Prop
 | .skip,e,h,K=>K .normal e h
 | .region _ ops draw,e,h,K=>match draw with
   |true => ∃ e' h',regionA P C ops true e h=some (e',h')/\K .normal e' h'
   |false=>opsW P W ops ops.toList e h (K .normal)
 | .seq a b,e,h,K=>codeW P C W a e h fun x e' h'=>match x with
   | .normal=>codeW P C W b e' h' K
   |x=>K x e' h'
 | .cond c a b,e,h,K=>match ev e c with
   | .bool true=>codeW P C W a e h K
   | .bool false=>codeW P C W b e h K
   |_=>False
 | .block id b,e,h,K=>codeW P C W b e h fun x e' h'=>match x with
   | .exit i=>K (if i=id then .normal else .exit i) e' h'
   |x=>K x e' h'
 | .loop b,e,h,K=>nu (codeW P C W b) aB e h K
 | .exit i,e,h,K=>K (.exit i) e h
 | .scope b,e,h,K=>codeW P C W b e h K
 | .label _,e,h,K=>K .normal e h
 | .ret,e,h,K=>K .ret e h
 | .rangeFunc g ps a b,e,h,K=>match ev e g with
   | .func (.func i) first captured=>hasBody P i=true/\W i (first.toList ++ [.func (.yield h.next) #[] #[]]++captured.toList) (h.bn (.obj (.loop .ready none e ps.toList a b)))
     fun _ h2 => ∃ x e' h',endLoopA h.next e h2=some (x,e',h')/\K x e' h'
   |_=>False
 | .goto _,_,_,_=>False
 | .refuse _,_,_,_=>False
def tj (P:Program) (C:aj) (W:kT) (fn:Func) (args:List Value) (h:ad) (K:Value->ad->Prop):Prop:=
 match fn.body with
 |none=>False
 |some c=>codeW P C W c (args++List.replicate (fn.ntmps-args.length) undef) h fun x e h'=>match x with
  | .exit _=>False
  |_ => ∃ v h2,resultsA P fn.results.toList e h'=some (v,h2)/\K v h2
section
variable {P:Program} {C:aj} {W:kT}
def GoodW (P:Program) (o:Oper) (a:Act) (μ:Mu) (h:ad) (w:World) (K:Value->ad->Prop):Prop:=
 ∀ (r:Option Nat) (n:Nat) (K':Act->World->Prop) (Q:Exit->Act->World->Prop),
   (∀ v h' μ' v' w',K v h'->bC h h'->bW h'.next v=true->aI h'->cm μ' h' w'->cd μ h w μ' h' w'->aG μ' v v'->K' (a.put o.dst v') w')->o.wpIn (Fr r) n P a w K' Q
theorem opW_det {o:Oper} {a:Act} {μ:Mu} {h:ad} {w:World} {ρ:Operand->Value} {K:Value->ad->Prop} (S:cm μ h w) (t:Br μ h) (hρ : ∀ x∈o.op.operands.toList,aG μ (ρ x) (a.eval x)) (hg:P.globals.size<=h.n0)
  (hbo : ∀ x∈o.op.operands.toList,bW h.next (ρ x)=true) (hbh:aI h) (e : ∃ v h',opA P noC o ρ h=some (v,h')/\K v h'):GoodW P o a μ h w K:=by
 obtain ⟨v,h',ho,hk⟩:=e;intro r n K' Q hK;obtain ⟨h1,h2⟩:=zc (vE P) hbh hbo ho;exact u9 (vE P) S t.free hρ hg (fun _ _ _ _=>⟨hbo,hbh⟩) ho r n K' Q (fun μ' v' w' hS hSt hv=>hK v h' μ' v' w' hk (nj (vE P) ho) h1 h2 hS hSt hv)
theorem opW_sound (hW:ma P W) {o:Oper} {a:Act} {μ:Mu} {h:ad} {w:World} {ρ:Operand->Value} {K:Value->ad->Prop} (S:cm μ h w) (t:Br μ h) (hρ : ∀ x∈o.op.operands.toList,aG μ (ρ x) (a.eval x)) (hg:P.globals.size<=h.n0)
  (hbo : ∀ x∈o.op.operands.toList,bW h.next (ρ x)=true) (hbh:aI h) (e:opW P W o ρ h K):GoodW P o a μ h w K:=by
 unfold opW at e;split at e
 ·rename_i it heq;rw [heq] at hρ hbo;obtain ⟨l,hl,hk⟩:=e;intro r n K' Q hK;obtain ⟨p,hp,v',w',hrun,hS,hSt,hv⟩:=wJ (P:=P) (ty:=o.type) S (hρ it (by simp [Op.operands])) hl;obtain ⟨hb1,hb2⟩:=bd_nexts hbh hl p hp;refine ⟨fun _ _=>trivial,?_⟩;rw [gl (x := .value v') (w':=w') (by unfold execOp;rw [heq];simp only [Sem.run_bind,hrun,Result.andThen_ok,Sem.run_pure]) (by intro d hd;cases hd)];exact hK p.1 p.2 μ v' w' (hk p hp) (zv hl p hp) hb1 hb2 hS hSt hv
 ·rename_i f args tys heq;rw [heq] at hρ hbo;have hfv:=hρ f (by simp [Op.operands,Call.operands]);have hff:=hbo f (by simp [Op.operands,Call.operands]);have hargs : ∀ x∈args.toList,aG μ (ρ x) (a.eval x):=fun x hx=>hρ x (by simp only [Op.operands,Call.operands,FY,D9];exact .inr hx)
  have hargb:cL h.next (args.toList.map ρ)=true:=by rw [dH];intro y hy;obtain ⟨x,hx,rfl⟩:=E2.1 hy;exact hbo x (by simp only [Op.operands,Call.operands,FY,D9];exact .inr hx)
  unfold callAW at e;split at e
  ·rename_i i first captured hfe
   obtain ⟨hi,e⟩:=e;rw [hfe] at hfv;obtain ⟨g,first',captured',hfe',hg',h1,h2⟩:=hfv.ng;cases hg';have hall:=(h1.append (kG hargs)).append h2;have hba:cL h.next (first.toList++args.toList.map ρ++captured.toList)=true:=by
    rw [hfe] at hff;obtain ⟨lf⟩:=first
    obtain ⟨lc⟩:=captured;simp only [bW,DJ] at hff;exact bV (bV hff.2.1 hargb) hff.2.2
   have hcalls:=hW.run _ _ _ _ e hi hba hbh hg μ w _ S t hall;intro r n K' Q hK;refine ⟨fun _ _=>trivial,?_⟩;have hres:(execOp a.eval o).run P w=(callFunc i ((first'.toList++args.toList.map a.eval++captured'.toList).toArray)).run P w:=by
    unfold execOp;rw [heq];simp only;unfold resolve;simp only [hfe',Deferred.ofValue,Sem.run_bind,Sem.run_pure,Result.andThen_ok,invoke]
    congr 2
    apply H3;simp
   rcases hcalls with ⟨fn,hfn,hname,hbody,hcalls⟩|⟨v',w',hrun,v0,h0,hk,hgr,hb1,hb2,μ',v1,hv1,hS,hSt,hv⟩
   ·rw [gl (x := .enter i ((first'.toList++args.toList.map a.eval++captured'.toList).toArray)) (w':=w) (by rw [hres];unfold callFunc;simp only [Sem.run_bind,run_program,Result.andThen_ok,hfn,hname,hbody,DD,D3,Sem.run_pure]) (by intro d hd;cases hd)]
    refine ⟨(fun h=>by cases h),?_⟩;refine (tZ hcalls).mono ?_;rintro e w' ⟨v0,h0,hk,hgr,hb1,hb2,μ',v',rfl,hS,hSt,hv⟩;exact hK v0 h0 μ' v' w' hk hgr hb1 hb2 hS hSt hv
   ·cases hv1;rw [gl (x := .value v') (w':=w') (by rw [hres];exact hrun) (by intro d hd;cases hd)];exact hK v0 h0 μ' v' w' hk hgr hb1 hb2 hS hSt hv
  ·rename_i l first captured hfe
   rw [hfe] at hfv;obtain ⟨g,first',captured',hfe',hg',h1,h2⟩:=hfv.ng;obtain ⟨L,hL,rfl⟩:=hg';have hall:=h1.append (kG hargs);have hba:cL h.next (first.toList++args.toList.map ρ)=true:=by
    rw [hfe] at hff;obtain ⟨lf⟩:=first
    obtain ⟨lc⟩:=captured;simp only [bW,DJ] at hff;exact bV hff.2.1 hargb
   obtain ⟨fn,tmps,assign,body,hy,hround⟩:=hW.round _ _ _ _ e hba hbh hg μ w _ L S t hall hL;intro r n K' Q hK;refine ⟨fun _ _=>trivial,?_⟩;have hres:(execOp a.eval o).run P w = .ok (.round L.blk fn tmps assign body) w:=by
    unfold execOp;rw [heq];simp only;unfold resolve;simp only [hfe',Deferred.ofValue,Sem.run_bind,Sem.run_pure,Result.andThen_ok,invoke];have:first'++args.map a.eval=(first'.toList++args.toList.map a.eval).toArray:=by apply H3;simp
    rw [this];exact hy
   rw [gl hres (by intro d hd;cases hd)];refine ⟨(fun h=>by cases h),?_⟩;refine RoundIn.mono (F:=Fr r) (hround (n-1)) ?_;rintro e w' ⟨v0,h0,hk,hgr,hb1,hb2,μ',v',rfl,hS,hSt,hv⟩;exact hK v0 h0 μ' v' w' hk hgr hb1 hb2 hS hSt hv
  ·exact e.elim
 ·exact opW_det S t hρ hg hbo hbh e
def QW (s:Nat) (μ:Mu) (h:ad) (w:World) (K:Ex->aW->ad->Prop) (Q:Exit->Act->World->Prop):Prop:=
 ∀ x e' h' a' w',K x e' h'->bC h h'->cL h'.next e'=true->aI h'->(∃ μ' rs,cm μ' h' w'/\cd μ h w μ' h' w'/\gG (dq rs) μ' e' a'/\kv s μ' h' w' rs)->Q (AP x) a' w'
def vn (P:Program) (C:aj) (W:kT) (c:Code):Prop:=
 ∀ (ro:Option Nat) (nd s:Nat) (rs:List Nat) (e:aW) (h:ad) (K:Ex->aW->ad->Prop) (μ:Mu) (a:Act) (w:World) (Q:Exit->Act->World->Prop),codeW P C W c e h K->P.globals.size<=h.n0->cL h.next e=true->aI h->cm μ h w->Br μ h ->
   gG (dq rs) μ e a->kv s μ h w rs->s<=w.heap.size->RoOk ro w->QW s μ h w K Q->c.wpIn (Fr ro) nd P Q a w
theorem rB (hW:ma P W) {ro:Option Nat} {nd s:Nat} {rs:List Nat} {ops:Array Oper} {Q:Exit->Act->World->Prop} : ∀ (l:List Oper) (k:Nat) {μ:Mu} {e:aW} {h:ad} {K:aW->ad->Prop} {a:Act} {w:World},ops.toList.drop k=l->l.all (nJ P)=true ->
  opsW P W ops l e h K->P.globals.size<=h.n0->cL h.next e=true->aI h->cm μ h w->Br μ h->gG (dq rs) μ e a->kv s μ h w rs ->
  (∀ e' h' a' w',K e' h'->bC h h'->cL h'.next e'=true->aI h'->(∃ μ' rs,cm μ' h' w'/\cd μ h w μ' h' w'/\gG (dq rs) μ' e' a'/\kv s μ' h' w' rs)->Q .normal a' w')->wpOpsIn (Fr ro) nd P ops Q (List.range' k l.length) a w
 | [],k,μ,e,h,K,a,w,_,_,he,_,hbe,hbh,S,t,r,m,hQ=>by simp only [List.length_nil,List.range'_zero,wpOpsIn];exact hQ e h a w he (bC.refl _) hbe hbh ⟨μ,rs,S,.bU,r,m⟩
 |o::l,k,μ,e,h,K,a,w,hd,hok,he,hg,hbe,hbh,S,t,r,m,hQ=>by
  simp only [opsW] at he;simp only [List.all_cons,DJ] at hok;have hko:ops[k]? = some o:=by
   have:ops.toList[k]? = some o:=by have:=FZ (fun l=>l[0]?) hd;simpa using this
   simpa using this
  have hd':ops.toList.drop (k+1)=l:=by have:=FZ (List.drop 1) hd;rw [E8] at this;simpa [IX] using this
  simp only [List.length_cons,List.range'_succ,wpOpsIn,hko,yO (ops:=ops) r] at he |-;by_cases hw:Region.wanted o (yielded ops a.tmps)=true
  ·rw [DL hw] at he |-;have hbo : ∀ x∈o.op.operands.toList,bW h.next (ev e x)=true:=fun x hx=>wq hg hbe (DT.1 hok.1 x hx);refine opW_sound hW (ρ:=ev e) S t (fun x hx=>rU S hg r (DT.1 hok.1 x hx)) hg hbo hbh he _ _ _ _ ?_;intro v h1 μ1 v' w1 hk hgr hb1 hb2 hS hSt hv;refine rB hW l (k+1) hd' hok.2 hk (by rw [hgr.2.1];exact hg) (lH (bS hgr.1 hbe) hb1) hb2 hS (t.step hSt) ((r.mono (hSt.mono t.free)).put o.dst hv) (m.step hSt) ?_;rintro e' h' a' w' hk' hgr' hb1' hb2' ⟨μ2,rs2,hS2,hSt2,r2,m2⟩;exact hQ e' h' a' w' hk' (hgr.trans hgr') hb1' hb2' ⟨μ2,rs2,hS2,hSt.trans hSt2,r2,m2⟩
  ·rw [DM hw] at he |-;exact ⟨fun _ _=>trivial,rB hW l (k+1) hd' hok.2 he hg (lH hbe rfl) hbh S t (r.put o.dst nf) m hQ⟩
theorem QW.trans {s:Nat} {μ μ1:Mu} {h h1:ad} {w w1:World} {K:Ex->aW->ad->Prop} {Q:Exit->Act->World->Prop} (q:QW s μ h w K Q) (hgr:bC h h1) (st:cd μ h w μ1 h1 w1):QW s μ1 h1 w1 K Q:=by rintro x e' h' a' w' hk hg hb1 hb2 ⟨μ',rs,S,St,r,m⟩;exact q x e' h' a' w' hk (hgr.trans hg) hb1 hb2 ⟨μ',rs,S,st.trans St,r,m⟩
theorem zb {b:Code} (hb:vn P C W b) : ∀ (n:Nat) {e:aW} {h:ad} {K:Ex->aW->ad->Prop} {ro:Option Nat} {nd s:Nat} {rs:List Nat} {μ:Mu} {a:Act} {w:World} {Q:Exit->Act->World->Prop},nu (codeW P C W b) n e h K ->
  P.globals.size<=h.n0->cL h.next e=true->aI h->cm μ h w->Br μ h->gG (dq rs) μ e a->kv s μ h w rs->s<=w.heap.size->RoOk ro w->QW s μ h w K Q->Code.roundsIn (Fr ro) nd P b Q n a w
 | 0,_,_,_,_,_,_,_,_,_,_,_,he,_,_,_,_,_,_,_,_,_,_=>he.elim
 |n+1,e,h,K,ro,nd,s,rs,μ,a,w,Q,he,hg,hbe,hbh,S,t,r,hmk,hsz,hro,hQ=>by
  rw [pd];simp only [nu] at he;refine hb _ _ s rs _ _ _ _ _ _ _ he hg hbe hbh S t r hmk hsz hro ?_;rintro x e' h' a' w' hk hgr hb1 hb2 ⟨μ1,rs1,hS,hSt,hr,hmk1⟩;cases x with
  |normal=>exact zb hb n hk (by rw [hgr.2.1];exact hg) hb1 hb2 hS (t.step hSt) hr hmk1 (D5 hsz hSt.size) (hro.step hSt) (hQ.trans hgr hSt)
  |ret=>exact hQ _ e' h' a' w' hk hgr hb1 hb2 ⟨μ1,rs1,hS,hSt,hr,hmk1⟩
  |exit i=>exact hQ _ e' h' a' w' hk hgr hb1 hb2 ⟨μ1,rs1,hS,hSt,hr,hmk1⟩
end
end
end Go.Abs
namespace Go.Proofs.YtdnahgfgoajmcaaGreatDoor
open Go Go.Abs
end Go.Proofs.YtdnahgfgoajmcaaGreatDoor
