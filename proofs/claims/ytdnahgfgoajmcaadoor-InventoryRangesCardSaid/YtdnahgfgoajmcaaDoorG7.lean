/-
  A part of the proof, spaces and names shortened by a program (a claim may hold 1,500,000 bytes).
  Conditions: as each theorem states.
-/
import Derived.Test.YtdnahgfgoajmcaaDoorG6
namespace Go.Abs
def fnOk (P : Program) (fn : Func) : Bool := !(fn.name == "runtime.NumGoroutine") && match fn.body with | some c => codeOk P c | none => false
section
variable {P:Program} {C:ae}
theorem ld_bd {t:TypeId} {x v:Value} {h h':ab} (hb:az h) (hx:bW h.next x=true) (e:ld P t x h=some (v,h')):bW h.next v=true:=by
 have hC:aU P (fun _ _ _=>none):=⟨by simp,by simp,by simp,by simp⟩
 have:=opA_bd (P:=P) (C:=fun _ _ _=>none) (o:={ dst:=none,type:=0,op := .load t (.const x),after := #[],guard:=none,pos:=default }) (ρ:=fun o=>match o with | .const v=>v|_=>undef) hC hb
  (by
   intro y hy
   have:y = .const x:=by simpa [Op.operands] using hy
   subst this;exact hx) (v:=v) (h':=h') e
 have hh:h'=h:=by
  unfold ld at e
  split at e
  ·unfold cT at e;split at e
   ·split at e
    ·split at e
     ·cases e;rfl
     ·cases e
    ·cases e
   ·cases e
  ·unfold ld1 at e
   repeat' split at e
   all_goals first
    | (cases e;done)
    | (simp only [Option.some.injEq,Prod.mk.injEq] at e;exact e.2.symm)
  ·cases e
 subst hh;exact this.1
theorem resultA_bd {r:ResultVar} {e:Env} {h:ab} {v:Value} (hb:az h) (he:cC h.next e=true) (x:fh P r e h=some v):bW h.next v=true:=by
 have key : ∀ t,bW h.next (e.getD t undef)=true:=by
  intro t
  rw [List.getD_eq_getElem?_getD]
  cases ht:e[t]? with
  |none=>rfl
  |some y=>exact dr.1 he y (List.mem_of_getElem? ht)
 cases r with
 |tmp t=>simp only [fh,Option.some.injEq] at x;subst x;exact key t
 |cell a t=>
  simp only [fh,Option.map_eq_some_iff] at x
  obtain ⟨⟨y,h'⟩,h1,rfl⟩:=x
  exact ld_bd hb (key a) h1
theorem resultsA_bd {rs:List ResultVar} {e:Env} {h h':ab} {v:Value} (hb:az h) (he:cC h.next e=true) (x:aj P rs e h=some (v,h')):bW h'.next v=true∧az h':=by
 have hh:=resultsA_grow x
 subst hh
 refine ⟨?_,hb⟩
 unfold aj at x
 split at x
 ·simp only [Option.map_eq_some_iff,Prod.mk.injEq] at x
  obtain ⟨v1,hv1,rfl,_⟩:=x
  exact resultA_bd hb he hv1
 ·simp only [Option.map_eq_some_iff,Prod.mk.injEq] at x
  obtain ⟨vs,hvs,rfl,_⟩:=x
  show cC _ vs=true
  rw [dr]
  intro y hy
  have : ∀ (rs:List ResultVar) (vs:List Value),rs.mapM (fun r=>fh P r e h')=some vs → ∀ y∈vs,bW h'.next y=true:=by
   intro rs
   induction rs with
   |nil=>intro vs hvs y hy;simp at hvs;subst hvs;cases hy
   |cons r rs ih=>
    intro vs hvs y hy
    simp only [List.mapM_cons,Option.bind_eq_bind,Option.bind_eq_some_iff,Option.pure_def,Option.some.injEq] at hvs
    obtain ⟨a,ha,b,hb2,rfl⟩:=hvs
    rcases List.mem_cons.1 hy with rfl|hy
    ·exact resultA_bd hb he ha
    ·exact ih b hb2 y hy
  exact this _ _ hvs y hy
theorem bodyA_grow (hC:aU P C) {fn:Func} {args:List Value} {h h':ab} {v:Value} (he:bodyA P C fn args h=some (v,h')):Grow h h':=by
 unfold bodyA at he
 split at he
 ·cases he
 ·rename_i c hb
  cases hc:av P C c (args++List.replicate (fn.ntmps-args.length) undef) h with
  |none=>rw [hc] at he;cases he
  |some y=>
   obtain ⟨ex,e1,h2⟩:=y
   rw [hc] at he
   have hgrow:aj P fn.results.toList e1 h2=some (v,h'):=by
    cases ex with
    |normal=>exact he
    |ret=>exact he
    |exit i=>cases he
   rw [resultsA_grow hgrow]
   exact bX hC c hc
theorem bodyA_bd (hC:aU P C) {fn:Func} {args:List Value} {h h':ab} {v:Value} (hok:fnOk P fn=true) (hg:P.globals.size≤h.n0) (he:bodyA P C fn args h=some (v,h')) (hba:cC h.next args=true) (hbh:az h) :
  bW h'.next v=true∧az h':=by
 unfold bodyA at he
 split at he
 ·cases he
 ·rename_i c hb
  have hco:codeOk P c=true:=by
   unfold fnOk at hok
   rw [hb] at hok
   simp only [Bool.and_eq_true] at hok
   exact hok.2
  cases hc:av P C c (args++List.replicate (fn.ntmps-args.length) undef) h with
  |none=>rw [hc] at he;cases he
  |some y=>
   obtain ⟨ex,e1,h2⟩:=y
   rw [hc] at he
   have hr:aj P fn.results.toList e1 h2=some (v,h'):=by
    cases ex with
    |normal=>exact he
    |ret=>exact he
    |exit i=>cases he
   obtain ⟨h3,h4⟩:=dq hC c hco hg (bU hba (dr.2 fun x hx=>by rw [List.eq_of_mem_replicate hx];rfl)) hbh hc
   exact resultsA_bd h4 h3 hr
end
def bare (P:Program):ab:=⟨P.globals.size,fun _=>none,.nil,0⟩
end Go.Abs

namespace Go.Abs
inductive VT where
 |nil
 |node (l:VT) (v:Value) (r:VT)
noncomputable def pick3 {α:Type} (n:Nat) (a b c:α):α:=
 Bool.rec (motive:=fun _=>α) (Bool.rec (motive:=fun _=>α) c b (Nat.beq (n%2) 1)) a (Nat.beq n 0)
theorem pick3_eq {α:Type} (n:Nat) (a b c:α):pick3 n a b c=if n=0 then a else if n%2=1 then b else c:=by
 unfold pick3
 cases h:Nat.beq n 0 with
 |true=>rw [if_pos (Nat.eq_of_beq_eq_true h)]
 |false=>
  rw [if_neg (Nat.ne_of_beq_eq_false h)]
  cases h2:Nat.beq (n%2) 1 with
  |true=>rw [if_pos (Nat.eq_of_beq_eq_true h2)]
  |false=>rw [if_neg (Nat.ne_of_beq_eq_false h2)]
noncomputable def VT.get (t:VT):Nat→Value:=
 VT.rec (motive:=fun _=>Nat→Value) (fun _=>undef) (fun _ v _ il ir n=>pick3 n v (il (n/2)) (ir (n/2-1))) t
noncomputable def VT.set (t:VT):Nat→Value→VT:=
 VT.rec (motive:=fun _=>Nat→Value→VT) (fun _ _ => .nil) (fun l x r il ir n v=>pick3 n (.node l v r) (.node (il (n/2) v) x r) (.node l x (ir (n/2-1) v))) t
noncomputable def VT.of (d:Nat):(Nat→Value)→VT:=
 Nat.rec (motive:=fun _=>(Nat→Value)→VT) (fun _ => .nil) (fun _ ih f => .node (ih fun i=>f (2*i+1)) (f 0) (ih fun i=>f (2*i+2))) d
def VT.has:VT→Nat→Prop
 | .nil,_=>False
 | .node l _ r,n=>if n=0 then True else if n%2=1 then l.has (n/2) else r.has (n/2-1)
theorem VT.get_node (l:VT) (v:Value) (r:VT) (n:Nat):(VT.node l v r).get n=if n=0 then v else if n%2=1 then l.get (n/2) else r.get (n/2-1):=pick3_eq ..
theorem VT.set_node (l:VT) (x:Value) (r:VT) (n:Nat) (v:Value):(VT.node l x r).set n v=if n=0 then .node l v r else if n%2=1 then .node (l.set (n/2) v) x r else .node l x (r.set (n/2-1) v):=pick3_eq ..
theorem VT.of_succ (d:Nat) (f:Nat→Value):VT.of (d+1) f = .node (VT.of d fun i=>f (2*i+1)) (f 0) (VT.of d fun i=>f (2*i+2)):=rfl
theorem VT.get_set : ∀ (t:VT) (n:Nat) (v:Value) (m:Nat),t.has n→(t.set n v).get m=if m=n then v else t.get m
 | .nil,n,v,m,h=>h.elim
 | .node l x r,n,v,m,h=>by
   rw [VT.set_node]
   simp only [VT.has] at h
   by_cases h0:n=0
   ·subst h0
    rw [if_pos rfl,VT.get_node,VT.get_node]
    by_cases hm:m=0
    ·simp [hm]
    ·simp [hm]
   ·rw [if_neg h0] at h ⊢
    by_cases h1:n%2=1
    ·rw [if_pos h1] at h ⊢
     rw [VT.get_node,VT.get_node]
     by_cases hm:m=0
     ·subst hm;rw [if_pos rfl,if_pos rfl,if_neg (fun h=>h0 h.symm)]
     ·rw [if_neg hm,if_neg hm]
      by_cases hm1:m%2=1
      ·rw [if_pos hm1,if_pos hm1,VT.get_set l _ v _ h]
       by_cases e:m=n
       ·subst e;simp
       ·rw [if_neg e,if_neg (by omega)]
      ·rw [if_neg hm1,if_neg hm1,if_neg (by omega)]
    ·rw [if_neg h1] at h ⊢
     rw [VT.get_node,VT.get_node]
     by_cases hm:m=0
     ·subst hm;rw [if_pos rfl,if_pos rfl,if_neg (fun h=>h0 h.symm)]
     ·rw [if_neg hm,if_neg hm]
      by_cases hm1:m%2=1
      ·rw [if_pos hm1,if_pos hm1,if_neg (by omega)]
      ·rw [if_neg hm1,if_neg hm1,VT.get_set r _ v _ h]
       by_cases e:m=n
       ·subst e;simp
       ·rw [if_neg e,if_neg (by omega)]
theorem VT.has_set : ∀ (t:VT) (n:Nat) (v:Value) (m:Nat),(t.set n v).has m↔t.has m
 | .nil,n,v,m=>Iff.rfl
 | .node l x r,n,v,m=>by
   rw [VT.set_node]
   by_cases h0:n=0
   ·rw [if_pos h0];exact Iff.rfl
   ·rw [if_neg h0]
    by_cases h1:n%2=1
    ·rw [if_pos h1]
     simp only [VT.has]
     by_cases hm:m=0
     ·simp [hm]
     ·rw [if_neg hm,if_neg hm]
      split
      ·exact VT.has_set l ..
      ·exact Iff.rfl
    ·rw [if_neg h1]
     simp only [VT.has]
     by_cases hm:m=0
     ·simp [hm]
     ·rw [if_neg hm,if_neg hm]
      split
      ·exact Iff.rfl
      ·exact VT.has_set r ..
theorem VT.of_spec : ∀ (d:Nat) (f:Nat→Value) (i:Nat),i+1<2^d→(VT.of d f).has i∧(VT.of d f).get i=f i
 | 0,f,i,h=>by simp at h
 |d+1,f,i,h=>by
  rw [VT.of_succ,VT.get_node]
  simp only [VT.has]
  by_cases h0:i=0
  ·subst h0;simp
  ·rw [if_neg h0,if_neg h0]
   have h2:2^(d+1)=2*2^d:=by rw [Nat.pow_succ];omega
   by_cases h1:i%2=1
   ·rw [if_pos h1,if_pos h1]
    obtain ⟨a,b⟩:=VT.of_spec d (fun i=>f (2*i+1)) (i/2) (by omega)
    exact ⟨a,by rw [b];congr 1;omega⟩
   ·rw [if_neg h1,if_neg h1]
    obtain ⟨a,b⟩:=VT.of_spec d (fun i=>f (2*i+2)) (i/2-1) (by omega)
    exact ⟨a,by rw [b];congr 1;omega⟩
structure Rep (n:Nat) (t:VT) (e:Env):Prop where
 len:e.length=n
 at_ : ∀ i,i<n→t.has i∧t.get i=e.getD i undef
noncomputable def treeOf (n:Nat) (e:List Value):VT:=VT.of (Nat.log2 n+2) fun i=>e.getD i undef
theorem rep_of (e:Env):Rep e.length (treeOf e.length e) e:=by
 refine ⟨rfl,fun i hi=>VT.of_spec _ _ _ ?_⟩
 have h1:e.length<2^(Nat.log2 e.length+1):=Nat.lt_log2_self
 rw [Nat.pow_succ]
 omega
theorem rep_args (n:Nat) (args:List Value) (h:args.length≤n):Rep n (treeOf n args) (args++List.replicate (n-args.length) undef):=by
 refine ⟨by simp;omega,fun i hi => ?_⟩
 have h1:n<2^(Nat.log2 n+1):=Nat.lt_log2_self
 obtain ⟨a,b⟩:=VT.of_spec (Nat.log2 n+2) (fun i=>args.getD i undef) i (by rw [Nat.pow_succ];omega)
 refine ⟨a,?_⟩
 unfold treeOf
 rw [b]
 rw [List.getD_eq_getElem?_getD,List.getD_eq_getElem?_getD]
 by_cases hl:i<args.length
 ·rw [List.getElem?_append_left hl]
 ·rw [List.getElem?_append_right (by omega),List.getElem?_eq_none (by omega),List.getElem?_replicate]
  split<;>rfl
noncomputable def toL (n:Nat) (t:VT):Env:=(List.range n).map t.get
theorem Rep.toL {n:Nat} {t:VT} {e:Env} (r:Rep n t e):toL n t=e:=by
 apply List.ext_getElem?
 intro i
 unfold Abs.toL
 rw [List.getElem?_map]
 by_cases hi:i<n
 ·rw [List.getElem?_range hi,Option.map_some,(r.at_ i hi).2]
  have:i<e.length:=by rw [r.len];exact hi
  simp [List.getElem?_eq_getElem this]
 ·have : ¬i<e.length:=by rw [r.len];exact hi
  rw [List.getElem?_eq_none (by simpa using hi),List.getElem?_eq_none (by omega)];rfl
noncomputable def setT (n:Nat) (t:VT) (d:Option Tmp) (v:Value):VT:=
 match d with
 |some i=>match Nat.blt i n with
  |true=>t.set i v
  |false=>t
 |none=>t
theorem Rep.put {n:Nat} {t:VT} {e:Env} (r:Rep n t e) (d:Option Tmp) (v:Value):Rep n (setT n t d v) (eo e d v):=by
 cases d with
 |none=>exact r
 |some i=>
  unfold setT eo
  simp only
  cases hb:Nat.blt i n with
  |true=>
   have hi:i<n:=by simpa using hb
   refine ⟨by simp [r.len],fun j hj=>⟨(VT.has_set ..).2 (r.at_ j hj).1,?_⟩⟩
   simp only
   rw [VT.get_set _ _ _ _ (r.at_ i hi).1,(r.at_ j hj).2,List.getD_eq_getElem?_getD,List.getD_eq_getElem?_getD,List.getElem?_set]
   by_cases e:j=i
   ·subst e;simp [r.len,hj]
   ·rw [if_neg e,if_neg (fun h=>e h.symm)]
  |false=>
   have hi : ¬i<n:=by
    intro h
    rw [show Nat.blt i n=true by simpa using h] at hb;cases hb
   have:e.set i v=e:=List.set_eq_of_length_le (by rw [r.len];exact Nat.le_of_not_lt hi)
   rw [this];exact r
noncomputable def evT (n:Nat) (t:VT):Operand→Value
 | .tmp i=>match Nat.blt i n with
   |true=>t.get i
   |false=>undef
 | .const v=>v
 | .global g=>ptr g 0
 | .func f => .func (.func f) #[] #[]
theorem Rep.ev {n:Nat} {t:VT} {e:Env} (r:Rep n t e):ev e=evT n t:=by
 funext x
 cases x with
 |tmp i=>
  simp only [Abs.ev,evT]
  cases hb:Nat.blt i n with
  |true=>
   have hi:i<n:=by simpa using hb
   exact ((r.at_ i hi).2).symm
  |false=>
   have hi : ¬i<n:=by
    intro h
    rw [show Nat.blt i n=true by simpa using h] at hb;cases hb
   rw [List.getD_eq_getElem?_getD,List.getElem?_eq_none (by rw [r.len];exact Nat.le_of_not_lt hi)];rfl
 |_=>rfl
noncomputable def yieldT (n:Nat) (ops:Array Oper) (t:VT) (j:Nat):Option Bool:=
 match (ops[j]?).bind (·.dst) with
 |some i=>match Nat.blt i n with
  |true=>aR (t.get i)
  |false=>none
 |none=>none
theorem Rep.yield {n:Nat} {t:VT} {e:Env} (r:Rep n t e) (ops:Array Oper) (j:Nat):gy ops e j=yieldT n ops t j:=by
 unfold gy yieldT
 cases (ops[j]?).bind (·.dst) with
 |none=>rfl
 |some i=>
  simp only [Option.bind_some]
  cases hb:Nat.blt i n with
  |true=>
   have hi:i<n:=by simpa using hb
   have:i<e.length:=by rw [r.len];exact hi
   rw [(r.at_ i hi).2,List.getD_eq_getElem?_getD,List.getElem?_eq_getElem this]
   simp only [Option.getD_some]
   cases e[i]<;>rfl
  |false=>
   have hi : ¬i<n:=by
    intro h
    rw [show Nat.blt i n=true by simpa using h] at hb;cases hb
   rw [List.getElem?_eq_none (by rw [r.len];exact Nat.le_of_not_lt hi)]
section
variable {α:Type} (P:Program) (C:ae) (n:Nat)
noncomputable def opsF (ops:Array Oper) (os:List Oper):VT→ab→(VT→ab→Option α)→Option α:=
 List.rec (motive:=fun _=>VT→ab→(VT→ab→Option α)→Option α) (fun t h k=>k t h)
  (fun o _ ih t h k=>
   match o.guard with
   |none=>aa (fV P C o (evT n t) h) fun v h'=>ih (setT n t o.dst v) h' k
   |some (j,want)=>aa (ai (yieldT n ops t j==some want) (fV P C o (evT n t) h) h) fun v h'=>ih (setT n t o.dst v) h' k) os
theorem opsF_sound (ops:Array Oper) : ∀ (os:List Oper) {t:VT} {e:Env} {h:ab} {k:VT→ab→Option α} {a:α},Rep n t e→opsF P C n ops os t h k=some a →
  ∃ e' h' t',gi P C ops os e h=some (e',h')∧Rep n t' e'∧k t' h'=some a
 | [],t,e,h,k,a,r,he=>⟨e,h,t,rfl,r,he⟩
 |o::os,t,e,h,k,a,r,he=>by
  have ih := @opsF_sound ops os
  have he:(match o.guard with
   |none=>aa (fV P C o (evT n t) h) fun v h'=>opsF P C n ops os (setT n t o.dst v) h' k
   |some (j,want)=>aa (ai (yieldT n ops t j==some want) (fV P C o (evT n t) h) h) fun v h'=>opsF P C n ops os (setT n t o.dst v) h' k)=some a:=he
  unfold gi stepA gT
  cases hg:o.guard with
  |none=>
   rw [hg] at he
   simp only [if_true] at he ⊢
   rw [r.ev]
   cases ho:fV P C o (evT n t) h with
   |none=>rw [ho] at he;cases he
   |some x=>
    obtain ⟨v,h'⟩:=x
    rw [ho] at he
    obtain ⟨e',h2,t',h3,h4,h5⟩:=ih (r.put o.dst v) he
    exact ⟨e',h2,t',h3,h4,h5⟩
  |some g=>
   obtain ⟨j,want⟩:=g
   rw [hg] at he
   simp only at he ⊢
   rw [←r.yield] at he
   by_cases hy:(gy ops e j==some want)=true
   ·rw [hy] at he
    rw [if_pos hy,r.ev]
    simp only [ai] at he
    cases ho:fV P C o (evT n t) h with
    |none=>rw [ho] at he;cases he
    |some x=>
     obtain ⟨v,h'⟩:=x
     rw [ho] at he
     obtain ⟨e',h2,t',h3,h4,h5⟩:=ih (r.put o.dst v) he
     exact ⟨e',h2,t',h3,h4,h5⟩
   ·rw [if_neg hy]
    rw [Bool.not_eq_true] at hy
    rw [hy] at he
    simp only [ai,aa] at he
    obtain ⟨e',h2,t',h3,h4,h5⟩:=ih (r.put o.dst undef) he
    exact ⟨e',h2,t',h3,h4,h5⟩
noncomputable def regionF (ops:Array Oper) (draw:Bool) (t:VT) (h:ab) (k:VT→ab→Option α):Option α:=
 match draw with
 |false=>opsF P C n ops ops.toList t h k
 |true=>match lateOk P ops with
  |true=>opsF P C n ops ((late P ops).map (·.2)) t h k
  |false=>match cQ P C ops true (toL n t) h with
   |some (e',h')=>k (treeOf n e') h'
   |none=>none
theorem regionF_sound (ops:Array Oper) (draw:Bool) {t:VT} {e:Env} {h:ab} {k:VT→ab→Option α} {a:α} (r:Rep n t e) (he:regionF P C n ops draw t h k=some a) :
  ∃ e' h' t',cQ P C ops draw e h=some (e',h')∧Rep n t' e'∧k t' h'=some a:=by
 unfold regionF at he
 cases draw with
 |false=>exact opsF_sound P C n ops _ r he
 |true=>
  simp only at he
  cases hl:lateOk P ops with
  |true=>
   rw [hl] at he
   obtain ⟨e',h',t',h1,h2,h3⟩:=opsF_sound P C n ops _ r he
   refine ⟨e',h',t',?_,h2,h3⟩
   unfold cQ
   have hl2:=hl
   unfold lateOk at hl
   rw [Bool.and_eq_true] at hl
   rw [if_pos rfl,if_pos hl.1]
   rw [←trace_ops] at h1
   cases ht:cX P C ops (late P ops) e h with
   |none=>rw [ht] at h1;cases h1
   |some x=>
    obtain ⟨tr,e2,h4⟩:=x
    rw [ht] at h1
    cases h1
    simp only
    rw [if_pos (dynTriv_ok hl.2 tr h')]
  |false=>
   rw [hl] at he
   simp only at he
   rw [r.toL] at he
   cases hr:cQ P C ops true e h with
   |none=>rw [hr] at he;cases he
   |some x=>
    obtain ⟨e',h'⟩:=x
    rw [hr] at he
    have hlen:e'.length=n:=by
     rw [←r.len]
     unfold cQ at hr
     rw [if_pos rfl] at hr
     split at hr
     ·split at hr
      ·rename_i tr e2 h2 ht
       split at hr
       ·cases hr
        have h1:gi P C ops ((late P ops).map (·.2)) e h=some (e',h'):=by rw [←trace_ops,ht];rfl
        have : ∀ (os:List Oper) (e:Env) (h:ab) (e':Env) (h':ab),gi P C ops os e h=some (e',h')→e'.length=e.length:=by
         intro os
         induction os with
         |nil=>intro e h e' h' he;simp only [gi,Option.some.injEq,Prod.mk.injEq] at he;rw [he.1]
         |cons o os ih=>
          intro e h e' h' he
          simp only [gi] at he
          split at he
          ·rename_i e1 h1 hs
           have h2:=ih _ _ _ _ he
           rw [h2]
           unfold stepA at hs
           split at hs
           ·split at hs
            ·cases hs;exact length_putD ..
            ·cases hs
           ·cases hs;exact length_putD ..
          ·cases he
        exact this _ _ _ _ _ h1
       ·cases hr
      ·cases hr
     ·cases hr
    refine ⟨e',h',treeOf n e',rfl,?_,he⟩
    subst hlen;exact rep_of e'
noncomputable def condF (v:Value) (a b:Option α):Option α:=
 match v with
 | .bool true=>a
 | .bool false=>b
 |_=>none
noncomputable def leave (id i:Nat) (k x:Option α):Option α:=Bool.rec (motive:=fun _=>Option α) x k (Nat.beq i id)
noncomputable def loopF (b:VT→ab→(VT→ab→Option α)→Option α) (fuel:Nat):VT→ab→Option α:=
 Nat.rec (motive:=fun _=>VT→ab→Option α) (fun _ _=>none) (fun _ ih t h=>b t h ih) fuel
noncomputable def cameF (o:Option (Ex×Env×ab)) (t:VT) (k r:VT→ab→Option α) (x:Nat→VT→ab→Option α):Option α:=
 match o with
 |some (.normal,_,h)=>k t h
 |some (.ret,_,h)=>r t h
 |some (.exit i,_,h)=>x i t h
 |none=>none
theorem range_env {P:Program} {C:ae} {g:Operand} {ps:Array Tmp} {as b:Code} {e e':Env} {h h':ab} {x:Ex} (he:av P C (.rangeFunc g ps as b) e h=some (x,e',h')):e'=e:=by
 obtain ⟨_,_,_,_,_,_,_,_,hl⟩:=rangeA_some he
 obtain ⟨_,_,_,_,_,_,_,_,_,h2,_⟩:=dw hl
 exact h2
noncomputable def codeF (fuel:Nat) (c:Code):VT→ab→(VT→ab→Option α)→(VT→ab→Option α)→(Nat→VT→ab→Option α)→Option α:=
 Code.rec (motive:=fun _=>VT→ab→(VT→ab→Option α)→(VT→ab→Option α)→(Nat→VT→ab→Option α)→Option α)
  (fun t h k _ _=>k t h)
  (fun _ ops draw t h k _ _=>regionF P C n ops draw t h k)
  (fun _ _ ia ib t h k r x=>ia t h (fun t' h'=>ib t' h' k r x) r x)
  (fun q _ _ ia ib t h k r x=>condF (evT n t q) (ia t h k r x) (ib t h k r x))
  (fun id _ ib t h k r x=>ib t h k r (fun i t' h'=>leave id i (k t' h') (x i t' h')))
  (fun _ ib t h _ r x=>loopF (fun t h k=>ib t h k r x) fuel t h)
  (fun g ps a b _ _ t h k r x=>cameF (av P C (.rangeFunc g ps a b) (toL n t) h) t k r x)
  (fun i t h _ _ x=>x i t h)
  (fun _ ib t h k r x=>ib t h k r x)
  (fun _ t h k _ _=>k t h)
  (fun _ _ _ _ _ _=>none)
  (fun t h _ r _=>r t h)
  (fun _ _ _ _ _ _=>none) c
def Came (a:α) (k r:VT→ab→Option α) (x:Nat→VT→ab→Option α) (ex:Ex) (t:VT) (h:ab):Prop:=
 match ex with
 | .normal=>k t h=some a
 | .ret=>r t h=some a
 | .exit i=>x i t h=some a
theorem dy (fuel:Nat) (hfuel:fuel≤rounds) : ∀ (c:Code) {t:VT} {e:Env} {h:ab} {k r:VT→ab→Option α} {x:Nat→VT→ab→Option α} {a:α},Rep n t e→codeF P C n fuel c t h k r x=some a →
  ∃ ex e' h' t',av P C c e h=some (ex,e',h')∧Rep n t' e'∧Came a k r x ex t' h'
 | .skip,t,e,h,k,r,x,a,hr,he=>⟨.normal,e,h,t,rfl,hr,he⟩
 | .region _ ops d,t,e,h,k,r,x,a,hr,he=>by
   obtain ⟨e',h',t',h1,h2,h3⟩:=regionF_sound P C n ops d hr he
   exact ⟨.normal,e',h',t',by simp only [av,h1],h2,h3⟩
 | .seq c d,t,e,h,k,r,x,a,hr,he=>by
   obtain ⟨ex,e',h',t',h1,h2,h3⟩:=dy fuel hfuel c (k:=fun t' h'=>codeF P C n fuel d t' h' k r x) hr he
   cases ex with
   |normal=>
    obtain ⟨ex2,e2,h4,t2,h5,h6,h7⟩:=dy fuel hfuel d h2 h3
    exact ⟨ex2,e2,h4,t2,by simp only [av,h1];exact h5,h6,h7⟩
   |ret=>exact ⟨.ret,e',h',t',by simp only [av,h1],h2,h3⟩
   |exit i=>exact ⟨.exit i,e',h',t',by simp only [av,h1],h2,h3⟩
 | .cond q c d,t,e,h,k,r,x,a,hr,he=>by
   have he:condF (evT n t q) (codeF P C n fuel c t h k r x) (codeF P C n fuel d t h k r x)=some a:=he
   unfold condF at he
   unfold av
   rw [hr.ev]
   split at he
   ·rename_i hv;rw [hv];exact dy fuel hfuel c hr he
   ·rename_i hv;rw [hv];exact dy fuel hfuel d hr he
   ·cases he
 | .block id b,t,e,h,k,r,x,a,hr,he=>by
   obtain ⟨ex,e',h',t',h1,h2,h3⟩:=dy fuel hfuel b (x:=fun i t' h'=>leave id i (k t' h') (x i t' h')) hr he
   cases ex with
   |normal=>exact ⟨.normal,e',h',t',by simp only [av,h1],h2,h3⟩
   |ret=>exact ⟨.ret,e',h',t',by simp only [av,h1],h2,h3⟩
   |exit i=>
    simp only [Came,leave] at h3
    cases hb:Nat.beq i id with
    |true=>
     rw [hb] at h3
     exact ⟨.normal,e',h',t',by simp only [av,h1];rw [if_pos (Nat.eq_of_beq_eq_true hb)],h2,h3⟩
    |false=>
     rw [hb] at h3
     exact ⟨.exit i,e',h',t',by simp only [av,h1];rw [if_neg (Nat.ne_of_beq_eq_false hb)],h2,h3⟩
 | .loop b,t,e,h,k,r,x,a,hr,he=>by
   have he:loopF (fun t h k=>codeF P C n fuel b t h k r x) fuel t h=some a:=he
   have main : ∀ (f m:Nat) (t:VT) (e:Env) (h:ab),f≤m→Rep n t e→loopF (fun t h k=>codeF P C n fuel b t h k r x) f t h=some a →
     ∃ ex e' h' t',iter (av P C b) m e h=some (ex,e',h')∧Rep n t' e'∧ex ≠ .normal∧Came a k r x ex t' h':=by
    intro f
    induction f with
    |zero=>intro m t e h _ _ he;cases he
    |succ f ih=>
     intro m t e h hm hr he
     obtain ⟨m,rfl⟩ : ∃ m',m=m'+1:=⟨m-1,by omega⟩
     obtain ⟨ex,e',h',t',h1,h2,h3⟩:=dy fuel hfuel b (k:=fun t h=>loopF (fun t h k=>codeF P C n fuel b t h k r x) f t h) hr he
     cases ex with
     |normal=>
      obtain ⟨ex2,e2,h4,t2,h5,h6,h7⟩:=ih m t' e' h' (by omega) h2 h3
      exact ⟨ex2,e2,h4,t2,by simp only [iter,h1];exact h5,h6,h7⟩
     |ret=>exact ⟨.ret,e',h',t',by simp only [iter,h1],h2,by simp,h3⟩
     |exit i=>exact ⟨.exit i,e',h',t',by simp only [iter,h1],h2,by simp,h3⟩
   obtain ⟨ex,e',h',t',h1,h2,h3,h4⟩:=main fuel rounds t e h hfuel hr he
   refine ⟨ex,e',h',t',h1,h2,h4⟩
 | .exit i,t,e,h,k,r,x,a,hr,he=>⟨.exit i,e,h,t,rfl,hr,he⟩
 | .scope b,t,e,h,k,r,x,a,hr,he=>by
   have:=dy fuel hfuel b hr he
   exact this
 | .label _,t,e,h,k,r,x,a,hr,he=>⟨.normal,e,h,t,rfl,hr,he⟩
 | .ret,t,e,h,k,r,x,a,hr,he=>⟨.ret,e,h,t,rfl,hr,he⟩
 | .goto _,t,e,h,k,r,x,a,hr,he=>by cases he
 | .rangeFunc g ps as b,t,e,h,k,r,x,a,hr,he=>by
   have he:cameF (av P C (.rangeFunc g ps as b) (toL n t) h) t k r x=some a:=he
   rw [hr.toL] at he
   unfold cameF at he
   cases hc:av P C (.rangeFunc g ps as b) e h with
   |none=>rw [hc] at he;cases he
   |some y=>
    obtain ⟨ex,e',h'⟩:=y
    rw [hc] at he
    have he':=range_env hc
    subst he'
    refine ⟨ex,e',h',t,rfl,hr,?_⟩
    cases ex<;>exact he
 | .refuse _,t,e,h,k,r,x,a,hr,he=>by cases he
end
noncomputable def resT (P:Program) (n:Nat) (rs:List ResultVar) (t:VT) (h:ab):Out:=aj P rs (toL n t) h
noncomputable def bodyF (P:Program) (C:ae) (fuel:Nat) (fn:Func) (args:List Value) (h:ab):Out:=
 match fn.body with
 |none=>none
 |some c=>match Nat.ble args.length fn.ntmps with
  |true=>codeF P C fn.ntmps fuel c (treeOf fn.ntmps args) h (resT P fn.ntmps fn.results.toList) (resT P fn.ntmps fn.results.toList) (fun _ _ _=>none)
  |false=>none
theorem bodyF_sound (P:Program) (C:ae) (fuel:Nat) (hfuel:fuel≤rounds) {fn:Func} {args:List Value} {h:ab} {a:Value×ab} (he:bodyF P C fuel fn args h=some a):bodyA P C fn args h=some a:=by
 unfold bodyF at he
 unfold bodyA
 cases hb:fn.body with
 |none=>rw [hb] at he;cases he
 |some c=>
  rw [hb] at he
  simp only at he ⊢
  cases hn:Nat.ble args.length fn.ntmps with
  |false=>rw [hn] at he;cases he
  |true=>
   rw [hn] at he
   obtain ⟨ex,e',h',t',h1,h2,h3⟩:=dy P C fn.ntmps fuel hfuel c (rep_args _ args (Nat.le_of_ble_eq_true hn)) he
   rw [h1]
   cases ex with
   |normal=>simp only [Came,resT] at h3;rw [h2.toL] at h3;exact h3
   |ret=>simp only [Came,resT] at h3;rw [h2.toL] at h3;exact h3
   |exit i=>cases h3
noncomputable def roundF (P:Program) (C:ae) (fuel:Nat) (l:Nat) (args:List Value) (h:ab):Out:=
 match h.aF l with
 |some (.obj (.loop _ _ tmps params assign body))=>
  match Nat.beq args.length params.length&&(codeOk P assign&&codeOk P body) with
  |true=>codeF P C tmps.length fuel assign (treeOf tmps.length (eG tmps (params.zip args))) h
    (fun t h1=>match h1.aF l with
     |some (.obj (.loop .ready p1 t1 q1 a1 b1))=>codeF P C tmps.length fuel body t (h1.bF l (.loop .busy p1 t1 q1 a1 b1)) (fun _ h2=>ei l .normal h2) (fun _ h2=>ei l .ret h2) (fun i _ h2=>ei l (.exit i) h2)
     |_=>none) (fun _ _=>none) (fun _ _ _=>none)
  |false=>none
 |_=>none
theorem length_putAll : ∀ {e:Env} (l:List (Tmp×Value)),(eG e l).length=e.length
 |e,[]=>rfl
 |e,(t,v)::l=>by simp only [eG];rw [length_putAll l];simp
theorem roundF_sound (P:Program) (C:ae) (fuel:Nat) (hfuel:fuel≤rounds) {l:Nat} {args:List Value} {h:ab} {a:Value×ab} (he:roundF P C fuel l args h=some a):fq P C l args h=some a:=by
 unfold roundF at he
 unfold fq
 split at he
 ·rename_i st p0 tmps params assign body hg
  rw [hg]
  simp only
  split at he
  ·rename_i hb
   rw [Bool.and_eq_true,Bool.and_eq_true] at hb
   rw [if_pos ⟨Nat.eq_of_beq_eq_true hb.1,hb.2.1,hb.2.2⟩]
   have hrep:Rep tmps.length (treeOf tmps.length (eG tmps (params.zip args))) (eG tmps (params.zip args)):=by
    have:=rep_of (eG tmps (params.zip args))
    rw [length_putAll] at this
    exact this
   obtain ⟨ex,e1,h1,t1,hc1,r1,c1⟩:=dy P C _ fuel hfuel assign hrep he
   rw [hc1]
   cases ex with
   |ret=>cases c1
   |exit i=>cases c1
   |normal=>
    simp only [Came] at c1
    simp only
    split at c1
    ·rename_i p1 t1' q1 a1 b1 hg1
     rw [hg1]
     simp only
     obtain ⟨ex2,e2,h2,t2,hc2,r2,c2⟩:=dy P C _ fuel hfuel body r1 c1
     rw [hc2]
     cases ex2<;>exact c2
    ·cases c1
  ·cases he
 ·cases he
noncomputable def callF (P:Program) (ok:FuncId→Bool) (X:ae) (sm:FuncId→Bool) (fuel:Nat) (k:Nat):ae:=
 Nat.rec (motive:=fun _=>ae) (fun _ _ _=>none)
  (fun _ ih f args h=>
   match sm f with
   |true=>X f args h
   |false=>match ok f with
    |true=>match Nat.ble P.globals.size h.n0 with
     |true=>match P.funcs[f]? with
      |some fn=>bodyF P ih fuel fn args h
      |none=>none
     |false=>none
    |false=>match Nat.ble P.funcs.size f&&Nat.ble P.globals.size h.n0 with
     |true=>roundF P ih fuel (f-P.funcs.size) args h
     |false=>none) k
theorem callF_sound {P:Program} {ok:FuncId→Bool} {X:ae} {sm:FuncId→Bool} {fuel:Nat} (hX:aU P X) (hfuel:fuel≤rounds) (hm:P.follows .mixedOrders=true) (hok : ∀ f fn,ok f=true→P.funcs[f]? = some fn→fnOk P fn=true) :
  ∀ k,aU P (callF P ok X sm fuel k)
 | 0=>⟨(by intro f args h v h' e;cases e),(by intro f args h v h' e;cases e),(by intro f args h v h' e;cases e),(by intro f args h v h' e;cases e)⟩
 |k+1=>by
  have ih:=callF_sound (sm:=sm) hX hfuel hm hok k
  have key : ∀ {f args h v h'},callF P ok X sm fuel (k+1) f args h=some (v,h')→X f args h=some (v,h')∨(∃ fn,P.funcs[f]? = some fn∧fnOk P fn=true∧P.globals.size≤h.n0∧bodyA P (callF P ok X sm fuel k) fn args h=some (v,h')) ∨
    (P.funcs.size≤f∧P.globals.size≤h.n0∧fq P (callF P ok X sm fuel k) (f-P.funcs.size) args h=some (v,h')):=by
   intro f args h v h' he
   have he:(match sm f with
   |true=>X f args h
   |false=>match ok f with
    |true=>match Nat.ble P.globals.size h.n0 with
     |true=>match P.funcs[f]? with
      |some fn=>bodyF P (callF P ok X sm fuel k) fuel fn args h
      |none=>none
     |false=>none
    |false=>match Nat.ble P.funcs.size f&&Nat.ble P.globals.size h.n0 with
     |true=>roundF P (callF P ok X sm fuel k) fuel (f-P.funcs.size) args h
     |false=>none)=some (v,h'):=he
   cases h0:sm f with
   |true=>rw [h0] at he;exact .inl he
   |false=>
    rw [h0] at he
    cases h1:ok f with
    |false=>
     rw [h1] at he
     cases h2:(Nat.ble P.funcs.size f&&Nat.ble P.globals.size h.n0) with
     |false=>rw [h2] at he;cases he
     |true=>
      rw [h2] at he
      rw [Bool.and_eq_true] at h2
      exact .inr (.inr ⟨Nat.le_of_ble_eq_true h2.1,Nat.le_of_ble_eq_true h2.2,roundF_sound P _ fuel hfuel he⟩)
    |true=>
     rw [h1] at he
     cases h2:Nat.ble P.globals.size h.n0 with
     |false=>rw [h2] at he;cases he
     |true=>
      rw [h2] at he
      cases h3:P.funcs[f]? with
      |none=>simp only [h3] at he;cases he
      |some fn=>
       simp only [h3] at he
       exact .inr (.inl ⟨fn,rfl,hok f fn h1 h3,Nat.le_of_ble_eq_true h2,bodyF_sound P _ fuel hfuel he⟩)
  refine ⟨?_,?_,?_,?_⟩
  ·intro f args h v h' he
   rcases key he with h0|⟨fn,h1,h2,h3,h4⟩|⟨h1,h2,h3⟩
   ·exact hX.grow _ _ _ _ _ h0
   ·exact bodyA_grow ih h4
   ·exact roundA_grow ih h3
  ·intro f args h v h' he hba hbh
   rcases key he with h0|⟨fn,h1,h2,h3,h4⟩|⟨h1,h2,h3⟩
   ·exact hX.bd _ _ _ _ _ h0 hba hbh
   ·exact bodyA_bd ih h2 h3 h4 hba hbh
   ·exact roundA_bd ih h3 h2 hba hbh
  ·intro f args h v h' he hf hba hbh hg μ w args' S hfr r
   rcases key he with h0|⟨fn,h1,h2,h3,h4⟩|⟨h1,_⟩
   ·exact hX.run _ _ _ _ _ h0 hf hba hbh hg μ w args' S hfr r
   ·cases hb:fn.body with
    |none=>unfold bodyA at h4;rw [hb] at h4;cases h4
    |some c=>
     have hco:codeOk P c=true:=by
      unfold fnOk at h2
      rw [hb] at h2
      simp only [Bool.and_eq_true] at h2
      exact h2.2
     have h2':=h2
     unfold fnOk at h2'
     rw [Bool.and_eq_true,Bool.not_eq_true'] at h2'
     exact .inl ⟨fn,h1,h2'.1,by rw [hb];rfl,body_sound ih hm h1 hb hco h4 hg hba hbh S hfr r⟩
   ·exact absurd hf (Nat.not_lt.2 h1)
  ·intro l args h v h' he hba hbh hg μ w args' L S hfr r hL
   rcases key he with h0|⟨fn,h1,_⟩|⟨_,_,h2⟩
   ·exact hX.round _ _ _ _ _ h0 hba hbh hg μ w args' L S hfr r hL
   ·exact absurd (Array.getElem?_eq_some_iff.1 h1).1 (Nat.not_lt.2 (Nat.le_add_right _ _))
   ·rw [show yid P l-P.funcs.size=l from Nat.add_sub_cancel_left _ _] at h2
    exact round_sound ih hm h2 hg hba hbh S hfr r hL
end Go.Abs

namespace Go.Abs
def dU (n:Nat) (Inv:Nat→(Nat→Value)→ab→Prop) (fin:Ex→(Nat→Value)→ab→Prop) (k:Nat) (o:Option (Ex×Env×ab)):Prop:=
 ∃ ex x' h',o=some (ex,aO n x',h')∧((ex = .normal ∧ ∃ j,j<k∧Inv j x' h')∨(ex ≠ .normal∧fin ex x' h'))
def Fin (n:Nat) (fin:Ex→(Nat→Value)→ab→Prop) (o:Option (Ex×Env×ab)):Prop := ∃ ex x' h',o=some (ex,aO n x',h')∧fin ex x' h'
section
variable {n:Nat} {Inv:Nat→(Nat→Value)→ab→Prop} {fin:Ex→(Nat→Value)→ab→Prop} {k:Nat}
theorem dU.next {x':Nat→Value} {h':ab} (j:Nat) (hj:j<k) (hi:Inv j x' h'):dU n Inv fin k (some (.normal,aO n x',h')):=⟨_,_,_,rfl,.inl ⟨rfl,j,hj,hi⟩⟩
theorem dU.out {x':Nat→Value} {h':ab} (i:Nat) (hi:fin (.exit i) x' h'):dU n Inv fin k (some (.exit i,aO n x',h')):=⟨_,_,_,rfl,.inr ⟨by simp,hi⟩⟩
theorem dU.ret {x':Nat→Value} {h':ab} (hi:fin .ret x' h'):dU n Inv fin k (some (.ret,aO n x',h')):=⟨_,_,_,rfl,.inr ⟨by simp,hi⟩⟩
theorem bP {P:Program} {C:ae} {b:Code} {T:(Nat→Value)→ab→Option (Ex×Env×ab)} (hT : ∀ x h,av P C b (aO n x) h=T x h)
  (hs : ∀ k x h,Inv k x h→dU n Inv fin k (T x h)) {x:Nat→Value} {h:ab} (k:Nat) (hk:k<rounds) (hi:Inv k x h):Fin n fin (iter (av P C b) rounds (aO n x) h):=
 loop_inv hT hs hk hi
theorem bO {α:Type} {Q:Option α→Prop} {o:Option (Ex×Env×ab)} {r:Env→ab→Option α} {x:Nat→Env→ab→Option α} (f:Fin n fin o)
  (h : ∀ ex x' h',fin ex x' h'→Q (fl (some (ex,aO n x',h')) r x)):Q (fl o r x):=by
 obtain ⟨ex,x',h',rfl,hf⟩:=f
 exact h ex x' h' hf
end
theorem res_one {P:Program} {rs:List ResultVar} {n t:Nat} (hr:rs = [.tmp t]) (ht:t<n) (x:Nat→Value) (h:ab):aj P rs (aO n x) h=some (x t,h):=by
 subst hr
 have:(aO n x).getD t undef=x t:=by
  unfold aO
  rw [List.getD_eq_getElem?_getD,List.getElem?_map,List.getElem?_range ht];rfl
 simp only [aj,fh,Option.map_some,this]
end Go.Abs

namespace Go.Abs
end Go.Abs

namespace Go.Proofs.YtdnahgfgoajmcaaDoor
open Go Go.Abs
end Go.Proofs.YtdnahgfgoajmcaaDoor

