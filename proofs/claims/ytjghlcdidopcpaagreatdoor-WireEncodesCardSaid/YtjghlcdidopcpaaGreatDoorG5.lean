/-
  A part of the proof, spaces and names shortened by a program (a claim may hold 1,500,000 bytes).
  Conditions: as each theorem states.
-/
import Derived.Test.YtjghlcdidopcpaaGreatDoorG4
import Derived.ProofKit
namespace Go.Abs
open Go.RowKit
def dd (W:World) (bm:Nat→Option (List Value)):ak:=⟨W.heap.size,bm,.nil,0⟩
def topMu (W:World):Mu:=fun b=>if b<W.heap.size then some ⟨b,0,0,0⟩ else none
theorem topHeap_new (W:World) (bm:Nat→Option (List Value)) {b:Nat} (hb:W.heap.size≤b):(dd W bm).get b=none:=by
 unfold ak.get dd
 simp only [Nat.add_zero]
 rw [if_neg (by omega),if_neg (by omega)]
theorem Step.below {μ μ':Mu} {h h':ak} {W W':World} (hn : ∀ B,B<W.heap.size → ¬Own μ h B) (St:Step μ h W μ' h' W'):Below W.heap.size W W':=
 ⟨St.os,St.tape,St.output,St.size,fun k hk=>St.same k hk (hn k hk)⟩
end Go.Abs

namespace Go.Abs
open Go.RowKit
end Go.Abs

namespace Go.Abs
structure Late (ι:Type) where
 p:(ι→Prop)→Prop
 all : ∀ {q:ι→Prop},(∀ i,q i)→p q
 and : ∀ {q r s:ι→Prop},p q→p r→(∀ i,q i→r i→s i)→p s
section
variable {ι:Type} (E:Late ι) {P:Program} {C:av} {D:ι→av}
theorem Late.mono {q r:ι→Prop} (h:E.p q) (hr : ∀ i,q i→r i):E.p r:=E.and h (E.all (q:=fun _=>True) fun _=>trivial) fun i h _=>hr i h
variable (base : ∀ f args h r,C f args h=some r→E.p fun i=>D i f args h=some r)
include base
theorem opA_late (o:Oper) (ρ:Operand→Value) (h:ak) (r:Value×ak) (e:opA P C o ρ h=some r):E.p fun i=>opA P (D i) o ρ h=some r:=by
 unfold opA at e ⊢
 split at e
 all_goals first
  |exact E.all fun _=>e
  |skip
 rename_i c _
 cases hc:c.callee with
 |builtin b=>simp only [hc] at e ⊢;exact E.all fun _=>e
 |invoke a b=>simp only [hc] at e;cases e
 |value f=>
  simp only [hc] at e ⊢
  unfold callA at e ⊢
  split at e
  ·exact base _ _ _ _ e
  ·cases e
theorem opsA_late (ops:Array Oper) : ∀ (l:List Oper) (e:Env) (h:ak) (r:Env×ak),opsA P C ops l e h=some r→E.p fun i=>opsA P (D i) ops l e h=some r
 | [],e,h,r,x=>E.all fun _=>x
 |o::l,e,h,r,x=>by
  simp only [opsA] at x ⊢
  unfold stepA at x ⊢
  by_cases hw:wantA ops o e=true
  ·simp only [hw,if_true] at x ⊢
   cases ho:opA P C o (ev e) h with
   |none=>rw [ho] at x;cases x
   |some y=>
    rw [ho] at x
    refine E.and (opA_late E base o (ev e) h y ho) (opsA_late ops l _ _ r x) ?_
    intro i h1 h2
    simp only [h1];exact h2
  ·simp only [hw] at x ⊢
   exact opsA_late ops l _ _ r x
theorem traceA_late (ops:Array Oper) : ∀ (l:List (Nat×Oper)) (e:Env) (h:ak) (r:List Tr1×Env×ak),cO P C ops l e h=some r→E.p fun i=>cO P (D i) ops l e h=some r
 | [],e,h,r,x=>E.all fun _=>x
 | (n,o)::l,e,h,r,x=>by
   simp only [cO] at x ⊢
   by_cases hw:wantA ops o e=true
   ·simp only [hw,if_true] at x ⊢
    cases ho:opA P C o (ev e) h with
    |none=>rw [ho] at x;cases x
    |some y=>
     rw [ho] at x
     simp only at x
     cases ht:cO P C ops l (eG e o.dst y.1) y.2 with
     |none=>rw [ht] at x;cases x
     |some z=>
      rw [ht] at x
      refine E.and (opA_late E base o (ev e) h y ho) (traceA_late ops l _ _ z ht) ?_
      intro i h1 h2
      simp only [h1,h2];exact x
   ·simp only [hw] at x ⊢
    cases ht:cO P C ops l (eG e o.dst undef) h with
    |none=>rw [ht] at x;cases x
    |some z=>
     rw [ht] at x
     refine E.mono (traceA_late ops l _ _ z ht) ?_
     intro i h2
     simp only [h2];exact x
omit base in
theorem all_late {α:Type} (l:List α) (p:α→Bool) (q:ι→α→Bool) (hq : ∀ x∈l,p x=true→E.p fun i=>q i x=true) (h:l.all p=true):E.p fun i=>l.all (q i)=true:=by
 induction l with
 |nil=>exact E.all fun _=>rfl
 |cons x l ih=>
  simp only [List.all_cons,Bool.and_eq_true] at h ⊢
  exact E.and (hq x List.mem_cons_self h.1) (ih (fun y hy=>hq y (List.mem_cons_of_mem _ hy)) h.2) fun i a b=>⟨a,b⟩
theorem dynOk_late (ops:Array Oper) (l:List (Nat×Oper)) (tr:List Tr1) (hEnd:ak) (x:dynOk P C ops l tr hEnd=true):E.p fun i=>dynOk P (D i) ops l tr hEnd=true:=by
 unfold dynOk at x ⊢
 refine all_late E _ _ (fun i x=>_) ?_ x
 intro a _ ha
 rw [Bool.or_eq_true] at ha
 rcases ha with ha|ha
 ·exact E.all fun i=>by rw [Bool.or_eq_true];exact .inl ha
 ·let G:ι→(Nat×Oper)×Nat→Bool:=fun i y=>eJ (fi ops) a.1.1.1 y.1.1||eJ (fi ops) y.1.1 a.1.1.1||match heapAt (tr.map (·.ran)) (tr.map (·.h) ++ [hEnd]) (fg P l (a.2,y.2)) (if y.2<a.2 then y.2 else y.2+1) with
      |some h=>same (opA P (D i) a.1.1.2 (ev a.1.2.e) h) a.1.2.v
      |none=>false
  refine E.mono (all_late E _ _ G ?_ ha) ?_
  ·intro y _ hy
   rw [Bool.or_eq_true] at hy
   rcases hy with hy|hy
   ·exact E.all fun i=>by rw [Bool.or_eq_true];exact .inl hy
   ·split at hy
    ·rename_i h hh
     unfold Abs.same at hy
     split at hy
     ·rename_i v g hv
      refine E.mono (opA_late E base _ _ _ _ hv) ?_
      intro i hi
      rw [Bool.or_eq_true]
      refine .inr ?_
      rw [hh]
      simp only [hi,Abs.same];exact hy
     ·cases hy
    ·cases hy
  ·intro i hi
   rw [Bool.or_eq_true]
   exact .inr hi
theorem regionA_late (ops:Array Oper) (d:Bool) (e:Env) (h:ak) (r:Env×ak) (x:cR P C ops d e h=some r):E.p fun i=>cR P (D i) ops d e h=some r:=by
 unfold cR at x ⊢
 cases d with
 |false=>exact opsA_late E base ops _ e h r x
 |true=>
  simp only [if_true] at x ⊢
  split at x
  ·rename_i hs
   simp only [hs,if_true]
   split at x
   ·rename_i tr e1 h1 ht
    split at x
    ·rename_i hd
     refine E.and (traceA_late E base ops _ e h _ ht) (dynOk_late E base ops _ tr h1 hd) ?_
     intro i a b
     simp only [a,b,if_true];exact x
    ·cases x
   ·cases x
  ·cases x
omit base in
theorem iter_late {step:Env→ak→Option (Ex×Env×ak)} {stepD:ι→Env→ak→Option (Ex×Env×ak)} (hs : ∀ e h r,step e h=some r→E.p fun i=>stepD i e h=some r) :
  ∀ (n:Nat) (e:Env) (h:ak) (r:Ex×Env×ak),iter step n e h=some r→E.p fun i=>iter (stepD i) n e h=some r
 | 0,_,_,_,x=>by cases x
 |n+1,e,h,r,x=>by
  simp only [iter] at x ⊢
  split at x
  ·rename_i e1 h1 h2
   refine E.and (hs _ _ _ h2) (iter_late hs n _ _ r x) ?_
   intro i a b
   simp only [a];exact b
  ·rename_i hn
   refine E.mono (hs _ _ _ x) ?_
   intro i a
   simp only [a]
   obtain ⟨ex,e1,h1⟩:=r
   cases ex with
   |normal=>exact absurd x (hn e1 h1)
   |ret=>rfl
   |exit j=>rfl
theorem dt : ∀ (c:Code) (e:Env) (h:ak) (r:Ex×Env×ak),aL P C c e h=some r→E.p fun i=>aL P (D i) c e h=some r
 | .skip,e,h,r,x=>E.all fun _=>x
 | .region _ ops d,e,h,r,x=>by
   simp only [aL] at x ⊢
   split at x
   ·rename_i e1 h1 h2
    refine E.mono (regionA_late E base ops d e h _ h2) ?_
    intro i a
    simp only [a];exact x
   ·cases x
 | .seq a b,e,h,r,x=>by
   simp only [aL] at x ⊢
   split at x
   ·rename_i e1 h1 h2
    refine E.and (dt a e h _ h2) (dt b _ _ r x) ?_
    intro i p q
    simp only [p];exact q
   ·rename_i hn
    refine E.mono (dt a e h _ x) ?_
    intro i p
    simp only [p]
    obtain ⟨ex,e1,h1⟩:=r
    cases ex with
    |normal=>exact absurd x (hn e1 h1)
    |ret=>rfl
    |exit j=>rfl
 | .cond c a b,e,h,r,x=>by
   simp only [aL] at x ⊢
   split at x
   ·exact dt a e h r x
   ·exact dt b e h r x
   ·cases x
 | .block j b,e,h,r,x=>by
   simp only [aL] at x ⊢
   split at x
   ·rename_i k e1 h1 h2
    refine E.mono (dt b e h _ h2) ?_
    intro i p
    simp only [p];exact x
   ·rename_i hn
    refine E.mono (dt b e h _ x) ?_
    intro i p
    simp only [p]
    obtain ⟨ex,e1,h1⟩:=r
    cases ex with
    |exit k=>exact absurd x (hn k e1 h1)
    |ret=>rfl
    |normal=>rfl
 | .loop b,e,h,r,x=>by
   simp only [aL] at x ⊢
   exact iter_late E (fun e h r y=>dt b e h r y) rounds e h r x
 | .exit _,e,h,r,x=>E.all fun _=>x
 | .scope b,e,h,r,x=>by simp only [aL] at x ⊢;exact dt b e h r x
 | .label _,e,h,r,x=>E.all fun _=>x
 | .ret,e,h,r,x=>E.all fun _=>x
 | .goto _,e,h,r,x=>by cases x
 | .rangeFunc ..,e,h,r,x=>by cases x
 | .refuse _,e,h,r,x=>by cases x
theorem bodyA_late (fn:Func) (args:List Value) (h:ak) (r:Value×ak) (x:bodyA P C fn args h=some r):E.p fun i=>bodyA P (D i) fn args h=some r:=by
 unfold bodyA at x ⊢
 cases hb:fn.body with
 |none=>rw [hb] at x;cases x
 |some c=>
  rw [hb] at x
  simp only at x ⊢
  cases hc:aL P C c (args++List.replicate (fn.ntmps-args.length) undef) h with
  |none=>rw [hc] at x;cases x
  |some y=>
   rw [hc] at x
   refine E.mono (dt E base c _ _ y hc) ?_
   intro i a
   simp only [a];exact x
end
def lateOne:Late Unit:=⟨fun q=>q (),fun h=>h (),fun a b h=>h () a b⟩
def lateNat:Late Nat:=⟨fun q => ∃ n,∀ m,n≤m→q m,fun h=>⟨0,fun m _=>h m⟩,fun a b h=>by
 obtain ⟨n,a⟩:=a
 obtain ⟨k,b⟩:=b
 exact ⟨max n k,fun m hm=>h m (a m (by omega)) (b m (by omega))⟩⟩
def fl (P:Program) (X:av):Nat→av
 | 0,f,args,h=>X f args h
 |k+1,f,args,h=>match X f args h with
  |some r=>some r
  |none=>if Nat.ble P.globals.size h.n0 then match P.funcs[f]? with
   |some fn=>if fnOk P fn then bodyA P (fl P X k) fn args h else none
   |none=>none
  else none
theorem callX_step {P:Program} {X:av} : ∀ (n:Nat) (f:FuncId) (args:List Value) (h:ak) (r:Value×ak),fl P X n f args h=some r→fl P X (n+1) f args h=some r
 | 0,f,args,h,r,x=>by
   have x:X f args h=some r:=x
   simp only [fl,x]
 |n+1,f,args,h,r,x=>by
  unfold fl at x ⊢
  split at x
  ·exact x
  ·rename_i hX
   split at x
   ·rename_i hg
    rw [if_pos hg]
    split at x
    ·rename_i fn hf
     split at x
     ·rename_i hk
      rw [if_pos hk]
      exact bodyA_late (ι:=Unit) lateOne (D:=fun _=>fl P X (n+1)) (fun f args h r e=>callX_step n f args h r e) fn args h r x
     ·cases x
    ·cases x
   ·cases x
theorem callX_mono {P:Program} {X:av} {n m:Nat} (hm:n≤m) {f:FuncId} {args:List Value} {h:ak} {r:Value×ak} (x:fl P X n f args h=some r):fl P X m f args h=some r:=by
 obtain ⟨k,rfl⟩ : ∃ k,m=n+k:=⟨m-n,by omega⟩
 clear hm
 induction k with
 |zero=>exact x
 |succ k ih=>exact callX_step _ _ _ _ _ ih
theorem callX_sound {P:Program} {X:av} (hm:P.follows .mixedOrders=true) (hX:bH P X) : ∀ k,bH P (fl P X k)
 | 0=>hX
 |k+1=>by
  have ih:=callX_sound hm hX k
  have key : ∀ {f args h v h'},fl P X (k+1) f args h=some (v,h')→X f args h=some (v,h') ∨ ∃ fn,P.funcs[f]? = some fn∧fnOk P fn=true∧P.globals.size≤h.n0∧bodyA P (fl P X k) fn args h=some (v,h'):=by
   intro f args h v h' he
   unfold fl at he
   split at he
   ·rename_i hx;exact .inl (hx.trans he)
   ·split at he
    ·rename_i h1
     split at he
     ·rename_i fn hf
      split at he
      ·rename_i hk
       exact .inr ⟨fn,hf,hk,Nat.le_of_ble_eq_true h1,he⟩
      ·cases he
     ·cases he
    ·cases he
  refine ⟨?_,?_,?_,?_⟩
  ·intro f args h v h' he
   rcases key he with hx|⟨fn,h1,h2,h3,h4⟩
   ·exact hX.fn _ _ _ _ _ hx
   ·unfold fnOk at h2
    rw [Bool.and_eq_true,Bool.not_eq_true'] at h2
    refine ⟨fn,h1,h2.1,?_⟩
    cases hb:fn.body with
    |none=>rw [hb] at h2;exact absurd h2.2 (by simp)
    |some c=>rfl
  ·intro f args h v h' he
   rcases key he with hx|⟨fn,h1,h2,h3,h4⟩
   ·exact hX.grow _ _ _ _ _ hx
   ·exact bodyA_grow ih h4
  ·intro f args h v h' he hba hbh
   rcases key he with hx|⟨fn,h1,h2,h3,h4⟩
   ·exact hX.bd _ _ _ _ _ hx hba hbh
   ·exact bodyA_bd ih h2 h3 h4 hba hbh
  ·intro f args h v h' he hba hbh hg μ w args' S hfr r
   rcases key he with hx|⟨fn,h1,h2,h3,h4⟩
   ·exact hX.run _ _ _ _ _ hx hba hbh hg μ w args' S hfr r
   ·cases hb:fn.body with
    |none=>unfold bodyA at h4;rw [hb] at h4;cases h4
    |some c=>
     have hco:cL P c=true:=by
      unfold fnOk at h2
      rw [hb] at h2
      simp only [Bool.and_eq_true] at h2
      exact h2.2
     exact body_sound ih hm h1 hb hco h4 hg hba hbh S hfr r
open Classical in
noncomputable def CC (P:Program) (X:av):av:=fun f args h=>if e : ∃ n,(fl P X n f args h).isSome then fl P X e.choose f args h else none
theorem CC_spec {P:Program} {X:av} {f:FuncId} {args:List Value} {h:ak} {r:Value×ak} (e:CC P X f args h=some r) : ∃ n,fl P X n f args h=some r:=by
 unfold CC at e
 split at e
 ·exact ⟨_,e⟩
 ·cases e
theorem CC_of {P:Program} {X:av} {n:Nat} {f:FuncId} {args:List Value} {h:ak} {r:Value×ak} (e:fl P X n f args h=some r):CC P X f args h=some r:=by
 have hx : ∃ n,(fl P X n f args h).isSome:=⟨n,by rw [e];rfl⟩
 unfold CC
 rw [dif_pos hx]
 have h2:=hx.choose_spec
 rw [Option.isSome_iff_exists] at h2
 obtain ⟨r2,h2⟩:=h2
 have h3:=callX_mono (Nat.le_max_left n hx.choose) e
 have h4:=callX_mono (Nat.le_max_right n hx.choose) h2
 rw [h2,←h3,h4]
theorem CC_known {P:Program} {X:av} {f:FuncId} {args:List Value} {h:ak} {r:Value×ak} (e:X f args h=some r):CC P X f args h=some r:=CC_of (n:=0) e
theorem CC_body {P:Program} {X:av} {f:FuncId} {fn:Func} (i:bB P f fn) {args:List Value} {h:ak} {r:Value×ak} (hg:P.globals.size≤h.n0) (hX:X f args h=none)
  (e:aY P (CC P X) fn args h=some r):CC P X f args h=some r:=by
 rw [bodyK_eq] at e
 have base : ∀ f args h r,CC P X f args h=some r→lateNat.p fun n=>fl P X n f args h=some r:=by
  intro f args h r e
  obtain ⟨n,hn⟩:=CC_spec e
  exact ⟨n,fun m hm=>callX_mono hm hn⟩
 obtain ⟨n,hn⟩:=bodyA_late lateNat (D:=fl P X) base fn args h r e
 have hok:fnOk P fn=true:=by
  unfold fnOk
  rw [i.name,i.body]
  simp only [Bool.not_false,Bool.true_and]
  exact i.ok
 refine CC_of (n:=n+1) ?_
 unfold fl
 rw [hX]
 simp only
 rw [if_pos (Nat.ble_eq_true_of_le hg),i.at_]
 simp only
 rw [if_pos hok]
 exact hn n (Nat.le_refl _)
theorem CC_sound {P:Program} {X:av} (hm:P.follows .mixedOrders=true) (hX:bH P X):bH P (CC P X):=by
 refine ⟨?_,?_,?_,?_⟩
 ·intro f args h v h' e
  obtain ⟨n,e⟩:=CC_spec e
  exact (callX_sound hm hX n).fn _ _ _ _ _ e
 ·intro f args h v h' e
  obtain ⟨n,e⟩:=CC_spec e
  exact (callX_sound hm hX n).grow _ _ _ _ _ e
 ·intro f args h v h' e
  obtain ⟨n,e⟩:=CC_spec e
  exact (callX_sound hm hX n).bd _ _ _ _ _ e
 ·intro f args h v h' e
  obtain ⟨n,e⟩:=CC_spec e
  exact (callX_sound hm hX n).run _ _ _ _ _ e
theorem dG.of_CC {P:Program} {X:av} (hm:P.follows .mixedOrders=true) (hX:bH P X) {f:FuncId} {fn:Func} (i:bB P f fn):dG P f (CC P X f) where
 fn:=⟨fn,i.at_,i.name,by rw [i.body];rfl⟩
 grow args h v h' e:=(CC_sound hm hX).grow _ _ _ _ _ e
 bd args h v h' e:=(CC_sound hm hX).bd _ _ _ _ _ e
 run args h v h' e:=(CC_sound hm hX).run _ _ _ _ _ e
end Go.Abs

namespace Go.Abs
theorem eo {α β:Type} (P:Program) (s:Sem α) (f:α→Sem β):bL P (s >>= f)=(bL P s).bind (fun a=>bL P (f a)):=by
 show bL P (s.bind f)=_
 induction s with
 |pure a=>rfl
 |program k ih=>simp only [Sem.bind,bL];exact ih P
 |_=>rfl
theorem ek {α:Type} (P:Program) (a:α):bL P (pure a)=some a:=rfl
theorem pr_program (P:Program):bL P program=some P:=rfl
section
variable {P:Program}
theorem du {t:TypeId} {d:TypeDesc} (h:P.underlying t=some d):bL P (underlying t)=some d:=by
 unfold underlying
 simp only [eo,pr_program,Option.bind_some,h,ek]
theorem pr_size {t:TypeId} {n:Nat} (h:cJ P t=some n):bL P (sizeOf t)=some n:=by
 unfold cJ at h
 rw [Option.map_eq_some_iff] at h
 obtain ⟨i,h1,rfl⟩:=h
 unfold Go.sizeOf typeInfo
 simp only [eo,pr_program,Option.bind_some,h1,ek]
theorem bS {t:TypeId} {k:IntKind} {xs:Array Value} {off:Nat} {v:Value} (h:P.underlying t=some (.int k)) (hx:xs[off]? = some v):bL P (part t xs off)=some v:=by
 unfold part isAgg
 simp only [eo,du h,Option.bind_some,ek,hx]
 rfl
theorem pr_part_bool {t:TypeId} {xs:Array Value} {off:Nat} {v:Value} (h:P.underlying t=some .bool) (hx:xs[off]? = some v):bL P (part t xs off)=some v:=by
 unfold part isAgg
 simp only [eo,du h,Option.bind_some,ek,hx]
 rfl
theorem pr_part_arr {t e:TypeId} {m n:Nat} {xs:Array Value} {off:Nat} (h:P.underlying t=some (.array m e)) (hs:cJ P t=some n):bL P (part t xs off)=some (.agg (xs.extract off (off+n))):=by
 unfold part isAgg
 simp only [eo,du h,Option.bind_some,ek,if_true,pr_size hs]
theorem pr_eq_int {d:Nat} {t:TypeId} {k j:IntKind} {a b:Int} (h:P.underlying t=some (.int k)):bL P (Op.equalIn (d+1) t (.int j a) (.int j b))=some (a==b):=by
 simp only [Op.equalIn,eo,du h,Option.bind_some,if_true,ek]
theorem pr_eq_bool {d:Nat} {t:TypeId} {a b:Bool} (h:P.underlying t=some .bool):bL P (Op.equalIn (d+1) t (.bool a) (.bool b))=some (a==b):=by
 simp only [Op.equalIn,eo,du h,Option.bind_some,ek]
theorem pr_loop {d e:Nat} {k j:IntKind} {xs ys:Array Value} (he:P.underlying e=some (.int k)) : ∀ (m s:Nat),(∀ i,s≤i→i<s+m → ∃ a b,xs[i]? = some (.int j a)∧ys[i]? = some (.int j b)) →
  ∃ r:Bool,(r=true ↔ ∀ i,s≤i→i<s+m→xs[i]? = ys[i]?)∧bL P (forIn (List.range' s m) ((none:Option Bool),()) fun i __s=>do
     let a ←part e xs (i*1)
     let b ←part e ys (i*1)
     let r ←Op.equalIn (d+1) e a b
     if (!r)=true then pure (ForInStep.done (some false,())) else pure (ForInStep.yield (none,())))=some (if r=true then (none,()) else (some false,()))
 | 0,s,_=>⟨true,⟨fun _ i h1 h2=>by omega,fun _=>rfl⟩,rfl⟩
 |m+1,s,h=>by
  obtain ⟨a,b,h1,h2⟩:=h s (Nat.le_refl _) (by omega)
  rw [List.range'_succ,List.forIn_cons]
  simp only [eo,Nat.mul_one,bS he h1,bS he h2,Option.bind_some,pr_eq_int he]
  by_cases hab:a=b
  ·subst hab
   obtain ⟨r,hr,ih⟩:=pr_loop he m (s+1) (fun i q1 q2=>h i (by omega) (by omega)) (d:=d)
   simp only [Nat.mul_one] at ih
   refine ⟨r,hr.trans ⟨fun hall i q1 q2 => ?_,fun hh i q1 q2=>hh i (by omega) (by omega)⟩,?_⟩
   ·by_cases e:i=s
    ·subst e;rw [h1,h2]
    ·exact hall i (by omega) (by omega)
   ·simp only [beq_self_eq_true,Bool.not_true,Bool.false_eq_true,if_false,ek,Option.bind_some]
    exact ih
  ·refine ⟨false,⟨fun h=>(by cases h),fun hh => ?_⟩,?_⟩
   ·have:=hh s (Nat.le_refl _) (by omega)
    rw [h1,h2] at this
    exact absurd (by simpa using this) hab
   ·have:(a==b)=false:=by simpa using hab
    simp only [this,Bool.not_false,if_true,ek,Option.bind_some,Bool.false_eq_true,if_false]
theorem pr_eq_arr {d m:Nat} {t e:TypeId} {k j:IntKind} {xs ys:Array Value} (h:P.underlying t=some (.array m e)) (hs:cJ P e=some 1) (he:P.underlying e=some (.int k)) (hx : ∀ i,i<m → ∃ a b,xs[i]? = some (.int j a)∧ys[i]? = some (.int j b)) :
  ∃ r:Bool,(r=true ↔ ∀ i,i<m→xs[i]? = ys[i]?)∧bL P (Op.equalIn (d+2) t (.agg xs) (.agg ys))=some r:=by
 rw [Op.equalIn]
 simp only [eo,du h,Option.bind_some,pr_size hs,Std.Legacy.Range.forIn_eq_forIn_range']
 obtain ⟨r,hr,this⟩:=pr_loop (d:=d) he (xs:=xs) (ys:=ys) (j:=j) m 0 (fun i _ q=>hx i (by omega))
 have hsz:([:m]:Std.Legacy.Range).size=m:=by simp [Std.Legacy.Range.size]
 rw [hsz,this]
 refine ⟨r,hr.trans ⟨fun hh i q=>hh i (Nat.zero_le _) (by omega),fun hh i _ q=>hh i (by omega)⟩,?_⟩
 cases r<;>rfl
def eqF (P:Program) (d:Nat) (xs ys:Array Value):List Field→Option Bool
 | []=>some true
 | f :: fs => if f.name ≠ "_" then (bL P (part f.type xs f.offset)).bind fun a => (bL P (part f.type ys f.offset)).bind fun b => (bL P (Op.equalIn d f.type a b)).bind fun r => if r = true then eqF P d xs ys fs else some false else eqF P d xs ys fs
theorem pr_eq_struct {d:Nat} {t:TypeId} {fs:Array Field} {xs ys:Array Value} (h:P.underlying t=some (.struct fs)) (hp:P.stoodInHeld t=false):bL P (Op.equalIn (d+1) t (.agg xs) (.agg ys))=eqF P d xs ys fs.toList:=by
 simp only [Op.equalIn,eo,du h,Option.bind_some,pr_program,hp,Bool.false_eq_true,if_false,ek]
 rw [←Array.forIn_toList]
 generalize fs.toList=l
 clear h
 induction l with
 |nil=>rfl
 |cons f l ih=>
  rw [List.forIn_cons,eqF]
  by_cases hn : f.name ≠ "_"
  ·rw [if_pos hn,if_pos hn]
   simp only [eo]
   cases bL P (part f.type xs f.offset) with
   |none=>rfl
   |some a=>
    simp only [Option.bind_some]
    cases bL P (part f.type ys f.offset) with
    |none=>rfl
    |some b=>
     simp only [Option.bind_some]
     cases bL P (Op.equalIn d f.type a b) with
     |none=>rfl
     |some r=>
      cases r with
      |true=>
       simp only [Option.bind_some,Bool.not_true,Bool.false_eq_true,if_false,ek,if_true]
       exact ih
      |false=>rfl
  ·rw [if_neg hn,if_neg hn]
   simp only [eo,ek,Option.bind_some]
   exact ih
theorem bin_agg {t:TypeId} {xs ys:Array Value} {r:Bool} (hg:P.eqGuardType P.depth t=false) (h1:ground (.agg xs)=true) (h2:ground (.agg ys)=true) (h:bL P (Op.equalIn 10000 t (.agg xs) (.agg ys))=some r) :
  bin P .eql t (.agg xs) (.agg ys)=some (.bool r)∧bin P .neq t (.agg xs) (.agg ys)=some (.bool !r):=by
 have e1:bL P (binOp .eql t (.agg xs) (.agg ys))=some (.bool r):=by
  simp only [binOp,Op.equal,Op.maxDepth,eo,h,Option.bind_some,ek]
 have e2:bL P (binOp .neq t (.agg xs) (.agg ys))=some (.bool !r):=by
  simp only [binOp,Op.equal,Op.maxDepth,eo,h,Option.bind_some,ek]
 unfold bin eqOk binA
 simp only [hg,Bool.not_false,if_true,h1,h2,Bool.and_true,e1,e2,flat]
 exact ⟨trivial,trivial⟩
end
theorem Kept.also {a b c:ak} {B B':Nat→Prop} (x:Kept a b B) (y:Kept b c B') (hB : ∀ d,d<a.next→B' d→B d):Kept a c B:=
 ⟨y.n0.trans x.n0,Nat.le_trans x.next y.next,fun d hd hb=>(y.get d (Nat.lt_of_lt_of_le hd x.next) (fun h=>hb (hB d hd h))).trans (x.get d hd hb)⟩
theorem Kept.getE {h h':ak} {B:Nat→Prop} (x:Kept h h' B) {b:Nat} {k:dA} (e:h.get b=some k) (hB : ¬B b):h'.get b=some k:=(x.get b (h.bT e) hB).trans e
end Go.Abs

namespace Go.Abs
open Go.RowKit
def nice (n:Nat):Value→Bool
 | .pointer (some ⟨b,_,none⟩)=>decide (b<n)
 | .slice (some ⟨b,_,none⟩) _ _=>decide (b<n)
 |v=>flat v
def clean (n:Nat) (v:Value):Value:=
 if nice n v then v else match v with
  | .slice (some _) 0 0 => .slice (some ⟨0,0,some 0⟩) 0 0
  |_ => .chan (some 0)
def view (W:World) (b:Nat):Option (List Value):=
 match W.heap[b]? with
 |some (.cells arr _ _)=>some (arr.toList.map (clean W.heap.size))
 |_=>none
theorem nice_rel {W:World} {v:Value} (h:nice W.heap.size v=true):aQ (topMu W) v v:=by
 unfold nice at h
 split at h
 ·rename_i b off
  simp only [decide_eq_true_eq] at h
  have hm:topMu W b=some ⟨b,0,0,0⟩:=by unfold topMu;rw [if_pos h]
  have:=aQ.ptr (off:=off) hm
  simpa using this
 ·rename_i b off l c
  simp only [decide_eq_true_eq] at h
  have hm:topMu W b=some ⟨b,0,0,0⟩:=by unfold topMu;rw [if_pos h]
  have:=aQ.slice (off:=off) (len:=l) (cap:=c) hm
  simpa using this
 ·exact .flat h
theorem nice_bd {n:Nat} {v:Value} (h:nice n v=true):cU n v=true:=by
 unfold nice at h
 split at h
 ·simpa [cU] using h
 ·simpa [cU] using h
 ·exact bdV_flat h
theorem clean_rel {W:World} {v:Value} (h:isHole (clean W.heap.size v)=false):aQ (topMu W) (clean W.heap.size v) v:=by
 unfold clean at h ⊢
 split at h
 ·rename_i hn
  rw [if_pos hn];exact nice_rel hn
 ·rename_i hn
  rw [if_neg hn]
  split at h
  ·exact .zer
  ·simp [isHole] at h
theorem clean_bd {n:Nat} {v:Value} (hn:0<n):cU n (clean n v)=true:=by
 unfold clean
 split
 ·rename_i h;exact nice_bd h
 ·split
  ·simpa [cU] using hn
  ·rfl
theorem view_sim (W:World):de (topMu W) (dd W (view W)) W:=by
 refine ⟨?_,?_,?_,Nat.le_refl _,?_⟩
 ·intro b cs hb hc
  have hb2:b<W.heap.size:=hb
  have hc2:view W b=some cs:=hc
  unfold view at hc2
  split at hc2
  ·rename_i arr T fr hg
   cases hc2
   refine ⟨⟨b,0,0,0⟩,arr,T,fr,by unfold topMu;rw [if_pos hb2],rfl,rfl,hg,?_,?_⟩
   ·simp
   ·intro i x y hx hy hh
    rw [List.getElem?_map,Option.map_eq_some_iff] at hx
    obtain ⟨z,hz,rfl⟩:=hx
    rw [List.length_map,List.take_of_length_le (Nat.le_refl _),hz] at hy
    cases hy
    exact clean_rel hh
  ·cases hc2
 ·intro b k hb hk;rw [topHeap_new W _ hb] at hk;cases hk
 ·intro b b' k k' L L' hb _ _ hk;rw [topHeap_new W _ hb] at hk;cases hk
 ·intro b hb
  have hb2:b<W.heap.size:=hb
  exact ⟨⟨b,0,0,0⟩,by unfold topMu;rw [if_pos hb2],rfl,rfl⟩
theorem view_get (W:World) (b:Nat):(dd W (view W)).get b=view W b:=by
 unfold ak.get dd
 simp only [Nat.add_zero]
 by_cases hb:b<W.heap.size
 ·rw [if_pos hb]
 ·rw [if_neg hb,if_neg hb]
  unfold view
  rw [Array.getElem?_eq_none (by omega)]
theorem view_bd (W:World):bc (dd W (view W)):=by
 intro b k hk
 rw [view_get] at hk
 have hn:(dd W (view W)).next=W.heap.size:=rfl
 rw [hn]
 unfold view at hk
 split at hk
 ·rename_i arr T fr hg
  cases hk
  have hpos:0<W.heap.size:=by
   have:=(Array.getElem?_eq_some_iff.1 hg).1;omega
  rw [dh]
  intro x hx
  obtain ⟨y,_,rfl⟩:=List.mem_map.1 hx
  exact clean_bd hpos
 ·cases hk
theorem view_cell {W:World} {a:Addr} {v:Value} (h:W.cell? a=some v):a.spot=none∧a.block<W.heap.size ∧ ∃ k,view W a.block=some k∧k[a.off]? = some (clean W.heap.size v):=by
 unfold World.cell? at h
 split at h
 ·rename_i c T fr hg
  split at h
  ·cases h
  ·rename_i hs
   refine ⟨by simpa using hs,(Array.getElem?_eq_some_iff.1 hg).1,c.toList.map (clean W.heap.size),?_,?_⟩
   ·unfold view;rw [hg]
   ·rw [List.getElem?_map,Array.getElem?_toList,h];rfl
 ·cases h
end Go.Abs

