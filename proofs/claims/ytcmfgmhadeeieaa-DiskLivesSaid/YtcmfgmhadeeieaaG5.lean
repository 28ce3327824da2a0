/-
  A part of the proof, spaces and names shortened by a program (a claim may hold 1,500,000 bytes).
  Conditions: as each theorem states.
-/
import Derived.Test.YtcmfgmhadeeieaaG4
import Derived.ProofKit
namespace Go.Abs
open Go.RowKit
def fD (W:World) (bJ:Nat→Option (List Value)):ah:=⟨W.heap.size,bJ,.nil,0⟩
def topMu (W:World):Mu:=fun b=>if b<W.heap.size then some ⟨b,0,0,0⟩ else none
theorem topHeap_new (W:World) (bJ:Nat→Option (List Value)) {b:Nat} (hb:W.heap.size≤b):(fD W bJ).get b=none:=by
 unfold ah.get fD
 simp only [Nat.add_zero]
 rw [if_neg (by omega),if_neg (by omega)]
theorem Step.below {μ μ':Mu} {h h':ah} {W W':World} (hn : ∀ B,B<W.heap.size → ¬Own μ h B) (St:Step μ h W μ' h' W'):Below W.heap.size W W':=
 ⟨St.os,St.tape,St.output,St.size,fun k hk=>St.same k hk (hn k hk)⟩
end Go.Abs

namespace Go.Abs
open Go.RowKit
end Go.Abs

namespace Go.Abs
structure Late (ι:Type) where
 p:(ι→Prop)→Prop
 all : ∀ {q:ι→Prop},(∀ i,q i)→p q
 and : ∀ {q r s:ι→Prop},p q→p r→(∀ i,q i→r i→s i)→p s
section
variable {ι:Type} (E:Late ι) {P:Program} {C:al} {D:ι→al}
theorem Late.mono {q r:ι→Prop} (h:E.p q) (hr : ∀ i,q i→r i):E.p r:=E.and h (E.all (q:=fun _=>True) fun _=>trivial) fun i h _=>hr i h
variable (base : ∀ f args h r,C f args h=some r→E.p fun i=>D i f args h=some r)
include base
theorem opA_late (o:Oper) (ρ:Operand→Value) (h:ah) (r:Value×ah) (e:opA P C o ρ h=some r):E.p fun i=>opA P (D i) o ρ h=some r:=by
 unfold opA at e ⊢
 split at e
 all_goals first
  |exact E.all fun _=>e
  |skip
 rename_i c _
 cases hc:c.callee with
 |builtin b=>simp only [hc] at e ⊢;exact E.all fun _=>e
 |invoke a b=>simp only [hc] at e;cases e
 |value f=>
  simp only [hc] at e ⊢
  unfold callA at e ⊢
  split at e
  ·exact base _ _ _ _ e
  ·cases e
theorem opsA_late (ops:Array Oper) : ∀ (l:List Oper) (e:Env) (h:ah) (r:Env×ah),opsA P C ops l e h=some r→E.p fun i=>opsA P (D i) ops l e h=some r
 | [],e,h,r,x=>E.all fun _=>x
 |o::l,e,h,r,x=>by
  simp only [opsA] at x ⊢
  unfold stepA at x ⊢
  by_cases hw:wantA ops o e=true
  ·simp only [hw,if_true] at x ⊢
   cases ho:opA P C o (ev e) h with
   |none=>rw [ho] at x;cases x
   |some y=>
    rw [ho] at x
    refine E.and (opA_late E base o (ev e) h y ho) (opsA_late ops l _ _ r x) ?_
    intro i h1 h2
    simp only [h1];exact h2
  ·simp only [hw] at x ⊢
   exact opsA_late ops l _ _ r x
theorem traceA_late (ops:Array Oper) : ∀ (l:List (Nat×Oper)) (e:Env) (h:ah) (r:List Tr1×Env×ah),dR P C ops l e h=some r→E.p fun i=>dR P (D i) ops l e h=some r
 | [],e,h,r,x=>E.all fun _=>x
 | (n,o)::l,e,h,r,x=>by
   simp only [dR] at x ⊢
   by_cases hw:wantA ops o e=true
   ·simp only [hw,if_true] at x ⊢
    cases ho:opA P C o (ev e) h with
    |none=>rw [ho] at x;cases x
    |some y=>
     rw [ho] at x
     simp only at x
     cases ht:dR P C ops l (fV e o.dst y.1) y.2 with
     |none=>rw [ht] at x;cases x
     |some z=>
      rw [ht] at x
      refine E.and (opA_late E base o (ev e) h y ho) (traceA_late ops l _ _ z ht) ?_
      intro i h1 h2
      simp only [h1,h2];exact x
   ·simp only [hw] at x ⊢
    cases ht:dR P C ops l (fV e o.dst undef) h with
    |none=>rw [ht] at x;cases x
    |some z=>
     rw [ht] at x
     refine E.mono (traceA_late ops l _ _ z ht) ?_
     intro i h2
     simp only [h2];exact x
omit base in
theorem all_late {α:Type} (l:List α) (p:α→Bool) (q:ι→α→Bool) (hq : ∀ x∈l,p x=true→E.p fun i=>q i x=true) (h:l.all p=true):E.p fun i=>l.all (q i)=true:=by
 induction l with
 |nil=>exact E.all fun _=>rfl
 |cons x l ih=>
  simp only [List.all_cons,Bool.and_eq_true] at h ⊢
  exact E.and (hq x List.mem_cons_self h.1) (ih (fun y hy=>hq y (List.mem_cons_of_mem _ hy)) h.2) fun i a b=>⟨a,b⟩
theorem dynOk_late (ops:Array Oper) (l:List (Nat×Oper)) (tr:List Tr1) (hEnd:ah) (x:dynOk P C ops l tr hEnd=true):E.p fun i=>dynOk P (D i) ops l tr hEnd=true:=by
 unfold dynOk at x ⊢
 refine all_late E _ _ (fun i x=>_) ?_ x
 intro a _ ha
 rw [Bool.or_eq_true] at ha
 rcases ha with ha|ha
 ·exact E.all fun i=>by rw [Bool.or_eq_true];exact .inl ha
 ·let G:ι→(Nat×Oper)×Nat→Bool:=fun i y=>gM (befM ops) a.1.1.1 y.1.1||gM (befM ops) y.1.1 a.1.1.1||match heapAt (tr.map (·.ran)) (tr.map (·.h) ++ [hEnd]) (ij P l (a.2,y.2)) (if y.2<a.2 then y.2 else y.2+1) with
      |some h=>same (opA P (D i) a.1.1.2 (ev a.1.2.e) h) a.1.2.v
      |none=>false
  refine E.mono (all_late E _ _ G ?_ ha) ?_
  ·intro y _ hy
   rw [Bool.or_eq_true] at hy
   rcases hy with hy|hy
   ·exact E.all fun i=>by rw [Bool.or_eq_true];exact .inl hy
   ·split at hy
    ·rename_i h hh
     unfold Abs.same at hy
     split at hy
     ·rename_i v g hv
      refine E.mono (opA_late E base _ _ _ _ hv) ?_
      intro i hi
      rw [Bool.or_eq_true]
      refine .inr ?_
      rw [hh]
      simp only [hi,Abs.same];exact hy
     ·cases hy
    ·cases hy
  ·intro i hi
   rw [Bool.or_eq_true]
   exact .inr hi
theorem regionA_late (ops:Array Oper) (d:Bool) (e:Env) (h:ah) (r:Env×ah) (x:dU P C ops d e h=some r):E.p fun i=>dU P (D i) ops d e h=some r:=by
 unfold dU at x ⊢
 cases d with
 |false=>exact opsA_late E base ops _ e h r x
 |true=>
  simp only [if_true] at x ⊢
  split at x
  ·rename_i hs
   simp only [hs,if_true]
   split at x
   ·rename_i tr e1 h1 ht
    split at x
    ·rename_i hd
     refine E.and (traceA_late E base ops _ e h _ ht) (dynOk_late E base ops _ tr h1 hd) ?_
     intro i a b
     simp only [a,b,if_true];exact x
    ·cases x
   ·cases x
  ·cases x
omit base in
theorem iter_late {step:Env→ah→Option (Ex×Env×ah)} {stepD:ι→Env→ah→Option (Ex×Env×ah)} (hs : ∀ e h r,step e h=some r→E.p fun i=>stepD i e h=some r) :
  ∀ (n:Nat) (e:Env) (h:ah) (r:Ex×Env×ah),iter step n e h=some r→E.p fun i=>iter (stepD i) n e h=some r
 | 0,_,_,_,x=>by cases x
 |n+1,e,h,r,x=>by
  simp only [iter] at x ⊢
  split at x
  ·rename_i e1 h1 h2
   refine E.and (hs _ _ _ h2) (iter_late hs n _ _ r x) ?_
   intro i a b
   simp only [a];exact b
  ·rename_i hn
   refine E.mono (hs _ _ _ x) ?_
   intro i a
   simp only [a]
   obtain ⟨ex,e1,h1⟩:=r
   cases ex with
   |normal=>exact absurd x (hn e1 h1)
   |ret=>rfl
   |exit j=>rfl
theorem fc : ∀ (c:Code) (e:Env) (h:ah) (r:Ex×Env×ah),aI P C c e h=some r→E.p fun i=>aI P (D i) c e h=some r
 | .skip,e,h,r,x=>E.all fun _=>x
 | .region _ ops d,e,h,r,x=>by
   simp only [aI] at x ⊢
   split at x
   ·rename_i e1 h1 h2
    refine E.mono (regionA_late E base ops d e h _ h2) ?_
    intro i a
    simp only [a];exact x
   ·cases x
 | .seq a b,e,h,r,x=>by
   simp only [aI] at x ⊢
   split at x
   ·rename_i e1 h1 h2
    refine E.and (fc a e h _ h2) (fc b _ _ r x) ?_
    intro i p q
    simp only [p];exact q
   ·rename_i hn
    refine E.mono (fc a e h _ x) ?_
    intro i p
    simp only [p]
    obtain ⟨ex,e1,h1⟩:=r
    cases ex with
    |normal=>exact absurd x (hn e1 h1)
    |ret=>rfl
    |exit j=>rfl
 | .cond c a b,e,h,r,x=>by
   simp only [aI] at x ⊢
   split at x
   ·exact fc a e h r x
   ·exact fc b e h r x
   ·cases x
 | .block j b,e,h,r,x=>by
   simp only [aI] at x ⊢
   split at x
   ·rename_i k e1 h1 h2
    refine E.mono (fc b e h _ h2) ?_
    intro i p
    simp only [p];exact x
   ·rename_i hn
    refine E.mono (fc b e h _ x) ?_
    intro i p
    simp only [p]
    obtain ⟨ex,e1,h1⟩:=r
    cases ex with
    |exit k=>exact absurd x (hn k e1 h1)
    |ret=>rfl
    |normal=>rfl
 | .loop b,e,h,r,x=>by
   simp only [aI] at x ⊢
   exact iter_late E (fun e h r y=>fc b e h r y) rounds e h r x
 | .exit _,e,h,r,x=>E.all fun _=>x
 | .scope b,e,h,r,x=>by simp only [aI] at x ⊢;exact fc b e h r x
 | .label _,e,h,r,x=>E.all fun _=>x
 | .ret,e,h,r,x=>E.all fun _=>x
 | .goto _,e,h,r,x=>by cases x
 | .rangeFunc ..,e,h,r,x=>by cases x
 | .refuse _,e,h,r,x=>by cases x
theorem bodyA_late (fn:Func) (args:List Value) (h:ah) (r:Value×ah) (x:iS P C fn args h=some r):E.p fun i=>iS P (D i) fn args h=some r:=by
 unfold iS at x ⊢
 cases hb:fn.body with
 |none=>rw [hb] at x;cases x
 |some c=>
  rw [hb] at x
  simp only at x ⊢
  cases hc:aI P C c (args++List.replicate (fn.ntmps-args.length) undef) h with
  |none=>rw [hc] at x;cases x
  |some y=>
   rw [hc] at x
   refine E.mono (fc E base c _ _ y hc) ?_
   intro i a
   simp only [a];exact x
end
def lateOne:Late Unit:=⟨fun q=>q (),fun h=>h (),fun a b h=>h () a b⟩
def lateNat:Late Nat:=⟨fun q => ∃ n,∀ m,n≤m→q m,fun h=>⟨0,fun m _=>h m⟩,fun a b h=>by
 obtain ⟨n,a⟩:=a
 obtain ⟨k,b⟩:=b
 exact ⟨max n k,fun m hm=>h m (a m (by omega)) (b m (by omega))⟩⟩
def iz (P:Program) (X:al):Nat→al
 | 0,f,args,h=>X f args h
 |k+1,f,args,h=>match X f args h with
  |some r=>some r
  |none=>if Nat.ble P.globals.size h.n0 then match P.funcs[f]? with
   |some fn=>if fnOk P fn then iS P (iz P X k) fn args h else none
   |none=>none
  else none
theorem callX_step {P:Program} {X:al} : ∀ (n:Nat) (f:FuncId) (args:List Value) (h:ah) (r:Value×ah),iz P X n f args h=some r→iz P X (n+1) f args h=some r
 | 0,f,args,h,r,x=>by
   have x:X f args h=some r:=x
   simp only [iz,x]
 |n+1,f,args,h,r,x=>by
  unfold iz at x ⊢
  split at x
  ·exact x
  ·rename_i hX
   split at x
   ·rename_i hg
    rw [if_pos hg]
    split at x
    ·rename_i fn hf
     split at x
     ·rename_i hk
      rw [if_pos hk]
      exact bodyA_late (ι:=Unit) lateOne (D:=fun _=>iz P X (n+1)) (fun f args h r e=>callX_step n f args h r e) fn args h r x
     ·cases x
    ·cases x
   ·cases x
theorem callX_mono {P:Program} {X:al} {n m:Nat} (hm:n≤m) {f:FuncId} {args:List Value} {h:ah} {r:Value×ah} (x:iz P X n f args h=some r):iz P X m f args h=some r:=by
 obtain ⟨k,rfl⟩ : ∃ k,m=n+k:=⟨m-n,by omega⟩
 clear hm
 induction k with
 |zero=>exact x
 |succ k ih=>exact callX_step _ _ _ _ _ ih
theorem callX_sound {P:Program} {X:al} (hm:P.follows .mixedOrders=true) (hX:cj P X) : ∀ k,cj P (iz P X k)
 | 0=>hX
 |k+1=>by
  have ih:=callX_sound hm hX k
  have key : ∀ {f args h v h'},iz P X (k+1) f args h=some (v,h')→X f args h=some (v,h') ∨ ∃ fn,P.funcs[f]? = some fn∧fnOk P fn=true∧P.globals.size≤h.n0∧iS P (iz P X k) fn args h=some (v,h'):=by
   intro f args h v h' he
   unfold iz at he
   split at he
   ·rename_i hx;exact .inl (hx.trans he)
   ·split at he
    ·rename_i h1
     split at he
     ·rename_i fn hf
      split at he
      ·rename_i hk
       exact .inr ⟨fn,hf,hk,Nat.le_of_ble_eq_true h1,he⟩
      ·cases he
     ·cases he
    ·cases he
  refine ⟨?_,?_,?_,?_⟩
  ·intro f args h v h' he
   rcases key he with hx|⟨fn,h1,h2,h3,h4⟩
   ·exact hX.fn _ _ _ _ _ hx
   ·unfold fnOk at h2
    rw [Bool.and_eq_true,Bool.not_eq_true'] at h2
    refine ⟨fn,h1,h2.1,?_⟩
    cases hb:fn.body with
    |none=>rw [hb] at h2;exact absurd h2.2 (by simp)
    |some c=>rfl
  ·intro f args h v h' he
   rcases key he with hx|⟨fn,h1,h2,h3,h4⟩
   ·exact hX.grow _ _ _ _ _ hx
   ·exact bodyA_grow ih h4
  ·intro f args h v h' he hba hbh
   rcases key he with hx|⟨fn,h1,h2,h3,h4⟩
   ·exact hX.bd _ _ _ _ _ hx hba hbh
   ·exact bodyA_bd ih h2 h3 h4 hba hbh
  ·intro f args h v h' he hba hbh hg μ w args' S hfr r
   rcases key he with hx|⟨fn,h1,h2,h3,h4⟩
   ·exact hX.run _ _ _ _ _ hx hba hbh hg μ w args' S hfr r
   ·cases hb:fn.body with
    |none=>unfold iS at h4;rw [hb] at h4;cases h4
    |some c=>
     have hco:dE P c=true:=by
      unfold fnOk at h2
      rw [hb] at h2
      simp only [Bool.and_eq_true] at h2
      exact h2.2
     exact body_sound ih hm h1 hb hco h4 hg hba hbh S hfr r
open Classical in
noncomputable def CC (P:Program) (X:al):al:=fun f args h=>if e : ∃ n,(iz P X n f args h).isSome then iz P X e.choose f args h else none
theorem CC_spec {P:Program} {X:al} {f:FuncId} {args:List Value} {h:ah} {r:Value×ah} (e:CC P X f args h=some r) : ∃ n,iz P X n f args h=some r:=by
 unfold CC at e
 split at e
 ·exact ⟨_,e⟩
 ·cases e
theorem CC_of {P:Program} {X:al} {n:Nat} {f:FuncId} {args:List Value} {h:ah} {r:Value×ah} (e:iz P X n f args h=some r):CC P X f args h=some r:=by
 have hx : ∃ n,(iz P X n f args h).isSome:=⟨n,by rw [e];rfl⟩
 unfold CC
 rw [dif_pos hx]
 have h2:=hx.choose_spec
 rw [Option.isSome_iff_exists] at h2
 obtain ⟨r2,h2⟩:=h2
 have h3:=callX_mono (Nat.le_max_left n hx.choose) e
 have h4:=callX_mono (Nat.le_max_right n hx.choose) h2
 rw [h2,←h3,h4]
theorem CC_known {P:Program} {X:al} {f:FuncId} {args:List Value} {h:ah} {r:Value×ah} (e:X f args h=some r):CC P X f args h=some r:=CC_of (n:=0) e
theorem CC_body {P:Program} {X:al} {f:FuncId} {fn:Func} (i:cA P f fn) {args:List Value} {h:ah} {r:Value×ah} (hg:P.globals.size≤h.n0) (hX:X f args h=none)
  (e:bw P (CC P X) fn args h=some r):CC P X f args h=some r:=by
 rw [bodyK_eq] at e
 have base : ∀ f args h r,CC P X f args h=some r→lateNat.p fun n=>iz P X n f args h=some r:=by
  intro f args h r e
  obtain ⟨n,hn⟩:=CC_spec e
  exact ⟨n,fun m hm=>callX_mono hm hn⟩
 obtain ⟨n,hn⟩:=bodyA_late lateNat (D:=iz P X) base fn args h r e
 have hok:fnOk P fn=true:=by
  unfold fnOk
  rw [i.name,i.body]
  simp only [Bool.not_false,Bool.true_and]
  exact i.ok
 refine CC_of (n:=n+1) ?_
 unfold iz
 rw [hX]
 simp only
 rw [if_pos (Nat.ble_eq_true_of_le hg),i.at_]
 simp only
 rw [if_pos hok]
 exact hn n (Nat.le_refl _)
theorem CC_sound {P:Program} {X:al} (hm:P.follows .mixedOrders=true) (hX:cj P X):cj P (CC P X):=by
 refine ⟨?_,?_,?_,?_⟩
 ·intro f args h v h' e
  obtain ⟨n,e⟩:=CC_spec e
  exact (callX_sound hm hX n).fn _ _ _ _ _ e
 ·intro f args h v h' e
  obtain ⟨n,e⟩:=CC_spec e
  exact (callX_sound hm hX n).grow _ _ _ _ _ e
 ·intro f args h v h' e
  obtain ⟨n,e⟩:=CC_spec e
  exact (callX_sound hm hX n).bd _ _ _ _ _ e
 ·intro f args h v h' e
  obtain ⟨n,e⟩:=CC_spec e
  exact (callX_sound hm hX n).run _ _ _ _ _ e
theorem cq.of_CC {P:Program} {X:al} (hm:P.follows .mixedOrders=true) (hX:cj P X) {f:FuncId} {fn:Func} (i:cA P f fn):cq P f (CC P X f) where
 fn:=⟨fn,i.at_,i.name,by rw [i.body];rfl⟩
 grow args h v h' e:=(CC_sound hm hX).grow _ _ _ _ _ e
 bd args h v h' e:=(CC_sound hm hX).bd _ _ _ _ _ e
 run args h v h' e:=(CC_sound hm hX).run _ _ _ _ _ e
end Go.Abs

namespace Go.Abs
open Go.RowKit
def nice (n:Nat):Value→Bool
 | .pointer (some ⟨b,_,none⟩)=>decide (b<n)
 | .slice (some ⟨b,_,none⟩) _ _=>decide (b<n)
 |v=>flat v
def clean (n:Nat) (v:Value):Value:=
 if nice n v then v else match v with
  | .slice (some _) 0 0 => .slice (some ⟨0,0,some 0⟩) 0 0
  |_ => .chan (some 0)
def view (W:World) (b:Nat):Option (List Value):=
 match W.heap[b]? with
 |some (.cells arr _ _)=>some (arr.toList.map (clean W.heap.size))
 |_=>none
theorem nice_rel {W:World} {v:Value} (h:nice W.heap.size v=true):a8 (topMu W) v v:=by
 unfold nice at h
 split at h
 ·rename_i b off
  simp only [decide_eq_true_eq] at h
  have hm:topMu W b=some ⟨b,0,0,0⟩:=by unfold topMu;rw [if_pos h]
  have:=a8.ptr (off:=off) hm
  simpa using this
 ·rename_i b off l c
  simp only [decide_eq_true_eq] at h
  have hm:topMu W b=some ⟨b,0,0,0⟩:=by unfold topMu;rw [if_pos h]
  have:=a8.slice (off:=off) (len:=l) (cap:=c) hm
  simpa using this
 ·exact .flat h
theorem nice_bd {n:Nat} {v:Value} (h:nice n v=true):dm n v=true:=by
 unfold nice at h
 split at h
 ·simpa [dm] using h
 ·simpa [dm] using h
 ·exact bdV_flat h
theorem clean_rel {W:World} {v:Value} (h:isHole (clean W.heap.size v)=false):a8 (topMu W) (clean W.heap.size v) v:=by
 unfold clean at h ⊢
 split at h
 ·rename_i hn
  rw [if_pos hn];exact nice_rel hn
 ·rename_i hn
  rw [if_neg hn]
  split at h
  ·exact .zer
  ·simp [isHole] at h
theorem clean_bd {n:Nat} {v:Value} (hn:0<n):dm n (clean n v)=true:=by
 unfold clean
 split
 ·rename_i h;exact nice_bd h
 ·split
  ·simpa [dm] using hn
  ·rfl
theorem view_sim (W:World):ew (topMu W) (fD W (view W)) W:=by
 refine ⟨?_,?_,?_,Nat.le_refl _,?_⟩
 ·intro b cs hb hc
  have hb2:b<W.heap.size:=hb
  have hc2:view W b=some cs:=hc
  unfold view at hc2
  split at hc2
  ·rename_i arr T fr hg
   cases hc2
   refine ⟨⟨b,0,0,0⟩,arr,T,fr,by unfold topMu;rw [if_pos hb2],rfl,rfl,hg,?_,?_⟩
   ·simp
   ·intro i x y hx hy hh
    rw [List.getElem?_map,Option.map_eq_some_iff] at hx
    obtain ⟨z,hz,rfl⟩:=hx
    rw [List.length_map,List.take_of_length_le (Nat.le_refl _),hz] at hy
    cases hy
    exact clean_rel hh
  ·cases hc2
 ·intro b k hb hk;rw [topHeap_new W _ hb] at hk;cases hk
 ·intro b b' k k' L L' hb _ _ hk;rw [topHeap_new W _ hb] at hk;cases hk
 ·intro b hb
  have hb2:b<W.heap.size:=hb
  exact ⟨⟨b,0,0,0⟩,by unfold topMu;rw [if_pos hb2],rfl,rfl⟩
theorem view_get (W:World) (b:Nat):(fD W (view W)).get b=view W b:=by
 unfold ah.get fD
 simp only [Nat.add_zero]
 by_cases hb:b<W.heap.size
 ·rw [if_pos hb]
 ·rw [if_neg hb,if_neg hb]
  unfold view
  rw [Array.getElem?_eq_none (by omega)]
theorem view_bd (W:World):bq (fD W (view W)):=by
 intro b k hk
 rw [view_get] at hk
 have hn:(fD W (view W)).next=W.heap.size:=rfl
 rw [hn]
 unfold view at hk
 split at hk
 ·rename_i arr T fr hg
  cases hk
  have hpos:0<W.heap.size:=by
   have:=(Array.getElem?_eq_some_iff.1 hg).1;omega
  rw [fQ]
  intro x hx
  obtain ⟨y,_,rfl⟩:=List.mem_map.1 hx
  exact clean_bd hpos
 ·cases hk
theorem cq.call_data {P:Program} {f:FuncId} {s:List Value→ah→Out} (K:cq P f s) (hg:P.globals.size=0) (args args':List Value) (W:World) (hr:bF (topMu W) args args') (hb:ek W.heap.size args=true)
  (v:Value) (hv:flat v=true) (hs : ∃ h',s args (fD W (view W))=some (v,h')):Calls P f args'.toArray W fun e W'=>e = .returned v∧Below W.heap.size W W':=by
 obtain ⟨h',hs⟩:=hs
 have hno : ∀ B,¬Own (topMu W) (fD W (view W)) B:=by
  rintro B ⟨b,k,L,hb,hk,_⟩
  rw [topHeap_new W _ hb] at hk;cases hk
 refine (K.run args _ v h' hs hb (view_bd W) (by rw [hg];exact Nat.zero_le _) (topMu W) W args' (view_sim W) ?_ hr).mono ?_
 ·intro b hb _
  have : ¬b<W.heap.size:=Nat.not_lt.2 hb
  unfold topMu;rw [if_neg this]
 ·rintro e W' ⟨μ',v',rfl,S,St,hv'⟩
  rw [hv'.cI hv]
  exact ⟨rfl,St.below fun B _=>hno B⟩
theorem view_cell {W:World} {a:Addr} {v:Value} (h:W.cell? a=some v):a.spot=none∧a.block<W.heap.size ∧ ∃ k,view W a.block=some k∧k[a.off]? = some (clean W.heap.size v):=by
 unfold World.cell? at h
 split at h
 ·rename_i c T fr hg
  split at h
  ·cases h
  ·rename_i hs
   refine ⟨by simpa using hs,(Array.getElem?_eq_some_iff.1 hg).1,c.toList.map (clean W.heap.size),?_,?_⟩
   ·unfold view;rw [hg]
   ·rw [List.getElem?_map,Array.getElem?_toList,h];rfl
 ·cases h
end Go.Abs

