/-
  A part of the proof, spaces and names shortened by a program (a claim may hold 1,500,000 bytes).
  Conditions: as each theorem states.
-/
import Derived.Test.YtjghlcdidopcpaaGreatDoorG3
namespace Go.Abs
def ae {α:Type} (r:Out) (k:Value→ak→Option α):Option α:=
 match r with
 |some (v,h)=>k v h
 |none=>none
def al (g:Bool) (o:Out) (h:ak):Out:=
 match g with
 |true=>o
 |false=>some (undef,h)
def opsK {α:Type} (P:Program) (C:av) (ops:Array Oper):List Oper→Env→ak→(Env→ak→Option α)→Option α
 | [],e,h,k=>k e h
 |o::rest,e,h,k=>
  match o.guard with
  |none=>ae (opA P C o (ev e) h) fun v h'=>opsK P C ops rest (eG e o.dst v) h' k
  |some (j,b7)=>ae (al (fH ops e j==some b7) (opA P C o (ev e) h) h) fun v h'=>opsK P C ops rest (eG e o.dst v) h' k
theorem opsK_eq {α:Type} (P:Program) (C:av) (ops:Array Oper) : ∀ (l:List Oper) (e:Env) (h:ak) (k:Env→ak→Option α),
  opsK P C ops l e h k=match opsA P C ops l e h with|some (e',h')=>k e' h'|none=>none
 | [],e,h,k=>rfl
 |o::rest,e,h,k=>by
  unfold opsK opsA stepA wantA ae
  cases hg:o.guard with
  |none=>
   simp only [if_true]
   cases opA P C o (ev e) h with
   |none=>rfl
   |some r=>exact opsK_eq P C ops rest _ _ k
  |some g=>
   obtain ⟨j,b7⟩:=g
   simp only
   by_cases hy:(fH ops e j==some b7)=true
   ·simp only [hy,if_true,al]
    cases opA P C o (ev e) h with
    |none=>rfl
    |some r=>exact opsK_eq P C ops rest _ _ k
   ·rw [if_neg hy]
    rw [Bool.not_eq_true] at hy
    simp only [hy,al]
    exact opsK_eq P C ops rest _ _ k
def dynTriv (P:Program) (ops:Array Oper) (l:List (Nat×Oper)):Bool:=
 let m:=fi ops
 l.all fun x => !(aW P x.2 == .read)||l.all fun y => !(aW P y.2 == .eff)||eJ m x.1 y.1||eJ m y.1 x.1
theorem dynTriv_ok {P:Program} {C:av} {ops:Array Oper} {l:List (Nat×Oper)} (ht:dynTriv P ops l=true) (tr:List Tr1) (hE:ak):dynOk P C ops l tr hE=true:=by
 unfold dynOk
 unfold dynTriv at ht
 simp only [List.all_eq_true,Bool.or_eq_true,Bool.not_eq_true',Bool.and_eq_false_iff] at ht ⊢
 intro x hx
 by_cases hr:(aW P x.1.1.2 == .read&&x.1.2.ran)=true
 ·right
  have hx1:x.1.1∈l:=by
   obtain ⟨i,hi⟩:=List.getElem?_of_mem hx
   rw [List.getElem?_zipIdx,Option.map_eq_some_iff] at hi
   obtain ⟨z,hz,rfl⟩:=hi
   exact List.of_mem_zip (a:=z.1) (b:=z.2) (List.mem_of_getElem? hz) |>.1
  intro y hy
  have hy1:y.1∈l∧(aW P y.1.2 == .eff)=true:=by
   rw [List.mem_filter] at hy
   refine ⟨?_,hy.2⟩
   obtain ⟨i,hi⟩:=List.getElem?_of_mem hy.1
   rw [List.getElem?_zipIdx,Option.map_eq_some_iff] at hi
   obtain ⟨z,hz,rfl⟩:=hi
   exact List.mem_of_getElem? hz
  left
  rcases ht x.1.1 hx1 with h1|h1
  ·rw [h1] at hr;simp at hr
  ·rcases h1 y.1 hy1.1 with (h2|h2)|h2
   ·rw [hy1.2] at h2;cases h2
   ·exact .inl h2
   ·exact .inr h2
 ·left
  cases h1:(aW P x.1.1.2 == .read) with
  |false=>simp
  |true=>rw [h1] at hr;simpa using hr
theorem trace_ops {P:Program} {C:av} {ops:Array Oper} : ∀ (l:List (Nat×Oper)) (e:Env) (h:ak),
  (cO P C ops l e h).map (·.2)=opsA P C ops (l.map (·.2)) e h
 | [],e,h=>rfl
 | (i,o)::rest,e,h=>by
   simp only [cO,List.map_cons,opsA,stepA]
   by_cases hw:wantA ops o e=true
   ·rw [if_pos hw,if_pos hw]
    cases opA P C o (ev e) h with
    |none=>rfl
    |some r=>
     obtain ⟨v,h'⟩:=r
     simp only
     have:=trace_ops (P:=P) (C:=C) (ops:=ops) rest (eG e o.dst v) h'
     rw [←this]
     cases cO P C ops rest (eG e o.dst v) h'<;>rfl
   ·rw [if_neg hw,if_neg hw]
    simp only
    have:=trace_ops (P:=P) (C:=C) (ops:=ops) rest (eG e o.dst undef) h
    rw [←this]
    cases cO P C ops rest (eG e o.dst undef) h<;>rfl
def lateOk (P:Program) (ops:Array Oper):Bool:=statOk P ops (late P ops)&&dynTriv P ops (late P ops)
def dynPairs (P:Program) (ops:Array Oper) (l:List (Nat×Oper)):List (Nat×Nat):=
 let m:=fi ops
 (l.zipIdx.filter fun x=>aW P x.1.2 == .read).flatMap fun x=>
   (l.zipIdx.filter fun y=>aW P y.1.2 == .eff && !(eJ m x.1.1 y.1.1||eJ m y.1.1 x.1.1)).map fun y=>(x.2,y.2)
def cF (ran:Bool) (r:Out) (v:Value):Bool := !ran||same r v
def chkAt (P:Program) (C:av) (l:List (Nat×Oper)) (tr:List Tr1) (hs:List ak) (x:Nat×Nat):Bool:=
 match l[x.1]?,tr[x.1]?,heapAt (tr.map (·.ran)) hs (fg P l x) (if x.2<x.1 then x.2 else x.2+1) with
 |some y,some t,some h=>cF t.ran (opA P C y.2 (ev t.e) h) t.v
 |some _,some t,none => !t.ran
 |_,_,_=>false
def dynChk (P:Program) (C:av) (ops:Array Oper) (l:List (Nat×Oper)) (tr:List Tr1) (hEnd:ak):Bool:=
 (dynPairs P ops l).foldr (fun x acc=>chkAt P C l tr (tr.map (·.h) ++ [hEnd]) x&&acc) true
theorem foldr_all {α:Type} (f:α→Bool) : ∀ l:List α,l.foldr (fun x acc=>f x&&acc) true=l.all f
 | []=>rfl
 |x::l=>by simp only [List.foldr_cons,List.all_cons,foldr_all f l]
theorem dz {α:Type} {l:List α} {x:α} {i:Nat}:(x,i)∈l.zipIdx↔l[i]? = some x:=by
 constructor
 ·intro h
  obtain ⟨j,hj⟩:=List.getElem?_of_mem h
  rw [List.getElem?_zipIdx,Option.map_eq_some_iff] at hj
  obtain ⟨z,hz,he⟩:=hj
  simp only [Prod.mk.injEq,Nat.zero_add] at he
  obtain ⟨rfl,rfl⟩:=he
  exact hz
 ·intro h
  have:l.zipIdx[i]? = some (x,i):=by rw [List.getElem?_zipIdx,h];simp
  exact List.mem_of_getElem? this
theorem dynChk_eq {P:Program} {C:av} {ops:Array Oper} {l:List (Nat×Oper)} {tr:List Tr1} {hEnd:ak} (hlen:tr.length=l.length):dynChk P C ops l tr hEnd=dynOk P C ops l tr hEnd:=by
 unfold dynChk dynOk
 rw [foldr_all,Bool.eq_iff_iff]
 simp only [List.all_eq_true]
 have hz : ∀ (x:Nat×Oper) (t:Tr1) (i:Nat),((x,t),i)∈(l.zip tr).zipIdx↔l[i]? = some x∧tr[i]? = some t:=by
  intro x t i
  rw [dz,List.getElem?_zip_eq_some]
 constructor
 ·rintro h ⟨⟨x,t⟩,i⟩ hx
  obtain ⟨hx1,hx2⟩:=(hz x t i).1 hx
  simp only [Bool.or_eq_true,Bool.not_eq_true',Bool.and_eq_false_iff,List.all_eq_true]
  by_cases hr:(aW P x.2 == .read)=true
  ·by_cases hran:t.ran=true
   ·right
    rintro ⟨y,j⟩ hy
    rw [List.mem_filter,dz] at hy
    simp only at hy ⊢
    by_cases hb:(eJ (fi ops) x.1 y.1||eJ (fi ops) y.1 x.1)=true
    ·left;simpa using hb
    ·right
     have hp:(i,j)∈dynPairs P ops l:=by
      unfold dynPairs
      simp only [List.mem_flatMap,List.mem_filter,List.mem_map]
      exact ⟨(x,i),⟨dz.2 hx1,hr⟩,(y,j),⟨dz.2 hy.1,by simp only [hy.2,Bool.true_and];simpa using hb⟩,rfl⟩
     have:=h _ hp
     unfold chkAt at this
     simp only [hx1,hx2] at this
     split at this
     ·rename_i h1 h2 h3
      cases h1;cases h2
      rw [h3]
      simpa [cF,hran] using this
     ·rename_i h1 h2 h3
      cases h2
      rw [hran] at this;simp at this
     ·simp at this
   ·left;right;simpa using hran
  ·left;left;simpa using hr
 ·rintro h ⟨i,j⟩ hp
  unfold dynPairs at hp
  simp only [List.mem_flatMap,List.mem_filter,List.mem_map] at hp
  obtain ⟨⟨x,i'⟩,⟨hx1,hr⟩,⟨y,j'⟩,⟨hy1,hy2⟩,he⟩:=hp
  simp only [Prod.mk.injEq] at he
  obtain ⟨rfl,rfl⟩:=he
  rw [dz] at hx1 hy1
  simp only [Bool.and_eq_true] at hr hy2
  have hi:i'<tr.length:=by rw [hlen];exact (List.getElem?_eq_some_iff.1 hx1).1
  have ht:tr[i']? = some tr[i']:=List.getElem?_eq_getElem hi
  have hq:=h ((x,tr[i']),i') ((hz _ _ _).2 ⟨hx1,ht⟩)
  simp only [hr,Bool.true_and,Bool.or_eq_true,Bool.not_eq_true',List.all_eq_true] at hq
  unfold chkAt
  simp only [hx1,ht]
  have key:tr[i'].ran=true→(match heapAt (tr.map (·.ran)) (List.map (fun x=>x.h) tr ++ [hEnd]) (fg P l (i',j')) (if j'<i' then j' else j'+1) with|some h=>same (opA P C x.2 (ev tr[i'].e) h) tr[i'].v|none=>false)=true:=by
   intro hran
   rcases hq with hq|hq
   ·rw [hran] at hq;cases hq
   ·have:=hq (y,j') (List.mem_filter.2 ⟨dz.2 hy1,hy2.1⟩)
    simp only at this
    have hy3:=hy2.2
    rcases this with h1|h1
    ·have h1':(eJ (fi ops) x.1 y.1||eJ (fi ops) y.1 x.1)=true:=by simpa using h1
     simp [h1'] at hy3
    ·exact h1
  split
  ·rename_i h1 h2 h3
   cases h1;cases h2
   unfold cF
   cases hran:tr[i'].ran with
   |false=>rfl
   |true=>have:=key hran;rw [h3] at this;simpa using this
  ·rename_i h1 h2 h3
   cases h2
   cases hran:tr[i'].ran with
   |false=>rfl
   |true=>have:=key hran;rw [h3] at this;simp at this
  ·rename_i h1 h2
   cases hh:heapAt (tr.map (·.ran)) (List.map (fun x=>x.h) tr ++ [hEnd]) (fg P l (i',j')) (if j'<i' then j' else j'+1) with
   |some hp'=>exact absurd hh (h1 _ _ _ rfl rfl)
   |none=>exact absurd hh (h2 _ _ rfl rfl)
def traceK {α:Type} (P:Program) (C:av) (ops:Array Oper):List (Nat×Oper)→Env→ak→(List Tr1→Env→ak→Option α)→Option α
 | [],e,h,k=>k [] e h
 |x::rest,e,h,k=>
  match x.2.guard with
  |none=>ae (opA P C x.2 (ev e) h) fun v h'=>traceK P C ops rest (eG e x.2.dst v) h' fun tr=>k (⟨e,h,v,true⟩::tr)
  |some (j,b7)=>ae (al (fH ops e j==some b7) (opA P C x.2 (ev e) h) h) fun v h'=>traceK P C ops rest (eG e x.2.dst v) h' fun tr=>k (⟨e,h,v,fH ops e j==some b7⟩::tr)
theorem traceK_eq {α:Type} (P:Program) (C:av) (ops:Array Oper) : ∀ (l:List (Nat×Oper)) (e:Env) (h:ak) (k:List Tr1→Env→ak→Option α),
  traceK P C ops l e h k=match cO P C ops l e h with|some (tr,e',h')=>k tr e' h'|none=>none
 | [],e,h,k=>rfl
 | (i,o)::rest,e,h,k=>by
   unfold traceK cO wantA ae
   simp only
   cases hg:o.guard with
   |none=>
    simp only [if_true]
    cases opA P C o (ev e) h with
    |none=>rfl
    |some r=>
     simp only
     rw [traceK_eq P C ops rest]
     cases cO P C ops rest (eG e o.dst r.1) r.2<;>rfl
   |some g=>
    obtain ⟨j,b7⟩:=g
    simp only
    by_cases hy:(fH ops e j==some b7)=true
    ·simp only [hy,if_true,al]
     cases opA P C o (ev e) h with
     |none=>rfl
     |some r=>
      simp only
      rw [traceK_eq P C ops rest]
      cases cO P C ops rest (eG e o.dst r.1) r.2<;>rfl
    ·rw [if_neg hy]
     rw [Bool.not_eq_true] at hy
     simp only [hy,al]
     rw [traceK_eq P C ops rest]
     cases cO P C ops rest (eG e o.dst undef) h<;>rfl
theorem traceA_length {P:Program} {C:av} {ops:Array Oper} : ∀ {l:List (Nat×Oper)} {e e':Env} {h h':ak} {tr:List Tr1},cO P C ops l e h=some (tr,e',h')→tr.length=l.length
 | [],e,e',h,h',tr,ht=>by simp only [cO,Option.some.injEq,Prod.mk.injEq] at ht;rw [←ht.1];rfl
 | (i,o)::rest,e,e',h,h',tr,ht=>by
   simp only [cO] at ht
   split at ht
   ·split at ht
    ·split at ht
     ·rename_i r h5
      obtain ⟨e2,h2⟩:=r
      simp only [Option.some.injEq,Prod.mk.injEq] at ht
      obtain ⟨rfl,_⟩:=ht
      simp [traceA_length h5]
     ·cases ht
    ·cases ht
   ·split at ht
    ·rename_i r h5
     obtain ⟨e2,h2⟩:=r
     simp only [Option.some.injEq,Prod.mk.injEq] at ht
     obtain ⟨rfl,_⟩:=ht
     simp [traceA_length h5]
    ·cases ht
def regionK {α:Type} (P:Program) (C:av) (ops:Array Oper) (draw:Bool) (e:Env) (h:ak) (k:Env→ak→Option α):Option α:=
 match draw with
 |false=>opsK P C ops ops.toList e h k
 |true=>
  match lateOk P ops with
  |true=>opsK P C ops ((late P ops).map (·.2)) e h k
  |false=>match statOk P ops (late P ops) with
   |true=>traceK P C ops (late P ops) e h fun tr e' h'=>match dynChk P C ops (late P ops) tr h' with
    |true=>k e' h'
    |false=>none
   |false=>none
theorem regionK_eq {α:Type} (P:Program) (C:av) (ops:Array Oper) (draw:Bool) (e:Env) (h:ak) (k:Env→ak→Option α) :
  regionK P C ops draw e h k=match cR P C ops draw e h with|some (e',h')=>k e' h'|none=>none:=by
 unfold regionK
 cases draw with
 |false=>simp only [opsK_eq,cR];rfl
 |true=>
  simp only
  cases hl:lateOk P ops with
  |false=>
   simp only [traceK_eq,cR,if_true]
   cases hs:statOk P ops (late P ops) with
   |false=>rfl
   |true=>
    simp only [if_true]
    cases ht:cO P C ops (late P ops) e h with
    |none=>rfl
    |some r=>
     obtain ⟨tr,e',h'⟩:=r
     simp only
     rw [dynChk_eq (traceA_length ht)]
     cases dynOk P C ops (late P ops) tr h'<;>rfl
  |true=>
   simp only [lateOk,Bool.and_eq_true] at hl
   simp only [opsK_eq,cR,if_true,hl.1,←trace_ops]
   cases ht:cO P C ops (late P ops) e h with
   |none=>rfl
   |some r=>
    obtain ⟨tr,e',h'⟩:=r
    simp [dynTriv_ok hl.2]
def br {α:Type} (P:Program) (C:av):Code→Env→ak→(Env→ak→Option α)→(Env→ak→Option α)→(Nat→Env→ak→Option α)→Option α
 | .skip,e,h,n,_,_=>n e h
 | .region _ ops draw,e,h,n,_,_=>regionK P C ops draw e h n
 | .seq a b,e,h,n,r,x=>br P C a e h (fun e' h'=>br P C b e' h' n r x) r x
 | .cond c a b,e,h,n,r,x=>match ev e c with
   | .bool true=>br P C a e h n r x
   | .bool false=>br P C b e h n r x
   |_=>none
 | .block id b,e,h,n,r,x=>br P C b e h n r (fun i e' h'=>if i=id then n e' h' else x i e' h')
 | .loop b,e,h,_,r,x=>match iter (aL P C b) rounds e h with
   |some (.ret,e',h')=>r e' h'
   |some (.exit i,e',h')=>x i e' h'
   |_=>none
 | .exit i,e,h,_,_,x=>x i e h
 | .scope b,e,h,n,r,x=>br P C b e h n r x
 | .label _,e,h,n,_,_=>n e h
 | .ret,e,h,_,r,_=>r e h
 | .goto _,_,_,_,_,_=>none
 | .rangeFunc ..,_,_,_,_,_=>none
 | .refuse _,_,_,_,_,_=>none
theorem iter_not_normal {step:Env→ak→Option (Ex×Env×ak)} : ∀ (n:Nat) (e:Env) (h:ak) {e':Env} {h':ak},iter step n e h≠some (.normal,e',h')
 | 0,_,_,_,_=>by simp [iter]
 |n+1,e,h,e',h'=>by
  unfold iter
  split
  ·exact iter_not_normal n _ _
  ·rename_i hne
   exact hne e' h'
def endK {α:Type} (n r:Env→ak→Option α) (x:Nat→Env→ak→Option α):Option (Ex×Env×ak)→Option α
 |some (.normal,e,h)=>n e h
 |some (.ret,e,h)=>r e h
 |some (.exit i,e,h)=>x i e h
 |none=>none
theorem codeK_eq {α:Type} (P:Program) (C:av) : ∀ (c:Code) (e:Env) (h:ak) (n r:Env→ak→Option α) (x:Nat→Env→ak→Option α),
  br P C c e h n r x=endK n r x (aL P C c e h)
 | .skip,e,h,n,r,x=>rfl
 | .region id ops d,e,h,n,r,x=>by
   simp only [br,aL,regionK_eq]
   cases cR P C ops d e h<;>rfl
 | .seq a b,e,h,n,r,x=>by
   simp only [br,aL]
   rw [codeK_eq P C a]
   cases ha:aL P C a e h with
   |none=>rfl
   |some y=>
    obtain ⟨ex,e',h'⟩:=y
    cases ex with
    |normal=>simp only [endK];exact codeK_eq P C b _ _ _ _ _
    |ret=>rfl
    |exit i=>rfl
 | .cond c a b,e,h,n,r,x=>by
   simp only [br,aL]
   generalize ev e c=v
   cases v with
   |bool t=>
    cases t with
    |true=>exact codeK_eq P C a _ _ _ _ _
    |false=>exact codeK_eq P C b _ _ _ _ _
   |_=>rfl
 | .block id b,e,h,n,r,x=>by
   simp only [br,aL]
   rw [codeK_eq P C b]
   cases hb:aL P C b e h with
   |none=>rfl
   |some y=>
    obtain ⟨ex,e',h'⟩:=y
    cases ex with
    |normal=>rfl
    |ret=>rfl
    |exit i=>
     simp only [endK]
     by_cases hi:i=id
     ·simp [hi]
     ·simp [hi]
 | .loop b,e,h,n,r,x=>by
   simp only [br,aL]
   cases hb:iter (aL P C b) rounds e h with
   |none=>rfl
   |some y=>
    obtain ⟨ex,e',h'⟩:=y
    cases ex with
    |normal=>exact absurd hb (iter_not_normal _ _ _)
    |ret=>rfl
    |exit i=>rfl
 | .exit i,e,h,n,r,x=>rfl
 | .scope b,e,h,n,r,x=>by simp only [br,aL];exact codeK_eq P C b _ _ _ _ _
 | .label _,e,h,n,r,x=>rfl
 | .ret,e,h,n,r,x=>rfl
 | .goto _,e,h,n,r,x=>rfl
 | .rangeFunc ..,e,h,n,r,x=>rfl
 | .refuse _,e,h,n,r,x=>rfl
def aY (P:Program) (C:av) (fn:Func) (args:List Value) (h:ak):Out:=
 match fn.body with
 |none=>none
 |some c=>br P C c (args++List.replicate (fn.ntmps-args.length) undef) h (ax P fn.results.toList) (ax P fn.results.toList) (fun _ _ _=>none)
theorem bodyK_eq (P:Program) (C:av) (fn:Func) (args:List Value) (h:ak):aY P C fn args h=bodyA P C fn args h:=by
 unfold aY bodyA
 cases fn.body with
 |none=>rfl
 |some c=>
  simp only [codeK_eq]
  cases aL P C c (args++List.replicate (fn.ntmps-args.length) undef) h with
  |none=>rfl
  |some y=>
   obtain ⟨ex,e',h'⟩:=y
   cases ex<;>rfl
def roundK (P:Program) (C:av) (b:Code) (e:Env) (h:ak):Option (Ex×Env×ak):=
 br P C b e h (fun e h=>some (.normal,e,h)) (fun e h=>some (.ret,e,h)) (fun i e h=>some (.exit i,e,h))
theorem roundK_eq (P:Program) (C:av) (b:Code) (e:Env) (h:ak):roundK P C b e h=aL P C b e h:=by
 unfold roundK
 rw [codeK_eq]
 cases aL P C b e h with
 |none=>rfl
 |some y=>
  obtain ⟨ex,e',h'⟩:=y
  cases ex<;>rfl
end Go.Abs

namespace Go.Abs
theorem body_sound {P:Program} {C:av} (hC:bH P C) (hm:P.follows .mixedOrders=true) {f:FuncId} {fn:Func} {c:Code} (hf:P.funcs[f]? = some fn) (hb:fn.body=some c) (hok:cL P c=true)
  {args:List Value} {h h':ak} {v:Value} (he:bodyA P C fn args h=some (v,h')) (hg:P.globals.size≤h.n0) (hba:dy h.next args=true) (hbh:bc h)
  {μ:Mu} {w:World} {args':List Value} (S:de μ h w) (hfr:ft μ h h') (r:bp μ args args') :
  Calls P f args'.toArray w fun e w' => ∃ μ' v',e = .returned v'∧de μ' h' w'∧Step μ h w μ' h' w'∧aQ μ' v v':=by
 unfold bodyA at he
 rw [hb] at he
 simp only at he
 refine calls_of_wp hf hb ?_
 have hbe:dy h.next (args++List.replicate (fn.ntmps-args.length) undef)=true:=
  dq hba (dh.2 fun x hx=>by rw [List.eq_of_mem_replicate hx];rfl)
 have her:ERel μ (args++List.replicate (fn.ntmps-args.length) undef) { tmps:=args'.toArray++Array.replicate (fn.ntmps-args'.toArray.size) undef,defers := [] }:=by
  refine ⟨?_,rfl⟩
  have h1:args.length=args'.length:=r.1
  simp only [Array.toList_append,Array.toList_replicate,List.size_toArray]
  rw [h1]
  exact r.append (bp.replicate μ _ (aQ.undef μ))
 cases hc:aL P C c (args++List.replicate (fn.ntmps-args.length) undef) h with
 |none=>rw [hc] at he;cases he
 |some y=>
  obtain ⟨ex,e1,h1⟩:=y
  rw [hc] at he
  have hgrow:ax P fn.results.toList e1 h1=some (v,h'):=by
   cases ex with
   |normal=>exact he
   |ret=>exact he
   |exit i=>cases he
  obtain rfl:=resultsA_grow hgrow
  refine cY hC hm c hok _ _ _ _ _ _ _ _ _ hc hg hbe hbh S hfr her ?_
  rintro a' w' ⟨μ',hS,hSt,hr⟩
  obtain ⟨v',h3,h4⟩:=resultsA_sound hS hr hgrow
  cases ex with
  |normal=>exact ⟨hr.2,v',h3,μ',v',rfl,hS,hSt,h4⟩
  |ret=>exact ⟨hr.2,v',h3,μ',v',rfl,hS,hSt,h4⟩
  |exit i=>cases he
end Go.Abs

namespace Go.Abs
structure dG (P:Program) (f:FuncId) (s:List Value→ak→Out):Prop where
 fn : ∃ fn, P.funcs[f]? = some fn ∧ (fn.name == "runtime.NumGoroutine") = false ∧ fn.body.isNone = false
 grow : ∀ args h v h',s args h=some (v,h')→cz h h'
 bd : ∀ args h v h',s args h=some (v,h')→dy h.next args=true→bc h→cU h'.next v=true∧bc h'
 run : ∀ args h v h',s args h=some (v,h')→dy h.next args=true→bc h→P.globals.size≤h.n0 → ∀ μ w args',de μ h w→ft μ h h'→bp μ args args' →
  Calls P f args'.toArray w fun e w' => ∃ μ' v',e = .returned v'∧de μ' h' w'∧Step μ h w μ' h' w'∧aQ μ' v v'
def callL:List (FuncId×(List Value→ak→Out))→av
 | [],_,_,_=>none
 | (g,s)::t,f,args,h=>if f=g then s args h else callL t f args h
theorem callL_sound {P:Program} : ∀ (l:List (FuncId×(List Value→ak→Out))),(∀ p∈l,dG P p.1 p.2)→bH P (callL l)
 | [],_=>⟨by simp [callL],by simp [callL],by simp [callL],by simp [callL]⟩
 | (g,s)::t,hl=>by
   have ih:=callL_sound t (fun p hp=>hl p (List.mem_cons_of_mem _ hp))
   have hg:=hl (g,s) List.mem_cons_self
   refine ⟨?_,?_,?_,?_⟩
   ·intro f args h v h' he
    simp only [callL] at he
    split at he
    ·rename_i e;subst e;exact hg.fn
    ·exact ih.fn f args h v h' he
   ·intro f args h v h' he
    simp only [callL] at he
    split at he
    ·exact hg.grow args h v h' he
    ·exact ih.grow f args h v h' he
   ·intro f args h v h' he
    simp only [callL] at he
    split at he
    ·exact hg.bd args h v h' he
    ·exact ih.bd f args h v h' he
   ·intro f args h v h' he
    simp only [callL] at he
    split at he
    ·rename_i e;subst e;exact hg.run args h v h' he
    ·exact ih.run f args h v h' he
end Go.Abs

namespace Go.Abs
def pu (v:Option Value) (h:ak):Out:=v.map fun v=>(v,h)
def codeAt:List Nat→Code→Code
 | [],c=>c
 | 0::p,.seq a _=>codeAt p a
 |_::p,.seq _ b=>codeAt p b
 | 0::p,.cond _ a _=>codeAt p a
 |_::p,.cond _ _ b=>codeAt p b
 |_::p,.block _ b=>codeAt p b
 |_::p,.loop b=>codeAt p b
 |_::p,.scope b=>codeAt p b
 |_::_,c=>c
def partOf (fn:Func) (p:List Nat):Code:=
 match fn.body with
 |some c=>codeAt p c
 |none => .skip
def aH:Value→Option Bool
 | .bool b=>some b
 |_=>none
def fz (cells:List Value) (h:ak):Out:=some (newRow cells h)
def fq (z:List Value) (ps:List (Nat×Nat×Value)):Option Value:=(cT z ps).map fun cs => .agg cs.toArray
def dD (n:Nat) (z:Value) (len:Nat) (parts:List (Nat×Value)) (h:ak):Out:=
 if bO z.cells.toList&&z.cells.size=n&&0<n&&len*n≤16777216&&aS (parts.flatMap fun x=>x.2.cells.toList) then
  match cT (df z.cells.toList len) (parts.map fun x=>(x.1*n,n,x.2)) with
  |some cs=>some (.slice (some ⟨h.next,0,none⟩) len len,h.alloc cs)
  |none=>none
 else none
def dU (k:IntKind) (x:Value) (h:ak):Out:=
 match x with
 | .int _ n=>some (.int k (k.wrap n),h)
 |_=>none
def bsR (n c:Nat) (a:Option Addr) (h:ak):Out:=
 match cj 1 n (.slice a n c) h with
 |some l=>match l.mapM asByte with
  |some bs=>some (.string ⟨bs.toArray⟩,h)
  |none=>none
 |none=>none
def cvBS (x:Value) (h:ak):Out:=
 match x with
 | .slice a n c=>bsR n c a h
 | .string s=>some (.string s,h)
 |_=>none
def mkR (n by_:Nat) (z:Value) (len cap:Value) (h:ak):Out:=
 match len,cap with
 | .int .i64 l,.int .i64 c=>
   if 0≤l&&l≤c&&c≤9223372036854775807&&by_*c≤281474976710656&&bO z.cells.toList&&z.cells.size=n&&0<n then
    some (.slice (some ⟨h.next,0,none⟩) l.toNat c.toNat,h.alloc (df z.cells.toList c.toNat))
   else none
 |_,_=>none
def slS (x:Value) (lo hi mx:Option Value):Option Value:=
 match x with
 | .string s=>sliceSl 1 (.string s) lo hi mx
 |_=>none
def fld1 (off:Nat) (x:Value):Option Value:=
 match x with
 | .agg cs=>cs[off]?
 |_=>none
def ixA1 (n z:Nat) (x i:Value):Option Value:=
 match x,i with
 | .agg cs,.int _ i=>if 0≤i∧i<n then cs[i.toNat*z]? else none
 |_,_=>none
def ixS (x i:Value):Option Value:=
 match x,i with
 | .string s,.int _ i=>if 0≤i then (s[i.toNat]?).map fun b => .int .u8 b.toNat else none
 |_,_=>none
def lenS (x:Value):Option Value:=
 match x with
 | .string s=>some (.int .i64 s.size)
 |_=>none
def bE (x:Value):Option Value:=
 match x with
 | .slice _ n _=>some (.int .i64 n)
 |_=>none
def ei {α:Type} (y:Option (Ex×Env×ak)) (r:Env→ak→Option α) (x:Nat→Env→ak→Option α):Option α:=
 match y with
 |some (.ret,e',h')=>r e' h'
 |some (.exit i,e',h')=>x i e' h'
 |_=>none
end Go.Abs

namespace Go.Abs
abbrev AL:=List (Nat×Value)
noncomputable def lkB (e0:Env) (l:AL) (t:Nat):Value:=
 List.rec (motive:=fun _=>Value) (e0.getD t undef) (fun p _ ih=>Bool.rec (motive:=fun _=>Value) ih p.2 (Nat.beq p.1 t)) l
def putB (n:Nat) (l:AL) (d:Option Tmp) (v:Value):AL:=
 match d with
 |some t=>match Nat.blt t n with
  |true=>(t,v)::l
  |false=>l
 |none=>l
noncomputable def fu (n:Nat) (e0:Env) (l:AL):Env:=(List.range n).map (lkB e0 l)
theorem lkB_nil (e0:Env) (t:Nat):lkB e0 [] t=e0.getD t undef:=rfl
theorem lkB_cons (e0:Env) (p:Nat×Value) (l:AL) (t:Nat):lkB e0 (p::l) t=if p.1=t then p.2 else lkB e0 l t:=by
 show Bool.rec (motive:=fun _=>Value) (lkB e0 l t) p.2 (Nat.beq p.1 t)=_
 cases hb:Nat.beq p.1 t with
 |true=>rw [if_pos (Nat.eq_of_beq_eq_true hb)]
 |false=>rw [if_neg (Nat.ne_of_beq_eq_false hb)]
theorem dY (n:Nat) (e0:Env) (l:AL) (t:Nat):(fu n e0 l)[t]? = if t<n then some (lkB e0 l t) else none:=by
 unfold fu
 rw [List.getElem?_map]
 by_cases h:t<n
 ·rw [if_pos h,List.getElem?_range h];rfl
 ·rw [if_neg h,List.getElem?_eq_none (by simpa using h)];rfl
theorem expB_nil (e0:Env):fu e0.length e0 []=e0:=by
 apply List.ext_getElem?
 intro i
 rw [dY]
 by_cases h:i<e0.length
 ·rw [if_pos h,lkB_nil,List.getD_eq_getElem?_getD,List.getElem?_eq_getElem h];rfl
 ·rw [if_neg h,List.getElem?_eq_none (by omega)]
theorem expB_put (n:Nat) (e0:Env) (l:AL) (d:Option Tmp) (v:Value):fu n e0 (putB n l d v)=eG (fu n e0 l) d v:=by
 cases d with
 |none=>rfl
 |some t=>
  apply List.ext_getElem?
  intro i
  unfold eG putB
  simp only
  rw [List.getElem?_set,dY]
  have hlen:(fu n e0 l).length=n:=by simp [fu]
  rw [hlen]
  cases hb:Nat.blt t n with
  |true=>
   have ht:t<n:=by simpa using hb
   simp only [dY,lkB_cons,ht,if_true]
   by_cases e:t=i
   ·subst e;simp [ht]
   ·simp [e]
  |false=>
   have ht : ¬t<n:=by
    intro h
    rw [show Nat.blt t n=true by simpa using h] at hb;cases hb
   simp only [dY,ht,if_false]
   by_cases e:t=i
   ·subst e;simp [ht]
   ·simp [e]
noncomputable def evB (n:Nat) (e0:Env) (l:AL):Operand→Value
 | .tmp t=>match Nat.blt t n with
   |true=>lkB e0 l t
   |false=>undef
 | .const v=>v
 | .global g=>ptr g 0
 | .func f => .func (.func f) #[] #[]
theorem evB_eq (n:Nat) (e0:Env) (l:AL):ev (fu n e0 l)=evB n e0 l:=by
 funext x
 cases x with
 |tmp t=>
  simp only [ev,evB,List.getD_eq_getElem?_getD,dY]
  cases hb:Nat.blt t n with
  |true=>have ht:t<n:=by simpa using hb
         simp [ht]
  |false=>
   have ht : ¬t<n:=by
    intro h
    rw [show Nat.blt t n=true by simpa using h] at hb;cases hb
   simp [ht]
 |_=>rfl
noncomputable def yieldB (n:Nat) (e0:Env) (ops:Array Oper) (l:AL) (j:Nat):Option Bool:=
 match (ops[j]?).bind (·.dst) with
 |some t=>match Nat.blt t n with
  |true=>aH (lkB e0 l t)
  |false=>none
 |none=>none
theorem yieldB_eq (n:Nat) (e0:Env) (ops:Array Oper) (l:AL) (j:Nat):fH ops (fu n e0 l) j=yieldB n e0 ops l j:=by
 unfold fH yieldB
 cases (ops[j]?).bind (·.dst) with
 |none=>rfl
 |some t=>
  simp only [Option.bind_some,dY]
  cases hb:Nat.blt t n with
  |true=>
   have ht:t<n:=by simpa using hb
   simp only [ht,if_true]
   cases lkB e0 l t<;>rfl
  |false=>
   have ht : ¬t<n:=by
    intro h
    rw [show Nat.blt t n=true by simpa using h] at hb;cases hb
   simp [ht]
section
variable {α:Type} (P:Program) (C:av) (n:Nat) (e0:Env)
noncomputable def opsB (ops:Array Oper) (os:List Oper):AL→ak→(AL→ak→Option α)→Option α:=
 List.rec (motive:=fun _=>AL→ak→(AL→ak→Option α)→Option α) (fun l h k=>k l h)
  (fun o _ ih l h k=>
   match o.guard with
   |none=>ae (opA P C o (evB n e0 l) h) fun v h'=>ih (putB n l o.dst v) h' k
   |some (j,b7)=>ae (al (yieldB n e0 ops l j==some b7) (opA P C o (evB n e0 l) h) h) fun v h'=>ih (putB n l o.dst v) h' k) os
theorem opsB_eq (ops:Array Oper) : ∀ (os:List Oper) (l:AL) (h:ak) (k:AL→ak→Option α) (kk:Env→ak→Option α),(∀ l h,k l h=kk (fu n e0 l) h) →
  opsB P C n e0 ops os l h k=opsK P C ops os (fu n e0 l) h kk
 | [],l,h,k,kk,hk=>hk l h
 |o::rest,l,h,k,kk,hk=>by
  have ih : ∀ l h,List.rec (motive:=fun _=>AL→ak→(AL→ak→Option α)→Option α) (fun l h k=>k l h)
    (fun o _ ih l h k=>
     match o.guard with
     |none=>ae (opA P C o (evB n e0 l) h) fun v h'=>ih (putB n l o.dst v) h' k
     |some (j,b7)=>ae (al (yieldB n e0 ops l j==some b7) (opA P C o (evB n e0 l) h) h) fun v h'=>ih (putB n l o.dst v) h' k) rest l h k=opsK P C ops rest (fu n e0 l) h kk:=fun l h=>opsB_eq ops rest l h k kk hk
  unfold opsB opsK
  simp only [evB_eq,yieldB_eq]
  cases hg:o.guard with
  |none=>
   simp only
   congr 1
   funext v h'
   rw [ih,expB_put]
  |some g=>
   obtain ⟨j,b7⟩:=g
   simp only
   congr 1
   funext v h'
   rw [ih,expB_put]
structure Tb where
 l:AL
 h:ak
 v:Value
 ran:Bool
noncomputable def chkB (os:List (Nat×Oper)) (tr:List Tb) (hs:List ak) (x:Nat×Nat):Bool:=
 match os[x.1]?,tr[x.1]?,heapAt (tr.map (·.ran)) hs (fg P os x) (if x.2<x.1 then x.2 else x.2+1) with
 |some y,some t,some h=>cF t.ran (opA P C y.2 (evB n e0 t.l) h) t.v
 |some _,some t,none => !t.ran
 |_,_,_=>false
noncomputable def dynB (ops:Array Oper) (os:List (Nat×Oper)) (tr:List Tb) (hEnd:ak):Bool:=
 (dynPairs P ops os).foldr (fun x acc=>chkB P C n e0 os tr (tr.map (·.h) ++ [hEnd]) x&&acc) true
noncomputable def Tb.up (n:Nat) (e0:Env) (t:Tb):Tr1:=⟨fu n e0 t.l,t.h,t.v,t.ran⟩
theorem dynB_eq (ops:Array Oper) (os:List (Nat×Oper)) (tr:List Tb) (hEnd:ak):dynB P C n e0 ops os tr hEnd=dynChk P C ops os (tr.map (Tb.up n e0)) hEnd:=by
 unfold dynB dynChk
 congr 1
 funext x acc
 congr 1
 unfold chkB chkAt
 have h1:(tr.map (Tb.up n e0)).map (·.h)=tr.map (·.h):=by simp [List.map_map,Function.comp_def,Tb.up]
 have h2:(tr.map (Tb.up n e0)).map (·.ran)=tr.map (·.ran):=by simp [List.map_map,Function.comp_def,Tb.up]
 rw [h1,h2,List.getElem?_map]
 cases os[x.1]? with
 |none=>rfl
 |some y=>
  cases tr[x.1]? with
  |none=>rfl
  |some t=>
   cases heapAt (tr.map (·.ran)) (List.map (fun x=>x.h) tr ++ [hEnd]) (fg P os x) (if x.2<x.1 then x.2 else x.2+1) with
   |none=>rfl
   |some h=>simp [Tb.up,evB_eq]
noncomputable def traceB (ops:Array Oper) (os:List (Nat×Oper)):AL→ak→(List Tb→AL→ak→Option α)→Option α:=
 List.rec (motive:=fun _=>AL→ak→(List Tb→AL→ak→Option α)→Option α) (fun l h k=>k [] l h)
  (fun x _ ih l h k=>
   match x.2.guard with
   |none=>ae (opA P C x.2 (evB n e0 l) h) fun v h'=>ih (putB n l x.2.dst v) h' fun tr=>k (⟨l,h,v,true⟩::tr)
   |some (j,b7)=>ae (al (yieldB n e0 ops l j==some b7) (opA P C x.2 (evB n e0 l) h) h) fun v h'=>ih (putB n l x.2.dst v) h' fun tr=>k (⟨l,h,v,yieldB n e0 ops l j==some b7⟩::tr)) os
theorem traceB_eq (ops:Array Oper) : ∀ (os:List (Nat×Oper)) (l:AL) (h:ak) (k:List Tb→AL→ak→Option α) (kk:List Tr1→Env→ak→Option α),(∀ tr l h,k tr l h=kk (tr.map (Tb.up n e0)) (fu n e0 l) h) →
  traceB P C n e0 ops os l h k=traceK P C ops os (fu n e0 l) h kk
 | [],l,h,k,kk,hk=>hk [] l h
 |x::rest,l,h,k,kk,hk=>by
  show (match x.2.guard with
   |none=>ae (opA P C x.2 (evB n e0 l) h) fun v h'=>traceB P C n e0 ops rest (putB n l x.2.dst v) h' fun tr=>k (⟨l,h,v,true⟩::tr)
   |some (j,b7)=>ae (al (yieldB n e0 ops l j==some b7) (opA P C x.2 (evB n e0 l) h) h) fun v h'=>traceB P C n e0 ops rest (putB n l x.2.dst v) h' fun tr=>k (⟨l,h,v,yieldB n e0 ops l j==some b7⟩::tr))=_
  unfold traceK
  simp only [evB_eq,yieldB_eq]
  cases hg:x.2.guard with
  |none=>
   simp only
   congr 1
   funext v h'
   rw [traceB_eq ops rest (putB n l x.2.dst v) h' _ (fun tr=>kk (⟨fu n e0 l,h,v,true⟩::tr)) (fun tr l h=>by rw [hk];rfl),expB_put]
  |some g=>
   obtain ⟨j,b7⟩:=g
   simp only
   congr 1
   funext v h'
   rw [traceB_eq ops rest (putB n l x.2.dst v) h' _ (fun tr=>kk (⟨fu n e0 l,h,v,yieldB n e0 ops l j==some b7⟩::tr)) (fun tr l h=>by rw [hk];rfl),expB_put]
noncomputable def regionB (ops:Array Oper) (draw:Bool) (l:AL) (h:ak) (k:AL→ak→Option α):Option α:=
 match draw with
 |false=>opsB P C n e0 ops ops.toList l h k
 |true=>
  match lateOk P ops with
  |true=>opsB P C n e0 ops ((late P ops).map (·.2)) l h k
  |false=>match statOk P ops (late P ops) with
   |true=>traceB P C n e0 ops (late P ops) l h fun tr l' h'=>match dynB P C n e0 ops (late P ops) tr h' with
    |true=>k l' h'
    |false=>none
   |false=>none
theorem regionB_eq (ops:Array Oper) (draw:Bool) (l:AL) (h:ak) (k:AL→ak→Option α) (kk:Env→ak→Option α) (hk : ∀ l h,k l h=kk (fu n e0 l) h) :
  regionB P C n e0 ops draw l h k=regionK P C ops draw (fu n e0 l) h kk:=by
 unfold regionB regionK
 cases draw with
 |false=>exact opsB_eq P C n e0 ops _ l h k kk hk
 |true=>
  simp only
  cases lateOk P ops with
  |true=>exact opsB_eq P C n e0 ops _ l h k kk hk
  |false=>
   simp only
   cases statOk P ops (late P ops) with
   |false=>rfl
   |true=>
    refine traceB_eq P C n e0 ops _ l h _ _ ?_
    intro tr l h
    rw [dynB_eq]
    cases dynChk P C ops (late P ops) (tr.map (Tb.up n e0)) h with
    |true=>exact hk l h
    |false=>rfl
noncomputable def codeB (c:Code):AL→ak→(AL→ak→Option α)→(Env→ak→Option α)→(AL→ak→Option α)→(Env→ak→Option α)→(Nat→AL→ak→Option α)→(Nat→Env→ak→Option α)→Option α:=
 Code.rec (motive:=fun _=>AL→ak→(AL→ak→Option α)→(Env→ak→Option α)→(AL→ak→Option α)→(Env→ak→Option α)→(Nat→AL→ak→Option α)→(Nat→Env→ak→Option α)→Option α)
  (fun l h k _ _ _ _ _=>k l h)
  (fun _ ops draw l h k _ _ _ _ _=>regionB P C n e0 ops draw l h k)
  (fun _ b ia ib l h k kE r rE x xE=>ia l h (fun l' h'=>ib l' h' k kE r rE x xE) (fun e' h'=>br P C b e' h' kE rE xE) r rE x xE)
  (fun q _ _ ia ib l h k kE r rE x xE=>match evB n e0 l q with
   | .bool true=>ia l h k kE r rE x xE
   | .bool false=>ib l h k kE r rE x xE
   |_=>none)
  (fun id _ ib l h k kE r rE x xE=>ib l h k kE r rE (fun i l' h'=>if i=id then k l' h' else x i l' h') (fun i e' h'=>if i=id then kE e' h' else xE i e' h'))
  (fun b _ l h _ _ _ rE _ xE=>ei (iter (aL P C b) rounds (fu n e0 l) h) rE xE)
  (fun _ _ _ _ _ _ _ _ _ _ _ _ _ _=>none)
  (fun i l h _ _ _ _ x _=>x i l h)
  (fun _ ib l h k kE r rE x xE=>ib l h k kE r rE x xE)
  (fun _ l h k _ _ _ _ _=>k l h)
  (fun _ _ _ _ _ _ _ _ _=>none)
  (fun l h _ _ r _ _ _=>r l h)
  (fun _ _ _ _ _ _ _ _ _=>none) c
theorem codeB_eq : ∀ (c:Code) (l:AL) (h:ak) (k:AL→ak→Option α) (kE:Env→ak→Option α) (r:AL→ak→Option α) (rE:Env→ak→Option α) (x:Nat→AL→ak→Option α) (xE:Nat→Env→ak→Option α),
  (∀ l h,k l h=kE (fu n e0 l) h)→(∀ l h,r l h=rE (fu n e0 l) h)→(∀ i l h,x i l h=xE i (fu n e0 l) h) →
  codeB P C n e0 c l h k kE r rE x xE=br P C c (fu n e0 l) h kE rE xE
 | .skip,l,h,k,kE,r,rE,x,xE,hk,hr,hx=>hk l h
 | .region _ ops d,l,h,k,kE,r,rE,x,xE,hk,hr,hx=>regionB_eq P C n e0 ops d l h k kE hk
 | .seq a b,l,h,k,kE,r,rE,x,xE,hk,hr,hx=>by
   show codeB P C n e0 a l h (fun l' h'=>codeB P C n e0 b l' h' k kE r rE x xE) (fun e' h'=>br P C b e' h' kE rE xE) r rE x xE=_
   exact codeB_eq a l h _ _ r rE x xE (fun l h=>codeB_eq b l h k kE r rE x xE hk hr hx) hr hx
 | .cond q a b,l,h,k,kE,r,rE,x,xE,hk,hr,hx=>by
   show (match evB n e0 l q with
    | .bool true=>codeB P C n e0 a l h k kE r rE x xE
    | .bool false=>codeB P C n e0 b l h k kE r rE x xE
    |_=>none)=_
   unfold br
   rw [evB_eq,codeB_eq a l h k kE r rE x xE hk hr hx,codeB_eq b l h k kE r rE x xE hk hr hx]
   try rfl
 | .block id b,l,h,k,kE,r,rE,x,xE,hk,hr,hx=>by
   show codeB P C n e0 b l h k kE r rE (fun i l' h'=>if i=id then k l' h' else x i l' h') (fun i e' h'=>if i=id then kE e' h' else xE i e' h')=_
   exact codeB_eq b l h k kE r rE _ _ hk hr (fun i l h=>by simp only [hk,hx])
 | .loop b,l,h,k,kE,r,rE,x,xE,hk,hr,hx=>rfl
 | .exit i,l,h,k,kE,r,rE,x,xE,hk,hr,hx=>hx i l h
 | .scope b,l,h,k,kE,r,rE,x,xE,hk,hr,hx=>codeB_eq b l h k kE r rE x xE hk hr hx
 | .label _,l,h,k,kE,r,rE,x,xE,hk,hr,hx=>hk l h
 | .ret,l,h,k,kE,r,rE,x,xE,hk,hr,hx=>hr l h
 | .goto _,l,h,k,kE,r,rE,x,xE,hk,hr,hx=>rfl
 | .rangeFunc ..,l,h,k,kE,r,rE,x,xE,hk,hr,hx=>rfl
 | .refuse _,l,h,k,kE,r,rE,x,xE,hk,hr,hx=>rfl
noncomputable def startB (c:Code) (h:ak) (kE rE:Env→ak→Option α) (xE:Nat→Env→ak→Option α):Option α:=
 codeB P C n e0 c [] h (fun l h=>kE (fu n e0 l) h) kE (fun l h=>rE (fu n e0 l) h) rE (fun i l h=>xE i (fu n e0 l) h) xE
theorem startB_eq (hn:Nat.beq e0.length n=true) (c:Code) (h:ak) (kE rE:Env→ak→Option α) (xE:Nat→Env→ak→Option α) :
  br P C c e0 h kE rE xE=startB P C n e0 c h kE rE xE:=by
 unfold startB
 rw [codeB_eq P C n e0 c [] h (fun l h=>kE (fu n e0 l) h) kE (fun l h=>rE (fu n e0 l) h) rE (fun i l h=>xE i (fu n e0 l) h) xE (fun _ _=>rfl) (fun _ _=>rfl) (fun _ _ _=>rfl)]
 obtain rfl:=Nat.eq_of_beq_eq_true hn
 rw [expB_nil]
end
noncomputable def bodyB (P:Program) (C:av) (fn:Func) (args:List Value) (h:ak):Out:=
 match fn.body with
 |none=>none
 |some c=>startB P C fn.ntmps (args++List.replicate (fn.ntmps-args.length) undef) c h (ax P fn.results.toList) (ax P fn.results.toList) (fun _ _ _=>none)
theorem aI (P:Program) (C:av) (fn:Func) (args:List Value) (h:ak) (hn:Nat.ble args.length fn.ntmps=true):aY P C fn args h=bodyB P C fn args h:=by
 unfold aY bodyB
 cases fn.body with
 |none=>rfl
 |some c=>
  refine startB_eq P C _ _ ?_ c h _ _ _
  have:=Nat.le_of_ble_eq_true hn
  have h2:(args++List.replicate (fn.ntmps-args.length) undef).length=fn.ntmps:=by simp;omega
  rw [h2]
  exact Nat.beq_refl _
noncomputable def roundB (P:Program) (C:av) (n:Nat) (b:Code) (e:Env) (h:ak):Option (Ex×Env×ak):=
 startB P C n e b h (fun e h=>some (.normal,e,h)) (fun e h=>some (.ret,e,h)) (fun i e h=>some (.exit i,e,h))
theorem roundB_eq (P:Program) (C:av) (n:Nat) (b:Code) (e:Env) (h:ak) (hn:Nat.beq e.length n=true):roundK P C b e h=roundB P C n b e h:=
 startB_eq P C n e hn b h _ _ _
end Go.Abs

namespace Go.Abs
@[simp] theorem ah {α : Type} (v : Value) (h : ak) (k : Value → ak → Option α) : ae (some (v, h)) k = k v h := rfl
@[simp] theorem thenV_none {α : Type} (k : Value → ak → Option α) : ae none k = none := rfl
@[simp] theorem aq (v : Value) (h : ak) : pu (some v) h = some (v, h) := rfl
@[simp] theorem aj (o : Out) (h : ak) : al true o h = o := rfl
@[simp] theorem ai (o : Out) (h : ak) : al false o h = some (undef, h) := rfl
@[simp] theorem ar (b : Bool) : aH (.bool b) = some b := rfl
@[simp] theorem bOf_undef : aH undef = none := rfl
@[simp] theorem eL {α : Type} (e : Env) (h : ak) (r : Env → ak → Option α) (x : Nat → Env → ak → Option α) : ei (some (.ret, e, h)) r x = r e h := rfl
@[simp] theorem bG {α : Type} (i : Nat) (e : Env) (h : ak) (r : Env → ak → Option α) (x : Nat → Env → ak → Option α) : ei (some (.exit i, e, h)) r x = x i e h := rfl
@[simp] theorem dk (b o : Nat) : bZ (ptr b o) = some (ptr b o) := rfl
@[simp] theorem ao (b o n : Nat) : az (ptr b o) n = some (ptr b (o + n)) := rfl
@[simp] theorem lenL_slice (p : Option Addr) (n c : Nat) : bE (.slice p n c) = some (.int .i64 n) := rfl
@[simp] theorem lenS_string (s : ByteArray) : lenS (.string s) = some (.int .i64 s.size) := rfl
@[simp] theorem au (b : Bool) : unA .not (.bool b) = some (.bool !b) := rfl
@[simp] theorem extractA_tuple (vs : Array Value) (i : Nat) : aV (.tuple vs) i = vs[i]? := rfl
@[simp] theorem bX (k j : IntKind) (n : Int) (h : ak) : dU k (.int j n) h = some (.int k (k.wrap n), h) := rfl
section
variable (P:Program) (t:TypeId) (k:IntKind) (a b:Int)
theorem fe (op:BinOp) (k':IntKind):bin P op t (.int k a) (.int k' b)=binI op k k' a b:=by cases op<;>rfl
@[simp] theorem bin_add : bin P .add t (.int k a) (.int k b) = some (.int k (k.wrap (a + b))) := by rw [fe]; simp [binI]
@[simp] theorem bin_sub : bin P .sub t (.int k a) (.int k b) = some (.int k (k.wrap (a - b))) := by rw [fe]; simp [binI]
@[simp] theorem bin_mul : bin P .mul t (.int k a) (.int k b) = some (.int k (k.wrap (a * b))) := by rw [fe]; simp [binI]
@[simp] theorem ay : bin P .eql t (.int k a) (.int k b) = some (.bool (a == b)) := by rw [fe]; simp [binI]
@[simp] theorem aA : bin P .neq t (.int k a) (.int k b) = some (.bool (a != b)) := by rw [fe]; simp [binI]
@[simp] theorem aD : bin P .lss t (.int k a) (.int k b) = some (.bool (decide (a < b))) := by rw [fe]; simp [binI]
@[simp] theorem aC : bin P .leq t (.int k a) (.int k b) = some (.bool (decide (a ≤ b))) := by rw [fe]; simp [binI]
@[simp] theorem aE : bin P .gtr t (.int k a) (.int k b) = some (.bool (decide (a > b))) := by rw [fe]; simp [binI]
@[simp] theorem aB : bin P .geq t (.int k a) (.int k b) = some (.bool (decide (a ≥ b))) := by rw [fe]; simp [binI]
end
theorem bf {h:ak} {b o:Nat} {k:dA} {c:Value} (hg:h.get b=some k) (hc:k[o]? = some c) (hh:isHole c=false:=by rfl):aK (ptr b o) h=some (c,h):=by
 unfold aK ptr
 simp only [hg,hc,hh,if_true]
theorem ldN_at {h:ak} {b o n:Nat} {k:dA} (hg:h.get b=some k) (hc:o+n≤k.length) (hh:bA ((k.drop o).take n)=true):bP n (ptr b o) h=some (.agg ((k.drop o).take n).toArray,h):=by
 unfold bP ptr
 simp only [hg,hc,hh,and_self,if_true]
theorem iter_inv {step:Env→ak→Option (Ex×Env×ak)} {Inv:Nat→Env→ak→Prop} {fin:Ex→Env→ak→Prop}
  (hs : ∀ k e h,Inv k e h → ∃ x e' h',step e h=some (x,e',h')∧((x = .normal ∧ ∃ j,j<k∧Inv j e' h')∨(x ≠ .normal∧fin x e' h'))) :
  ∀ (k n:Nat) (e:Env) (h:ak),k<n→Inv k e h → ∃ x e' h',iter step n e h=some (x,e',h')∧fin x e' h':=by
 intro k
 induction k using Nat.strongRecOn with
 |_ k ih=>
  intro n e h hn hi
  obtain ⟨m,rfl⟩ : ∃ m,n=m+1:=⟨n-1,by omega⟩
  obtain ⟨x,e',h',h1,h2|h2⟩:=hs k e h hi
  ·obtain ⟨rfl,j,hj,hi2⟩:=h2
   obtain ⟨x,e2,h3,h4,h5⟩:=ih j hj m e' h' (by omega) hi2
   exact ⟨x,e2,h3,by simp only [iter,h1];exact h4,h5⟩
  ·refine ⟨x,e',h',?_,h2.2⟩
   simp only [iter,h1]
   cases x with
   |normal=>exact absurd rfl h2.1
   |ret=>rfl
   |exit i=>rfl
theorem wrap_i64_if (x:Int):IntKind.wrap .i64 x=if 9223372036854775808≤x%18446744073709551616 then x%18446744073709551616-18446744073709551616 else x%18446744073709551616:=by
 unfold IntKind.wrap
 simp [IntKind.bits,IntKind.signed]
theorem dX {x:Int} (h1 : -9223372036854775808≤x) (h2:x≤9223372036854775807):IntKind.wrap .i64 x=x:=by
 rw [wrap_i64_if]
 split<;>omega
theorem eY {x:Int} (h1:0≤x) (h2:x<18446744073709551616):IntKind.wrap .u64 x=x:=by
 simp only [IntKind.wrap,IntKind.bits,IntKind.signed,Bool.false_and,Bool.false_eq_true,if_false]
 omega
theorem wrap_u32 {x:Int} (h1:0≤x) (h2:x<4294967296):IntKind.wrap .u32 x=x:=by
 simp only [IntKind.wrap,IntKind.bits,IntKind.signed,Bool.false_and,Bool.false_eq_true,if_false]
 omega
theorem wrap_u16 {x:Int} (h1:0≤x) (h2:x<65536):IntKind.wrap .u16 x=x:=by
 simp only [IntKind.wrap,IntKind.bits,IntKind.signed,Bool.false_and,Bool.false_eq_true,if_false]
 omega
theorem wrap_u8 {x:Int} (h1:0≤x) (h2:x<256):IntKind.wrap .u8 x=x:=by
 simp only [IntKind.wrap,IntKind.bits,IntKind.signed,Bool.false_and,Bool.false_eq_true,if_false]
 omega
theorem wrap_u8_mod (x:Int):IntKind.wrap .u8 x=x%256:=by
 simp only [IntKind.wrap,IntKind.bits,IntKind.signed,Bool.false_and,Bool.false_eq_true,if_false]
 omega
theorem wrap_u32_mod (x:Int):IntKind.wrap .u32 x=x%4294967296:=by
 simp only [IntKind.wrap,IntKind.bits,IntKind.signed,Bool.false_and,Bool.false_eq_true,if_false]
 omega
theorem wrap_u16_mod (x:Int):IntKind.wrap .u16 x=x%65536:=by
 simp only [IntKind.wrap,IntKind.bits,IntKind.signed,Bool.false_and,Bool.false_eq_true,if_false]
 omega
end Go.Abs

namespace Go.Abs
structure bB (P:Program) (f:FuncId) (fn:Func):Prop where
 at_:P.funcs[f]? = some fn
 name : (fn.name == "runtime.NumGoroutine") = false
 some_:fn.body.isSome=true
 ok:cL P (partOf fn [])=true
theorem bB.body {P:Program} {f:FuncId} {fn:Func} (i:bB P f fn):fn.body=some (partOf fn []):=by
 have:=i.some_
 unfold partOf
 cases h:fn.body with
 |none=>rw [h] at this;cases this
 |some c=>simp [codeAt]
end Go.Abs

namespace Go.Abs
noncomputable def lkF (x:Nat→Value) (l:AL) (t:Nat):Value:=
 List.rec (motive:=fun _=>Value) (x t) (fun p _ ih=>Bool.rec (motive:=fun _=>Value) ih p.2 (Nat.beq p.1 t)) l
noncomputable def mkE (n:Nat) (x:Nat→Value) (l:AL):Env:=(List.range n).map (lkF x l)
def bs (l:List Value):Nat→Value:=fun i=>l.getD i undef
@[simp] theorem lkF_nil (x : Nat → Value) (t : Nat) : lkF x [] t = x t := rfl
theorem lkF_cons (x:Nat→Value) (p:Nat×Value) (l:AL) (t:Nat):lkF x (p::l) t=if p.1=t then p.2 else lkF x l t:=by
 show Bool.rec (motive:=fun _=>Value) (lkF x l t) p.2 (Nat.beq p.1 t)=_
 cases hb:Nat.beq p.1 t with
 |true=>rw [if_pos (Nat.eq_of_beq_eq_true hb)]
 |false=>rw [if_neg (Nat.ne_of_beq_eq_false hb)]
@[simp] theorem mkE_length (n : Nat) (x : Nat → Value) (l : AL) : (mkE n x l).length = n := by simp [mkE]
end Go.Abs

namespace Go.Abs
theorem ofInt_natCast (w n:Nat):BitVec.ofInt w (n:Int)=BitVec.ofNat w n:=by simp
section
variable (P:Program) (t:TypeId)
theorem bits_u {k:IntKind} (hk:k.signed=false) (n:Nat) (hn:n<2^k.bits):IntKind.wrap k (n:Int)=n:=by
 unfold IntKind.wrap
 simp only [hk,Bool.false_and,Bool.false_eq_true,if_false]
 have:((2:Int)^k.bits)=((2^k.bits:Nat):Int):=by simp
 rw [this,←Int.natCast_emod,Nat.mod_eq_of_lt hn]
theorem bin_xor_nat {k:IntKind} (hk:k.signed=false) {a b:Nat} (ha:a<2^k.bits) (hb:b<2^k.bits):bin P .xor t (.int k a) (.int k b)=some (.int k ((a ^^^ b:Nat):Int)):=by
 rw [fe]
 simp only [binI,ne_eq,not_true,if_false,bitsA,ofInt_natCast,BitVec.toNat_xor,BitVec.toNat_ofNat,Nat.mod_eq_of_lt ha,Nat.mod_eq_of_lt hb]
 rw [bits_u hk _ (Nat.xor_lt_two_pow ha hb)]
theorem bin_and_nat {k:IntKind} (hk:k.signed=false) {a b:Nat} (ha:a<2^k.bits) (hb:b<2^k.bits):bin P .and t (.int k a) (.int k b)=some (.int k ((a &&& b:Nat):Int)):=by
 rw [fe]
 simp only [binI,ne_eq,not_true,if_false,bitsA,ofInt_natCast,BitVec.toNat_and,BitVec.toNat_ofNat,Nat.mod_eq_of_lt ha,Nat.mod_eq_of_lt hb]
 rw [bits_u hk _ (Nat.and_lt_two_pow a hb)]
theorem eF {k k':IntKind} {a b:Nat} (hb:b≤k.bits):bin P .shr t (.int k a) (.int k' b)=some (.int k ((a/2^b:Nat):Int)):=by
 rw [fe]
 have h1 : ¬((b:Int)<0):=by omega
 simp only [binI,h1,if_false,Int.toNat_natCast,Nat.min_eq_left hb]
 have:((2:Int)^b)=((2^b:Nat):Int):=by simp
 rw [this,Int.fdiv_eq_ediv_of_nonneg _ (Int.natCast_nonneg _)]
 rfl
end
end Go.Abs

namespace Go.Abs
structure Kept (h h':ak) (B:Nat→Prop):Prop where
 n0:h'.n0=h.n0
 next:h.next≤h'.next
 get : ∀ c,c<h.next → ¬B c→h'.get c=h.get c
theorem Kept.refl (h:ak) (B:Nat→Prop):Kept h h B:=⟨rfl,Nat.le_refl _,fun _ _ _=>rfl⟩
theorem Kept.trans {a b c:ak} {B:Nat→Prop} (x:Kept a b B) (y:Kept b c B):Kept a c B:=
 ⟨y.n0.trans x.n0,Nat.le_trans x.next y.next,fun d hd hb=>(y.get d (Nat.lt_of_lt_of_le hd x.next) hb).trans (x.get d hd hb)⟩
theorem Kept.mono {a b:ak} {B B':Nat→Prop} (x:Kept a b B) (hB : ∀ c,c<a.next→B c→B' c):Kept a b B':=
 ⟨x.n0,x.next,fun d hd hb=>x.get d hd (fun h=>hb (hB d hd h))⟩
theorem Kept.alloc (h:ak) (k:dA) (B:Nat→Prop):Kept h (h.alloc k) B:=
 ⟨rfl,by simp,fun c hc _=>by rw [ak.aM,if_neg (by omega)]⟩
theorem Kept.set {h:ak} {b:Nat} {k k':dA} {B:Nat→Prop} (hb:h.n0≤b) (hg:h.get b=some k) (hB:h.next≤b∨B b):Kept h (h.set b k') B:=
 ⟨rfl,by simp,fun c hc hn=>by
  by_cases e:c=b
  ·subst e;rcases hB with h1|h1
   ·omega
   ·exact absurd h1 hn
  ·exact ak.get_set_other hb (h.bT hg) _ e⟩
theorem splice_one (k:List Value) (o:Nat) (v:Value) (ho:o<k.length):bw k o [v]=k.set o v:=by
 unfold bw
 rw [List.set_eq_take_append_cons_drop,if_pos ho]
 simp
theorem stN1_at {h:ak} {b o:Nat} {k:dA} {v:Value} (hg:h.get b=some k) (ho:o<k.length) (hn:h.n0≤b) (hc:v.cells = #[v]) (hv:v.oneCell'=true) :
  dH 1 (ptr b o) v h=some (undef,h.set b (k.set o v)):=by
 unfold dH ptr
 simp only [hc,List.size_toArray,List.length_cons,List.length_nil,Nat.zero_add,if_true]
 unfold stL
 simp only [hg,List.length_cons,List.length_nil,Nat.zero_add]
 rw [if_pos (by simp [hn,aS,hv];omega),splice_one k o v ho]
 rfl
end Go.Abs

namespace Go.Abs
noncomputable def aX (n:Nat) (x:Nat→Value):Env:=(List.range n).map x
noncomputable def up (x:Nat→Value) (l:AL):Nat→Value:=lkF x l
@[simp] theorem up_nil (x : Nat → Value) (t : Nat) : up x [] t = x t := rfl
theorem up_cons (x:Nat→Value) (s:Nat) (v:Value) (l:AL) (t:Nat):up x ((s,v)::l) t=if s=t then v else up x l t:=lkF_cons ..
@[simp] theorem mkF_length (n : Nat) (x : Nat → Value) : (aX n x).length = n := by simp [aX]
theorem bn {P:Program} {C:av} {n:Nat} {b:Code} {T:(Nat→Value)→ak→Option (Ex×Env×ak)} (hT : ∀ x h,roundB P C n b (aX n x) h=T x h) (x:Nat→Value) (h:ak) :
  aL P C b (aX n x) h=T x h:=by
 rw [←roundK_eq,roundB_eq P C n b _ h (by rw [mkF_length];exact Nat.beq_refl n),←hT]
theorem bq {α:Type} {P:Program} {C:av} {n:Nat} {b:Code} {kE rE:Env→ak→Option α} {xE:Nat→Env→ak→Option α} {T:(Nat→Value)→ak→Option α}
  (hT : ∀ x h,startB P C n (aX n x) b h kE rE xE=T x h) (x:Nat→Value) (h:ak) :
  br P C b (aX n x) h kE rE xE=T x h:=by
 rw [startB_eq P C n (aX n x) (by rw [mkF_length];exact Nat.beq_refl n),←hT]
theorem loop_inv {P:Program} {C:av} {n:Nat} {b:Code} {T:(Nat→Value)→ak→Option (Ex×Env×ak)} (hT : ∀ x h,aL P C b (aX n x) h=T x h)
  {Inv:Nat→(Nat→Value)→ak→Prop} {fin:Ex→(Nat→Value)→ak→Prop}
  (hs : ∀ k x h,Inv k x h → ∃ ex x' h',T x h=some (ex,aX n x',h')∧((ex = .normal ∧ ∃ j,j<k∧Inv j x' h')∨(ex ≠ .normal∧fin ex x' h')))
  {k:Nat} {x:Nat→Value} {h:ak} (hk:k<rounds) (hi:Inv k x h) :
  ∃ ex x' h',iter (aL P C b) rounds (aX n x) h=some (ex,aX n x',h')∧fin ex x' h':=by
 obtain ⟨ex,e',h',h1,x',rfl,h2⟩:=iter_inv (step:=aL P C b) (Inv:=fun k e h => ∃ x,e=aX n x∧Inv k x h) (fin:=fun ex e h => ∃ x,e=aX n x∧fin ex x h)
  (by
   rintro k _ h ⟨x,rfl,hi⟩
   obtain ⟨ex,x',h',h1,h2⟩:=hs k x h hi
   refine ⟨ex,aX n x',h',(hT x h).trans h1,?_⟩
   rcases h2 with ⟨h2,j,hj,h3⟩|⟨h2,h3⟩
   ·exact .inl ⟨h2,j,hj,x',rfl,h3⟩
   ·exact .inr ⟨h2,x',rfl,h3⟩)
  k rounds (aX n x) h hk ⟨x,rfl,hi⟩
 exact ⟨ex,x',h',h1,h2⟩
end Go.Abs

namespace Go.Abs
def fnOk (P : Program) (fn : Func) : Bool := !(fn.name == "runtime.NumGoroutine") && match fn.body with | some c => cL P c | none => false
section
variable {P:Program} {C:av}
theorem ld_bd {t:TypeId} {x v:Value} {h h':ak} (hb:bc h) (hx:cU h.next x=true) (e:ld P t x h=some (v,h')):cU h.next v=true:=by
 have hC:bH P (fun _ _ _=>none):=⟨by simp,by simp,by simp,by simp⟩
 have:=opA_bd (P:=P) (C:=fun _ _ _=>none) (o:={ dst:=none,type:=0,op := .load t (.const x),after := #[],guard:=none,pos:=default }) (ρ:=fun o=>match o with | .const v=>v|_=>undef) hC hb
  (by
   intro y hy
   have:y = .const x:=by simpa [Op.operands] using hy
   subst this;exact hx) (v:=v) (h':=h') e
 have hh:h'=h:=by
  unfold ld at e
  split at e
  ·unfold bP at e;split at e
   ·split at e
    ·split at e
     ·cases e;rfl
     ·cases e
    ·cases e
   ·cases e
  ·unfold aK at e
   repeat' split at e
   all_goals first
    | (cases e;done)
    | (simp only [Option.some.injEq,Prod.mk.injEq] at e;exact e.2.symm)
  ·cases e
 subst hh;exact this.1
theorem resultA_bd {r:ResultVar} {e:Env} {h:ak} {v:Value} (hb:bc h) (he:dy h.next e=true) (x:dK P r e h=some v):cU h.next v=true:=by
 have key : ∀ t,cU h.next (e.getD t undef)=true:=by
  intro t
  rw [List.getD_eq_getElem?_getD]
  cases ht:e[t]? with
  |none=>rfl
  |some y=>exact dh.1 he y (List.mem_of_getElem? ht)
 cases r with
 |tmp t=>simp only [dK,Option.some.injEq] at x;subst x;exact key t
 |cell a t=>
  simp only [dK,Option.map_eq_some_iff] at x
  obtain ⟨⟨y,h'⟩,h1,rfl⟩:=x
  exact ld_bd hb (key a) h1
theorem resultsA_bd {rs:List ResultVar} {e:Env} {h h':ak} {v:Value} (hb:bc h) (he:dy h.next e=true) (x:ax P rs e h=some (v,h')):cU h'.next v=true∧bc h':=by
 have hh:=resultsA_grow x
 subst hh
 refine ⟨?_,hb⟩
 unfold ax at x
 split at x
 ·simp only [Option.map_eq_some_iff,Prod.mk.injEq] at x
  obtain ⟨v1,hv1,rfl,_⟩:=x
  exact resultA_bd hb he hv1
 ·simp only [Option.map_eq_some_iff,Prod.mk.injEq] at x
  obtain ⟨vs,hvs,rfl,_⟩:=x
  show dy _ vs=true
  rw [dh]
  intro y hy
  have : ∀ (rs:List ResultVar) (vs:List Value),rs.mapM (fun r=>dK P r e h')=some vs → ∀ y∈vs,cU h'.next y=true:=by
   intro rs
   induction rs with
   |nil=>intro vs hvs y hy;simp at hvs;subst hvs;cases hy
   |cons r rs ih=>
    intro vs hvs y hy
    simp only [List.mapM_cons,Option.bind_eq_bind,Option.bind_eq_some_iff,Option.pure_def,Option.some.injEq] at hvs
    obtain ⟨a,ha,b,hb2,rfl⟩:=hvs
    rcases List.mem_cons.1 hy with rfl|hy
    ·exact resultA_bd hb he ha
    ·exact ih b hb2 y hy
  exact this _ _ hvs y hy
theorem bodyA_grow (hC:bH P C) {fn:Func} {args:List Value} {h h':ak} {v:Value} (he:bodyA P C fn args h=some (v,h')):cz h h':=by
 unfold bodyA at he
 split at he
 ·cases he
 ·rename_i c hb
  cases hc:aL P C c (args++List.replicate (fn.ntmps-args.length) undef) h with
  |none=>rw [hc] at he;cases he
  |some y=>
   obtain ⟨ex,e1,h2⟩:=y
   rw [hc] at he
   have hgrow:ax P fn.results.toList e1 h2=some (v,h'):=by
    cases ex with
    |normal=>exact he
    |ret=>exact he
    |exit i=>cases he
   rw [resultsA_grow hgrow]
   exact cB hC c hc
theorem bodyA_bd (hC:bH P C) {fn:Func} {args:List Value} {h h':ak} {v:Value} (hok:fnOk P fn=true) (hg:P.globals.size≤h.n0) (he:bodyA P C fn args h=some (v,h')) (hba:dy h.next args=true) (hbh:bc h) :
  cU h'.next v=true∧bc h':=by
 unfold bodyA at he
 split at he
 ·cases he
 ·rename_i c hb
  have hco:cL P c=true:=by
   unfold fnOk at hok
   rw [hb] at hok
   simp only [Bool.and_eq_true] at hok
   exact hok.2
  cases hc:aL P C c (args++List.replicate (fn.ntmps-args.length) undef) h with
  |none=>rw [hc] at he;cases he
  |some y=>
   obtain ⟨ex,e1,h2⟩:=y
   rw [hc] at he
   have hr:ax P fn.results.toList e1 h2=some (v,h'):=by
    cases ex with
    |normal=>exact he
    |ret=>exact he
    |exit i=>cases he
   obtain ⟨h3,h4⟩:=dB hC c hco hg (dq hba (dh.2 fun x hx=>by rw [List.eq_of_mem_replicate hx];rfl)) hbh hc
   exact resultsA_bd h4 h3 hr
end
def bare (P:Program):ak:=⟨P.globals.size,fun _=>none,.nil,0⟩
theorem bare_get (P:Program) (b:Nat):(bare P).get b=none:=by
 unfold ak.get bare
 simp only [Nat.add_zero]
 split
 ·rfl
 ·rfl
theorem dG.closed {P:Program} {C:av} (hC:bH P C) {f:FuncId} {v:Value} (hv:flat v=true) (hr : ∃ h1,C f [] (bare P)=some (v,h1)) :
  dG P f fun args h=>match args with | []=>some (v,h)|_=>none:=by
 obtain ⟨h1,hr⟩:=hr
 have hbd : ∀ n,cU n v=true:=fun n=>bdV_flat hv
 refine ⟨hC.fn _ _ _ _ _ hr,?_,?_,?_⟩
 ·intro args h v' h' e
  cases args with
  |nil=>cases e;exact cz.refl _
  |cons=>cases e
 ·intro args h v' h' e _ hb
  cases args with
  |nil=>cases e;exact ⟨hbd _,hb⟩
  |cons=>cases e
 ·intro args h v' h' e _ hbh hg μ w args' S hfr r
  cases args with
  |cons=>cases e
  |nil=>
   cases e
   have ha:args' = []:=List.length_eq_zero_iff.1 r.1.symm
   subst ha
   have S0:de (μ.cut P.globals.size) (bare P) w:=by
    refine ⟨?_,?_,?_,Nat.le_trans hg S.size,?_⟩
    ·intro b cs _ hc;cases hc
    ·intro b k _ hk;rw [bare_get] at hk;cases hk
    ·intro b b' k k' L L' _ _ _ hk;rw [bare_get] at hk;cases hk
    ·intro b hb
     obtain ⟨L,h2,h3⟩:=S.low b (Nat.lt_of_lt_of_le hb hg)
     exact ⟨L,Mu.cut_some h2 hb,h3⟩
   have hno : ∀ B,¬Own (μ.cut P.globals.size) (bare P) B:=by
    rintro B ⟨b,k,L,_,hk,_⟩
    rw [bare_get] at hk;cases hk
   refine (hC.run _ _ _ _ _ hr rfl (fun b k hk=>by rw [bare_get] at hk;cases hk) (Nat.le_refl _) (μ.cut P.globals.size) w [] S0
    (fun b hb _=>by
     have : ¬b<P.globals.size:=Nat.not_lt.2 hb
     simp [Mu.cut,this]) (bp.nil _)).mono ?_
   rintro e w' ⟨μ1,v1,rfl,S1,St,hv1⟩
   have same : ∀ (B:Nat) (x:Obj),w.heap[B]? = some x→w'.heap[B]? = some x:=by
    intro B x hx
    rw [St.same B (Array.getElem?_eq_some_iff.1 hx).1 (hno B)];exact hx
   refine ⟨μ,v1,rfl,⟨?_,?_,S.inj,Nat.le_trans S.size St.size,S.low⟩,⟨fun _ _=>rfl,rfl,rfl,Nat.le_refl _,St.os,St.tape,St.output,St.size,fun B hB _=>St.same B hB (hno B),fun B hB => .inl hB⟩,?_⟩
   ·intro b cs hb hc
    obtain ⟨L,arr,T,fr,h2,h3,h4,h5,h6⟩:=S.bm b cs hb hc
    exact ⟨L,arr,T,fr,h2,h3,h4,same _ _ h5,h6⟩
   ·intro b k hb hk
    obtain ⟨L,arr,T,fr,h2,h3,h4,h5⟩:=S.new b k hb hk
    exact ⟨L,arr,T,fr,h2,h3,same _ _ h4,h5⟩
   ·rw [hv1.cI hv];exact .flat hv
end Go.Abs

namespace Go.Abs
inductive VT where
 |nil
 |node (l:VT) (v:Value) (r:VT)
noncomputable def pick3 {α:Type} (n:Nat) (a b c:α):α:=
 Bool.rec (motive:=fun _=>α) (Bool.rec (motive:=fun _=>α) c b (Nat.beq (n%2) 1)) a (Nat.beq n 0)
theorem pick3_eq {α:Type} (n:Nat) (a b c:α):pick3 n a b c=if n=0 then a else if n%2=1 then b else c:=by
 unfold pick3
 cases h:Nat.beq n 0 with
 |true=>rw [if_pos (Nat.eq_of_beq_eq_true h)]
 |false=>
  rw [if_neg (Nat.ne_of_beq_eq_false h)]
  cases h2:Nat.beq (n%2) 1 with
  |true=>rw [if_pos (Nat.eq_of_beq_eq_true h2)]
  |false=>rw [if_neg (Nat.ne_of_beq_eq_false h2)]
noncomputable def VT.get (t:VT):Nat→Value:=
 VT.rec (motive:=fun _=>Nat→Value) (fun _=>undef) (fun _ v _ il ir n=>pick3 n v (il (n/2)) (ir (n/2-1))) t
noncomputable def VT.set (t:VT):Nat→Value→VT:=
 VT.rec (motive:=fun _=>Nat→Value→VT) (fun _ _ => .nil) (fun l x r il ir n v=>pick3 n (.node l v r) (.node (il (n/2) v) x r) (.node l x (ir (n/2-1) v))) t
noncomputable def VT.of (d:Nat):(Nat→Value)→VT:=
 Nat.rec (motive:=fun _=>(Nat→Value)→VT) (fun _ => .nil) (fun _ ih f => .node (ih fun i=>f (2*i+1)) (f 0) (ih fun i=>f (2*i+2))) d
def VT.has:VT→Nat→Prop
 | .nil,_=>False
 | .node l _ r,n=>if n=0 then True else if n%2=1 then l.has (n/2) else r.has (n/2-1)
theorem VT.get_node (l:VT) (v:Value) (r:VT) (n:Nat):(VT.node l v r).get n=if n=0 then v else if n%2=1 then l.get (n/2) else r.get (n/2-1):=pick3_eq ..
theorem VT.set_node (l:VT) (x:Value) (r:VT) (n:Nat) (v:Value):(VT.node l x r).set n v=if n=0 then .node l v r else if n%2=1 then .node (l.set (n/2) v) x r else .node l x (r.set (n/2-1) v):=pick3_eq ..
theorem VT.of_succ (d:Nat) (f:Nat→Value):VT.of (d+1) f = .node (VT.of d fun i=>f (2*i+1)) (f 0) (VT.of d fun i=>f (2*i+2)):=rfl
theorem VT.get_set : ∀ (t:VT) (n:Nat) (v:Value) (m:Nat),t.has n→(t.set n v).get m=if m=n then v else t.get m
 | .nil,n,v,m,h=>h.elim
 | .node l x r,n,v,m,h=>by
   rw [VT.set_node]
   simp only [VT.has] at h
   by_cases h0:n=0
   ·subst h0
    rw [if_pos rfl,VT.get_node,VT.get_node]
    by_cases hm:m=0
    ·simp [hm]
    ·simp [hm]
   ·rw [if_neg h0] at h ⊢
    by_cases h1:n%2=1
    ·rw [if_pos h1] at h ⊢
     rw [VT.get_node,VT.get_node]
     by_cases hm:m=0
     ·subst hm;rw [if_pos rfl,if_pos rfl,if_neg (fun h=>h0 h.symm)]
     ·rw [if_neg hm,if_neg hm]
      by_cases hm1:m%2=1
      ·rw [if_pos hm1,if_pos hm1,VT.get_set l _ v _ h]
       by_cases e:m=n
       ·subst e;simp
       ·rw [if_neg e,if_neg (by omega)]
      ·rw [if_neg hm1,if_neg hm1,if_neg (by omega)]
    ·rw [if_neg h1] at h ⊢
     rw [VT.get_node,VT.get_node]
     by_cases hm:m=0
     ·subst hm;rw [if_pos rfl,if_pos rfl,if_neg (fun h=>h0 h.symm)]
     ·rw [if_neg hm,if_neg hm]
      by_cases hm1:m%2=1
      ·rw [if_pos hm1,if_pos hm1,if_neg (by omega)]
      ·rw [if_neg hm1,if_neg hm1,VT.get_set r _ v _ h]
       by_cases e:m=n
       ·subst e;simp
       ·rw [if_neg e,if_neg (by omega)]
theorem VT.has_set : ∀ (t:VT) (n:Nat) (v:Value) (m:Nat),(t.set n v).has m↔t.has m
 | .nil,n,v,m=>Iff.rfl
 | .node l x r,n,v,m=>by
   rw [VT.set_node]
   by_cases h0:n=0
   ·rw [if_pos h0];exact Iff.rfl
   ·rw [if_neg h0]
    by_cases h1:n%2=1
    ·rw [if_pos h1]
     simp only [VT.has]
     by_cases hm:m=0
     ·simp [hm]
     ·rw [if_neg hm,if_neg hm]
      split
      ·exact VT.has_set l ..
      ·exact Iff.rfl
    ·rw [if_neg h1]
     simp only [VT.has]
     by_cases hm:m=0
     ·simp [hm]
     ·rw [if_neg hm,if_neg hm]
      split
      ·exact Iff.rfl
      ·exact VT.has_set r ..
theorem VT.of_spec : ∀ (d:Nat) (f:Nat→Value) (i:Nat),i+1<2^d→(VT.of d f).has i∧(VT.of d f).get i=f i
 | 0,f,i,h=>by simp at h
 |d+1,f,i,h=>by
  rw [VT.of_succ,VT.get_node]
  simp only [VT.has]
  by_cases h0:i=0
  ·subst h0;simp
  ·rw [if_neg h0,if_neg h0]
   have h2:2^(d+1)=2*2^d:=by rw [Nat.pow_succ];omega
   by_cases h1:i%2=1
   ·rw [if_pos h1,if_pos h1]
    obtain ⟨a,b⟩:=VT.of_spec d (fun i=>f (2*i+1)) (i/2) (by omega)
    exact ⟨a,by rw [b];congr 1;omega⟩
   ·rw [if_neg h1,if_neg h1]
    obtain ⟨a,b⟩:=VT.of_spec d (fun i=>f (2*i+2)) (i/2-1) (by omega)
    exact ⟨a,by rw [b];congr 1;omega⟩
structure Rep (n:Nat) (t:VT) (e:Env):Prop where
 len:e.length=n
 at_ : ∀ i,i<n→t.has i∧t.get i=e.getD i undef
noncomputable def treeOf (n:Nat) (e:List Value):VT:=VT.of (Nat.log2 n+2) fun i=>e.getD i undef
theorem rep_of (e:Env):Rep e.length (treeOf e.length e) e:=by
 refine ⟨rfl,fun i hi=>VT.of_spec _ _ _ ?_⟩
 have h1:e.length<2^(Nat.log2 e.length+1):=Nat.lt_log2_self
 rw [Nat.pow_succ]
 omega
theorem rep_args (n:Nat) (args:List Value) (h:args.length≤n):Rep n (treeOf n args) (args++List.replicate (n-args.length) undef):=by
 refine ⟨by simp;omega,fun i hi => ?_⟩
 have h1:n<2^(Nat.log2 n+1):=Nat.lt_log2_self
 obtain ⟨a,b⟩:=VT.of_spec (Nat.log2 n+2) (fun i=>args.getD i undef) i (by rw [Nat.pow_succ];omega)
 refine ⟨a,?_⟩
 unfold treeOf
 rw [b]
 rw [List.getD_eq_getElem?_getD,List.getD_eq_getElem?_getD]
 by_cases hl:i<args.length
 ·rw [List.getElem?_append_left hl]
 ·rw [List.getElem?_append_right (by omega),List.getElem?_eq_none (by omega),List.getElem?_replicate]
  split<;>rfl
noncomputable def toL (n:Nat) (t:VT):Env:=(List.range n).map t.get
theorem Rep.toL {n:Nat} {t:VT} {e:Env} (r:Rep n t e):toL n t=e:=by
 apply List.ext_getElem?
 intro i
 unfold Abs.toL
 rw [List.getElem?_map]
 by_cases hi:i<n
 ·rw [List.getElem?_range hi,Option.map_some,(r.at_ i hi).2]
  have:i<e.length:=by rw [r.len];exact hi
  simp [List.getElem?_eq_getElem this]
 ·have : ¬i<e.length:=by rw [r.len];exact hi
  rw [List.getElem?_eq_none (by simpa using hi),List.getElem?_eq_none (by omega)];rfl
noncomputable def setT (n:Nat) (t:VT) (d:Option Tmp) (v:Value):VT:=
 match d with
 |some i=>match Nat.blt i n with
  |true=>t.set i v
  |false=>t
 |none=>t
theorem Rep.put {n:Nat} {t:VT} {e:Env} (r:Rep n t e) (d:Option Tmp) (v:Value):Rep n (setT n t d v) (eG e d v):=by
 cases d with
 |none=>exact r
 |some i=>
  unfold setT eG
  simp only
  cases hb:Nat.blt i n with
  |true=>
   have hi:i<n:=by simpa using hb
   refine ⟨by simp [r.len],fun j hj=>⟨(VT.has_set ..).2 (r.at_ j hj).1,?_⟩⟩
   simp only
   rw [VT.get_set _ _ _ _ (r.at_ i hi).1,(r.at_ j hj).2,List.getD_eq_getElem?_getD,List.getD_eq_getElem?_getD,List.getElem?_set]
   by_cases e:j=i
   ·subst e;simp [r.len,hj]
   ·rw [if_neg e,if_neg (fun h=>e h.symm)]
  |false=>
   have hi : ¬i<n:=by
    intro h
    rw [show Nat.blt i n=true by simpa using h] at hb;cases hb
   have:e.set i v=e:=List.set_eq_of_length_le (by rw [r.len];exact Nat.le_of_not_lt hi)
   rw [this];exact r
noncomputable def evT (n:Nat) (t:VT):Operand→Value
 | .tmp i=>match Nat.blt i n with
   |true=>t.get i
   |false=>undef
 | .const v=>v
 | .global g=>ptr g 0
 | .func f => .func (.func f) #[] #[]
theorem Rep.ev {n:Nat} {t:VT} {e:Env} (r:Rep n t e):ev e=evT n t:=by
 funext x
 cases x with
 |tmp i=>
  simp only [Abs.ev,evT]
  cases hb:Nat.blt i n with
  |true=>
   have hi:i<n:=by simpa using hb
   exact ((r.at_ i hi).2).symm
  |false=>
   have hi : ¬i<n:=by
    intro h
    rw [show Nat.blt i n=true by simpa using h] at hb;cases hb
   rw [List.getD_eq_getElem?_getD,List.getElem?_eq_none (by rw [r.len];exact Nat.le_of_not_lt hi)];rfl
 |_=>rfl
noncomputable def yieldT (n:Nat) (ops:Array Oper) (t:VT) (j:Nat):Option Bool:=
 match (ops[j]?).bind (·.dst) with
 |some i=>match Nat.blt i n with
  |true=>aH (t.get i)
  |false=>none
 |none=>none
theorem Rep.yield {n:Nat} {t:VT} {e:Env} (r:Rep n t e) (ops:Array Oper) (j:Nat):fH ops e j=yieldT n ops t j:=by
 unfold fH yieldT
 cases (ops[j]?).bind (·.dst) with
 |none=>rfl
 |some i=>
  simp only [Option.bind_some]
  cases hb:Nat.blt i n with
  |true=>
   have hi:i<n:=by simpa using hb
   have:i<e.length:=by rw [r.len];exact hi
   rw [(r.at_ i hi).2,List.getD_eq_getElem?_getD,List.getElem?_eq_getElem this]
   simp only [Option.getD_some]
   cases e[i]<;>rfl
  |false=>
   have hi : ¬i<n:=by
    intro h
    rw [show Nat.blt i n=true by simpa using h] at hb;cases hb
   rw [List.getElem?_eq_none (by rw [r.len];exact Nat.le_of_not_lt hi)]
section
variable {α:Type} (P:Program) (C:av) (n:Nat)
noncomputable def opsF (ops:Array Oper) (os:List Oper):VT→ak→(VT→ak→Option α)→Option α:=
 List.rec (motive:=fun _=>VT→ak→(VT→ak→Option α)→Option α) (fun t h k=>k t h)
  (fun o _ ih t h k=>
   match o.guard with
   |none=>ae (opA P C o (evT n t) h) fun v h'=>ih (setT n t o.dst v) h' k
   |some (j,b7)=>ae (al (yieldT n ops t j==some b7) (opA P C o (evT n t) h) h) fun v h'=>ih (setT n t o.dst v) h' k) os
theorem opsF_sound (ops:Array Oper) : ∀ (os:List Oper) {t:VT} {e:Env} {h:ak} {k:VT→ak→Option α} {a:α},Rep n t e→opsF P C n ops os t h k=some a →
  ∃ e' h' t',opsA P C ops os e h=some (e',h')∧Rep n t' e'∧k t' h'=some a
 | [],t,e,h,k,a,r,he=>⟨e,h,t,rfl,r,he⟩
 |o::os,t,e,h,k,a,r,he=>by
  have ih := @opsF_sound ops os
  have he:(match o.guard with
   |none=>ae (opA P C o (evT n t) h) fun v h'=>opsF P C n ops os (setT n t o.dst v) h' k
   |some (j,b7)=>ae (al (yieldT n ops t j==some b7) (opA P C o (evT n t) h) h) fun v h'=>opsF P C n ops os (setT n t o.dst v) h' k)=some a:=he
  unfold opsA stepA wantA
  cases hg:o.guard with
  |none=>
   rw [hg] at he
   simp only [if_true] at he ⊢
   rw [r.ev]
   cases ho:opA P C o (evT n t) h with
   |none=>rw [ho] at he;cases he
   |some x=>
    obtain ⟨v,h'⟩:=x
    rw [ho] at he
    obtain ⟨e',h2,t',h3,h4,h5⟩:=ih (r.put o.dst v) he
    exact ⟨e',h2,t',h3,h4,h5⟩
  |some g=>
   obtain ⟨j,b7⟩:=g
   rw [hg] at he
   simp only at he ⊢
   rw [←r.yield] at he
   by_cases hy:(fH ops e j==some b7)=true
   ·rw [hy] at he
    rw [if_pos hy,r.ev]
    simp only [al] at he
    cases ho:opA P C o (evT n t) h with
    |none=>rw [ho] at he;cases he
    |some x=>
     obtain ⟨v,h'⟩:=x
     rw [ho] at he
     obtain ⟨e',h2,t',h3,h4,h5⟩:=ih (r.put o.dst v) he
     exact ⟨e',h2,t',h3,h4,h5⟩
   ·rw [if_neg hy]
    rw [Bool.not_eq_true] at hy
    rw [hy] at he
    simp only [al,ae] at he
    obtain ⟨e',h2,t',h3,h4,h5⟩:=ih (r.put o.dst undef) he
    exact ⟨e',h2,t',h3,h4,h5⟩
noncomputable def regionF (ops:Array Oper) (draw:Bool) (t:VT) (h:ak) (k:VT→ak→Option α):Option α:=
 match draw with
 |false=>opsF P C n ops ops.toList t h k
 |true=>match lateOk P ops with
  |true=>opsF P C n ops ((late P ops).map (·.2)) t h k
  |false=>match cR P C ops true (toL n t) h with
   |some (e',h')=>k (treeOf n e') h'
   |none=>none
theorem regionF_sound (ops:Array Oper) (draw:Bool) {t:VT} {e:Env} {h:ak} {k:VT→ak→Option α} {a:α} (r:Rep n t e) (he:regionF P C n ops draw t h k=some a) :
  ∃ e' h' t',cR P C ops draw e h=some (e',h')∧Rep n t' e'∧k t' h'=some a:=by
 unfold regionF at he
 cases draw with
 |false=>exact opsF_sound P C n ops _ r he
 |true=>
  simp only at he
  cases hl:lateOk P ops with
  |true=>
   rw [hl] at he
   obtain ⟨e',h',t',h1,h2,h3⟩:=opsF_sound P C n ops _ r he
   refine ⟨e',h',t',?_,h2,h3⟩
   unfold cR
   have hl2:=hl
   unfold lateOk at hl
   rw [Bool.and_eq_true] at hl
   rw [if_pos rfl,if_pos hl.1]
   rw [←trace_ops] at h1
   cases ht:cO P C ops (late P ops) e h with
   |none=>rw [ht] at h1;cases h1
   |some x=>
    obtain ⟨tr,e2,h4⟩:=x
    rw [ht] at h1
    cases h1
    simp only
    rw [if_pos (dynTriv_ok hl.2 tr h')]
  |false=>
   rw [hl] at he
   simp only at he
   rw [r.toL] at he
   cases hr:cR P C ops true e h with
   |none=>rw [hr] at he;cases he
   |some x=>
    obtain ⟨e',h'⟩:=x
    rw [hr] at he
    have hlen:e'.length=n:=by
     rw [←r.len]
     unfold cR at hr
     rw [if_pos rfl] at hr
     split at hr
     ·split at hr
      ·rename_i tr e2 h2 ht
       split at hr
       ·cases hr
        have h1:opsA P C ops ((late P ops).map (·.2)) e h=some (e',h'):=by rw [←trace_ops,ht];rfl
        have : ∀ (os:List Oper) (e:Env) (h:ak) (e':Env) (h':ak),opsA P C ops os e h=some (e',h')→e'.length=e.length:=by
         intro os
         induction os with
         |nil=>intro e h e' h' he;simp only [opsA,Option.some.injEq,Prod.mk.injEq] at he;rw [he.1]
         |cons o os ih=>
          intro e h e' h' he
          simp only [opsA] at he
          split at he
          ·rename_i e1 h1 hs
           have h2:=ih _ _ _ _ he
           rw [h2]
           unfold stepA at hs
           split at hs
           ·split at hs
            ·cases hs;exact length_putD ..
            ·cases hs
           ·cases hs;exact length_putD ..
          ·cases he
        exact this _ _ _ _ _ h1
       ·cases hr
      ·cases hr
     ·cases hr
    refine ⟨e',h',treeOf n e',rfl,?_,he⟩
    subst hlen;exact rep_of e'
noncomputable def condF (v:Value) (a b:Option α):Option α:=
 match v with
 | .bool true=>a
 | .bool false=>b
 |_=>none
noncomputable def leave (id i:Nat) (k x:Option α):Option α:=Bool.rec (motive:=fun _=>Option α) x k (Nat.beq i id)
noncomputable def loopF (b:VT→ak→(VT→ak→Option α)→Option α) (fuel:Nat):VT→ak→Option α:=
 Nat.rec (motive:=fun _=>VT→ak→Option α) (fun _ _=>none) (fun _ ih t h=>b t h ih) fuel
noncomputable def codeF (fuel:Nat) (c:Code):VT→ak→(VT→ak→Option α)→(VT→ak→Option α)→(Nat→VT→ak→Option α)→Option α:=
 Code.rec (motive:=fun _=>VT→ak→(VT→ak→Option α)→(VT→ak→Option α)→(Nat→VT→ak→Option α)→Option α)
  (fun t h k _ _=>k t h)
  (fun _ ops draw t h k _ _=>regionF P C n ops draw t h k)
  (fun _ _ ia ib t h k r x=>ia t h (fun t' h'=>ib t' h' k r x) r x)
  (fun q _ _ ia ib t h k r x=>condF (evT n t q) (ia t h k r x) (ib t h k r x))
  (fun id _ ib t h k r x=>ib t h k r (fun i t' h'=>leave id i (k t' h') (x i t' h')))
  (fun _ ib t h _ r x=>loopF (fun t h k=>ib t h k r x) fuel t h)
  (fun _ _ _ _ _ _ _ _ _ _ _=>none)
  (fun i t h _ _ x=>x i t h)
  (fun _ ib t h k r x=>ib t h k r x)
  (fun _ t h k _ _=>k t h)
  (fun _ _ _ _ _ _=>none)
  (fun t h _ r _=>r t h)
  (fun _ _ _ _ _ _=>none) c
def Came (a:α) (k r:VT→ak→Option α) (x:Nat→VT→ak→Option α) (ex:Ex) (t:VT) (h:ak):Prop:=
 match ex with
 | .normal=>k t h=some a
 | .ret=>r t h=some a
 | .exit i=>x i t h=some a
theorem dJ (fuel:Nat) (hfuel:fuel≤rounds) : ∀ (c:Code) {t:VT} {e:Env} {h:ak} {k r:VT→ak→Option α} {x:Nat→VT→ak→Option α} {a:α},Rep n t e→codeF P C n fuel c t h k r x=some a →
  ∃ ex e' h' t',aL P C c e h=some (ex,e',h')∧Rep n t' e'∧Came a k r x ex t' h'
 | .skip,t,e,h,k,r,x,a,hr,he=>⟨.normal,e,h,t,rfl,hr,he⟩
 | .region _ ops d,t,e,h,k,r,x,a,hr,he=>by
   obtain ⟨e',h',t',h1,h2,h3⟩:=regionF_sound P C n ops d hr he
   exact ⟨.normal,e',h',t',by simp only [aL,h1],h2,h3⟩
 | .seq c d,t,e,h,k,r,x,a,hr,he=>by
   obtain ⟨ex,e',h',t',h1,h2,h3⟩:=dJ fuel hfuel c (k:=fun t' h'=>codeF P C n fuel d t' h' k r x) hr he
   cases ex with
   |normal=>
    obtain ⟨ex2,e2,h4,t2,h5,h6,h7⟩:=dJ fuel hfuel d h2 h3
    exact ⟨ex2,e2,h4,t2,by simp only [aL,h1];exact h5,h6,h7⟩
   |ret=>exact ⟨.ret,e',h',t',by simp only [aL,h1],h2,h3⟩
   |exit i=>exact ⟨.exit i,e',h',t',by simp only [aL,h1],h2,h3⟩
 | .cond q c d,t,e,h,k,r,x,a,hr,he=>by
   have he:condF (evT n t q) (codeF P C n fuel c t h k r x) (codeF P C n fuel d t h k r x)=some a:=he
   unfold condF at he
   unfold aL
   rw [hr.ev]
   split at he
   ·rename_i hv;rw [hv];exact dJ fuel hfuel c hr he
   ·rename_i hv;rw [hv];exact dJ fuel hfuel d hr he
   ·cases he
 | .block id b,t,e,h,k,r,x,a,hr,he=>by
   obtain ⟨ex,e',h',t',h1,h2,h3⟩:=dJ fuel hfuel b (x:=fun i t' h'=>leave id i (k t' h') (x i t' h')) hr he
   cases ex with
   |normal=>exact ⟨.normal,e',h',t',by simp only [aL,h1],h2,h3⟩
   |ret=>exact ⟨.ret,e',h',t',by simp only [aL,h1],h2,h3⟩
   |exit i=>
    simp only [Came,leave] at h3
    cases hb:Nat.beq i id with
    |true=>
     rw [hb] at h3
     exact ⟨.normal,e',h',t',by simp only [aL,h1];rw [if_pos (Nat.eq_of_beq_eq_true hb)],h2,h3⟩
    |false=>
     rw [hb] at h3
     exact ⟨.exit i,e',h',t',by simp only [aL,h1];rw [if_neg (Nat.ne_of_beq_eq_false hb)],h2,h3⟩
 | .loop b,t,e,h,k,r,x,a,hr,he=>by
   have he:loopF (fun t h k=>codeF P C n fuel b t h k r x) fuel t h=some a:=he
   have main : ∀ (f m:Nat) (t:VT) (e:Env) (h:ak),f≤m→Rep n t e→loopF (fun t h k=>codeF P C n fuel b t h k r x) f t h=some a →
     ∃ ex e' h' t',iter (aL P C b) m e h=some (ex,e',h')∧Rep n t' e'∧ex ≠ .normal∧Came a k r x ex t' h':=by
    intro f
    induction f with
    |zero=>intro m t e h _ _ he;cases he
    |succ f ih=>
     intro m t e h hm hr he
     obtain ⟨m,rfl⟩ : ∃ m',m=m'+1:=⟨m-1,by omega⟩
     obtain ⟨ex,e',h',t',h1,h2,h3⟩:=dJ fuel hfuel b (k:=fun t h=>loopF (fun t h k=>codeF P C n fuel b t h k r x) f t h) hr he
     cases ex with
     |normal=>
      obtain ⟨ex2,e2,h4,t2,h5,h6,h7⟩:=ih m t' e' h' (by omega) h2 h3
      exact ⟨ex2,e2,h4,t2,by simp only [iter,h1];exact h5,h6,h7⟩
     |ret=>exact ⟨.ret,e',h',t',by simp only [iter,h1],h2,by simp,h3⟩
     |exit i=>exact ⟨.exit i,e',h',t',by simp only [iter,h1],h2,by simp,h3⟩
   obtain ⟨ex,e',h',t',h1,h2,h3,h4⟩:=main fuel rounds t e h hfuel hr he
   refine ⟨ex,e',h',t',h1,h2,h4⟩
 | .exit i,t,e,h,k,r,x,a,hr,he=>⟨.exit i,e,h,t,rfl,hr,he⟩
 | .scope b,t,e,h,k,r,x,a,hr,he=>by
   have:=dJ fuel hfuel b hr he
   exact this
 | .label _,t,e,h,k,r,x,a,hr,he=>⟨.normal,e,h,t,rfl,hr,he⟩
 | .ret,t,e,h,k,r,x,a,hr,he=>⟨.ret,e,h,t,rfl,hr,he⟩
 | .goto _,t,e,h,k,r,x,a,hr,he=>by cases he
 | .rangeFunc ..,t,e,h,k,r,x,a,hr,he=>by cases he
 | .refuse _,t,e,h,k,r,x,a,hr,he=>by cases he
end
noncomputable def resT (P:Program) (n:Nat) (rs:List ResultVar) (t:VT) (h:ak):Out:=ax P rs (toL n t) h
noncomputable def bodyF (P:Program) (C:av) (fuel:Nat) (fn:Func) (args:List Value) (h:ak):Out:=
 match fn.body with
 |none=>none
 |some c=>match Nat.ble args.length fn.ntmps with
  |true=>codeF P C fn.ntmps fuel c (treeOf fn.ntmps args) h (resT P fn.ntmps fn.results.toList) (resT P fn.ntmps fn.results.toList) (fun _ _ _=>none)
  |false=>none
theorem bodyF_sound (P:Program) (C:av) (fuel:Nat) (hfuel:fuel≤rounds) {fn:Func} {args:List Value} {h:ak} {a:Value×ak} (he:bodyF P C fuel fn args h=some a):bodyA P C fn args h=some a:=by
 unfold bodyF at he
 unfold bodyA
 cases hb:fn.body with
 |none=>rw [hb] at he;cases he
 |some c=>
  rw [hb] at he
  simp only at he ⊢
  cases hn:Nat.ble args.length fn.ntmps with
  |false=>rw [hn] at he;cases he
  |true=>
   rw [hn] at he
   obtain ⟨ex,e',h',t',h1,h2,h3⟩:=dJ P C fn.ntmps fuel hfuel c (rep_args _ args (Nat.le_of_ble_eq_true hn)) he
   rw [h1]
   cases ex with
   |normal=>simp only [Came,resT] at h3;rw [h2.toL] at h3;exact h3
   |ret=>simp only [Came,resT] at h3;rw [h2.toL] at h3;exact h3
   |exit i=>cases h3
noncomputable def callF (P:Program) (ok:FuncId→Bool) (X:av) (sm:FuncId→Bool) (fuel:Nat) (k:Nat):av:=
 Nat.rec (motive:=fun _=>av) (fun _ _ _=>none)
  (fun _ ih f args h=>
   match sm f with
   |true=>X f args h
   |false=>match ok f with
    |true=>match Nat.ble P.globals.size h.n0 with
     |true=>match P.funcs[f]? with
      |some fn=>bodyF P ih fuel fn args h
      |none=>none
     |false=>none
    |false=>none) k
theorem callF_sound {P:Program} {ok:FuncId→Bool} {X:av} {sm:FuncId→Bool} {fuel:Nat} (hX:bH P X) (hfuel:fuel≤rounds) (hm:P.follows .mixedOrders=true) (hok : ∀ f fn,ok f=true→P.funcs[f]? = some fn→fnOk P fn=true) :
  ∀ k,bH P (callF P ok X sm fuel k)
 | 0=>⟨(by intro f args h v h' e;cases e),(by intro f args h v h' e;cases e),(by intro f args h v h' e;cases e),(by intro f args h v h' e;cases e)⟩
 |k+1=>by
  have ih:=callF_sound (sm:=sm) hX hfuel hm hok k
  have key : ∀ {f args h v h'},callF P ok X sm fuel (k+1) f args h=some (v,h')→X f args h=some (v,h') ∨ ∃ fn,P.funcs[f]? = some fn∧fnOk P fn=true∧P.globals.size≤h.n0∧bodyA P (callF P ok X sm fuel k) fn args h=some (v,h'):=by
   intro f args h v h' he
   have he:(match sm f with
   |true=>X f args h
   |false=>match ok f with
    |true=>match Nat.ble P.globals.size h.n0 with
     |true=>match P.funcs[f]? with
      |some fn=>bodyF P (callF P ok X sm fuel k) fuel fn args h
      |none=>none
     |false=>none
    |false=>none)=some (v,h'):=he
   cases h0:sm f with
   |true=>rw [h0] at he;exact .inl he
   |false=>
    rw [h0] at he
    cases h1:ok f with
    |false=>rw [h1] at he;cases he
    |true=>
     rw [h1] at he
     cases h2:Nat.ble P.globals.size h.n0 with
     |false=>rw [h2] at he;cases he
     |true=>
      rw [h2] at he
      cases h3:P.funcs[f]? with
      |none=>simp only [h3] at he;cases he
      |some fn=>
       simp only [h3] at he
       exact .inr ⟨fn,rfl,hok f fn h1 h3,Nat.le_of_ble_eq_true h2,bodyF_sound P _ fuel hfuel he⟩
  refine ⟨?_,?_,?_,?_⟩
  ·intro f args h v h' he
   rcases key he with h0|⟨fn,h1,h2,h3,h4⟩
   ·exact hX.fn _ _ _ _ _ h0
   unfold fnOk at h2
   rw [Bool.and_eq_true,Bool.not_eq_true'] at h2
   refine ⟨fn,h1,h2.1,?_⟩
   cases hb:fn.body with
   |none=>rw [hb] at h2;exact absurd h2.2 (by simp)
   |some c=>rfl
  ·intro f args h v h' he
   rcases key he with h0|⟨fn,h1,h2,h3,h4⟩
   ·exact hX.grow _ _ _ _ _ h0
   exact bodyA_grow ih h4
  ·intro f args h v h' he hba hbh
   rcases key he with h0|⟨fn,h1,h2,h3,h4⟩
   ·exact hX.bd _ _ _ _ _ h0 hba hbh
   exact bodyA_bd ih h2 h3 h4 hba hbh
  ·intro f args h v h' he hba hbh hg μ w args' S hfr r
   rcases key he with h0|⟨fn,h1,h2,h3,h4⟩
   ·exact hX.run _ _ _ _ _ h0 hba hbh hg μ w args' S hfr r
   cases hb:fn.body with
   |none=>unfold bodyA at h4;rw [hb] at h4;cases h4
   |some c=>
    have hco:cL P c=true:=by
     unfold fnOk at h2
     rw [hb] at h2
     simp only [Bool.and_eq_true] at h2
     exact h2.2
    exact body_sound ih hm h1 hb hco h4 hg hba hbh S hfr r
end Go.Abs

namespace Go.Abs
def dw (n:Nat) (Inv:Nat→(Nat→Value)→ak→Prop) (fin:Ex→(Nat→Value)→ak→Prop) (k:Nat) (o:Option (Ex×Env×ak)):Prop:=
 ∃ ex x' h',o=some (ex,aX n x',h')∧((ex = .normal ∧ ∃ j,j<k∧Inv j x' h')∨(ex ≠ .normal∧fin ex x' h'))
def Fin (n:Nat) (fin:Ex→(Nat→Value)→ak→Prop) (o:Option (Ex×Env×ak)):Prop := ∃ ex x' h',o=some (ex,aX n x',h')∧fin ex x' h'
section
variable {n:Nat} {Inv:Nat→(Nat→Value)→ak→Prop} {fin:Ex→(Nat→Value)→ak→Prop} {k:Nat}
theorem dw.next {x':Nat→Value} {h':ak} (j:Nat) (hj:j<k) (hi:Inv j x' h'):dw n Inv fin k (some (.normal,aX n x',h')):=⟨_,_,_,rfl,.inl ⟨rfl,j,hj,hi⟩⟩
theorem dw.out {x':Nat→Value} {h':ak} (i:Nat) (hi:fin (.exit i) x' h'):dw n Inv fin k (some (.exit i,aX n x',h')):=⟨_,_,_,rfl,.inr ⟨by simp,hi⟩⟩
theorem dw.ret {x':Nat→Value} {h':ak} (hi:fin .ret x' h'):dw n Inv fin k (some (.ret,aX n x',h')):=⟨_,_,_,rfl,.inr ⟨by simp,hi⟩⟩
theorem cn {P:Program} {C:av} {b:Code} {T:(Nat→Value)→ak→Option (Ex×Env×ak)} (hT : ∀ x h,aL P C b (aX n x) h=T x h)
  (hs : ∀ k x h,Inv k x h→dw n Inv fin k (T x h)) {x:Nat→Value} {h:ak} (k:Nat) (hk:k<rounds) (hi:Inv k x h):Fin n fin (iter (aL P C b) rounds (aX n x) h):=
 loop_inv hT hs hk hi
theorem cy {α:Type} {Q:Option α→Prop} {o:Option (Ex×Env×ak)} {r:Env→ak→Option α} {x:Nat→Env→ak→Option α} (f:Fin n fin o)
  (h : ∀ ex x' h',fin ex x' h'→Q (ei (some (ex,aX n x',h')) r x)):Q (ei o r x):=by
 obtain ⟨ex,x',h',rfl,hf⟩:=f
 exact h ex x' h' hf
end
theorem fv {P:Program} {rs:List ResultVar} {n t:Nat} (hr:rs = [.tmp t]) (ht:t<n) (x:Nat→Value) (h:ak):ax P rs (aX n x) h=some (x t,h):=by
 subst hr
 have:(aX n x).getD t undef=x t:=by
  unfold aX
  rw [List.getD_eq_getElem?_getD,List.getElem?_map,List.getElem?_range ht];rfl
 simp only [ax,dK,Option.map_some,this]
end Go.Abs

namespace Go.Proofs.YtjghlcdidopcpaaGreatDoor
open Go Go.Abs
def Zl:List Value := [(.int .u8 0),(.int .i64 0),(.int .i64 0),(.int .u64 0),(.int .i64 0),(.int .i64 0),(.slice none 0 0),(.slice none 0 0),(.slice none 0 0),(.int .i64 0),(.int .u8 0),(.int .u8 0),(.int .u8 0),(.int .u8 0),(.int .u8 0),(.int .u8 0),(.int .u8 0),(.int .u8 0),(.int .u8 0),(.int .u8 0),(.int .u8 0),(.int .u8 0),(.int .u8 0),(.int .u8 0),(.int .u8 0),(.int .u8 0),(.int .u8 0),(.int .u8 0),(.int .u8 0),(.int .u8 0),(.int .u8 0),(.int .u8 0),(.int .u8 0),(.int .u8 0),(.int .u8 0),(.int .u8 0),(.int .u8 0),(.int .u8 0),(.int .u8 0),(.int .u8 0),(.int .u8 0),(.int .u8 0),(.slice none 0 0),(.bool false),(.int .u8 0),(.int .u8 0),(.int .u8 0),(.int .u8 0),(.int .u8 0),(.int .u8 0),(.int .u8 0),(.int .u8 0),(.int .u8 0),(.int .u8 0),(.int .u8 0),(.int .u8 0),(.int .u8 0),(.int .u8 0),(.int .u8 0),(.int .u8 0),(.int .u8 0),(.int .u8 0),(.int .u8 0),(.int .u8 0),(.int .u8 0),(.int .u8 0),(.int .u8 0),(.int .u8 0),(.int .u8 0),(.int .u8 0),(.int .u8 0),(.int .u8 0),(.int .u8 0),(.int .u8 0),(.int .u8 0),(.int .u8 0),(.int .i64 0),(.int .i64 0),(.int .i64 0),(.int .i64 0),(.int .u8 0),(.int .u8 0),(.int .u8 0),(.int .u8 0),(.int .u8 0),(.int .u8 0),(.int .u8 0),(.int .u8 0),(.int .u8 0),(.int .u8 0),(.int .u8 0),(.int .u8 0),(.int .u8 0),(.int .u8 0),(.int .u8 0),(.int .u8 0),(.int .u8 0),(.int .u8 0),(.int .u8 0),(.int .u8 0),(.int .u8 0),(.int .u8 0),(.int .u8 0),(.int .u8 0),(.int .u8 0),(.int .u8 0),(.int .u8 0),(.int .u8 0),(.int .u8 0),(.int .u8 0),(.int .u8 0),(.int .u8 0),(.slice none 0 0),(.int .i64 0),(.slice none 0 0),(.int .i64 0)]
end Go.Proofs.YtjghlcdidopcpaaGreatDoor

namespace Go.Abs
theorem cH {α:Type} {P:Program} {C:av} {n:Nat} {b a c:Code} {kE rE:Env→ak→Option α} {xE:Nat→Env→ak→Option α} (hb:b = .seq a c) (kN:Env→ak→Option α) (hk:kN=fun e h=>br P C c e h kE rE xE) {T:(Nat→Value)→ak→Option α}
  (hT : ∀ x h,startB P C n (aX n x) a h kN rE xE=T x h) (x:Nat→Value) (h:ak):br P C b (aX n x) h kE rE xE=T x h:=by
 subst hb
 subst hk
 unfold br
 exact bq (b:=a) hT x h
end Go.Abs

namespace Go.Proofs.YtjghlcdidopcpaaGreatDoor
open Go Go.Abs
end Go.Proofs.YtjghlcdidopcpaaGreatDoor

