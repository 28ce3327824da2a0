/-
  A part of the proof, spaces and names shortened by a program (a claim may hold 1,500,000 bytes).
  Conditions: as each theorem states.
-/
import Derived.Test.YtjghlcdidopcpaaGreatDoorG11
import Derived.OpenShut
namespace Go.Proofs.YtjghlcdidopcpaaGreatDoor
open Go Go.Abs
open Go.ChangeShapes Go.WideShapes Go.ChangeAt Go.RowKit
theorem Typed.app {ks ls:List Kd} {a b:List Value} (x:Typed ks a) (y:Typed ls b):Typed (ks++ls) (a++b):=by
 refine ⟨by rw [List.length_append,List.length_append,x.1,y.1],fun j k hk => ?_⟩
 by_cases hj:j<ks.length
 ·rw [List.getElem?_append_left hj] at hk
  obtain ⟨v,h1,h2⟩:=x.2 j k hk
  exact ⟨v,by rw [List.getElem?_append_left (by rw [x.1];exact hj)];exact h1,h2⟩
 ·rw [List.getElem?_append_right (by omega)] at hk
  obtain ⟨v,h1,h2⟩:=y.2 _ k hk
  exact ⟨v,by rw [List.getElem?_append_right (by rw [x.1];omega),x.1];exact h1,h2⟩
theorem Typed.one {k:Kd} {v:Value} (h:k.has v):Typed [k] [v]:=⟨rfl,fun j t ht=>by
 cases j with
 |zero=>cases ht;exact ⟨v,rfl,h⟩
 |succ j=>cases ht⟩
def Pc (ks:List Kd) (o:Nat) (cs:List Value):Prop:=Typed ks ((cs.drop o).take ks.length)
theorem Pc.app {ks ls:List Kd} {o:Nat} {cs:List Value} (x:Pc ks o cs) (y:Pc ls (o+ks.length) cs):Pc (ks++ls) o cs:=by
 unfold Pc at *
 rw [List.length_append,List.take_add,List.drop_drop]
 exact x.app y
theorem Pc.whole {ks:List Kd} {cs:List Value} (x:Pc ks 0 cs) (h:cs.length=ks.length):Typed ks cs:=by
 unfold Pc at x
 rw [List.drop_zero,←h,List.take_length] at x
 exact x
theorem clean_nice {n:Nat} {v:Value} (h:nice n v=true):clean n v=v:=by unfold clean;rw [if_pos h]
theorem Kd.has.clean {k:Kd} {v:Value} (h:k.has v) (n:Nat):clean n v=v:=by
 cases k with
 |u8=>obtain ⟨m,rfl,_⟩:=h;rfl
 |i k=>obtain ⟨m,rfl,_⟩:=h;rfl
 |b=>obtain ⟨t,rfl⟩:=h;rfl
theorem Typed.clean {ks:List Kd} {cs:List Value} (h:Typed ks cs) (n:Nat):cs.map (clean n)=cs:=by
 refine List.ext_getElem? fun j => ?_
 rw [List.getElem?_map]
 by_cases hj:j<ks.length
 ·obtain ⟨v,h1,h2⟩:=h.2 j _ (List.getElem?_eq_getElem hj)
  rw [h1,Option.map_some,h2.clean]
 ·rw [List.getElem?_eq_none (by rw [h.1];omega)];rfl
theorem u8_lit {n:Int} (h:(Lit.int .u8 n).wf=true) : ∃ m:Nat,n=m∧m<256:=by
 simp [Lit.wf,IntKind.min,IntKind.max,IntKind.signed,IntKind.bits] at h
 exact ⟨n.toNat,by omega,by omega⟩
theorem clean_slice {W:World} {a:Addr} {len cap:Nat} (hlc:len≤cap) (hc:0<cap→a.spot=none∧a.block<W.heap.size) :
  isHole (clean W.heap.size (.slice (some a) len cap))=false ∧ ∃ a' ,clean W.heap.size (.slice (some a) len cap) = .slice (some a') len cap∧(0<cap→a'=a):=by
 obtain ⟨b,off,s⟩:=a
 by_cases h0:0<cap
 ·obtain ⟨h1,h2⟩:=hc h0
  have h1':s=none:=h1
  have h2':b<W.heap.size:=h2
  subst h1'
  have hn:nice W.heap.size (.slice (some ⟨b,off,none⟩) len cap)=true:=by simpa [nice] using h2'
  rw [clean_nice hn]
  exact ⟨rfl,_,rfl,fun _=>rfl⟩
 ·obtain rfl:cap=0:=by omega
  obtain rfl:len=0:=by omega
  by_cases hn:nice W.heap.size (.slice (some ⟨b,off,s⟩) 0 0)=true
  ·rw [clean_nice hn]
   exact ⟨rfl,_,rfl,fun h=>absurd h h0⟩
  ·have:clean W.heap.size (.slice (some ⟨b,off,s⟩) 0 0) = .slice (some ⟨0,0,some 0⟩) 0 0:=by unfold clean;rw [if_neg hn];rfl
   rw [this]
   exact ⟨rfl,_,rfl,fun h=>absurd h h0⟩
theorem add_block (a:Addr) (n:Nat):(a.add n).block=a.block:=by unfold Addr.add;split<;>rfl
theorem add_off (a:Addr) (n:Nat):(a.add n).off=a.off+n:=by
 unfold Addr.add
 split
 ·rename_i h;rw [h];rfl
 ·rfl
section
variable {H:Type} {enc:TypeId×Value→H} {W:World} {base:Nat} {held:Bool}
def Reads (enc:TypeId×Value→H) (W:World) (base:Nat) (held:Bool) (t:TypeId) (ks:List Kd):Prop:=
 ∀ fuel cs x,DataW.trod enc Tryz.prog W base (fun _=>true) held fuel t cs=some x→Typed ks cs
theorem reads_u8 {t:TypeId} (ht:Tryz.prog.underlying t=some (.int .u8)):Reads enc W base held t [.u8]:=fun fuel cs x h=>by
 obtain ⟨n,rfl,_,w⟩:=DataW.trod_int ht h
 obtain ⟨m,rfl,hm⟩:=u8_lit w
 exact .one ⟨m,rfl,hm⟩
theorem fld {fuel:Nat} {t:TypeId} {cs:List Value} {x:DataW H×List MemPlace} {fs:Array Field} (ht:Tryz.prog.underlying t=some (.struct fs)) (h:DataW.trod enc Tryz.prog W base (fun _=>true) held fuel t cs=some x) {i z:Nat} {f:Field} (hf:fs[i]? = some f) (hz:Tryz.prog.cellsOf f.type=z) :
  ∃ m y,DataW.trod enc Tryz.prog W base (fun _=>true) held m f.type ((cs.drop f.offset).take z)=some y:=by
 obtain ⟨xs,n,rfl,_,_,hl,h2⟩:=DataW.trod_struct ht h
 have:=h2 i f hf
 rw [List.getElem?_eq_getElem (by rw [hl];exact (Array.getElem?_eq_some_iff.1 hf).1),hz] at this
 exact ⟨_,_,this⟩
theorem piece {fuel:Nat} {t:TypeId} {cs:List Value} {x:DataW H×List MemPlace} {fs:Array Field} (ht:Tryz.prog.underlying t=some (.struct fs)) (h:DataW.trod enc Tryz.prog W base (fun _=>true) held fuel t cs=some x) {i:Nat} {f:Field} {ks:List Kd} (hf:fs[i]? = some f) (hz:Tryz.prog.cellsOf f.type=ks.length)
  (R:Reads enc W base held f.type ks):Pc ks f.offset cs:=by
 obtain ⟨m,y,e⟩:=fld ht h hf hz
 exact R _ _ _ e
theorem sl_of {t e:TypeId} {ks:List Kd} (ht:Tryz.prog.underlying t=some (.slice e)) (he:Tryz.prog.cellsOf e=ks.length) (hz:0<ks.length) (R:Reads enc W base held e ks) {fuel:Nat} {v:Value} {x:DataW H×List MemPlace}
  (h:DataW.trod enc Tryz.prog W base (fun _=>true) held fuel t [v]=some x):isHole (clean W.heap.size v)=false ∧ ∃ n cs,dh (fh W (view W)) ks (clean W.heap.size v) n cs:=by
 have nilT:dV ks 0 []:=⟨by simp,fun i hi=>absurd hi (Nat.not_lt_zero i)⟩
 rcases DataW.trod_slice ht h with ⟨h1,_⟩|⟨a,len,cap,elems,rest,n,_,h1,_,_,hlc,hcm,hl,hel,hsp,_⟩
 ·cases h1
  exact ⟨rfl,0,[],none,0,rfl,fun _=>rfl,nilT,fun h=>absurd h (Nat.lt_irrefl 0)⟩
 ·cases h1
  rw [he] at hel hsp
  have hpos:0<cap→a.spot=none∧a.block<W.heap.size:=by
   intro h0
   have key : ∃ cs,W.cells? base (a.add (0*ks.length)) ks.length=some cs:=by
    by_cases hlen:0<len
    ·have:=hel 0 hlen
     rw [List.getElem?_eq_getElem (by omega),Option.bind_eq_some_iff] at this
     obtain ⟨cs,hc,_⟩:=this
     exact ⟨cs,hc⟩
    ·have:=(hsp rfl).2 0 (by omega)
     rw [List.getElem?_eq_getElem (by rw [(hsp rfl).1];omega),Option.bind_eq_some_iff] at this
     obtain ⟨cs,hc,_⟩:=this
     obtain rfl:len=0:=by omega
     exact ⟨cs,hc⟩
   obtain ⟨cs,hc⟩:=key
   obtain ⟨_,hlen,hcell⟩:=World.cells?_some hc
   have g:=hcell 0 hz
   obtain ⟨c0,hc0⟩ : ∃ c0,cs[0]? = some c0:=⟨cs[0],List.getElem?_eq_getElem (by omega)⟩
   rw [hc0,Nat.zero_mul] at g
   have g:W.cell? a=some c0:=g
   obtain ⟨e1,e2,_⟩:=view_cell g
   exact ⟨e1,e2⟩
  obtain ⟨g1,a',g2,g3⟩:=clean_slice (W:=W) hlc hpos
  refine ⟨g1,len,?_⟩
  by_cases h0:len=0
  ·subst h0
   exact ⟨[],_,_,g2,fun _=>rfl,nilT,fun h=>absurd h (Nat.lt_irrefl 0)⟩
  have ha:=g3 (by omega)
  subst ha
  have each : ∀ i,i<len → ∃ k es,view W a'.block=some k∧Typed ks es ∧ ∀ j,j<ks.length→k[a'.off+i*ks.length+j]? = es[j]? := by
   intro i hi
   have h2:=hel i hi
   rw [List.getElem?_eq_getElem (by omega),Option.bind_eq_some_iff] at h2
   obtain ⟨es,hc,ht⟩:=h2
   have ty:=R _ _ _ ht
   obtain ⟨_,hlen,hcell⟩:=World.cells?_some hc
   have vc : ∀ j,j<ks.length → ∃ k,view W a'.block=some k∧k[a'.off+i*ks.length+j]? = es[j]? := by
    intro j hj
    obtain ⟨u,h3,h4⟩:=ty.2 j _ (List.getElem?_eq_getElem hj)
    have g:=hcell j hj
    rw [h3] at g
    obtain ⟨_,_,k,hk,hc2⟩:=view_cell g
    rw [add_block,add_block] at hk
    rw [add_off,add_off,h4.clean] at hc2
    exact ⟨k,hk,by rw [hc2,h3]⟩
   obtain ⟨k,hk,_⟩:=vc 0 hz
   refine ⟨k,es,hk,ty,fun j hj => ?_⟩
   obtain ⟨k',hk',e⟩:=vc j hj
   rw [hk] at hk'
   cases hk'
   exact e
  obtain ⟨k,_,hk,_⟩:=each 0 (by omega)
  have each : ∀ i,i<len → ∃ es,Typed ks es ∧ ∀ j,j<ks.length→k[a'.off+i*ks.length+j]? = es[j]? := fun i hi=>by
   obtain ⟨k',es,hk',h1,h2⟩:=each i hi
   rw [hk] at hk'
   cases hk'
   exact ⟨es,h1,h2⟩
  have hlen:a'.off+len*ks.length≤k.length:=by
   obtain ⟨es,ty,e⟩:=each (len-1) (by omega)
   have:=e (ks.length-1) (by omega)
   obtain ⟨u,hu,_⟩:=ty.2 (ks.length-1) _ (List.getElem?_eq_getElem (by omega))
   rw [hu] at this
   have:=(List.getElem?_eq_some_iff.1 this).1
   have h9:len*ks.length=(len-1)*ks.length+ks.length:=by
    conv=>lhs;rw [show len=(len-1)+1 by omega,Nat.add_mul,Nat.one_mul]
   omega
  refine ⟨(k.drop a'.off).take (len*ks.length),_,_,g2,fun h=>(by cases h),⟨by rw [List.length_take,List.length_drop];omega,fun i hi => ?_⟩,fun _=>⟨a'.block,a'.off,a'.spot,k,rfl,by rw [view_get];exact hk,hlen,rfl⟩⟩
  obtain ⟨es,ty,e⟩:=each i hi
  have hm:=mul_le (z:=ks.length) hi
  have:(((k.drop a'.off).take (len*ks.length)).drop (i*ks.length)).take ks.length=es:=by
   refine List.ext_getElem? fun j => ?_
   rw [List.getElem?_take]
   by_cases hj:j<ks.length
   ·rw [if_pos hj,List.getElem?_drop,List.getElem?_take,if_pos (by omega),List.getElem?_drop,←e j hj,Nat.add_assoc]
   ·rw [if_neg hj,List.getElem?_eq_none (by rw [ty.1];omega)]
  rw [this]
  exact ty
end
end Go.Proofs.YtjghlcdidopcpaaGreatDoor

namespace Go.Proofs.YtjghlcdidopcpaaGreatDoor
open Go Go.Abs
open Go.ChangeShapes Go.WideShapes Go.ChangeAt Go.RowKit
theorem cut (l:List Value) (n:Nat) (h:n≤l.length) : ∃ a b,l=a++b∧a.length=n∧b.length=l.length-n:=
 ⟨l.take n,l.drop n,(List.take_append_drop n l).symm,by rw [List.length_take];omega,by rw [List.length_drop]⟩
section
variable {H:Type} {enc:TypeId×Value→H} {W:World} {base:Nat} {held:Bool}
theorem rd5:Reads enc W base held 5 [.u8]:=reads_u8 Tryz.underlying5
theorem sl22 {fuel:Nat} {v:Value} {x:DataW H×List MemPlace} (h:DataW.trod enc Tryz.prog W base (fun _=>true) held fuel 22 [v]=some x):isHole (clean W.heap.size v)=false ∧ ∃ n cs,dh (fh W (view W)) [.u8] (clean W.heap.size v) n cs:=sl_of Tryz.underlying22 (ks := [.u8]) (by kernel_rfl) (by decide) rd5 h
end
end Go.Proofs.YtjghlcdidopcpaaGreatDoor

namespace Go.Proofs.YtjghlcdidopcpaaGreatDoor
open Go Go.Abs
open Go.ChangeShapes Go.WideShapes Go.ChangeAt Go.RowKit
@[ext] structure eC where
  inc:Nat
  st:Nat
@[ext] structure bK where
  kind:Nat
  obj:List Nat
  dq:Int
  inc:Nat
  num:Nat
  held:Bool
  k:Int
  n:Int
@[ext] structure aO where
  kind:Nat
  from_:Int
  to_:Int
  seq:Nat
  origin:Int
  target:Int
  count:Int
  root:List Nat
  want:Bool
  obj:List Nat
  gk:Int
  gn:Int
  gt:Int
  gs:Int
  dk:List Nat
  cN:Int
  code:Int
  table:List eC
  low:List Nat
  high:List Nat
  cp:List bK
  pieces:List (List Nat)
  data:List Nat
abbrev bP (l:List Nat):List Value:=l.map u8
def di (m:eC):List Value := [.int .u64 (m.inc:Int),.int .u8 (m.st:Int)]
def recC (r:bK):List Value := .int .u8 (r.kind:Int)::(bP r.obj ++ [.int .i64 r.dq,.int .u64 (r.inc:Int),.int .u64 (r.num:Int),.bool r.held,.int .i64 r.k,.int .i64 r.n])
def aO.d (m:aO):bV:=⟨m.kind,m.from_,m.to_,m.seq,m.origin,m.target,m.count,bP m.root,m.want,bP m.obj,m.gk,m.gn,m.gt,m.gs,bP m.dk,m.cN,m.code,m.table.flatMap di,bP m.low,bP m.high,m.cp.flatMap recC,m.pieces.flatMap bP,bP m.data⟩
def aO.n (m:aO):N6:=⟨m.table.length,m.low.length,m.high.length,m.cp.length,m.pieces.length,m.data.length⟩
def I64 (n:Int):Prop := -9223372036854775808≤n∧n≤9223372036854775807
def Bys (l:List Nat):Prop := ∀ x∈l,x<256
def D32 (l:List Nat):Prop:=l.length=32∧Bys l
structure eC.Wf (m:eC):Prop where
 inc:m.inc<18446744073709551616
 st:m.st<256
structure bK.Wf (r:bK):Prop where
 kind:r.kind<256
 obj:D32 r.obj
 dq:I64 r.dq
 inc:r.inc<18446744073709551616
 num:r.num<18446744073709551616
 k:I64 r.k
 n:I64 r.n
structure aO.Wf (m:aO):Prop where
 kind:m.kind<256
 from_:I64 m.from_
 to_:I64 m.to_
 seq:m.seq<18446744073709551616
 origin:I64 m.origin
 target:I64 m.target
 count:I64 m.count
 root:D32 m.root
 obj:D32 m.obj
 gk:I64 m.gk
 gn:I64 m.gn
 gt:I64 m.gt
 gs:I64 m.gs
 dk:D32 m.dk
 cN:I64 m.cN
 code:I64 m.code
 table : ∀ x∈m.table,x.Wf
 low:Bys m.low
 high:Bys m.high
 cp : ∀ x∈m.cp,x.Wf
 pieces : ∀ x∈m.pieces,D32 x
 data:Bys m.data
theorem wf_i64 {n:Int}:(Lit.int .i64 n).wf=true↔I64 n:=by
 unfold I64
 simp [Lit.wf,IntKind.min,IntKind.max,IntKind.signed,IntKind.bits]
theorem wf_u64' {m:Nat} (h:m<18446744073709551616):(Lit.int .u64 (m:Int)).wf=true:=by
 simp [Lit.wf,IntKind.min,IntKind.max,IntKind.signed,IntKind.bits]
 omega
theorem c9 {l:List Nat} (h:D32 l):Typed dQ (bP l):=by
 refine ⟨by rw [List.length_map];exact h.1,fun j k hk => ?_⟩
 have hj:j<32:=by
  have:=(List.getElem?_eq_some_iff.1 hk).1
  simpa [dQ] using this
 unfold dQ at hk
 rw [List.getElem?_replicate,if_pos hj] at hk
 cases hk
 have hj':j<l.length:=by rw [h.1];exact hj
 exact ⟨_,by rw [List.getElem?_map,List.getElem?_eq_getElem hj'];rfl,_,rfl,h.2 _ (List.getElem_mem hj')⟩
theorem mem_typed {m:eC} (h:m.Wf):Typed memK (di m):=
 (Typed.one (k := .i .u64) ⟨_,rfl,wf_u64' h.inc⟩).app (Typed.one (k := .u8) ⟨_,rfl,h.st⟩)
theorem fP {r:bK} (h:r.Wf):Typed recK (recC r):=
 (Typed.one (k := .u8) ⟨_,rfl,h.kind⟩).app ((c9 h.obj).app ((Typed.one (k := .i .i64) ⟨_,rfl,wf_i64.2 h.dq⟩).app ((Typed.one (k := .i .u64) ⟨_,rfl,wf_u64' h.inc⟩).app ((Typed.one (k := .i .u64) ⟨_,rfl,wf_u64' h.num⟩).app
  ((Typed.one (k := .b) ⟨_,rfl⟩).app ((Typed.one (k := .i .i64) ⟨_,rfl,wf_i64.2 h.k⟩).app (Typed.one (k := .i .i64) ⟨_,rfl,wf_i64.2 h.n⟩)))))))
theorem list_of {ks:List Kd} {α:Type} {f:α→List Value} {P:α→Prop} (hf : ∀ xs,Typed ks xs → ∃ a,xs=f a∧P a) : ∀ (n:Nat) (cs:List Value),dV ks n cs → ∃ l:List α,l.length=n∧cs=l.flatMap f ∧ ∀ a∈l,P a
 | 0,cs,h=>⟨[],rfl,by
   have:cs.length=0:=by rw [h.1,Nat.zero_mul]
   exact List.length_eq_zero_iff.1 this,fun a ha=>by cases ha⟩
 |n+1,cs,h=>by
  have hl:cs.length=(n+1)*ks.length:=h.1
  have h0:=h.2 0 (by omega)
  rw [Nat.zero_mul,List.drop_zero] at h0
  obtain ⟨a,ha,pa⟩:=hf _ h0
  have hl2:(cs.drop ks.length).length=n*ks.length:=by rw [List.length_drop,hl,Nat.add_mul];omega
  obtain ⟨l,q1,q2,q3⟩:=list_of hf n (cs.drop ks.length) ⟨hl2,fun i hi=>by
   have:=h.2 (i+1) (by omega)
   rw [List.drop_drop,show ks.length+i*ks.length=(i+1)*ks.length by rw [Nat.add_mul];omega]
   exact this⟩
  refine ⟨a::l,by simp [q1],?_,fun b hb => ?_⟩
  ·rw [List.flatMap_cons,←ha,←q2,List.take_append_drop]
  ·rcases List.mem_cons.1 hb with rfl|hb
   ·exact pa
   ·exact q3 b hb
theorem cY {ks:List Kd} {α:Type} {f:α→List Value} {P:α→Prop} (hf : ∀ a,P a→Typed ks (f a)) : ∀ (l:List α),(∀ a∈l,P a)→dV ks l.length (l.flatMap f)
 | [],_=>⟨by simp,fun i hi=>absurd hi (Nat.not_lt_zero i)⟩
 |a::l,h=>by
  have ih:=cY hf l (fun b hb=>h b (List.mem_cons_of_mem _ hb))
  have ha:=hf a (h a (List.mem_cons_self ..))
  have hl:(f a).length=ks.length:=ha.1
  refine ⟨by rw [List.flatMap_cons,List.length_append,ih.1,hl,List.length_cons,Nat.add_mul];omega,fun i hi => ?_⟩
  rw [List.flatMap_cons]
  cases i with
  |zero=>rw [Nat.zero_mul,List.drop_zero,←hl,List.take_left];exact ha
  |succ i=>
   have hi':i<l.length:=by simpa using hi
   rw [show (i+1)*ks.length=(f a).length+i*ks.length by rw [Nat.add_mul,hl];omega,List.drop_length_add_append]
   exact ih.2 i hi'
theorem byte_of {xs:List Value} (h:Typed [.u8] xs) : ∃ b:Nat,xs = [u8 b]∧b<256:=by
 have hl:xs.length=1:=h.1
 match xs,hl with
 | [v],_=>
   obtain ⟨_,h1,a,rfl,ha⟩:=h.2 0 .u8 rfl
   cases h1
   exact ⟨a,rfl,ha⟩
theorem flat_one (l:List Nat):l.flatMap (fun b => [u8 b])=bP l:=by
 induction l with
 |nil=>rfl
 |cons x l ih=>rw [List.flatMap_cons,ih];rfl
theorem bytes_of_typed {n:Nat} {cs:List Value} (h:dV [.u8] n cs) : ∃ l:List Nat,l.length=n∧cs=bP l∧Bys l:=by
 obtain ⟨l,h1,h2,h3⟩:=list_of (f:=fun b => [u8 b]) (P:=fun b=>b<256) (fun xs hx=>byte_of hx) n cs h
 exact ⟨l,h1,by rw [h2,flat_one],h3⟩
theorem bytes_typed {l:List Nat} (h:Bys l):dV [.u8] l.length (bP l):=by
 have:=cY (ks := [.u8]) (f:=fun b => [u8 b]) (P:=fun b=>b<256) (fun b hb=>Typed.one (k := .u8) ⟨b,rfl,hb⟩) l h
 rwa [flat_one] at this
theorem aO.ok {m:aO} (h:m.Wf):m.d.Ok:=⟨c9 h.root,c9 h.obj,c9 h.dk⟩
theorem u8s_inj {a b:List Nat} (h:bP a=bP b):a=b:=List.map_inj_right (fun x y e=>by have e:(Value.int .u8 (x:Int)) = .int .u8 (y:Int):=e;simp only [Value.int.injEq,true_and] at e;omega) |>.1 h
theorem flat_inj {α:Type} {f:α→List Value} {P:α→Prop} {z:Nat} (hz:0<z) (hl : ∀ a,P a→(f a).length=z) (hi : ∀ a b,P a→P b→f a=f b→a=b) : ∀ (l l':List α),(∀ a∈l,P a)→(∀ a∈l',P a)→l.flatMap f=l'.flatMap f→l=l'
 | [],[],_,_,_=>rfl
 | [],b::l',_,h2,e=>by
   have:=congrArg List.length e
   rw [List.flatMap_cons,List.length_append,hl b (h2 b (List.mem_cons_self ..))] at this
   simp at this
   omega
 |a::l,[],h1,_,e=>by
  have:=congrArg List.length e
  rw [List.flatMap_cons,List.length_append,hl a (h1 a (List.mem_cons_self ..))] at this
  simp at this
  omega
 |a::l,b::l',h1,h2,e=>by
  rw [List.flatMap_cons,List.flatMap_cons] at e
  have pa:=h1 a (List.mem_cons_self ..)
  have pb:=h2 b (List.mem_cons_self ..)
  obtain ⟨e1,e2⟩:=List.append_inj e (by rw [hl a pa,hl b pb])
  rw [hi a b pa pb e1,flat_inj hz hl hi l l' (fun x hx=>h1 x (List.mem_cons_of_mem _ hx)) (fun x hx=>h2 x (List.mem_cons_of_mem _ hx)) e2]
theorem memC_inj {a b:eC} (h:di a=di b):a=b:=by
 unfold di at h
 simp only [List.cons.injEq,Value.int.injEq,true_and,and_true] at h
 exact eC.ext (by omega) (by omega)
theorem recC_inj {a b:bK} (ha:a.obj.length=32) (hb:b.obj.length=32) (h:recC a=recC b):a=b:=by
 unfold recC at h
 rw [List.cons.injEq] at h
 obtain ⟨h1,h2⟩:=h
 obtain ⟨h3,h4⟩:=List.append_inj h2 (by simp [bP,ha,hb])
 simp only [List.cons.injEq,Value.int.injEq,Value.bool.injEq,true_and,and_true] at h1 h4
 obtain ⟨q1,q2,q3,q4,q5,q6⟩:=h4
 exact bK.ext (by omega) (u8s_inj h3) q1 (by omega) (by omega) q4 q5 q6
theorem aO.d_inj {a b:aO} (wa:a.Wf) (wb:b.Wf) (h:a.d=b.d):a=b:=by
 unfold aO.d at h
 rw [bV.mk.injEq] at h
 obtain ⟨h1,h2,h3,h4,h5,h6,h7,h8,h9,h10,h11,h12,h13,h14,h15,h16,h17,h18,h19,h20,h21,h22,h23⟩:=h
 exact aO.ext (by omega) h2 h3 (by omega) h5 h6 h7 (u8s_inj h8) h9 (u8s_inj h10) h11 h12 h13 h14 (u8s_inj h15) h16 h17
  (flat_inj (P:=fun _=>True) (z:=2) (by decide) (fun _ _=>rfl) (fun _ _ _ _ e=>memC_inj e) _ _ (fun _ _=>trivial) (fun _ _=>trivial) h18) (u8s_inj h19) (u8s_inj h20)
  (flat_inj (P:=bK.Wf) (z:=39) (by decide) (fun r hr=>by unfold recC bP;simp [hr.obj.1]) (fun _ _ ha hb e=>recC_inj ha.obj.1 hb.obj.1 e) _ _ wa.cp wb.cp h21)
  (flat_inj (P:=D32) (z:=32) (by decide) (fun l hl=>by simp [bP,hl.1]) (fun _ _ _ _ e=>u8s_inj e) _ _ wa.pieces wb.pieces h22) (u8s_inj h23)
end Go.Proofs.YtjghlcdidopcpaaGreatDoor

namespace Go.Proofs.YtjghlcdidopcpaaGreatDoor
open Go Go.Abs
attribute [local congr] aU
theorem eql_bool (a b:Bool):bin Tryz.prog .eql 4 (.bool a) (.bool b)=some (.bool (a==b)):=by cases a<;>cases b<;>kernel_rfl
theorem bx (C:au) (f:Nat) (args:List Value) (h:aj):callA Tryz.prog C (.func (.func f) #[] #[]) args h=C f args h:=by
 simp [callA]
abbrev mv (m:aO) (s:cR):Value := .agg (m.d.cells s).toArray
abbrev gv (m:aO) (s:cR):Value := .agg (m.d.eM s).toArray
structure Has (h:aj) (s:cR) (m:aO):Prop where
 sl:SlV h s m.n m.d
 wf:m.Wf
theorem Has.bA {h h':aj} {s:cR} {m:aO} (x:Has h s m) (o:Old h h'):Has h' s m:=⟨x.sl.bA o,x.wf⟩
theorem Has.bF {h h':aj} {s:cR} {m:aO} (x:Has h s m) {B:Nat→Prop} (k:Kept h h' B) (hB:s.off B):Has h' s m:=⟨x.sl.bF k hB,x.wf⟩
structure MLd (h:aj) (b:Nat) (s:cR) (m:aO):Prop where
 l0:aN (ptr b 0) h=some (.int .u8 (m.kind:Int),h)
 l1:aN (ptr b 1) h=some (.int .i64 m.from_,h)
 l2:aN (ptr b 2) h=some (.int .i64 m.to_,h)
 l3:aN (ptr b 3) h=some (.int .u64 (m.seq:Int),h)
 l4:aN (ptr b 4) h=some (.int .i64 m.origin,h)
 l5:aN (ptr b 5) h=some (.int .i64 m.target,h)
 l6:aN (ptr b 6) h=some (s.a,h)
 l7:aN (ptr b 7) h=some (s.b,h)
 l8:aN (ptr b 8) h=some (s.c,h)
 l9:aN (ptr b 9) h=some (.int .i64 m.count,h)
 cj:bD 32 (ptr b 10) h=some (.agg (bP m.root).toArray,h)
 bW:aN (ptr b 42) h=some (s.d,h)
 cw:aN (ptr b 43) h=some (.bool m.want,h)
 cu:bD 32 (ptr b 44) h=some (.agg (bP m.obj).toArray,h)
 cg:bD 37 (ptr b 76) h=some (gv m s,h)
 l112:aN (ptr b 112) h=some (s.e,h)
 aW:aN (ptr b 113) h=some (.int .i64 m.cN,h)
 aX:aN (ptr b 114) h=some (s.f,h)
 aY:aN (ptr b 115) h=some (.int .i64 m.code,h)
 all:bD 116 (ptr b 0) h=some (mv m s,h)
 g:h.get b=some (m.d.cells s)
theorem m_ld {h h0:aj} {b:Nat} {s:cR} {m:aO} (x:Has h0 s m) (g:h.get b=some (m.d.cells s)):MLd h b s m:=by
 have A:=msg_ld x.sl (aO.ok x.wf) g
 exact ⟨A.l0,A.l1,A.l2,A.l3,A.l4,A.l5,A.l6,A.l7,A.l8,A.l9,A.cj,A.bW,A.cw,A.cu,A.cg,A.l112,A.aW,A.aX,A.aY,A.all,g⟩
theorem m_box {h:aj} {s:cR} {m:aO} (x:Has h s m) : ∃ h1,box (mv m s) h=some (ptr h.next 0,h1)∧Old h h1∧Has h1 s m∧MLd h1 h.next s m∧h1.next=h.next+1∧h1=h.alloc (m.d.cells s):=by
 have o1:Old h (h.alloc (m.d.cells s)):=Kept.alloc _ _ _
 have g1:(h.alloc (m.d.cells s)).get h.next=some (m.d.cells s):=by rw [aj.aS,if_pos rfl]
 exact ⟨_,fz h _ (cP x.sl (aO.ok x.wf)).2.1,o1,x.bA o1,m_ld (x.bA o1) g1,rfl,rfl⟩
theorem Has.len {h:aj} {s:cR} {m:aO} (x:Has h s m):bG s.a=some (aH m.table.length)∧bG s.b=some (aH m.low.length)∧bG s.c=some (aH m.high.length)∧bG s.d=some (aH m.cp.length)∧bG s.e=some (aH m.pieces.length)∧bG s.f=some (aH m.data.length):=
 ⟨x.sl.a.len,x.sl.b.len,x.sl.c.len,x.sl.d.len,x.sl.e.len,x.sl.f.len⟩
def gw (i:Int):Bool:=decide (i≥0)&&decide (i<16)
def dW (k n t:Int):Bool:=decide (1≤k)&&decide (k≤n)&&decide (n≤t)&&decide (t≤255)
def memB (m:eC):Bool:=decide ((m.st:Int)≤4)&&(((m.inc:Int)==0)==((m.st:Int)==0))
def tableB (t:List eC):Bool:=decide ((t.length:Int)≥1)&&decide ((t.length:Int)≤16) && !(t.any fun m => !memB m)
def holderB (r:bK):Bool:=decide (r.dq≥0)&&decide (r.dq<16)&&decide ((r.inc:Int)≥1)
def z32:List Nat:=List.replicate 32 0
def bK.z:bK:=⟨0,z32,0,0,0,false,0,0⟩
deriving instance DecidableEq for bK
def bK.base (r:bK):bK:={ bK.z with kind:=r.kind,dq:=r.dq,inc:=r.inc }
def bK.grave (r:bK):bK:={ bK.z with kind:=r.kind,obj:=r.obj }
def pieceB (r:bK):Bool:=holderB r&&decide ((r.num:Int)≥1)&&decide (1≤r.k)&&decide (r.k≤r.n)&&decide (r.n≤255)
def recB (r:bK):Bool:=if (r.kind:Int)==1 then decide (r=r.base)&&holderB r else if (r.kind:Int)==2 then decide (r=r.grave) else if (r.kind:Int)==3 then pieceB r else false
def manBad (m:aO):Bool := !dW m.gk m.gn m.gt||decide (m.gs<0)||decide (m.gs>8192)||((m.pieces.length:Int) != m.gt)
theorem is46:bO Tryz.prog 46 Tryz.f46:=⟨by kernel_rfl,by kernel_rfl,by kernel_rfl,by kernel_rfl⟩
theorem r46 {h:aj} (hG:4≤h.n0) (i:Int):CW 46 [.int .i64 i] h=some (.bool (gw i),h):=by
 refine aF is46 hG rfl ((t46_eq _ _ _).trans ?_)
 unfold t46 gw
 cases q0:decide (i≥0) with
 |false=>simp -implicitDefEqProofs only [af, af, ak, ao, fs, ah, Bool.false_eq_true, if_false, aE, q0, Bool.false_and]
 |true=>
 cases q1:decide (i<16) with
 |false=>simp -implicitDefEqProofs only [af, af, ak, ao, beq_self_eq_true, ai, if_true, aE, aC, q0, q1, Bool.and_false]
 |true=>
 simp -implicitDefEqProofs only [af, af, ak, ao, beq_self_eq_true, ai, if_true, aE, aC, q0, q1, Bool.and_true]
theorem is148:bO Tryz.prog 148 Tryz.f148:=⟨by kernel_rfl,by kernel_rfl,by kernel_rfl,by kernel_rfl⟩
theorem r148 {h:aj} (hG:4≤h.n0) (k n t:Int):CW 148 [.int .i64 k,.int .i64 n,.int .i64 t] h=some (.bool (dW k n t),h):=by
 refine aF is148 hG rfl ((t148_eq _ _ _ _ _).trans ?_)
 unfold t148 dW
 cases q0:decide (1≤k) with
 |false=>simp -implicitDefEqProofs only [af, af, ak, ao, fs, ah, Bool.false_eq_true, if_false, aD, q0, Bool.false_and]
 |true=>
 cases q1:decide (k≤n) with
 |false=>simp -implicitDefEqProofs only [af, af, ak, ao, fs, beq_self_eq_true, ai, ah, Bool.false_eq_true, if_false, if_true, aD, q0, q1, Bool.and_false, Bool.false_and]
 |true=>
 cases q2:decide (n≤t) with
 |false=>simp -implicitDefEqProofs only [af, af, ak, ao, fs, beq_self_eq_true, ai, ah, Bool.false_eq_true, if_false, if_true, aD, q0, q1, q2, Bool.and_true, Bool.and_false, Bool.false_and]
 |true=>
 cases q3:decide (t≤255) with
 |false=>simp -implicitDefEqProofs only [af, af, ak, ao, beq_self_eq_true, ai, if_true, aD, q0, q1, q2, q3, Bool.and_true, Bool.and_false]
 |true=>
 simp -implicitDefEqProofs only [af, af, ak, ao, beq_self_eq_true, ai, if_true, aD, q0, q1, q2, q3, Bool.and_true]
theorem is147:bO Tryz.prog 147 Tryz.f147:=⟨by kernel_rfl,by kernel_rfl,by kernel_rfl,by kernel_rfl⟩
theorem is146:bO Tryz.prog 146 Tryz.f146:=⟨by kernel_rfl,by kernel_rfl,by kernel_rfl,by kernel_rfl⟩
theorem mem_box (h:aj) (m:eC) : ∃ h1,box (.agg (di m).toArray) h=some (ptr h.next 0,h1)∧Old h h1∧aN (ptr h.next 0) h1=some (.int .u64 (m.inc:Int),h1)∧aN (ptr h.next 1) h1=some (.int .u8 (m.st:Int),h1)∧bD 2 (ptr h.next 0) h1=some (.agg (di m).toArray,h1):=by
 have g1:(h.alloc (di m)).get h.next=some (di m):=by rw [aj.aS,if_pos rfl]
 exact ⟨_,fz h _ rfl,Kept.alloc _ _ _,aV g1 rfl,aV g1 rfl,ldN_at g1 (show 0+2≤2 by omega) rfl⟩
theorem r147 {h:aj} (hG:4≤h.n0) (m:eC) : ∃ h',CW 147 [.agg (di m).toArray] h=some (.bool (memB m),h')∧Old h h':=by
 obtain ⟨h1,b1,o1,l0,l1,-⟩:=mem_box h m
 refine ⟨h1,aF is147 hG rfl ((t147_eq _ _ _).trans ?_),o1⟩
 unfold t147 memB
 cases q0:decide ((m.st:Int)≤4) with
 |false=>simp -implicitDefEqProofs only [b1, l1, af, ak, ao, fs, ah, Bool.false_eq_true, if_false, al, Nat.zero_add, aD, q0, Bool.false_and]
 |true=>
 simp -implicitDefEqProofs only [b1, l0, l1, eql_bool, af, ak, ao, beq_self_eq_true, ai, if_true, al, Nat.zero_add, aD, az, q0, Bool.true_and]
theorem r146 {h:aj} (hG:4≤h.n0) (m:eC) : ∃ h',CW 146 [.agg (di m).toArray] h=some (.bool (!memB m),h')∧Old h h':=by
 obtain ⟨h1,b1,o1,-,-,l⟩:=mem_box h m
 obtain ⟨h2,e2,o2⟩:=r147 (h:=h1) (by rw [o1.n0];exact hG) m
 refine ⟨h2,aF is146 hG rfl ((t146_eq _ _ _).trans ?_),o1.trans o2⟩
 unfold t146
 simp -implicitDefEqProofs only [b1, l, e2, af, ak, av]
theorem is157:bO Tryz.prog 157 Tryz.f157:=⟨by kernel_rfl,by kernel_rfl,by kernel_rfl,by kernel_rfl⟩
theorem is145:bO Tryz.prog 145 Tryz.f145:=⟨by kernel_rfl,by kernel_rfl,by kernel_rfl,by kernel_rfl⟩
theorem results157:Tryz.f157.results.toList = [.tmp 4]:=by kernel_rfl
theorem b157_exit (C:au) (e:Env) (h:aj):b157_3 C 0 e h=k157_1 C e h:=rfl
def ixInv157 (h0:aj) (v:Value) (l:List eC) (k:Nat) (y:Nat→Value) (g:aj):Prop:=
 ∃ i,i+k=l.length∧y 0=v∧y 1 = .func (.func 146) #[] #[]∧y 7=aH l.length∧y 8=aH i∧Old h0 g∧(l.take i).any (fun m => !memB m)=false
def ixFin157 (h0:aj) (l:List eC) (ex:Ex) (y:Nat→Value) (g:aj):Prop:=
 Old h0 g∧((ex = .ret∧(∃ i:Nat,y 4=aH i)∧l.any (fun m => !memB m)=true)∨(ex = .exit 0∧l.any (fun m => !memB m)=false))
theorem el_flat157 {l:List eC} {i:Nat} {m:eC} (hw : ∀ x∈l,x.Wf) (hm:l[i]? = some m):el 2 (l.flatMap di) i=di m:=by
 have hi:=(List.getElem?_eq_some_iff.1 hm).1
 have key : ∀ (l:List eC) (i:Nat),(∀ x∈l,x.Wf)→l[i]? = some m→el 2 (l.flatMap di) i=di m:=by
  intro l
  induction l with
  |nil=>intro i _ h;cases h
  |cons a l ih=>
   intro i hw h
   have ha:(di a).length=2:=(mem_typed (hw a (List.mem_cons_self ..))).1
   cases i with
   |zero=>
    cases h
    unfold el
    rw [Nat.zero_mul,List.drop_zero,List.flatMap_cons,←ha,List.take_left]
   |succ i=>
    have h:l[i]? = some m:=h
    have:=ih i (fun x hx=>hw x (List.mem_cons_of_mem _ hx)) h
    unfold el at this ⊢
    rw [List.flatMap_cons,show (i+1)*2=(di a).length+i*2 by rw [Nat.add_mul,ha];omega,List.drop_length_add_append]
    exact this
 exact key l i hw hm
theorem ixRound157 {h0:aj} {v:Value} {l:List eC} (hG:4≤h0.n0) (x:dh h0 memK v l.length (l.flatMap di)) (hw : ∀ x∈l,x.Wf) (hl:l.length≤1000000) : ∀ k y g,ixInv157 h0 v l k y g→dd 19 (ixInv157 h0 v l) (ixFin157 h0 l) k (t157l157_1010 CW y g):=by
 rintro k y g ⟨i,hik,y0,y1,y7,y8,o,ha⟩
 unfold t157l157_1010
 by_cases hi:i<l.length
 ·obtain ⟨b,q,kb,_,a1,_,_,_,a2,_⟩:=(x.bA o).at hi
  obtain ⟨m,hm⟩ : ∃ m,l[i]? = some m:=⟨l[i],List.getElem?_eq_getElem hi⟩
  have a1:bB 2 v (aH i)=some (ptr b (q+i*2)):=a1
  have a2:bD 2 (ptr b (q+i*2)) g=some (.agg (el 2 (l.flatMap di) i).toArray,g):=a2
  rw [el_flat157 hw hm] at a2
  obtain ⟨g',e,o'⟩:=r146 (h:=g) (by rw [o.n0];exact hG) m
  have hs:(l.take (i+1)).any (fun m => !memB m) = !memB m:=by
   rw [List.take_add_one,hm,List.any_append,ha]
   simp
  simp -implicitDefEqProofs only [y8,y7,dg,y0,y1,decide_eq_true hi,af,ak,a1,a2,bx,e]
  cases hp:memB m with
  |true=>
   simp -implicitDefEqProofs only [Bool.not_true, af, ak, ee (show i+1≤9223372036854775807 by omega)]
   exact dd.next (k-1) (by omega) ⟨i+1,by omega,y0,y1,y7,rfl,o.trans o',by rw [hs,hp];rfl⟩
  |false=>
   simp -implicitDefEqProofs only [Bool.not_false]
   refine dd.ret ⟨o.trans o',.inl ⟨rfl,⟨i,rfl⟩,?_⟩⟩
   rw [List.any_eq_true]
   exact ⟨m,List.mem_of_getElem? hm,by rw [hp];rfl⟩
 ·simp -implicitDefEqProofs only [y8,y7,dg,decide_eq_false hi,af,ak]
  refine dd.out 0 ⟨o,.inr ⟨rfl,?_⟩⟩
  rw [List.take_of_length_le (by omega)] at ha
  exact ha
theorem r145 {h:aj} {v:Value} {l:List eC} (hG:4≤h.n0) (x:dh h memK v l.length (l.flatMap di)) (hw : ∀ x∈l,x.Wf) (hl:l.length≤1000000) : ∃ h',CW 145 [v,.func (.func 146) #[] #[]] h=some (.bool (l.any fun m => !memB m),h')∧Old h h':=by
 have key : ∃ j h',CW 157 [v,.func (.func 146) #[] #[]] h=some (.int .i64 j,h')∧decide (j≥0)=(l.any fun m => !memB m)∧Old h h':=by
  have k2 : ∃ j h',t157 CW v (.func (.func 146) #[] #[]) h=some (.int .i64 j,h')∧decide (j≥0)=(l.any fun m => !memB m)∧Old h h':=by
   unfold t157
   simp -implicitDefEqProofs only [af,x.len,ak]
   refine bY (Q:=fun o:Out => ∃ j h',o=some (Value.int .i64 j,h')∧decide (j≥0)=(l.any fun m => !memB m)∧Old h h') (bZ (t157l157_1010_eq CW) (ixRound157 hG x hw hl) l.length (by have:rounds=18446744073709551616:=rfl;omega)
    ⟨0,Nat.zero_add _,rfl,rfl,rfl,rfl,Kept.refl _ _,rfl⟩) ?_
   rintro ex z g ⟨o,⟨rfl,⟨i,z4⟩,ha⟩|⟨rfl,ha⟩⟩
   ·rw [dG,fG (t:=4) results157 (by decide),z4]
    exact ⟨i,g,rfl,by rw [ha];exact decide_eq_true (by omega),o⟩
   ·simp -implicitDefEqProofs only [bE,b157_exit,t157k157_1_eq]
    unfold t157k157_1
    exact ⟨-1,g,rfl,by rw [ha];rfl,o⟩
  obtain ⟨j,h',e1,e2,e3⟩:=k2
  exact ⟨j,h',aF is157 hG rfl ((t157_eq _ _ _ _).trans e1),e2,e3⟩
 obtain ⟨j,h',e1,e2,e3⟩:=key
 refine ⟨h',aF is145 hG rfl ((t145_eq _ _ _ _).trans ?_),e3⟩
 unfold t145
 simp -implicitDefEqProofs only [af,e1,aE,ak,e2]
theorem is151:bO Tryz.prog 151 Tryz.f151:=⟨by kernel_rfl,by kernel_rfl,by kernel_rfl,by kernel_rfl⟩
theorem is138:bO Tryz.prog 138 Tryz.f138:=⟨by kernel_rfl,by kernel_rfl,by kernel_rfl,by kernel_rfl⟩
theorem is137:bO Tryz.prog 137 Tryz.f137:=⟨by kernel_rfl,by kernel_rfl,by kernel_rfl,by kernel_rfl⟩
theorem bL {r:bK} (w:r.Wf):(recC r).length=39∧Abs.bH (recC r)=true∧aQ (recC r)=true:=by
 have t:=fP w
 exact ⟨t.1,t.all.1,t.all.2.1⟩
structure RLd (h:aj) (b:Nat) (r:bK):Prop where
 l0:aN (ptr b 0) h=some (.int .u8 (r.kind:Int),h)
 l1:bD 32 (ptr b 1) h=some (.agg (bP r.obj).toArray,h)
 l33:aN (ptr b 33) h=some (.int .i64 r.dq,h)
 l34:aN (ptr b 34) h=some (.int .u64 (r.inc:Int),h)
 l35:aN (ptr b 35) h=some (.int .u64 (r.num:Int),h)
 fa:aN (ptr b 36) h=some (.bool r.held,h)
 l37:aN (ptr b 37) h=some (.int .i64 r.k,h)
 l38:aN (ptr b 38) h=some (.int .i64 r.n,h)
 all:bD 39 (ptr b 0) h=some (.agg (recC r).toArray,h)
theorem r_ld {h:aj} {b:Nat} {r:bK} (w:r.Wf) (g:h.get b=some (recC r)):RLd h b r:=by
 have ho:(bP r.obj).length=32:=by rw [List.length_map];exact w.obj.1
 have hd:=(c9 w.obj).all.1
 have at_ : ∀ i v,[Value.int .i64 r.dq,.int .u64 (r.inc:Int),.int .u64 (r.num:Int),.bool r.held,.int .i64 r.k,.int .i64 r.n][i]? = some v→(recC r)[33+i]? = some v:=fun i v e=>by
  unfold recC
  rw [show 33+i=(32+i)+1 by omega,List.getElem?_cons_succ,List.getElem?_append_right (by omega),ho,Nat.add_sub_cancel_left]
  exact e
 exact ⟨aV g rfl rfl,gj g (A := [.int .u8 (r.kind:Int)]) (B:=bP r.obj) rfl rfl ho hd,aV g (at_ 0 _ rfl) rfl,aV g (at_ 1 _ rfl) rfl,aV g (at_ 2 _ rfl) rfl,aV g (at_ 3 _ rfl) rfl,aV g (at_ 4 _ rfl) rfl,aV g (at_ 5 _ rfl) rfl,
  gj g (A := []) (B:=recC r) (C := []) (by simp) rfl (bL w).1 (bL w).2.1⟩
theorem rec_box (h:aj) {r:bK} (w:r.Wf) : ∃ h1,box (.agg (recC r).toArray) h=some (ptr h.next 0,h1)∧Old h h1∧RLd h1 h.next r:=by
 have g1:(h.alloc (recC r)).get h.next=some (recC r):=by rw [aj.aS,if_pos rfl]
 exact ⟨_,fz h _ (bL w).2.2,Kept.alloc _ _ _,r_ld w g1⟩
theorem r151 {h:aj} (hG:4≤h.n0) {r:bK} (w:r.Wf) : ∃ h',CW 151 [.agg (recC r).toArray] h=some (.bool (holderB r),h')∧Old h h':=by
 obtain ⟨h1,b1,o1,A⟩:=rec_box h w
 refine ⟨h1,aF is151 hG rfl ((t151_eq _ _ _).trans ?_),o1⟩
 unfold t151 holderB
 cases q0:decide (r.dq≥0) with
 |false=>simp -implicitDefEqProofs only [b1, A.l33, af, ak, ao, fs, ah, Bool.false_eq_true, if_false, al, Nat.zero_add, aE, q0, Bool.false_and]
 |true=>
 cases q1:decide (r.dq<16) with
 |false=>simp -implicitDefEqProofs only [b1, A.l33, af, ak, ao, fs, beq_self_eq_true, ai, ah, Bool.false_eq_true, if_false, if_true, al, Nat.zero_add, aE, aC, q0, q1, Bool.and_false, Bool.false_and]
 |true=>
 cases q2:decide ((r.inc:Int)≥1) with
 |false=>simp -implicitDefEqProofs only [b1, A.l33, A.l34, af, ak, ao, beq_self_eq_true, ai, if_true, al, Nat.zero_add, aE, aC, q0, q1, q2, Bool.and_true, Bool.and_false]
 |true=>
 simp -implicitDefEqProofs only [b1, A.l33, A.l34, af, ak, ao, beq_self_eq_true, ai, if_true, al, Nat.zero_add, aE, aC, q0, q1, q2, Bool.and_true]
theorem splice_app {A B C B':List Value} {o n:Nat} (hA:A.length=o) (hB:B.length=n) (hB':B'.length=n):bI (A++(B++C)) o B'=A++(B'++C):=by
 subst hA
 unfold bI
 rw [List.take_left,hB',List.append_assoc,←hB,←List.length_append,←List.append_assoc A B C,List.drop_left]
theorem gq {z A B C B':List Value} {o n:Nat} {rest:List (Nat×Nat×Value)} (e:z=A++(B++C)) (hA:A.length=o) (hB:B.length=n) (hB':B'.length=n):de z ((o,n,.agg B'.toArray)::rest)=de (A++(B'++C)) rest:=by
 subst e
 have hc:(Value.agg B'.toArray).cells=B'.toArray:=rfl
 simp only [de,hc,List.size_toArray,hB']
 rw [if_pos (by
  have:o+n≤(A++(B++C)).length:=by rw [List.length_append,List.length_append,hA,hB];omega
  simp only [decide_eq_true this]
  simp),splice_app hA hB hB']
theorem eW:I64 0:=⟨by decide,by decide⟩
theorem base_wf {r:bK} (w:r.Wf):r.base.Wf:=⟨w.kind,⟨rfl,fun x hx=>by
 have:=List.eq_of_mem_replicate hx
 omega⟩,w.dq,w.inc,by show (0:Nat)<_;omega,eW,eW⟩
theorem grave_wf {r:bK} (w:r.Wf):r.grave.Wf:=⟨w.kind,w.obj,eW,by show (0:Nat)<_;omega,by show (0:Nat)<_;omega,eW,eW⟩
theorem bld_base (r:bK):bU [(.int .u8 0),(.int .u8 0),(.int .u8 0),(.int .u8 0),(.int .u8 0),(.int .u8 0),(.int .u8 0),(.int .u8 0),(.int .u8 0),(.int .u8 0),(.int .u8 0),(.int .u8 0),(.int .u8 0),(.int .u8 0),(.int .u8 0),(.int .u8 0),(.int .u8 0),(.int .u8 0),(.int .u8 0),(.int .u8 0),(.int .u8 0),(.int .u8 0),(.int .u8 0),(.int .u8 0),(.int .u8 0),(.int .u8 0),(.int .u8 0),(.int .u8 0),(.int .u8 0),(.int .u8 0),(.int .u8 0),(.int .u8 0),(.int .u8 0),(.int .i64 0),(.int .u64 0),(.int .u64 0),(.bool false),(.int .i64 0),(.int .i64 0)] [(0,1,.int .u8 (r.kind:Int)),(33,1,.int .i64 r.dq),(34,1,.int .u64 (r.inc:Int))]=some (.agg (recC r.base).toArray):=rfl
theorem bld_grave {r:bK} (w:r.Wf):bU [(.int .u8 0),(.int .u8 0),(.int .u8 0),(.int .u8 0),(.int .u8 0),(.int .u8 0),(.int .u8 0),(.int .u8 0),(.int .u8 0),(.int .u8 0),(.int .u8 0),(.int .u8 0),(.int .u8 0),(.int .u8 0),(.int .u8 0),(.int .u8 0),(.int .u8 0),(.int .u8 0),(.int .u8 0),(.int .u8 0),(.int .u8 0),(.int .u8 0),(.int .u8 0),(.int .u8 0),(.int .u8 0),(.int .u8 0),(.int .u8 0),(.int .u8 0),(.int .u8 0),(.int .u8 0),(.int .u8 0),(.int .u8 0),(.int .u8 0),(.int .i64 0),(.int .u64 0),(.int .u64 0),(.bool false),(.int .i64 0),(.int .i64 0)] [(0,1,.int .u8 (r.kind:Int)),(1,32,.agg (bP r.obj).toArray)]=some (.agg (recC r.grave).toArray):=by
 have e:de [(.int .u8 0),(.int .u8 0),(.int .u8 0),(.int .u8 0),(.int .u8 0),(.int .u8 0),(.int .u8 0),(.int .u8 0),(.int .u8 0),(.int .u8 0),(.int .u8 0),(.int .u8 0),(.int .u8 0),(.int .u8 0),(.int .u8 0),(.int .u8 0),(.int .u8 0),(.int .u8 0),(.int .u8 0),(.int .u8 0),(.int .u8 0),(.int .u8 0),(.int .u8 0),(.int .u8 0),(.int .u8 0),(.int .u8 0),(.int .u8 0),(.int .u8 0),(.int .u8 0),(.int .u8 0),(.int .u8 0),(.int .u8 0),(.int .u8 0),(.int .i64 0),(.int .u64 0),(.int .u64 0),(.bool false),(.int .i64 0),(.int .i64 0)] [(0,1,.int .u8 (r.kind:Int)),(1,32,.agg (bP r.obj).toArray)]=de ([.int .u8 (r.kind:Int)]++(bP z32 ++ [.int .i64 0,.int .u64 0,.int .u64 0,.bool false,.int .i64 0,.int .i64 0])) [(1,32,.agg (bP r.obj).toArray)]:=rfl
 unfold bU
 rw [e,gq (A := [.int .u8 (r.kind:Int)]) (B:=bP z32) (o:=1) (n:=32) rfl rfl rfl (by rw [List.length_map];exact w.obj.1)]
 rfl
theorem eq_rec {a b:bK} (wa:a.Wf) (wb:b.Wf):bin Tryz.prog .eql 61 (.agg (recC a).toArray) (.agg (recC b).toArray)=some (.bool (decide (a=b))):=by
 obtain ⟨r,h1,h2,_⟩:=eq61 _ _ (fP wa) (fP wb)
 have hr:r=decide (a=b):=by
  by_cases e:a=b
  ·rw [decide_eq_true e,h1.2 (by rw [e])]
  ·rw [decide_eq_false e]
   cases r with
   |false=>rfl
   |true=>exact absurd (recC_inj wa.obj.1 wb.obj.1 (h1.1 rfl)) e
 rw [h2,hr]
theorem r138 {h:aj} (hG:4≤h.n0) {r:bK} (w:r.Wf) : ∃ h',CW 138 [.agg (recC r).toArray] h=some (.bool (recB r),h')∧Old h h':=by
 obtain ⟨h1,b1,o1,A⟩:=rec_box h w
 obtain ⟨h2,e2,o2⟩:=r151 (h:=h1) (by rw [o1.n0];exact hG) w
 have e3:=bld_base r
 have e4:=bld_grave w
 have e5:=eq_rec w (base_wf w)
 have e6:=eq_rec w (grave_wf w)
 unfold recB
 cases k1:(r.kind:Int)==1 with
 |true=>
  simp only [if_true]
  cases q0:decide (r=r.base) with
  |false=>
   refine ⟨h1,aF is138 hG rfl ((t138_eq _ _ _).trans ?_),o1⟩
   unfold t138
   simp -implicitDefEqProofs only [b1, A.l0, A.l33, A.l34, A.all, e3, e5, k1, q0, af, ak, ao, fs, ah, Bool.false_eq_true, if_false, al, Nat.zero_add, az, Bool.false_and]
  |true=>
   refine ⟨h2,aF is138 hG rfl ((t138_eq _ _ _).trans ?_),o1.trans o2⟩
   unfold t138
   simp -implicitDefEqProofs only [b1, A.l0, A.l33, A.l34, A.all, e3, e5, e2, k1, q0, af, ak, ao, beq_self_eq_true, ai, if_true, al, Nat.zero_add, az, Bool.true_and]
 |false=>
  simp only [Bool.false_eq_true,if_false]
  cases k2:(r.kind:Int)==2 with
  |true=>
   simp only [if_true]
   refine ⟨h1,aF is138 hG rfl ((t138_eq _ _ _).trans ?_),o1⟩
   unfold t138
   simp -implicitDefEqProofs only [b1, A.l0, A.l1, A.all, e4, e6, k1, k2, af, ak, al, Nat.zero_add, az]
  |false=>
   simp only [Bool.false_eq_true,if_false]
   cases k3:(r.kind:Int)==3 with
   |true=>
    simp only [if_true]
    have A2:RLd h2 h.next r:=r_ld w (Old.get o2 (by
     obtain ⟨_,b1',_⟩:=rec_box h w
     have:=fz h (recC r) (bL w).2.2
     rw [b1] at this
     cases this
     rw [aj.aS,if_pos rfl]))
    refine ⟨h2,aF is138 hG rfl ((t138_eq _ _ _).trans ?_),o1.trans o2⟩
    unfold t138 pieceB
    cases q0:holderB r with
    |false=>simp -implicitDefEqProofs only [b1, A.l0, A.all, e2, k1, k2, k3, af, ak, ao, fs, ah, Bool.false_eq_true, if_false, al, Nat.zero_add, az, q0, Bool.false_and]
    |true=>
    cases q1:decide ((r.num:Int)≥1) with
    |false=>simp -implicitDefEqProofs only [b1, A.l0, A.all, e2, k1, k2, k3, A2.l35, af, ak, ao, fs, beq_self_eq_true, ai, ah, Bool.false_eq_true, if_false, if_true, al, Nat.zero_add, aE, az, q0, q1, Bool.and_false, Bool.false_and]
    |true=>
    cases q2:decide (1≤r.k) with
    |false=>simp -implicitDefEqProofs only [b1, A.l0, A.all, e2, k1, k2, k3, A2.l35, A2.l37, af, ak, ao, fs, beq_self_eq_true, ai, ah, Bool.false_eq_true, if_false, if_true, al, Nat.zero_add, aE, aD, az, q0, q1, q2, Bool.and_true, Bool.and_false, Bool.false_and]
    |true=>
    cases q3:decide (r.k≤r.n) with
    |false=>simp -implicitDefEqProofs only [b1, A.l0, A.all, e2, k1, k2, k3, A2.l35, A2.l37, A2.l38, af, ak, ao, fs, beq_self_eq_true, ai, ah, Bool.false_eq_true, if_false, if_true, al, Nat.zero_add, aE, aD, az, q0, q1, q2, q3, Bool.and_true, Bool.and_false, Bool.false_and]
    |true=>
    cases q4:decide (r.n≤255) with
    |false=>simp -implicitDefEqProofs only [b1, A.l0, A.all, e2, k1, k2, k3, A2.l35, A2.l37, A2.l38, af, ak, ao, beq_self_eq_true, ai, if_true, al, Nat.zero_add, aE, aD, az, q0, q1, q2, q3, q4, Bool.and_true, Bool.and_false]
    |true=>
    simp -implicitDefEqProofs only [b1, A.l0, A.all, e2, k1, k2, k3, A2.l35, A2.l37, A2.l38, af, ak, ao, beq_self_eq_true, ai, if_true, al, Nat.zero_add, aE, aD, az, q0, q1, q2, q3, q4, Bool.and_true]
   |false=>
    refine ⟨h1,aF is138 hG rfl ((t138_eq _ _ _).trans ?_),o1⟩
    unfold t138
    simp -implicitDefEqProofs only [b1, A.l0, k1, k2, k3, af, ak, Bool.false_eq_true, if_false, al, Nat.zero_add, az]
theorem r137 {h:aj} (hG:4≤h.n0) {r:bK} (w:r.Wf) : ∃ h',CW 137 [.agg (recC r).toArray] h=some (.bool (!recB r),h')∧Old h h':=by
 obtain ⟨h1,b1,o1,A⟩:=rec_box h w
 obtain ⟨h2,e2,o2⟩:=r138 (h:=h1) (by rw [o1.n0];exact hG) w
 refine ⟨h2,aF is137 hG rfl ((t137_eq _ _ _).trans ?_),o1.trans o2⟩
 unfold t137
 simp -implicitDefEqProofs only [b1, A.all, e2, af, ak, av]
theorem is150:bO Tryz.prog 150 Tryz.f150:=⟨by kernel_rfl,by kernel_rfl,by kernel_rfl,by kernel_rfl⟩
theorem is136:bO Tryz.prog 136 Tryz.f136:=⟨by kernel_rfl,by kernel_rfl,by kernel_rfl,by kernel_rfl⟩
theorem results150:Tryz.f150.results.toList = [.tmp 4]:=by kernel_rfl
theorem b150_exit (C:au) (e:Env) (h:aj):b150_3 C 0 e h=k150_1 C e h:=rfl
def ixInv150 (h0:aj) (v:Value) (l:List bK) (k:Nat) (y:Nat→Value) (g:aj):Prop:=
 ∃ i,i+k=l.length∧y 0=v∧y 1 = .func (.func 137) #[] #[]∧y 7=aH l.length∧y 8=aH i∧Old h0 g∧(l.take i).any (fun m => !recB m)=false
def ixFin150 (h0:aj) (l:List bK) (ex:Ex) (y:Nat→Value) (g:aj):Prop:=
 Old h0 g∧((ex = .ret∧(∃ i:Nat,y 4=aH i)∧l.any (fun m => !recB m)=true)∨(ex = .exit 0∧l.any (fun m => !recB m)=false))
theorem el_flat150 {l:List bK} {i:Nat} {m:bK} (hw : ∀ x∈l,x.Wf) (hm:l[i]? = some m):el 39 (l.flatMap recC) i=recC m:=by
 have hi:=(List.getElem?_eq_some_iff.1 hm).1
 have key : ∀ (l:List bK) (i:Nat),(∀ x∈l,x.Wf)→l[i]? = some m→el 39 (l.flatMap recC) i=recC m:=by
  intro l
  induction l with
  |nil=>intro i _ h;cases h
  |cons a l ih=>
   intro i hw h
   have ha:(recC a).length=39:=(fP (hw a (List.mem_cons_self ..))).1
   cases i with
   |zero=>
    cases h
    unfold el
    rw [Nat.zero_mul,List.drop_zero,List.flatMap_cons,←ha,List.take_left]
   |succ i=>
    have h:l[i]? = some m:=h
    have:=ih i (fun x hx=>hw x (List.mem_cons_of_mem _ hx)) h
    unfold el at this ⊢
    rw [List.flatMap_cons,show (i+1)*39=(recC a).length+i*39 by rw [Nat.add_mul,ha];omega,List.drop_length_add_append]
    exact this
 exact key l i hw hm
theorem ixRound150 {h0:aj} {v:Value} {l:List bK} (hG:4≤h0.n0) (x:dh h0 recK v l.length (l.flatMap recC)) (hw : ∀ x∈l,x.Wf) (hl:l.length≤1000000) : ∀ k y g,ixInv150 h0 v l k y g→dd 19 (ixInv150 h0 v l) (ixFin150 h0 l) k (t150l150_1010 CW y g):=by
 rintro k y g ⟨i,hik,y0,y1,y7,y8,o,ha⟩
 unfold t150l150_1010
 by_cases hi:i<l.length
 ·obtain ⟨b,q,kb,_,a1,_,_,_,a2,_⟩:=(x.bA o).at hi
  obtain ⟨m,hm⟩ : ∃ m,l[i]? = some m:=⟨l[i],List.getElem?_eq_getElem hi⟩
  have a1:bB 39 v (aH i)=some (ptr b (q+i*39)):=a1
  have a2:bD 39 (ptr b (q+i*39)) g=some (.agg (el 39 (l.flatMap recC) i).toArray,g):=a2
  rw [el_flat150 hw hm] at a2
  obtain ⟨g',e,o'⟩:=r137 (h:=g) (by rw [o.n0];exact hG) (hw m (List.mem_of_getElem? hm))
  have hs:(l.take (i+1)).any (fun m => !recB m) = !recB m:=by
   rw [List.take_add_one,hm,List.any_append,ha]
   simp
  simp -implicitDefEqProofs only [y8,y7,dg,y0,y1,decide_eq_true hi,af,ak,a1,a2,bx,e]
  cases hp:recB m with
  |true=>
   simp -implicitDefEqProofs only [Bool.not_true, af, ak, ee (show i+1≤9223372036854775807 by omega)]
   exact dd.next (k-1) (by omega) ⟨i+1,by omega,y0,y1,y7,rfl,o.trans o',by rw [hs,hp];rfl⟩
  |false=>
   simp -implicitDefEqProofs only [Bool.not_false]
   refine dd.ret ⟨o.trans o',.inl ⟨rfl,⟨i,rfl⟩,?_⟩⟩
   rw [List.any_eq_true]
   exact ⟨m,List.mem_of_getElem? hm,by rw [hp];rfl⟩
 ·simp -implicitDefEqProofs only [y8,y7,dg,decide_eq_false hi,af,ak]
  refine dd.out 0 ⟨o,.inr ⟨rfl,?_⟩⟩
  rw [List.take_of_length_le (by omega)] at ha
  exact ha
theorem r136 {h:aj} {v:Value} {l:List bK} (hG:4≤h.n0) (x:dh h recK v l.length (l.flatMap recC)) (hw : ∀ x∈l,x.Wf) (hl:l.length≤1000000) : ∃ h',CW 136 [v,.func (.func 137) #[] #[]] h=some (.bool (l.any fun m => !recB m),h')∧Old h h':=by
 have key : ∃ j h',CW 150 [v,.func (.func 137) #[] #[]] h=some (.int .i64 j,h')∧decide (j≥0)=(l.any fun m => !recB m)∧Old h h':=by
  have k2 : ∃ j h',t150 CW v (.func (.func 137) #[] #[]) h=some (.int .i64 j,h')∧decide (j≥0)=(l.any fun m => !recB m)∧Old h h':=by
   unfold t150
   simp -implicitDefEqProofs only [af,x.len,ak]
   refine bY (Q:=fun o:Out => ∃ j h',o=some (Value.int .i64 j,h')∧decide (j≥0)=(l.any fun m => !recB m)∧Old h h') (bZ (t150l150_1010_eq CW) (ixRound150 hG x hw hl) l.length (by have:rounds=18446744073709551616:=rfl;omega)
    ⟨0,Nat.zero_add _,rfl,rfl,rfl,rfl,Kept.refl _ _,rfl⟩) ?_
   rintro ex z g ⟨o,⟨rfl,⟨i,z4⟩,ha⟩|⟨rfl,ha⟩⟩
   ·rw [dG,fG (t:=4) results150 (by decide),z4]
    exact ⟨i,g,rfl,by rw [ha];exact decide_eq_true (by omega),o⟩
   ·simp -implicitDefEqProofs only [bE,b150_exit,t150k150_1_eq]
    unfold t150k150_1
    exact ⟨-1,g,rfl,by rw [ha];rfl,o⟩
  obtain ⟨j,h',e1,e2,e3⟩:=k2
  exact ⟨j,h',aF is150 hG rfl ((t150_eq _ _ _ _).trans e1),e2,e3⟩
 obtain ⟨j,h',e1,e2,e3⟩:=key
 refine ⟨h',aF is136 hG rfl ((t136_eq _ _ _ _).trans ?_),e3⟩
 unfold t136
 simp -implicitDefEqProofs only [af,e1,aE,ak,e2]
theorem is125:bO Tryz.prog 125 Tryz.f125:=⟨by kernel_rfl,by kernel_rfl,by kernel_rfl,by kernel_rfl⟩
theorem r125 {h:aj} {v:Value} {l:List eC} (hG:4≤h.n0) (x:dh h memK v l.length (l.flatMap di)) (hw : ∀ x∈l,x.Wf) : ∃ h',CW 125 [v] h=some (.bool (tableB l),h')∧Old h h':=by
 unfold tableB
 cases q0:decide ((l.length:Int)≥1) with
 |false=>
  refine ⟨h,aF is125 hG rfl ((t125_eq _ _ _).trans ?_),Kept.refl _ _⟩
  unfold t125
  simp -implicitDefEqProofs only [x.len, q0, af, ak, ao, fs, ah, Bool.false_eq_true, if_false, aE, Bool.false_and]
 |true=>
 cases q1:decide ((l.length:Int)≤16) with
 |false=>
  refine ⟨h,aF is125 hG rfl ((t125_eq _ _ _).trans ?_),Kept.refl _ _⟩
  unfold t125
  simp -implicitDefEqProofs only [x.len, q0, q1, af, ak, ao, fs, beq_self_eq_true, ai, ah, Bool.false_eq_true, if_false, if_true, aE, aD, Bool.and_false, Bool.false_and]
 |true=>
 have:=of_decide_eq_true q1
 obtain ⟨h1,e1,o1⟩:=r145 hG x hw (by omega)
 refine ⟨h1,aF is125 hG rfl ((t125_eq _ _ _).trans ?_),o1⟩
 unfold t125
 simp -implicitDefEqProofs only [x.len, q0, q1, e1, af, ak, ao, beq_self_eq_true, ai, if_true, av, aE, aD, Bool.and_true, Bool.true_and]
theorem is131:bO Tryz.prog 131 Tryz.f131:=⟨by kernel_rfl,by kernel_rfl,by kernel_rfl,by kernel_rfl⟩
section
variable {h:aj} {s:cR} {m:aO} (hG:4≤h.n0) (x:Has h s m)
include hG x
theorem r131 : ∃ h',CW 131 [gv m s] h=some (.int .i64 (if manBad m then 2 else 0),h')∧Old h h':=by
 have mo:=man_ok x.sl (aO.ok x.wf)
 have b1:=fz h (m.d.eM s) mo.2.1
 have o1:Old h (h.alloc (m.d.eM s)):=Kept.alloc _ _ _
 have g1:(h.alloc (m.d.eM s)).get h.next=some (m.d.eM s):=by rw [aj.aS,if_pos rfl]
 generalize h.alloc (m.d.eM s)=h1 at *
 have A:=man_ld (x.sl.bA o1) (aO.ok x.wf) g1
 have l0:aN (ptr h.next 0) h1=some (.int .i64 m.gk,h1):=A.l0
 have l1:aN (ptr h.next 1) h1=some (.int .i64 m.gn,h1):=A.l1
 have l2:aN (ptr h.next 2) h1=some (.int .i64 m.gt,h1):=A.l2
 have l3:aN (ptr h.next 3) h1=some (.int .i64 m.gs,h1):=A.l3
 have e1:=r148 (h:=h1) (by rw [o1.n0];exact hG) m.gk m.gn m.gt
 refine ⟨h1,aF is131 hG rfl ((t131_eq _ _ _).trans ?_),o1⟩
 unfold t131 manBad
 cases q0 : !dW m.gk m.gn m.gt with
 |true=>simp -implicitDefEqProofs only [b1, l0, l1, l2, e1, af, ak, ao, sf, ah, if_true, al, Nat.zero_add, av, q0, Bool.true_or]
 |false=>
 cases q1:decide (m.gs<0) with
 |true=>simp -implicitDefEqProofs only [b1, l0, l1, l2, l3, e1, af, ak, ao, sf, beq_self_eq_true, ai, ah, Bool.false_eq_true, if_false, if_true, al, Nat.zero_add, av, aC, q0, q1, Bool.or_true, Bool.true_or]
 |false=>
 cases q2:decide (m.gs>8192) with
 |true=>simp -implicitDefEqProofs only [b1, l0, l1, l2, l3, e1, af, ak, ao, sf, beq_self_eq_true, ai, ah, Bool.false_eq_true, if_false, if_true, al, Nat.zero_add, av, aC, aB, q0, q1, q2, Bool.or_true, Bool.true_or, Bool.or_false]
 |false=>
 cases q3:((m.pieces.length:Int) != m.gt) with
 |true=>simp -implicitDefEqProofs only [b1, l0, l1, l2, l3, A.fa, e1, x.len.2.2.2.2.1, af, ak, ao, beq_self_eq_true, ai, Bool.false_eq_true, if_false, if_true, al, Nat.zero_add, av, aC, aB, ax, q0, q1, q2, q3, Bool.or_true, Bool.or_false]
 |false=>
 simp -implicitDefEqProofs only [b1, l0, l1, l2, l3, A.fa, e1, x.len.2.2.2.2.1, af, ak, ao, beq_self_eq_true, ai, Bool.false_eq_true, if_false, al, Nat.zero_add, av, aC, aB, ax, q0, q1, q2, q3, Bool.or_false]
end
theorem is95:bO Tryz.prog 95 Tryz.f95:=⟨by kernel_rfl,by kernel_rfl,by kernel_rfl,by kernel_rfl⟩
theorem is111:bO Tryz.prog 111 Tryz.f111:=⟨by kernel_rfl,by kernel_rfl,by kernel_rfl,by kernel_rfl⟩
theorem is102:bO Tryz.prog 102 Tryz.f102:=⟨by kernel_rfl,by kernel_rfl,by kernel_rfl,by kernel_rfl⟩
theorem is106:bO Tryz.prog 106 Tryz.f106:=⟨by kernel_rfl,by kernel_rfl,by kernel_rfl,by kernel_rfl⟩
theorem is118:bO Tryz.prog 118 Tryz.f118:=⟨by kernel_rfl,by kernel_rfl,by kernel_rfl,by kernel_rfl⟩
def rangeB (m:aO):Bool:=decide ((m.low.length:Int)≤34)&&decide ((m.high.length:Int)≤34)&&decide (m.count≥0)&&decide (m.count≤1048576)&&decide ((m.cp.length:Int)≤64) && !(m.cp.any fun r => !recB r)
def tabB (m:aO):Bool:=gw m.origin&&gw m.target&&tableB m.table
def pceB (m:aO):Bool := !manBad m&&decide (m.cN≥0)&&decide (m.cN<m.gt)&&decide ((m.data.length:Int)≤8192)
def codeB (m:aO):Bool:=decide (m.code≥0)&&decide (m.code≤999)
section
variable {h:aj} {s:cR} {m:aO} (hG:4≤h.n0) (x:Has h s m)
include hG x
theorem r102 : ∃ h',CW 102 [mv m s] h=some (.bool true,h')∧Old h h':=by
 obtain ⟨h1,b1,o1,-⟩:=m_box x
 refine ⟨h1,aF is102 hG rfl ((t102_eq _ _ _).trans ?_),o1⟩
 unfold t102
 simp -implicitDefEqProofs only [b1,af]
theorem r118 : ∃ h',CW 118 [mv m s] h=some (.bool (codeB m),h')∧Old h h':=by
 obtain ⟨h1,b1,o1,x1,A,-⟩:=m_box x
 refine ⟨h1,aF is118 hG rfl ((t118_eq _ _ _).trans ?_),o1⟩
 unfold t118 codeB
 cases q0:decide (m.code≥0) with
 |false=>simp -implicitDefEqProofs only [b1, A.aY, af, ak, ao, fs, ah, Bool.false_eq_true, if_false, al, Nat.zero_add, aE, q0, Bool.false_and]
 |true=>
 cases q1:decide (m.code≤999) with
 |false=>simp -implicitDefEqProofs only [b1, A.aY, af, ak, ao, beq_self_eq_true, ai, if_true, al, Nat.zero_add, aE, aD, q0, q1, Bool.and_false]
 |true=>
 simp -implicitDefEqProofs only [b1, A.aY, af, ak, ao, beq_self_eq_true, ai, if_true, al, Nat.zero_add, aE, aD, q0, q1, Bool.and_true]
theorem r95 : ∃ h',CW 95 [mv m s] h=some (.bool (tabB m),h')∧Old h h':=by
 obtain ⟨h1,b1,o1,x1,A,-⟩:=m_box x
 have hG1:4≤h1.n0:=by rw [o1.n0];exact hG
 have e1:=r46 hG1 m.origin
 have e2:=r46 hG1 m.target
 obtain ⟨h2,e3,o2⟩:=r125 hG1 x1.sl.a x.wf.table
 unfold tabB
 cases q0:gw m.origin with
 |false=>
  refine ⟨h1,aF is95 hG rfl ((t95_eq _ _ _).trans ?_),o1⟩
  unfold t95
  simp -implicitDefEqProofs only [b1, A.l4, e1, q0, af, ak, ao, fs, ah, Bool.false_eq_true, if_false, al, Nat.zero_add, Bool.false_and]
 |true=>
 cases q1:gw m.target with
 |false=>
  refine ⟨h1,aF is95 hG rfl ((t95_eq _ _ _).trans ?_),o1⟩
  unfold t95
  simp -implicitDefEqProofs only [b1, A.l4, A.l5, e1, e2, q0, q1, af, ak, ao, fs, beq_self_eq_true, ai, ah, Bool.false_eq_true, if_false, if_true, al, Nat.zero_add, Bool.and_false, Bool.false_and]
 |true=>
 refine ⟨h2,aF is95 hG rfl ((t95_eq _ _ _).trans ?_),o1.trans o2⟩
 unfold t95
 simp -implicitDefEqProofs only [b1, A.l4, A.l5, A.l6, e1, e2, e3, q0, q1, af, ak, ao, beq_self_eq_true, ai, if_true, al, Nat.zero_add, Bool.and_true, Bool.true_and]
theorem r106 : ∃ h',CW 106 [mv m s] h=some (.bool (pceB m),h')∧Old h h':=by
 obtain ⟨h1,b1,o1,x1,A,nx,hh⟩:=m_box x
 have hG1:4≤h1.n0:=by rw [o1.n0];exact hG
 obtain ⟨h2,e1,o2⟩:=r131 hG1 x1
 have g2:=Old.get o2 A.g
 have A2:=m_ld (x1.bA o2) g2
 have l78:aN (ptr h.next 78) h2=some (.int .i64 m.gt,h2):=aV g2 (by
  have:=at42 (s:=s) (aO.ok x.wf)
  have hr:(bP m.root).length=32:=by rw [List.length_map];exact x.wf.root.1
  have ho:(bP m.obj).length=32:=by rw [List.length_map];exact x.wf.obj.1
  exact dy 68 rfl (dy 36 (by show (bP m.root).length+36=68;omega) (dy 34 rfl (dy 2 (by show (bP m.obj).length+2=34;omega) rfl)))) rfl
 refine ⟨h2,aF is106 hG rfl ((t106_eq _ _ _).trans ?_),o1.trans o2⟩
 have hz:((if manBad m then (2:Int) else 0)==0) = !manBad m:=by cases manBad m<;>rfl
 unfold t106 pceB
 cases q0 : !manBad m with
 |false=>simp -implicitDefEqProofs only [b1, A.cg, e1, hz, af, ak, ao, fs, ah, Bool.false_eq_true, if_false, al, Nat.zero_add, az, q0, Bool.false_and]
 |true=>
 cases q1:decide (m.cN≥0) with
 |false=>simp -implicitDefEqProofs only [b1, A.cg, e1, hz, A2.aW, af, ak, ao, fs, beq_self_eq_true, ai, ah, Bool.false_eq_true, if_false, if_true, al, Nat.zero_add, Nat.reduceAdd, aE, az, q0, q1, Bool.and_false, Bool.false_and]
 |true=>
 cases q2:decide (m.cN<m.gt) with
 |false=>simp -implicitDefEqProofs only [b1, A.cg, e1, hz, A2.aW, l78, af, ak, ao, fs, beq_self_eq_true, ai, ah, Bool.false_eq_true, if_false, if_true, al, Nat.zero_add, Nat.reduceAdd, aE, aC, az, q0, q1, q2, Bool.and_true, Bool.and_false, Bool.false_and]
 |true=>
 cases q3:decide ((m.data.length:Int)≤8192) with
 |false=>simp -implicitDefEqProofs only [b1, A.cg, e1, hz, A2.aW, l78, A2.aX, x.len.2.2.2.2.2, af, ak, ao, beq_self_eq_true, ai, if_true, al, Nat.zero_add, Nat.reduceAdd, aE, aD, aC, az, q0, q1, q2, q3, Bool.and_true, Bool.and_false]
 |true=>
 simp -implicitDefEqProofs only [b1, A.cg, e1, hz, A2.aW, l78, A2.aX, x.len.2.2.2.2.2, af, ak, ao, beq_self_eq_true, ai, if_true, al, Nat.zero_add, Nat.reduceAdd, aE, aD, aC, az, q0, q1, q2, q3, Bool.and_true]
theorem r111 : ∃ h',CW 111 [mv m s] h=some (.bool (rangeB m),h')∧Old h h':=by
 obtain ⟨h1,b1,o1,x1,A,-⟩:=m_box x
 have hG1:4≤h1.n0:=by rw [o1.n0];exact hG
 obtain ⟨n1,n2,n3,n4,n5,n6⟩:=x.len
 by_cases q4':(m.cp.length:Int)≤64
 ·obtain ⟨h2,e3,o2⟩:=r136 hG1 x1.sl.d x.wf.cp (by omega)
  unfold rangeB
  cases q0:decide ((m.low.length:Int)≤34) with
  |false=>
   refine ⟨h1,aF is111 hG rfl ((t111_eq _ _ _).trans ?_),o1⟩
   unfold t111
   simp -implicitDefEqProofs only [b1, A.l7, n2, af, ak, ao, fs, ah, Bool.false_eq_true, if_false, al, Nat.zero_add, aD, q0, Bool.false_and]
  |true=>
  cases q1:decide ((m.high.length:Int)≤34) with
  |false=>
   refine ⟨h1,aF is111 hG rfl ((t111_eq _ _ _).trans ?_),o1⟩
   unfold t111
   simp -implicitDefEqProofs only [b1, A.l7, A.l8, n2, n3, af, ak, ao, fs, beq_self_eq_true, ai, ah, Bool.false_eq_true, if_false, if_true, al, Nat.zero_add, aD, q0, q1, Bool.and_false, Bool.false_and]
  |true=>
  cases q2:decide (m.count≥0) with
  |false=>
   refine ⟨h1,aF is111 hG rfl ((t111_eq _ _ _).trans ?_),o1⟩
   unfold t111
   simp -implicitDefEqProofs only [b1, A.l7, A.l8, A.l9, n2, n3, af, ak, ao, fs, beq_self_eq_true, ai, ah, Bool.false_eq_true, if_false, if_true, al, Nat.zero_add, aE, aD, q0, q1, q2, Bool.and_true, Bool.and_false, Bool.false_and]
  |true=>
  cases q3:decide (m.count≤1048576) with
  |false=>
   refine ⟨h1,aF is111 hG rfl ((t111_eq _ _ _).trans ?_),o1⟩
   unfold t111
   simp -implicitDefEqProofs only [b1, A.l7, A.l8, A.l9, n2, n3, af, ak, ao, fs, beq_self_eq_true, ai, ah, Bool.false_eq_true, if_false, if_true, al, Nat.zero_add, aE, aD, q0, q1, q2, q3, Bool.and_true, Bool.and_false, Bool.false_and]
  |true=>
  have q4:decide ((m.cp.length:Int)≤64)=true:=decide_eq_true q4'
  refine ⟨h2,aF is111 hG rfl ((t111_eq _ _ _).trans ?_),o1.trans o2⟩
  unfold t111
  simp -implicitDefEqProofs only [b1, A.l7, A.l8, A.l9, A.bW, n2, n3, n4, e3, af, ak, ao, beq_self_eq_true, ai, if_true, al, Nat.zero_add, av, aE, aD, q0, q1, q2, q3, q4, Bool.and_true, Bool.true_and]
 ·have q4:decide ((m.cp.length:Int)≤64)=false:=decide_eq_false q4'
  refine ⟨h1,aF is111 hG rfl ((t111_eq _ _ _).trans ?_),o1⟩
  unfold t111 rangeB
  cases q0:decide ((m.low.length:Int)≤34) with
  |false=>simp -implicitDefEqProofs only [b1, A.l7, n2, q4, af, ak, ao, fs, ah, Bool.false_eq_true, if_false, al, Nat.zero_add, aD, q0, Bool.and_false, Bool.false_and]
  |true=>
  cases q1:decide ((m.high.length:Int)≤34) with
  |false=>simp -implicitDefEqProofs only [b1, A.l7, A.l8, n2, n3, q4, af, ak, ao, fs, beq_self_eq_true, ai, ah, Bool.false_eq_true, if_false, if_true, al, Nat.zero_add, aD, q0, q1, Bool.and_false, Bool.false_and]
  |true=>
  cases q2:decide (m.count≥0) with
  |false=>simp -implicitDefEqProofs only [b1, A.l7, A.l8, A.l9, n2, n3, q4, af, ak, ao, fs, beq_self_eq_true, ai, ah, Bool.false_eq_true, if_false, if_true, al, Nat.zero_add, aE, aD, q0, q1, q2, Bool.and_true, Bool.and_false, Bool.false_and]
  |true=>
  cases q3:decide (m.count≤1048576) with
  |false=>simp -implicitDefEqProofs only [b1, A.l7, A.l8, A.l9, n2, n3, q4, af, ak, ao, fs, beq_self_eq_true, ai, ah, Bool.false_eq_true, if_false, if_true, al, Nat.zero_add, aE, aD, q0, q1, q2, q3, Bool.and_true, Bool.and_false, Bool.false_and]
  |true=>
  simp -implicitDefEqProofs only [b1, A.l7, A.l8, A.l9, A.bW, n2, n3, n4, q4, af, ak, ao, fs, beq_self_eq_true, ai, ah, Bool.false_eq_true, if_false, if_true, al, Nat.zero_add, aE, aD, q0, q1, q2, q3, Bool.and_true, Bool.and_false, Bool.false_and]
end
end Go.Proofs.YtjghlcdidopcpaaGreatDoor

namespace Go.Proofs.YtjghlcdidopcpaaGreatDoor
open Go Go.Abs
attribute [local congr] aU
deriving instance DecidableEq for eC
deriving instance DecidableEq for aO
theorem ld_agg {t n:Nat} (h1:aggT Tryz.prog t=some true) (h2:cD Tryz.prog t=some n) (v:Value) (h:aj):ld Tryz.prog t v h=bD n v h:=by
 unfold ld
 rw [h1,h2]
theorem getD_mkF {n k:Nat} (hk:k<n) (x:Nat→Value):(aJ n x).getD k undef=x k:=by
 unfold aJ
 simp [hk]
theorem eP {rs:List ResultVar} {n k t z:Nat} (hr:rs = [.cell k t]) (h1:aggT Tryz.prog t=some true) (h2:cD Tryz.prog t=some z) (hk:k<n) (x:Nat→Value) {h:aj} {v:Value} (e:bD z (x k) h=some (v,h)):ar Tryz.prog rs (aJ n x) h=some (v,h):=by
 subst hr
 simp only [ar,dI,getD_mkF hk,ld_agg h1 h2,e]
 rfl
theorem bp {rs:List ResultVar} {n k t z j:Nat} (hr:rs = [.cell k t,.tmp j]) (h1:aggT Tryz.prog t=some true) (h2:cD Tryz.prog t=some z) (hk:k<n) (hj:j<n) (x:Nat→Value) {h:aj} {v:Value} (e:bD z (x k) h=some (v,h)):ar Tryz.prog rs (aJ n x) h=some (.tuple #[v,x j],h):=by
 subst hr
 simp only [ar,List.mapM_cons,List.mapM_nil,dI,getD_mkF hk,getD_mkF hj,ld_agg h1 h2,e]
 rfl
theorem dh.nil (h:aj) (ks:List Kd):dh h ks (.slice none 0 0) 0 []:=⟨none,0,rfl,fun _=>rfl,⟨by simp,fun i hi=>absurd hi (Nat.not_lt_zero i)⟩,fun h=>absurd h (Nat.lt_irrefl 0)⟩
def aZ:cR:=⟨.slice none 0 0,.slice none 0 0,.slice none 0 0,.slice none 0 0,.slice none 0 0,.slice none 0 0⟩
def aO.z:aO:=⟨0,0,0,0,0,0,0,z32,false,z32,0,0,0,0,z32,0,0,[],[],[],[],[],[]⟩
theorem z32_ok:D32 z32:=⟨rfl,fun x hx=>by
 have:=List.eq_of_mem_replicate hx
 omega⟩
theorem aO.fZ:aO.z.Wf:=⟨by decide,eW,eW,by decide,eW,eW,eW,z32_ok,z32_ok,eW,eW,eW,eW,z32_ok,eW,eW,fun x hx=>(by cases hx),fun x hx=>(by cases hx),fun x hx=>(by cases hx),fun x hx=>(by cases hx),fun x hx=>(by cases hx),fun x hx=>by cases hx⟩
def sPing (m:aO):aO:={ aO.z with seq:=m.seq,origin:=m.origin,table:=m.table }
def sReq (m:aO):aO:={ aO.z with seq:=m.seq,target:=m.target,table:=m.table }
def sSum (m:aO):aO:={ aO.z with low:=m.low,high:=m.high,count:=m.count,root:=m.root }
def sItems (m:aO):aO:={ aO.z with low:=m.low,high:=m.high,want:=m.want,cp:=m.cp }
def sObj (m:aO):aO:={ aO.z with obj:=m.obj }
def sPiece (m:aO):aO:={ aO.z with obj:=m.obj,gk:=m.gk,gn:=m.gn,gt:=m.gt,gs:=m.gs,dk:=m.dk,pieces:=m.pieces,cN:=m.cN,data:=m.data }
def sStored (m:aO):aO:={ aO.z with obj:=m.obj,code:=m.code }
theorem sPing_wf {m:aO} (w:m.Wf):(sPing m).Wf:={ aO.fZ with seq:=w.seq,origin:=w.origin,table:=w.table }
theorem sReq_wf {m:aO} (w:m.Wf):(sReq m).Wf:={ aO.fZ with seq:=w.seq,target:=w.target,table:=w.table }
theorem sSum_wf {m:aO} (w:m.Wf):(sSum m).Wf:={ aO.fZ with low:=w.low,high:=w.high,count:=w.count,root:=w.root }
theorem sItems_wf {m:aO} (w:m.Wf):(sItems m).Wf:={ aO.fZ with low:=w.low,high:=w.high,cp:=w.cp }
theorem sObj_wf {m:aO} (w:m.Wf):(sObj m).Wf:={ aO.fZ with obj:=w.obj }
theorem sPiece_wf {m:aO} (w:m.Wf):(sPiece m).Wf:={ aO.fZ with obj:=w.obj,gk:=w.gk,gn:=w.gn,gt:=w.gt,gs:=w.gs,dk:=w.dk,pieces:=w.pieces,cN:=w.cN,data:=w.data }
theorem sStored_wf {m:aO} (w:m.Wf):(sStored m).Wf:={ aO.fZ with obj:=w.obj,code:=w.code }
theorem fq:aggT Tryz.prog 37=some true:=by kernel_rfl
theorem fp:cD Tryz.prog 37=some 116:=by kernel_rfl
theorem bX {l:List Nat} (h:D32 l):(bP l).length=32:=by rw [List.length_map];exact h.1
theorem dh.form {h:aj} {ks:List Kd} {v:Value} {n:Nat} {cs:List Value} (x:dh h ks v n cs) : ∃ a c,v = .slice a n c:=by
 obtain ⟨a,c,e,_⟩:=x
 exact ⟨a,c,e⟩
theorem made {h h1:aj} {s':cR} {m':aO} (o:Old h h1) (x:Has h s' m') : ∃ hz h2,cL Zl h1=some (ptr h1.next 0,hz)∧Old h1 hz∧bw 116 (ptr h1.next 0) (mv m' s') hz=some (undef,h2)∧bD 116 (ptr h1.next 0) h2=some (mv m' s',h2)∧Has h2 s' m'∧Old h h2∧h2.get h1.next=some (m'.d.cells s')∧Old h1 h2:=by
 have c:=cP x.sl (aO.ok x.wf)
 obtain ⟨h2,e1,e2,e3,_⟩:=one_new h1 (Z:=Zl) rfl c.2.2 c.2.1
 have x2:=(x.bA o).bA e2
 exact ⟨_,h2,newC_eq _ _,Kept.alloc _ _ _,e1,(m_ld x2 e3).all,x2,o.trans e2,e3,e2⟩
section
variable {h:aj} {s:cR} {m:aO} (hG:4≤h.n0) (x:Has h s m)
include hG x
omit hG x in
theorem is96:bO Tryz.prog 96 Tryz.f96:=⟨by kernel_rfl,by kernel_rfl,by kernel_rfl,by kernel_rfl⟩
set_option maxRecDepth 100000 in
theorem r96 : ∃ s' h',CW 96 [mv m s] h=some (mv (sPing m) s',h')∧Has h' s' (sPing m)∧Old h h':=by
 obtain ⟨h1,b1,o1,x1,A,-⟩:=m_box x
 have hr:Tryz.f96.results.toList = [.cell 2 37]:=by kernel_rfl
 have bl:bU Zl [(3,1,.int .u64 (m.seq:Int)),(4,1,.int .i64 m.origin),(6,1,s.a)]=some (mv (sPing m) ⟨s.a,aZ.b,aZ.c,aZ.d,aZ.e,aZ.f⟩):=by
  obtain ⟨aa,ca,ea⟩:=x.sl.a.form
  rw [ea]
  rfl
 have X:Has h ⟨s.a,aZ.b,aZ.c,aZ.d,aZ.e,aZ.f⟩ (sPing m):=⟨⟨x.sl.a,.nil _ _,.nil _ _,.nil _ _,.nil _ _,.nil _ _⟩,sPing_wf x.wf⟩
 obtain ⟨hz,h2,z1,oz,u1,u2,X2,o2,_⟩:=made o1 X
 have A:=m_ld (x1.bA oz) (Old.get oz A.g)
 refine ⟨_,h2,aF is96 hG rfl ((t96_eq _ _ _).trans ?_),X2,o2⟩
 unfold t96
 simp -implicitDefEqProofs only [b1, z1, A.l3, A.l4, A.l6, bl, u1, af, ak, al, Nat.zero_add]
 exact eP hr fq fp (show 2<10 by decide) _ u2
omit hG x in
theorem is99:bO Tryz.prog 99 Tryz.f99:=⟨by kernel_rfl,by kernel_rfl,by kernel_rfl,by kernel_rfl⟩
set_option maxRecDepth 100000 in
theorem r99 : ∃ s' h',CW 99 [mv m s] h=some (mv (sReq m) s',h')∧Has h' s' (sReq m)∧Old h h':=by
 obtain ⟨h1,b1,o1,x1,A,-⟩:=m_box x
 have hr:Tryz.f99.results.toList = [.cell 2 37]:=by kernel_rfl
 have bl:bU Zl [(3,1,.int .u64 (m.seq:Int)),(5,1,.int .i64 m.target),(6,1,s.a)]=some (mv (sReq m) ⟨s.a,aZ.b,aZ.c,aZ.d,aZ.e,aZ.f⟩):=by
  obtain ⟨aa,ca,ea⟩:=x.sl.a.form
  rw [ea]
  rfl
 have X:Has h ⟨s.a,aZ.b,aZ.c,aZ.d,aZ.e,aZ.f⟩ (sReq m):=⟨⟨x.sl.a,.nil _ _,.nil _ _,.nil _ _,.nil _ _,.nil _ _⟩,sReq_wf x.wf⟩
 obtain ⟨hz,h2,z1,oz,u1,u2,X2,o2,_⟩:=made o1 X
 have A:=m_ld (x1.bA oz) (Old.get oz A.g)
 refine ⟨_,h2,aF is99 hG rfl ((t99_eq _ _ _).trans ?_),X2,o2⟩
 unfold t99
 simp -implicitDefEqProofs only [b1, z1, A.l3, A.l5, A.l6, bl, u1, af, ak, al, Nat.zero_add]
 exact eP hr fq fp (show 2<10 by decide) _ u2
omit hG x in
theorem is112:bO Tryz.prog 112 Tryz.f112:=⟨by kernel_rfl,by kernel_rfl,by kernel_rfl,by kernel_rfl⟩
set_option maxRecDepth 100000 in
theorem r112 : ∃ s' h',CW 112 [mv m s] h=some (mv (sSum m) s',h')∧Has h' s' (sSum m)∧Old h h':=by
 obtain ⟨h1,b1,o1,x1,A,-⟩:=m_box x
 have hr:Tryz.f112.results.toList = [.cell 2 37]:=by kernel_rfl
 have bl:bU Zl [(7,1,s.b),(8,1,s.c),(9,1,.int .i64 m.count),(10,32,.agg (bP m.root).toArray)]=some (mv (sSum m) ⟨aZ.a,s.b,s.c,aZ.d,aZ.e,aZ.f⟩):=by
  have e1:de Zl [(7,1,s.b),(8,1,s.c),(9,1,.int .i64 m.count),(10,32,.agg (bP m.root).toArray)]=de ([.int .u8 0,.int .i64 0,.int .i64 0,.int .u64 0,.int .i64 0,.int .i64 0,.slice none 0 0,s.b,s.c,.int .i64 m.count]++(bP z32++(aO.z.d.cells aZ).drop 42)) [(10,32,.agg (bP m.root).toArray)]:=by
   obtain ⟨ab,cb,eb⟩:=x.sl.b.form
   obtain ⟨ac,cc,ec⟩:=x.sl.c.form
   rw [eb,ec]
   rfl
  unfold bU
  rw [e1,gq (A := [.int .u8 0,.int .i64 0,.int .i64 0,.int .u64 0,.int .i64 0,.int .i64 0,.slice none 0 0,s.b,s.c,.int .i64 m.count]) (B:=bP z32) (o:=10) (n:=32) rfl rfl rfl (bX x.wf.root)]
  rfl
 have X:Has h ⟨aZ.a,s.b,s.c,aZ.d,aZ.e,aZ.f⟩ (sSum m):=⟨⟨.nil _ _,x.sl.b,x.sl.c,.nil _ _,.nil _ _,.nil _ _⟩,sSum_wf x.wf⟩
 obtain ⟨hz,h2,z1,oz,u1,u2,X2,o2,_⟩:=made o1 X
 have A:=m_ld (x1.bA oz) (Old.get oz A.g)
 refine ⟨_,h2,aF is112 hG rfl ((t112_eq _ _ _).trans ?_),X2,o2⟩
 unfold t112
 simp -implicitDefEqProofs only [b1, z1, A.l7, A.l8, A.l9, A.cj, bl, u1, af, ak, al, Nat.zero_add]
 exact eP hr fq fp (show 2<12 by decide) _ u2
omit hG x in
theorem is115:bO Tryz.prog 115 Tryz.f115:=⟨by kernel_rfl,by kernel_rfl,by kernel_rfl,by kernel_rfl⟩
set_option maxRecDepth 100000 in
theorem r115 : ∃ s' h',CW 115 [mv m s] h=some (mv (sItems m) s',h')∧Has h' s' (sItems m)∧Old h h':=by
 obtain ⟨h1,b1,o1,x1,A,-⟩:=m_box x
 have hr:Tryz.f115.results.toList = [.cell 2 37]:=by kernel_rfl
 have bl:bU Zl [(7,1,s.b),(8,1,s.c),(43,1,.bool m.want),(42,1,s.d)]=some (mv (sItems m) ⟨aZ.a,s.b,s.c,s.d,aZ.e,aZ.f⟩):=by
  obtain ⟨ab,cb,eb⟩:=x.sl.b.form
  obtain ⟨ac,cc,ec⟩:=x.sl.c.form
  obtain ⟨ad,cd,ed⟩:=x.sl.d.form
  rw [eb,ec,ed]
  rfl
 have X:Has h ⟨aZ.a,s.b,s.c,s.d,aZ.e,aZ.f⟩ (sItems m):=⟨⟨.nil _ _,x.sl.b,x.sl.c,x.sl.d,.nil _ _,.nil _ _⟩,sItems_wf x.wf⟩
 obtain ⟨hz,h2,z1,oz,u1,u2,X2,o2,_⟩:=made o1 X
 have A:=m_ld (x1.bA oz) (Old.get oz A.g)
 refine ⟨_,h2,aF is115 hG rfl ((t115_eq _ _ _).trans ?_),X2,o2⟩
 unfold t115
 simp -implicitDefEqProofs only [b1, z1, A.l7, A.l8, A.bW, A.cw, bl, u1, af, ak, al, Nat.zero_add]
 exact eP hr fq fp (show 2<12 by decide) _ u2
omit hG x in
theorem is103:bO Tryz.prog 103 Tryz.f103:=⟨by kernel_rfl,by kernel_rfl,by kernel_rfl,by kernel_rfl⟩
set_option maxRecDepth 100000 in
theorem r103 : ∃ s' h',CW 103 [mv m s] h=some (mv (sObj m) s',h')∧Has h' s' (sObj m)∧Old h h':=by
 obtain ⟨h1,b1,o1,x1,A,-⟩:=m_box x
 have hr:Tryz.f103.results.toList = [.cell 2 37]:=by kernel_rfl
 have bl:bU Zl [(44,32,.agg (bP m.obj).toArray)]=some (mv (sObj m) aZ):=by
  have e1:de Zl [(44,32,.agg (bP m.obj).toArray)]=de ((aO.z.d.cells aZ).take 44++(bP z32++(aO.z.d.cells aZ).drop 76)) [(44,32,.agg (bP m.obj).toArray)]:=by
   rfl
  unfold bU
  rw [e1,gq (A:=(aO.z.d.cells aZ).take 44) (B:=bP z32) (o:=44) (n:=32) rfl rfl rfl (bX x.wf.obj)]
  rfl
 have X:Has h aZ (sObj m):=⟨⟨.nil _ _,.nil _ _,.nil _ _,.nil _ _,.nil _ _,.nil _ _⟩,sObj_wf x.wf⟩
 obtain ⟨hz,h2,z1,oz,u1,u2,X2,o2,_⟩:=made o1 X
 have A:=m_ld (x1.bA oz) (Old.get oz A.g)
 refine ⟨_,h2,aF is103 hG rfl ((t103_eq _ _ _).trans ?_),X2,o2⟩
 unfold t103
 simp -implicitDefEqProofs only [b1, z1, A.cu, bl, u1, af, ak, al, Nat.zero_add]
 exact eP hr fq fp (show 2<6 by decide) _ u2
omit hG x in
theorem is107:bO Tryz.prog 107 Tryz.f107:=⟨by kernel_rfl,by kernel_rfl,by kernel_rfl,by kernel_rfl⟩
set_option maxRecDepth 100000 in
theorem r107 : ∃ s' h',CW 107 [mv m s] h=some (mv (sPiece m) s',h')∧Has h' s' (sPiece m)∧Old h h':=by
 obtain ⟨h1,b1,o1,x1,A,-⟩:=m_box x
 have hr:Tryz.f107.results.toList = [.cell 2 37]:=by kernel_rfl
 have bl:bU Zl [(44,32,.agg (bP m.obj).toArray),(76,37,gv m s),(113,2,.agg #[.int .i64 m.cN,s.f])]=some (mv (sPiece m) ⟨aZ.a,aZ.b,aZ.c,aZ.d,s.e,s.f⟩):=by
  have hm:(m.d.eM s).length=37:=man_len (aO.ok x.wf)
  have e1:de Zl [(44,32,.agg (bP m.obj).toArray),(76,37,gv m s),(113,2,.agg #[.int .i64 m.cN,s.f])]=de ((aO.z.d.cells aZ).take 44++(bP z32++(aO.z.d.cells aZ).drop 76)) [(44,32,.agg (bP m.obj).toArray),(76,37,gv m s),(113,2,.agg #[.int .i64 m.cN,s.f])]:=rfl
  unfold bU
  rw [e1,gq (A:=(aO.z.d.cells aZ).take 44) (B:=bP z32) (o:=44) (n:=32) rfl rfl rfl (bX x.wf.obj)]
  have e2 : ∀ r,de ((aO.z.d.cells aZ).take 44++(bP m.obj++(aO.z.d.cells aZ).drop 76)) r=de (((aO.z.d.cells aZ).take 44++bP m.obj)++(aO.z.d.eM aZ++(aO.z.d.cells aZ).drop 113)) r:=fun r=>by
   rw [List.append_assoc];rfl
  rw [e2,gq (A:=(aO.z.d.cells aZ).take 44++bP m.obj) (B:=aO.z.d.eM aZ) (o:=76) (n:=37) rfl (by rw [List.length_append,bX x.wf.obj];rfl) rfl hm]
  have e3 : ∀ r,de (((aO.z.d.cells aZ).take 44++bP m.obj)++(m.d.eM s++(aO.z.d.cells aZ).drop 113)) r=de (((aO.z.d.cells aZ).take 44++(bP m.obj++m.d.eM s))++([.int .i64 0,.slice none 0 0] ++ [.int .i64 0])) r:=fun r=>by
   rw [List.append_assoc,List.append_assoc,List.append_assoc];rfl
  rw [e3,gq (A:=(aO.z.d.cells aZ).take 44++(bP m.obj++m.d.eM s)) (B := [.int .i64 0,.slice none 0 0]) (B' := [.int .i64 m.cN,s.f]) (o:=113) (n:=2) rfl (by rw [List.length_append,List.length_append,bX x.wf.obj,hm];rfl) rfl rfl]
  simp only [de,Option.map_some,List.append_assoc]
  rfl
 have X:Has h ⟨aZ.a,aZ.b,aZ.c,aZ.d,s.e,s.f⟩ (sPiece m):=⟨⟨.nil _ _,.nil _ _,.nil _ _,.nil _ _,x.sl.e,x.sl.f⟩,sPiece_wf x.wf⟩
 obtain ⟨hz,h2,z1,oz,u1,u2,X2,o2,_⟩:=made o1 X
 have l113':bD 2 (ptr h.next 113) hz=some (.agg #[.int .i64 m.cN,s.f],hz):=by
  have hm:(m.d.eM s).length=37:=man_len (aO.ok x.wf)
  have hr:(bP m.root).length=32:=bX x.wf.root
  have ho:(bP m.obj).length=32:=bX x.wf.obj
  have hf:=(ba x.sl.f).1
  exact gj (Old.get oz A.g) (A:=m.d.front s++(bP m.root++([s.d,.bool m.want]++(bP m.obj++m.d.eM s)))) (B := [.int .i64 m.cN,s.f]) (C := [.int .i64 m.code]) (by unfold bV.cells;simp only [List.append_assoc];rfl) (by
   have hf:(m.d.front s).length=10:=rfl
   simp only [List.length_append,hr,ho,hm,hf]
   rfl) rfl (by unfold Abs.bH;simp only [List.all_cons,List.all_nil,hf];rfl)
 have A:=m_ld (x1.bA oz) (Old.get oz A.g)
 refine ⟨_,h2,aF is107 hG rfl ((t107_eq _ _ _).trans ?_),X2,o2⟩
 unfold t107
 simp -implicitDefEqProofs only [b1, z1, A.cu, A.cg, l113', bl, u1, af, ak, al, Nat.zero_add]
 exact eP hr fq fp (show 2<10 by decide) _ u2
omit hG x in
theorem is119:bO Tryz.prog 119 Tryz.f119:=⟨by kernel_rfl,by kernel_rfl,by kernel_rfl,by kernel_rfl⟩
set_option maxRecDepth 100000 in
theorem r119 : ∃ s' h',CW 119 [mv m s] h=some (mv (sStored m) s',h')∧Has h' s' (sStored m)∧Old h h':=by
 obtain ⟨h1,b1,o1,x1,A,-⟩:=m_box x
 have hr:Tryz.f119.results.toList = [.cell 2 37]:=by kernel_rfl
 have bl:bU Zl [(44,32,.agg (bP m.obj).toArray),(115,1,.int .i64 m.code)]=some (mv (sStored m) aZ):=by
  have e1:de Zl [(44,32,.agg (bP m.obj).toArray),(115,1,.int .i64 m.code)]=de ((aO.z.d.cells aZ).take 44++(bP z32++(aO.z.d.cells aZ).drop 76)) [(44,32,.agg (bP m.obj).toArray),(115,1,.int .i64 m.code)]:=rfl
  unfold bU
  rw [e1,gq (A:=(aO.z.d.cells aZ).take 44) (B:=bP z32) (o:=44) (n:=32) rfl rfl rfl (bX x.wf.obj)]
  have e2 : ∀ r,de ((aO.z.d.cells aZ).take 44++(bP m.obj++(aO.z.d.cells aZ).drop 76)) r=de (((aO.z.d.cells aZ).take 44++(bP m.obj++((aO.z.d.cells aZ).drop 76).take 39))++([.int .i64 0] ++ [])) r:=fun r=>by
   rw [List.append_assoc,List.append_assoc];rfl
  have e3 : ∀ r,de (((aO.z.d.cells aZ).take 44++(bP m.obj++((aO.z.d.cells aZ).drop 76).take 39))++([.int .i64 0] ++ [])) ((115,1,.int .i64 m.code)::r)=de (((aO.z.d.cells aZ).take 44++(bP m.obj++((aO.z.d.cells aZ).drop 76).take 39))++([.int .i64 m.code] ++ [])) r:=fun r=>by
   have:=gq (z:=((aO.z.d.cells aZ).take 44++(bP m.obj++((aO.z.d.cells aZ).drop 76).take 39))++([.int .i64 0] ++ [])) (A:=(aO.z.d.cells aZ).take 44++(bP m.obj++((aO.z.d.cells aZ).drop 76).take 39)) (B := [.int .i64 0]) (B' := [.int .i64 m.code]) (o:=115) (n:=1) (rest:=r) rfl (by rw [List.length_append,List.length_append,bX x.wf.obj];rfl) rfl rfl
   exact this
  rw [e2,e3]
  simp only [de,Option.map_some,List.append_assoc]
  rfl
 have X:Has h aZ (sStored m):=⟨⟨.nil _ _,.nil _ _,.nil _ _,.nil _ _,.nil _ _,.nil _ _⟩,sStored_wf x.wf⟩
 obtain ⟨hz,h2,z1,oz,u1,u2,X2,o2,_⟩:=made o1 X
 have A:=m_ld (x1.bA oz) (Old.get oz A.g)
 refine ⟨_,h2,aF is119 hG rfl ((t119_eq _ _ _).trans ?_),X2,o2⟩
 unfold t119
 simp -implicitDefEqProofs only [b1, z1, A.cu, A.aY, bl, u1, af, ak, al, Nat.zero_add]
 exact eP hr fq fp (show 2<8 by decide) _ u2
end
end Go.Proofs.YtjghlcdidopcpaaGreatDoor

namespace Go.Proofs.YtjghlcdidopcpaaGreatDoor
open Go Go.Abs
attribute [local congr] aU
theorem is35:bO Tryz.prog 35 Tryz.f35:=⟨by kernel_rfl,by kernel_rfl,by kernel_rfl,by kernel_rfl⟩
theorem is19:bO Tryz.prog 19 Tryz.f19:=⟨by kernel_rfl,by kernel_rfl,by kernel_rfl,by kernel_rfl⟩
theorem a8 (a b:Value):aG (.tuple #[a,b]) 0=some a:=rfl
theorem a7 (a b:Value):aG (.tuple #[a,b]) 1=some b:=rfl
theorem fresh (cs:List Value) (h:aj) : ∃ h2,cL cs h=some (ptr h.next 0,h2)∧Old h h2∧h2.get h.next=some cs∧h2.next=h.next+1:=
 ⟨_,newC_eq _ _,Kept.alloc _ _ _,by rw [aj.aS,if_pos rfl],rfl⟩
theorem stored {h:aj} {b o:Nat} {k:dB} {v:Value} (g:h.get b=some k) (hn:h.n0≤b) (ho:o<k.length) (hc:v.cells = #[v]) (hv:v.oneCell'=true) : ∃ h2,bw 1 (ptr b o) v h=some (undef,h2)∧Kept h h2 (· = b)∧h2.get b=some (k.set o v)∧h2.n0≤b∧h2.next=h.next:=
 ⟨_,stN1_at g ho hn hc hv,Kept.set hn g (.inr rfl),aj.cx hn g _,hn,rfl⟩
theorem bJ {h:aj} {b n:Nat} {k k':dB} (g:h.get b=some k) (hn:h.n0≤b) (hl:k.length=n) (hl':k'.length=n) (ho:aQ k'=true) : ∃ h2,bw n (ptr b 0) (.agg k'.toArray) h=some (undef,h2)∧Kept h h2 (· = b)∧h2.get b=some k'∧h2.n0≤b∧h2.next=h.next:=
 ⟨_,stN_whole g hn hl hl' ho,Kept.set hn g (.inr rfl),aj.cx hn g _,hn,rfl⟩
theorem fmC_at : ∀ k,k<14→(formsC.drop (k*5)).take 5=fmC k:=fun k hk=>by
 match k,hk with
 | 0,_=>rfl
 | 1,_=>rfl
 | 2,_=>rfl
 | 3,_=>rfl
 | 4,_=>rfl
 | 5,_=>rfl
 | 6,_=>rfl
 | 7,_=>rfl
 | 8,_=>rfl
 | 9,_=>rfl
 | 10,_=>rfl
 | 11,_=>rfl
 | 12,_=>rfl
 | 13,_=>rfl
theorem fmC_not {k:Nat} (h:kindOk k=false):fmC k = [(.string ⟨#[]⟩),.nilFunc,.nilFunc,.nilFunc,.nilFunc]:=by
 by_cases h0:k=0
 ·subst h0;rfl
 ·by_cases h1:14≤k
  ·obtain ⟨n,rfl⟩ : ∃ n,k=n+14:=⟨k-14,by omega⟩
   rfl
  ·exfalso
   have:kindOk k=true:=by
    unfold kindOk
    rw [Nat.ble_eq_true_of_le (by omega),Nat.ble_eq_true_of_le (by omega)];rfl
   rw [this] at h;cases h
theorem fmC_ok (k:Nat):Abs.bH (fmC k)=true∧aQ (fmC k)=true∧(fmC k).length=5:=by
 have h:=fun v (hv:v∈fmC k)=>fmC_flat k v hv
 have key : ∀ v,flat v=true→isHole v=false∧v.oneCell'=true:=fun v hv=>by
  cases v<;>first|exact ⟨rfl,rfl⟩|(simp [flat] at hv)|skip
  all_goals first|exact ⟨rfl,rfl⟩|skip
  ·rename_i a;cases a<;>first|exact ⟨rfl,rfl⟩|simp [] at hv
 refine ⟨?_,?_,rfl⟩
 ·unfold Abs.bH
  rw [List.all_eq_true]
  exact fun v hv=>by rw [(key v (h v hv)).1];rfl
 ·unfold aQ
  rw [List.all_eq_true]
  exact fun v hv=>(key v (h v hv)).2
theorem formsC_ok:aQ formsC=true∧formsC.length=70:=by
 refine ⟨?_,rfl⟩
 unfold aQ
 rw [List.all_eq_true]
 intro v hv
 obtain ⟨k,_,hk⟩:=List.mem_flatMap.1 hv
 have:=(fmC_ok k).2.1
 unfold aQ at this
 rw [List.all_eq_true] at this
 exact this v hk
theorem r35 {h:aj} (hG:4≤h.n0) {k:Nat} (hk:k<256) : ∃ h',CW 35 [.int .u8 (k:Int)] h=some (.tuple #[.agg (fmC k).toArray,.bool (kindOk k)],h')∧Old h h':=by
 have hr:Tryz.f35.results.toList = [.cell 2 75,.tmp 3]:=by kernel_rfl
 have a75:aggT Tryz.prog 75=some true:=by kernel_rfl
 have s75:cD Tryz.prog 75=some 5:=by kernel_rfl
 obtain ⟨h1,z1,o1,g1,n1⟩:=fresh [(.string ⟨#[]⟩),.nilFunc,.nilFunc,.nilFunc,.nilFunc] h
 have f77:=r77 h1
 obtain ⟨h2,z2,o2,g2,n2⟩:=fresh [(.string ⟨#[]⟩),.nilFunc,.nilFunc,.nilFunc,.nilFunc,(.string ⟨#[]⟩),.nilFunc,.nilFunc,.nilFunc,.nilFunc,(.string ⟨#[]⟩),.nilFunc,.nilFunc,.nilFunc,.nilFunc,(.string ⟨#[]⟩),.nilFunc,.nilFunc,.nilFunc,.nilFunc,(.string ⟨#[]⟩),.nilFunc,.nilFunc,.nilFunc,.nilFunc,(.string ⟨#[]⟩),.nilFunc,.nilFunc,.nilFunc,.nilFunc,(.string ⟨#[]⟩),.nilFunc,.nilFunc,.nilFunc,.nilFunc,(.string ⟨#[]⟩),.nilFunc,.nilFunc,.nilFunc,.nilFunc,(.string ⟨#[]⟩),.nilFunc,.nilFunc,.nilFunc,.nilFunc,(.string ⟨#[]⟩),.nilFunc,.nilFunc,.nilFunc,.nilFunc,(.string ⟨#[]⟩),.nilFunc,.nilFunc,.nilFunc,.nilFunc,(.string ⟨#[]⟩),.nilFunc,.nilFunc,.nilFunc,.nilFunc,(.string ⟨#[]⟩),.nilFunc,.nilFunc,.nilFunc,.nilFunc,(.string ⟨#[]⟩),.nilFunc,.nilFunc,.nilFunc,.nilFunc] h1
 have l70:([(.string ⟨#[]⟩),.nilFunc,.nilFunc,.nilFunc,.nilFunc,(.string ⟨#[]⟩),.nilFunc,.nilFunc,.nilFunc,.nilFunc,(.string ⟨#[]⟩),.nilFunc,.nilFunc,.nilFunc,.nilFunc,(.string ⟨#[]⟩),.nilFunc,.nilFunc,.nilFunc,.nilFunc,(.string ⟨#[]⟩),.nilFunc,.nilFunc,.nilFunc,.nilFunc,(.string ⟨#[]⟩),.nilFunc,.nilFunc,.nilFunc,.nilFunc,(.string ⟨#[]⟩),.nilFunc,.nilFunc,.nilFunc,.nilFunc,(.string ⟨#[]⟩),.nilFunc,.nilFunc,.nilFunc,.nilFunc,(.string ⟨#[]⟩),.nilFunc,.nilFunc,.nilFunc,.nilFunc,(.string ⟨#[]⟩),.nilFunc,.nilFunc,.nilFunc,.nilFunc,(.string ⟨#[]⟩),.nilFunc,.nilFunc,.nilFunc,.nilFunc,(.string ⟨#[]⟩),.nilFunc,.nilFunc,.nilFunc,.nilFunc,(.string ⟨#[]⟩),.nilFunc,.nilFunc,.nilFunc,.nilFunc,(.string ⟨#[]⟩),.nilFunc,.nilFunc,.nilFunc,.nilFunc]:dB).length=70:=rfl
 have p2:h2.n0≤h1.next:=by rw [o2.n0];exact h1.aK
 obtain ⟨h3,s2,k3,g3,-,-⟩:=bJ (n:=70) g2 p2 l70 formsC_ok.2 formsC_ok.1
 have g31:=k3.dj (Old.get o2 g1) (by omega)
 have O3:Old h h3:=(o1.trans o2).cE k3 (fun d hd e=>by omega)
 have p3:h3.n0≤h.next:=by rw [O3.n0];exact h.aK
 have c:=fmC_ok k
 obtain ⟨h4,s4,k4,g4,-,-⟩:=bJ (n:=5) (k':=fmC k) g31 p3 rfl c.2.2 c.2.1
 have O4:Old h h4:=O3.cE k4 (fun d hd e=>by omega)
 have l4:bD 5 (ptr h.next 0) h4=some (.agg (fmC k).toArray,h4):=gj g4 (A := []) (B:=fmC k) (C := []) (by simp) rfl c.2.2 c.1
 have hw:IntKind.wrap .i64 ((k:Nat):Int)=(k:Int):=wrap_i64 (by omega) (by omega)
 refine ⟨h4,aF is35 hG rfl ((t35_eq _ _ _).trans ?_),O4⟩
 unfold t35
 by_cases h0:k<1
 ·have q0:decide ((k:Int)<1)=true:=decide_eq_true (by omega)
  have hn:kindOk k=false:=by
   obtain rfl:k=0:=by omega
   rfl
  have bz:bU [(.string ⟨#[]⟩),.nilFunc,.nilFunc,.nilFunc,.nilFunc] []=some (.agg (fmC k).toArray):=by rw [fmC_not hn];rfl
  simp -implicitDefEqProofs only [z1, f77, z2, s2, q0, bz, s4, af, ak, ao, sf, ah, if_true, aC]
  rw [bp hr a75 s75 (show 2<17 by decide) (show 3<17 by decide) _ l4,hn]
  rfl
 ·have q0:decide ((k:Int)<1)=false:=decide_eq_false (by omega)
  by_cases h1':14≤k
  ·have q1:decide ((k:Int)≥14)=true:=decide_eq_true (by omega)
   have hn:kindOk k=false:=by
    unfold kindOk
    rw [show Nat.ble k 13=false by
     cases hb:Nat.ble k 13 with
     |false=>rfl
     |true=>have:=Nat.le_of_ble_eq_true hb;omega,Bool.and_false]
   have bz:bU [(.string ⟨#[]⟩),.nilFunc,.nilFunc,.nilFunc,.nilFunc] []=some (.agg (fmC k).toArray):=by rw [fmC_not hn];rfl
   simp -implicitDefEqProofs only [z1, f77, z2, s2, q0, bq, hw, q1, bz, s4, af, ak, ao, beq_self_eq_true, ai, Bool.false_eq_true, if_false, aE, aC]
   rw [bp hr a75 s75 (show 2<17 by decide) (show 3<17 by decide) _ l4,hn]
   rfl
  ·have q1:decide ((k:Int)≥14)=false:=decide_eq_false (by omega)
   have hy:kindOk k=true:=by
    unfold kindOk
    rw [Nat.ble_eq_true_of_le (by omega),Nat.ble_eq_true_of_le (by omega)];rfl
   have ix:idxA 14 5 (ptr h1.next 0) (.int .u8 (k:Int))=some (ptr h1.next (k*5)):=by
    unfold idxA
    simp only
    rw [if_pos (by omega),Int.toNat_natCast,al,Nat.zero_add]
   have l5:bD 5 (ptr h1.next (k*5)) h3=some (.agg (fmC k).toArray,h3):=by
    have:=ldN_at (o:=k*5) (n:=5) g3 (by rw [formsC_ok.2];omega) (by rw [fmC_at k (by omega)];exact c.1)
    rw [fmC_at k (by omega)] at this
    exact this
   simp -implicitDefEqProofs only [z1, f77, z2, s2, q0, bq, hw, q1, ix, l5, s4, af, ak, ao, beq_self_eq_true, ai, Bool.false_eq_true, if_false, aE, aC]
   rw [bp hr a75 s75 (show 2<17 by decide) (show 3<17 by decide) _ l4,hy]
   rfl
def chkB (k:Nat) (m:aO):Bool:=match k with
 | 1|2|3=>tabB m
 | 4|5=>rangeB m
 | 8|10=>pceB m
 | 11=>codeB m
 |_=>true
def stripM (k:Nat) (m:aO):aO:=match k with
 | 1|2=>sPing m
 | 3=>sReq m
 | 4=>sSum m
 | 5=>sItems m
 | 8|10=>sPiece m
 | 11=>sStored m
 |_=>sObj m
def fullM (m:aO):aO:={ stripM m.kind m with kind:=m.kind,from_:=m.from_,to_:=m.to_ }
def ft (m:aO):Bool:=kindOk m.kind&&gw m.from_&&gw m.to_ && !(m.from_==m.to_)&&chkB m.kind m&&decide (m=fullM m)
theorem kinds {k:Nat} (h:kindOk k=true):k=1∨k=2∨k=3∨k=4∨k=5∨k=6∨k=7∨k=8∨k=9∨k=10∨k=11∨k=12∨k=13:=by
 unfold kindOk at h
 rw [Bool.and_eq_true] at h
 have h1:=Nat.le_of_ble_eq_true h.1
 have h2:=Nat.le_of_ble_eq_true h.2
 omega
theorem stripM_wf {k:Nat} {m:aO} (hk:kindOk k=true) (w:m.Wf):(stripM k m).Wf:=by
 rcases kinds hk with rfl|rfl|rfl|rfl|rfl|rfl|rfl|rfl|rfl|rfl|rfl|rfl|rfl
 ·exact sPing_wf w
 ·exact sPing_wf w
 ·exact sReq_wf w
 ·exact sSum_wf w
 ·exact sItems_wf w
 ·exact sObj_wf w
 ·exact sObj_wf w
 ·exact sPiece_wf w
 ·exact sObj_wf w
 ·exact sPiece_wf w
 ·exact sStored_wf w
 ·exact sObj_wf w
 ·exact sObj_wf w
theorem fullM_wf {m:aO} (hk:kindOk m.kind=true) (w:m.Wf):(fullM m).Wf:={ stripM_wf hk w with kind:=w.kind,from_:=w.from_,to_:=w.to_ }
section
variable {h:aj} {s:cR} {m:aO} (hG:4≤h.n0) (x:Has h s m)
include hG x
theorem chk_call {k:Nat} (hk:kindOk k=true) : ∃ h',callA Tryz.prog CW (fnV (fmN k).2.1) [mv m s] h=some (.bool (chkB k m),h')∧Old h h':=by
 rcases kinds hk with rfl|rfl|rfl|rfl|rfl|rfl|rfl|rfl|rfl|rfl|rfl|rfl|rfl
 ·exact (bx CW 95 _ h).symm▸r95 hG x
 ·exact (bx CW 95 _ h).symm▸r95 hG x
 ·exact (bx CW 95 _ h).symm▸r95 hG x
 ·exact (bx CW 111 _ h).symm▸r111 hG x
 ·exact (bx CW 111 _ h).symm▸r111 hG x
 ·exact (bx CW 102 _ h).symm▸r102 hG x
 ·exact (bx CW 102 _ h).symm▸r102 hG x
 ·exact (bx CW 106 _ h).symm▸r106 hG x
 ·exact (bx CW 102 _ h).symm▸r102 hG x
 ·exact (bx CW 106 _ h).symm▸r106 hG x
 ·exact (bx CW 118 _ h).symm▸r118 hG x
 ·exact (bx CW 102 _ h).symm▸r102 hG x
 ·exact (bx CW 102 _ h).symm▸r102 hG x
theorem strip_call {k:Nat} (hk:kindOk k=true) : ∃ s' h',callA Tryz.prog CW (fnV (fmN k).2.2.1) [mv m s] h=some (mv (stripM k m) s',h')∧Has h' s' (stripM k m)∧Old h h':=by
 rcases kinds hk with rfl|rfl|rfl|rfl|rfl|rfl|rfl|rfl|rfl|rfl|rfl|rfl|rfl
 ·exact (bx CW 96 _ h).symm▸r96 hG x
 ·exact (bx CW 96 _ h).symm▸r96 hG x
 ·exact (bx CW 99 _ h).symm▸r99 hG x
 ·exact (bx CW 112 _ h).symm▸r112 hG x
 ·exact (bx CW 115 _ h).symm▸r115 hG x
 ·exact (bx CW 103 _ h).symm▸r103 hG x
 ·exact (bx CW 103 _ h).symm▸r103 hG x
 ·exact (bx CW 107 _ h).symm▸r107 hG x
 ·exact (bx CW 103 _ h).symm▸r103 hG x
 ·exact (bx CW 107 _ h).symm▸r107 hG x
 ·exact (bx CW 119 _ h).symm▸r119 hG x
 ·exact (bx CW 103 _ h).symm▸r103 hG x
 ·exact (bx CW 103 _ h).symm▸r103 hG x
theorem r22m {s':cR} {m':aO} (x':Has h s' m') (sm:m.n.Small) : ∃ h',CW 22 [mv m s,mv m' s'] h=some (.bool (decide (m=m')),h')∧Old h h':=by
 obtain ⟨r,h',e,hr,o⟩:=r22 hG x.sl x'.sl (aO.ok x.wf) (aO.ok x'.wf) sm
 refine ⟨h',?_,o⟩
 have:r=decide (m=m'):=by
  by_cases q:m=m'
  ·rw [decide_eq_true q,hr.2 (by rw [q])]
  ·rw [decide_eq_false q]
   cases r with
   |false=>rfl
   |true=>exact absurd (aO.d_inj x.wf x'.wf (hr.1 rfl)) q
 rw [←this];exact e
set_option maxRecDepth 100000 in
theorem r19 (sm:m.n.Small) : ∃ h',CW 19 [mv m s] h=some (.int .i64 (if ft m then 0 else 2),h')∧Old h h':=by
 obtain ⟨h1,b1,o1,x1,A,n1,-⟩:=m_box x
 have hG1:4≤h1.n0:=by rw [o1.n0];exact hG
 obtain ⟨h2,e2,o2⟩:=r35 hG1 x.wf.kind
 have O2:=o1.trans o2
 obtain ⟨h3,z3,o3,g3,_⟩:=fresh [(.string ⟨#[]⟩),.nilFunc,.nilFunc,.nilFunc,.nilFunc] h2
 have c:=fmC_ok m.kind
 have p3:h3.n0≤h2.next:=by rw [o3.n0];exact h2.aK
 obtain ⟨h4,s4,k4,g4,-,-⟩:=bJ (n:=5) (k':=fmC m.kind) g3 p3 rfl c.2.2 c.2.1
 have o24:Old h2 h4:=o3.cE k4 (fun d hd e=>by omega)
 have O4:=O2.trans o24
 have o14:=o2.trans o24
 have hG4:4≤h4.n0:=by rw [O4.n0];exact hG
 have x4:=x1.bA o14
 have A4:=m_ld x4 (Old.get o14 A.g)
 have f1:aN (ptr h2.next 1) h4=some (fnV (fmN m.kind).2.1,h4):=aV g4 rfl (by unfold fnV;split<;>rfl)
 have e5:=r46 hG4 m.from_
 have e6:=r46 hG4 m.to_
 cases q0:kindOk m.kind with
 |false=>
  refine ⟨h4,aF is19 hG rfl ((t19_eq _ _ _).trans ?_),O4⟩
  unfold t19 ft
  simp -implicitDefEqProofs only [b1, A.l0, e2, a8, a7, z3, s4, af, ak, ao, sf, ah, Bool.false_eq_true, if_false, if_true, al, Nat.zero_add, Bool.not_false, av, q0, Bool.and_true, Bool.false_and, Bool.not_false]
 |true=>
 cases q1:gw m.from_ with
 |false=>
  refine ⟨h4,aF is19 hG rfl ((t19_eq _ _ _).trans ?_),O4⟩
  unfold t19 ft
  simp -implicitDefEqProofs only [b1, A.l0, e2, a8, a7, z3, s4, A4.l1, e5, af, ak, ao, sf, beq_self_eq_true, ai, ah, Bool.false_eq_true, if_false, if_true, al, Nat.zero_add, Bool.not_true, Bool.not_false, av, q0, q1, Bool.and_true, Bool.and_false, Bool.false_and, Bool.not_true, Bool.not_false]
 |true=>
 cases q2:gw m.to_ with
 |false=>
  refine ⟨h4,aF is19 hG rfl ((t19_eq _ _ _).trans ?_),O4⟩
  unfold t19 ft
  simp -implicitDefEqProofs only [b1, A.l0, e2, a8, a7, z3, s4, A4.l1, e5, A4.l2, e6, af, ak, ao, sf, beq_self_eq_true, ai, ah, Bool.false_eq_true, if_false, if_true, al, Nat.zero_add, Bool.not_true, Bool.not_false, av, q0, q1, q2, Bool.and_true, Bool.and_false, Bool.false_and, Bool.not_true, Bool.not_false]
 |true=>
 cases q3:m.from_==m.to_ with
 |true=>
  refine ⟨h4,aF is19 hG rfl ((t19_eq _ _ _).trans ?_),O4⟩
  unfold t19 ft
  simp -implicitDefEqProofs only [b1, A.l0, e2, a8, a7, z3, s4, A4.l1, e5, A4.l2, e6, af, ak, ao, sf, beq_self_eq_true, ai, ah, Bool.false_eq_true, if_false, if_true, al, Nat.zero_add, Bool.not_true, av, az, q0, q1, q2, q3, Bool.and_true, Bool.and_false, Bool.false_and, Bool.not_true]
 |false=>
 obtain ⟨h5,e7,o5⟩:=chk_call hG4 x4 q0
 cases q4:chkB m.kind m with
 |false=>
  refine ⟨h5,aF is19 hG rfl ((t19_eq _ _ _).trans ?_),O4.trans o5⟩
  unfold t19 ft
  simp -implicitDefEqProofs only [b1, A.l0, e2, a8, a7, z3, s4, A4.l1, e5, A4.l2, e6, f1, A4.all, e7, af, ak, ao, beq_self_eq_true, ai, Bool.false_eq_true, if_false, al, Nat.zero_add, Bool.not_true, Bool.not_false, av, az, q0, q1, q2, q3, q4, Bool.and_true, Bool.and_false, Bool.false_and, Bool.not_true, Bool.not_false]
 |true=>
 have O5:=O4.trans o5
 have x5:=x4.bA o5
 have A5:=m_ld x5 (Old.get o5 A4.g)
 have g5:=Old.get o5 g4
 have hG5:4≤h5.n0:=by rw [O5.n0];exact hG
 have f2:aN (ptr h2.next 2) h5=some (fnV (fmN m.kind).2.2.1,h5):=aV g5 rfl (by unfold fnV;split<;>rfl)
 obtain ⟨s6,h6,e8,X6,o6⟩:=strip_call hG5 x5 q0
 obtain ⟨hz,h7,z7,oz,u7,-,X7,o7,g7,o7'⟩:=made (Kept.refl h6 _) X6
 have O7:=(O5.trans o6).trans o7
 have A7:=m_ld ((x5.bA o6).bA o7) (Old.get o7 (Old.get o6 A5.g))
 have hlt:h.next<h6.next:=by
  have:=(o14.trans (o5.trans o6)).next
  omega
 have nz:h6.next≠h.next:=by omega
 have p7:h7.n0≤h6.next:=by rw [o7.n0];exact h6.aK
 have len7:(m.d.cells s).length=116:=fS (aO.ok x.wf)
 have len7':((stripM m.kind m).d.cells s6).length=116:=fS (aO.ok (stripM_wf q0 x.wf))
 obtain ⟨h8,t0,k8,g8,p8,-⟩:=stored (v := .int .u8 (m.kind:Int)) (o:=0) g7 p7 (by omega) rfl rfl
 obtain ⟨h9,t1,k9,g9,p9,-⟩:=stored (v := .int .i64 m.from_) (o:=1) g8 p8 (by rw [List.length_set];omega) rfl rfl
 obtain ⟨h10,t2,k10,g10,-,-⟩:=stored (v := .int .i64 m.to_) (o:=2) g9 p9 (by rw [List.length_set,List.length_set];omega) rfl rfl
 have g10:h10.get h6.next=some ((fullM m).d.cells s6):=g10
 have kk:=(k8.trans k9).trans k10
 have o610:Old h6 h10:=o7'.cE kk (fun d hd e=>by omega)
 have O10:=(O5.trans o6).trans o610
 have x10:=(x5.bA o6).bA o610
 have A10:=m_ld x10 (Old.get o610 (Old.get o6 A5.g))
 have X10:Has h10 s6 (fullM m):=⟨⟨(X6.bA o610).sl.a,(X6.bA o610).sl.b,(X6.bA o610).sl.c,(X6.bA o610).sl.d,(X6.bA o610).sl.e,(X6.bA o610).sl.f⟩,fullM_wf q0 x.wf⟩
 have B10:=m_ld X10 g10
 have l1:aN (ptr h.next 1) h8=some (.int .i64 m.from_,h8):=aV (k8.dj A7.g (fun e=>nz e.symm)) rfl
 have l2:aN (ptr h.next 2) h8=some (.int .i64 m.to_,h8):=aV (k8.dj A7.g (fun e=>nz e.symm)) rfl
 have l2':aN (ptr h.next 2) h9=some (.int .i64 m.to_,h9):=aV (k9.dj (k8.dj A7.g (fun e=>nz e.symm)) (fun e=>nz e.symm)) rfl
 have w1:=fM l1 (by simp [Abs.fb])
 have w2:=fM l2 (by simp [Abs.fb])
 have w3:=fM l2' (by simp [Abs.fb])
 obtain ⟨h11,e11,o11⟩:=r22m (by rw [O10.n0];exact hG) x10 X10 sm
 refine ⟨h11,aF is19 hG rfl ((t19_eq _ _ _).trans ?_),O10.trans o11⟩
 unfold t19 ft
 cases q5:decide (m=fullM m) with
 |false=>
  rw [q5] at e11
  simp -implicitDefEqProofs only [b1, A.l0, e2, a8, a7, z3, s4, A4.l1, e5, A4.l2, e6, f1, A4.all, e7, f2, A5.all, e8, z7, u7, A7.l0, A7.l1, A7.l2, t0, t1, t2, w1, w2, w3, A10.all, B10.all, e11, af, ak, ao, beq_self_eq_true, ai, Bool.false_eq_true, if_false, al, Nat.zero_add, Bool.not_true, Bool.not_false, av, az, q0, q1, q2, q3, q4, Bool.and_true, Bool.and_false, Bool.not_true, Bool.not_false]
 |true=>
  rw [q5] at e11
  simp -implicitDefEqProofs only [b1, A.l0, e2, a8, a7, z3, s4, A4.l1, e5, A4.l2, e6, f1, A4.all, e7, f2, A5.all, e8, z7, u7, A7.l0, A7.l1, A7.l2, t0, t1, t2, w1, w2, w3, A10.all, B10.all, e11, af, ak, ao, beq_self_eq_true, ai, Bool.false_eq_true, if_false, if_true, al, Nat.zero_add, Bool.not_true, Bool.not_false, av, az, q0, q1, q2, q3, q4, Bool.and_true, Bool.not_true, Bool.not_false]
end
end Go.Proofs.YtjghlcdidopcpaaGreatDoor

namespace Go.Proofs.YtjghlcdidopcpaaGreatDoor
open Go Go.Abs
attribute [local congr] aU
theorem is34:bO Tryz.prog 34 Tryz.f34:=⟨by kernel_rfl,by kernel_rfl,by kernel_rfl,by kernel_rfl⟩
theorem r34 {h:aj} (hG:4≤h.n0) {a:Option Addr} {n c:Nat} {l:List Nat} (hl:ay a n h=some l) (hn:n<9223372036854775807) : ∃ h',CW 34 [.slice a n c] h=some (u32 (crcN l),h')∧Old h h':=by
 obtain ⟨h1,e,o⟩:=t34_is (C:=CW) a n c l h hl hn
 exact ⟨h1,aF is34 hG rfl ((t34_eq _ _ _).trans e),o⟩
theorem agg28:aggT Tryz.prog 28=some true:=by kernel_rfl
theorem siz28:cD Tryz.prog 28=some 32:=by kernel_rfl
theorem arr32 (b o:Nat):eX 32 1 (ptr b o) none none none=some (.slice (some ⟨b,o,none⟩) 32 32):=by
 unfold eX
 rfl
theorem IsR.dY {h h':aj} {B:Nat→Prop} {p r:Nat} {l:List Nat} {e:Int} (R:IsR h p r l e) (k:Kept h h' B) (hB : ∀ b,b=r∨(p≤b∧b<r) → ¬B b):IsR h' p r l e:=by
 obtain ⟨a,n,c,h1,h2,h3,h4⟩:=R.ex
 exact ⟨⟨a,n,c,k.dj h1 (hB r (.inl rfl)),k.bytes h2 (fun y hy _=>hB _ (.inr (h4 y hy))),h3,h4⟩,k.n0▸R.n0,R.len,k.n0▸R.g4,R.pr⟩
theorem pad_len {m:List Nat} (h:m.length≤32):(eH m).length=32:=by
 unfold eH
 rw [List.length_append,List.length_replicate]
 omega
theorem splice_pad {m:List Nat} {n:Nat} (hn:m.length=n) (h:n≤32):spliceN z32 0 (m.take (min n 32))=eH m:=by
 unfold spliceN eH z32
 rw [Nat.min_eq_left h,List.take_of_length_le (l:=m) (by omega),List.take_zero,List.nil_append,Nat.zero_add,List.drop_replicate]
theorem cJ (l:List Nat):Abs.bH (bP l)=true∧aQ (bP l)=true:=by
 refine ⟨?_,?_⟩
 ·unfold Abs.bH
  rw [List.all_eq_true]
  intro v hv
  obtain ⟨x,_,rfl⟩:=List.mem_map.1 hv
  rfl
 ·unfold aQ
  rw [List.all_eq_true]
  intro v hv
  obtain ⟨x,_,rfl⟩:=List.mem_map.1 hv
  rfl
theorem cA {h:aj} {b n:Nat} {k:List Value} (g:h.get b=some k) (hl:k.length=n) (nh:Abs.bH k=true):bD n (ptr b 0) h=some (.agg k.toArray,h):=gj g (A := []) (B:=k) (C := []) (by simp) rfl hl nh
section
variable {p r:Nat} {s:Rd} {h:aj} (R:fA h p r s)
include R
theorem q130 : ∃ h',CW 130 [ptr r 0] h=some (.agg (bP (eH (s.take 32).1)).toArray,h')∧fA h' p r (s.take 32).2∧Kept h h' (fun c=>c=r):=by
 have hr:Tryz.f130.results.toList = [.cell 2 28]:=by kernel_rfl
 have rl:r<h.next:=R.lt
 obtain ⟨h1,z1,o1,g1,n1⟩:=fresh (List.replicate 32 (.int .u8 0)) h
 have R1:fA h1 p r s:=R.dY o1 (fun _ _ h=>h)
 obtain ⟨a,c,h2,e2,f2,f3,R2,k2,_⟩:=q74 R1 (n:=32)
 have e2:CW 74 [ptr r 0,.int .i64 32] h1=_:=e2
 have g2:h2.get h.next=some (bP z32):=k2.dj g1 (by omega)
 have p2:h2.n0≤h.next:=by rw [k2.n0,o1.n0];exact h.aK
 have hl:=s.eD 32
 have hm:(s.take 32).1.length=(s.take 32).1.length:=rfl
 obtain ⟨h3,e3,q1,q2,q3,q4⟩:=copy_bytes (dl:=32) (dc:=32) (c:=c) (s:=none) (off:=0) (b:=h.next) g2 p2 f2 (by
  show 0+min _ 32≤32
  omega)
 rw [splice_pad rfl hl] at q3
 have k3:Kept h2 h3 (fun c=>c=h.next):=⟨q1,by omega,fun d _ hd=>q4 d hd⟩
 have p3:h3.n0≤h.next:=by rw [q1];exact p2
 have hpl:(bP (eH (s.take 32).1)).length=32:=by rw [List.length_map];exact pad_len hl
 have l3:=cA (n:=32) q3 hpl (cJ _).1
 obtain ⟨h4,t4,k4,g4,_,_⟩:=bJ (n:=32) q3 p3 hpl hpl (cJ _).2
 have l4:=cA (n:=32) g4 hpl (cJ _).1
 have kk:=k3.trans k4
 refine ⟨h4,aF is130 R.g4 rfl ((t130_eq _ _ _).trans ?_),R2.dY kk (fun b hb e=>by omega),((o1.mono (B':=fun c=>c=r) (fun _ _ h=>h.elim)).trans k2).cE kk (fun d hd e=>by omega)⟩
 unfold t130
 simp -implicitDefEqProofs only [z1,af,arr32,ak,e2,e3,l3,t4]
 exact eP hr agg28 siz28 (show 2<8 by decide) _ l4
theorem q149 : ∃ h',CW 149 [ptr r 0] h=some (.agg (bP (eH (s.take 32).1)).toArray,h')∧fA h' p r (s.take 32).2∧Kept h h' (fun c=>c=r):=by
 have hr:Tryz.f149.results.toList = [.cell 2 28]:=by kernel_rfl
 have rl:r<h.next:=R.lt
 obtain ⟨h0,z0,o0,g0,n0⟩:=fresh (List.replicate 32 (.int .u8 0)) h
 have R0:fA h0 p r s:=R.dY o0 (fun _ _ h=>h)
 obtain ⟨h1,z1,o1,g1,n1⟩:=fresh (List.replicate 32 (.int .u8 0)) h0
 have R1:fA h1 p r s:=R0.dY o1 (fun _ _ h=>h)
 obtain ⟨a,c,h2,e2,f2,f3,R2,k2,_⟩:=q94 R1 32
 have e2:CW 94 [ptr r 0,.int .i64 32] h1=_:=e2
 have g2:h2.get h0.next=some (bP z32):=k2.dj g1 (by omega)
 have g02:=k2.dj (Old.get o1 g0) (by omega)
 have p2:h2.n0≤h0.next:=by rw [k2.n0,o1.n0];exact h0.aK
 have hl:=s.eD 32
 obtain ⟨h3,e3,q1,q2,q3,q4⟩:=copy_bytes (dl:=32) (dc:=32) (c:=c) (s:=none) (off:=0) (b:=h0.next) g2 p2 f2 (by
  show 0+min _ 32≤32
  omega)
 rw [splice_pad rfl hl] at q3
 have k3:Kept h2 h3 (fun c=>c=h0.next):=⟨q1,by omega,fun d _ hd=>q4 d hd⟩
 have hpl:(bP (eH (s.take 32).1)).length=32:=by rw [List.length_map];exact pad_len hl
 have l3:=cA (n:=32) q3 hpl (cJ _).1
 have g03:=k3.dj g02 (by omega)
 have p3:h3.n0≤h.next:=by rw [q1,k2.n0,o1.n0,o0.n0];exact h.aK
 obtain ⟨h4,t4,k4,g4,_,_⟩:=bJ (n:=32) (k':=bP (eH (s.take 32).1)) g03 p3 rfl hpl (cJ _).2
 have l4:=cA (n:=32) g4 hpl (cJ _).1
 refine ⟨h4,aF is149 R.g4 rfl ((t149_eq _ _ _).trans ?_),(R2.dY k3 (fun b hb e=>by omega)).dY k4 (fun b hb e=>by omega),((((o0.trans o1).mono (B':=fun c=>c=r) (fun _ _ h=>h.elim)).trans k2).cE k3 (fun d hd e=>by omega)).cE k4 (fun d hd e=>by omega)⟩
 unfold t149
 simp -implicitDefEqProofs only [z0,z1,af,arr32,ak,e2,e3,l3,t4]
 exact eP hr agg28 siz28 (show 2<9 by decide) _ l4
end
end Go.Proofs.YtjghlcdidopcpaaGreatDoor

namespace Go.Proofs.YtjghlcdidopcpaaGreatDoor
open Go Go.Abs
attribute [local congr] aU
def i8 (x:Int):Nat:=(x%256).toNat
def i16 (x:Int):Nat:=(x%65536).toNat
def i32 (x:Int):Nat:=(x%4294967296).toNat
def bit (b:Bool):Nat:=if b then 1 else 0
def encRec (r:bK):List Nat:=beB 1 r.kind++(r.obj++(beB 1 (i8 r.dq)++(beB 8 r.inc++(beB 8 r.num++(beB 1 (bit r.held)++(beB 1 (i8 r.k)++beB 1 (i8 r.n)))))))
def encMan (m:aO):List Nat:=beB 2 19713++(beB 1 (i8 m.gk)++(beB 1 (i8 m.gn)++(beB 1 (i8 m.gt)++(beB 2 (i16 m.gs)++(m.dk++m.pieces.flatMap id)))))
theorem sliceBytes_mid {h:aj} {b off:Nat} {s:Option Nat} {k A C:List Value} {l:List Nat} (g:h.get b=some k) (e:k=A++(bP l++C)) (hA:A.length=off) (hb:Bys l):ay (some ⟨b,off,s⟩) l.length h=some l:=by
 unfold ay
 rw [Option.bind_eq_some_iff]
 refine ⟨bP l,?_,bytesOf_map hb⟩
 have hm:=mid e hA (show (bP l).length=l.length from List.length_map ..)
 have hl:off+l.length≤k.length:=by rw [e,List.length_append,List.length_append,List.length_map,hA];omega
 simp only [b0,g,Nat.mul_one]
 by_cases h0:l.length=0
 ·rw [if_pos h0,List.length_eq_zero_iff.1 h0];rfl
 ·rw [if_neg h0,hm,if_pos ⟨hl,(cJ l).1⟩]
theorem Old.eF {a b c:aj} {d:Nat} (x:Old a b) (k:Kept b c (· = d)) (hd:a.next≤d):Old a c:=x.cE k (fun e he q=>by omega)
end Go.Proofs.YtjghlcdidopcpaaGreatDoor

namespace Go.Proofs.YtjghlcdidopcpaaGreatDoor
open Go Go.Abs
attribute [local congr] aU
theorem dh.bytes {h:aj} {v:Value} {l:List Nat} (x:dh h [.u8] v l.length (bP l)) (hb:Bys l) : ∃ a c,v = .slice a l.length c∧ay a l.length h=some l∧(∀ y,a=some y→0<l.length→slB v=some y.block):=by
 obtain ⟨a,c,rfl,h1,h2,h3⟩:=x
 refine ⟨a,c,rfl,?_,fun y hy hn => ?_⟩
 ·by_cases h0:l.length=0
  ·have:l = []:=List.length_eq_zero_iff.1 h0
   subst this
   cases a with
   |none=>rfl
   |some y=>unfold ay b0;simp;rfl
  ·obtain ⟨b,off,s,k,rfl,g,h4,h5⟩:=h3 (by omega)
   have h5:(k.drop off).take (l.length*1)=bP l:=h5
   have h4:off+l.length*1≤k.length:=h4
   rw [Nat.mul_one] at h4 h5
   have e:k=k.take off++(bP l++k.drop (off+l.length)):=by rw [←h5,←List.drop_drop,List.take_append_drop,List.take_append_drop]
   exact sliceBytes_mid g e (by rw [List.length_take];omega) hb
 ·subst hy
  obtain ⟨m,hm⟩ : ∃ m,l.length=m+1:=⟨l.length-1,by omega⟩
  rw [hm]
  rfl
def encMem (m:eC):List Nat:=beB 8 m.inc++beB 1 m.st
def encTable (t:List eC):List Nat:=beB 1 t.length++t.flatMap encMem
def text (l:List Nat):List Nat:=beB 2 l.length++l
def bPing (m:aO):List Nat:=beB 8 m.seq++(beB 1 (i8 m.origin)++encTable m.table)
def bReq (m:aO):List Nat:=beB 8 m.seq++(beB 1 (i8 m.target)++encTable m.table)
def bSum (m:aO):List Nat:=text m.low++(text m.high++(beB 4 (i32 m.count)++m.root))
def bItems (m:aO):List Nat:=text m.low++(text m.high++(beB 1 (bit m.want)++(beB 2 m.cp.length++m.cp.flatMap encRec)))
def bPiece (m:aO):List Nat:=m.obj++(text (encMan m)++(beB 2 (i16 m.cN)++text m.data))
def bStored (m:aO):List Nat:=m.obj++beB 2 (i16 m.code)
end Go.Proofs.YtjghlcdidopcpaaGreatDoor

namespace Go.Proofs.YtjghlcdidopcpaaGreatDoor
open Go Go.Abs
attribute [local congr] aU
def sObjB (m:aO):List Nat:=m.obj
end Go.Proofs.YtjghlcdidopcpaaGreatDoor

namespace Go.Proofs.YtjghlcdidopcpaaGreatDoor
open Go Go.Abs
attribute [local congr] aU
def bodyM (k:Nat) (m:aO):List Nat:=match k with
 | 1|2=>bPing m
 | 3=>bReq m
 | 4=>bSum m
 | 5=>bItems m
 | 8|10=>bPiece m
 | 11=>bStored m
 |_=>sObjB m
def frame0 (m:aO):List Nat:=beB 2 21335++(beB 1 1++(beB 1 m.kind++(beB 1 (i8 m.from_)++(beB 1 (i8 m.to_)++(beB 4 (bodyM m.kind m).length++bodyM m.kind m)))))
def enc (m:aO):List Nat:=frame0 m++beB 4 (crcN (frame0 m))
theorem crcN_lt {l:List Nat} (hb : ∀ x∈l,x<256):crcN l<4294967296:=by
 have h:=crcFold_lt l 4294967295 (by omega) hb
 unfold crcN
 exact Nat.xor_lt_two_pow (n:=32) (by decide) h
theorem Bys.app {a b:List Nat} (x:Bys a) (y:Bys b):Bys (a++b):=fun z hz=>(List.mem_append.1 hz).elim (x z) (y z)
section
variable {h:aj} {s:cR} {m:aO} (hG:4≤h.n0) (x:Has h s m) (sm:m.n.Small)
include hG x sm
end
end Go.Proofs.YtjghlcdidopcpaaGreatDoor

namespace Go.Proofs.YtjghlcdidopcpaaGreatDoor
open Go Go.Abs
attribute [local congr] aU
theorem own_sl {h:aj} {N len:Nat} {ks:List Kd} {v:Value} {cells:List Value} (o:dJ h N ks.length v len cells) (t:dV ks len cells):dh h ks v len cells:=by
 obtain ⟨o1,o2,o3,o4⟩:=o
 rcases o4 with ⟨rfl,rfl⟩|⟨b,s,rfl,h5,⟨rfl,rfl⟩|⟨rfl,h6⟩⟩
 ·exact ⟨none,0,rfl,fun _=>rfl,t,fun h=>absurd h (Nat.lt_irrefl 0)⟩
 ·exact ⟨_,_,rfl,fun h=>(by cases h),t,fun h=>absurd h (Nat.lt_irrefl 0)⟩
 ·refine ⟨_,_,rfl,fun h=>(by cases h),t,fun _=>⟨b,0,_,cells,rfl,h6,by omega,?_⟩⟩
  rw [List.drop_zero,←o1,List.take_length]
theorem own_blk {h:aj} {N size len:Nat} {v:Value} {cells:List Value} (o:dJ h N size v len cells) {b:Nat} (hb:slB v=some b):N≤b:=by
 obtain ⟨o1,o2,o3,o4⟩:=o
 rcases o4 with ⟨rfl,rfl⟩|⟨b',s,rfl,h5,_⟩
 ·cases hb
 ·cases len with
  |zero=>cases hb
  |succ n=>cases hb;exact h5
theorem cG {h:aj} {N size len:Nat} {v:Value} {cells:List Value} (o:dJ h N size v len cells) {b:Nat} (hb:dm v=some b):N≤b:=by
 obtain ⟨o1,o2,o3,o4⟩:=o
 rcases o4 with ⟨rfl,rfl⟩|⟨b',s,rfl,h5,_⟩
 ·cases hb
 ·cases hb;exact h5
theorem slice1 {h:aj} {ks:List Kd} {b:Nat} {s:Option Nat} {cells:List Value} (g:h.get b=some cells) (t:Typed ks cells):dh h ks (.slice (some ⟨b,0,s⟩) 1 1) 1 cells:=by
 have hl:cells.length=ks.length:=t.1
 refine ⟨_,_,rfl,fun h=>(by cases h),⟨by rw [hl,Nat.one_mul],fun i hi => ?_⟩,fun _=>⟨b,0,s,cells,rfl,g,by omega,?_⟩⟩
 ·obtain rfl:i=0:=by omega
  rw [Nat.zero_mul,List.drop_zero,←hl,List.take_length]
  exact t
 ·rw [List.drop_zero,Nat.one_mul,←hl,List.take_length]
theorem dh.slice {h:aj} {ks:List Kd} {v:Value} {n:Nat} {cs:List Value} (x:dh h ks v n cs):lenA v=some n:=by
 obtain ⟨a,c,rfl,_⟩:=x
 rfl
theorem memC_ok (m:eC):Abs.bH (di m)=true∧aQ (di m)=true:=⟨rfl,rfl⟩
def pTab:Nat→Rd→List eC×Rd
 | 0,s=>([],s)
 |n+1,s=>(⟨(s.num 8).1,((s.num 8).2.num 1).1⟩::(pTab n ((s.num 8).2.num 1).2).1,(pTab n ((s.num 8).2.num 1).2).2)
def dR (s:Rd):List eC×Rd:=pTab (s.num 1).1 (s.num 1).2
theorem is129:bO Tryz.prog 129 Tryz.f129:=⟨by kernel_rfl,by kernel_rfl,by kernel_rfl,by kernel_rfl⟩
theorem b129_exit (C:au) (e:Env) (h:aj):b129_3 C 0 e h=k129_1 C e h:=rfl
def rtInv (h0:aj) (p r n:Nat) (s0:Rd) (k:Nat) (y:Nat→Value) (g:aj):Prop:=
 ∃ i t s1,i+k=n∧y 0=ptr r 0∧y 5 = .int .u8 (n:Int)∧y 6 = .int .u8 (i:Int)∧dJ g h0.next 2 (y 2) t.length (t.flatMap di)∧(∀ x∈t,x.Wf)∧t.length=i∧fA g p r s1∧Kept h0 g (fun c=>c=r)∧pTab n s0=(t++(pTab k s1).1,(pTab k s1).2)
def rtFin (h0:aj) (p r n:Nat) (s0:Rd) (ex:Ex) (y:Nat→Value) (g:aj):Prop:=
 ex = .exit 0∧dJ g h0.next 2 (y 2) (pTab n s0).1.length ((pTab n s0).1.flatMap di)∧(∀ x∈(pTab n s0).1,x.Wf)∧fA g p r (pTab n s0).2∧Kept h0 g (fun c=>c=r)
theorem rtRound {h0:aj} {p r n:Nat} {s0:Rd} (hn:n<256) (h00:h0.n0≤h0.next) (hr:r<h0.next) : ∀ k y g,rtInv h0 p r n s0 k y g→dd 19 (rtInv h0 p r n s0) (rtFin h0 p r n s0) k (t129l129_1010 CW y g):=by
 rintro k y g ⟨i,t,s1,hik,y0,y5,y6,O,hw,hti,R,K,hp⟩
 unfold t129l129_1010
 cases k with
 |zero=>
  have hd:decide ((i:Int)<(n:Int))=false:=decide_eq_false (by omega)
  simp -implicitDefEqProofs only [y6,y5,aC,hd,af,ak]
  have hp:pTab n s0=(t,s1):=by rw [hp];simp [pTab]
  exact dd.out 0 ⟨rfl,by rw [hp];exact O,by rw [hp];exact hw,by rw [hp];exact R,K⟩
 |succ k=>
  have hd:decide ((i:Int)<(n:Int))=true:=decide_eq_true (by omega)
  obtain ⟨g1,e1,R1,k1,n1⟩:=q128 R
  obtain ⟨g2,e2,R2,k2,n2⟩:=q73 R1
  have h8:(s1.num 8).1<18446744073709551616:=Rd.cZ R.byte 8
  have h1:((s1.num 8).2.num 1).1<256:=Rd.cZ R1.byte 1
  generalize hm:(⟨(s1.num 8).1,((s1.num 8).2.num 1).1⟩:eC)=m at *
  have wm:m.Wf:=by rw [←hm];exact ⟨h8,h1⟩
  have hc:di m = [.int .u64 ((s1.num 8).1:Int),.int .u8 (((s1.num 8).2.num 1).1:Int)]:=by rw [←hm];rfl
  have hb:bU [(.int .u64 0),(.int .u8 0)] [(0,1,.int .u64 ((s1.num 8).1:Int)),(1,1,.int .u8 (((s1.num 8).2.num 1).1:Int))]=some (.agg (di m).toArray):=by rw [hc];rfl
  have hbs:bslR 2 (.agg #[(.int .u64 0),(.int .u8 0)]) 1 [(0,.agg (di m).toArray)] g2=some (.slice (some ⟨g2.next,0,none⟩) 1 1,g2.alloc (di m)):=by rw [hc];rfl
  have oa:Old g2 (g2.alloc (di m)):=Kept.alloc _ _ _
  have ga:(g2.alloc (di m)).get g2.next=some (di m):=by rw [aj.aS,if_pos rfl]
  have na:(g2.alloc (di m)).next=g2.next+1:=rfl
  generalize g2.alloc (di m)=g3 at *
  have S:=slice1 (s:=none) ga (mem_typed wm)
  have kk:Kept g g3 (fun c=>c=r):=((k1.trans k2).trans (oa.mono (fun _ _ h=>h.elim)))
  have hne : ∀ b,dm (y 2)=some b → ¬b=r:=fun b hb e=>by have:=cG O hb;omega
  have O3:=O.bF kk hne
  have p3:g3.n0≤h0.next:=by rw [kk.n0,K.n0];exact h00
  obtain ⟨v',g4,e4,O4,k4,_⟩:=eS (by_:=16) O3 p3 (Nat.le_trans K.next kk.next) (by decide) S.slice (S.first (by decide)) (memC_ok m).2 (memC_ok m).1 (by rw [hc];rfl) (by omega) (by omega)
  have R3:=R2.dY oa (fun _ _ h=>h)
  have R4:fA g4 p r _:=R3.dY k4 (fun b hb e=>by
   have:=cG O3 e.1
   omega)
  have ha:bin Tryz.prog .add 5 (.int .u8 (i:Int)) (.int .u8 1)=some (.int .u8 ((i+1:Nat):Int)):=by
   rw [bin_add,wrap_u8 (by omega) (by omega)]
   exact congrArg (fun z=>some (Value.int .u8 z)) (by omega)
  simp -implicitDefEqProofs only [y6,y5,aC,hd,y0,e1,e2,hb,hbs,e4,ha,af,ak]
  refine dd.next k (by omega) ⟨i+1,t ++ [m],_,by omega,y0,y5,rfl,?_,?_,by rw [List.length_append,hti];rfl,R4,(K.trans kk).cE k4 (fun d hd e=>by
   have:=cG O3 e.1
   omega),?_⟩
  ·show dJ g4 h0.next 2 v' (t ++ [m]).length ((t ++ [m]).flatMap di)
   rw [List.flatMap_append,List.length_append]
   simpa using O4
  ·intro x hx
   rcases List.mem_append.1 hx with hx|hx
   ·exact hw x hx
   ·simp only [List.mem_cons,List.not_mem_nil,or_false] at hx
    subst hx;exact wm
  ·rw [hp,←hm]
   simp [pTab]
theorem q129 {h:aj} {p r:Nat} {s:Rd} (R:fA h p r s) : ∃ v h',CW 129 [ptr r 0] h=some (v,h')∧fA h' p r (dR s).2∧dh h' memK v (dR s).1.length ((dR s).1.flatMap di)∧(∀ x∈(dR s).1,x.Wf)∧(∀ b,slB v=some b→h.next≤b)∧Kept h h' (fun c=>c=r):=by
 obtain ⟨h1,e1,R1,k1,n1⟩:=q73 R
 have hn:(s.num 1).1<256:=Rd.cZ R.byte 1
 have key : ∃ v h',t129 CW (ptr r 0) h=some (v,h')∧fA h' p r (dR s).2∧dh h' memK v (dR s).1.length ((dR s).1.flatMap di)∧(∀ x∈(dR s).1,x.Wf)∧(∀ b,slB v=some b→h.next≤b)∧Kept h h' (fun c=>c=r):=by
  unfold t129
  simp -implicitDefEqProofs only [af,e1]
  refine bY (Q:=fun o:Out => ∃ v h',o=some (v,h')∧fA h' p r (dR s).2∧dh h' memK v (dR s).1.length ((dR s).1.flatMap di)∧(∀ x∈(dR s).1,x.Wf)∧(∀ b,slB v=some b→h.next≤b)∧Kept h h' (fun c=>c=r)) (bZ (t129l129_1010_eq CW) (rtRound (p:=p) (r:=r) (s0:=(s.num 1).2) hn h1.aK R1.lt) (s.num 1).1 (by have:rounds=18446744073709551616:=rfl;omega)
   ⟨0,[],(s.num 1).2,Nat.zero_add _,rfl,rfl,rfl,.nil _ _ _,(fun x hx=>by cases hx),rfl,R1,Kept.refl _ _,rfl⟩) ?_
  rintro ex z g ⟨rfl,O,hw,R',K⟩
  rw [bE,b129_exit,t129k129_1_eq]
  unfold t129k129_1
  exact ⟨z 2,g,rfl,R',own_sl O (cY (P:=eC.Wf) (fun a ha=>mem_typed ha) _ hw),hw,fun b hb=>by
   have:=own_blk O hb
   omega,k1.trans K⟩
 obtain ⟨v,h',e,rest⟩:=key
 exact ⟨v,h',aF is129 R.g4 rfl ((t129_eq _ _ _).trans e),rest⟩
end Go.Proofs.YtjghlcdidopcpaaGreatDoor

