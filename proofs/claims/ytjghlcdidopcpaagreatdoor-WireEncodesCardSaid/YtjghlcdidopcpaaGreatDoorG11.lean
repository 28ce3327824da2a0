/-
  A part of the proof, spaces and names shortened by a program (a claim may hold 1,500,000 bytes).
  Conditions: as each theorem states.
-/
import Derived.Test.YtjghlcdidopcpaaGreatDoorG10
import Derived.OpenShut
namespace Go.Proofs.YtjghlcdidopcpaaGreatDoor
open Go Go.Abs
open Go.ChangeShapes Go.WideShapes Go.ChangeAt Go.RowKit
theorem Typed.app {ks ls:List Kd} {a b:List Value} (x:Typed ks a) (y:Typed ls b):Typed (ks++ls) (a++b):=by
 refine ⟨by rw [List.length_append,List.length_append,x.1,y.1],fun j k hk => ?_⟩
 by_cases hj:j<ks.length
 ·rw [List.getElem?_append_left hj] at hk
  obtain ⟨v,h1,h2⟩:=x.2 j k hk
  exact ⟨v,by rw [List.getElem?_append_left (by rw [x.1];exact hj)];exact h1,h2⟩
 ·rw [List.getElem?_append_right (by omega)] at hk
  obtain ⟨v,h1,h2⟩:=y.2 _ k hk
  exact ⟨v,by rw [List.getElem?_append_right (by rw [x.1];omega),x.1];exact h1,h2⟩
theorem Typed.one {k:Kd} {v:Value} (h:k.has v):Typed [k] [v]:=⟨rfl,fun j t ht=>by
 cases j with
 |zero=>cases ht;exact ⟨v,rfl,h⟩
 |succ j=>cases ht⟩
def Pc (ks:List Kd) (o:Nat) (cs:List Value):Prop:=Typed ks ((cs.drop o).take ks.length)
theorem Pc.app {ks ls:List Kd} {o:Nat} {cs:List Value} (x:Pc ks o cs) (y:Pc ls (o+ks.length) cs):Pc (ks++ls) o cs:=by
 unfold Pc at *
 rw [List.length_append,List.take_add,List.drop_drop]
 exact x.app y
theorem Pc.whole {ks:List Kd} {cs:List Value} (x:Pc ks 0 cs) (h:cs.length=ks.length):Typed ks cs:=by
 unfold Pc at x
 rw [List.drop_zero,←h,List.take_length] at x
 exact x
theorem clean_nice {n:Nat} {v:Value} (h:nice n v=true):clean n v=v:=by unfold clean;rw [if_pos h]
theorem Kd.has.clean {k:Kd} {v:Value} (h:k.has v) (n:Nat):clean n v=v:=by
 cases k with
 |u8=>obtain ⟨m,rfl,_⟩:=h;rfl
 |i k=>obtain ⟨m,rfl,_⟩:=h;rfl
 |b=>obtain ⟨t,rfl⟩:=h;rfl
theorem Typed.clean {ks:List Kd} {cs:List Value} (h:Typed ks cs) (n:Nat):cs.map (clean n)=cs:=by
 refine List.ext_getElem? fun j => ?_
 rw [List.getElem?_map]
 by_cases hj:j<ks.length
 ·obtain ⟨v,h1,h2⟩:=h.2 j _ (List.getElem?_eq_getElem hj)
  rw [h1,Option.map_some,h2.clean]
 ·rw [List.getElem?_eq_none (by rw [h.1];omega)];rfl
theorem u8_lit {n:Int} (h:(Lit.int .u8 n).wf=true) : ∃ m:Nat,n=m∧m<256:=by
 simp [Lit.wf,IntKind.min,IntKind.max,IntKind.signed,IntKind.bits] at h
 exact ⟨n.toNat,by omega,by omega⟩
theorem clean_slice {W:World} {a:Addr} {len cap:Nat} (hlc:len≤cap) (hc:0<cap→a.spot=none∧a.block<W.heap.size) :
  isHole (clean W.heap.size (.slice (some a) len cap))=false ∧ ∃ a' ,clean W.heap.size (.slice (some a) len cap) = .slice (some a') len cap∧(0<cap→a'=a):=by
 obtain ⟨b,off,s⟩:=a
 by_cases h0:0<cap
 ·obtain ⟨h1,h2⟩:=hc h0
  have h1':s=none:=h1
  have h2':b<W.heap.size:=h2
  subst h1'
  have hn:nice W.heap.size (.slice (some ⟨b,off,none⟩) len cap)=true:=by simpa [nice] using h2'
  rw [clean_nice hn]
  exact ⟨rfl,_,rfl,fun _=>rfl⟩
 ·obtain rfl:cap=0:=by omega
  obtain rfl:len=0:=by omega
  by_cases hn:nice W.heap.size (.slice (some ⟨b,off,s⟩) 0 0)=true
  ·rw [clean_nice hn]
   exact ⟨rfl,_,rfl,fun h=>absurd h h0⟩
  ·have:clean W.heap.size (.slice (some ⟨b,off,s⟩) 0 0) = .slice (some ⟨0,0,some 0⟩) 0 0:=by unfold clean;rw [if_neg hn];rfl
   rw [this]
   exact ⟨rfl,_,rfl,fun h=>absurd h h0⟩
theorem add_block (a:Addr) (n:Nat):(a.add n).block=a.block:=by unfold Addr.add;split<;>rfl
theorem add_off (a:Addr) (n:Nat):(a.add n).off=a.off+n:=by
 unfold Addr.add
 split
 ·rename_i h;rw [h];rfl
 ·rfl
section
variable {H:Type} {enc:TypeId×Value→H} {W:World} {base:Nat} {held:Bool}
def Reads (enc:TypeId×Value→H) (W:World) (base:Nat) (held:Bool) (t:TypeId) (ks:List Kd):Prop:=
 ∀ fuel cs x,DataW.trod enc Tryz.prog W base (fun _=>true) held fuel t cs=some x→Typed ks cs
theorem reads_u8 {t:TypeId} (ht:Tryz.prog.underlying t=some (.int .u8)):Reads enc W base held t [.u8]:=fun fuel cs x h=>by
 obtain ⟨n,rfl,_,w⟩:=DataW.trod_int ht h
 obtain ⟨m,rfl,hm⟩:=u8_lit w
 exact .one ⟨m,rfl,hm⟩
theorem reads_i {t:TypeId} {k:IntKind} (ht:Tryz.prog.underlying t=some (.int k)):Reads enc W base held t [.i k]:=fun fuel cs x h=>by
 obtain ⟨n,rfl,_,w⟩:=DataW.trod_int ht h
 exact .one ⟨n,rfl,w⟩
theorem reads_b {t:TypeId} (ht:Tryz.prog.underlying t=some .bool):Reads enc W base held t [.b]:=fun fuel cs x h=>by
 obtain ⟨n,rfl,_⟩:=DataW.trod_bool ht h
 exact .one ⟨n,rfl⟩
theorem reads_arr {t e:TypeId} {n:Nat} {k:Kd} (ht:Tryz.prog.underlying t=some (.array n e)) (h1:Tryz.prog.cellsOf e=1) (hn:Tryz.prog.cellsOf t=n) (R:Reads enc W base held e [k]):Reads enc W base held t (List.replicate n k):=fun fuel cs x h=>by
 obtain ⟨xs,m,rfl,_,hl,hx,hf⟩:=DataW.trod_array ht h
 rw [hn] at hl
 refine ⟨by rw [hl,List.length_replicate],fun j t' hj => ?_⟩
 have hj':j<n:=by
  have:=(List.getElem?_eq_some_iff.1 hj).1
  rwa [List.length_replicate] at this
 rw [List.getElem?_replicate,if_pos hj'] at hj
 cases hj
 have:=hf j hj'
 rw [List.getElem?_eq_getElem (by omega),h1,Nat.mul_one] at this
 obtain ⟨v,g1,g2⟩:=(R _ _ _ this).2 0 k rfl
 rw [List.getElem?_take,if_pos (by omega),List.getElem?_drop,Nat.add_zero] at g1
 exact ⟨v,g1,g2⟩
theorem fld {fuel:Nat} {t:TypeId} {cs:List Value} {x:DataW H×List MemPlace} {fs:Array Field} (ht:Tryz.prog.underlying t=some (.struct fs)) (h:DataW.trod enc Tryz.prog W base (fun _=>true) held fuel t cs=some x) {i z:Nat} {f:Field} (hf:fs[i]? = some f) (hz:Tryz.prog.cellsOf f.type=z) :
  ∃ m y,DataW.trod enc Tryz.prog W base (fun _=>true) held m f.type ((cs.drop f.offset).take z)=some y:=by
 obtain ⟨xs,n,rfl,_,_,hl,h2⟩:=DataW.trod_struct ht h
 have:=h2 i f hf
 rw [List.getElem?_eq_getElem (by rw [hl];exact (Array.getElem?_eq_some_iff.1 hf).1),hz] at this
 exact ⟨_,_,this⟩
theorem piece {fuel:Nat} {t:TypeId} {cs:List Value} {x:DataW H×List MemPlace} {fs:Array Field} (ht:Tryz.prog.underlying t=some (.struct fs)) (h:DataW.trod enc Tryz.prog W base (fun _=>true) held fuel t cs=some x) {i:Nat} {f:Field} {ks:List Kd} (hf:fs[i]? = some f) (hz:Tryz.prog.cellsOf f.type=ks.length)
  (R:Reads enc W base held f.type ks):Pc ks f.offset cs:=by
 obtain ⟨m,y,e⟩:=fld ht h hf hz
 exact R _ _ _ e
theorem sl_of {t e:TypeId} {ks:List Kd} (ht:Tryz.prog.underlying t=some (.slice e)) (he:Tryz.prog.cellsOf e=ks.length) (hz:0<ks.length) (R:Reads enc W base held e ks) {fuel:Nat} {v:Value} {x:DataW H×List MemPlace}
  (h:DataW.trod enc Tryz.prog W base (fun _=>true) held fuel t [v]=some x):isHole (clean W.heap.size v)=false ∧ ∃ n cs,dn (dd W (view W)) ks (clean W.heap.size v) n cs:=by
 have nilT:TypedN ks 0 []:=⟨by simp,fun i hi=>absurd hi (Nat.not_lt_zero i)⟩
 rcases DataW.trod_slice ht h with ⟨h1,_⟩|⟨a,len,cap,elems,rest,n,_,h1,_,_,hlc,hcm,hl,hel,hsp,_⟩
 ·cases h1
  exact ⟨rfl,0,[],none,0,rfl,fun _=>rfl,nilT,fun h=>absurd h (Nat.lt_irrefl 0)⟩
 ·cases h1
  rw [he] at hel hsp
  have hpos:0<cap→a.spot=none∧a.block<W.heap.size:=by
   intro h0
   have key : ∃ cs,W.cells? base (a.add (0*ks.length)) ks.length=some cs:=by
    by_cases hlen:0<len
    ·have:=hel 0 hlen
     rw [List.getElem?_eq_getElem (by omega),Option.bind_eq_some_iff] at this
     obtain ⟨cs,hc,_⟩:=this
     exact ⟨cs,hc⟩
    ·have:=(hsp rfl).2 0 (by omega)
     rw [List.getElem?_eq_getElem (by rw [(hsp rfl).1];omega),Option.bind_eq_some_iff] at this
     obtain ⟨cs,hc,_⟩:=this
     obtain rfl:len=0:=by omega
     exact ⟨cs,hc⟩
   obtain ⟨cs,hc⟩:=key
   obtain ⟨_,hlen,hcell⟩:=World.cells?_some hc
   have g:=hcell 0 hz
   obtain ⟨c0,hc0⟩ : ∃ c0,cs[0]? = some c0:=⟨cs[0],List.getElem?_eq_getElem (by omega)⟩
   rw [hc0,Nat.zero_mul] at g
   have g:W.cell? a=some c0:=g
   obtain ⟨e1,e2,_⟩:=view_cell g
   exact ⟨e1,e2⟩
  obtain ⟨g1,a',g2,g3⟩:=clean_slice (W:=W) hlc hpos
  refine ⟨g1,len,?_⟩
  by_cases h0:len=0
  ·subst h0
   exact ⟨[],_,_,g2,fun _=>rfl,nilT,fun h=>absurd h (Nat.lt_irrefl 0)⟩
  have ha:=g3 (by omega)
  subst ha
  have each : ∀ i,i<len → ∃ k es,view W a'.block=some k∧Typed ks es ∧ ∀ j,j<ks.length→k[a'.off+i*ks.length+j]? = es[j]? := by
   intro i hi
   have h2:=hel i hi
   rw [List.getElem?_eq_getElem (by omega),Option.bind_eq_some_iff] at h2
   obtain ⟨es,hc,ht⟩:=h2
   have ty:=R _ _ _ ht
   obtain ⟨_,hlen,hcell⟩:=World.cells?_some hc
   have vc : ∀ j,j<ks.length → ∃ k,view W a'.block=some k∧k[a'.off+i*ks.length+j]? = es[j]? := by
    intro j hj
    obtain ⟨u,h3,h4⟩:=ty.2 j _ (List.getElem?_eq_getElem hj)
    have g:=hcell j hj
    rw [h3] at g
    obtain ⟨_,_,k,hk,hc2⟩:=view_cell g
    rw [add_block,add_block] at hk
    rw [add_off,add_off,h4.clean] at hc2
    exact ⟨k,hk,by rw [hc2,h3]⟩
   obtain ⟨k,hk,_⟩:=vc 0 hz
   refine ⟨k,es,hk,ty,fun j hj => ?_⟩
   obtain ⟨k',hk',e⟩:=vc j hj
   rw [hk] at hk'
   cases hk'
   exact e
  obtain ⟨k,_,hk,_⟩:=each 0 (by omega)
  have each : ∀ i,i<len → ∃ es,Typed ks es ∧ ∀ j,j<ks.length→k[a'.off+i*ks.length+j]? = es[j]? := fun i hi=>by
   obtain ⟨k',es,hk',h1,h2⟩:=each i hi
   rw [hk] at hk'
   cases hk'
   exact ⟨es,h1,h2⟩
  have hlen:a'.off+len*ks.length≤k.length:=by
   obtain ⟨es,ty,e⟩:=each (len-1) (by omega)
   have:=e (ks.length-1) (by omega)
   obtain ⟨u,hu,_⟩:=ty.2 (ks.length-1) _ (List.getElem?_eq_getElem (by omega))
   rw [hu] at this
   have:=(List.getElem?_eq_some_iff.1 this).1
   have h9:len*ks.length=(len-1)*ks.length+ks.length:=by
    conv=>lhs;rw [show len=(len-1)+1 by omega,Nat.add_mul,Nat.one_mul]
   omega
  refine ⟨(k.drop a'.off).take (len*ks.length),_,_,g2,fun h=>(by cases h),⟨by rw [List.length_take,List.length_drop];omega,fun i hi => ?_⟩,fun _=>⟨a'.block,a'.off,a'.spot,k,rfl,by rw [view_get];exact hk,hlen,rfl⟩⟩
  obtain ⟨es,ty,e⟩:=each i hi
  have hm:=mul_le (z:=ks.length) hi
  have:(((k.drop a'.off).take (len*ks.length)).drop (i*ks.length)).take ks.length=es:=by
   refine List.ext_getElem? fun j => ?_
   rw [List.getElem?_take]
   by_cases hj:j<ks.length
   ·rw [if_pos hj,List.getElem?_drop,List.getElem?_take,if_pos (by omega),List.getElem?_drop,←e j hj,Nat.add_assoc]
   ·rw [if_neg hj,List.getElem?_eq_none (by rw [ty.1];omega)]
  rw [this]
  exact ty
end
end Go.Proofs.YtjghlcdidopcpaaGreatDoor

namespace Go.Proofs.YtjghlcdidopcpaaGreatDoor
open Go Go.Abs
open Go.ChangeShapes Go.WideShapes Go.ChangeAt Go.RowKit
theorem cut (l:List Value) (n:Nat) (h:n≤l.length) : ∃ a b,l=a++b∧a.length=n∧b.length=l.length-n:=
 ⟨l.take n,l.drop n,(List.take_append_drop n l).symm,by rw [List.length_take];omega,by rw [List.length_drop]⟩
theorem msg_cut {l:List Value} (h:l.length=116) : ∃ a0 a1 a2 a3 a4 a5 a6 a7 a8 a9 r d w o g0 g1 g2 g3 mo e i f c,l = [a0,a1,a2,a3,a4,a5,a6,a7,a8,a9]++(r++([d,w]++(o++(([g0,g1,g2,g3]++(mo ++ [e])) ++ [i,f,c]))))∧r.length=32∧o.length=32∧mo.length=32:=by
 obtain ⟨A,l1,rfl,hA,h1⟩:=cut l 10 (by omega)
 obtain ⟨r,l2,rfl,hr,h2⟩:=cut l1 32 (by omega)
 obtain ⟨D,l3,rfl,hD,h3⟩:=cut l2 2 (by omega)
 obtain ⟨o,l4,rfl,ho,h4⟩:=cut l3 32 (by omega)
 obtain ⟨G,l5,rfl,hG,h5⟩:=cut l4 4 (by omega)
 obtain ⟨mo,l6,rfl,hm,h6⟩:=cut l5 32 (by omega)
 have h7:l6.length=4:=by omega
 match A,hA,D,hD,G,hG,l6,h7 with
 | [a0,a1,a2,a3,a4,a5,a6,a7,a8,a9],_,[d,w],_,[g0,g1,g2,g3],_,[e,i,f,c],_=>
   exact ⟨a0,a1,a2,a3,a4,a5,a6,a7,a8,a9,r,d,w,o,g0,g1,g2,g3,mo,e,i,f,c,by simp,hr,ho,hm⟩
theorem take_one {l:List Value} {o:Nat} {v:Value} (e:l[o]? = some v):(l.drop o).take 1 = [v]:=by
 obtain ⟨ho,rfl⟩:=List.getElem?_eq_some_iff.1 e
 rw [List.drop_eq_getElem_cons ho]
 rfl
section
variable {H:Type} {enc:TypeId×Value→H} {W:World} {base:Nat} {held:Bool}
theorem rd5:Reads enc W base held 5 [.u8]:=reads_u8 Tryz.underlying5
theorem rd28:Reads enc W base held 28 fF:=reads_arr Tryz.underlying28 (by kernel_rfl) (by kernel_rfl) rd5
theorem rd58:Reads enc W base held 58 memK:=fun fuel cs x h=>by
 have p0:Pc [.i .u64] 0 cs:=piece Tryz.underlying58 h (i:=0) rfl (by kernel_rfl) (reads_i Tryz.underlying25)
 have p1:Pc [.u8] 1 cs:=piece Tryz.underlying58 h (i:=1) rfl (by kernel_rfl) (reads_u8 Tryz.underlying56)
 obtain ⟨_,_,_,_,hl,_⟩:=DataW.trod_struct Tryz.underlying58 h
 exact (p0.app p1).whole (hl.trans (by kernel_rfl))
theorem rd61:Reads enc W base held 61 recK:=fun fuel cs x h=>by
 have p0:Pc [.u8] 0 cs:=piece Tryz.underlying61 h (i:=0) rfl (by kernel_rfl) (reads_u8 Tryz.underlying59)
 have p1:Pc fF 1 cs:=piece Tryz.underlying61 h (i:=1) rfl (by kernel_rfl) rd28
 have p2:Pc [.i .i64] 33 cs:=piece Tryz.underlying61 h (i:=2) rfl (by kernel_rfl) (reads_i Tryz.underlying3)
 have p3:Pc [.i .u64] 34 cs:=piece Tryz.underlying61 h (i:=3) rfl (by kernel_rfl) (reads_i Tryz.underlying25)
 have p4:Pc [.i .u64] 35 cs:=piece Tryz.underlying61 h (i:=4) rfl (by kernel_rfl) (reads_i Tryz.underlying25)
 have p5:Pc [.b] 36 cs:=piece Tryz.underlying61 h (i:=5) rfl (by kernel_rfl) (reads_b Tryz.underlying4)
 have p6:Pc [.i .i64] 37 cs:=piece Tryz.underlying61 h (i:=6) rfl (by kernel_rfl) (reads_i Tryz.underlying3)
 have p7:Pc [.i .i64] 38 cs:=piece Tryz.underlying61 h (i:=7) rfl (by kernel_rfl) (reads_i Tryz.underlying3)
 obtain ⟨_,_,_,_,hl,_⟩:=DataW.trod_struct Tryz.underlying61 h
 exact (((((((p0.app p1).app p2).app p3).app p4).app p5).app p6).app p7).whole (hl.trans (by kernel_rfl))
theorem sl26 {fuel:Nat} {v:Value} {x:DataW H×List MemPlace} (h:DataW.trod enc Tryz.prog W base (fun _=>true) held fuel 26 [v]=some x):isHole (clean W.heap.size v)=false ∧ ∃ n cs,dn (dd W (view W)) memK (clean W.heap.size v) n cs:=sl_of Tryz.underlying26 (ks:=memK) (by kernel_rfl) (by decide) rd58 h
theorem sl22 {fuel:Nat} {v:Value} {x:DataW H×List MemPlace} (h:DataW.trod enc Tryz.prog W base (fun _=>true) held fuel 22 [v]=some x):isHole (clean W.heap.size v)=false ∧ ∃ n cs,dn (dd W (view W)) [.u8] (clean W.heap.size v) n cs:=sl_of Tryz.underlying22 (ks := [.u8]) (by kernel_rfl) (by decide) rd5 h
theorem sl29 {fuel:Nat} {v:Value} {x:DataW H×List MemPlace} (h:DataW.trod enc Tryz.prog W base (fun _=>true) held fuel 29 [v]=some x):isHole (clean W.heap.size v)=false ∧ ∃ n cs,dn (dd W (view W)) recK (clean W.heap.size v) n cs:=sl_of Tryz.underlying29 (ks:=recK) (by kernel_rfl) (by decide) rd61 h
theorem sl30 {fuel:Nat} {v:Value} {x:DataW H×List MemPlace} (h:DataW.trod enc Tryz.prog W base (fun _=>true) held fuel 30 [v]=some x):isHole (clean W.heap.size v)=false ∧ ∃ n cs,dn (dd W (view W)) fF (clean W.heap.size v) n cs:=sl_of Tryz.underlying30 (ks:=fF) (by kernel_rfl) (by decide) rd28 h
theorem fld1 {fuel:Nat} {t:TypeId} {cs:List Value} {x:DataW H×List MemPlace} {fs:Array Field} (ht:Tryz.prog.underlying t=some (.struct fs)) (h:DataW.trod enc Tryz.prog W base (fun _=>true) held fuel t cs=some x) {i:Nat} {f:Field} (hf:fs[i]? = some f) (hz:Tryz.prog.cellsOf f.type=1) {v:Value} (e:cs[f.offset]? = some v) :
  ∃ m y,DataW.trod enc Tryz.prog W base (fun _=>true) held m f.type [v]=some y:=by
 obtain ⟨m,y,q⟩:=fld ht h hf hz
 rw [take_one e] at q
 exact ⟨m,y,q⟩
theorem fldN {fuel:Nat} {t:TypeId} {cs A B C:List Value} {x:DataW H×List MemPlace} {fs:Array Field} (ht:Tryz.prog.underlying t=some (.struct fs)) (h:DataW.trod enc Tryz.prog W base (fun _=>true) held fuel t cs=some x) {i z:Nat} {f:Field} (hf:fs[i]? = some f) (hz:Tryz.prog.cellsOf f.type=z) (e:cs=A++(B++C)) (hA:A.length=f.offset) (hB:B.length=z) :
  ∃ m y,DataW.trod enc Tryz.prog W base (fun _=>true) held m f.type B=some y:=by
 obtain ⟨m,y,q⟩:=fld ht h hf hz
 rw [mid e hA hB] at q
 exact ⟨m,y,q⟩
structure bD.Rng (M:bD):Prop where
 kind:(Lit.int .u8 M.kind).wf=true
 from_:(Lit.int .i64 M.from_).wf=true
 eu:(Lit.int .i64 M.eu).wf=true
 seq:(Lit.int .u64 M.seq).wf=true
 origin:(Lit.int .i64 M.origin).wf=true
 target:(Lit.int .i64 M.target).wf=true
 count:(Lit.int .i64 M.count).wf=true
 gk:(Lit.int .i64 M.gk).wf=true
 gn:(Lit.int .i64 M.gn).wf=true
 gt:(Lit.int .i64 M.gt).wf=true
 gs:(Lit.int .i64 M.gs).wf=true
 cg:(Lit.int .i64 M.cg).wf=true
 code:(Lit.int .i64 M.code).wf=true
theorem trod_msg {fuel:Nat} {cs:List Value} {x:DataW H×List MemPlace} (h:DataW.trod enc Tryz.prog W base (fun _=>true) held fuel 37 cs=some x) :
  ∃ (M:bD) (s:cP) (n:N6),cs.map (clean W.heap.size)=M.cells s∧SlV (dd W (view W)) s n M∧M.Ok∧M.Rng:=by
 obtain ⟨_,_,_,_,hl,_⟩:=DataW.trod_struct Tryz.underlying37 h
 obtain ⟨a0,a1,a2,a3,a4,a5,a6,a7,a8,a9,r,d,w,o,g0,g1,g2,g3,mo,e,i,f,c,rfl,hr,ho,hm⟩:=msg_cut (hl.trans (show Tryz.prog.cellsOf 37=116 by kernel_rfl))
 have c1:Tryz.prog.cellsOf 3=1:=by kernel_rfl
 have c24:Tryz.prog.cellsOf 24=1:=by kernel_rfl
 have c25:Tryz.prog.cellsOf 25=1:=by kernel_rfl
 have c4:Tryz.prog.cellsOf 4=1:=by kernel_rfl
 have c22:Tryz.prog.cellsOf 22=1:=by kernel_rfl
 have c26:Tryz.prog.cellsOf 26=1:=by kernel_rfl
 have c29:Tryz.prog.cellsOf 29=1:=by kernel_rfl
 have c30:Tryz.prog.cellsOf 30=1:=by kernel_rfl
 have c35:Tryz.prog.cellsOf 35=1:=by kernel_rfl
 have c28:Tryz.prog.cellsOf 28=32:=by kernel_rfl
 have c32:Tryz.prog.cellsOf 32=37:=by kernel_rfl
 have c34:Tryz.prog.cellsOf 34=2:=by kernel_rfl
 obtain ⟨_,_,q0⟩:=fld1 Tryz.underlying37 h (i:=0) rfl c24 (v:=a0) rfl
 obtain ⟨n0,e0,_,we0⟩:=DataW.trod_int Tryz.underlying24 q0
 obtain ⟨_,_,q1⟩:=fld1 Tryz.underlying37 h (i:=1) rfl c1 (v:=a1) rfl
 obtain ⟨n1,e1,_,we1⟩:=DataW.trod_int Tryz.underlying3 q1
 obtain ⟨_,_,q2⟩:=fld1 Tryz.underlying37 h (i:=2) rfl c1 (v:=a2) rfl
 obtain ⟨n2,e2,_,we2⟩:=DataW.trod_int Tryz.underlying3 q2
 obtain ⟨_,_,q3⟩:=fld1 Tryz.underlying37 h (i:=3) rfl c25 (v:=a3) rfl
 obtain ⟨n3,e3,_,we3⟩:=DataW.trod_int Tryz.underlying25 q3
 obtain ⟨_,_,q4⟩:=fld1 Tryz.underlying37 h (i:=4) rfl c1 (v:=a4) rfl
 obtain ⟨n4,e4,_,we4⟩:=DataW.trod_int Tryz.underlying3 q4
 obtain ⟨_,_,q5⟩:=fld1 Tryz.underlying37 h (i:=5) rfl c1 (v:=a5) rfl
 obtain ⟨n5,e5,_,we5⟩:=DataW.trod_int Tryz.underlying3 q5
 obtain ⟨_,_,q6⟩:=fld1 Tryz.underlying37 h (i:=6) rfl c26 (v:=a6) rfl
 obtain ⟨_,n6,t6,s6⟩:=sl26 q6
 obtain ⟨_,_,q7⟩:=fld1 Tryz.underlying37 h (i:=7) rfl c22 (v:=a7) rfl
 obtain ⟨_,n7,t7,s7⟩:=sl22 q7
 obtain ⟨_,_,q8⟩:=fld1 Tryz.underlying37 h (i:=8) rfl c22 (v:=a8) rfl
 obtain ⟨_,n8,t8,s8⟩:=sl22 q8
 obtain ⟨_,_,q9⟩:=fld1 Tryz.underlying37 h (i:=9) rfl c1 (v:=a9) rfl
 obtain ⟨n9,e9,_,we9⟩:=DataW.trod_int Tryz.underlying3 q9
 obtain ⟨_,_,q10⟩:=fldN Tryz.underlying37 h (i:=10) rfl c28 rfl (A := [a0,a1,a2,a3,a4,a5,a6,a7,a8,a9]) (B:=r) rfl hr
 have t10:=rd28 _ _ _ q10
 obtain ⟨_,_,q11⟩:=fld1 Tryz.underlying37 h (i:=11) rfl c29 (v:=d) (by simp [hr])
 obtain ⟨_,n11,t11,s11⟩:=sl29 q11
 obtain ⟨_,_,q12⟩:=fld1 Tryz.underlying37 h (i:=12) rfl c4 (v:=w) (by simp [List.getElem?_append,hr])
 obtain ⟨n12,e12,_⟩:=DataW.trod_bool Tryz.underlying4 q12
 obtain ⟨_,_,q13⟩:=fldN Tryz.underlying37 h (i:=13) rfl c28 (A := [a0,a1,a2,a3,a4,a5,a6,a7,a8,a9]++(r ++ [d,w])) (B:=o) (C:=([g0,g1,g2,g3]++(mo ++ [e])) ++ [i,f,c]) (by simp only [List.append_assoc]) (by simp [hr]) ho
 have t13:=rd28 _ _ _ q13
 obtain ⟨_,_,q14⟩:=fldN Tryz.underlying37 h (i:=14) rfl c32 (A := [a0,a1,a2,a3,a4,a5,a6,a7,a8,a9]++(r++([d,w]++o))) (B := [g0,g1,g2,g3]++(mo ++ [e])) (C := [i,f,c]) (by simp only [List.append_assoc]) (by simp [hr,ho]) (by simp [hm])
 obtain ⟨_,_,q15⟩:=fldN Tryz.underlying37 h (i:=15) rfl c34 (A := [a0,a1,a2,a3,a4,a5,a6,a7,a8,a9]++(r++([d,w]++(o++([g0,g1,g2,g3]++(mo ++ [e])))))) (B := [i,f]) (C := [c]) (by simp only [List.append_assoc];rfl) (by simp [hr,ho,hm]) rfl
 obtain ⟨_,_,q16⟩:=fld1 Tryz.underlying37 h (i:=16) rfl c35 (v:=c) (by simp [hr, ho, hm])
 obtain ⟨n16,e16,_,we16⟩:=DataW.trod_int Tryz.underlying35 q16
 obtain ⟨_,_,u0⟩:=fld1 Tryz.underlying32 q14 (i:=0) rfl c1 (v:=g0) rfl
 obtain ⟨k0,f0,_,wf0⟩:=DataW.trod_int Tryz.underlying3 u0
 obtain ⟨_,_,u1⟩:=fld1 Tryz.underlying32 q14 (i:=1) rfl c1 (v:=g1) rfl
 obtain ⟨k1,f1,_,wf1⟩:=DataW.trod_int Tryz.underlying3 u1
 obtain ⟨_,_,u2⟩:=fld1 Tryz.underlying32 q14 (i:=2) rfl c1 (v:=g2) rfl
 obtain ⟨k2,f2,_,wf2⟩:=DataW.trod_int Tryz.underlying3 u2
 obtain ⟨_,_,u3⟩:=fld1 Tryz.underlying32 q14 (i:=3) rfl c1 (v:=g3) rfl
 obtain ⟨k3,f3,_,wf3⟩:=DataW.trod_int Tryz.underlying3 u3
 obtain ⟨_,_,u4⟩:=fldN Tryz.underlying32 q14 (i:=4) rfl c28 (A := [g0,g1,g2,g3]) (B:=mo) rfl rfl hm
 have t4:=rd28 _ _ _ u4
 obtain ⟨_,_,u5⟩:=fld1 Tryz.underlying32 q14 (i:=5) rfl c30 (v:=e) (by simp [hm])
 obtain ⟨_,n17,t17,s17⟩:=sl30 u5
 obtain ⟨_,_,v0⟩:=fld1 Tryz.underlying34 q15 (i:=0) rfl c1 (v:=i) rfl
 obtain ⟨n18,f18,_,wf18⟩:=DataW.trod_int Tryz.underlying3 v0
 obtain ⟨_,_,v1⟩:=fld1 Tryz.underlying34 q15 (i:=1) rfl c22 (v:=f) rfl
 obtain ⟨_,n19,t19,s19⟩:=sl22 v1
 cases e0;cases e1;cases e2;cases e3;cases e4;cases e5;cases e9;cases e12;cases e16;cases f0;cases f1;cases f2;cases f3;cases f18
 refine ⟨⟨n0,n1,n2,n3,n4,n5,n9,r,n12,o,k0,k1,k2,k3,mo,n18,n16,t6,t7,t8,t11,t17,t19⟩,⟨_,_,_,_,_,_⟩,⟨n6,n7,n8,n11,n17,n19⟩,?_,⟨s6,s7,s8,s11,s17,s19⟩,⟨t10,t13,t4⟩,⟨we0,we1,we2,we3,we4,we5,we9,wf0,wf1,wf2,wf3,wf18,we16⟩⟩
 simp only [List.map_append,List.map_cons,List.map_nil,t10.clean,t13.clean,t4.clean]
 rfl
end
end Go.Proofs.YtjghlcdidopcpaaGreatDoor

namespace Go.Proofs.YtjghlcdidopcpaaGreatDoor
open Go Go.Abs
open Go.ChangeShapes Go.WideShapes Go.ChangeAt Go.RowKit
@[ext] structure eh where
  inc:Nat
  st:Nat
@[ext] structure cx where
  kind:Nat
  obj:List Nat
  cC:Int
  inc:Nat
  num:Nat
  held:Bool
  k:Int
  n:Int
@[ext] structure aZ where
  kind:Nat
  from_:Int
  eu:Int
  seq:Nat
  origin:Int
  target:Int
  count:Int
  root:List Nat
  b7:Bool
  obj:List Nat
  gk:Int
  gn:Int
  gt:Int
  gs:Int
  cp:List Nat
  cg:Int
  code:Int
  table:List eh
  low:List Nat
  high:List Nat
  bC:List cx
  pieces:List (List Nat)
  data:List Nat
abbrev bI (l:List Nat):List Value:=l.map u8
def eV (m:eh):List Value := [.int .u64 (m.inc:Int),.int .u8 (m.st:Int)]
def recC (r:cx):List Value := .int .u8 (r.kind:Int)::(bI r.obj ++ [.int .i64 r.cC,.int .u64 (r.inc:Int),.int .u64 (r.num:Int),.bool r.held,.int .i64 r.k,.int .i64 r.n])
def aZ.d (m:aZ):bD:=⟨m.kind,m.from_,m.eu,m.seq,m.origin,m.target,m.count,bI m.root,m.b7,bI m.obj,m.gk,m.gn,m.gt,m.gs,bI m.cp,m.cg,m.code,m.table.flatMap eV,bI m.low,bI m.high,m.bC.flatMap recC,m.pieces.flatMap bI,bI m.data⟩
def aZ.n (m:aZ):N6:=⟨m.table.length,m.low.length,m.high.length,m.bC.length,m.pieces.length,m.data.length⟩
def I64 (n:Int):Prop := -9223372036854775808≤n∧n≤9223372036854775807
def Bys (l:List Nat):Prop := ∀ x∈l,x<256
def D32 (l:List Nat):Prop:=l.length=32∧Bys l
structure eh.Wf (m:eh):Prop where
 inc:m.inc<18446744073709551616
 st:m.st<256
structure cx.Wf (r:cx):Prop where
 kind:r.kind<256
 obj:D32 r.obj
 cC:I64 r.cC
 inc:r.inc<18446744073709551616
 num:r.num<18446744073709551616
 k:I64 r.k
 n:I64 r.n
structure aZ.Wf (m:aZ):Prop where
 kind:m.kind<256
 from_:I64 m.from_
 eu:I64 m.eu
 seq:m.seq<18446744073709551616
 origin:I64 m.origin
 target:I64 m.target
 count:I64 m.count
 root:D32 m.root
 obj:D32 m.obj
 gk:I64 m.gk
 gn:I64 m.gn
 gt:I64 m.gt
 gs:I64 m.gs
 cp:D32 m.cp
 cg:I64 m.cg
 code:I64 m.code
 table : ∀ x∈m.table,x.Wf
 low:Bys m.low
 high:Bys m.high
 bC : ∀ x∈m.bC,x.Wf
 pieces : ∀ x∈m.pieces,D32 x
 data:Bys m.data
theorem eD {n:Int}:(Lit.int .i64 n).wf=true↔I64 n:=by
 unfold I64
 simp [Lit.wf,IntKind.min,IntKind.max,IntKind.signed,IntKind.bits]
theorem wf_u64 {n:Int} (h:(Lit.int .u64 n).wf=true) : ∃ m:Nat,n=m∧m<18446744073709551616:=by
 simp [Lit.wf,IntKind.min,IntKind.max,IntKind.signed,IntKind.bits] at h
 exact ⟨n.toNat,by omega,by omega⟩
theorem wf_u64' {m:Nat} (h:m<18446744073709551616):(Lit.int .u64 (m:Int)).wf=true:=by
 simp [Lit.wf,IntKind.min,IntKind.max,IntKind.signed,IntKind.bits]
 omega
theorem dig_of {xs:List Value} (h:Typed fF xs) : ∃ l,xs=bI l∧D32 l:=by
 have hl:xs.length=32:=h.1
 have key : ∀ n,n≤32 → ∃ l:List Nat,xs.take n=bI l∧l.length=n∧Bys l:=by
  intro n
  induction n with
  |zero=>exact fun _=>⟨[],rfl,rfl,fun x hx=>by cases hx⟩
  |succ n ih=>
   intro hn
   obtain ⟨l,h1,h2,h3⟩:=ih (by omega)
   obtain ⟨m,h4,h5⟩:=dig_get h (i:=n) (by omega)
   refine ⟨l ++ [m],?_,by simp [h2],fun x hx => ?_⟩
   ·rw [List.take_add_one,h1,h4]
    simp [bI]
   ·rcases List.mem_append.1 hx with hx|hx
    ·exact h3 x hx
    ·simp only [List.mem_cons,List.not_mem_nil,or_false] at hx
     subst hx;exact h5
 obtain ⟨l,h1,h2,h3⟩:=key 32 (Nat.le_refl _)
 rw [List.take_of_length_le (by omega)] at h1
 exact ⟨l,h1,h2,h3⟩
theorem fo {l:List Nat} (h:D32 l):Typed fF (bI l):=by
 refine ⟨by rw [List.length_map];exact h.1,fun j k hk => ?_⟩
 have hj:j<32:=by
  have:=(List.getElem?_eq_some_iff.1 hk).1
  simpa [fF] using this
 unfold fF at hk
 rw [List.getElem?_replicate,if_pos hj] at hk
 cases hk
 have hj':j<l.length:=by rw [h.1];exact hj
 exact ⟨_,by rw [List.getElem?_map,List.getElem?_eq_getElem hj'];rfl,_,rfl,h.2 _ (List.getElem_mem hj')⟩
theorem mem_of {xs:List Value} (h:Typed memK xs) : ∃ m,xs=eV m∧m.Wf:=by
 have hl:xs.length=2:=h.1
 match xs,hl with
 | [v,w],_=>
   obtain ⟨_,h1,a,rfl,wa⟩:=h.2 0 (.i .u64) rfl
   obtain ⟨_,h2,b,rfl,hb⟩:=h.2 1 .u8 rfl
   cases h1;cases h2
   obtain ⟨m,rfl,hm⟩:=wf_u64 wa
   exact ⟨⟨m,b⟩,rfl,hm,hb⟩
theorem mem_typed {m:eh} (h:m.Wf):Typed memK (eV m):=
 (Typed.one (k := .i .u64) ⟨_,rfl,wf_u64' h.inc⟩).app (Typed.one (k := .u8) ⟨_,rfl,h.st⟩)
theorem rec_of {xs:List Value} (h:Typed recK xs) : ∃ r,xs=recC r∧r.Wf:=by
 obtain ⟨a,o,b,c,d,e,f,g,rfl,ho,ha,wb,wc,wd,wf,wg⟩:=rec_form h
 obtain ⟨l,rfl,hl⟩:=dig_of ho
 obtain ⟨c,rfl,hc⟩:=wf_u64 wc
 obtain ⟨d,rfl,hd⟩:=wf_u64 wd
 exact ⟨⟨a,l,b,c,d,e,f,g⟩,rfl,ha,hl,eD.1 wb,hc,hd,eD.1 wf,eD.1 wg⟩
theorem rec_typed {r:cx} (h:r.Wf):Typed recK (recC r):=
 (Typed.one (k := .u8) ⟨_,rfl,h.kind⟩).app ((fo h.obj).app ((Typed.one (k := .i .i64) ⟨_,rfl,eD.2 h.cC⟩).app ((Typed.one (k := .i .u64) ⟨_,rfl,wf_u64' h.inc⟩).app ((Typed.one (k := .i .u64) ⟨_,rfl,wf_u64' h.num⟩).app
  ((Typed.one (k := .b) ⟨_,rfl⟩).app ((Typed.one (k := .i .i64) ⟨_,rfl,eD.2 h.k⟩).app (Typed.one (k := .i .i64) ⟨_,rfl,eD.2 h.n⟩)))))))
theorem list_of {ks:List Kd} {α:Type} {f:α→List Value} {P:α→Prop} (hf : ∀ xs,Typed ks xs → ∃ a,xs=f a∧P a) : ∀ (n:Nat) (cs:List Value),TypedN ks n cs → ∃ l:List α,l.length=n∧cs=l.flatMap f ∧ ∀ a∈l,P a
 | 0,cs,h=>⟨[],rfl,by
   have:cs.length=0:=by rw [h.1,Nat.zero_mul]
   exact List.length_eq_zero_iff.1 this,fun a ha=>by cases ha⟩
 |n+1,cs,h=>by
  have hl:cs.length=(n+1)*ks.length:=h.1
  have h0:=h.2 0 (by omega)
  rw [Nat.zero_mul,List.drop_zero] at h0
  obtain ⟨a,ha,pa⟩:=hf _ h0
  have hl2:(cs.drop ks.length).length=n*ks.length:=by rw [List.length_drop,hl,Nat.add_mul];omega
  obtain ⟨l,q1,q2,q3⟩:=list_of hf n (cs.drop ks.length) ⟨hl2,fun i hi=>by
   have:=h.2 (i+1) (by omega)
   rw [List.drop_drop,show ks.length+i*ks.length=(i+1)*ks.length by rw [Nat.add_mul];omega]
   exact this⟩
  refine ⟨a::l,by simp [q1],?_,fun b hb => ?_⟩
  ·rw [List.flatMap_cons,←ha,←q2,List.take_append_drop]
  ·rcases List.mem_cons.1 hb with rfl|hb
   ·exact pa
   ·exact q3 b hb
theorem byte_of {xs:List Value} (h:Typed [.u8] xs) : ∃ b:Nat,xs = [u8 b]∧b<256:=by
 have hl:xs.length=1:=h.1
 match xs,hl with
 | [v],_=>
   obtain ⟨_,h1,a,rfl,ha⟩:=h.2 0 .u8 rfl
   cases h1
   exact ⟨a,rfl,ha⟩
theorem flat_one (l:List Nat):l.flatMap (fun b => [u8 b])=bI l:=by
 induction l with
 |nil=>rfl
 |cons x l ih=>rw [List.flatMap_cons,ih];rfl
theorem bytes_of_typed {n:Nat} {cs:List Value} (h:TypedN [.u8] n cs) : ∃ l:List Nat,l.length=n∧cs=bI l∧Bys l:=by
 obtain ⟨l,h1,h2,h3⟩:=list_of (f:=fun b => [u8 b]) (P:=fun b=>b<256) (fun xs hx=>byte_of hx) n cs h
 exact ⟨l,h1,by rw [h2,flat_one],h3⟩
theorem aZ.ok {m:aZ} (h:m.Wf):m.d.Ok:=⟨fo h.root,fo h.obj,fo h.cp⟩
theorem msg_of {h:ak} {s:cP} {n:N6} {M:bD} (x:SlV h s n M) (ok:M.Ok) (rg:M.Rng) : ∃ m:aZ,m.d=M∧m.n=n∧m.Wf:=by
 obtain ⟨kd,fr,to,sq,og,tg,ct,rt,wt,ob,gk,gn,gt,gs,mo,pi,co,tb,lo,hi,rc,pc,da⟩:=M
 obtain ⟨n1,n2,n3,n4,n5,n6⟩:=n
 obtain ⟨kd,rfl,hk⟩:=u8_lit rg.kind
 obtain ⟨sq,rfl,hs⟩:=wf_u64 rg.seq
 obtain ⟨rt,rfl,hrt⟩:=dig_of ok.root
 obtain ⟨ob,rfl,hob⟩:=dig_of ok.obj
 obtain ⟨mo,rfl,hmo⟩:=dig_of ok.cp
 obtain ⟨tb,rfl,rfl,htb⟩:=list_of (f:=eV) (P:=eh.Wf) (fun xs hx=>mem_of hx) _ _ x.a.typed
 obtain ⟨lo,rfl,rfl,hlo⟩:=bytes_of_typed x.b.typed
 obtain ⟨hi,rfl,rfl,hhi⟩:=bytes_of_typed x.c.typed
 obtain ⟨rc,rfl,rfl,hrc⟩:=list_of (f:=recC) (P:=cx.Wf) (fun xs hx=>rec_of hx) _ _ x.d.typed
 obtain ⟨pc,rfl,rfl,hpc⟩:=list_of (f:=bI) (P:=D32) (fun xs hx=>dig_of hx) _ _ x.e.typed
 obtain ⟨da,rfl,rfl,hda⟩:=bytes_of_typed x.f.typed
 exact ⟨⟨kd,fr,to,sq,og,tg,ct,rt,wt,ob,gk,gn,gt,gs,mo,pi,co,tb,lo,hi,rc,pc,da⟩,rfl,rfl,hk,eD.1 rg.from_,eD.1 rg.eu,hs,eD.1 rg.origin,eD.1 rg.target,eD.1 rg.count,hrt,hob,eD.1 rg.gk,eD.1 rg.gn,eD.1 rg.gt,eD.1 rg.gs,hmo,eD.1 rg.cg,eD.1 rg.code,htb,hlo,hhi,hrc,hpc,hda⟩
theorem u8s_inj {a b:List Nat} (h:bI a=bI b):a=b:=List.map_inj_right (fun x y e=>by have e:(Value.int .u8 (x:Int)) = .int .u8 (y:Int):=e;simp only [Value.int.injEq,true_and] at e;omega) |>.1 h
theorem flat_inj {α:Type} {f:α→List Value} {P:α→Prop} {z:Nat} (hz:0<z) (hl : ∀ a,P a→(f a).length=z) (hi : ∀ a b,P a→P b→f a=f b→a=b) : ∀ (l l':List α),(∀ a∈l,P a)→(∀ a∈l',P a)→l.flatMap f=l'.flatMap f→l=l'
 | [],[],_,_,_=>rfl
 | [],b::l',_,h2,e=>by
   have:=congrArg List.length e
   rw [List.flatMap_cons,List.length_append,hl b (h2 b (List.mem_cons_self ..))] at this
   simp at this
   omega
 |a::l,[],h1,_,e=>by
  have:=congrArg List.length e
  rw [List.flatMap_cons,List.length_append,hl a (h1 a (List.mem_cons_self ..))] at this
  simp at this
  omega
 |a::l,b::l',h1,h2,e=>by
  rw [List.flatMap_cons,List.flatMap_cons] at e
  have pa:=h1 a (List.mem_cons_self ..)
  have pb:=h2 b (List.mem_cons_self ..)
  obtain ⟨e1,e2⟩:=List.append_inj e (by rw [hl a pa,hl b pb])
  rw [hi a b pa pb e1,flat_inj hz hl hi l l' (fun x hx=>h1 x (List.mem_cons_of_mem _ hx)) (fun x hx=>h2 x (List.mem_cons_of_mem _ hx)) e2]
theorem memC_inj {a b:eh} (h:eV a=eV b):a=b:=by
 unfold eV at h
 simp only [List.cons.injEq,Value.int.injEq,true_and,and_true] at h
 exact eh.ext (by omega) (by omega)
theorem recC_inj {a b:cx} (ha:a.obj.length=32) (hb:b.obj.length=32) (h:recC a=recC b):a=b:=by
 unfold recC at h
 rw [List.cons.injEq] at h
 obtain ⟨h1,h2⟩:=h
 obtain ⟨h3,h4⟩:=List.append_inj h2 (by simp [bI,ha,hb])
 simp only [List.cons.injEq,Value.int.injEq,Value.bool.injEq,true_and,and_true] at h1 h4
 obtain ⟨q1,q2,q3,q4,q5,q6⟩:=h4
 exact cx.ext (by omega) (u8s_inj h3) q1 (by omega) (by omega) q4 q5 q6
theorem aZ.d_inj {a b:aZ} (wa:a.Wf) (wb:b.Wf) (h:a.d=b.d):a=b:=by
 unfold aZ.d at h
 rw [bD.mk.injEq] at h
 obtain ⟨h1,h2,h3,h4,h5,h6,h7,h8,h9,h10,h11,h12,h13,h14,h15,h16,h17,h18,h19,h20,h21,h22,h23⟩:=h
 exact aZ.ext (by omega) h2 h3 (by omega) h5 h6 h7 (u8s_inj h8) h9 (u8s_inj h10) h11 h12 h13 h14 (u8s_inj h15) h16 h17
  (flat_inj (P:=fun _=>True) (z:=2) (by decide) (fun _ _=>rfl) (fun _ _ _ _ e=>memC_inj e) _ _ (fun _ _=>trivial) (fun _ _=>trivial) h18) (u8s_inj h19) (u8s_inj h20)
  (flat_inj (P:=cx.Wf) (z:=39) (by decide) (fun r hr=>by unfold recC bI;simp [hr.obj.1]) (fun _ _ ha hb e=>recC_inj ha.obj.1 hb.obj.1 e) _ _ wa.bC wb.bC h21)
  (flat_inj (P:=D32) (z:=32) (by decide) (fun l hl=>by simp [bI,hl.1]) (fun _ _ _ _ e=>u8s_inj e) _ _ wa.pieces wb.pieces h22) (u8s_inj h23)
end Go.Proofs.YtjghlcdidopcpaaGreatDoor

namespace Go.Proofs.YtjghlcdidopcpaaGreatDoor
open Go Go.Abs
attribute [local congr] aP
theorem eql_bool (a b:Bool):bin Tryz.prog .eql 4 (.bool a) (.bool b)=some (.bool (a==b)):=by cases a<;>cases b<;>kernel_rfl
theorem bk (C:av) (f:Nat) (args:List Value) (h:ak):callA Tryz.prog C (.func (.func f) #[] #[]) args h=C f args h:=by
 simp [callA]
abbrev mv (m:aZ) (s:cP):Value := .agg (m.d.cells s).toArray
abbrev gv (m:aZ) (s:cP):Value := .agg (m.d.dv s).toArray
structure ej (h:ak) (s:cP) (m:aZ):Prop where
 sl:SlV h s m.n m.d
 wf:m.Wf
theorem ej.bm {h h':ak} {s:cP} {m:aZ} (x:ej h s m) (o:Old h h'):ej h' s m:=⟨x.sl.bm o,x.wf⟩
theorem ej.dV {h h':ak} {s:cP} {m:aZ} (x:ej h s m) {B:Nat→Prop} (k:Kept h h' B) (hB:s.off B):ej h' s m:=⟨x.sl.dV k hB,x.wf⟩
structure MLd (h:ak) (b:Nat) (s:cP) (m:aZ):Prop where
 l0:aK (ptr b 0) h=some (.int .u8 (m.kind:Int),h)
 l1:aK (ptr b 1) h=some (.int .i64 m.from_,h)
 l2:aK (ptr b 2) h=some (.int .i64 m.eu,h)
 l3:aK (ptr b 3) h=some (.int .u64 (m.seq:Int),h)
 l4:aK (ptr b 4) h=some (.int .i64 m.origin,h)
 l5:aK (ptr b 5) h=some (.int .i64 m.target,h)
 l6:aK (ptr b 6) h=some (s.a,h)
 l7:aK (ptr b 7) h=some (s.b,h)
 l8:aK (ptr b 8) h=some (s.c,h)
 l9:aK (ptr b 9) h=some (.int .i64 m.count,h)
 ch:bP 32 (ptr b 10) h=some (.agg (bI m.root).toArray,h)
 bF:aK (ptr b 42) h=some (s.d,h)
 bU:aK (ptr b 43) h=some (.bool m.b7,h)
 b8:bP 32 (ptr b 44) h=some (.agg (bI m.obj).toArray,h)
 bR:bP 37 (ptr b 76) h=some (gv m s,h)
 l112:aK (ptr b 112) h=some (s.e,h)
 aT:aK (ptr b 113) h=some (.int .i64 m.cg,h)
 aR:aK (ptr b 114) h=some (s.f,h)
 aU:aK (ptr b 115) h=some (.int .i64 m.code,h)
 all:bP 116 (ptr b 0) h=some (mv m s,h)
 g:h.get b=some (m.d.cells s)
theorem bW {h h0:ak} {b:Nat} {s:cP} {m:aZ} (x:ej h0 s m) (g:h.get b=some (m.d.cells s)):MLd h b s m:=by
 have A:=msg_ld x.sl (aZ.ok x.wf) g
 exact ⟨A.l0,A.l1,A.l2,A.l3,A.l4,A.l5,A.l6,A.l7,A.l8,A.l9,A.ch,A.bF,A.bU,A.b8,A.bR,A.l112,A.aT,A.aR,A.aU,A.all,g⟩
theorem dg {h:ak} {s:cP} {m:aZ} (x:ej h s m) : ∃ h1,box (mv m s) h=some (ptr h.next 0,h1)∧Old h h1∧ej h1 s m∧MLd h1 h.next s m∧h1.next=h.next+1∧h1=h.alloc (m.d.cells s):=by
 have o1:Old h (h.alloc (m.d.cells s)):=Kept.alloc _ _ _
 have g1:(h.alloc (m.d.cells s)).get h.next=some (m.d.cells s):=by rw [ak.aM,if_pos rfl]
 exact ⟨_,c9 h _ (dE x.sl (aZ.ok x.wf)).2.1,o1,x.bm o1,bW (x.bm o1) g1,rfl,rfl⟩
theorem ej.len {h:ak} {s:cP} {m:aZ} (x:ej h s m):bE s.a=some (aN m.table.length)∧bE s.b=some (aN m.low.length)∧bE s.c=some (aN m.high.length)∧bE s.d=some (aN m.bC.length)∧bE s.e=some (aN m.pieces.length)∧bE s.f=some (aN m.data.length):=
 ⟨x.sl.a.len,x.sl.b.len,x.sl.c.len,x.sl.d.len,x.sl.e.len,x.sl.f.len⟩
def eA (i:Int):Bool:=decide (i≥0)&&decide (i<16)
def sizesB (k n t:Int):Bool:=decide (1≤k)&&decide (k≤n)&&decide (n≤t)&&decide (t≤255)
def memB (m:eh):Bool:=decide ((m.st:Int)≤4)&&(((m.inc:Int)==0)==((m.st:Int)==0))
def tableB (t:List eh):Bool:=decide ((t.length:Int)≥1)&&decide ((t.length:Int)≤16) && !(t.any fun m => !memB m)
def holderB (r:cx):Bool:=decide (r.cC≥0)&&decide (r.cC<16)&&decide ((r.inc:Int)≥1)
def z32:List Nat:=List.replicate 32 0
def cx.z:cx:=⟨0,z32,0,0,0,false,0,0⟩
deriving instance DecidableEq for cx
def cx.base (r:cx):cx:={ cx.z with kind:=r.kind,cC:=r.cC,inc:=r.inc }
def cx.grave (r:cx):cx:={ cx.z with kind:=r.kind,obj:=r.obj }
def pieceB (r:cx):Bool:=holderB r&&decide ((r.num:Int)≥1)&&decide (1≤r.k)&&decide (r.k≤r.n)&&decide (r.n≤255)
def eW (r:cx):Bool:=if (r.kind:Int)==1 then decide (r=r.base)&&holderB r else if (r.kind:Int)==2 then decide (r=r.grave) else if (r.kind:Int)==3 then pieceB r else false
def dp (m:aZ):Bool := !sizesB m.gk m.gn m.gt||decide (m.gs<0)||decide (m.gs>8192)||((m.pieces.length:Int) != m.gt)
theorem is46:bB Tryz.prog 46 Tryz.f46:=⟨by kernel_rfl,by kernel_rfl,by kernel_rfl,by kernel_rfl⟩
theorem r46 {h:ak} (hG:4≤h.n0) (i:Int):CW 46 [.int .i64 i] h=some (.bool (eA i),h):=by
 refine aG is46 hG rfl ((t46_eq _ _ _).trans ?_)
 unfold t46 eA
 cases q0:decide (i≥0) with
 |false=>simp -implicitDefEqProofs only [ah, ah, aq, ar, fs, ai, Bool.false_eq_true, if_false, aB, q0, Bool.false_and]
 |true=>
 cases q1:decide (i<16) with
 |false=>simp -implicitDefEqProofs only [ah, ah, aq, ar, beq_self_eq_true, aj, if_true, aB, aD, q0, q1, Bool.and_false]
 |true=>
 simp -implicitDefEqProofs only [ah, ah, aq, ar, beq_self_eq_true, aj, if_true, aB, aD, q0, q1, Bool.and_true]
theorem is148:bB Tryz.prog 148 Tryz.f148:=⟨by kernel_rfl,by kernel_rfl,by kernel_rfl,by kernel_rfl⟩
theorem r148 {h:ak} (hG:4≤h.n0) (k n t:Int):CW 148 [.int .i64 k,.int .i64 n,.int .i64 t] h=some (.bool (sizesB k n t),h):=by
 refine aG is148 hG rfl ((t148_eq _ _ _ _ _).trans ?_)
 unfold t148 sizesB
 cases q0:decide (1≤k) with
 |false=>simp -implicitDefEqProofs only [ah, ah, aq, ar, fs, ai, Bool.false_eq_true, if_false, aC, q0, Bool.false_and]
 |true=>
 cases q1:decide (k≤n) with
 |false=>simp -implicitDefEqProofs only [ah, ah, aq, ar, fs, beq_self_eq_true, aj, ai, Bool.false_eq_true, if_false, if_true, aC, q0, q1, Bool.and_false, Bool.false_and]
 |true=>
 cases q2:decide (n≤t) with
 |false=>simp -implicitDefEqProofs only [ah, ah, aq, ar, fs, beq_self_eq_true, aj, ai, Bool.false_eq_true, if_false, if_true, aC, q0, q1, q2, Bool.and_true, Bool.and_false, Bool.false_and]
 |true=>
 cases q3:decide (t≤255) with
 |false=>simp -implicitDefEqProofs only [ah, ah, aq, ar, beq_self_eq_true, aj, if_true, aC, q0, q1, q2, q3, Bool.and_true, Bool.and_false]
 |true=>
 simp -implicitDefEqProofs only [ah, ah, aq, ar, beq_self_eq_true, aj, if_true, aC, q0, q1, q2, q3, Bool.and_true]
theorem is147:bB Tryz.prog 147 Tryz.f147:=⟨by kernel_rfl,by kernel_rfl,by kernel_rfl,by kernel_rfl⟩
theorem is146:bB Tryz.prog 146 Tryz.f146:=⟨by kernel_rfl,by kernel_rfl,by kernel_rfl,by kernel_rfl⟩
theorem mem_box (h:ak) (m:eh) : ∃ h1,box (.agg (eV m).toArray) h=some (ptr h.next 0,h1)∧Old h h1∧aK (ptr h.next 0) h1=some (.int .u64 (m.inc:Int),h1)∧aK (ptr h.next 1) h1=some (.int .u8 (m.st:Int),h1)∧bP 2 (ptr h.next 0) h1=some (.agg (eV m).toArray,h1):=by
 have g1:(h.alloc (eV m)).get h.next=some (eV m):=by rw [ak.aM,if_pos rfl]
 exact ⟨_,c9 h _ rfl,Kept.alloc _ _ _,bf g1 rfl,bf g1 rfl,ldN_at g1 (show 0+2≤2 by omega) rfl⟩
theorem r147 {h:ak} (hG:4≤h.n0) (m:eh) : ∃ h',CW 147 [.agg (eV m).toArray] h=some (.bool (memB m),h')∧Old h h':=by
 obtain ⟨h1,b1,o1,l0,l1,-⟩:=mem_box h m
 refine ⟨h1,aG is147 hG rfl ((t147_eq _ _ _).trans ?_),o1⟩
 unfold t147 memB
 cases q0:decide ((m.st:Int)≤4) with
 |false=>simp -implicitDefEqProofs only [b1, l1, ah, aq, ar, fs, ai, Bool.false_eq_true, if_false, ao, Nat.zero_add, aC, q0, Bool.false_and]
 |true=>
 simp -implicitDefEqProofs only [b1, l0, l1, eql_bool, ah, aq, ar, beq_self_eq_true, aj, if_true, ao, Nat.zero_add, aC, ay, q0, Bool.true_and]
theorem r146 {h:ak} (hG:4≤h.n0) (m:eh) : ∃ h',CW 146 [.agg (eV m).toArray] h=some (.bool (!memB m),h')∧Old h h':=by
 obtain ⟨h1,b1,o1,-,-,l⟩:=mem_box h m
 obtain ⟨h2,e2,o2⟩:=r147 (h:=h1) (by rw [o1.n0];exact hG) m
 refine ⟨h2,aG is146 hG rfl ((t146_eq _ _ _).trans ?_),o1.trans o2⟩
 unfold t146
 simp -implicitDefEqProofs only [b1, l, e2, ah, aq, au]
theorem is157:bB Tryz.prog 157 Tryz.f157:=⟨by kernel_rfl,by kernel_rfl,by kernel_rfl,by kernel_rfl⟩
theorem is145:bB Tryz.prog 145 Tryz.f145:=⟨by kernel_rfl,by kernel_rfl,by kernel_rfl,by kernel_rfl⟩
theorem results157:Tryz.f157.results.toList = [.tmp 4]:=by kernel_rfl
theorem b157_exit (C:av) (e:Env) (h:ak):b157_3 C 0 e h=k157_1 C e h:=rfl
def ixInv157 (h0:ak) (v:Value) (l:List eh) (k:Nat) (y:Nat→Value) (g:ak):Prop:=
 ∃ i,i+k=l.length∧y 0=v∧y 1 = .func (.func 146) #[] #[]∧y 7=aN l.length∧y 8=aN i∧Old h0 g∧(l.take i).any (fun m => !memB m)=false
def ixFin157 (h0:ak) (l:List eh) (ex:Ex) (y:Nat→Value) (g:ak):Prop:=
 Old h0 g∧((ex = .ret∧(∃ i:Nat,y 4=aN i)∧l.any (fun m => !memB m)=true)∨(ex = .exit 0∧l.any (fun m => !memB m)=false))
theorem el_flat157 {l:List eh} {i:Nat} {m:eh} (hw : ∀ x∈l,x.Wf) (hm:l[i]? = some m):el 2 (l.flatMap eV) i=eV m:=by
 have hi:=(List.getElem?_eq_some_iff.1 hm).1
 have key : ∀ (l:List eh) (i:Nat),(∀ x∈l,x.Wf)→l[i]? = some m→el 2 (l.flatMap eV) i=eV m:=by
  intro l
  induction l with
  |nil=>intro i _ h;cases h
  |cons a l ih=>
   intro i hw h
   have ha:(eV a).length=2:=(mem_typed (hw a (List.mem_cons_self ..))).1
   cases i with
   |zero=>
    cases h
    unfold el
    rw [Nat.zero_mul,List.drop_zero,List.flatMap_cons,←ha,List.take_left]
   |succ i=>
    have h:l[i]? = some m:=h
    have:=ih i (fun x hx=>hw x (List.mem_cons_of_mem _ hx)) h
    unfold el at this ⊢
    rw [List.flatMap_cons,show (i+1)*2=(eV a).length+i*2 by rw [Nat.add_mul,ha];omega,List.drop_length_add_append]
    exact this
 exact key l i hw hm
theorem ixRound157 {h0:ak} {v:Value} {l:List eh} (hG:4≤h0.n0) (x:dn h0 memK v l.length (l.flatMap eV)) (hw : ∀ x∈l,x.Wf) (hl:l.length≤1000000) : ∀ k y g,ixInv157 h0 v l k y g→dw 19 (ixInv157 h0 v l) (ixFin157 h0 l) k (t157l157_1010 CW y g):=by
 rintro k y g ⟨i,hik,y0,y1,y7,y8,o,ha⟩
 unfold t157l157_1010
 by_cases hi:i<l.length
 ·obtain ⟨b,q,kb,_,a1,_,_,_,a2,_⟩:=(x.bm o).at hi
  obtain ⟨m,hm⟩ : ∃ m,l[i]? = some m:=⟨l[i],List.getElem?_eq_getElem hi⟩
  have a1:cD 2 v (aN i)=some (ptr b (q+i*2)):=a1
  have a2:bP 2 (ptr b (q+i*2)) g=some (.agg (el 2 (l.flatMap eV) i).toArray,g):=a2
  rw [el_flat157 hw hm] at a2
  obtain ⟨g',e,o'⟩:=r146 (h:=g) (by rw [o.n0];exact hG) m
  have hs:(l.take (i+1)).any (fun m => !memB m) = !memB m:=by
   rw [List.take_add_one,hm,List.any_append,ha]
   simp
  simp -implicitDefEqProofs only [y8,y7,dI,y0,y1,decide_eq_true hi,ah,aq,a1,a2,bk,e]
  cases hp:memB m with
  |true=>
   simp -implicitDefEqProofs only [Bool.not_true, ah, aq, eT (show i+1≤9223372036854775807 by omega)]
   exact dw.next (k-1) (by omega) ⟨i+1,by omega,y0,y1,y7,rfl,o.trans o',by rw [hs,hp];rfl⟩
  |false=>
   simp -implicitDefEqProofs only [Bool.not_false]
   refine dw.ret ⟨o.trans o',.inl ⟨rfl,⟨i,rfl⟩,?_⟩⟩
   rw [List.any_eq_true]
   exact ⟨m,List.mem_of_getElem? hm,by rw [hp];rfl⟩
 ·simp -implicitDefEqProofs only [y8,y7,dI,decide_eq_false hi,ah,aq]
  refine dw.out 0 ⟨o,.inr ⟨rfl,?_⟩⟩
  rw [List.take_of_length_le (by omega)] at ha
  exact ha
theorem r145 {h:ak} {v:Value} {l:List eh} (hG:4≤h.n0) (x:dn h memK v l.length (l.flatMap eV)) (hw : ∀ x∈l,x.Wf) (hl:l.length≤1000000) : ∃ h',CW 145 [v,.func (.func 146) #[] #[]] h=some (.bool (l.any fun m => !memB m),h')∧Old h h':=by
 have key : ∃ j h',CW 157 [v,.func (.func 146) #[] #[]] h=some (.int .i64 j,h')∧decide (j≥0)=(l.any fun m => !memB m)∧Old h h':=by
  have k2 : ∃ j h',t157 CW v (.func (.func 146) #[] #[]) h=some (.int .i64 j,h')∧decide (j≥0)=(l.any fun m => !memB m)∧Old h h':=by
   unfold t157
   simp -implicitDefEqProofs only [ah,x.len,aq]
   refine cy (Q:=fun o:Out => ∃ j h',o=some (Value.int .i64 j,h')∧decide (j≥0)=(l.any fun m => !memB m)∧Old h h') (cn (t157l157_1010_eq CW) (ixRound157 hG x hw hl) l.length (by have:rounds=18446744073709551616:=rfl;omega)
    ⟨0,Nat.zero_add _,rfl,rfl,rfl,rfl,Kept.refl _ _,rfl⟩) ?_
   rintro ex z g ⟨o,⟨rfl,⟨i,z4⟩,ha⟩|⟨rfl,ha⟩⟩
   ·rw [eL,fv (t:=4) results157 (by decide),z4]
    exact ⟨i,g,rfl,by rw [ha];exact decide_eq_true (by omega),o⟩
   ·simp -implicitDefEqProofs only [bG,b157_exit,t157k157_1_eq]
    unfold t157k157_1
    exact ⟨-1,g,rfl,by rw [ha];rfl,o⟩
  obtain ⟨j,h',e1,e2,e3⟩:=k2
  exact ⟨j,h',aG is157 hG rfl ((t157_eq _ _ _ _).trans e1),e2,e3⟩
 obtain ⟨j,h',e1,e2,e3⟩:=key
 refine ⟨h',aG is145 hG rfl ((t145_eq _ _ _ _).trans ?_),e3⟩
 unfold t145
 simp -implicitDefEqProofs only [ah,e1,aB,aq,e2]
theorem is151:bB Tryz.prog 151 Tryz.f151:=⟨by kernel_rfl,by kernel_rfl,by kernel_rfl,by kernel_rfl⟩
theorem is138:bB Tryz.prog 138 Tryz.f138:=⟨by kernel_rfl,by kernel_rfl,by kernel_rfl,by kernel_rfl⟩
theorem is137:bB Tryz.prog 137 Tryz.f137:=⟨by kernel_rfl,by kernel_rfl,by kernel_rfl,by kernel_rfl⟩
theorem eg {r:cx} (w:r.Wf):(recC r).length=39∧Abs.bA (recC r)=true∧aS (recC r)=true:=by
 have t:=rec_typed w
 exact ⟨t.1,t.all.1,t.all.2.1⟩
structure RLd (h:ak) (b:Nat) (r:cx):Prop where
 l0:aK (ptr b 0) h=some (.int .u8 (r.kind:Int),h)
 l1:bP 32 (ptr b 1) h=some (.agg (bI r.obj).toArray,h)
 l33:aK (ptr b 33) h=some (.int .i64 r.cC,h)
 l34:aK (ptr b 34) h=some (.int .u64 (r.inc:Int),h)
 l35:aK (ptr b 35) h=some (.int .u64 (r.num:Int),h)
 dP:aK (ptr b 36) h=some (.bool r.held,h)
 l37:aK (ptr b 37) h=some (.int .i64 r.k,h)
 l38:aK (ptr b 38) h=some (.int .i64 r.n,h)
 all:bP 39 (ptr b 0) h=some (.agg (recC r).toArray,h)
theorem r_ld {h:ak} {b:Nat} {r:cx} (w:r.Wf) (g:h.get b=some (recC r)):RLd h b r:=by
 have ho:(bI r.obj).length=32:=by rw [List.length_map];exact w.obj.1
 have hd:=(fo w.obj).all.1
 have at_ : ∀ i v,[Value.int .i64 r.cC,.int .u64 (r.inc:Int),.int .u64 (r.num:Int),.bool r.held,.int .i64 r.k,.int .i64 r.n][i]? = some v→(recC r)[33+i]? = some v:=fun i v e=>by
  unfold recC
  rw [show 33+i=(32+i)+1 by omega,List.getElem?_cons_succ,List.getElem?_append_right (by omega),ho,Nat.add_sub_cancel_left]
  exact e
 exact ⟨bf g rfl rfl,fw g (A := [.int .u8 (r.kind:Int)]) (B:=bI r.obj) rfl rfl ho hd,bf g (at_ 0 _ rfl) rfl,bf g (at_ 1 _ rfl) rfl,bf g (at_ 2 _ rfl) rfl,bf g (at_ 3 _ rfl) rfl,bf g (at_ 4 _ rfl) rfl,bf g (at_ 5 _ rfl) rfl,
  fw g (A := []) (B:=recC r) (C := []) (by simp) rfl (eg w).1 (eg w).2.1⟩
theorem rec_box (h:ak) {r:cx} (w:r.Wf) : ∃ h1,box (.agg (recC r).toArray) h=some (ptr h.next 0,h1)∧Old h h1∧RLd h1 h.next r:=by
 have g1:(h.alloc (recC r)).get h.next=some (recC r):=by rw [ak.aM,if_pos rfl]
 exact ⟨_,c9 h _ (eg w).2.2,Kept.alloc _ _ _,r_ld w g1⟩
theorem r151 {h:ak} (hG:4≤h.n0) {r:cx} (w:r.Wf) : ∃ h',CW 151 [.agg (recC r).toArray] h=some (.bool (holderB r),h')∧Old h h':=by
 obtain ⟨h1,b1,o1,A⟩:=rec_box h w
 refine ⟨h1,aG is151 hG rfl ((t151_eq _ _ _).trans ?_),o1⟩
 unfold t151 holderB
 cases q0:decide (r.cC≥0) with
 |false=>simp -implicitDefEqProofs only [b1, A.l33, ah, aq, ar, fs, ai, Bool.false_eq_true, if_false, ao, Nat.zero_add, aB, q0, Bool.false_and]
 |true=>
 cases q1:decide (r.cC<16) with
 |false=>simp -implicitDefEqProofs only [b1, A.l33, ah, aq, ar, fs, beq_self_eq_true, aj, ai, Bool.false_eq_true, if_false, if_true, ao, Nat.zero_add, aB, aD, q0, q1, Bool.and_false, Bool.false_and]
 |true=>
 cases q2:decide ((r.inc:Int)≥1) with
 |false=>simp -implicitDefEqProofs only [b1, A.l33, A.l34, ah, aq, ar, beq_self_eq_true, aj, if_true, ao, Nat.zero_add, aB, aD, q0, q1, q2, Bool.and_true, Bool.and_false]
 |true=>
 simp -implicitDefEqProofs only [b1, A.l33, A.l34, ah, aq, ar, beq_self_eq_true, aj, if_true, ao, Nat.zero_add, aB, aD, q0, q1, q2, Bool.and_true]
theorem splice_app {A B C B':List Value} {o n:Nat} (hA:A.length=o) (hB:B.length=n) (hB':B'.length=n):bw (A++(B++C)) o B'=A++(B'++C):=by
 subst hA
 unfold bw
 rw [List.take_left,hB',List.append_assoc,←hB,←List.length_append,←List.append_assoc A B C,List.drop_left]
theorem fill_mid {z A B C B':List Value} {o n:Nat} {rest:List (Nat×Nat×Value)} (e:z=A++(B++C)) (hA:A.length=o) (hB:B.length=n) (hB':B'.length=n):cT z ((o,n,.agg B'.toArray)::rest)=cT (A++(B'++C)) rest:=by
 subst e
 have hc:(Value.agg B'.toArray).cells=B'.toArray:=rfl
 simp only [cT,hc,List.size_toArray,hB']
 rw [if_pos (by
  have:o+n≤(A++(B++C)).length:=by rw [List.length_append,List.length_append,hA,hB];omega
  simp only [decide_eq_true this]
  simp),splice_app hA hB hB']
theorem i64_0:I64 0:=⟨by decide,by decide⟩
theorem base_wf {r:cx} (w:r.Wf):r.base.Wf:=⟨w.kind,⟨rfl,fun x hx=>by
 have:=List.eq_of_mem_replicate hx
 omega⟩,w.cC,w.inc,by show (0:Nat)<_;omega,i64_0,i64_0⟩
theorem grave_wf {r:cx} (w:r.Wf):r.grave.Wf:=⟨w.kind,w.obj,i64_0,by show (0:Nat)<_;omega,by show (0:Nat)<_;omega,i64_0,i64_0⟩
theorem bld_base (r:cx):fq [(.int .u8 0),(.int .u8 0),(.int .u8 0),(.int .u8 0),(.int .u8 0),(.int .u8 0),(.int .u8 0),(.int .u8 0),(.int .u8 0),(.int .u8 0),(.int .u8 0),(.int .u8 0),(.int .u8 0),(.int .u8 0),(.int .u8 0),(.int .u8 0),(.int .u8 0),(.int .u8 0),(.int .u8 0),(.int .u8 0),(.int .u8 0),(.int .u8 0),(.int .u8 0),(.int .u8 0),(.int .u8 0),(.int .u8 0),(.int .u8 0),(.int .u8 0),(.int .u8 0),(.int .u8 0),(.int .u8 0),(.int .u8 0),(.int .u8 0),(.int .i64 0),(.int .u64 0),(.int .u64 0),(.bool false),(.int .i64 0),(.int .i64 0)] [(0,1,.int .u8 (r.kind:Int)),(33,1,.int .i64 r.cC),(34,1,.int .u64 (r.inc:Int))]=some (.agg (recC r.base).toArray):=rfl
theorem bld_grave {r:cx} (w:r.Wf):fq [(.int .u8 0),(.int .u8 0),(.int .u8 0),(.int .u8 0),(.int .u8 0),(.int .u8 0),(.int .u8 0),(.int .u8 0),(.int .u8 0),(.int .u8 0),(.int .u8 0),(.int .u8 0),(.int .u8 0),(.int .u8 0),(.int .u8 0),(.int .u8 0),(.int .u8 0),(.int .u8 0),(.int .u8 0),(.int .u8 0),(.int .u8 0),(.int .u8 0),(.int .u8 0),(.int .u8 0),(.int .u8 0),(.int .u8 0),(.int .u8 0),(.int .u8 0),(.int .u8 0),(.int .u8 0),(.int .u8 0),(.int .u8 0),(.int .u8 0),(.int .i64 0),(.int .u64 0),(.int .u64 0),(.bool false),(.int .i64 0),(.int .i64 0)] [(0,1,.int .u8 (r.kind:Int)),(1,32,.agg (bI r.obj).toArray)]=some (.agg (recC r.grave).toArray):=by
 have e:cT [(.int .u8 0),(.int .u8 0),(.int .u8 0),(.int .u8 0),(.int .u8 0),(.int .u8 0),(.int .u8 0),(.int .u8 0),(.int .u8 0),(.int .u8 0),(.int .u8 0),(.int .u8 0),(.int .u8 0),(.int .u8 0),(.int .u8 0),(.int .u8 0),(.int .u8 0),(.int .u8 0),(.int .u8 0),(.int .u8 0),(.int .u8 0),(.int .u8 0),(.int .u8 0),(.int .u8 0),(.int .u8 0),(.int .u8 0),(.int .u8 0),(.int .u8 0),(.int .u8 0),(.int .u8 0),(.int .u8 0),(.int .u8 0),(.int .u8 0),(.int .i64 0),(.int .u64 0),(.int .u64 0),(.bool false),(.int .i64 0),(.int .i64 0)] [(0,1,.int .u8 (r.kind:Int)),(1,32,.agg (bI r.obj).toArray)]=cT ([.int .u8 (r.kind:Int)]++(bI z32 ++ [.int .i64 0,.int .u64 0,.int .u64 0,.bool false,.int .i64 0,.int .i64 0])) [(1,32,.agg (bI r.obj).toArray)]:=rfl
 unfold fq
 rw [e,fill_mid (A := [.int .u8 (r.kind:Int)]) (B:=bI z32) (o:=1) (n:=32) rfl rfl rfl (by rw [List.length_map];exact w.obj.1)]
 rfl
theorem eq_rec {a b:cx} (wa:a.Wf) (wb:b.Wf):bin Tryz.prog .eql 61 (.agg (recC a).toArray) (.agg (recC b).toArray)=some (.bool (decide (a=b))):=by
 obtain ⟨r,h1,h2,_⟩:=eq61 _ _ (rec_typed wa) (rec_typed wb)
 have hr:r=decide (a=b):=by
  by_cases e:a=b
  ·rw [decide_eq_true e,h1.2 (by rw [e])]
  ·rw [decide_eq_false e]
   cases r with
   |false=>rfl
   |true=>exact absurd (recC_inj wa.obj.1 wb.obj.1 (h1.1 rfl)) e
 rw [h2,hr]
theorem r138 {h:ak} (hG:4≤h.n0) {r:cx} (w:r.Wf) : ∃ h',CW 138 [.agg (recC r).toArray] h=some (.bool (eW r),h')∧Old h h':=by
 obtain ⟨h1,b1,o1,A⟩:=rec_box h w
 obtain ⟨h2,e2,o2⟩:=r151 (h:=h1) (by rw [o1.n0];exact hG) w
 have e3:=bld_base r
 have e4:=bld_grave w
 have e5:=eq_rec w (base_wf w)
 have e6:=eq_rec w (grave_wf w)
 unfold eW
 cases k1:(r.kind:Int)==1 with
 |true=>
  simp only [if_true]
  cases q0:decide (r=r.base) with
  |false=>
   refine ⟨h1,aG is138 hG rfl ((t138_eq _ _ _).trans ?_),o1⟩
   unfold t138
   simp -implicitDefEqProofs only [b1, A.l0, A.l33, A.l34, A.all, e3, e5, k1, q0, ah, aq, ar, fs, ai, Bool.false_eq_true, if_false, ao, Nat.zero_add, ay, Bool.false_and]
  |true=>
   refine ⟨h2,aG is138 hG rfl ((t138_eq _ _ _).trans ?_),o1.trans o2⟩
   unfold t138
   simp -implicitDefEqProofs only [b1, A.l0, A.l33, A.l34, A.all, e3, e5, e2, k1, q0, ah, aq, ar, beq_self_eq_true, aj, if_true, ao, Nat.zero_add, ay, Bool.true_and]
 |false=>
  simp only [Bool.false_eq_true,if_false]
  cases k2:(r.kind:Int)==2 with
  |true=>
   simp only [if_true]
   refine ⟨h1,aG is138 hG rfl ((t138_eq _ _ _).trans ?_),o1⟩
   unfold t138
   simp -implicitDefEqProofs only [b1, A.l0, A.l1, A.all, e4, e6, k1, k2, ah, aq, ao, Nat.zero_add, ay]
  |false=>
   simp only [Bool.false_eq_true,if_false]
   cases k3:(r.kind:Int)==3 with
   |true=>
    simp only [if_true]
    have A2:RLd h2 h.next r:=r_ld w (Old.get o2 (by
     obtain ⟨_,b1',_⟩:=rec_box h w
     have:=c9 h (recC r) (eg w).2.2
     rw [b1] at this
     cases this
     rw [ak.aM,if_pos rfl]))
    refine ⟨h2,aG is138 hG rfl ((t138_eq _ _ _).trans ?_),o1.trans o2⟩
    unfold t138 pieceB
    cases q0:holderB r with
    |false=>simp -implicitDefEqProofs only [b1, A.l0, A.all, e2, k1, k2, k3, ah, aq, ar, fs, ai, Bool.false_eq_true, if_false, ao, Nat.zero_add, ay, q0, Bool.false_and]
    |true=>
    cases q1:decide ((r.num:Int)≥1) with
    |false=>simp -implicitDefEqProofs only [b1, A.l0, A.all, e2, k1, k2, k3, A2.l35, ah, aq, ar, fs, beq_self_eq_true, aj, ai, Bool.false_eq_true, if_false, if_true, ao, Nat.zero_add, aB, ay, q0, q1, Bool.and_false, Bool.false_and]
    |true=>
    cases q2:decide (1≤r.k) with
    |false=>simp -implicitDefEqProofs only [b1, A.l0, A.all, e2, k1, k2, k3, A2.l35, A2.l37, ah, aq, ar, fs, beq_self_eq_true, aj, ai, Bool.false_eq_true, if_false, if_true, ao, Nat.zero_add, aB, aC, ay, q0, q1, q2, Bool.and_true, Bool.and_false, Bool.false_and]
    |true=>
    cases q3:decide (r.k≤r.n) with
    |false=>simp -implicitDefEqProofs only [b1, A.l0, A.all, e2, k1, k2, k3, A2.l35, A2.l37, A2.l38, ah, aq, ar, fs, beq_self_eq_true, aj, ai, Bool.false_eq_true, if_false, if_true, ao, Nat.zero_add, aB, aC, ay, q0, q1, q2, q3, Bool.and_true, Bool.and_false, Bool.false_and]
    |true=>
    cases q4:decide (r.n≤255) with
    |false=>simp -implicitDefEqProofs only [b1, A.l0, A.all, e2, k1, k2, k3, A2.l35, A2.l37, A2.l38, ah, aq, ar, beq_self_eq_true, aj, if_true, ao, Nat.zero_add, aB, aC, ay, q0, q1, q2, q3, q4, Bool.and_true, Bool.and_false]
    |true=>
    simp -implicitDefEqProofs only [b1, A.l0, A.all, e2, k1, k2, k3, A2.l35, A2.l37, A2.l38, ah, aq, ar, beq_self_eq_true, aj, if_true, ao, Nat.zero_add, aB, aC, ay, q0, q1, q2, q3, q4, Bool.and_true]
   |false=>
    refine ⟨h1,aG is138 hG rfl ((t138_eq _ _ _).trans ?_),o1⟩
    unfold t138
    simp -implicitDefEqProofs only [b1, A.l0, k1, k2, k3, ah, aq, Bool.false_eq_true, if_false, ao, Nat.zero_add, ay]
theorem r137 {h:ak} (hG:4≤h.n0) {r:cx} (w:r.Wf) : ∃ h',CW 137 [.agg (recC r).toArray] h=some (.bool (!eW r),h')∧Old h h':=by
 obtain ⟨h1,b1,o1,A⟩:=rec_box h w
 obtain ⟨h2,e2,o2⟩:=r138 (h:=h1) (by rw [o1.n0];exact hG) w
 refine ⟨h2,aG is137 hG rfl ((t137_eq _ _ _).trans ?_),o1.trans o2⟩
 unfold t137
 simp -implicitDefEqProofs only [b1, A.all, e2, ah, aq, au]
theorem is150:bB Tryz.prog 150 Tryz.f150:=⟨by kernel_rfl,by kernel_rfl,by kernel_rfl,by kernel_rfl⟩
theorem is136:bB Tryz.prog 136 Tryz.f136:=⟨by kernel_rfl,by kernel_rfl,by kernel_rfl,by kernel_rfl⟩
theorem results150:Tryz.f150.results.toList = [.tmp 4]:=by kernel_rfl
theorem b150_exit (C:av) (e:Env) (h:ak):b150_3 C 0 e h=k150_1 C e h:=rfl
def ixInv150 (h0:ak) (v:Value) (l:List cx) (k:Nat) (y:Nat→Value) (g:ak):Prop:=
 ∃ i,i+k=l.length∧y 0=v∧y 1 = .func (.func 137) #[] #[]∧y 7=aN l.length∧y 8=aN i∧Old h0 g∧(l.take i).any (fun m => !eW m)=false
def ixFin150 (h0:ak) (l:List cx) (ex:Ex) (y:Nat→Value) (g:ak):Prop:=
 Old h0 g∧((ex = .ret∧(∃ i:Nat,y 4=aN i)∧l.any (fun m => !eW m)=true)∨(ex = .exit 0∧l.any (fun m => !eW m)=false))
theorem el_flat150 {l:List cx} {i:Nat} {m:cx} (hw : ∀ x∈l,x.Wf) (hm:l[i]? = some m):el 39 (l.flatMap recC) i=recC m:=by
 have hi:=(List.getElem?_eq_some_iff.1 hm).1
 have key : ∀ (l:List cx) (i:Nat),(∀ x∈l,x.Wf)→l[i]? = some m→el 39 (l.flatMap recC) i=recC m:=by
  intro l
  induction l with
  |nil=>intro i _ h;cases h
  |cons a l ih=>
   intro i hw h
   have ha:(recC a).length=39:=(rec_typed (hw a (List.mem_cons_self ..))).1
   cases i with
   |zero=>
    cases h
    unfold el
    rw [Nat.zero_mul,List.drop_zero,List.flatMap_cons,←ha,List.take_left]
   |succ i=>
    have h:l[i]? = some m:=h
    have:=ih i (fun x hx=>hw x (List.mem_cons_of_mem _ hx)) h
    unfold el at this ⊢
    rw [List.flatMap_cons,show (i+1)*39=(recC a).length+i*39 by rw [Nat.add_mul,ha];omega,List.drop_length_add_append]
    exact this
 exact key l i hw hm
theorem ixRound150 {h0:ak} {v:Value} {l:List cx} (hG:4≤h0.n0) (x:dn h0 recK v l.length (l.flatMap recC)) (hw : ∀ x∈l,x.Wf) (hl:l.length≤1000000) : ∀ k y g,ixInv150 h0 v l k y g→dw 19 (ixInv150 h0 v l) (ixFin150 h0 l) k (t150l150_1010 CW y g):=by
 rintro k y g ⟨i,hik,y0,y1,y7,y8,o,ha⟩
 unfold t150l150_1010
 by_cases hi:i<l.length
 ·obtain ⟨b,q,kb,_,a1,_,_,_,a2,_⟩:=(x.bm o).at hi
  obtain ⟨m,hm⟩ : ∃ m,l[i]? = some m:=⟨l[i],List.getElem?_eq_getElem hi⟩
  have a1:cD 39 v (aN i)=some (ptr b (q+i*39)):=a1
  have a2:bP 39 (ptr b (q+i*39)) g=some (.agg (el 39 (l.flatMap recC) i).toArray,g):=a2
  rw [el_flat150 hw hm] at a2
  obtain ⟨g',e,o'⟩:=r137 (h:=g) (by rw [o.n0];exact hG) (hw m (List.mem_of_getElem? hm))
  have hs:(l.take (i+1)).any (fun m => !eW m) = !eW m:=by
   rw [List.take_add_one,hm,List.any_append,ha]
   simp
  simp -implicitDefEqProofs only [y8,y7,dI,y0,y1,decide_eq_true hi,ah,aq,a1,a2,bk,e]
  cases hp:eW m with
  |true=>
   simp -implicitDefEqProofs only [Bool.not_true, ah, aq, eT (show i+1≤9223372036854775807 by omega)]
   exact dw.next (k-1) (by omega) ⟨i+1,by omega,y0,y1,y7,rfl,o.trans o',by rw [hs,hp];rfl⟩
  |false=>
   simp -implicitDefEqProofs only [Bool.not_false]
   refine dw.ret ⟨o.trans o',.inl ⟨rfl,⟨i,rfl⟩,?_⟩⟩
   rw [List.any_eq_true]
   exact ⟨m,List.mem_of_getElem? hm,by rw [hp];rfl⟩
 ·simp -implicitDefEqProofs only [y8,y7,dI,decide_eq_false hi,ah,aq]
  refine dw.out 0 ⟨o,.inr ⟨rfl,?_⟩⟩
  rw [List.take_of_length_le (by omega)] at ha
  exact ha
theorem r136 {h:ak} {v:Value} {l:List cx} (hG:4≤h.n0) (x:dn h recK v l.length (l.flatMap recC)) (hw : ∀ x∈l,x.Wf) (hl:l.length≤1000000) : ∃ h',CW 136 [v,.func (.func 137) #[] #[]] h=some (.bool (l.any fun m => !eW m),h')∧Old h h':=by
 have key : ∃ j h',CW 150 [v,.func (.func 137) #[] #[]] h=some (.int .i64 j,h')∧decide (j≥0)=(l.any fun m => !eW m)∧Old h h':=by
  have k2 : ∃ j h',t150 CW v (.func (.func 137) #[] #[]) h=some (.int .i64 j,h')∧decide (j≥0)=(l.any fun m => !eW m)∧Old h h':=by
   unfold t150
   simp -implicitDefEqProofs only [ah,x.len,aq]
   refine cy (Q:=fun o:Out => ∃ j h',o=some (Value.int .i64 j,h')∧decide (j≥0)=(l.any fun m => !eW m)∧Old h h') (cn (t150l150_1010_eq CW) (ixRound150 hG x hw hl) l.length (by have:rounds=18446744073709551616:=rfl;omega)
    ⟨0,Nat.zero_add _,rfl,rfl,rfl,rfl,Kept.refl _ _,rfl⟩) ?_
   rintro ex z g ⟨o,⟨rfl,⟨i,z4⟩,ha⟩|⟨rfl,ha⟩⟩
   ·rw [eL,fv (t:=4) results150 (by decide),z4]
    exact ⟨i,g,rfl,by rw [ha];exact decide_eq_true (by omega),o⟩
   ·simp -implicitDefEqProofs only [bG,b150_exit,t150k150_1_eq]
    unfold t150k150_1
    exact ⟨-1,g,rfl,by rw [ha];rfl,o⟩
  obtain ⟨j,h',e1,e2,e3⟩:=k2
  exact ⟨j,h',aG is150 hG rfl ((t150_eq _ _ _ _).trans e1),e2,e3⟩
 obtain ⟨j,h',e1,e2,e3⟩:=key
 refine ⟨h',aG is136 hG rfl ((t136_eq _ _ _ _).trans ?_),e3⟩
 unfold t136
 simp -implicitDefEqProofs only [ah,e1,aB,aq,e2]
theorem is125:bB Tryz.prog 125 Tryz.f125:=⟨by kernel_rfl,by kernel_rfl,by kernel_rfl,by kernel_rfl⟩
theorem r125 {h:ak} {v:Value} {l:List eh} (hG:4≤h.n0) (x:dn h memK v l.length (l.flatMap eV)) (hw : ∀ x∈l,x.Wf) : ∃ h',CW 125 [v] h=some (.bool (tableB l),h')∧Old h h':=by
 unfold tableB
 cases q0:decide ((l.length:Int)≥1) with
 |false=>
  refine ⟨h,aG is125 hG rfl ((t125_eq _ _ _).trans ?_),Kept.refl _ _⟩
  unfold t125
  simp -implicitDefEqProofs only [x.len, q0, ah, aq, ar, fs, ai, Bool.false_eq_true, if_false, aB, Bool.false_and]
 |true=>
 cases q1:decide ((l.length:Int)≤16) with
 |false=>
  refine ⟨h,aG is125 hG rfl ((t125_eq _ _ _).trans ?_),Kept.refl _ _⟩
  unfold t125
  simp -implicitDefEqProofs only [x.len, q0, q1, ah, aq, ar, fs, beq_self_eq_true, aj, ai, Bool.false_eq_true, if_false, if_true, aB, aC, Bool.and_false, Bool.false_and]
 |true=>
 have:=of_decide_eq_true q1
 obtain ⟨h1,e1,o1⟩:=r145 hG x hw (by omega)
 refine ⟨h1,aG is125 hG rfl ((t125_eq _ _ _).trans ?_),o1⟩
 unfold t125
 simp -implicitDefEqProofs only [x.len, q0, q1, e1, ah, aq, ar, beq_self_eq_true, aj, if_true, au, aB, aC, Bool.and_true, Bool.true_and]
theorem is131:bB Tryz.prog 131 Tryz.f131:=⟨by kernel_rfl,by kernel_rfl,by kernel_rfl,by kernel_rfl⟩
section
variable {h:ak} {s:cP} {m:aZ} (hG:4≤h.n0) (x:ej h s m)
include hG x
theorem r131 : ∃ h',CW 131 [gv m s] h=some (.int .i64 (if dp m then 2 else 0),h')∧Old h h':=by
 have mo:=man_ok x.sl (aZ.ok x.wf)
 have b1:=c9 h (m.d.dv s) mo.2.1
 have o1:Old h (h.alloc (m.d.dv s)):=Kept.alloc _ _ _
 have g1:(h.alloc (m.d.dv s)).get h.next=some (m.d.dv s):=by rw [ak.aM,if_pos rfl]
 generalize h.alloc (m.d.dv s)=h1 at *
 have A:=fB (x.sl.bm o1) (aZ.ok x.wf) g1
 have l0:aK (ptr h.next 0) h1=some (.int .i64 m.gk,h1):=A.l0
 have l1:aK (ptr h.next 1) h1=some (.int .i64 m.gn,h1):=A.l1
 have l2:aK (ptr h.next 2) h1=some (.int .i64 m.gt,h1):=A.l2
 have l3:aK (ptr h.next 3) h1=some (.int .i64 m.gs,h1):=A.l3
 have e1:=r148 (h:=h1) (by rw [o1.n0];exact hG) m.gk m.gn m.gt
 refine ⟨h1,aG is131 hG rfl ((t131_eq _ _ _).trans ?_),o1⟩
 unfold t131 dp
 cases q0 : !sizesB m.gk m.gn m.gt with
 |true=>simp -implicitDefEqProofs only [b1, l0, l1, l2, e1, ah, aq, ar, sf, ai, if_true, ao, Nat.zero_add, au, q0, Bool.true_or]
 |false=>
 cases q1:decide (m.gs<0) with
 |true=>simp -implicitDefEqProofs only [b1, l0, l1, l2, l3, e1, ah, aq, ar, sf, beq_self_eq_true, aj, ai, Bool.false_eq_true, if_false, if_true, ao, Nat.zero_add, au, aD, q0, q1, Bool.or_true, Bool.true_or]
 |false=>
 cases q2:decide (m.gs>8192) with
 |true=>simp -implicitDefEqProofs only [b1, l0, l1, l2, l3, e1, ah, aq, ar, sf, beq_self_eq_true, aj, ai, Bool.false_eq_true, if_false, if_true, ao, Nat.zero_add, au, aD, aE, q0, q1, q2, Bool.or_true, Bool.true_or, Bool.or_false]
 |false=>
 cases q3:((m.pieces.length:Int) != m.gt) with
 |true=>simp -implicitDefEqProofs only [b1, l0, l1, l2, l3, A.dP, e1, x.len.2.2.2.2.1, ah, aq, ar, beq_self_eq_true, aj, Bool.false_eq_true, if_false, if_true, ao, Nat.zero_add, au, aD, aE, aA, q0, q1, q2, q3, Bool.or_true, Bool.or_false]
 |false=>
 simp -implicitDefEqProofs only [b1, l0, l1, l2, l3, A.dP, e1, x.len.2.2.2.2.1, ah, aq, ar, beq_self_eq_true, aj, Bool.false_eq_true, if_false, ao, Nat.zero_add, au, aD, aE, aA, q0, q1, q2, q3, Bool.or_false]
end
theorem is95:bB Tryz.prog 95 Tryz.f95:=⟨by kernel_rfl,by kernel_rfl,by kernel_rfl,by kernel_rfl⟩
theorem is111:bB Tryz.prog 111 Tryz.f111:=⟨by kernel_rfl,by kernel_rfl,by kernel_rfl,by kernel_rfl⟩
theorem is102:bB Tryz.prog 102 Tryz.f102:=⟨by kernel_rfl,by kernel_rfl,by kernel_rfl,by kernel_rfl⟩
theorem is106:bB Tryz.prog 106 Tryz.f106:=⟨by kernel_rfl,by kernel_rfl,by kernel_rfl,by kernel_rfl⟩
theorem is118:bB Tryz.prog 118 Tryz.f118:=⟨by kernel_rfl,by kernel_rfl,by kernel_rfl,by kernel_rfl⟩
def rangeB (m:aZ):Bool:=decide ((m.low.length:Int)≤34)&&decide ((m.high.length:Int)≤34)&&decide (m.count≥0)&&decide (m.count≤1048576)&&decide ((m.bC.length:Int)≤64) && !(m.bC.any fun r => !eW r)
def tabB (m:aZ):Bool:=eA m.origin&&eA m.target&&tableB m.table
def pceB (m:aZ):Bool := !dp m&&decide (m.cg≥0)&&decide (m.cg<m.gt)&&decide ((m.data.length:Int)≤8192)
def codeB (m:aZ):Bool:=decide (m.code≥0)&&decide (m.code≤999)
section
variable {h:ak} {s:cP} {m:aZ} (hG:4≤h.n0) (x:ej h s m)
include hG x
theorem r102 : ∃ h',CW 102 [mv m s] h=some (.bool true,h')∧Old h h':=by
 obtain ⟨h1,b1,o1,-⟩:=dg x
 refine ⟨h1,aG is102 hG rfl ((t102_eq _ _ _).trans ?_),o1⟩
 unfold t102
 simp -implicitDefEqProofs only [b1,ah]
theorem r118 : ∃ h',CW 118 [mv m s] h=some (.bool (codeB m),h')∧Old h h':=by
 obtain ⟨h1,b1,o1,x1,A,-⟩:=dg x
 refine ⟨h1,aG is118 hG rfl ((t118_eq _ _ _).trans ?_),o1⟩
 unfold t118 codeB
 cases q0:decide (m.code≥0) with
 |false=>simp -implicitDefEqProofs only [b1, A.aU, ah, aq, ar, fs, ai, Bool.false_eq_true, if_false, ao, Nat.zero_add, aB, q0, Bool.false_and]
 |true=>
 cases q1:decide (m.code≤999) with
 |false=>simp -implicitDefEqProofs only [b1, A.aU, ah, aq, ar, beq_self_eq_true, aj, if_true, ao, Nat.zero_add, aB, aC, q0, q1, Bool.and_false]
 |true=>
 simp -implicitDefEqProofs only [b1, A.aU, ah, aq, ar, beq_self_eq_true, aj, if_true, ao, Nat.zero_add, aB, aC, q0, q1, Bool.and_true]
theorem r95 : ∃ h',CW 95 [mv m s] h=some (.bool (tabB m),h')∧Old h h':=by
 obtain ⟨h1,b1,o1,x1,A,-⟩:=dg x
 have hG1:4≤h1.n0:=by rw [o1.n0];exact hG
 have e1:=r46 hG1 m.origin
 have e2:=r46 hG1 m.target
 obtain ⟨h2,e3,o2⟩:=r125 hG1 x1.sl.a x.wf.table
 unfold tabB
 cases q0:eA m.origin with
 |false=>
  refine ⟨h1,aG is95 hG rfl ((t95_eq _ _ _).trans ?_),o1⟩
  unfold t95
  simp -implicitDefEqProofs only [b1, A.l4, e1, q0, ah, aq, ar, fs, ai, Bool.false_eq_true, if_false, ao, Nat.zero_add, Bool.false_and]
 |true=>
 cases q1:eA m.target with
 |false=>
  refine ⟨h1,aG is95 hG rfl ((t95_eq _ _ _).trans ?_),o1⟩
  unfold t95
  simp -implicitDefEqProofs only [b1, A.l4, A.l5, e1, e2, q0, q1, ah, aq, ar, fs, beq_self_eq_true, aj, ai, Bool.false_eq_true, if_false, if_true, ao, Nat.zero_add, Bool.and_false, Bool.false_and]
 |true=>
 refine ⟨h2,aG is95 hG rfl ((t95_eq _ _ _).trans ?_),o1.trans o2⟩
 unfold t95
 simp -implicitDefEqProofs only [b1, A.l4, A.l5, A.l6, e1, e2, e3, q0, q1, ah, aq, ar, beq_self_eq_true, aj, if_true, ao, Nat.zero_add, Bool.and_true, Bool.true_and]
theorem r106 : ∃ h',CW 106 [mv m s] h=some (.bool (pceB m),h')∧Old h h':=by
 obtain ⟨h1,b1,o1,x1,A,nx,hh⟩:=dg x
 have hG1:4≤h1.n0:=by rw [o1.n0];exact hG
 obtain ⟨h2,e1,o2⟩:=r131 hG1 x1
 have g2:=Old.get o2 A.g
 have A2:=bW (x1.bm o2) g2
 have l78:aK (ptr h.next 78) h2=some (.int .i64 m.gt,h2):=bf g2 (by
  have:=at42 (s:=s) (aZ.ok x.wf)
  have hr:(bI m.root).length=32:=by rw [List.length_map];exact x.wf.root.1
  have ho:(bI m.obj).length=32:=by rw [List.length_map];exact x.wf.obj.1
  exact cQ 68 rfl (cQ 36 (by show (bI m.root).length+36=68;omega) (cQ 34 rfl (cQ 2 (by show (bI m.obj).length+2=34;omega) rfl)))) rfl
 refine ⟨h2,aG is106 hG rfl ((t106_eq _ _ _).trans ?_),o1.trans o2⟩
 have hz:((if dp m then (2:Int) else 0)==0) = !dp m:=by cases dp m<;>rfl
 unfold t106 pceB
 cases q0 : !dp m with
 |false=>simp -implicitDefEqProofs only [b1, A.bR, e1, hz, ah, aq, ar, fs, ai, Bool.false_eq_true, if_false, ao, Nat.zero_add, ay, q0, Bool.false_and]
 |true=>
 cases q1:decide (m.cg≥0) with
 |false=>simp -implicitDefEqProofs only [b1, A.bR, e1, hz, A2.aT, ah, aq, ar, fs, beq_self_eq_true, aj, ai, Bool.false_eq_true, if_false, if_true, ao, Nat.zero_add, Nat.reduceAdd, aB, ay, q0, q1, Bool.and_false, Bool.false_and]
 |true=>
 cases q2:decide (m.cg<m.gt) with
 |false=>simp -implicitDefEqProofs only [b1, A.bR, e1, hz, A2.aT, l78, ah, aq, ar, fs, beq_self_eq_true, aj, ai, Bool.false_eq_true, if_false, if_true, ao, Nat.zero_add, Nat.reduceAdd, aB, aD, ay, q0, q1, q2, Bool.and_true, Bool.and_false, Bool.false_and]
 |true=>
 cases q3:decide ((m.data.length:Int)≤8192) with
 |false=>simp -implicitDefEqProofs only [b1, A.bR, e1, hz, A2.aT, l78, A2.aR, x.len.2.2.2.2.2, ah, aq, ar, beq_self_eq_true, aj, if_true, ao, Nat.zero_add, Nat.reduceAdd, aB, aC, aD, ay, q0, q1, q2, q3, Bool.and_true, Bool.and_false]
 |true=>
 simp -implicitDefEqProofs only [b1, A.bR, e1, hz, A2.aT, l78, A2.aR, x.len.2.2.2.2.2, ah, aq, ar, beq_self_eq_true, aj, if_true, ao, Nat.zero_add, Nat.reduceAdd, aB, aC, aD, ay, q0, q1, q2, q3, Bool.and_true]
theorem r111 : ∃ h',CW 111 [mv m s] h=some (.bool (rangeB m),h')∧Old h h':=by
 obtain ⟨h1,b1,o1,x1,A,-⟩:=dg x
 have hG1:4≤h1.n0:=by rw [o1.n0];exact hG
 obtain ⟨n1,n2,n3,n4,n5,n6⟩:=x.len
 by_cases q4':(m.bC.length:Int)≤64
 ·obtain ⟨h2,e3,o2⟩:=r136 hG1 x1.sl.d x.wf.bC (by omega)
  unfold rangeB
  cases q0:decide ((m.low.length:Int)≤34) with
  |false=>
   refine ⟨h1,aG is111 hG rfl ((t111_eq _ _ _).trans ?_),o1⟩
   unfold t111
   simp -implicitDefEqProofs only [b1, A.l7, n2, ah, aq, ar, fs, ai, Bool.false_eq_true, if_false, ao, Nat.zero_add, aC, q0, Bool.false_and]
  |true=>
  cases q1:decide ((m.high.length:Int)≤34) with
  |false=>
   refine ⟨h1,aG is111 hG rfl ((t111_eq _ _ _).trans ?_),o1⟩
   unfold t111
   simp -implicitDefEqProofs only [b1, A.l7, A.l8, n2, n3, ah, aq, ar, fs, beq_self_eq_true, aj, ai, Bool.false_eq_true, if_false, if_true, ao, Nat.zero_add, aC, q0, q1, Bool.and_false, Bool.false_and]
  |true=>
  cases q2:decide (m.count≥0) with
  |false=>
   refine ⟨h1,aG is111 hG rfl ((t111_eq _ _ _).trans ?_),o1⟩
   unfold t111
   simp -implicitDefEqProofs only [b1, A.l7, A.l8, A.l9, n2, n3, ah, aq, ar, fs, beq_self_eq_true, aj, ai, Bool.false_eq_true, if_false, if_true, ao, Nat.zero_add, aB, aC, q0, q1, q2, Bool.and_true, Bool.and_false, Bool.false_and]
  |true=>
  cases q3:decide (m.count≤1048576) with
  |false=>
   refine ⟨h1,aG is111 hG rfl ((t111_eq _ _ _).trans ?_),o1⟩
   unfold t111
   simp -implicitDefEqProofs only [b1, A.l7, A.l8, A.l9, n2, n3, ah, aq, ar, fs, beq_self_eq_true, aj, ai, Bool.false_eq_true, if_false, if_true, ao, Nat.zero_add, aB, aC, q0, q1, q2, q3, Bool.and_true, Bool.and_false, Bool.false_and]
  |true=>
  have q4:decide ((m.bC.length:Int)≤64)=true:=decide_eq_true q4'
  refine ⟨h2,aG is111 hG rfl ((t111_eq _ _ _).trans ?_),o1.trans o2⟩
  unfold t111
  simp -implicitDefEqProofs only [b1, A.l7, A.l8, A.l9, A.bF, n2, n3, n4, e3, ah, aq, ar, beq_self_eq_true, aj, if_true, ao, Nat.zero_add, au, aB, aC, q0, q1, q2, q3, q4, Bool.and_true, Bool.true_and]
 ·have q4:decide ((m.bC.length:Int)≤64)=false:=decide_eq_false q4'
  refine ⟨h1,aG is111 hG rfl ((t111_eq _ _ _).trans ?_),o1⟩
  unfold t111 rangeB
  cases q0:decide ((m.low.length:Int)≤34) with
  |false=>simp -implicitDefEqProofs only [b1, A.l7, n2, q4, ah, aq, ar, fs, ai, Bool.false_eq_true, if_false, ao, Nat.zero_add, aC, q0, Bool.and_false, Bool.false_and]
  |true=>
  cases q1:decide ((m.high.length:Int)≤34) with
  |false=>simp -implicitDefEqProofs only [b1, A.l7, A.l8, n2, n3, q4, ah, aq, ar, fs, beq_self_eq_true, aj, ai, Bool.false_eq_true, if_false, if_true, ao, Nat.zero_add, aC, q0, q1, Bool.and_false, Bool.false_and]
  |true=>
  cases q2:decide (m.count≥0) with
  |false=>simp -implicitDefEqProofs only [b1, A.l7, A.l8, A.l9, n2, n3, q4, ah, aq, ar, fs, beq_self_eq_true, aj, ai, Bool.false_eq_true, if_false, if_true, ao, Nat.zero_add, aB, aC, q0, q1, q2, Bool.and_true, Bool.and_false, Bool.false_and]
  |true=>
  cases q3:decide (m.count≤1048576) with
  |false=>simp -implicitDefEqProofs only [b1, A.l7, A.l8, A.l9, n2, n3, q4, ah, aq, ar, fs, beq_self_eq_true, aj, ai, Bool.false_eq_true, if_false, if_true, ao, Nat.zero_add, aB, aC, q0, q1, q2, q3, Bool.and_true, Bool.and_false, Bool.false_and]
  |true=>
  simp -implicitDefEqProofs only [b1, A.l7, A.l8, A.l9, A.bF, n2, n3, n4, q4, ah, aq, ar, fs, beq_self_eq_true, aj, ai, Bool.false_eq_true, if_false, if_true, ao, Nat.zero_add, aB, aC, q0, q1, q2, q3, Bool.and_true, Bool.and_false, Bool.false_and]
end
end Go.Proofs.YtjghlcdidopcpaaGreatDoor

namespace Go.Proofs.YtjghlcdidopcpaaGreatDoor
open Go Go.Abs
attribute [local congr] aP
deriving instance DecidableEq for eh
deriving instance DecidableEq for aZ
theorem ld_agg {t n:Nat} (h1:aggT Tryz.prog t=some true) (h2:cJ Tryz.prog t=some n) (v:Value) (h:ak):ld Tryz.prog t v h=bP n v h:=by
 unfold ld
 rw [h1,h2]
theorem getD_mkF {n k:Nat} (hk:k<n) (x:Nat→Value):(aX n x).getD k undef=x k:=by
 unfold aX
 simp [hk]
theorem res_cell {rs:List ResultVar} {n k t z:Nat} (hr:rs = [.cell k t]) (h1:aggT Tryz.prog t=some true) (h2:cJ Tryz.prog t=some z) (hk:k<n) (x:Nat→Value) {h:ak} {v:Value} (e:bP z (x k) h=some (v,h)):ax Tryz.prog rs (aX n x) h=some (v,h):=by
 subst hr
 simp only [ax,dK,getD_mkF hk,ld_agg h1 h2,e]
 rfl
theorem res_cell_tmp {rs:List ResultVar} {n k t z j:Nat} (hr:rs = [.cell k t,.tmp j]) (h1:aggT Tryz.prog t=some true) (h2:cJ Tryz.prog t=some z) (hk:k<n) (hj:j<n) (x:Nat→Value) {h:ak} {v:Value} (e:bP z (x k) h=some (v,h)):ax Tryz.prog rs (aX n x) h=some (.tuple #[v,x j],h):=by
 subst hr
 simp only [ax,List.mapM_cons,List.mapM_nil,dK,getD_mkF hk,getD_mkF hj,ld_agg h1 h2,e]
 rfl
theorem dn.nil (h:ak) (ks:List Kd):dn h ks (.slice none 0 0) 0 []:=⟨none,0,rfl,fun _=>rfl,⟨by simp,fun i hi=>absurd hi (Nat.not_lt_zero i)⟩,fun h=>absurd h (Nat.lt_irrefl 0)⟩
def bV:cP:=⟨.slice none 0 0,.slice none 0 0,.slice none 0 0,.slice none 0 0,.slice none 0 0,.slice none 0 0⟩
def aZ.z:aZ:=⟨0,0,0,0,0,0,0,z32,false,z32,0,0,0,0,z32,0,0,[],[],[],[],[],[]⟩
theorem z32_ok:D32 z32:=⟨rfl,fun x hx=>by
 have:=List.eq_of_mem_replicate hx
 omega⟩
theorem aZ.z_wf:aZ.z.Wf:=⟨by decide,i64_0,i64_0,by decide,i64_0,i64_0,i64_0,z32_ok,z32_ok,i64_0,i64_0,i64_0,i64_0,z32_ok,i64_0,i64_0,fun x hx=>(by cases hx),fun x hx=>(by cases hx),fun x hx=>(by cases hx),fun x hx=>(by cases hx),fun x hx=>(by cases hx),fun x hx=>by cases hx⟩
def sPing (m:aZ):aZ:={ aZ.z with seq:=m.seq,origin:=m.origin,table:=m.table }
def sReq (m:aZ):aZ:={ aZ.z with seq:=m.seq,target:=m.target,table:=m.table }
def sSum (m:aZ):aZ:={ aZ.z with low:=m.low,high:=m.high,count:=m.count,root:=m.root }
def sItems (m:aZ):aZ:={ aZ.z with low:=m.low,high:=m.high,b7:=m.b7,bC:=m.bC }
def sObj (m:aZ):aZ:={ aZ.z with obj:=m.obj }
def sPiece (m:aZ):aZ:={ aZ.z with obj:=m.obj,gk:=m.gk,gn:=m.gn,gt:=m.gt,gs:=m.gs,cp:=m.cp,pieces:=m.pieces,cg:=m.cg,data:=m.data }
def sStored (m:aZ):aZ:={ aZ.z with obj:=m.obj,code:=m.code }
theorem sPing_wf {m:aZ} (w:m.Wf):(sPing m).Wf:={ aZ.z_wf with seq:=w.seq,origin:=w.origin,table:=w.table }
theorem sReq_wf {m:aZ} (w:m.Wf):(sReq m).Wf:={ aZ.z_wf with seq:=w.seq,target:=w.target,table:=w.table }
theorem sSum_wf {m:aZ} (w:m.Wf):(sSum m).Wf:={ aZ.z_wf with low:=w.low,high:=w.high,count:=w.count,root:=w.root }
theorem sItems_wf {m:aZ} (w:m.Wf):(sItems m).Wf:={ aZ.z_wf with low:=w.low,high:=w.high,bC:=w.bC }
theorem sObj_wf {m:aZ} (w:m.Wf):(sObj m).Wf:={ aZ.z_wf with obj:=w.obj }
theorem sPiece_wf {m:aZ} (w:m.Wf):(sPiece m).Wf:={ aZ.z_wf with obj:=w.obj,gk:=w.gk,gn:=w.gn,gt:=w.gt,gs:=w.gs,cp:=w.cp,pieces:=w.pieces,cg:=w.cg,data:=w.data }
theorem sStored_wf {m:aZ} (w:m.Wf):(sStored m).Wf:={ aZ.z_wf with obj:=w.obj,code:=w.code }
theorem agg37:aggT Tryz.prog 37=some true:=by kernel_rfl
theorem siz37:cJ Tryz.prog 37=some 116:=by kernel_rfl
theorem b6 {l:List Nat} (h:D32 l):(bI l).length=32:=by rw [List.length_map];exact h.1
theorem dn.form {h:ak} {ks:List Kd} {v:Value} {n:Nat} {cs:List Value} (x:dn h ks v n cs) : ∃ a c,v = .slice a n c:=by
 obtain ⟨a,c,e,_⟩:=x
 exact ⟨a,c,e⟩
theorem made {h h1:ak} {s':cP} {m':aZ} (o:Old h h1) (x:ej h s' m') : ∃ hz h2,fz Zl h1=some (ptr h1.next 0,hz)∧Old h1 hz∧dH 116 (ptr h1.next 0) (mv m' s') hz=some (undef,h2)∧bP 116 (ptr h1.next 0) h2=some (mv m' s',h2)∧ej h2 s' m'∧Old h h2∧h2.get h1.next=some (m'.d.cells s')∧Old h1 h2:=by
 have c:=dE x.sl (aZ.ok x.wf)
 obtain ⟨h2,e1,e2,e3,_⟩:=one_new h1 (Z:=Zl) rfl c.2.2 c.2.1
 have x2:=(x.bm o).bm e2
 exact ⟨_,h2,newC_eq _ _,Kept.alloc _ _ _,e1,(bW x2 e3).all,x2,o.trans e2,e3,e2⟩
section
variable {h:ak} {s:cP} {m:aZ} (hG:4≤h.n0) (x:ej h s m)
include hG x
omit hG x in
theorem is96:bB Tryz.prog 96 Tryz.f96:=⟨by kernel_rfl,by kernel_rfl,by kernel_rfl,by kernel_rfl⟩
set_option maxRecDepth 100000 in
theorem r96 : ∃ s' h',CW 96 [mv m s] h=some (mv (sPing m) s',h')∧ej h' s' (sPing m)∧Old h h':=by
 obtain ⟨h1,b1,o1,x1,A,-⟩:=dg x
 have hr:Tryz.f96.results.toList = [.cell 2 37]:=by kernel_rfl
 have bl:fq Zl [(3,1,.int .u64 (m.seq:Int)),(4,1,.int .i64 m.origin),(6,1,s.a)]=some (mv (sPing m) ⟨s.a,bV.b,bV.c,bV.d,bV.e,bV.f⟩):=by
  obtain ⟨aa,ca,ea⟩:=x.sl.a.form
  rw [ea]
  rfl
 have X:ej h ⟨s.a,bV.b,bV.c,bV.d,bV.e,bV.f⟩ (sPing m):=⟨⟨x.sl.a,.nil _ _,.nil _ _,.nil _ _,.nil _ _,.nil _ _⟩,sPing_wf x.wf⟩
 obtain ⟨hz,h2,z1,oz,u1,u2,X2,o2,_⟩:=made o1 X
 have A:=bW (x1.bm oz) (Old.get oz A.g)
 refine ⟨_,h2,aG is96 hG rfl ((t96_eq _ _ _).trans ?_),X2,o2⟩
 unfold t96
 simp -implicitDefEqProofs only [b1, z1, A.l3, A.l4, A.l6, bl, u1, ah, aq, ao, Nat.zero_add]
 exact res_cell hr agg37 siz37 (show 2<10 by decide) _ u2
omit hG x in
theorem is99:bB Tryz.prog 99 Tryz.f99:=⟨by kernel_rfl,by kernel_rfl,by kernel_rfl,by kernel_rfl⟩
set_option maxRecDepth 100000 in
theorem r99 : ∃ s' h',CW 99 [mv m s] h=some (mv (sReq m) s',h')∧ej h' s' (sReq m)∧Old h h':=by
 obtain ⟨h1,b1,o1,x1,A,-⟩:=dg x
 have hr:Tryz.f99.results.toList = [.cell 2 37]:=by kernel_rfl
 have bl:fq Zl [(3,1,.int .u64 (m.seq:Int)),(5,1,.int .i64 m.target),(6,1,s.a)]=some (mv (sReq m) ⟨s.a,bV.b,bV.c,bV.d,bV.e,bV.f⟩):=by
  obtain ⟨aa,ca,ea⟩:=x.sl.a.form
  rw [ea]
  rfl
 have X:ej h ⟨s.a,bV.b,bV.c,bV.d,bV.e,bV.f⟩ (sReq m):=⟨⟨x.sl.a,.nil _ _,.nil _ _,.nil _ _,.nil _ _,.nil _ _⟩,sReq_wf x.wf⟩
 obtain ⟨hz,h2,z1,oz,u1,u2,X2,o2,_⟩:=made o1 X
 have A:=bW (x1.bm oz) (Old.get oz A.g)
 refine ⟨_,h2,aG is99 hG rfl ((t99_eq _ _ _).trans ?_),X2,o2⟩
 unfold t99
 simp -implicitDefEqProofs only [b1, z1, A.l3, A.l5, A.l6, bl, u1, ah, aq, ao, Nat.zero_add]
 exact res_cell hr agg37 siz37 (show 2<10 by decide) _ u2
omit hG x in
theorem is112:bB Tryz.prog 112 Tryz.f112:=⟨by kernel_rfl,by kernel_rfl,by kernel_rfl,by kernel_rfl⟩
set_option maxRecDepth 100000 in
theorem r112 : ∃ s' h',CW 112 [mv m s] h=some (mv (sSum m) s',h')∧ej h' s' (sSum m)∧Old h h':=by
 obtain ⟨h1,b1,o1,x1,A,-⟩:=dg x
 have hr:Tryz.f112.results.toList = [.cell 2 37]:=by kernel_rfl
 have bl:fq Zl [(7,1,s.b),(8,1,s.c),(9,1,.int .i64 m.count),(10,32,.agg (bI m.root).toArray)]=some (mv (sSum m) ⟨bV.a,s.b,s.c,bV.d,bV.e,bV.f⟩):=by
  have e1:cT Zl [(7,1,s.b),(8,1,s.c),(9,1,.int .i64 m.count),(10,32,.agg (bI m.root).toArray)]=cT ([.int .u8 0,.int .i64 0,.int .i64 0,.int .u64 0,.int .i64 0,.int .i64 0,.slice none 0 0,s.b,s.c,.int .i64 m.count]++(bI z32++(aZ.z.d.cells bV).drop 42)) [(10,32,.agg (bI m.root).toArray)]:=by
   obtain ⟨ab,cb,eb⟩:=x.sl.b.form
   obtain ⟨ac,cc,ec⟩:=x.sl.c.form
   rw [eb,ec]
   rfl
  unfold fq
  rw [e1,fill_mid (A := [.int .u8 0,.int .i64 0,.int .i64 0,.int .u64 0,.int .i64 0,.int .i64 0,.slice none 0 0,s.b,s.c,.int .i64 m.count]) (B:=bI z32) (o:=10) (n:=32) rfl rfl rfl (b6 x.wf.root)]
  rfl
 have X:ej h ⟨bV.a,s.b,s.c,bV.d,bV.e,bV.f⟩ (sSum m):=⟨⟨.nil _ _,x.sl.b,x.sl.c,.nil _ _,.nil _ _,.nil _ _⟩,sSum_wf x.wf⟩
 obtain ⟨hz,h2,z1,oz,u1,u2,X2,o2,_⟩:=made o1 X
 have A:=bW (x1.bm oz) (Old.get oz A.g)
 refine ⟨_,h2,aG is112 hG rfl ((t112_eq _ _ _).trans ?_),X2,o2⟩
 unfold t112
 simp -implicitDefEqProofs only [b1, z1, A.l7, A.l8, A.l9, A.ch, bl, u1, ah, aq, ao, Nat.zero_add]
 exact res_cell hr agg37 siz37 (show 2<12 by decide) _ u2
omit hG x in
theorem is115:bB Tryz.prog 115 Tryz.f115:=⟨by kernel_rfl,by kernel_rfl,by kernel_rfl,by kernel_rfl⟩
set_option maxRecDepth 100000 in
theorem r115 : ∃ s' h',CW 115 [mv m s] h=some (mv (sItems m) s',h')∧ej h' s' (sItems m)∧Old h h':=by
 obtain ⟨h1,b1,o1,x1,A,-⟩:=dg x
 have hr:Tryz.f115.results.toList = [.cell 2 37]:=by kernel_rfl
 have bl:fq Zl [(7,1,s.b),(8,1,s.c),(43,1,.bool m.b7),(42,1,s.d)]=some (mv (sItems m) ⟨bV.a,s.b,s.c,s.d,bV.e,bV.f⟩):=by
  obtain ⟨ab,cb,eb⟩:=x.sl.b.form
  obtain ⟨ac,cc,ec⟩:=x.sl.c.form
  obtain ⟨ad,cd,ed⟩:=x.sl.d.form
  rw [eb,ec,ed]
  rfl
 have X:ej h ⟨bV.a,s.b,s.c,s.d,bV.e,bV.f⟩ (sItems m):=⟨⟨.nil _ _,x.sl.b,x.sl.c,x.sl.d,.nil _ _,.nil _ _⟩,sItems_wf x.wf⟩
 obtain ⟨hz,h2,z1,oz,u1,u2,X2,o2,_⟩:=made o1 X
 have A:=bW (x1.bm oz) (Old.get oz A.g)
 refine ⟨_,h2,aG is115 hG rfl ((t115_eq _ _ _).trans ?_),X2,o2⟩
 unfold t115
 simp -implicitDefEqProofs only [b1, z1, A.l7, A.l8, A.bF, A.bU, bl, u1, ah, aq, ao, Nat.zero_add]
 exact res_cell hr agg37 siz37 (show 2<12 by decide) _ u2
omit hG x in
theorem is103:bB Tryz.prog 103 Tryz.f103:=⟨by kernel_rfl,by kernel_rfl,by kernel_rfl,by kernel_rfl⟩
set_option maxRecDepth 100000 in
theorem r103 : ∃ s' h',CW 103 [mv m s] h=some (mv (sObj m) s',h')∧ej h' s' (sObj m)∧Old h h':=by
 obtain ⟨h1,b1,o1,x1,A,-⟩:=dg x
 have hr:Tryz.f103.results.toList = [.cell 2 37]:=by kernel_rfl
 have bl:fq Zl [(44,32,.agg (bI m.obj).toArray)]=some (mv (sObj m) bV):=by
  have e1:cT Zl [(44,32,.agg (bI m.obj).toArray)]=cT ((aZ.z.d.cells bV).take 44++(bI z32++(aZ.z.d.cells bV).drop 76)) [(44,32,.agg (bI m.obj).toArray)]:=by
   rfl
  unfold fq
  rw [e1,fill_mid (A:=(aZ.z.d.cells bV).take 44) (B:=bI z32) (o:=44) (n:=32) rfl rfl rfl (b6 x.wf.obj)]
  rfl
 have X:ej h bV (sObj m):=⟨⟨.nil _ _,.nil _ _,.nil _ _,.nil _ _,.nil _ _,.nil _ _⟩,sObj_wf x.wf⟩
 obtain ⟨hz,h2,z1,oz,u1,u2,X2,o2,_⟩:=made o1 X
 have A:=bW (x1.bm oz) (Old.get oz A.g)
 refine ⟨_,h2,aG is103 hG rfl ((t103_eq _ _ _).trans ?_),X2,o2⟩
 unfold t103
 simp -implicitDefEqProofs only [b1, z1, A.b8, bl, u1, ah, aq, ao, Nat.zero_add]
 exact res_cell hr agg37 siz37 (show 2<6 by decide) _ u2
omit hG x in
theorem is107:bB Tryz.prog 107 Tryz.f107:=⟨by kernel_rfl,by kernel_rfl,by kernel_rfl,by kernel_rfl⟩
set_option maxRecDepth 100000 in
theorem r107 : ∃ s' h',CW 107 [mv m s] h=some (mv (sPiece m) s',h')∧ej h' s' (sPiece m)∧Old h h':=by
 obtain ⟨h1,b1,o1,x1,A,-⟩:=dg x
 have hr:Tryz.f107.results.toList = [.cell 2 37]:=by kernel_rfl
 have bl:fq Zl [(44,32,.agg (bI m.obj).toArray),(76,37,gv m s),(113,2,.agg #[.int .i64 m.cg,s.f])]=some (mv (sPiece m) ⟨bV.a,bV.b,bV.c,bV.d,s.e,s.f⟩):=by
  have hm:(m.d.dv s).length=37:=fC (aZ.ok x.wf)
  have e1:cT Zl [(44,32,.agg (bI m.obj).toArray),(76,37,gv m s),(113,2,.agg #[.int .i64 m.cg,s.f])]=cT ((aZ.z.d.cells bV).take 44++(bI z32++(aZ.z.d.cells bV).drop 76)) [(44,32,.agg (bI m.obj).toArray),(76,37,gv m s),(113,2,.agg #[.int .i64 m.cg,s.f])]:=rfl
  unfold fq
  rw [e1,fill_mid (A:=(aZ.z.d.cells bV).take 44) (B:=bI z32) (o:=44) (n:=32) rfl rfl rfl (b6 x.wf.obj)]
  have e2 : ∀ r,cT ((aZ.z.d.cells bV).take 44++(bI m.obj++(aZ.z.d.cells bV).drop 76)) r=cT (((aZ.z.d.cells bV).take 44++bI m.obj)++(aZ.z.d.dv bV++(aZ.z.d.cells bV).drop 113)) r:=fun r=>by
   rw [List.append_assoc];rfl
  rw [e2,fill_mid (A:=(aZ.z.d.cells bV).take 44++bI m.obj) (B:=aZ.z.d.dv bV) (o:=76) (n:=37) rfl (by rw [List.length_append,b6 x.wf.obj];rfl) rfl hm]
  have e3 : ∀ r,cT (((aZ.z.d.cells bV).take 44++bI m.obj)++(m.d.dv s++(aZ.z.d.cells bV).drop 113)) r=cT (((aZ.z.d.cells bV).take 44++(bI m.obj++m.d.dv s))++([.int .i64 0,.slice none 0 0] ++ [.int .i64 0])) r:=fun r=>by
   rw [List.append_assoc,List.append_assoc,List.append_assoc];rfl
  rw [e3,fill_mid (A:=(aZ.z.d.cells bV).take 44++(bI m.obj++m.d.dv s)) (B := [.int .i64 0,.slice none 0 0]) (B' := [.int .i64 m.cg,s.f]) (o:=113) (n:=2) rfl (by rw [List.length_append,List.length_append,b6 x.wf.obj,hm];rfl) rfl rfl]
  simp only [cT,Option.map_some,List.append_assoc]
  rfl
 have X:ej h ⟨bV.a,bV.b,bV.c,bV.d,s.e,s.f⟩ (sPiece m):=⟨⟨.nil _ _,.nil _ _,.nil _ _,.nil _ _,x.sl.e,x.sl.f⟩,sPiece_wf x.wf⟩
 obtain ⟨hz,h2,z1,oz,u1,u2,X2,o2,_⟩:=made o1 X
 have l113':bP 2 (ptr h.next 113) hz=some (.agg #[.int .i64 m.cg,s.f],hz):=by
  have hm:(m.d.dv s).length=37:=fC (aZ.ok x.wf)
  have hr:(bI m.root).length=32:=b6 x.wf.root
  have ho:(bI m.obj).length=32:=b6 x.wf.obj
  have hf:=(bJ x.sl.f).1
  exact fw (Old.get oz A.g) (A:=m.d.front s++(bI m.root++([s.d,.bool m.b7]++(bI m.obj++m.d.dv s)))) (B := [.int .i64 m.cg,s.f]) (C := [.int .i64 m.code]) (by unfold bD.cells;simp only [List.append_assoc];rfl) (by
   have hf:(m.d.front s).length=10:=rfl
   simp only [List.length_append,hr,ho,hm,hf]
   rfl) rfl (by unfold Abs.bA;simp only [List.all_cons,List.all_nil,hf];rfl)
 have A:=bW (x1.bm oz) (Old.get oz A.g)
 refine ⟨_,h2,aG is107 hG rfl ((t107_eq _ _ _).trans ?_),X2,o2⟩
 unfold t107
 simp -implicitDefEqProofs only [b1, z1, A.b8, A.bR, l113', bl, u1, ah, aq, ao, Nat.zero_add]
 exact res_cell hr agg37 siz37 (show 2<10 by decide) _ u2
omit hG x in
theorem is119:bB Tryz.prog 119 Tryz.f119:=⟨by kernel_rfl,by kernel_rfl,by kernel_rfl,by kernel_rfl⟩
set_option maxRecDepth 100000 in
theorem r119 : ∃ s' h',CW 119 [mv m s] h=some (mv (sStored m) s',h')∧ej h' s' (sStored m)∧Old h h':=by
 obtain ⟨h1,b1,o1,x1,A,-⟩:=dg x
 have hr:Tryz.f119.results.toList = [.cell 2 37]:=by kernel_rfl
 have bl:fq Zl [(44,32,.agg (bI m.obj).toArray),(115,1,.int .i64 m.code)]=some (mv (sStored m) bV):=by
  have e1:cT Zl [(44,32,.agg (bI m.obj).toArray),(115,1,.int .i64 m.code)]=cT ((aZ.z.d.cells bV).take 44++(bI z32++(aZ.z.d.cells bV).drop 76)) [(44,32,.agg (bI m.obj).toArray),(115,1,.int .i64 m.code)]:=rfl
  unfold fq
  rw [e1,fill_mid (A:=(aZ.z.d.cells bV).take 44) (B:=bI z32) (o:=44) (n:=32) rfl rfl rfl (b6 x.wf.obj)]
  have e2 : ∀ r,cT ((aZ.z.d.cells bV).take 44++(bI m.obj++(aZ.z.d.cells bV).drop 76)) r=cT (((aZ.z.d.cells bV).take 44++(bI m.obj++((aZ.z.d.cells bV).drop 76).take 39))++([.int .i64 0] ++ [])) r:=fun r=>by
   rw [List.append_assoc,List.append_assoc];rfl
  have e3 : ∀ r,cT (((aZ.z.d.cells bV).take 44++(bI m.obj++((aZ.z.d.cells bV).drop 76).take 39))++([.int .i64 0] ++ [])) ((115,1,.int .i64 m.code)::r)=cT (((aZ.z.d.cells bV).take 44++(bI m.obj++((aZ.z.d.cells bV).drop 76).take 39))++([.int .i64 m.code] ++ [])) r:=fun r=>by
   have:=fill_mid (z:=((aZ.z.d.cells bV).take 44++(bI m.obj++((aZ.z.d.cells bV).drop 76).take 39))++([.int .i64 0] ++ [])) (A:=(aZ.z.d.cells bV).take 44++(bI m.obj++((aZ.z.d.cells bV).drop 76).take 39)) (B := [.int .i64 0]) (B' := [.int .i64 m.code]) (o:=115) (n:=1) (rest:=r) rfl (by rw [List.length_append,List.length_append,b6 x.wf.obj];rfl) rfl rfl
   exact this
  rw [e2,e3]
  simp only [cT,Option.map_some,List.append_assoc]
  rfl
 have X:ej h bV (sStored m):=⟨⟨.nil _ _,.nil _ _,.nil _ _,.nil _ _,.nil _ _,.nil _ _⟩,sStored_wf x.wf⟩
 obtain ⟨hz,h2,z1,oz,u1,u2,X2,o2,_⟩:=made o1 X
 have A:=bW (x1.bm oz) (Old.get oz A.g)
 refine ⟨_,h2,aG is119 hG rfl ((t119_eq _ _ _).trans ?_),X2,o2⟩
 unfold t119
 simp -implicitDefEqProofs only [b1, z1, A.b8, A.aU, bl, u1, ah, aq, ao, Nat.zero_add]
 exact res_cell hr agg37 siz37 (show 2<8 by decide) _ u2
end
end Go.Proofs.YtjghlcdidopcpaaGreatDoor

namespace Go.Proofs.YtjghlcdidopcpaaGreatDoor
open Go Go.Abs
attribute [local congr] aP
theorem is35:bB Tryz.prog 35 Tryz.f35:=⟨by kernel_rfl,by kernel_rfl,by kernel_rfl,by kernel_rfl⟩
theorem is19:bB Tryz.prog 19 Tryz.f19:=⟨by kernel_rfl,by kernel_rfl,by kernel_rfl,by kernel_rfl⟩
theorem bM (a b:Value):aV (.tuple #[a,b]) 0=some a:=rfl
theorem bN (a b:Value):aV (.tuple #[a,b]) 1=some b:=rfl
theorem fresh (cs:List Value) (h:ak) : ∃ h2,fz cs h=some (ptr h.next 0,h2)∧Old h h2∧h2.get h.next=some cs∧h2.next=h.next+1:=
 ⟨_,newC_eq _ _,Kept.alloc _ _ _,by rw [ak.aM,if_pos rfl],rfl⟩
theorem stored {h:ak} {b o:Nat} {k:dA} {v:Value} (g:h.get b=some k) (hn:h.n0≤b) (ho:o<k.length) (hc:v.cells = #[v]) (hv:v.oneCell'=true) : ∃ h2,dH 1 (ptr b o) v h=some (undef,h2)∧Kept h h2 (· = b)∧h2.get b=some (k.set o v)∧h2.n0≤b∧h2.next=h.next:=
 ⟨_,stN1_at g ho hn hc hv,Kept.set hn g (.inr rfl),ak.cS hn g _,hn,rfl⟩
theorem dr {h:ak} {b n:Nat} {k k':dA} (g:h.get b=some k) (hn:h.n0≤b) (hl:k.length=n) (hl':k'.length=n) (ho:aS k'=true) : ∃ h2,dH n (ptr b 0) (.agg k'.toArray) h=some (undef,h2)∧Kept h h2 (· = b)∧h2.get b=some k'∧h2.n0≤b∧h2.next=h.next:=
 ⟨_,stN_whole g hn hl hl' ho,Kept.set hn g (.inr rfl),ak.cS hn g _,hn,rfl⟩
theorem fmC_at : ∀ k,k<14→(formsC.drop (k*5)).take 5=fmC k:=fun k hk=>by
 match k,hk with
 | 0,_=>rfl
 | 1,_=>rfl
 | 2,_=>rfl
 | 3,_=>rfl
 | 4,_=>rfl
 | 5,_=>rfl
 | 6,_=>rfl
 | 7,_=>rfl
 | 8,_=>rfl
 | 9,_=>rfl
 | 10,_=>rfl
 | 11,_=>rfl
 | 12,_=>rfl
 | 13,_=>rfl
theorem fmC_not {k:Nat} (h:cq k=false):fmC k = [(.string ⟨#[]⟩),.nilFunc,.nilFunc,.nilFunc,.nilFunc]:=by
 by_cases h0:k=0
 ·subst h0;rfl
 ·by_cases h1:14≤k
  ·obtain ⟨n,rfl⟩ : ∃ n,k=n+14:=⟨k-14,by omega⟩
   rfl
  ·exfalso
   have:cq k=true:=by
    unfold cq
    rw [Nat.ble_eq_true_of_le (by omega),Nat.ble_eq_true_of_le (by omega)];rfl
   rw [this] at h;cases h
theorem fmC_ok (k:Nat):Abs.bA (fmC k)=true∧aS (fmC k)=true∧(fmC k).length=5:=by
 have h:=fun v (hv:v∈fmC k)=>fmC_flat k v hv
 have key : ∀ v,flat v=true→isHole v=false∧v.oneCell'=true:=fun v hv=>by
  cases v<;>first|exact ⟨rfl,rfl⟩|(simp [flat] at hv)|skip
  all_goals first|exact ⟨rfl,rfl⟩|skip
  ·rename_i a;cases a<;>first|exact ⟨rfl,rfl⟩|simp [] at hv
 refine ⟨?_,?_,rfl⟩
 ·unfold Abs.bA
  rw [List.all_eq_true]
  exact fun v hv=>by rw [(key v (h v hv)).1];rfl
 ·unfold aS
  rw [List.all_eq_true]
  exact fun v hv=>(key v (h v hv)).2
theorem formsC_ok:aS formsC=true∧formsC.length=70:=by
 refine ⟨?_,rfl⟩
 unfold aS
 rw [List.all_eq_true]
 intro v hv
 obtain ⟨k,_,hk⟩:=List.mem_flatMap.1 hv
 have:=(fmC_ok k).2.1
 unfold aS at this
 rw [List.all_eq_true] at this
 exact this v hk
theorem r35 {h:ak} (hG:4≤h.n0) {k:Nat} (hk:k<256) : ∃ h',CW 35 [.int .u8 (k:Int)] h=some (.tuple #[.agg (fmC k).toArray,.bool (cq k)],h')∧Old h h':=by
 have hr:Tryz.f35.results.toList = [.cell 2 75,.tmp 3]:=by kernel_rfl
 have a75:aggT Tryz.prog 75=some true:=by kernel_rfl
 have s75:cJ Tryz.prog 75=some 5:=by kernel_rfl
 obtain ⟨h1,z1,o1,g1,n1⟩:=fresh [(.string ⟨#[]⟩),.nilFunc,.nilFunc,.nilFunc,.nilFunc] h
 have f77:=r77 h1
 obtain ⟨h2,z2,o2,g2,n2⟩:=fresh [(.string ⟨#[]⟩),.nilFunc,.nilFunc,.nilFunc,.nilFunc,(.string ⟨#[]⟩),.nilFunc,.nilFunc,.nilFunc,.nilFunc,(.string ⟨#[]⟩),.nilFunc,.nilFunc,.nilFunc,.nilFunc,(.string ⟨#[]⟩),.nilFunc,.nilFunc,.nilFunc,.nilFunc,(.string ⟨#[]⟩),.nilFunc,.nilFunc,.nilFunc,.nilFunc,(.string ⟨#[]⟩),.nilFunc,.nilFunc,.nilFunc,.nilFunc,(.string ⟨#[]⟩),.nilFunc,.nilFunc,.nilFunc,.nilFunc,(.string ⟨#[]⟩),.nilFunc,.nilFunc,.nilFunc,.nilFunc,(.string ⟨#[]⟩),.nilFunc,.nilFunc,.nilFunc,.nilFunc,(.string ⟨#[]⟩),.nilFunc,.nilFunc,.nilFunc,.nilFunc,(.string ⟨#[]⟩),.nilFunc,.nilFunc,.nilFunc,.nilFunc,(.string ⟨#[]⟩),.nilFunc,.nilFunc,.nilFunc,.nilFunc,(.string ⟨#[]⟩),.nilFunc,.nilFunc,.nilFunc,.nilFunc,(.string ⟨#[]⟩),.nilFunc,.nilFunc,.nilFunc,.nilFunc] h1
 have l70:([(.string ⟨#[]⟩),.nilFunc,.nilFunc,.nilFunc,.nilFunc,(.string ⟨#[]⟩),.nilFunc,.nilFunc,.nilFunc,.nilFunc,(.string ⟨#[]⟩),.nilFunc,.nilFunc,.nilFunc,.nilFunc,(.string ⟨#[]⟩),.nilFunc,.nilFunc,.nilFunc,.nilFunc,(.string ⟨#[]⟩),.nilFunc,.nilFunc,.nilFunc,.nilFunc,(.string ⟨#[]⟩),.nilFunc,.nilFunc,.nilFunc,.nilFunc,(.string ⟨#[]⟩),.nilFunc,.nilFunc,.nilFunc,.nilFunc,(.string ⟨#[]⟩),.nilFunc,.nilFunc,.nilFunc,.nilFunc,(.string ⟨#[]⟩),.nilFunc,.nilFunc,.nilFunc,.nilFunc,(.string ⟨#[]⟩),.nilFunc,.nilFunc,.nilFunc,.nilFunc,(.string ⟨#[]⟩),.nilFunc,.nilFunc,.nilFunc,.nilFunc,(.string ⟨#[]⟩),.nilFunc,.nilFunc,.nilFunc,.nilFunc,(.string ⟨#[]⟩),.nilFunc,.nilFunc,.nilFunc,.nilFunc,(.string ⟨#[]⟩),.nilFunc,.nilFunc,.nilFunc,.nilFunc]:dA).length=70:=rfl
 have p2:h2.n0≤h1.next:=by rw [o2.n0];exact h1.bg
 obtain ⟨h3,s2,k3,g3,-,-⟩:=dr (n:=70) g2 p2 l70 formsC_ok.2 formsC_ok.1
 have g31:=k3.getE (Old.get o2 g1) (by omega)
 have O3:Old h h3:=(o1.trans o2).also k3 (fun d hd e=>by omega)
 have p3:h3.n0≤h.next:=by rw [O3.n0];exact h.bg
 have c:=fmC_ok k
 obtain ⟨h4,s4,k4,g4,-,-⟩:=dr (n:=5) (k':=fmC k) g31 p3 rfl c.2.2 c.2.1
 have O4:Old h h4:=O3.also k4 (fun d hd e=>by omega)
 have l4:bP 5 (ptr h.next 0) h4=some (.agg (fmC k).toArray,h4):=fw g4 (A := []) (B:=fmC k) (C := []) (by simp) rfl c.2.2 c.1
 have hw:IntKind.wrap .i64 ((k:Nat):Int)=(k:Int):=dX (by omega) (by omega)
 refine ⟨h4,aG is35 hG rfl ((t35_eq _ _ _).trans ?_),O4⟩
 unfold t35
 by_cases h0:k<1
 ·have q0:decide ((k:Int)<1)=true:=decide_eq_true (by omega)
  have hn:cq k=false:=by
   obtain rfl:k=0:=by omega
   rfl
  have bz:fq [(.string ⟨#[]⟩),.nilFunc,.nilFunc,.nilFunc,.nilFunc] []=some (.agg (fmC k).toArray):=by rw [fmC_not hn];rfl
  simp -implicitDefEqProofs only [z1, f77, z2, s2, q0, bz, s4, ah, aq, ar, sf, ai, if_true, aD]
  rw [res_cell_tmp hr a75 s75 (show 2<17 by decide) (show 3<17 by decide) _ l4,hn]
  rfl
 ·have q0:decide ((k:Int)<1)=false:=decide_eq_false (by omega)
  by_cases h1':14≤k
  ·have q1:decide ((k:Int)≥14)=true:=decide_eq_true (by omega)
   have hn:cq k=false:=by
    unfold cq
    rw [show Nat.ble k 13=false by
     cases hb:Nat.ble k 13 with
     |false=>rfl
     |true=>have:=Nat.le_of_ble_eq_true hb;omega,Bool.and_false]
   have bz:fq [(.string ⟨#[]⟩),.nilFunc,.nilFunc,.nilFunc,.nilFunc] []=some (.agg (fmC k).toArray):=by rw [fmC_not hn];rfl
   simp -implicitDefEqProofs only [z1, f77, z2, s2, q0, bX, hw, q1, bz, s4, ah, aq, ar, beq_self_eq_true, aj, Bool.false_eq_true, if_false, aB, aD]
   rw [res_cell_tmp hr a75 s75 (show 2<17 by decide) (show 3<17 by decide) _ l4,hn]
   rfl
  ·have q1:decide ((k:Int)≥14)=false:=decide_eq_false (by omega)
   have hy:cq k=true:=by
    unfold cq
    rw [Nat.ble_eq_true_of_le (by omega),Nat.ble_eq_true_of_le (by omega)];rfl
   have ix:idxA 14 5 (ptr h1.next 0) (.int .u8 (k:Int))=some (ptr h1.next (k*5)):=by
    unfold idxA
    simp only
    rw [if_pos (by omega),Int.toNat_natCast,ao,Nat.zero_add]
   have l5:bP 5 (ptr h1.next (k*5)) h3=some (.agg (fmC k).toArray,h3):=by
    have:=ldN_at (o:=k*5) (n:=5) g3 (by rw [formsC_ok.2];omega) (by rw [fmC_at k (by omega)];exact c.1)
    rw [fmC_at k (by omega)] at this
    exact this
   simp -implicitDefEqProofs only [z1, f77, z2, s2, q0, bX, hw, q1, ix, l5, s4, ah, aq, ar, beq_self_eq_true, aj, Bool.false_eq_true, if_false, aB, aD]
   rw [res_cell_tmp hr a75 s75 (show 2<17 by decide) (show 3<17 by decide) _ l4,hy]
   rfl
def chkB (k:Nat) (m:aZ):Bool:=match k with
 | 1|2|3=>tabB m
 | 4|5=>rangeB m
 | 8|10=>pceB m
 | 11=>codeB m
 |_=>true
def stripM (k:Nat) (m:aZ):aZ:=match k with
 | 1|2=>sPing m
 | 3=>sReq m
 | 4=>sSum m
 | 5=>sItems m
 | 8|10=>sPiece m
 | 11=>sStored m
 |_=>sObj m
def fullM (m:aZ):aZ:={ stripM m.kind m with kind:=m.kind,from_:=m.from_,eu:=m.eu }
def b9 (m:aZ):Bool:=cq m.kind&&eA m.from_&&eA m.eu && !(m.from_==m.eu)&&chkB m.kind m&&decide (m=fullM m)
theorem kinds {k:Nat} (h:cq k=true):k=1∨k=2∨k=3∨k=4∨k=5∨k=6∨k=7∨k=8∨k=9∨k=10∨k=11∨k=12∨k=13:=by
 unfold cq at h
 rw [Bool.and_eq_true] at h
 have h1:=Nat.le_of_ble_eq_true h.1
 have h2:=Nat.le_of_ble_eq_true h.2
 omega
theorem stripM_wf {k:Nat} {m:aZ} (hk:cq k=true) (w:m.Wf):(stripM k m).Wf:=by
 rcases kinds hk with rfl|rfl|rfl|rfl|rfl|rfl|rfl|rfl|rfl|rfl|rfl|rfl|rfl
 ·exact sPing_wf w
 ·exact sPing_wf w
 ·exact sReq_wf w
 ·exact sSum_wf w
 ·exact sItems_wf w
 ·exact sObj_wf w
 ·exact sObj_wf w
 ·exact sPiece_wf w
 ·exact sObj_wf w
 ·exact sPiece_wf w
 ·exact sStored_wf w
 ·exact sObj_wf w
 ·exact sObj_wf w
theorem fullM_wf {m:aZ} (hk:cq m.kind=true) (w:m.Wf):(fullM m).Wf:={ stripM_wf hk w with kind:=w.kind,from_:=w.from_,eu:=w.eu }
section
variable {h:ak} {s:cP} {m:aZ} (hG:4≤h.n0) (x:ej h s m)
include hG x
theorem chk_call {k:Nat} (hk:cq k=true) : ∃ h',callA Tryz.prog CW (fnV (fmN k).2.1) [mv m s] h=some (.bool (chkB k m),h')∧Old h h':=by
 rcases kinds hk with rfl|rfl|rfl|rfl|rfl|rfl|rfl|rfl|rfl|rfl|rfl|rfl|rfl
 ·exact (bk CW 95 _ h).symm▸r95 hG x
 ·exact (bk CW 95 _ h).symm▸r95 hG x
 ·exact (bk CW 95 _ h).symm▸r95 hG x
 ·exact (bk CW 111 _ h).symm▸r111 hG x
 ·exact (bk CW 111 _ h).symm▸r111 hG x
 ·exact (bk CW 102 _ h).symm▸r102 hG x
 ·exact (bk CW 102 _ h).symm▸r102 hG x
 ·exact (bk CW 106 _ h).symm▸r106 hG x
 ·exact (bk CW 102 _ h).symm▸r102 hG x
 ·exact (bk CW 106 _ h).symm▸r106 hG x
 ·exact (bk CW 118 _ h).symm▸r118 hG x
 ·exact (bk CW 102 _ h).symm▸r102 hG x
 ·exact (bk CW 102 _ h).symm▸r102 hG x
theorem strip_call {k:Nat} (hk:cq k=true) : ∃ s' h',callA Tryz.prog CW (fnV (fmN k).2.2.1) [mv m s] h=some (mv (stripM k m) s',h')∧ej h' s' (stripM k m)∧Old h h':=by
 rcases kinds hk with rfl|rfl|rfl|rfl|rfl|rfl|rfl|rfl|rfl|rfl|rfl|rfl|rfl
 ·exact (bk CW 96 _ h).symm▸r96 hG x
 ·exact (bk CW 96 _ h).symm▸r96 hG x
 ·exact (bk CW 99 _ h).symm▸r99 hG x
 ·exact (bk CW 112 _ h).symm▸r112 hG x
 ·exact (bk CW 115 _ h).symm▸r115 hG x
 ·exact (bk CW 103 _ h).symm▸r103 hG x
 ·exact (bk CW 103 _ h).symm▸r103 hG x
 ·exact (bk CW 107 _ h).symm▸r107 hG x
 ·exact (bk CW 103 _ h).symm▸r103 hG x
 ·exact (bk CW 107 _ h).symm▸r107 hG x
 ·exact (bk CW 119 _ h).symm▸r119 hG x
 ·exact (bk CW 103 _ h).symm▸r103 hG x
 ·exact (bk CW 103 _ h).symm▸r103 hG x
theorem r22m {s':cP} {m':aZ} (x':ej h s' m') (sm:m.n.Small) : ∃ h',CW 22 [mv m s,mv m' s'] h=some (.bool (decide (m=m')),h')∧Old h h':=by
 obtain ⟨r,h',e,hr,o⟩:=r22 hG x.sl x'.sl (aZ.ok x.wf) (aZ.ok x'.wf) sm
 refine ⟨h',?_,o⟩
 have:r=decide (m=m'):=by
  by_cases q:m=m'
  ·rw [decide_eq_true q,hr.2 (by rw [q])]
  ·rw [decide_eq_false q]
   cases r with
   |false=>rfl
   |true=>exact absurd (aZ.d_inj x.wf x'.wf (hr.1 rfl)) q
 rw [←this];exact e
set_option maxRecDepth 100000 in
theorem r19 (sm:m.n.Small) : ∃ h',CW 19 [mv m s] h=some (.int .i64 (if b9 m then 0 else 2),h')∧Old h h':=by
 obtain ⟨h1,b1,o1,x1,A,n1,-⟩:=dg x
 have hG1:4≤h1.n0:=by rw [o1.n0];exact hG
 obtain ⟨h2,e2,o2⟩:=r35 hG1 x.wf.kind
 have O2:=o1.trans o2
 obtain ⟨h3,z3,o3,g3,_⟩:=fresh [(.string ⟨#[]⟩),.nilFunc,.nilFunc,.nilFunc,.nilFunc] h2
 have c:=fmC_ok m.kind
 have p3:h3.n0≤h2.next:=by rw [o3.n0];exact h2.bg
 obtain ⟨h4,s4,k4,g4,-,-⟩:=dr (n:=5) (k':=fmC m.kind) g3 p3 rfl c.2.2 c.2.1
 have o24:Old h2 h4:=o3.also k4 (fun d hd e=>by omega)
 have O4:=O2.trans o24
 have o14:=o2.trans o24
 have hG4:4≤h4.n0:=by rw [O4.n0];exact hG
 have x4:=x1.bm o14
 have A4:=bW x4 (Old.get o14 A.g)
 have f1:aK (ptr h2.next 1) h4=some (fnV (fmN m.kind).2.1,h4):=bf g4 rfl (by unfold fnV;split<;>rfl)
 have e5:=r46 hG4 m.from_
 have e6:=r46 hG4 m.eu
 cases q0:cq m.kind with
 |false=>
  refine ⟨h4,aG is19 hG rfl ((t19_eq _ _ _).trans ?_),O4⟩
  unfold t19 b9
  simp -implicitDefEqProofs only [b1, A.l0, e2, bM, bN, z3, s4, ah, aq, ar, sf, ai, Bool.false_eq_true, if_false, if_true, ao, Nat.zero_add, Bool.not_false, au, q0, Bool.and_true, Bool.false_and, Bool.not_false]
 |true=>
 cases q1:eA m.from_ with
 |false=>
  refine ⟨h4,aG is19 hG rfl ((t19_eq _ _ _).trans ?_),O4⟩
  unfold t19 b9
  simp -implicitDefEqProofs only [b1, A.l0, e2, bM, bN, z3, s4, A4.l1, e5, ah, aq, ar, sf, beq_self_eq_true, aj, ai, Bool.false_eq_true, if_false, if_true, ao, Nat.zero_add, Bool.not_true, Bool.not_false, au, q0, q1, Bool.and_true, Bool.and_false, Bool.false_and, Bool.not_true, Bool.not_false]
 |true=>
 cases q2:eA m.eu with
 |false=>
  refine ⟨h4,aG is19 hG rfl ((t19_eq _ _ _).trans ?_),O4⟩
  unfold t19 b9
  simp -implicitDefEqProofs only [b1, A.l0, e2, bM, bN, z3, s4, A4.l1, e5, A4.l2, e6, ah, aq, ar, sf, beq_self_eq_true, aj, ai, Bool.false_eq_true, if_false, if_true, ao, Nat.zero_add, Bool.not_true, Bool.not_false, au, q0, q1, q2, Bool.and_true, Bool.and_false, Bool.false_and, Bool.not_true, Bool.not_false]
 |true=>
 cases q3:m.from_==m.eu with
 |true=>
  refine ⟨h4,aG is19 hG rfl ((t19_eq _ _ _).trans ?_),O4⟩
  unfold t19 b9
  simp -implicitDefEqProofs only [b1, A.l0, e2, bM, bN, z3, s4, A4.l1, e5, A4.l2, e6, ah, aq, ar, sf, beq_self_eq_true, aj, ai, Bool.false_eq_true, if_false, if_true, ao, Nat.zero_add, Bool.not_true, au, ay, q0, q1, q2, q3, Bool.and_true, Bool.and_false, Bool.false_and, Bool.not_true]
 |false=>
 obtain ⟨h5,e7,o5⟩:=chk_call hG4 x4 q0
 cases q4:chkB m.kind m with
 |false=>
  refine ⟨h5,aG is19 hG rfl ((t19_eq _ _ _).trans ?_),O4.trans o5⟩
  unfold t19 b9
  simp -implicitDefEqProofs only [b1, A.l0, e2, bM, bN, z3, s4, A4.l1, e5, A4.l2, e6, f1, A4.all, e7, ah, aq, ar, beq_self_eq_true, aj, Bool.false_eq_true, if_false, ao, Nat.zero_add, Bool.not_true, Bool.not_false, au, ay, q0, q1, q2, q3, q4, Bool.and_true, Bool.and_false, Bool.false_and, Bool.not_true, Bool.not_false]
 |true=>
 have O5:=O4.trans o5
 have x5:=x4.bm o5
 have A5:=bW x5 (Old.get o5 A4.g)
 have g5:=Old.get o5 g4
 have hG5:4≤h5.n0:=by rw [O5.n0];exact hG
 have f2:aK (ptr h2.next 2) h5=some (fnV (fmN m.kind).2.2.1,h5):=bf g5 rfl (by unfold fnV;split<;>rfl)
 obtain ⟨s6,h6,e8,X6,o6⟩:=strip_call hG5 x5 q0
 obtain ⟨hz,h7,z7,oz,u7,-,X7,o7,g7,o7'⟩:=made (Kept.refl h6 _) X6
 have O7:=(O5.trans o6).trans o7
 have A7:=bW ((x5.bm o6).bm o7) (Old.get o7 (Old.get o6 A5.g))
 have hlt:h.next<h6.next:=by
  have:=(o14.trans (o5.trans o6)).next
  omega
 have nz:h6.next≠h.next:=by omega
 have p7:h7.n0≤h6.next:=by rw [o7.n0];exact h6.bg
 have len7:(m.d.cells s).length=116:=cells_len (aZ.ok x.wf)
 have len7':((stripM m.kind m).d.cells s6).length=116:=cells_len (aZ.ok (stripM_wf q0 x.wf))
 obtain ⟨h8,t0,k8,g8,p8,-⟩:=stored (v := .int .u8 (m.kind:Int)) (o:=0) g7 p7 (by omega) rfl rfl
 obtain ⟨h9,t1,k9,g9,p9,-⟩:=stored (v := .int .i64 m.from_) (o:=1) g8 p8 (by rw [List.length_set];omega) rfl rfl
 obtain ⟨h10,t2,k10,g10,-,-⟩:=stored (v := .int .i64 m.eu) (o:=2) g9 p9 (by rw [List.length_set,List.length_set];omega) rfl rfl
 have g10:h10.get h6.next=some ((fullM m).d.cells s6):=g10
 have kk:=(k8.trans k9).trans k10
 have o610:Old h6 h10:=o7'.also kk (fun d hd e=>by omega)
 have O10:=(O5.trans o6).trans o610
 have x10:=(x5.bm o6).bm o610
 have A10:=bW x10 (Old.get o610 (Old.get o6 A5.g))
 have X10:ej h10 s6 (fullM m):=⟨⟨(X6.bm o610).sl.a,(X6.bm o610).sl.b,(X6.bm o610).sl.c,(X6.bm o610).sl.d,(X6.bm o610).sl.e,(X6.bm o610).sl.f⟩,fullM_wf q0 x.wf⟩
 have B10:=bW X10 g10
 have l1:aK (ptr h.next 1) h8=some (.int .i64 m.from_,h8):=bf (k8.getE A7.g (fun e=>nz e.symm)) rfl
 have l2:aK (ptr h.next 2) h8=some (.int .i64 m.eu,h8):=bf (k8.getE A7.g (fun e=>nz e.symm)) rfl
 have l2':aK (ptr h.next 2) h9=some (.int .i64 m.eu,h9):=bf (k9.getE (k8.getE A7.g (fun e=>nz e.symm)) (fun e=>nz e.symm)) rfl
 have w1:=fK l1 (by simp [Abs.fa])
 have w2:=fK l2 (by simp [Abs.fa])
 have w3:=fK l2' (by simp [Abs.fa])
 obtain ⟨h11,e11,o11⟩:=r22m (by rw [O10.n0];exact hG) x10 X10 sm
 refine ⟨h11,aG is19 hG rfl ((t19_eq _ _ _).trans ?_),O10.trans o11⟩
 unfold t19 b9
 cases q5:decide (m=fullM m) with
 |false=>
  rw [q5] at e11
  simp -implicitDefEqProofs only [b1, A.l0, e2, bM, bN, z3, s4, A4.l1, e5, A4.l2, e6, f1, A4.all, e7, f2, A5.all, e8, z7, u7, A7.l0, A7.l1, A7.l2, t0, t1, t2, w1, w2, w3, A10.all, B10.all, e11, ah, aq, ar, beq_self_eq_true, aj, Bool.false_eq_true, if_false, ao, Nat.zero_add, Bool.not_true, Bool.not_false, au, ay, q0, q1, q2, q3, q4, Bool.and_true, Bool.and_false, Bool.not_true, Bool.not_false]
 |true=>
  rw [q5] at e11
  simp -implicitDefEqProofs only [b1, A.l0, e2, bM, bN, z3, s4, A4.l1, e5, A4.l2, e6, f1, A4.all, e7, f2, A5.all, e8, z7, u7, A7.l0, A7.l1, A7.l2, t0, t1, t2, w1, w2, w3, A10.all, B10.all, e11, ah, aq, ar, beq_self_eq_true, aj, Bool.false_eq_true, if_false, if_true, ao, Nat.zero_add, Bool.not_true, Bool.not_false, au, ay, q0, q1, q2, q3, q4, Bool.and_true, Bool.not_true, Bool.not_false]
end
end Go.Proofs.YtjghlcdidopcpaaGreatDoor

namespace Go.Proofs.YtjghlcdidopcpaaGreatDoor
open Go Go.Abs
attribute [local congr] aP
theorem is34:bB Tryz.prog 34 Tryz.f34:=⟨by kernel_rfl,by kernel_rfl,by kernel_rfl,by kernel_rfl⟩
theorem r34 {h:ak} (hG:4≤h.n0) {a:Option Addr} {n c:Nat} {l:List Nat} (hl:aJ a n h=some l) (hn:n<9223372036854775807) : ∃ h',CW 34 [.slice a n c] h=some (u32 (crcN l),h')∧Old h h':=by
 obtain ⟨h1,e,o⟩:=t34_is (C:=CW) a n c l h hl hn
 exact ⟨h1,aG is34 hG rfl ((t34_eq _ _ _).trans e),o⟩
theorem is52:bB Tryz.prog 52 Tryz.f52:=⟨by kernel_rfl,by kernel_rfl,by kernel_rfl,by kernel_rfl⟩
theorem r52 {h:ak} {N w lim:Nat} {l:List Nat} (W:IsW h N w lim l) {a:Option Addr} {n c:Nat} {m:List Nat} (hm:aJ a n h=some m) (ha : ∀ y,a=some y→0<n→Fr h w y.block) (hfit:l.length+n≤lim) :
  ∃ h',CW 52 [ptr w 0,.slice a n c] h=some (.tuple #[],h')∧IsW h' N w lim (l++m)∧WS w h h':=by
 obtain ⟨h1,e1,W1,k1⟩:=r85 W (n:=n) hfit
 have hsm:=W.small
 obtain ⟨v1,v2,g1,g2,f1,f2,f3,f4,f5⟩:=w_append (c:=c) W1 (k1.bytes hm ha) (by omega)
 have hl:bE (.slice a n c)=some (aN n):=rfl
 refine ⟨g2,aG is52 W.g4 rfl ((t52_eq _ _ _ _).trans ?_),f4,k1.trans f5⟩
 unfold t52
 simp -implicitDefEqProofs only [ah,hl,aq,e1,dk,ao,Nat.zero_add,f1,f2,f3]
theorem arr32 (b o:Nat):bY 32 1 (ptr b o) none none none=some (.slice (some ⟨b,o,none⟩) 32 32):=by
 unfold bY
 rfl
theorem u8s_ok (l:List Nat):Abs.bA (bI l)=true∧aS (bI l)=true:=by
 refine ⟨?_,?_⟩
 ·unfold Abs.bA
  rw [List.all_eq_true]
  intro v hv
  obtain ⟨x,_,rfl⟩:=List.mem_map.1 hv
  rfl
 ·unfold aS
  rw [List.all_eq_true]
  intro v hv
  obtain ⟨x,_,rfl⟩:=List.mem_map.1 hv
  rfl
theorem ldN_all {h:ak} {b n:Nat} {k:List Value} (g:h.get b=some k) (hl:k.length=n) (nh:Abs.bA k=true):bP n (ptr b 0) h=some (.agg k.toArray,h):=fw g (A := []) (B:=k) (C := []) (by simp) rfl hl nh
section
variable {p r:Nat} {s:Rd} {h:ak} (R:IsRd h p r s)
include R
end
end Go.Proofs.YtjghlcdidopcpaaGreatDoor

