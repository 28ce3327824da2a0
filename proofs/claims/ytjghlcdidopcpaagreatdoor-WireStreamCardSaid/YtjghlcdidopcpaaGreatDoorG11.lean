/-
  A part of the proof, spaces and names shortened by a program (a claim may hold 1,500,000 bytes).
  Conditions: as each theorem states.
-/
import Derived.Test.YtjghlcdidopcpaaGreatDoorG10
import Derived.OpenShut
namespace Go.Proofs.YtjghlcdidopcpaaGreatDoor
open Go Go.Abs
open Go.ChangeShapes Go.WideShapes Go.ChangeAt Go.RowKit
theorem Typed.app {ks ls:List Kd} {a b:List Value} (x:Typed ks a) (y:Typed ls b):Typed (ks++ls) (a++b):=by
 refine ⟨by rw [List.length_append,List.length_append,x.1,y.1],fun j k hk => ?_⟩
 by_cases hj:j<ks.length
 ·rw [List.getElem?_append_left hj] at hk
  obtain ⟨v,h1,h2⟩:=x.2 j k hk
  exact ⟨v,by rw [List.getElem?_append_left (by rw [x.1];exact hj)];exact h1,h2⟩
 ·rw [List.getElem?_append_right (by omega)] at hk
  obtain ⟨v,h1,h2⟩:=y.2 _ k hk
  exact ⟨v,by rw [List.getElem?_append_right (by rw [x.1];omega),x.1];exact h1,h2⟩
theorem Typed.one {k:Kd} {v:Value} (h:k.has v):Typed [k] [v]:=⟨rfl,fun j t ht=>by
 cases j with
 |zero=>cases ht;exact ⟨v,rfl,h⟩
 |succ j=>cases ht⟩
def Pc (ks:List Kd) (o:Nat) (cs:List Value):Prop:=Typed ks ((cs.drop o).take ks.length)
theorem Pc.app {ks ls:List Kd} {o:Nat} {cs:List Value} (x:Pc ks o cs) (y:Pc ls (o+ks.length) cs):Pc (ks++ls) o cs:=by
 unfold Pc at *
 rw [List.length_append,List.take_add,List.drop_drop]
 exact x.app y
theorem Pc.whole {ks:List Kd} {cs:List Value} (x:Pc ks 0 cs) (h:cs.length=ks.length):Typed ks cs:=by
 unfold Pc at x
 rw [List.drop_zero,←h,List.take_length] at x
 exact x
theorem clean_nice {n:Nat} {v:Value} (h:nice n v=true):clean n v=v:=by unfold clean;rw [if_pos h]
theorem Kd.has.clean {k:Kd} {v:Value} (h:k.has v) (n:Nat):clean n v=v:=by
 cases k with
 |u8=>obtain ⟨m,rfl,_⟩:=h;rfl
 |i k=>obtain ⟨m,rfl,_⟩:=h;rfl
 |b=>obtain ⟨t,rfl⟩:=h;rfl
theorem Typed.clean {ks:List Kd} {cs:List Value} (h:Typed ks cs) (n:Nat):cs.map (clean n)=cs:=by
 refine List.ext_getElem? fun j => ?_
 rw [List.getElem?_map]
 by_cases hj:j<ks.length
 ·obtain ⟨v,h1,h2⟩:=h.2 j _ (List.getElem?_eq_getElem hj)
  rw [h1,Option.map_some,h2.clean]
 ·rw [List.getElem?_eq_none (by rw [h.1];omega)];rfl
theorem u8_lit {n:Int} (h:(Lit.int .u8 n).wf=true) : ∃ m:Nat,n=m∧m<256:=by
 simp [Lit.wf,IntKind.min,IntKind.max,IntKind.signed,IntKind.bits] at h
 exact ⟨n.toNat,by omega,by omega⟩
theorem clean_slice {W:World} {a:Addr} {len cap:Nat} (hlc:len≤cap) (hc:0<cap→a.spot=none∧a.block<W.heap.size) :
  isHole (clean W.heap.size (.slice (some a) len cap))=false ∧ ∃ a' ,clean W.heap.size (.slice (some a) len cap) = .slice (some a') len cap∧(0<cap→a'=a):=by
 obtain ⟨b,off,s⟩:=a
 by_cases h0:0<cap
 ·obtain ⟨h1,h2⟩:=hc h0
  have h1':s=none:=h1
  have h2':b<W.heap.size:=h2
  subst h1'
  have hn:nice W.heap.size (.slice (some ⟨b,off,none⟩) len cap)=true:=by simpa [nice] using h2'
  rw [clean_nice hn]
  exact ⟨rfl,_,rfl,fun _=>rfl⟩
 ·obtain rfl:cap=0:=by omega
  obtain rfl:len=0:=by omega
  by_cases hn:nice W.heap.size (.slice (some ⟨b,off,s⟩) 0 0)=true
  ·rw [clean_nice hn]
   exact ⟨rfl,_,rfl,fun h=>absurd h h0⟩
  ·have:clean W.heap.size (.slice (some ⟨b,off,s⟩) 0 0) = .slice (some ⟨0,0,some 0⟩) 0 0:=by unfold clean;rw [if_neg hn];rfl
   rw [this]
   exact ⟨rfl,_,rfl,fun h=>absurd h h0⟩
theorem add_block (a:Addr) (n:Nat):(a.add n).block=a.block:=by unfold Addr.add;split<;>rfl
theorem add_off (a:Addr) (n:Nat):(a.add n).off=a.off+n:=by
 unfold Addr.add
 split
 ·rename_i h;rw [h];rfl
 ·rfl
section
variable {H:Type} {enc:TypeId×Value→H} {W:World} {base:Nat} {held:Bool}
def Reads (enc:TypeId×Value→H) (W:World) (base:Nat) (held:Bool) (t:TypeId) (ks:List Kd):Prop:=
 ∀ fuel cs x,DataW.trod enc Tryz.prog W base (fun _=>true) held fuel t cs=some x→Typed ks cs
theorem reads_u8 {t:TypeId} (ht:Tryz.prog.underlying t=some (.int .u8)):Reads enc W base held t [.u8]:=fun fuel cs x h=>by
 obtain ⟨n,rfl,_,w⟩:=DataW.trod_int ht h
 obtain ⟨m,rfl,hm⟩:=u8_lit w
 exact .one ⟨m,rfl,hm⟩
theorem reads_i {t:TypeId} {k:IntKind} (ht:Tryz.prog.underlying t=some (.int k)):Reads enc W base held t [.i k]:=fun fuel cs x h=>by
 obtain ⟨n,rfl,_,w⟩:=DataW.trod_int ht h
 exact .one ⟨n,rfl,w⟩
theorem reads_b {t:TypeId} (ht:Tryz.prog.underlying t=some .bool):Reads enc W base held t [.b]:=fun fuel cs x h=>by
 obtain ⟨n,rfl,_⟩:=DataW.trod_bool ht h
 exact .one ⟨n,rfl⟩
theorem reads_arr {t e:TypeId} {n:Nat} {k:Kd} (ht:Tryz.prog.underlying t=some (.array n e)) (h1:Tryz.prog.cellsOf e=1) (hn:Tryz.prog.cellsOf t=n) (R:Reads enc W base held e [k]):Reads enc W base held t (List.replicate n k):=fun fuel cs x h=>by
 obtain ⟨xs,m,rfl,_,hl,hx,hf⟩:=DataW.trod_array ht h
 rw [hn] at hl
 refine ⟨by rw [hl,List.length_replicate],fun j t' hj => ?_⟩
 have hj':j<n:=by
  have:=(List.getElem?_eq_some_iff.1 hj).1
  rwa [List.length_replicate] at this
 rw [List.getElem?_replicate,if_pos hj'] at hj
 cases hj
 have:=hf j hj'
 rw [List.getElem?_eq_getElem (by omega),h1,Nat.mul_one] at this
 obtain ⟨v,g1,g2⟩:=(R _ _ _ this).2 0 k rfl
 rw [List.getElem?_take,if_pos (by omega),List.getElem?_drop,Nat.add_zero] at g1
 exact ⟨v,g1,g2⟩
theorem fld {fuel:Nat} {t:TypeId} {cs:List Value} {x:DataW H×List MemPlace} {fs:Array Field} (ht:Tryz.prog.underlying t=some (.struct fs)) (h:DataW.trod enc Tryz.prog W base (fun _=>true) held fuel t cs=some x) {i z:Nat} {f:Field} (hf:fs[i]? = some f) (hz:Tryz.prog.cellsOf f.type=z) :
  ∃ m y,DataW.trod enc Tryz.prog W base (fun _=>true) held m f.type ((cs.drop f.offset).take z)=some y:=by
 obtain ⟨xs,n,rfl,_,_,hl,h2⟩:=DataW.trod_struct ht h
 have:=h2 i f hf
 rw [List.getElem?_eq_getElem (by rw [hl];exact (Array.getElem?_eq_some_iff.1 hf).1),hz] at this
 exact ⟨_,_,this⟩
theorem piece {fuel:Nat} {t:TypeId} {cs:List Value} {x:DataW H×List MemPlace} {fs:Array Field} (ht:Tryz.prog.underlying t=some (.struct fs)) (h:DataW.trod enc Tryz.prog W base (fun _=>true) held fuel t cs=some x) {i:Nat} {f:Field} {ks:List Kd} (hf:fs[i]? = some f) (hz:Tryz.prog.cellsOf f.type=ks.length)
  (R:Reads enc W base held f.type ks):Pc ks f.offset cs:=by
 obtain ⟨m,y,e⟩:=fld ht h hf hz
 exact R _ _ _ e
theorem sl_of {t e:TypeId} {ks:List Kd} (ht:Tryz.prog.underlying t=some (.slice e)) (he:Tryz.prog.cellsOf e=ks.length) (hz:0<ks.length) (R:Reads enc W base held e ks) {fuel:Nat} {v:Value} {x:DataW H×List MemPlace}
  (h:DataW.trod enc Tryz.prog W base (fun _=>true) held fuel t [v]=some x):isHole (clean W.heap.size v)=false ∧ ∃ n cs,cO (dn W (view W)) ks (clean W.heap.size v) n cs:=by
 have nilT:dS ks 0 []:=⟨by simp,fun i hi=>absurd hi (Nat.not_lt_zero i)⟩
 rcases DataW.trod_slice ht h with ⟨h1,_⟩|⟨a,len,cap,elems,rest,n,_,h1,_,_,hlc,hcm,hl,hel,hsp,_⟩
 ·cases h1
  exact ⟨rfl,0,[],none,0,rfl,fun _=>rfl,nilT,fun h=>absurd h (Nat.lt_irrefl 0)⟩
 ·cases h1
  rw [he] at hel hsp
  have hpos:0<cap→a.spot=none∧a.block<W.heap.size:=by
   intro h0
   have key : ∃ cs,W.cells? base (a.add (0*ks.length)) ks.length=some cs:=by
    by_cases hlen:0<len
    ·have:=hel 0 hlen
     rw [List.getElem?_eq_getElem (by omega),Option.bind_eq_some_iff] at this
     obtain ⟨cs,hc,_⟩:=this
     exact ⟨cs,hc⟩
    ·have:=(hsp rfl).2 0 (by omega)
     rw [List.getElem?_eq_getElem (by rw [(hsp rfl).1];omega),Option.bind_eq_some_iff] at this
     obtain ⟨cs,hc,_⟩:=this
     obtain rfl:len=0:=by omega
     exact ⟨cs,hc⟩
   obtain ⟨cs,hc⟩:=key
   obtain ⟨_,hlen,hcell⟩:=World.cells?_some hc
   have g:=hcell 0 hz
   obtain ⟨c0,hc0⟩ : ∃ c0,cs[0]? = some c0:=⟨cs[0],List.getElem?_eq_getElem (by omega)⟩
   rw [hc0,Nat.zero_mul] at g
   have g:W.cell? a=some c0:=g
   obtain ⟨e1,e2,_⟩:=view_cell g
   exact ⟨e1,e2⟩
  obtain ⟨g1,a',g2,g3⟩:=clean_slice (W:=W) hlc hpos
  refine ⟨g1,len,?_⟩
  by_cases h0:len=0
  ·subst h0
   exact ⟨[],_,_,g2,fun _=>rfl,nilT,fun h=>absurd h (Nat.lt_irrefl 0)⟩
  have ha:=g3 (by omega)
  subst ha
  have each : ∀ i,i<len → ∃ k es,view W a'.block=some k∧Typed ks es ∧ ∀ j,j<ks.length→k[a'.off+i*ks.length+j]? = es[j]? := by
   intro i hi
   have h2:=hel i hi
   rw [List.getElem?_eq_getElem (by omega),Option.bind_eq_some_iff] at h2
   obtain ⟨es,hc,ht⟩:=h2
   have ty:=R _ _ _ ht
   obtain ⟨_,hlen,hcell⟩:=World.cells?_some hc
   have vc : ∀ j,j<ks.length → ∃ k,view W a'.block=some k∧k[a'.off+i*ks.length+j]? = es[j]? := by
    intro j hj
    obtain ⟨u,h3,h4⟩:=ty.2 j _ (List.getElem?_eq_getElem hj)
    have g:=hcell j hj
    rw [h3] at g
    obtain ⟨_,_,k,hk,hc2⟩:=view_cell g
    rw [add_block,add_block] at hk
    rw [add_off,add_off,h4.clean] at hc2
    exact ⟨k,hk,by rw [hc2,h3]⟩
   obtain ⟨k,hk,_⟩:=vc 0 hz
   refine ⟨k,es,hk,ty,fun j hj => ?_⟩
   obtain ⟨k',hk',e⟩:=vc j hj
   rw [hk] at hk'
   cases hk'
   exact e
  obtain ⟨k,_,hk,_⟩:=each 0 (by omega)
  have each : ∀ i,i<len → ∃ es,Typed ks es ∧ ∀ j,j<ks.length→k[a'.off+i*ks.length+j]? = es[j]? := fun i hi=>by
   obtain ⟨k',es,hk',h1,h2⟩:=each i hi
   rw [hk] at hk'
   cases hk'
   exact ⟨es,h1,h2⟩
  have hlen:a'.off+len*ks.length≤k.length:=by
   obtain ⟨es,ty,e⟩:=each (len-1) (by omega)
   have:=e (ks.length-1) (by omega)
   obtain ⟨u,hu,_⟩:=ty.2 (ks.length-1) _ (List.getElem?_eq_getElem (by omega))
   rw [hu] at this
   have:=(List.getElem?_eq_some_iff.1 this).1
   have h9:len*ks.length=(len-1)*ks.length+ks.length:=by
    conv=>lhs;rw [show len=(len-1)+1 by omega,Nat.add_mul,Nat.one_mul]
   omega
  refine ⟨(k.drop a'.off).take (len*ks.length),_,_,g2,fun h=>(by cases h),⟨by rw [List.length_take,List.length_drop];omega,fun i hi => ?_⟩,fun _=>⟨a'.block,a'.off,a'.spot,k,rfl,by rw [view_get];exact hk,hlen,rfl⟩⟩
  obtain ⟨es,ty,e⟩:=each i hi
  have hm:=mul_le (z:=ks.length) hi
  have:(((k.drop a'.off).take (len*ks.length)).drop (i*ks.length)).take ks.length=es:=by
   refine List.ext_getElem? fun j => ?_
   rw [List.getElem?_take]
   by_cases hj:j<ks.length
   ·rw [if_pos hj,List.getElem?_drop,List.getElem?_take,if_pos (by omega),List.getElem?_drop,←e j hj,Nat.add_assoc]
   ·rw [if_neg hj,List.getElem?_eq_none (by rw [ty.1];omega)]
  rw [this]
  exact ty
end
end Go.Proofs.YtjghlcdidopcpaaGreatDoor

namespace Go.Proofs.YtjghlcdidopcpaaGreatDoor
open Go Go.Abs
open Go.ChangeShapes Go.WideShapes Go.ChangeAt Go.RowKit
theorem cut (l:List Value) (n:Nat) (h:n≤l.length) : ∃ a b,l=a++b∧a.length=n∧b.length=l.length-n:=
 ⟨l.take n,l.drop n,(List.take_append_drop n l).symm,by rw [List.length_take];omega,by rw [List.length_drop]⟩
theorem msg_cut {l:List Value} (h:l.length=116) : ∃ a0 a1 a2 a3 a4 a5 a6 a7 a8 a9 r d w o g0 g1 g2 g3 mo e i f c,l = [a0,a1,a2,a3,a4,a5,a6,a7,a8,a9]++(r++([d,w]++(o++(([g0,g1,g2,g3]++(mo ++ [e])) ++ [i,f,c]))))∧r.length=32∧o.length=32∧mo.length=32:=by
 obtain ⟨A,l1,rfl,hA,h1⟩:=cut l 10 (by omega)
 obtain ⟨r,l2,rfl,hr,h2⟩:=cut l1 32 (by omega)
 obtain ⟨D,l3,rfl,hD,h3⟩:=cut l2 2 (by omega)
 obtain ⟨o,l4,rfl,ho,h4⟩:=cut l3 32 (by omega)
 obtain ⟨G,l5,rfl,hG,h5⟩:=cut l4 4 (by omega)
 obtain ⟨mo,l6,rfl,hm,h6⟩:=cut l5 32 (by omega)
 have h7:l6.length=4:=by omega
 match A,hA,D,hD,G,hG,l6,h7 with
 | [a0,a1,a2,a3,a4,a5,a6,a7,a8,a9],_,[d,w],_,[g0,g1,g2,g3],_,[e,i,f,c],_=>
   exact ⟨a0,a1,a2,a3,a4,a5,a6,a7,a8,a9,r,d,w,o,g0,g1,g2,g3,mo,e,i,f,c,by simp,hr,ho,hm⟩
theorem take_one {l:List Value} {o:Nat} {v:Value} (e:l[o]? = some v):(l.drop o).take 1 = [v]:=by
 obtain ⟨ho,rfl⟩:=List.getElem?_eq_some_iff.1 e
 rw [List.drop_eq_getElem_cons ho]
 rfl
section
variable {H:Type} {enc:TypeId×Value→H} {W:World} {base:Nat} {held:Bool}
theorem rd5:Reads enc W base held 5 [.u8]:=reads_u8 Tryz.underlying5
theorem rd28:Reads enc W base held 28 ew:=reads_arr Tryz.underlying28 (by kernel_rfl) (by kernel_rfl) rd5
theorem rd58:Reads enc W base held 58 memK:=fun fuel cs x h=>by
 have p0:Pc [.i .u64] 0 cs:=piece Tryz.underlying58 h (i:=0) rfl (by kernel_rfl) (reads_i Tryz.underlying25)
 have p1:Pc [.u8] 1 cs:=piece Tryz.underlying58 h (i:=1) rfl (by kernel_rfl) (reads_u8 Tryz.underlying56)
 obtain ⟨_,_,_,_,hl,_⟩:=DataW.trod_struct Tryz.underlying58 h
 exact (p0.app p1).whole (hl.trans (by kernel_rfl))
theorem rd61:Reads enc W base held 61 recK:=fun fuel cs x h=>by
 have p0:Pc [.u8] 0 cs:=piece Tryz.underlying61 h (i:=0) rfl (by kernel_rfl) (reads_u8 Tryz.underlying59)
 have p1:Pc ew 1 cs:=piece Tryz.underlying61 h (i:=1) rfl (by kernel_rfl) rd28
 have p2:Pc [.i .i64] 33 cs:=piece Tryz.underlying61 h (i:=2) rfl (by kernel_rfl) (reads_i Tryz.underlying3)
 have p3:Pc [.i .u64] 34 cs:=piece Tryz.underlying61 h (i:=3) rfl (by kernel_rfl) (reads_i Tryz.underlying25)
 have p4:Pc [.i .u64] 35 cs:=piece Tryz.underlying61 h (i:=4) rfl (by kernel_rfl) (reads_i Tryz.underlying25)
 have p5:Pc [.b] 36 cs:=piece Tryz.underlying61 h (i:=5) rfl (by kernel_rfl) (reads_b Tryz.underlying4)
 have p6:Pc [.i .i64] 37 cs:=piece Tryz.underlying61 h (i:=6) rfl (by kernel_rfl) (reads_i Tryz.underlying3)
 have p7:Pc [.i .i64] 38 cs:=piece Tryz.underlying61 h (i:=7) rfl (by kernel_rfl) (reads_i Tryz.underlying3)
 obtain ⟨_,_,_,_,hl,_⟩:=DataW.trod_struct Tryz.underlying61 h
 exact (((((((p0.app p1).app p2).app p3).app p4).app p5).app p6).app p7).whole (hl.trans (by kernel_rfl))
theorem sl26 {fuel:Nat} {v:Value} {x:DataW H×List MemPlace} (h:DataW.trod enc Tryz.prog W base (fun _=>true) held fuel 26 [v]=some x):isHole (clean W.heap.size v)=false ∧ ∃ n cs,cO (dn W (view W)) memK (clean W.heap.size v) n cs:=sl_of Tryz.underlying26 (ks:=memK) (by kernel_rfl) (by decide) rd58 h
theorem sl22 {fuel:Nat} {v:Value} {x:DataW H×List MemPlace} (h:DataW.trod enc Tryz.prog W base (fun _=>true) held fuel 22 [v]=some x):isHole (clean W.heap.size v)=false ∧ ∃ n cs,cO (dn W (view W)) [.u8] (clean W.heap.size v) n cs:=sl_of Tryz.underlying22 (ks := [.u8]) (by kernel_rfl) (by decide) rd5 h
theorem sl29 {fuel:Nat} {v:Value} {x:DataW H×List MemPlace} (h:DataW.trod enc Tryz.prog W base (fun _=>true) held fuel 29 [v]=some x):isHole (clean W.heap.size v)=false ∧ ∃ n cs,cO (dn W (view W)) recK (clean W.heap.size v) n cs:=sl_of Tryz.underlying29 (ks:=recK) (by kernel_rfl) (by decide) rd61 h
theorem sl30 {fuel:Nat} {v:Value} {x:DataW H×List MemPlace} (h:DataW.trod enc Tryz.prog W base (fun _=>true) held fuel 30 [v]=some x):isHole (clean W.heap.size v)=false ∧ ∃ n cs,cO (dn W (view W)) ew (clean W.heap.size v) n cs:=sl_of Tryz.underlying30 (ks:=ew) (by kernel_rfl) (by decide) rd28 h
theorem fld1 {fuel:Nat} {t:TypeId} {cs:List Value} {x:DataW H×List MemPlace} {fs:Array Field} (ht:Tryz.prog.underlying t=some (.struct fs)) (h:DataW.trod enc Tryz.prog W base (fun _=>true) held fuel t cs=some x) {i:Nat} {f:Field} (hf:fs[i]? = some f) (hz:Tryz.prog.cellsOf f.type=1) {v:Value} (e:cs[f.offset]? = some v) :
  ∃ m y,DataW.trod enc Tryz.prog W base (fun _=>true) held m f.type [v]=some y:=by
 obtain ⟨m,y,q⟩:=fld ht h hf hz
 rw [take_one e] at q
 exact ⟨m,y,q⟩
theorem fldN {fuel:Nat} {t:TypeId} {cs A B C:List Value} {x:DataW H×List MemPlace} {fs:Array Field} (ht:Tryz.prog.underlying t=some (.struct fs)) (h:DataW.trod enc Tryz.prog W base (fun _=>true) held fuel t cs=some x) {i z:Nat} {f:Field} (hf:fs[i]? = some f) (hz:Tryz.prog.cellsOf f.type=z) (e:cs=A++(B++C)) (hA:A.length=f.offset) (hB:B.length=z) :
  ∃ m y,DataW.trod enc Tryz.prog W base (fun _=>true) held m f.type B=some y:=by
 obtain ⟨m,y,q⟩:=fld ht h hf hz
 rw [mid e hA hB] at q
 exact ⟨m,y,q⟩
structure bI.Rng (M:bI):Prop where
 kind:(Lit.int .u8 M.kind).wf=true
 from_:(Lit.int .i64 M.from_).wf=true
 to_:(Lit.int .i64 M.to_).wf=true
 seq:(Lit.int .u64 M.seq).wf=true
 origin:(Lit.int .i64 M.origin).wf=true
 target:(Lit.int .i64 M.target).wf=true
 count:(Lit.int .i64 M.count).wf=true
 gk:(Lit.int .i64 M.gk).wf=true
 gn:(Lit.int .i64 M.gn).wf=true
 gt:(Lit.int .i64 M.gt).wf=true
 gs:(Lit.int .i64 M.gs).wf=true
 cY:(Lit.int .i64 M.cY).wf=true
 code:(Lit.int .i64 M.code).wf=true
theorem trod_msg {fuel:Nat} {cs:List Value} {x:DataW H×List MemPlace} (h:DataW.trod enc Tryz.prog W base (fun _=>true) held fuel 37 cs=some x) :
  ∃ (M:bI) (s:dy) (n:N6),cs.map (clean W.heap.size)=M.cells s∧SlV (dn W (view W)) s n M∧M.Ok∧M.Rng:=by
 obtain ⟨_,_,_,_,hl,_⟩:=DataW.trod_struct Tryz.underlying37 h
 obtain ⟨a0,a1,a2,a3,a4,a5,a6,a7,a8,a9,r,d,w,o,g0,g1,g2,g3,mo,e,i,f,c,rfl,hr,ho,hm⟩:=msg_cut (hl.trans (show Tryz.prog.cellsOf 37=116 by kernel_rfl))
 have c1:Tryz.prog.cellsOf 3=1:=by kernel_rfl
 have c24:Tryz.prog.cellsOf 24=1:=by kernel_rfl
 have c25:Tryz.prog.cellsOf 25=1:=by kernel_rfl
 have c4:Tryz.prog.cellsOf 4=1:=by kernel_rfl
 have c22:Tryz.prog.cellsOf 22=1:=by kernel_rfl
 have c26:Tryz.prog.cellsOf 26=1:=by kernel_rfl
 have c29:Tryz.prog.cellsOf 29=1:=by kernel_rfl
 have c30:Tryz.prog.cellsOf 30=1:=by kernel_rfl
 have c35:Tryz.prog.cellsOf 35=1:=by kernel_rfl
 have c28:Tryz.prog.cellsOf 28=32:=by kernel_rfl
 have c32:Tryz.prog.cellsOf 32=37:=by kernel_rfl
 have c34:Tryz.prog.cellsOf 34=2:=by kernel_rfl
 obtain ⟨_,_,q0⟩:=fld1 Tryz.underlying37 h (i:=0) rfl c24 (v:=a0) rfl
 obtain ⟨n0,e0,_,we0⟩:=DataW.trod_int Tryz.underlying24 q0
 obtain ⟨_,_,q1⟩:=fld1 Tryz.underlying37 h (i:=1) rfl c1 (v:=a1) rfl
 obtain ⟨n1,e1,_,we1⟩:=DataW.trod_int Tryz.underlying3 q1
 obtain ⟨_,_,q2⟩:=fld1 Tryz.underlying37 h (i:=2) rfl c1 (v:=a2) rfl
 obtain ⟨n2,e2,_,we2⟩:=DataW.trod_int Tryz.underlying3 q2
 obtain ⟨_,_,q3⟩:=fld1 Tryz.underlying37 h (i:=3) rfl c25 (v:=a3) rfl
 obtain ⟨n3,e3,_,we3⟩:=DataW.trod_int Tryz.underlying25 q3
 obtain ⟨_,_,q4⟩:=fld1 Tryz.underlying37 h (i:=4) rfl c1 (v:=a4) rfl
 obtain ⟨n4,e4,_,we4⟩:=DataW.trod_int Tryz.underlying3 q4
 obtain ⟨_,_,q5⟩:=fld1 Tryz.underlying37 h (i:=5) rfl c1 (v:=a5) rfl
 obtain ⟨n5,e5,_,we5⟩:=DataW.trod_int Tryz.underlying3 q5
 obtain ⟨_,_,q6⟩:=fld1 Tryz.underlying37 h (i:=6) rfl c26 (v:=a6) rfl
 obtain ⟨_,n6,t6,s6⟩:=sl26 q6
 obtain ⟨_,_,q7⟩:=fld1 Tryz.underlying37 h (i:=7) rfl c22 (v:=a7) rfl
 obtain ⟨_,n7,t7,s7⟩:=sl22 q7
 obtain ⟨_,_,q8⟩:=fld1 Tryz.underlying37 h (i:=8) rfl c22 (v:=a8) rfl
 obtain ⟨_,n8,t8,s8⟩:=sl22 q8
 obtain ⟨_,_,q9⟩:=fld1 Tryz.underlying37 h (i:=9) rfl c1 (v:=a9) rfl
 obtain ⟨n9,e9,_,we9⟩:=DataW.trod_int Tryz.underlying3 q9
 obtain ⟨_,_,q10⟩:=fldN Tryz.underlying37 h (i:=10) rfl c28 rfl (A := [a0,a1,a2,a3,a4,a5,a6,a7,a8,a9]) (B:=r) rfl hr
 have t10:=rd28 _ _ _ q10
 obtain ⟨_,_,q11⟩:=fld1 Tryz.underlying37 h (i:=11) rfl c29 (v:=d) (by simp [hr])
 obtain ⟨_,n11,t11,s11⟩:=sl29 q11
 obtain ⟨_,_,q12⟩:=fld1 Tryz.underlying37 h (i:=12) rfl c4 (v:=w) (by simp [List.getElem?_append,hr])
 obtain ⟨n12,e12,_⟩:=DataW.trod_bool Tryz.underlying4 q12
 obtain ⟨_,_,dO⟩:=fldN Tryz.underlying37 h (i:=13) rfl c28 (A := [a0,a1,a2,a3,a4,a5,a6,a7,a8,a9]++(r ++ [d,w])) (B:=o) (C:=([g0,g1,g2,g3]++(mo ++ [e])) ++ [i,f,c]) (by simp only [List.append_assoc]) (by simp [hr]) ho
 have t13:=rd28 _ _ _ dO
 obtain ⟨_,_,q14⟩:=fldN Tryz.underlying37 h (i:=14) rfl c32 (A := [a0,a1,a2,a3,a4,a5,a6,a7,a8,a9]++(r++([d,w]++o))) (B := [g0,g1,g2,g3]++(mo ++ [e])) (C := [i,f,c]) (by simp only [List.append_assoc]) (by simp [hr,ho]) (by simp [hm])
 obtain ⟨_,_,q15⟩:=fldN Tryz.underlying37 h (i:=15) rfl c34 (A := [a0,a1,a2,a3,a4,a5,a6,a7,a8,a9]++(r++([d,w]++(o++([g0,g1,g2,g3]++(mo ++ [e])))))) (B := [i,f]) (C := [c]) (by simp only [List.append_assoc];rfl) (by simp [hr,ho,hm]) rfl
 obtain ⟨_,_,q16⟩:=fld1 Tryz.underlying37 h (i:=16) rfl c35 (v:=c) (by simp [hr, ho, hm])
 obtain ⟨n16,e16,_,we16⟩:=DataW.trod_int Tryz.underlying35 q16
 obtain ⟨_,_,u0⟩:=fld1 Tryz.underlying32 q14 (i:=0) rfl c1 (v:=g0) rfl
 obtain ⟨k0,f0,_,wf0⟩:=DataW.trod_int Tryz.underlying3 u0
 obtain ⟨_,_,u1⟩:=fld1 Tryz.underlying32 q14 (i:=1) rfl c1 (v:=g1) rfl
 obtain ⟨k1,f1,_,wf1⟩:=DataW.trod_int Tryz.underlying3 u1
 obtain ⟨_,_,u2⟩:=fld1 Tryz.underlying32 q14 (i:=2) rfl c1 (v:=g2) rfl
 obtain ⟨k2,f2,_,wf2⟩:=DataW.trod_int Tryz.underlying3 u2
 obtain ⟨_,_,u3⟩:=fld1 Tryz.underlying32 q14 (i:=3) rfl c1 (v:=g3) rfl
 obtain ⟨k3,f3,_,wf3⟩:=DataW.trod_int Tryz.underlying3 u3
 obtain ⟨_,_,u4⟩:=fldN Tryz.underlying32 q14 (i:=4) rfl c28 (A := [g0,g1,g2,g3]) (B:=mo) rfl rfl hm
 have t4:=rd28 _ _ _ u4
 obtain ⟨_,_,u5⟩:=fld1 Tryz.underlying32 q14 (i:=5) rfl c30 (v:=e) (by simp [hm])
 obtain ⟨_,n17,t17,s17⟩:=sl30 u5
 obtain ⟨_,_,v0⟩:=fld1 Tryz.underlying34 q15 (i:=0) rfl c1 (v:=i) rfl
 obtain ⟨n18,f18,_,wf18⟩:=DataW.trod_int Tryz.underlying3 v0
 obtain ⟨_,_,v1⟩:=fld1 Tryz.underlying34 q15 (i:=1) rfl c22 (v:=f) rfl
 obtain ⟨_,n19,t19,s19⟩:=sl22 v1
 cases e0;cases e1;cases e2;cases e3;cases e4;cases e5;cases e9;cases e12;cases e16;cases f0;cases f1;cases f2;cases f3;cases f18
 refine ⟨⟨n0,n1,n2,n3,n4,n5,n9,r,n12,o,k0,k1,k2,k3,mo,n18,n16,t6,t7,t8,t11,t17,t19⟩,⟨_,_,_,_,_,_⟩,⟨n6,n7,n8,n11,n17,n19⟩,?_,⟨s6,s7,s8,s11,s17,s19⟩,⟨t10,t13,t4⟩,⟨we0,we1,we2,we3,we4,we5,we9,wf0,wf1,wf2,wf3,wf18,we16⟩⟩
 simp only [List.map_append,List.map_cons,List.map_nil,t10.clean,t13.clean,t4.clean]
 rfl
end
end Go.Proofs.YtjghlcdidopcpaaGreatDoor

namespace Go.Proofs.YtjghlcdidopcpaaGreatDoor
open Go Go.Abs
open Go.ChangeShapes Go.WideShapes Go.ChangeAt Go.RowKit
@[ext] structure ei where
  inc:Nat
  st:Nat
@[ext] structure bR where
  kind:Nat
  obj:List Nat
  cM:Int
  inc:Nat
  num:Nat
  held:Bool
  k:Int
  n:Int
@[ext] structure aV where
  kind:Nat
  from_:Int
  to_:Int
  seq:Nat
  origin:Int
  target:Int
  count:Int
  root:List Nat
  want:Bool
  obj:List Nat
  gk:Int
  gn:Int
  gt:Int
  gs:Int
  cF:List Nat
  cY:Int
  code:Int
  table:List ei
  low:List Nat
  high:List Nat
  cR:List bR
  pieces:List (List Nat)
  data:List Nat
abbrev bY (l:List Nat):List Value:=l.map u8
def dv (m:ei):List Value := [.int .u64 (m.inc:Int),.int .u8 (m.st:Int)]
def recC (r:bR):List Value := .int .u8 (r.kind:Int)::(bY r.obj ++ [.int .i64 r.cM,.int .u64 (r.inc:Int),.int .u64 (r.num:Int),.bool r.held,.int .i64 r.k,.int .i64 r.n])
def aV.d (m:aV):bI:=⟨m.kind,m.from_,m.to_,m.seq,m.origin,m.target,m.count,bY m.root,m.want,bY m.obj,m.gk,m.gn,m.gt,m.gs,bY m.cF,m.cY,m.code,m.table.flatMap dv,bY m.low,bY m.high,m.cR.flatMap recC,m.pieces.flatMap bY,bY m.data⟩
def aV.n (m:aV):N6:=⟨m.table.length,m.low.length,m.high.length,m.cR.length,m.pieces.length,m.data.length⟩
def I64 (n:Int):Prop := -9223372036854775808≤n∧n≤9223372036854775807
def Bys (l:List Nat):Prop := ∀ x∈l,x<256
def D32 (l:List Nat):Prop:=l.length=32∧Bys l
structure ei.Wf (m:ei):Prop where
 inc:m.inc<18446744073709551616
 st:m.st<256
structure bR.Wf (r:bR):Prop where
 kind:r.kind<256
 obj:D32 r.obj
 cM:I64 r.cM
 inc:r.inc<18446744073709551616
 num:r.num<18446744073709551616
 k:I64 r.k
 n:I64 r.n
structure aV.Wf (m:aV):Prop where
 kind:m.kind<256
 from_:I64 m.from_
 to_:I64 m.to_
 seq:m.seq<18446744073709551616
 origin:I64 m.origin
 target:I64 m.target
 count:I64 m.count
 root:D32 m.root
 obj:D32 m.obj
 gk:I64 m.gk
 gn:I64 m.gn
 gt:I64 m.gt
 gs:I64 m.gs
 cF:D32 m.cF
 cY:I64 m.cY
 code:I64 m.code
 table : ∀ x∈m.table,x.Wf
 low:Bys m.low
 high:Bys m.high
 cR : ∀ x∈m.cR,x.Wf
 pieces : ∀ x∈m.pieces,D32 x
 data:Bys m.data
theorem wf_i64 {n:Int}:(Lit.int .i64 n).wf=true↔I64 n:=by
 unfold I64
 simp [Lit.wf,IntKind.min,IntKind.max,IntKind.signed,IntKind.bits]
theorem wf_u64 {n:Int} (h:(Lit.int .u64 n).wf=true) : ∃ m:Nat,n=m∧m<18446744073709551616:=by
 simp [Lit.wf,IntKind.min,IntKind.max,IntKind.signed,IntKind.bits] at h
 exact ⟨n.toNat,by omega,by omega⟩
theorem wf_u64' {m:Nat} (h:m<18446744073709551616):(Lit.int .u64 (m:Int)).wf=true:=by
 simp [Lit.wf,IntKind.min,IntKind.max,IntKind.signed,IntKind.bits]
 omega
theorem dig_of {xs:List Value} (h:Typed ew xs) : ∃ l,xs=bY l∧D32 l:=by
 have hl:xs.length=32:=h.1
 have key : ∀ n,n≤32 → ∃ l:List Nat,xs.take n=bY l∧l.length=n∧Bys l:=by
  intro n
  induction n with
  |zero=>exact fun _=>⟨[],rfl,rfl,fun x hx=>by cases hx⟩
  |succ n ih=>
   intro hn
   obtain ⟨l,h1,h2,h3⟩:=ih (by omega)
   obtain ⟨m,h4,h5⟩:=dig_get h (i:=n) (by omega)
   refine ⟨l ++ [m],?_,by simp [h2],fun x hx => ?_⟩
   ·rw [List.take_add_one,h1,h4]
    simp [bY]
   ·rcases List.mem_append.1 hx with hx|hx
    ·exact h3 x hx
    ·simp only [List.mem_cons,List.not_mem_nil,or_false] at hx
     subst hx;exact h5
 obtain ⟨l,h1,h2,h3⟩:=key 32 (Nat.le_refl _)
 rw [List.take_of_length_le (by omega)] at h1
 exact ⟨l,h1,h2,h3⟩
theorem eo {l:List Nat} (h:D32 l):Typed ew (bY l):=by
 refine ⟨by rw [List.length_map];exact h.1,fun j k hk => ?_⟩
 have hj:j<32:=by
  have:=(List.getElem?_eq_some_iff.1 hk).1
  simpa [ew] using this
 unfold ew at hk
 rw [List.getElem?_replicate,if_pos hj] at hk
 cases hk
 have hj':j<l.length:=by rw [h.1];exact hj
 exact ⟨_,by rw [List.getElem?_map,List.getElem?_eq_getElem hj'];rfl,_,rfl,h.2 _ (List.getElem_mem hj')⟩
theorem mem_of {xs:List Value} (h:Typed memK xs) : ∃ m,xs=dv m∧m.Wf:=by
 have hl:xs.length=2:=h.1
 match xs,hl with
 | [v,w],_=>
   obtain ⟨_,h1,a,rfl,wa⟩:=h.2 0 (.i .u64) rfl
   obtain ⟨_,h2,b,rfl,hb⟩:=h.2 1 .u8 rfl
   cases h1;cases h2
   obtain ⟨m,rfl,hm⟩:=wf_u64 wa
   exact ⟨⟨m,b⟩,rfl,hm,hb⟩
theorem mem_typed {m:ei} (h:m.Wf):Typed memK (dv m):=
 (Typed.one (k := .i .u64) ⟨_,rfl,wf_u64' h.inc⟩).app (Typed.one (k := .u8) ⟨_,rfl,h.st⟩)
theorem rec_of {xs:List Value} (h:Typed recK xs) : ∃ r,xs=recC r∧r.Wf:=by
 obtain ⟨a,o,b,c,d,e,f,g,rfl,ho,ha,wb,wc,wd,wf,wg⟩:=rec_form h
 obtain ⟨l,rfl,hl⟩:=dig_of ho
 obtain ⟨c,rfl,hc⟩:=wf_u64 wc
 obtain ⟨d,rfl,hd⟩:=wf_u64 wd
 exact ⟨⟨a,l,b,c,d,e,f,g⟩,rfl,ha,hl,wf_i64.1 wb,hc,hd,wf_i64.1 wf,wf_i64.1 wg⟩
theorem rec_typed {r:bR} (h:r.Wf):Typed recK (recC r):=
 (Typed.one (k := .u8) ⟨_,rfl,h.kind⟩).app ((eo h.obj).app ((Typed.one (k := .i .i64) ⟨_,rfl,wf_i64.2 h.cM⟩).app ((Typed.one (k := .i .u64) ⟨_,rfl,wf_u64' h.inc⟩).app ((Typed.one (k := .i .u64) ⟨_,rfl,wf_u64' h.num⟩).app
  ((Typed.one (k := .b) ⟨_,rfl⟩).app ((Typed.one (k := .i .i64) ⟨_,rfl,wf_i64.2 h.k⟩).app (Typed.one (k := .i .i64) ⟨_,rfl,wf_i64.2 h.n⟩)))))))
theorem list_of {ks:List Kd} {α:Type} {f:α→List Value} {P:α→Prop} (hf : ∀ xs,Typed ks xs → ∃ a,xs=f a∧P a) : ∀ (n:Nat) (cs:List Value),dS ks n cs → ∃ l:List α,l.length=n∧cs=l.flatMap f ∧ ∀ a∈l,P a
 | 0,cs,h=>⟨[],rfl,by
   have:cs.length=0:=by rw [h.1,Nat.zero_mul]
   exact List.length_eq_zero_iff.1 this,fun a ha=>by cases ha⟩
 |n+1,cs,h=>by
  have hl:cs.length=(n+1)*ks.length:=h.1
  have h0:=h.2 0 (by omega)
  rw [Nat.zero_mul,List.drop_zero] at h0
  obtain ⟨a,ha,pa⟩:=hf _ h0
  have hl2:(cs.drop ks.length).length=n*ks.length:=by rw [List.length_drop,hl,Nat.add_mul];omega
  obtain ⟨l,q1,q2,q3⟩:=list_of hf n (cs.drop ks.length) ⟨hl2,fun i hi=>by
   have:=h.2 (i+1) (by omega)
   rw [List.drop_drop,show ks.length+i*ks.length=(i+1)*ks.length by rw [Nat.add_mul];omega]
   exact this⟩
  refine ⟨a::l,by simp [q1],?_,fun b hb => ?_⟩
  ·rw [List.flatMap_cons,←ha,←q2,List.take_append_drop]
  ·rcases List.mem_cons.1 hb with rfl|hb
   ·exact pa
   ·exact q3 b hb
theorem eO {ks:List Kd} {α:Type} {f:α→List Value} {P:α→Prop} (hf : ∀ a,P a→Typed ks (f a)) : ∀ (l:List α),(∀ a∈l,P a)→dS ks l.length (l.flatMap f)
 | [],_=>⟨by simp,fun i hi=>absurd hi (Nat.not_lt_zero i)⟩
 |a::l,h=>by
  have ih:=eO hf l (fun b hb=>h b (List.mem_cons_of_mem _ hb))
  have ha:=hf a (h a (List.mem_cons_self ..))
  have hl:(f a).length=ks.length:=ha.1
  refine ⟨by rw [List.flatMap_cons,List.length_append,ih.1,hl,List.length_cons,Nat.add_mul];omega,fun i hi => ?_⟩
  rw [List.flatMap_cons]
  cases i with
  |zero=>rw [Nat.zero_mul,List.drop_zero,←hl,List.take_left];exact ha
  |succ i=>
   have hi':i<l.length:=by simpa using hi
   rw [show (i+1)*ks.length=(f a).length+i*ks.length by rw [Nat.add_mul,hl];omega,List.drop_length_add_append]
   exact ih.2 i hi'
theorem byte_of {xs:List Value} (h:Typed [.u8] xs) : ∃ b:Nat,xs = [u8 b]∧b<256:=by
 have hl:xs.length=1:=h.1
 match xs,hl with
 | [v],_=>
   obtain ⟨_,h1,a,rfl,ha⟩:=h.2 0 .u8 rfl
   cases h1
   exact ⟨a,rfl,ha⟩
theorem flat_one (l:List Nat):l.flatMap (fun b => [u8 b])=bY l:=by
 induction l with
 |nil=>rfl
 |cons x l ih=>rw [List.flatMap_cons,ih];rfl
theorem bytes_of_typed {n:Nat} {cs:List Value} (h:dS [.u8] n cs) : ∃ l:List Nat,l.length=n∧cs=bY l∧Bys l:=by
 obtain ⟨l,h1,h2,h3⟩:=list_of (f:=fun b => [u8 b]) (P:=fun b=>b<256) (fun xs hx=>byte_of hx) n cs h
 exact ⟨l,h1,by rw [h2,flat_one],h3⟩
theorem bytes_typed {l:List Nat} (h:Bys l):dS [.u8] l.length (bY l):=by
 have:=eO (ks := [.u8]) (f:=fun b => [u8 b]) (P:=fun b=>b<256) (fun b hb=>Typed.one (k := .u8) ⟨b,rfl,hb⟩) l h
 rwa [flat_one] at this
theorem aV.ok {m:aV} (h:m.Wf):m.d.Ok:=⟨eo h.root,eo h.obj,eo h.cF⟩
theorem msg_of {h:ai} {s:dy} {n:N6} {M:bI} (x:SlV h s n M) (ok:M.Ok) (rg:M.Rng) : ∃ m:aV,m.d=M∧m.n=n∧m.Wf:=by
 obtain ⟨kd,fr,to,sq,og,tg,ct,rt,wt,ob,gk,gn,gt,gs,mo,pi,co,tb,lo,hi,rc,pc,da⟩:=M
 obtain ⟨n1,n2,n3,n4,n5,n6⟩:=n
 obtain ⟨kd,rfl,hk⟩:=u8_lit rg.kind
 obtain ⟨sq,rfl,hs⟩:=wf_u64 rg.seq
 obtain ⟨rt,rfl,hrt⟩:=dig_of ok.root
 obtain ⟨ob,rfl,hob⟩:=dig_of ok.obj
 obtain ⟨mo,rfl,hmo⟩:=dig_of ok.cF
 obtain ⟨tb,rfl,rfl,htb⟩:=list_of (f:=dv) (P:=ei.Wf) (fun xs hx=>mem_of hx) _ _ x.a.typed
 obtain ⟨lo,rfl,rfl,hlo⟩:=bytes_of_typed x.b.typed
 obtain ⟨hi,rfl,rfl,hhi⟩:=bytes_of_typed x.c.typed
 obtain ⟨rc,rfl,rfl,hrc⟩:=list_of (f:=recC) (P:=bR.Wf) (fun xs hx=>rec_of hx) _ _ x.d.typed
 obtain ⟨pc,rfl,rfl,hpc⟩:=list_of (f:=bY) (P:=D32) (fun xs hx=>dig_of hx) _ _ x.e.typed
 obtain ⟨da,rfl,rfl,hda⟩:=bytes_of_typed x.f.typed
 exact ⟨⟨kd,fr,to,sq,og,tg,ct,rt,wt,ob,gk,gn,gt,gs,mo,pi,co,tb,lo,hi,rc,pc,da⟩,rfl,rfl,hk,wf_i64.1 rg.from_,wf_i64.1 rg.to_,hs,wf_i64.1 rg.origin,wf_i64.1 rg.target,wf_i64.1 rg.count,hrt,hob,wf_i64.1 rg.gk,wf_i64.1 rg.gn,wf_i64.1 rg.gt,wf_i64.1 rg.gs,hmo,wf_i64.1 rg.cY,wf_i64.1 rg.code,htb,hlo,hhi,hrc,hpc,hda⟩
theorem u8s_inj {a b:List Nat} (h:bY a=bY b):a=b:=List.map_inj_right (fun x y e=>by have e:(Value.int .u8 (x:Int)) = .int .u8 (y:Int):=e;simp only [Value.int.injEq,true_and] at e;omega) |>.1 h
theorem flat_inj {α:Type} {f:α→List Value} {P:α→Prop} {z:Nat} (hz:0<z) (hl : ∀ a,P a→(f a).length=z) (hi : ∀ a b,P a→P b→f a=f b→a=b) : ∀ (l l':List α),(∀ a∈l,P a)→(∀ a∈l',P a)→l.flatMap f=l'.flatMap f→l=l'
 | [],[],_,_,_=>rfl
 | [],b::l',_,h2,e=>by
   have:=congrArg List.length e
   rw [List.flatMap_cons,List.length_append,hl b (h2 b (List.mem_cons_self ..))] at this
   simp at this
   omega
 |a::l,[],h1,_,e=>by
  have:=congrArg List.length e
  rw [List.flatMap_cons,List.length_append,hl a (h1 a (List.mem_cons_self ..))] at this
  simp at this
  omega
 |a::l,b::l',h1,h2,e=>by
  rw [List.flatMap_cons,List.flatMap_cons] at e
  have pa:=h1 a (List.mem_cons_self ..)
  have pb:=h2 b (List.mem_cons_self ..)
  obtain ⟨e1,e2⟩:=List.append_inj e (by rw [hl a pa,hl b pb])
  rw [hi a b pa pb e1,flat_inj hz hl hi l l' (fun x hx=>h1 x (List.mem_cons_of_mem _ hx)) (fun x hx=>h2 x (List.mem_cons_of_mem _ hx)) e2]
theorem memC_inj {a b:ei} (h:dv a=dv b):a=b:=by
 unfold dv at h
 simp only [List.cons.injEq,Value.int.injEq,true_and,and_true] at h
 exact ei.ext (by omega) (by omega)
theorem recC_inj {a b:bR} (ha:a.obj.length=32) (hb:b.obj.length=32) (h:recC a=recC b):a=b:=by
 unfold recC at h
 rw [List.cons.injEq] at h
 obtain ⟨h1,h2⟩:=h
 obtain ⟨h3,h4⟩:=List.append_inj h2 (by simp [bY,ha,hb])
 simp only [List.cons.injEq,Value.int.injEq,Value.bool.injEq,true_and,and_true] at h1 h4
 obtain ⟨q1,q2,q3,q4,q5,q6⟩:=h4
 exact bR.ext (by omega) (u8s_inj h3) q1 (by omega) (by omega) q4 q5 q6
theorem aV.d_inj {a b:aV} (wa:a.Wf) (wb:b.Wf) (h:a.d=b.d):a=b:=by
 unfold aV.d at h
 rw [bI.mk.injEq] at h
 obtain ⟨h1,h2,h3,h4,h5,h6,h7,h8,h9,h10,h11,h12,h13,h14,h15,h16,h17,h18,h19,h20,h21,h22,h23⟩:=h
 exact aV.ext (by omega) h2 h3 (by omega) h5 h6 h7 (u8s_inj h8) h9 (u8s_inj h10) h11 h12 h13 h14 (u8s_inj h15) h16 h17
  (flat_inj (P:=fun _=>True) (z:=2) (by decide) (fun _ _=>rfl) (fun _ _ _ _ e=>memC_inj e) _ _ (fun _ _=>trivial) (fun _ _=>trivial) h18) (u8s_inj h19) (u8s_inj h20)
  (flat_inj (P:=bR.Wf) (z:=39) (by decide) (fun r hr=>by unfold recC bY;simp [hr.obj.1]) (fun _ _ ha hb e=>recC_inj ha.obj.1 hb.obj.1 e) _ _ wa.cR wb.cR h21)
  (flat_inj (P:=D32) (z:=32) (by decide) (fun l hl=>by simp [bY,hl.1]) (fun _ _ _ _ e=>u8s_inj e) _ _ wa.pieces wb.pieces h22) (u8s_inj h23)
end Go.Proofs.YtjghlcdidopcpaaGreatDoor

namespace Go.Proofs.YtjghlcdidopcpaaGreatDoor
open Go Go.Abs
attribute [local congr] bp
theorem eql_bool (a b:Bool):bin Tryz.prog .eql 4 (.bool a) (.bool b)=some (.bool (a==b)):=by cases a<;>cases b<;>kernel_rfl
theorem aT (C:av) (f:Nat) (args:List Value) (h:ai):callA Tryz.prog C (.func (.func f) #[] #[]) args h=C f args h:=by
 simp [callA]
abbrev mv (m:aV) (s:dy):Value := .agg (m.d.cells s).toArray
abbrev gv (m:aV) (s:dy):Value := .agg (m.d.eE s).toArray
structure Has (h:ai) (s:dy) (m:aV):Prop where
 sl:SlV h s m.n m.d
 wf:m.Wf
theorem Has.bG {h h':ai} {s:dy} {m:aV} (x:Has h s m) (o:Old h h'):Has h' s m:=⟨x.sl.bG o,x.wf⟩
theorem Has.cD {h h':ai} {s:dy} {m:aV} (x:Has h s m) {B:Nat→Prop} (k:Kept h h' B) (hB:s.off B):Has h' s m:=⟨x.sl.cD k hB,x.wf⟩
structure MLd (h:ai) (b:Nat) (s:dy) (m:aV):Prop where
 l0:aR (ptr b 0) h=some (.int .u8 (m.kind:Int),h)
 l1:aR (ptr b 1) h=some (.int .i64 m.from_,h)
 l2:aR (ptr b 2) h=some (.int .i64 m.to_,h)
 l3:aR (ptr b 3) h=some (.int .u64 (m.seq:Int),h)
 l4:aR (ptr b 4) h=some (.int .i64 m.origin,h)
 l5:aR (ptr b 5) h=some (.int .i64 m.target,h)
 l6:aR (ptr b 6) h=some (s.a,h)
 l7:aR (ptr b 7) h=some (s.b,h)
 l8:aR (ptr b 8) h=some (s.c,h)
 l9:aR (ptr b 9) h=some (.int .i64 m.count,h)
 bZ:cq 32 (ptr b 10) h=some (.agg (bY m.root).toArray,h)
 bO:aR (ptr b 42) h=some (s.d,h)
 bV:aR (ptr b 43) h=some (.bool m.want,h)
 bX:cq 32 (ptr b 44) h=some (.agg (bY m.obj).toArray,h)
 bU:cq 37 (ptr b 76) h=some (gv m s,h)
 l112:aR (ptr b 112) h=some (s.e,h)
 aX:aR (ptr b 113) h=some (.int .i64 m.cY,h)
 aU:aR (ptr b 114) h=some (s.f,h)
 ba:aR (ptr b 115) h=some (.int .i64 m.code,h)
 all:cq 116 (ptr b 0) h=some (mv m s,h)
 g:h.get b=some (m.d.cells s)
theorem c9 {h h0:ai} {b:Nat} {s:dy} {m:aV} (x:Has h0 s m) (g:h.get b=some (m.d.cells s)):MLd h b s m:=by
 have A:=msg_ld x.sl (aV.ok x.wf) g
 exact ⟨A.l0,A.l1,A.l2,A.l3,A.l4,A.l5,A.l6,A.l7,A.l8,A.l9,A.bZ,A.bO,A.bV,A.bX,A.bU,A.l112,A.aX,A.aU,A.ba,A.all,g⟩
theorem fk {h:ai} {s:dy} {m:aV} (x:Has h s m) : ∃ h1,box (mv m s) h=some (ptr h.next 0,h1)∧Old h h1∧Has h1 s m∧MLd h1 h.next s m∧h1.next=h.next+1∧h1=h.alloc (m.d.cells s):=by
 have o1:Old h (h.alloc (m.d.cells s)):=Kept.alloc _ _ _
 have g1:(h.alloc (m.d.cells s)).get h.next=some (m.d.cells s):=by rw [ai.aO,if_pos rfl]
 exact ⟨_,dN h _ (cH x.sl (aV.ok x.wf)).2.1,o1,x.bG o1,c9 (x.bG o1) g1,rfl,rfl⟩
theorem Has.len {h:ai} {s:dy} {m:aV} (x:Has h s m):bC s.a=some (aH m.table.length)∧bC s.b=some (aH m.low.length)∧bC s.c=some (aH m.high.length)∧bC s.d=some (aH m.cR.length)∧bC s.e=some (aH m.pieces.length)∧bC s.f=some (aH m.data.length):=
 ⟨x.sl.a.len,x.sl.b.len,x.sl.c.len,x.sl.d.len,x.sl.e.len,x.sl.f.len⟩
def peerB (i:Int):Bool:=decide (i≥0)&&decide (i<16)
def sizesB (k n t:Int):Bool:=decide (1≤k)&&decide (k≤n)&&decide (n≤t)&&decide (t≤255)
def memB (m:ei):Bool:=decide ((m.st:Int)≤4)&&(((m.inc:Int)==0)==((m.st:Int)==0))
def tableB (t:List ei):Bool:=decide ((t.length:Int)≥1)&&decide ((t.length:Int)≤16) && !(t.any fun m => !memB m)
def holderB (r:bR):Bool:=decide (r.cM≥0)&&decide (r.cM<16)&&decide ((r.inc:Int)≥1)
def z32:List Nat:=List.replicate 32 0
def bR.z:bR:=⟨0,z32,0,0,0,false,0,0⟩
deriving instance DecidableEq for bR
def bR.base (r:bR):bR:={ bR.z with kind:=r.kind,cM:=r.cM,inc:=r.inc }
def bR.grave (r:bR):bR:={ bR.z with kind:=r.kind,obj:=r.obj }
def pieceB (r:bR):Bool:=holderB r&&decide ((r.num:Int)≥1)&&decide (1≤r.k)&&decide (r.k≤r.n)&&decide (r.n≤255)
def recB (r:bR):Bool:=if (r.kind:Int)==1 then decide (r=r.base)&&holderB r else if (r.kind:Int)==2 then decide (r=r.grave) else if (r.kind:Int)==3 then pieceB r else false
def fe (m:aV):Bool := !sizesB m.gk m.gn m.gt||decide (m.gs<0)||decide (m.gs>8192)||((m.pieces.length:Int) != m.gt)
theorem is46:bF Tryz.prog 46 Tryz.f46:=⟨by kernel_rfl,by kernel_rfl,by kernel_rfl,by kernel_rfl⟩
theorem r46 {h:ai} (hG:4≤h.n0) (i:Int):CW 46 [.int .i64 i] h=some (.bool (peerB i),h):=by
 refine az is46 hG rfl ((t46_eq _ _ _).trans ?_)
 unfold t46 peerB
 cases q0:decide (i≥0) with
 |false=>simp -implicitDefEqProofs only [ah, ah, ao, au, fs, ak, Bool.false_eq_true, if_false, aK, q0, Bool.false_and]
 |true=>
 cases q1:decide (i<16) with
 |false=>simp -implicitDefEqProofs only [ah, ah, ao, au, beq_self_eq_true, al, if_true, aK, aG, q0, q1, Bool.and_false]
 |true=>
 simp -implicitDefEqProofs only [ah, ah, ao, au, beq_self_eq_true, al, if_true, aK, aG, q0, q1, Bool.and_true]
theorem is148:bF Tryz.prog 148 Tryz.f148:=⟨by kernel_rfl,by kernel_rfl,by kernel_rfl,by kernel_rfl⟩
theorem r148 {h:ai} (hG:4≤h.n0) (k n t:Int):CW 148 [.int .i64 k,.int .i64 n,.int .i64 t] h=some (.bool (sizesB k n t),h):=by
 refine az is148 hG rfl ((t148_eq _ _ _ _ _).trans ?_)
 unfold t148 sizesB
 cases q0:decide (1≤k) with
 |false=>simp -implicitDefEqProofs only [ah, ah, ao, au, fs, ak, Bool.false_eq_true, if_false, aL, q0, Bool.false_and]
 |true=>
 cases q1:decide (k≤n) with
 |false=>simp -implicitDefEqProofs only [ah, ah, ao, au, fs, beq_self_eq_true, al, ak, Bool.false_eq_true, if_false, if_true, aL, q0, q1, Bool.and_false, Bool.false_and]
 |true=>
 cases q2:decide (n≤t) with
 |false=>simp -implicitDefEqProofs only [ah, ah, ao, au, fs, beq_self_eq_true, al, ak, Bool.false_eq_true, if_false, if_true, aL, q0, q1, q2, Bool.and_true, Bool.and_false, Bool.false_and]
 |true=>
 cases q3:decide (t≤255) with
 |false=>simp -implicitDefEqProofs only [ah, ah, ao, au, beq_self_eq_true, al, if_true, aL, q0, q1, q2, q3, Bool.and_true, Bool.and_false]
 |true=>
 simp -implicitDefEqProofs only [ah, ah, ao, au, beq_self_eq_true, al, if_true, aL, q0, q1, q2, q3, Bool.and_true]
theorem is147:bF Tryz.prog 147 Tryz.f147:=⟨by kernel_rfl,by kernel_rfl,by kernel_rfl,by kernel_rfl⟩
theorem is146:bF Tryz.prog 146 Tryz.f146:=⟨by kernel_rfl,by kernel_rfl,by kernel_rfl,by kernel_rfl⟩
theorem mem_box (h:ai) (m:ei) : ∃ h1,box (.agg (dv m).toArray) h=some (ptr h.next 0,h1)∧Old h h1∧aR (ptr h.next 0) h1=some (.int .u64 (m.inc:Int),h1)∧aR (ptr h.next 1) h1=some (.int .u8 (m.st:Int),h1)∧cq 2 (ptr h.next 0) h1=some (.agg (dv m).toArray,h1):=by
 have g1:(h.alloc (dv m)).get h.next=some (dv m):=by rw [ai.aO,if_pos rfl]
 exact ⟨_,dN h _ rfl,Kept.alloc _ _ _,aW g1 rfl,aW g1 rfl,ldN_at g1 (show 0+2≤2 by omega) rfl⟩
theorem r147 {h:ai} (hG:4≤h.n0) (m:ei) : ∃ h',CW 147 [.agg (dv m).toArray] h=some (.bool (memB m),h')∧Old h h':=by
 obtain ⟨h1,b1,o1,l0,l1,-⟩:=mem_box h m
 refine ⟨h1,az is147 hG rfl ((t147_eq _ _ _).trans ?_),o1⟩
 unfold t147 memB
 cases q0:decide ((m.st:Int)≤4) with
 |false=>simp -implicitDefEqProofs only [b1, l1, ah, ao, au, fs, ak, Bool.false_eq_true, if_false, ar, Nat.zero_add, aL, q0, Bool.false_and]
 |true=>
 simp -implicitDefEqProofs only [b1, l0, l1, eql_bool, ah, ao, au, beq_self_eq_true, al, if_true, ar, Nat.zero_add, aL, aJ, q0, Bool.true_and]
theorem r146 {h:ai} (hG:4≤h.n0) (m:ei) : ∃ h',CW 146 [.agg (dv m).toArray] h=some (.bool (!memB m),h')∧Old h h':=by
 obtain ⟨h1,b1,o1,-,-,l⟩:=mem_box h m
 obtain ⟨h2,e2,o2⟩:=r147 (h:=h1) (by rw [o1.n0];exact hG) m
 refine ⟨h2,az is146 hG rfl ((t146_eq _ _ _).trans ?_),o1.trans o2⟩
 unfold t146
 simp -implicitDefEqProofs only [b1, l, e2, ah, ao, aw]
theorem is157:bF Tryz.prog 157 Tryz.f157:=⟨by kernel_rfl,by kernel_rfl,by kernel_rfl,by kernel_rfl⟩
theorem is145:bF Tryz.prog 145 Tryz.f145:=⟨by kernel_rfl,by kernel_rfl,by kernel_rfl,by kernel_rfl⟩
theorem results157:Tryz.f157.results.toList = [.tmp 4]:=by kernel_rfl
theorem b157_exit (C:av) (e:Env) (h:ai):b157_3 C 0 e h=k157_1 C e h:=rfl
def ixInv157 (h0:ai) (v:Value) (l:List ei) (k:Nat) (y:Nat→Value) (g:ai):Prop:=
 ∃ i,i+k=l.length∧y 0=v∧y 1 = .func (.func 146) #[] #[]∧y 7=aH l.length∧y 8=aH i∧Old h0 g∧(l.take i).any (fun m => !memB m)=false
def ixFin157 (h0:ai) (l:List ei) (ex:Ex) (y:Nat→Value) (g:ai):Prop:=
 Old h0 g∧((ex = .ret∧(∃ i:Nat,y 4=aH i)∧l.any (fun m => !memB m)=true)∨(ex = .exit 0∧l.any (fun m => !memB m)=false))
theorem el_flat157 {l:List ei} {i:Nat} {m:ei} (hw : ∀ x∈l,x.Wf) (hm:l[i]? = some m):el 2 (l.flatMap dv) i=dv m:=by
 have hi:=(List.getElem?_eq_some_iff.1 hm).1
 have key : ∀ (l:List ei) (i:Nat),(∀ x∈l,x.Wf)→l[i]? = some m→el 2 (l.flatMap dv) i=dv m:=by
  intro l
  induction l with
  |nil=>intro i _ h;cases h
  |cons a l ih=>
   intro i hw h
   have ha:(dv a).length=2:=(mem_typed (hw a (List.mem_cons_self ..))).1
   cases i with
   |zero=>
    cases h
    unfold el
    rw [Nat.zero_mul,List.drop_zero,List.flatMap_cons,←ha,List.take_left]
   |succ i=>
    have h:l[i]? = some m:=h
    have:=ih i (fun x hx=>hw x (List.mem_cons_of_mem _ hx)) h
    unfold el at this ⊢
    rw [List.flatMap_cons,show (i+1)*2=(dv a).length+i*2 by rw [Nat.add_mul,ha];omega,List.drop_length_add_append]
    exact this
 exact key l i hw hm
theorem ixRound157 {h0:ai} {v:Value} {l:List ei} (hG:4≤h0.n0) (x:cO h0 memK v l.length (l.flatMap dv)) (hw : ∀ x∈l,x.Wf) (hl:l.length≤1000000) : ∀ k y g,ixInv157 h0 v l k y g→dC 19 (ixInv157 h0 v l) (ixFin157 h0 l) k (t157l157_1010 CW y g):=by
 rintro k y g ⟨i,hik,y0,y1,y7,y8,o,ha⟩
 unfold t157l157_1010
 by_cases hi:i<l.length
 ·obtain ⟨b,q,kb,_,a1,_,_,_,a2,_⟩:=(x.bG o).at hi
  obtain ⟨m,hm⟩ : ∃ m,l[i]? = some m:=⟨l[i],List.getElem?_eq_getElem hi⟩
  have a1:bW 2 v (aH i)=some (ptr b (q+i*2)):=a1
  have a2:cq 2 (ptr b (q+i*2)) g=some (.agg (el 2 (l.flatMap dv) i).toArray,g):=a2
  rw [el_flat157 hw hm] at a2
  obtain ⟨g',e,o'⟩:=r146 (h:=g) (by rw [o.n0];exact hG) m
  have hs:(l.take (i+1)).any (fun m => !memB m) = !memB m:=by
   rw [List.take_add_one,hm,List.any_append,ha]
   simp
  simp -implicitDefEqProofs only [y8,y7,eu,y0,y1,decide_eq_true hi,ah,ao,a1,a2,aT,e]
  cases hp:memB m with
  |true=>
   simp -implicitDefEqProofs only [Bool.not_true, ah, ao, add31 (show i+1≤9223372036854775807 by omega)]
   exact dC.next (k-1) (by omega) ⟨i+1,by omega,y0,y1,y7,rfl,o.trans o',by rw [hs,hp];rfl⟩
  |false=>
   simp -implicitDefEqProofs only [Bool.not_false]
   refine dC.ret ⟨o.trans o',.inl ⟨rfl,⟨i,rfl⟩,?_⟩⟩
   rw [List.any_eq_true]
   exact ⟨m,List.mem_of_getElem? hm,by rw [hp];rfl⟩
 ·simp -implicitDefEqProofs only [y8,y7,eu,decide_eq_false hi,ah,ao]
  refine dC.out 0 ⟨o,.inr ⟨rfl,?_⟩⟩
  rw [List.take_of_length_le (by omega)] at ha
  exact ha
theorem r145 {h:ai} {v:Value} {l:List ei} (hG:4≤h.n0) (x:cO h memK v l.length (l.flatMap dv)) (hw : ∀ x∈l,x.Wf) (hl:l.length≤1000000) : ∃ h',CW 145 [v,.func (.func 146) #[] #[]] h=some (.bool (l.any fun m => !memB m),h')∧Old h h':=by
 have key : ∃ j h',CW 157 [v,.func (.func 146) #[] #[]] h=some (.int .i64 j,h')∧decide (j≥0)=(l.any fun m => !memB m)∧Old h h':=by
  have k2 : ∃ j h',t157 CW v (.func (.func 146) #[] #[]) h=some (.int .i64 j,h')∧decide (j≥0)=(l.any fun m => !memB m)∧Old h h':=by
   unfold t157
   simp -implicitDefEqProofs only [ah,x.len,ao]
   refine cC (Q:=fun o:Out => ∃ j h',o=some (Value.int .i64 j,h')∧decide (j≥0)=(l.any fun m => !memB m)∧Old h h') (cx (t157l157_1010_eq CW) (ixRound157 hG x hw hl) l.length (by have:rounds=18446744073709551616:=rfl;omega)
    ⟨0,Nat.zero_add _,rfl,rfl,rfl,rfl,Kept.refl _ _,rfl⟩) ?_
   rintro ex z g ⟨o,⟨rfl,⟨i,z4⟩,ha⟩|⟨rfl,ha⟩⟩
   ·rw [eg,fP (t:=4) results157 (by decide),z4]
    exact ⟨i,g,rfl,by rw [ha];exact decide_eq_true (by omega),o⟩
   ·simp -implicitDefEqProofs only [bJ,b157_exit,t157k157_1_eq]
    unfold t157k157_1
    exact ⟨-1,g,rfl,by rw [ha];rfl,o⟩
  obtain ⟨j,h',e1,e2,e3⟩:=k2
  exact ⟨j,h',az is157 hG rfl ((t157_eq _ _ _ _).trans e1),e2,e3⟩
 obtain ⟨j,h',e1,e2,e3⟩:=key
 refine ⟨h',az is145 hG rfl ((t145_eq _ _ _ _).trans ?_),e3⟩
 unfold t145
 simp -implicitDefEqProofs only [ah,e1,aK,ao,e2]
theorem is151:bF Tryz.prog 151 Tryz.f151:=⟨by kernel_rfl,by kernel_rfl,by kernel_rfl,by kernel_rfl⟩
theorem is138:bF Tryz.prog 138 Tryz.f138:=⟨by kernel_rfl,by kernel_rfl,by kernel_rfl,by kernel_rfl⟩
theorem is137:bF Tryz.prog 137 Tryz.f137:=⟨by kernel_rfl,by kernel_rfl,by kernel_rfl,by kernel_rfl⟩
theorem bB {r:bR} (w:r.Wf):(recC r).length=39∧Abs.bw (recC r)=true∧aS (recC r)=true:=by
 have t:=rec_typed w
 exact ⟨t.1,t.all.1,t.all.2.1⟩
structure RLd (h:ai) (b:Nat) (r:bR):Prop where
 l0:aR (ptr b 0) h=some (.int .u8 (r.kind:Int),h)
 l1:cq 32 (ptr b 1) h=some (.agg (bY r.obj).toArray,h)
 l33:aR (ptr b 33) h=some (.int .i64 r.cM,h)
 l34:aR (ptr b 34) h=some (.int .u64 (r.inc:Int),h)
 l35:aR (ptr b 35) h=some (.int .u64 (r.num:Int),h)
 eY:aR (ptr b 36) h=some (.bool r.held,h)
 l37:aR (ptr b 37) h=some (.int .i64 r.k,h)
 l38:aR (ptr b 38) h=some (.int .i64 r.n,h)
 all:cq 39 (ptr b 0) h=some (.agg (recC r).toArray,h)
theorem r_ld {h:ai} {b:Nat} {r:bR} (w:r.Wf) (g:h.get b=some (recC r)):RLd h b r:=by
 have ho:(bY r.obj).length=32:=by rw [List.length_map];exact w.obj.1
 have hd:=(eo w.obj).all.1
 have at_ : ∀ i v,[Value.int .i64 r.cM,.int .u64 (r.inc:Int),.int .u64 (r.num:Int),.bool r.held,.int .i64 r.k,.int .i64 r.n][i]? = some v→(recC r)[33+i]? = some v:=fun i v e=>by
  unfold recC
  rw [show 33+i=(32+i)+1 by omega,List.getElem?_cons_succ,List.getElem?_append_right (by omega),ho,Nat.add_sub_cancel_left]
  exact e
 exact ⟨aW g rfl rfl,ldN_mid g (A := [.int .u8 (r.kind:Int)]) (B:=bY r.obj) rfl rfl ho hd,aW g (at_ 0 _ rfl) rfl,aW g (at_ 1 _ rfl) rfl,aW g (at_ 2 _ rfl) rfl,aW g (at_ 3 _ rfl) rfl,aW g (at_ 4 _ rfl) rfl,aW g (at_ 5 _ rfl) rfl,
  ldN_mid g (A := []) (B:=recC r) (C := []) (by simp) rfl (bB w).1 (bB w).2.1⟩
theorem rec_box (h:ai) {r:bR} (w:r.Wf) : ∃ h1,box (.agg (recC r).toArray) h=some (ptr h.next 0,h1)∧Old h h1∧RLd h1 h.next r:=by
 have g1:(h.alloc (recC r)).get h.next=some (recC r):=by rw [ai.aO,if_pos rfl]
 exact ⟨_,dN h _ (bB w).2.2,Kept.alloc _ _ _,r_ld w g1⟩
theorem r151 {h:ai} (hG:4≤h.n0) {r:bR} (w:r.Wf) : ∃ h',CW 151 [.agg (recC r).toArray] h=some (.bool (holderB r),h')∧Old h h':=by
 obtain ⟨h1,b1,o1,A⟩:=rec_box h w
 refine ⟨h1,az is151 hG rfl ((t151_eq _ _ _).trans ?_),o1⟩
 unfold t151 holderB
 cases q0:decide (r.cM≥0) with
 |false=>simp -implicitDefEqProofs only [b1, A.l33, ah, ao, au, fs, ak, Bool.false_eq_true, if_false, ar, Nat.zero_add, aK, q0, Bool.false_and]
 |true=>
 cases q1:decide (r.cM<16) with
 |false=>simp -implicitDefEqProofs only [b1, A.l33, ah, ao, au, fs, beq_self_eq_true, al, ak, Bool.false_eq_true, if_false, if_true, ar, Nat.zero_add, aK, aG, q0, q1, Bool.and_false, Bool.false_and]
 |true=>
 cases q2:decide ((r.inc:Int)≥1) with
 |false=>simp -implicitDefEqProofs only [b1, A.l33, A.l34, ah, ao, au, beq_self_eq_true, al, if_true, ar, Nat.zero_add, aK, aG, q0, q1, q2, Bool.and_true, Bool.and_false]
 |true=>
 simp -implicitDefEqProofs only [b1, A.l33, A.l34, ah, ao, au, beq_self_eq_true, al, if_true, ar, Nat.zero_add, aK, aG, q0, q1, q2, Bool.and_true]
theorem splice_app {A B C B':List Value} {o n:Nat} (hA:A.length=o) (hB:B.length=n) (hB':B'.length=n):bA (A++(B++C)) o B'=A++(B'++C):=by
 subst hA
 unfold bA
 rw [List.take_left,hB',List.append_assoc,←hB,←List.length_append,←List.append_assoc A B C,List.drop_left]
theorem fG {z A B C B':List Value} {o n:Nat} {rest:List (Nat×Nat×Value)} (e:z=A++(B++C)) (hA:A.length=o) (hB:B.length=n) (hB':B'.length=n):cU z ((o,n,.agg B'.toArray)::rest)=cU (A++(B'++C)) rest:=by
 subst e
 have hc:(Value.agg B'.toArray).cells=B'.toArray:=rfl
 simp only [cU,hc,List.size_toArray,hB']
 rw [if_pos (by
  have:o+n≤(A++(B++C)).length:=by rw [List.length_append,List.length_append,hA,hB];omega
  simp only [decide_eq_true this]
  simp),splice_app hA hB hB']
theorem eK:I64 0:=⟨by decide,by decide⟩
theorem base_wf {r:bR} (w:r.Wf):r.base.Wf:=⟨w.kind,⟨rfl,fun x hx=>by
 have:=List.eq_of_mem_replicate hx
 omega⟩,w.cM,w.inc,by show (0:Nat)<_;omega,eK,eK⟩
theorem grave_wf {r:bR} (w:r.Wf):r.grave.Wf:=⟨w.kind,w.obj,eK,by show (0:Nat)<_;omega,by show (0:Nat)<_;omega,eK,eK⟩
theorem bld_base (r:bR):cQ [(.int .u8 0),(.int .u8 0),(.int .u8 0),(.int .u8 0),(.int .u8 0),(.int .u8 0),(.int .u8 0),(.int .u8 0),(.int .u8 0),(.int .u8 0),(.int .u8 0),(.int .u8 0),(.int .u8 0),(.int .u8 0),(.int .u8 0),(.int .u8 0),(.int .u8 0),(.int .u8 0),(.int .u8 0),(.int .u8 0),(.int .u8 0),(.int .u8 0),(.int .u8 0),(.int .u8 0),(.int .u8 0),(.int .u8 0),(.int .u8 0),(.int .u8 0),(.int .u8 0),(.int .u8 0),(.int .u8 0),(.int .u8 0),(.int .u8 0),(.int .i64 0),(.int .u64 0),(.int .u64 0),(.bool false),(.int .i64 0),(.int .i64 0)] [(0,1,.int .u8 (r.kind:Int)),(33,1,.int .i64 r.cM),(34,1,.int .u64 (r.inc:Int))]=some (.agg (recC r.base).toArray):=rfl
theorem bld_grave {r:bR} (w:r.Wf):cQ [(.int .u8 0),(.int .u8 0),(.int .u8 0),(.int .u8 0),(.int .u8 0),(.int .u8 0),(.int .u8 0),(.int .u8 0),(.int .u8 0),(.int .u8 0),(.int .u8 0),(.int .u8 0),(.int .u8 0),(.int .u8 0),(.int .u8 0),(.int .u8 0),(.int .u8 0),(.int .u8 0),(.int .u8 0),(.int .u8 0),(.int .u8 0),(.int .u8 0),(.int .u8 0),(.int .u8 0),(.int .u8 0),(.int .u8 0),(.int .u8 0),(.int .u8 0),(.int .u8 0),(.int .u8 0),(.int .u8 0),(.int .u8 0),(.int .u8 0),(.int .i64 0),(.int .u64 0),(.int .u64 0),(.bool false),(.int .i64 0),(.int .i64 0)] [(0,1,.int .u8 (r.kind:Int)),(1,32,.agg (bY r.obj).toArray)]=some (.agg (recC r.grave).toArray):=by
 have e:cU [(.int .u8 0),(.int .u8 0),(.int .u8 0),(.int .u8 0),(.int .u8 0),(.int .u8 0),(.int .u8 0),(.int .u8 0),(.int .u8 0),(.int .u8 0),(.int .u8 0),(.int .u8 0),(.int .u8 0),(.int .u8 0),(.int .u8 0),(.int .u8 0),(.int .u8 0),(.int .u8 0),(.int .u8 0),(.int .u8 0),(.int .u8 0),(.int .u8 0),(.int .u8 0),(.int .u8 0),(.int .u8 0),(.int .u8 0),(.int .u8 0),(.int .u8 0),(.int .u8 0),(.int .u8 0),(.int .u8 0),(.int .u8 0),(.int .u8 0),(.int .i64 0),(.int .u64 0),(.int .u64 0),(.bool false),(.int .i64 0),(.int .i64 0)] [(0,1,.int .u8 (r.kind:Int)),(1,32,.agg (bY r.obj).toArray)]=cU ([.int .u8 (r.kind:Int)]++(bY z32 ++ [.int .i64 0,.int .u64 0,.int .u64 0,.bool false,.int .i64 0,.int .i64 0])) [(1,32,.agg (bY r.obj).toArray)]:=rfl
 unfold cQ
 rw [e,fG (A := [.int .u8 (r.kind:Int)]) (B:=bY z32) (o:=1) (n:=32) rfl rfl rfl (by rw [List.length_map];exact w.obj.1)]
 rfl
theorem eq_rec {a b:bR} (wa:a.Wf) (wb:b.Wf):bin Tryz.prog .eql 61 (.agg (recC a).toArray) (.agg (recC b).toArray)=some (.bool (decide (a=b))):=by
 obtain ⟨r,h1,h2,_⟩:=eq61 _ _ (rec_typed wa) (rec_typed wb)
 have hr:r=decide (a=b):=by
  by_cases e:a=b
  ·rw [decide_eq_true e,h1.2 (by rw [e])]
  ·rw [decide_eq_false e]
   cases r with
   |false=>rfl
   |true=>exact absurd (recC_inj wa.obj.1 wb.obj.1 (h1.1 rfl)) e
 rw [h2,hr]
theorem r138 {h:ai} (hG:4≤h.n0) {r:bR} (w:r.Wf) : ∃ h',CW 138 [.agg (recC r).toArray] h=some (.bool (recB r),h')∧Old h h':=by
 obtain ⟨h1,b1,o1,A⟩:=rec_box h w
 obtain ⟨h2,e2,o2⟩:=r151 (h:=h1) (by rw [o1.n0];exact hG) w
 have e3:=bld_base r
 have e4:=bld_grave w
 have e5:=eq_rec w (base_wf w)
 have e6:=eq_rec w (grave_wf w)
 unfold recB
 cases k1:(r.kind:Int)==1 with
 |true=>
  simp only [if_true]
  cases q0:decide (r=r.base) with
  |false=>
   refine ⟨h1,az is138 hG rfl ((t138_eq _ _ _).trans ?_),o1⟩
   unfold t138
   simp -implicitDefEqProofs only [b1, A.l0, A.l33, A.l34, A.all, e3, e5, k1, q0, ah, ao, au, fs, ak, Bool.false_eq_true, if_false, ar, Nat.zero_add, aJ, Bool.false_and]
  |true=>
   refine ⟨h2,az is138 hG rfl ((t138_eq _ _ _).trans ?_),o1.trans o2⟩
   unfold t138
   simp -implicitDefEqProofs only [b1, A.l0, A.l33, A.l34, A.all, e3, e5, e2, k1, q0, ah, ao, au, beq_self_eq_true, al, if_true, ar, Nat.zero_add, aJ, Bool.true_and]
 |false=>
  simp only [Bool.false_eq_true,if_false]
  cases k2:(r.kind:Int)==2 with
  |true=>
   simp only [if_true]
   refine ⟨h1,az is138 hG rfl ((t138_eq _ _ _).trans ?_),o1⟩
   unfold t138
   simp -implicitDefEqProofs only [b1, A.l0, A.l1, A.all, e4, e6, k1, k2, ah, ao, ar, Nat.zero_add, aJ]
  |false=>
   simp only [Bool.false_eq_true,if_false]
   cases k3:(r.kind:Int)==3 with
   |true=>
    simp only [if_true]
    have A2:RLd h2 h.next r:=r_ld w (Old.get o2 (by
     obtain ⟨_,b1',_⟩:=rec_box h w
     have:=dN h (recC r) (bB w).2.2
     rw [b1] at this
     cases this
     rw [ai.aO,if_pos rfl]))
    refine ⟨h2,az is138 hG rfl ((t138_eq _ _ _).trans ?_),o1.trans o2⟩
    unfold t138 pieceB
    cases q0:holderB r with
    |false=>simp -implicitDefEqProofs only [b1, A.l0, A.all, e2, k1, k2, k3, ah, ao, au, fs, ak, Bool.false_eq_true, if_false, ar, Nat.zero_add, aJ, q0, Bool.false_and]
    |true=>
    cases q1:decide ((r.num:Int)≥1) with
    |false=>simp -implicitDefEqProofs only [b1, A.l0, A.all, e2, k1, k2, k3, A2.l35, ah, ao, au, fs, beq_self_eq_true, al, ak, Bool.false_eq_true, if_false, if_true, ar, Nat.zero_add, aK, aJ, q0, q1, Bool.and_false, Bool.false_and]
    |true=>
    cases q2:decide (1≤r.k) with
    |false=>simp -implicitDefEqProofs only [b1, A.l0, A.all, e2, k1, k2, k3, A2.l35, A2.l37, ah, ao, au, fs, beq_self_eq_true, al, ak, Bool.false_eq_true, if_false, if_true, ar, Nat.zero_add, aK, aL, aJ, q0, q1, q2, Bool.and_true, Bool.and_false, Bool.false_and]
    |true=>
    cases q3:decide (r.k≤r.n) with
    |false=>simp -implicitDefEqProofs only [b1, A.l0, A.all, e2, k1, k2, k3, A2.l35, A2.l37, A2.l38, ah, ao, au, fs, beq_self_eq_true, al, ak, Bool.false_eq_true, if_false, if_true, ar, Nat.zero_add, aK, aL, aJ, q0, q1, q2, q3, Bool.and_true, Bool.and_false, Bool.false_and]
    |true=>
    cases q4:decide (r.n≤255) with
    |false=>simp -implicitDefEqProofs only [b1, A.l0, A.all, e2, k1, k2, k3, A2.l35, A2.l37, A2.l38, ah, ao, au, beq_self_eq_true, al, if_true, ar, Nat.zero_add, aK, aL, aJ, q0, q1, q2, q3, q4, Bool.and_true, Bool.and_false]
    |true=>
    simp -implicitDefEqProofs only [b1, A.l0, A.all, e2, k1, k2, k3, A2.l35, A2.l37, A2.l38, ah, ao, au, beq_self_eq_true, al, if_true, ar, Nat.zero_add, aK, aL, aJ, q0, q1, q2, q3, q4, Bool.and_true]
   |false=>
    refine ⟨h1,az is138 hG rfl ((t138_eq _ _ _).trans ?_),o1⟩
    unfold t138
    simp -implicitDefEqProofs only [b1, A.l0, k1, k2, k3, ah, ao, Bool.false_eq_true, if_false, ar, Nat.zero_add, aJ]
theorem r137 {h:ai} (hG:4≤h.n0) {r:bR} (w:r.Wf) : ∃ h',CW 137 [.agg (recC r).toArray] h=some (.bool (!recB r),h')∧Old h h':=by
 obtain ⟨h1,b1,o1,A⟩:=rec_box h w
 obtain ⟨h2,e2,o2⟩:=r138 (h:=h1) (by rw [o1.n0];exact hG) w
 refine ⟨h2,az is137 hG rfl ((t137_eq _ _ _).trans ?_),o1.trans o2⟩
 unfold t137
 simp -implicitDefEqProofs only [b1, A.all, e2, ah, ao, aw]
theorem is150:bF Tryz.prog 150 Tryz.f150:=⟨by kernel_rfl,by kernel_rfl,by kernel_rfl,by kernel_rfl⟩
theorem is136:bF Tryz.prog 136 Tryz.f136:=⟨by kernel_rfl,by kernel_rfl,by kernel_rfl,by kernel_rfl⟩
theorem results150:Tryz.f150.results.toList = [.tmp 4]:=by kernel_rfl
theorem b150_exit (C:av) (e:Env) (h:ai):b150_3 C 0 e h=k150_1 C e h:=rfl
def ixInv150 (h0:ai) (v:Value) (l:List bR) (k:Nat) (y:Nat→Value) (g:ai):Prop:=
 ∃ i,i+k=l.length∧y 0=v∧y 1 = .func (.func 137) #[] #[]∧y 7=aH l.length∧y 8=aH i∧Old h0 g∧(l.take i).any (fun m => !recB m)=false
def ixFin150 (h0:ai) (l:List bR) (ex:Ex) (y:Nat→Value) (g:ai):Prop:=
 Old h0 g∧((ex = .ret∧(∃ i:Nat,y 4=aH i)∧l.any (fun m => !recB m)=true)∨(ex = .exit 0∧l.any (fun m => !recB m)=false))
theorem el_flat150 {l:List bR} {i:Nat} {m:bR} (hw : ∀ x∈l,x.Wf) (hm:l[i]? = some m):el 39 (l.flatMap recC) i=recC m:=by
 have hi:=(List.getElem?_eq_some_iff.1 hm).1
 have key : ∀ (l:List bR) (i:Nat),(∀ x∈l,x.Wf)→l[i]? = some m→el 39 (l.flatMap recC) i=recC m:=by
  intro l
  induction l with
  |nil=>intro i _ h;cases h
  |cons a l ih=>
   intro i hw h
   have ha:(recC a).length=39:=(rec_typed (hw a (List.mem_cons_self ..))).1
   cases i with
   |zero=>
    cases h
    unfold el
    rw [Nat.zero_mul,List.drop_zero,List.flatMap_cons,←ha,List.take_left]
   |succ i=>
    have h:l[i]? = some m:=h
    have:=ih i (fun x hx=>hw x (List.mem_cons_of_mem _ hx)) h
    unfold el at this ⊢
    rw [List.flatMap_cons,show (i+1)*39=(recC a).length+i*39 by rw [Nat.add_mul,ha];omega,List.drop_length_add_append]
    exact this
 exact key l i hw hm
theorem ixRound150 {h0:ai} {v:Value} {l:List bR} (hG:4≤h0.n0) (x:cO h0 recK v l.length (l.flatMap recC)) (hw : ∀ x∈l,x.Wf) (hl:l.length≤1000000) : ∀ k y g,ixInv150 h0 v l k y g→dC 19 (ixInv150 h0 v l) (ixFin150 h0 l) k (t150l150_1010 CW y g):=by
 rintro k y g ⟨i,hik,y0,y1,y7,y8,o,ha⟩
 unfold t150l150_1010
 by_cases hi:i<l.length
 ·obtain ⟨b,q,kb,_,a1,_,_,_,a2,_⟩:=(x.bG o).at hi
  obtain ⟨m,hm⟩ : ∃ m,l[i]? = some m:=⟨l[i],List.getElem?_eq_getElem hi⟩
  have a1:bW 39 v (aH i)=some (ptr b (q+i*39)):=a1
  have a2:cq 39 (ptr b (q+i*39)) g=some (.agg (el 39 (l.flatMap recC) i).toArray,g):=a2
  rw [el_flat150 hw hm] at a2
  obtain ⟨g',e,o'⟩:=r137 (h:=g) (by rw [o.n0];exact hG) (hw m (List.mem_of_getElem? hm))
  have hs:(l.take (i+1)).any (fun m => !recB m) = !recB m:=by
   rw [List.take_add_one,hm,List.any_append,ha]
   simp
  simp -implicitDefEqProofs only [y8,y7,eu,y0,y1,decide_eq_true hi,ah,ao,a1,a2,aT,e]
  cases hp:recB m with
  |true=>
   simp -implicitDefEqProofs only [Bool.not_true, ah, ao, add31 (show i+1≤9223372036854775807 by omega)]
   exact dC.next (k-1) (by omega) ⟨i+1,by omega,y0,y1,y7,rfl,o.trans o',by rw [hs,hp];rfl⟩
  |false=>
   simp -implicitDefEqProofs only [Bool.not_false]
   refine dC.ret ⟨o.trans o',.inl ⟨rfl,⟨i,rfl⟩,?_⟩⟩
   rw [List.any_eq_true]
   exact ⟨m,List.mem_of_getElem? hm,by rw [hp];rfl⟩
 ·simp -implicitDefEqProofs only [y8,y7,eu,decide_eq_false hi,ah,ao]
  refine dC.out 0 ⟨o,.inr ⟨rfl,?_⟩⟩
  rw [List.take_of_length_le (by omega)] at ha
  exact ha
theorem r136 {h:ai} {v:Value} {l:List bR} (hG:4≤h.n0) (x:cO h recK v l.length (l.flatMap recC)) (hw : ∀ x∈l,x.Wf) (hl:l.length≤1000000) : ∃ h',CW 136 [v,.func (.func 137) #[] #[]] h=some (.bool (l.any fun m => !recB m),h')∧Old h h':=by
 have key : ∃ j h',CW 150 [v,.func (.func 137) #[] #[]] h=some (.int .i64 j,h')∧decide (j≥0)=(l.any fun m => !recB m)∧Old h h':=by
  have k2 : ∃ j h',t150 CW v (.func (.func 137) #[] #[]) h=some (.int .i64 j,h')∧decide (j≥0)=(l.any fun m => !recB m)∧Old h h':=by
   unfold t150
   simp -implicitDefEqProofs only [ah,x.len,ao]
   refine cC (Q:=fun o:Out => ∃ j h',o=some (Value.int .i64 j,h')∧decide (j≥0)=(l.any fun m => !recB m)∧Old h h') (cx (t150l150_1010_eq CW) (ixRound150 hG x hw hl) l.length (by have:rounds=18446744073709551616:=rfl;omega)
    ⟨0,Nat.zero_add _,rfl,rfl,rfl,rfl,Kept.refl _ _,rfl⟩) ?_
   rintro ex z g ⟨o,⟨rfl,⟨i,z4⟩,ha⟩|⟨rfl,ha⟩⟩
   ·rw [eg,fP (t:=4) results150 (by decide),z4]
    exact ⟨i,g,rfl,by rw [ha];exact decide_eq_true (by omega),o⟩
   ·simp -implicitDefEqProofs only [bJ,b150_exit,t150k150_1_eq]
    unfold t150k150_1
    exact ⟨-1,g,rfl,by rw [ha];rfl,o⟩
  obtain ⟨j,h',e1,e2,e3⟩:=k2
  exact ⟨j,h',az is150 hG rfl ((t150_eq _ _ _ _).trans e1),e2,e3⟩
 obtain ⟨j,h',e1,e2,e3⟩:=key
 refine ⟨h',az is136 hG rfl ((t136_eq _ _ _ _).trans ?_),e3⟩
 unfold t136
 simp -implicitDefEqProofs only [ah,e1,aK,ao,e2]
theorem is125:bF Tryz.prog 125 Tryz.f125:=⟨by kernel_rfl,by kernel_rfl,by kernel_rfl,by kernel_rfl⟩
theorem r125 {h:ai} {v:Value} {l:List ei} (hG:4≤h.n0) (x:cO h memK v l.length (l.flatMap dv)) (hw : ∀ x∈l,x.Wf) : ∃ h',CW 125 [v] h=some (.bool (tableB l),h')∧Old h h':=by
 unfold tableB
 cases q0:decide ((l.length:Int)≥1) with
 |false=>
  refine ⟨h,az is125 hG rfl ((t125_eq _ _ _).trans ?_),Kept.refl _ _⟩
  unfold t125
  simp -implicitDefEqProofs only [x.len, q0, ah, ao, au, fs, ak, Bool.false_eq_true, if_false, aK, Bool.false_and]
 |true=>
 cases q1:decide ((l.length:Int)≤16) with
 |false=>
  refine ⟨h,az is125 hG rfl ((t125_eq _ _ _).trans ?_),Kept.refl _ _⟩
  unfold t125
  simp -implicitDefEqProofs only [x.len, q0, q1, ah, ao, au, fs, beq_self_eq_true, al, ak, Bool.false_eq_true, if_false, if_true, aK, aL, Bool.and_false, Bool.false_and]
 |true=>
 have:=of_decide_eq_true q1
 obtain ⟨h1,e1,o1⟩:=r145 hG x hw (by omega)
 refine ⟨h1,az is125 hG rfl ((t125_eq _ _ _).trans ?_),o1⟩
 unfold t125
 simp -implicitDefEqProofs only [x.len, q0, q1, e1, ah, ao, au, beq_self_eq_true, al, if_true, aw, aK, aL, Bool.and_true, Bool.true_and]
theorem is131:bF Tryz.prog 131 Tryz.f131:=⟨by kernel_rfl,by kernel_rfl,by kernel_rfl,by kernel_rfl⟩
section
variable {h:ai} {s:dy} {m:aV} (hG:4≤h.n0) (x:Has h s m)
include hG x
theorem r131 : ∃ h',CW 131 [gv m s] h=some (.int .i64 (if fe m then 2 else 0),h')∧Old h h':=by
 have mo:=man_ok x.sl (aV.ok x.wf)
 have b1:=dN h (m.d.eE s) mo.2.1
 have o1:Old h (h.alloc (m.d.eE s)):=Kept.alloc _ _ _
 have g1:(h.alloc (m.d.eE s)).get h.next=some (m.d.eE s):=by rw [ai.aO,if_pos rfl]
 generalize h.alloc (m.d.eE s)=h1 at *
 have A:=man_ld (x.sl.bG o1) (aV.ok x.wf) g1
 have l0:aR (ptr h.next 0) h1=some (.int .i64 m.gk,h1):=A.l0
 have l1:aR (ptr h.next 1) h1=some (.int .i64 m.gn,h1):=A.l1
 have l2:aR (ptr h.next 2) h1=some (.int .i64 m.gt,h1):=A.l2
 have l3:aR (ptr h.next 3) h1=some (.int .i64 m.gs,h1):=A.l3
 have e1:=r148 (h:=h1) (by rw [o1.n0];exact hG) m.gk m.gn m.gt
 refine ⟨h1,az is131 hG rfl ((t131_eq _ _ _).trans ?_),o1⟩
 unfold t131 fe
 cases q0 : !sizesB m.gk m.gn m.gt with
 |true=>simp -implicitDefEqProofs only [b1, l0, l1, l2, e1, ah, ao, au, sf, ak, if_true, ar, Nat.zero_add, aw, q0, Bool.true_or]
 |false=>
 cases q1:decide (m.gs<0) with
 |true=>simp -implicitDefEqProofs only [b1, l0, l1, l2, l3, e1, ah, ao, au, sf, beq_self_eq_true, al, ak, Bool.false_eq_true, if_false, if_true, ar, Nat.zero_add, aw, aG, q0, q1, Bool.or_true, Bool.true_or]
 |false=>
 cases q2:decide (m.gs>8192) with
 |true=>simp -implicitDefEqProofs only [b1, l0, l1, l2, l3, e1, ah, ao, au, sf, beq_self_eq_true, al, ak, Bool.false_eq_true, if_false, if_true, ar, Nat.zero_add, aw, aG, aF, q0, q1, q2, Bool.or_true, Bool.true_or, Bool.or_false]
 |false=>
 cases q3:((m.pieces.length:Int) != m.gt) with
 |true=>simp -implicitDefEqProofs only [b1, l0, l1, l2, l3, A.eY, e1, x.len.2.2.2.2.1, ah, ao, au, beq_self_eq_true, al, Bool.false_eq_true, if_false, if_true, ar, Nat.zero_add, aw, aG, aF, aD, q0, q1, q2, q3, Bool.or_true, Bool.or_false]
 |false=>
 simp -implicitDefEqProofs only [b1, l0, l1, l2, l3, A.eY, e1, x.len.2.2.2.2.1, ah, ao, au, beq_self_eq_true, al, Bool.false_eq_true, if_false, ar, Nat.zero_add, aw, aG, aF, aD, q0, q1, q2, q3, Bool.or_false]
end
theorem is95:bF Tryz.prog 95 Tryz.f95:=⟨by kernel_rfl,by kernel_rfl,by kernel_rfl,by kernel_rfl⟩
theorem is111:bF Tryz.prog 111 Tryz.f111:=⟨by kernel_rfl,by kernel_rfl,by kernel_rfl,by kernel_rfl⟩
theorem is102:bF Tryz.prog 102 Tryz.f102:=⟨by kernel_rfl,by kernel_rfl,by kernel_rfl,by kernel_rfl⟩
theorem is106:bF Tryz.prog 106 Tryz.f106:=⟨by kernel_rfl,by kernel_rfl,by kernel_rfl,by kernel_rfl⟩
theorem is118:bF Tryz.prog 118 Tryz.f118:=⟨by kernel_rfl,by kernel_rfl,by kernel_rfl,by kernel_rfl⟩
def rangeB (m:aV):Bool:=decide ((m.low.length:Int)≤34)&&decide ((m.high.length:Int)≤34)&&decide (m.count≥0)&&decide (m.count≤1048576)&&decide ((m.cR.length:Int)≤64) && !(m.cR.any fun r => !recB r)
def tabB (m:aV):Bool:=peerB m.origin&&peerB m.target&&tableB m.table
def pceB (m:aV):Bool := !fe m&&decide (m.cY≥0)&&decide (m.cY<m.gt)&&decide ((m.data.length:Int)≤8192)
def codeB (m:aV):Bool:=decide (m.code≥0)&&decide (m.code≤999)
section
variable {h:ai} {s:dy} {m:aV} (hG:4≤h.n0) (x:Has h s m)
include hG x
theorem r102 : ∃ h',CW 102 [mv m s] h=some (.bool true,h')∧Old h h':=by
 obtain ⟨h1,b1,o1,-⟩:=fk x
 refine ⟨h1,az is102 hG rfl ((t102_eq _ _ _).trans ?_),o1⟩
 unfold t102
 simp -implicitDefEqProofs only [b1,ah]
theorem r118 : ∃ h',CW 118 [mv m s] h=some (.bool (codeB m),h')∧Old h h':=by
 obtain ⟨h1,b1,o1,x1,A,-⟩:=fk x
 refine ⟨h1,az is118 hG rfl ((t118_eq _ _ _).trans ?_),o1⟩
 unfold t118 codeB
 cases q0:decide (m.code≥0) with
 |false=>simp -implicitDefEqProofs only [b1, A.ba, ah, ao, au, fs, ak, Bool.false_eq_true, if_false, ar, Nat.zero_add, aK, q0, Bool.false_and]
 |true=>
 cases q1:decide (m.code≤999) with
 |false=>simp -implicitDefEqProofs only [b1, A.ba, ah, ao, au, beq_self_eq_true, al, if_true, ar, Nat.zero_add, aK, aL, q0, q1, Bool.and_false]
 |true=>
 simp -implicitDefEqProofs only [b1, A.ba, ah, ao, au, beq_self_eq_true, al, if_true, ar, Nat.zero_add, aK, aL, q0, q1, Bool.and_true]
theorem r95 : ∃ h',CW 95 [mv m s] h=some (.bool (tabB m),h')∧Old h h':=by
 obtain ⟨h1,b1,o1,x1,A,-⟩:=fk x
 have hG1:4≤h1.n0:=by rw [o1.n0];exact hG
 have e1:=r46 hG1 m.origin
 have e2:=r46 hG1 m.target
 obtain ⟨h2,e3,o2⟩:=r125 hG1 x1.sl.a x.wf.table
 unfold tabB
 cases q0:peerB m.origin with
 |false=>
  refine ⟨h1,az is95 hG rfl ((t95_eq _ _ _).trans ?_),o1⟩
  unfold t95
  simp -implicitDefEqProofs only [b1, A.l4, e1, q0, ah, ao, au, fs, ak, Bool.false_eq_true, if_false, ar, Nat.zero_add, Bool.false_and]
 |true=>
 cases q1:peerB m.target with
 |false=>
  refine ⟨h1,az is95 hG rfl ((t95_eq _ _ _).trans ?_),o1⟩
  unfold t95
  simp -implicitDefEqProofs only [b1, A.l4, A.l5, e1, e2, q0, q1, ah, ao, au, fs, beq_self_eq_true, al, ak, Bool.false_eq_true, if_false, if_true, ar, Nat.zero_add, Bool.and_false, Bool.false_and]
 |true=>
 refine ⟨h2,az is95 hG rfl ((t95_eq _ _ _).trans ?_),o1.trans o2⟩
 unfold t95
 simp -implicitDefEqProofs only [b1, A.l4, A.l5, A.l6, e1, e2, e3, q0, q1, ah, ao, au, beq_self_eq_true, al, if_true, ar, Nat.zero_add, Bool.and_true, Bool.true_and]
theorem r106 : ∃ h',CW 106 [mv m s] h=some (.bool (pceB m),h')∧Old h h':=by
 obtain ⟨h1,b1,o1,x1,A,nx,hh⟩:=fk x
 have hG1:4≤h1.n0:=by rw [o1.n0];exact hG
 obtain ⟨h2,e1,o2⟩:=r131 hG1 x1
 have g2:=Old.get o2 A.g
 have A2:=c9 (x1.bG o2) g2
 have l78:aR (ptr h.next 78) h2=some (.int .i64 m.gt,h2):=aW g2 (by
  have:=at42 (s:=s) (aV.ok x.wf)
  have hr:(bY m.root).length=32:=by rw [List.length_map];exact x.wf.root.1
  have ho:(bY m.obj).length=32:=by rw [List.length_map];exact x.wf.obj.1
  exact db 68 rfl (db 36 (by show (bY m.root).length+36=68;omega) (db 34 rfl (db 2 (by show (bY m.obj).length+2=34;omega) rfl)))) rfl
 refine ⟨h2,az is106 hG rfl ((t106_eq _ _ _).trans ?_),o1.trans o2⟩
 have hz:((if fe m then (2:Int) else 0)==0) = !fe m:=by cases fe m<;>rfl
 unfold t106 pceB
 cases q0 : !fe m with
 |false=>simp -implicitDefEqProofs only [b1, A.bU, e1, hz, ah, ao, au, fs, ak, Bool.false_eq_true, if_false, ar, Nat.zero_add, aJ, q0, Bool.false_and]
 |true=>
 cases q1:decide (m.cY≥0) with
 |false=>simp -implicitDefEqProofs only [b1, A.bU, e1, hz, A2.aX, ah, ao, au, fs, beq_self_eq_true, al, ak, Bool.false_eq_true, if_false, if_true, ar, Nat.zero_add, Nat.reduceAdd, aK, aJ, q0, q1, Bool.and_false, Bool.false_and]
 |true=>
 cases q2:decide (m.cY<m.gt) with
 |false=>simp -implicitDefEqProofs only [b1, A.bU, e1, hz, A2.aX, l78, ah, ao, au, fs, beq_self_eq_true, al, ak, Bool.false_eq_true, if_false, if_true, ar, Nat.zero_add, Nat.reduceAdd, aK, aG, aJ, q0, q1, q2, Bool.and_true, Bool.and_false, Bool.false_and]
 |true=>
 cases q3:decide ((m.data.length:Int)≤8192) with
 |false=>simp -implicitDefEqProofs only [b1, A.bU, e1, hz, A2.aX, l78, A2.aU, x.len.2.2.2.2.2, ah, ao, au, beq_self_eq_true, al, if_true, ar, Nat.zero_add, Nat.reduceAdd, aK, aL, aG, aJ, q0, q1, q2, q3, Bool.and_true, Bool.and_false]
 |true=>
 simp -implicitDefEqProofs only [b1, A.bU, e1, hz, A2.aX, l78, A2.aU, x.len.2.2.2.2.2, ah, ao, au, beq_self_eq_true, al, if_true, ar, Nat.zero_add, Nat.reduceAdd, aK, aL, aG, aJ, q0, q1, q2, q3, Bool.and_true]
theorem r111 : ∃ h',CW 111 [mv m s] h=some (.bool (rangeB m),h')∧Old h h':=by
 obtain ⟨h1,b1,o1,x1,A,-⟩:=fk x
 have hG1:4≤h1.n0:=by rw [o1.n0];exact hG
 obtain ⟨n1,n2,n3,n4,n5,n6⟩:=x.len
 by_cases q4':(m.cR.length:Int)≤64
 ·obtain ⟨h2,e3,o2⟩:=r136 hG1 x1.sl.d x.wf.cR (by omega)
  unfold rangeB
  cases q0:decide ((m.low.length:Int)≤34) with
  |false=>
   refine ⟨h1,az is111 hG rfl ((t111_eq _ _ _).trans ?_),o1⟩
   unfold t111
   simp -implicitDefEqProofs only [b1, A.l7, n2, ah, ao, au, fs, ak, Bool.false_eq_true, if_false, ar, Nat.zero_add, aL, q0, Bool.false_and]
  |true=>
  cases q1:decide ((m.high.length:Int)≤34) with
  |false=>
   refine ⟨h1,az is111 hG rfl ((t111_eq _ _ _).trans ?_),o1⟩
   unfold t111
   simp -implicitDefEqProofs only [b1, A.l7, A.l8, n2, n3, ah, ao, au, fs, beq_self_eq_true, al, ak, Bool.false_eq_true, if_false, if_true, ar, Nat.zero_add, aL, q0, q1, Bool.and_false, Bool.false_and]
  |true=>
  cases q2:decide (m.count≥0) with
  |false=>
   refine ⟨h1,az is111 hG rfl ((t111_eq _ _ _).trans ?_),o1⟩
   unfold t111
   simp -implicitDefEqProofs only [b1, A.l7, A.l8, A.l9, n2, n3, ah, ao, au, fs, beq_self_eq_true, al, ak, Bool.false_eq_true, if_false, if_true, ar, Nat.zero_add, aK, aL, q0, q1, q2, Bool.and_true, Bool.and_false, Bool.false_and]
  |true=>
  cases q3:decide (m.count≤1048576) with
  |false=>
   refine ⟨h1,az is111 hG rfl ((t111_eq _ _ _).trans ?_),o1⟩
   unfold t111
   simp -implicitDefEqProofs only [b1, A.l7, A.l8, A.l9, n2, n3, ah, ao, au, fs, beq_self_eq_true, al, ak, Bool.false_eq_true, if_false, if_true, ar, Nat.zero_add, aK, aL, q0, q1, q2, q3, Bool.and_true, Bool.and_false, Bool.false_and]
  |true=>
  have q4:decide ((m.cR.length:Int)≤64)=true:=decide_eq_true q4'
  refine ⟨h2,az is111 hG rfl ((t111_eq _ _ _).trans ?_),o1.trans o2⟩
  unfold t111
  simp -implicitDefEqProofs only [b1, A.l7, A.l8, A.l9, A.bO, n2, n3, n4, e3, ah, ao, au, beq_self_eq_true, al, if_true, ar, Nat.zero_add, aw, aK, aL, q0, q1, q2, q3, q4, Bool.and_true, Bool.true_and]
 ·have q4:decide ((m.cR.length:Int)≤64)=false:=decide_eq_false q4'
  refine ⟨h1,az is111 hG rfl ((t111_eq _ _ _).trans ?_),o1⟩
  unfold t111 rangeB
  cases q0:decide ((m.low.length:Int)≤34) with
  |false=>simp -implicitDefEqProofs only [b1, A.l7, n2, q4, ah, ao, au, fs, ak, Bool.false_eq_true, if_false, ar, Nat.zero_add, aL, q0, Bool.and_false, Bool.false_and]
  |true=>
  cases q1:decide ((m.high.length:Int)≤34) with
  |false=>simp -implicitDefEqProofs only [b1, A.l7, A.l8, n2, n3, q4, ah, ao, au, fs, beq_self_eq_true, al, ak, Bool.false_eq_true, if_false, if_true, ar, Nat.zero_add, aL, q0, q1, Bool.and_false, Bool.false_and]
  |true=>
  cases q2:decide (m.count≥0) with
  |false=>simp -implicitDefEqProofs only [b1, A.l7, A.l8, A.l9, n2, n3, q4, ah, ao, au, fs, beq_self_eq_true, al, ak, Bool.false_eq_true, if_false, if_true, ar, Nat.zero_add, aK, aL, q0, q1, q2, Bool.and_true, Bool.and_false, Bool.false_and]
  |true=>
  cases q3:decide (m.count≤1048576) with
  |false=>simp -implicitDefEqProofs only [b1, A.l7, A.l8, A.l9, n2, n3, q4, ah, ao, au, fs, beq_self_eq_true, al, ak, Bool.false_eq_true, if_false, if_true, ar, Nat.zero_add, aK, aL, q0, q1, q2, q3, Bool.and_true, Bool.and_false, Bool.false_and]
  |true=>
  simp -implicitDefEqProofs only [b1, A.l7, A.l8, A.l9, A.bO, n2, n3, n4, q4, ah, ao, au, fs, beq_self_eq_true, al, ak, Bool.false_eq_true, if_false, if_true, ar, Nat.zero_add, aK, aL, q0, q1, q2, q3, Bool.and_true, Bool.and_false, Bool.false_and]
end
end Go.Proofs.YtjghlcdidopcpaaGreatDoor

namespace Go.Proofs.YtjghlcdidopcpaaGreatDoor
open Go Go.Abs
attribute [local congr] bp
deriving instance DecidableEq for ei
deriving instance DecidableEq for aV
theorem ld_agg {t n:Nat} (h1:aggT Tryz.prog t=some true) (h2:cu Tryz.prog t=some n) (v:Value) (h:ai):ld Tryz.prog t v h=cq n v h:=by
 unfold ld
 rw [h1,h2]
theorem getD_mkF {n k:Nat} (hk:k<n) (x:Nat→Value):(bu n x).getD k undef=x k:=by
 unfold bu
 simp [hk]
theorem fK {rs:List ResultVar} {n k t z:Nat} (hr:rs = [.cell k t]) (h1:aggT Tryz.prog t=some true) (h2:cu Tryz.prog t=some z) (hk:k<n) (x:Nat→Value) {h:ai} {v:Value} (e:cq z (x k) h=some (v,h)):ax Tryz.prog rs (bu n x) h=some (v,h):=by
 subst hr
 simp only [ax,dD,getD_mkF hk,ld_agg h1 h2,e]
 rfl
theorem bo {rs:List ResultVar} {n k t z j:Nat} (hr:rs = [.cell k t,.tmp j]) (h1:aggT Tryz.prog t=some true) (h2:cu Tryz.prog t=some z) (hk:k<n) (hj:j<n) (x:Nat→Value) {h:ai} {v:Value} (e:cq z (x k) h=some (v,h)):ax Tryz.prog rs (bu n x) h=some (.tuple #[v,x j],h):=by
 subst hr
 simp only [ax,List.mapM_cons,List.mapM_nil,dD,getD_mkF hk,getD_mkF hj,ld_agg h1 h2,e]
 rfl
theorem cO.nil (h:ai) (ks:List Kd):cO h ks (.slice none 0 0) 0 []:=⟨none,0,rfl,fun _=>rfl,⟨by simp,fun i hi=>absurd hi (Nat.not_lt_zero i)⟩,fun h=>absurd h (Nat.lt_irrefl 0)⟩
def bE:dy:=⟨.slice none 0 0,.slice none 0 0,.slice none 0 0,.slice none 0 0,.slice none 0 0,.slice none 0 0⟩
def aV.z:aV:=⟨0,0,0,0,0,0,0,z32,false,z32,0,0,0,0,z32,0,0,[],[],[],[],[],[]⟩
theorem z32_ok:D32 z32:=⟨rfl,fun x hx=>by
 have:=List.eq_of_mem_replicate hx
 omega⟩
theorem aV.z_wf:aV.z.Wf:=⟨by decide,eK,eK,by decide,eK,eK,eK,z32_ok,z32_ok,eK,eK,eK,eK,z32_ok,eK,eK,fun x hx=>(by cases hx),fun x hx=>(by cases hx),fun x hx=>(by cases hx),fun x hx=>(by cases hx),fun x hx=>(by cases hx),fun x hx=>by cases hx⟩
def sPing (m:aV):aV:={ aV.z with seq:=m.seq,origin:=m.origin,table:=m.table }
def sReq (m:aV):aV:={ aV.z with seq:=m.seq,target:=m.target,table:=m.table }
def sSum (m:aV):aV:={ aV.z with low:=m.low,high:=m.high,count:=m.count,root:=m.root }
def sItems (m:aV):aV:={ aV.z with low:=m.low,high:=m.high,want:=m.want,cR:=m.cR }
def sObj (m:aV):aV:={ aV.z with obj:=m.obj }
def sPiece (m:aV):aV:={ aV.z with obj:=m.obj,gk:=m.gk,gn:=m.gn,gt:=m.gt,gs:=m.gs,cF:=m.cF,pieces:=m.pieces,cY:=m.cY,data:=m.data }
def sStored (m:aV):aV:={ aV.z with obj:=m.obj,code:=m.code }
theorem sPing_wf {m:aV} (w:m.Wf):(sPing m).Wf:={ aV.z_wf with seq:=w.seq,origin:=w.origin,table:=w.table }
theorem sReq_wf {m:aV} (w:m.Wf):(sReq m).Wf:={ aV.z_wf with seq:=w.seq,target:=w.target,table:=w.table }
theorem sSum_wf {m:aV} (w:m.Wf):(sSum m).Wf:={ aV.z_wf with low:=w.low,high:=w.high,count:=w.count,root:=w.root }
theorem sItems_wf {m:aV} (w:m.Wf):(sItems m).Wf:={ aV.z_wf with low:=w.low,high:=w.high,cR:=w.cR }
theorem sObj_wf {m:aV} (w:m.Wf):(sObj m).Wf:={ aV.z_wf with obj:=w.obj }
theorem sPiece_wf {m:aV} (w:m.Wf):(sPiece m).Wf:={ aV.z_wf with obj:=w.obj,gk:=w.gk,gn:=w.gn,gt:=w.gt,gs:=w.gs,cF:=w.cF,pieces:=w.pieces,cY:=w.cY,data:=w.data }
theorem sStored_wf {m:aV} (w:m.Wf):(sStored m).Wf:={ aV.z_wf with obj:=w.obj,code:=w.code }
theorem agg37:aggT Tryz.prog 37=some true:=by kernel_rfl
theorem siz37:cu Tryz.prog 37=some 116:=by kernel_rfl
theorem bS {l:List Nat} (h:D32 l):(bY l).length=32:=by rw [List.length_map];exact h.1
theorem cO.form {h:ai} {ks:List Kd} {v:Value} {n:Nat} {cs:List Value} (x:cO h ks v n cs) : ∃ a c,v = .slice a n c:=by
 obtain ⟨a,c,e,_⟩:=x
 exact ⟨a,c,e⟩
theorem made {h h1:ai} {s':dy} {m':aV} (o:Old h h1) (x:Has h s' m') : ∃ hz h2,eD [(.int .u8 0),(.int .i64 0),(.int .i64 0),(.int .u64 0),(.int .i64 0),(.int .i64 0),(.slice none 0 0),(.slice none 0 0),(.slice none 0 0),(.int .i64 0),(.int .u8 0),(.int .u8 0),(.int .u8 0),(.int .u8 0),(.int .u8 0),(.int .u8 0),(.int .u8 0),(.int .u8 0),(.int .u8 0),(.int .u8 0),(.int .u8 0),(.int .u8 0),(.int .u8 0),(.int .u8 0),(.int .u8 0),(.int .u8 0),(.int .u8 0),(.int .u8 0),(.int .u8 0),(.int .u8 0),(.int .u8 0),(.int .u8 0),(.int .u8 0),(.int .u8 0),(.int .u8 0),(.int .u8 0),(.int .u8 0),(.int .u8 0),(.int .u8 0),(.int .u8 0),(.int .u8 0),(.int .u8 0),(.slice none 0 0),(.bool false),(.int .u8 0),(.int .u8 0),(.int .u8 0),(.int .u8 0),(.int .u8 0),(.int .u8 0),(.int .u8 0),(.int .u8 0),(.int .u8 0),(.int .u8 0),(.int .u8 0),(.int .u8 0),(.int .u8 0),(.int .u8 0),(.int .u8 0),(.int .u8 0),(.int .u8 0),(.int .u8 0),(.int .u8 0),(.int .u8 0),(.int .u8 0),(.int .u8 0),(.int .u8 0),(.int .u8 0),(.int .u8 0),(.int .u8 0),(.int .u8 0),(.int .u8 0),(.int .u8 0),(.int .u8 0),(.int .u8 0),(.int .u8 0),(.int .i64 0),(.int .i64 0),(.int .i64 0),(.int .i64 0),(.int .u8 0),(.int .u8 0),(.int .u8 0),(.int .u8 0),(.int .u8 0),(.int .u8 0),(.int .u8 0),(.int .u8 0),(.int .u8 0),(.int .u8 0),(.int .u8 0),(.int .u8 0),(.int .u8 0),(.int .u8 0),(.int .u8 0),(.int .u8 0),(.int .u8 0),(.int .u8 0),(.int .u8 0),(.int .u8 0),(.int .u8 0),(.int .u8 0),(.int .u8 0),(.int .u8 0),(.int .u8 0),(.int .u8 0),(.int .u8 0),(.int .u8 0),(.int .u8 0),(.int .u8 0),(.int .u8 0),(.int .u8 0),(.slice none 0 0),(.int .i64 0),(.slice none 0 0),(.int .i64 0)] h1=some (ptr h1.next 0,hz)∧Old h1 hz∧cA 116 (ptr h1.next 0) (mv m' s') hz=some (undef,h2)∧cq 116 (ptr h1.next 0) h2=some (mv m' s',h2)∧Has h2 s' m'∧Old h h2∧h2.get h1.next=some (m'.d.cells s')∧Old h1 h2:=by
 have c:=cH x.sl (aV.ok x.wf)
 obtain ⟨h2,e1,e2,e3,_⟩:=one_new h1 (Z := [(.int .u8 0),(.int .i64 0),(.int .i64 0),(.int .u64 0),(.int .i64 0),(.int .i64 0),(.slice none 0 0),(.slice none 0 0),(.slice none 0 0),(.int .i64 0),(.int .u8 0),(.int .u8 0),(.int .u8 0),(.int .u8 0),(.int .u8 0),(.int .u8 0),(.int .u8 0),(.int .u8 0),(.int .u8 0),(.int .u8 0),(.int .u8 0),(.int .u8 0),(.int .u8 0),(.int .u8 0),(.int .u8 0),(.int .u8 0),(.int .u8 0),(.int .u8 0),(.int .u8 0),(.int .u8 0),(.int .u8 0),(.int .u8 0),(.int .u8 0),(.int .u8 0),(.int .u8 0),(.int .u8 0),(.int .u8 0),(.int .u8 0),(.int .u8 0),(.int .u8 0),(.int .u8 0),(.int .u8 0),(.slice none 0 0),(.bool false),(.int .u8 0),(.int .u8 0),(.int .u8 0),(.int .u8 0),(.int .u8 0),(.int .u8 0),(.int .u8 0),(.int .u8 0),(.int .u8 0),(.int .u8 0),(.int .u8 0),(.int .u8 0),(.int .u8 0),(.int .u8 0),(.int .u8 0),(.int .u8 0),(.int .u8 0),(.int .u8 0),(.int .u8 0),(.int .u8 0),(.int .u8 0),(.int .u8 0),(.int .u8 0),(.int .u8 0),(.int .u8 0),(.int .u8 0),(.int .u8 0),(.int .u8 0),(.int .u8 0),(.int .u8 0),(.int .u8 0),(.int .u8 0),(.int .i64 0),(.int .i64 0),(.int .i64 0),(.int .i64 0),(.int .u8 0),(.int .u8 0),(.int .u8 0),(.int .u8 0),(.int .u8 0),(.int .u8 0),(.int .u8 0),(.int .u8 0),(.int .u8 0),(.int .u8 0),(.int .u8 0),(.int .u8 0),(.int .u8 0),(.int .u8 0),(.int .u8 0),(.int .u8 0),(.int .u8 0),(.int .u8 0),(.int .u8 0),(.int .u8 0),(.int .u8 0),(.int .u8 0),(.int .u8 0),(.int .u8 0),(.int .u8 0),(.int .u8 0),(.int .u8 0),(.int .u8 0),(.int .u8 0),(.int .u8 0),(.int .u8 0),(.int .u8 0),(.slice none 0 0),(.int .i64 0),(.slice none 0 0),(.int .i64 0)]) rfl c.2.2 c.2.1
 have x2:=(x.bG o).bG e2
 exact ⟨_,h2,newC_eq _ _,Kept.alloc _ _ _,e1,(c9 x2 e3).all,x2,o.trans e2,e3,e2⟩
section
variable {h:ai} {s:dy} {m:aV} (hG:4≤h.n0) (x:Has h s m)
include hG x
omit hG x in
theorem is96:bF Tryz.prog 96 Tryz.f96:=⟨by kernel_rfl,by kernel_rfl,by kernel_rfl,by kernel_rfl⟩
set_option maxRecDepth 100000 in
theorem r96 : ∃ s' h',CW 96 [mv m s] h=some (mv (sPing m) s',h')∧Has h' s' (sPing m)∧Old h h':=by
 obtain ⟨h1,b1,o1,x1,A,-⟩:=fk x
 have hr:Tryz.f96.results.toList = [.cell 2 37]:=by kernel_rfl
 have bl:cQ [(.int .u8 0),(.int .i64 0),(.int .i64 0),(.int .u64 0),(.int .i64 0),(.int .i64 0),(.slice none 0 0),(.slice none 0 0),(.slice none 0 0),(.int .i64 0),(.int .u8 0),(.int .u8 0),(.int .u8 0),(.int .u8 0),(.int .u8 0),(.int .u8 0),(.int .u8 0),(.int .u8 0),(.int .u8 0),(.int .u8 0),(.int .u8 0),(.int .u8 0),(.int .u8 0),(.int .u8 0),(.int .u8 0),(.int .u8 0),(.int .u8 0),(.int .u8 0),(.int .u8 0),(.int .u8 0),(.int .u8 0),(.int .u8 0),(.int .u8 0),(.int .u8 0),(.int .u8 0),(.int .u8 0),(.int .u8 0),(.int .u8 0),(.int .u8 0),(.int .u8 0),(.int .u8 0),(.int .u8 0),(.slice none 0 0),(.bool false),(.int .u8 0),(.int .u8 0),(.int .u8 0),(.int .u8 0),(.int .u8 0),(.int .u8 0),(.int .u8 0),(.int .u8 0),(.int .u8 0),(.int .u8 0),(.int .u8 0),(.int .u8 0),(.int .u8 0),(.int .u8 0),(.int .u8 0),(.int .u8 0),(.int .u8 0),(.int .u8 0),(.int .u8 0),(.int .u8 0),(.int .u8 0),(.int .u8 0),(.int .u8 0),(.int .u8 0),(.int .u8 0),(.int .u8 0),(.int .u8 0),(.int .u8 0),(.int .u8 0),(.int .u8 0),(.int .u8 0),(.int .u8 0),(.int .i64 0),(.int .i64 0),(.int .i64 0),(.int .i64 0),(.int .u8 0),(.int .u8 0),(.int .u8 0),(.int .u8 0),(.int .u8 0),(.int .u8 0),(.int .u8 0),(.int .u8 0),(.int .u8 0),(.int .u8 0),(.int .u8 0),(.int .u8 0),(.int .u8 0),(.int .u8 0),(.int .u8 0),(.int .u8 0),(.int .u8 0),(.int .u8 0),(.int .u8 0),(.int .u8 0),(.int .u8 0),(.int .u8 0),(.int .u8 0),(.int .u8 0),(.int .u8 0),(.int .u8 0),(.int .u8 0),(.int .u8 0),(.int .u8 0),(.int .u8 0),(.int .u8 0),(.int .u8 0),(.slice none 0 0),(.int .i64 0),(.slice none 0 0),(.int .i64 0)] [(3,1,.int .u64 (m.seq:Int)),(4,1,.int .i64 m.origin),(6,1,s.a)]=some (mv (sPing m) ⟨s.a,bE.b,bE.c,bE.d,bE.e,bE.f⟩):=by
  obtain ⟨aa,ca,ea⟩:=x.sl.a.form
  rw [ea]
  rfl
 have X:Has h ⟨s.a,bE.b,bE.c,bE.d,bE.e,bE.f⟩ (sPing m):=⟨⟨x.sl.a,.nil _ _,.nil _ _,.nil _ _,.nil _ _,.nil _ _⟩,sPing_wf x.wf⟩
 obtain ⟨hz,h2,z1,oz,u1,u2,X2,o2,_⟩:=made o1 X
 have A:=c9 (x1.bG oz) (Old.get oz A.g)
 refine ⟨_,h2,az is96 hG rfl ((t96_eq _ _ _).trans ?_),X2,o2⟩
 unfold t96
 simp -implicitDefEqProofs only [b1, z1, A.l3, A.l4, A.l6, bl, u1, ah, ao, ar, Nat.zero_add]
 exact fK hr agg37 siz37 (show 2<10 by decide) _ u2
omit hG x in
theorem is99:bF Tryz.prog 99 Tryz.f99:=⟨by kernel_rfl,by kernel_rfl,by kernel_rfl,by kernel_rfl⟩
set_option maxRecDepth 100000 in
theorem r99 : ∃ s' h',CW 99 [mv m s] h=some (mv (sReq m) s',h')∧Has h' s' (sReq m)∧Old h h':=by
 obtain ⟨h1,b1,o1,x1,A,-⟩:=fk x
 have hr:Tryz.f99.results.toList = [.cell 2 37]:=by kernel_rfl
 have bl:cQ [(.int .u8 0),(.int .i64 0),(.int .i64 0),(.int .u64 0),(.int .i64 0),(.int .i64 0),(.slice none 0 0),(.slice none 0 0),(.slice none 0 0),(.int .i64 0),(.int .u8 0),(.int .u8 0),(.int .u8 0),(.int .u8 0),(.int .u8 0),(.int .u8 0),(.int .u8 0),(.int .u8 0),(.int .u8 0),(.int .u8 0),(.int .u8 0),(.int .u8 0),(.int .u8 0),(.int .u8 0),(.int .u8 0),(.int .u8 0),(.int .u8 0),(.int .u8 0),(.int .u8 0),(.int .u8 0),(.int .u8 0),(.int .u8 0),(.int .u8 0),(.int .u8 0),(.int .u8 0),(.int .u8 0),(.int .u8 0),(.int .u8 0),(.int .u8 0),(.int .u8 0),(.int .u8 0),(.int .u8 0),(.slice none 0 0),(.bool false),(.int .u8 0),(.int .u8 0),(.int .u8 0),(.int .u8 0),(.int .u8 0),(.int .u8 0),(.int .u8 0),(.int .u8 0),(.int .u8 0),(.int .u8 0),(.int .u8 0),(.int .u8 0),(.int .u8 0),(.int .u8 0),(.int .u8 0),(.int .u8 0),(.int .u8 0),(.int .u8 0),(.int .u8 0),(.int .u8 0),(.int .u8 0),(.int .u8 0),(.int .u8 0),(.int .u8 0),(.int .u8 0),(.int .u8 0),(.int .u8 0),(.int .u8 0),(.int .u8 0),(.int .u8 0),(.int .u8 0),(.int .u8 0),(.int .i64 0),(.int .i64 0),(.int .i64 0),(.int .i64 0),(.int .u8 0),(.int .u8 0),(.int .u8 0),(.int .u8 0),(.int .u8 0),(.int .u8 0),(.int .u8 0),(.int .u8 0),(.int .u8 0),(.int .u8 0),(.int .u8 0),(.int .u8 0),(.int .u8 0),(.int .u8 0),(.int .u8 0),(.int .u8 0),(.int .u8 0),(.int .u8 0),(.int .u8 0),(.int .u8 0),(.int .u8 0),(.int .u8 0),(.int .u8 0),(.int .u8 0),(.int .u8 0),(.int .u8 0),(.int .u8 0),(.int .u8 0),(.int .u8 0),(.int .u8 0),(.int .u8 0),(.int .u8 0),(.slice none 0 0),(.int .i64 0),(.slice none 0 0),(.int .i64 0)] [(3,1,.int .u64 (m.seq:Int)),(5,1,.int .i64 m.target),(6,1,s.a)]=some (mv (sReq m) ⟨s.a,bE.b,bE.c,bE.d,bE.e,bE.f⟩):=by
  obtain ⟨aa,ca,ea⟩:=x.sl.a.form
  rw [ea]
  rfl
 have X:Has h ⟨s.a,bE.b,bE.c,bE.d,bE.e,bE.f⟩ (sReq m):=⟨⟨x.sl.a,.nil _ _,.nil _ _,.nil _ _,.nil _ _,.nil _ _⟩,sReq_wf x.wf⟩
 obtain ⟨hz,h2,z1,oz,u1,u2,X2,o2,_⟩:=made o1 X
 have A:=c9 (x1.bG oz) (Old.get oz A.g)
 refine ⟨_,h2,az is99 hG rfl ((t99_eq _ _ _).trans ?_),X2,o2⟩
 unfold t99
 simp -implicitDefEqProofs only [b1, z1, A.l3, A.l5, A.l6, bl, u1, ah, ao, ar, Nat.zero_add]
 exact fK hr agg37 siz37 (show 2<10 by decide) _ u2
omit hG x in
theorem is112:bF Tryz.prog 112 Tryz.f112:=⟨by kernel_rfl,by kernel_rfl,by kernel_rfl,by kernel_rfl⟩
set_option maxRecDepth 100000 in
theorem r112 : ∃ s' h',CW 112 [mv m s] h=some (mv (sSum m) s',h')∧Has h' s' (sSum m)∧Old h h':=by
 obtain ⟨h1,b1,o1,x1,A,-⟩:=fk x
 have hr:Tryz.f112.results.toList = [.cell 2 37]:=by kernel_rfl
 have bl:cQ [(.int .u8 0),(.int .i64 0),(.int .i64 0),(.int .u64 0),(.int .i64 0),(.int .i64 0),(.slice none 0 0),(.slice none 0 0),(.slice none 0 0),(.int .i64 0),(.int .u8 0),(.int .u8 0),(.int .u8 0),(.int .u8 0),(.int .u8 0),(.int .u8 0),(.int .u8 0),(.int .u8 0),(.int .u8 0),(.int .u8 0),(.int .u8 0),(.int .u8 0),(.int .u8 0),(.int .u8 0),(.int .u8 0),(.int .u8 0),(.int .u8 0),(.int .u8 0),(.int .u8 0),(.int .u8 0),(.int .u8 0),(.int .u8 0),(.int .u8 0),(.int .u8 0),(.int .u8 0),(.int .u8 0),(.int .u8 0),(.int .u8 0),(.int .u8 0),(.int .u8 0),(.int .u8 0),(.int .u8 0),(.slice none 0 0),(.bool false),(.int .u8 0),(.int .u8 0),(.int .u8 0),(.int .u8 0),(.int .u8 0),(.int .u8 0),(.int .u8 0),(.int .u8 0),(.int .u8 0),(.int .u8 0),(.int .u8 0),(.int .u8 0),(.int .u8 0),(.int .u8 0),(.int .u8 0),(.int .u8 0),(.int .u8 0),(.int .u8 0),(.int .u8 0),(.int .u8 0),(.int .u8 0),(.int .u8 0),(.int .u8 0),(.int .u8 0),(.int .u8 0),(.int .u8 0),(.int .u8 0),(.int .u8 0),(.int .u8 0),(.int .u8 0),(.int .u8 0),(.int .u8 0),(.int .i64 0),(.int .i64 0),(.int .i64 0),(.int .i64 0),(.int .u8 0),(.int .u8 0),(.int .u8 0),(.int .u8 0),(.int .u8 0),(.int .u8 0),(.int .u8 0),(.int .u8 0),(.int .u8 0),(.int .u8 0),(.int .u8 0),(.int .u8 0),(.int .u8 0),(.int .u8 0),(.int .u8 0),(.int .u8 0),(.int .u8 0),(.int .u8 0),(.int .u8 0),(.int .u8 0),(.int .u8 0),(.int .u8 0),(.int .u8 0),(.int .u8 0),(.int .u8 0),(.int .u8 0),(.int .u8 0),(.int .u8 0),(.int .u8 0),(.int .u8 0),(.int .u8 0),(.int .u8 0),(.slice none 0 0),(.int .i64 0),(.slice none 0 0),(.int .i64 0)] [(7,1,s.b),(8,1,s.c),(9,1,.int .i64 m.count),(10,32,.agg (bY m.root).toArray)]=some (mv (sSum m) ⟨bE.a,s.b,s.c,bE.d,bE.e,bE.f⟩):=by
  have e1:cU [(.int .u8 0),(.int .i64 0),(.int .i64 0),(.int .u64 0),(.int .i64 0),(.int .i64 0),(.slice none 0 0),(.slice none 0 0),(.slice none 0 0),(.int .i64 0),(.int .u8 0),(.int .u8 0),(.int .u8 0),(.int .u8 0),(.int .u8 0),(.int .u8 0),(.int .u8 0),(.int .u8 0),(.int .u8 0),(.int .u8 0),(.int .u8 0),(.int .u8 0),(.int .u8 0),(.int .u8 0),(.int .u8 0),(.int .u8 0),(.int .u8 0),(.int .u8 0),(.int .u8 0),(.int .u8 0),(.int .u8 0),(.int .u8 0),(.int .u8 0),(.int .u8 0),(.int .u8 0),(.int .u8 0),(.int .u8 0),(.int .u8 0),(.int .u8 0),(.int .u8 0),(.int .u8 0),(.int .u8 0),(.slice none 0 0),(.bool false),(.int .u8 0),(.int .u8 0),(.int .u8 0),(.int .u8 0),(.int .u8 0),(.int .u8 0),(.int .u8 0),(.int .u8 0),(.int .u8 0),(.int .u8 0),(.int .u8 0),(.int .u8 0),(.int .u8 0),(.int .u8 0),(.int .u8 0),(.int .u8 0),(.int .u8 0),(.int .u8 0),(.int .u8 0),(.int .u8 0),(.int .u8 0),(.int .u8 0),(.int .u8 0),(.int .u8 0),(.int .u8 0),(.int .u8 0),(.int .u8 0),(.int .u8 0),(.int .u8 0),(.int .u8 0),(.int .u8 0),(.int .u8 0),(.int .i64 0),(.int .i64 0),(.int .i64 0),(.int .i64 0),(.int .u8 0),(.int .u8 0),(.int .u8 0),(.int .u8 0),(.int .u8 0),(.int .u8 0),(.int .u8 0),(.int .u8 0),(.int .u8 0),(.int .u8 0),(.int .u8 0),(.int .u8 0),(.int .u8 0),(.int .u8 0),(.int .u8 0),(.int .u8 0),(.int .u8 0),(.int .u8 0),(.int .u8 0),(.int .u8 0),(.int .u8 0),(.int .u8 0),(.int .u8 0),(.int .u8 0),(.int .u8 0),(.int .u8 0),(.int .u8 0),(.int .u8 0),(.int .u8 0),(.int .u8 0),(.int .u8 0),(.int .u8 0),(.slice none 0 0),(.int .i64 0),(.slice none 0 0),(.int .i64 0)] [(7,1,s.b),(8,1,s.c),(9,1,.int .i64 m.count),(10,32,.agg (bY m.root).toArray)]=cU ([.int .u8 0,.int .i64 0,.int .i64 0,.int .u64 0,.int .i64 0,.int .i64 0,.slice none 0 0,s.b,s.c,.int .i64 m.count]++(bY z32++(aV.z.d.cells bE).drop 42)) [(10,32,.agg (bY m.root).toArray)]:=by
   obtain ⟨ab,cb,eb⟩:=x.sl.b.form
   obtain ⟨ac,cc,ec⟩:=x.sl.c.form
   rw [eb,ec]
   rfl
  unfold cQ
  rw [e1,fG (A := [.int .u8 0,.int .i64 0,.int .i64 0,.int .u64 0,.int .i64 0,.int .i64 0,.slice none 0 0,s.b,s.c,.int .i64 m.count]) (B:=bY z32) (o:=10) (n:=32) rfl rfl rfl (bS x.wf.root)]
  rfl
 have X:Has h ⟨bE.a,s.b,s.c,bE.d,bE.e,bE.f⟩ (sSum m):=⟨⟨.nil _ _,x.sl.b,x.sl.c,.nil _ _,.nil _ _,.nil _ _⟩,sSum_wf x.wf⟩
 obtain ⟨hz,h2,z1,oz,u1,u2,X2,o2,_⟩:=made o1 X
 have A:=c9 (x1.bG oz) (Old.get oz A.g)
 refine ⟨_,h2,az is112 hG rfl ((t112_eq _ _ _).trans ?_),X2,o2⟩
 unfold t112
 simp -implicitDefEqProofs only [b1, z1, A.l7, A.l8, A.l9, A.bZ, bl, u1, ah, ao, ar, Nat.zero_add]
 exact fK hr agg37 siz37 (show 2<12 by decide) _ u2
omit hG x in
theorem is115:bF Tryz.prog 115 Tryz.f115:=⟨by kernel_rfl,by kernel_rfl,by kernel_rfl,by kernel_rfl⟩
set_option maxRecDepth 100000 in
theorem r115 : ∃ s' h',CW 115 [mv m s] h=some (mv (sItems m) s',h')∧Has h' s' (sItems m)∧Old h h':=by
 obtain ⟨h1,b1,o1,x1,A,-⟩:=fk x
 have hr:Tryz.f115.results.toList = [.cell 2 37]:=by kernel_rfl
 have bl:cQ [(.int .u8 0),(.int .i64 0),(.int .i64 0),(.int .u64 0),(.int .i64 0),(.int .i64 0),(.slice none 0 0),(.slice none 0 0),(.slice none 0 0),(.int .i64 0),(.int .u8 0),(.int .u8 0),(.int .u8 0),(.int .u8 0),(.int .u8 0),(.int .u8 0),(.int .u8 0),(.int .u8 0),(.int .u8 0),(.int .u8 0),(.int .u8 0),(.int .u8 0),(.int .u8 0),(.int .u8 0),(.int .u8 0),(.int .u8 0),(.int .u8 0),(.int .u8 0),(.int .u8 0),(.int .u8 0),(.int .u8 0),(.int .u8 0),(.int .u8 0),(.int .u8 0),(.int .u8 0),(.int .u8 0),(.int .u8 0),(.int .u8 0),(.int .u8 0),(.int .u8 0),(.int .u8 0),(.int .u8 0),(.slice none 0 0),(.bool false),(.int .u8 0),(.int .u8 0),(.int .u8 0),(.int .u8 0),(.int .u8 0),(.int .u8 0),(.int .u8 0),(.int .u8 0),(.int .u8 0),(.int .u8 0),(.int .u8 0),(.int .u8 0),(.int .u8 0),(.int .u8 0),(.int .u8 0),(.int .u8 0),(.int .u8 0),(.int .u8 0),(.int .u8 0),(.int .u8 0),(.int .u8 0),(.int .u8 0),(.int .u8 0),(.int .u8 0),(.int .u8 0),(.int .u8 0),(.int .u8 0),(.int .u8 0),(.int .u8 0),(.int .u8 0),(.int .u8 0),(.int .u8 0),(.int .i64 0),(.int .i64 0),(.int .i64 0),(.int .i64 0),(.int .u8 0),(.int .u8 0),(.int .u8 0),(.int .u8 0),(.int .u8 0),(.int .u8 0),(.int .u8 0),(.int .u8 0),(.int .u8 0),(.int .u8 0),(.int .u8 0),(.int .u8 0),(.int .u8 0),(.int .u8 0),(.int .u8 0),(.int .u8 0),(.int .u8 0),(.int .u8 0),(.int .u8 0),(.int .u8 0),(.int .u8 0),(.int .u8 0),(.int .u8 0),(.int .u8 0),(.int .u8 0),(.int .u8 0),(.int .u8 0),(.int .u8 0),(.int .u8 0),(.int .u8 0),(.int .u8 0),(.int .u8 0),(.slice none 0 0),(.int .i64 0),(.slice none 0 0),(.int .i64 0)] [(7,1,s.b),(8,1,s.c),(43,1,.bool m.want),(42,1,s.d)]=some (mv (sItems m) ⟨bE.a,s.b,s.c,s.d,bE.e,bE.f⟩):=by
  obtain ⟨ab,cb,eb⟩:=x.sl.b.form
  obtain ⟨ac,cc,ec⟩:=x.sl.c.form
  obtain ⟨ad,cd,ed⟩:=x.sl.d.form
  rw [eb,ec,ed]
  rfl
 have X:Has h ⟨bE.a,s.b,s.c,s.d,bE.e,bE.f⟩ (sItems m):=⟨⟨.nil _ _,x.sl.b,x.sl.c,x.sl.d,.nil _ _,.nil _ _⟩,sItems_wf x.wf⟩
 obtain ⟨hz,h2,z1,oz,u1,u2,X2,o2,_⟩:=made o1 X
 have A:=c9 (x1.bG oz) (Old.get oz A.g)
 refine ⟨_,h2,az is115 hG rfl ((t115_eq _ _ _).trans ?_),X2,o2⟩
 unfold t115
 simp -implicitDefEqProofs only [b1, z1, A.l7, A.l8, A.bO, A.bV, bl, u1, ah, ao, ar, Nat.zero_add]
 exact fK hr agg37 siz37 (show 2<12 by decide) _ u2
omit hG x in
theorem is103:bF Tryz.prog 103 Tryz.f103:=⟨by kernel_rfl,by kernel_rfl,by kernel_rfl,by kernel_rfl⟩
set_option maxRecDepth 100000 in
theorem r103 : ∃ s' h',CW 103 [mv m s] h=some (mv (sObj m) s',h')∧Has h' s' (sObj m)∧Old h h':=by
 obtain ⟨h1,b1,o1,x1,A,-⟩:=fk x
 have hr:Tryz.f103.results.toList = [.cell 2 37]:=by kernel_rfl
 have bl:cQ [(.int .u8 0),(.int .i64 0),(.int .i64 0),(.int .u64 0),(.int .i64 0),(.int .i64 0),(.slice none 0 0),(.slice none 0 0),(.slice none 0 0),(.int .i64 0),(.int .u8 0),(.int .u8 0),(.int .u8 0),(.int .u8 0),(.int .u8 0),(.int .u8 0),(.int .u8 0),(.int .u8 0),(.int .u8 0),(.int .u8 0),(.int .u8 0),(.int .u8 0),(.int .u8 0),(.int .u8 0),(.int .u8 0),(.int .u8 0),(.int .u8 0),(.int .u8 0),(.int .u8 0),(.int .u8 0),(.int .u8 0),(.int .u8 0),(.int .u8 0),(.int .u8 0),(.int .u8 0),(.int .u8 0),(.int .u8 0),(.int .u8 0),(.int .u8 0),(.int .u8 0),(.int .u8 0),(.int .u8 0),(.slice none 0 0),(.bool false),(.int .u8 0),(.int .u8 0),(.int .u8 0),(.int .u8 0),(.int .u8 0),(.int .u8 0),(.int .u8 0),(.int .u8 0),(.int .u8 0),(.int .u8 0),(.int .u8 0),(.int .u8 0),(.int .u8 0),(.int .u8 0),(.int .u8 0),(.int .u8 0),(.int .u8 0),(.int .u8 0),(.int .u8 0),(.int .u8 0),(.int .u8 0),(.int .u8 0),(.int .u8 0),(.int .u8 0),(.int .u8 0),(.int .u8 0),(.int .u8 0),(.int .u8 0),(.int .u8 0),(.int .u8 0),(.int .u8 0),(.int .u8 0),(.int .i64 0),(.int .i64 0),(.int .i64 0),(.int .i64 0),(.int .u8 0),(.int .u8 0),(.int .u8 0),(.int .u8 0),(.int .u8 0),(.int .u8 0),(.int .u8 0),(.int .u8 0),(.int .u8 0),(.int .u8 0),(.int .u8 0),(.int .u8 0),(.int .u8 0),(.int .u8 0),(.int .u8 0),(.int .u8 0),(.int .u8 0),(.int .u8 0),(.int .u8 0),(.int .u8 0),(.int .u8 0),(.int .u8 0),(.int .u8 0),(.int .u8 0),(.int .u8 0),(.int .u8 0),(.int .u8 0),(.int .u8 0),(.int .u8 0),(.int .u8 0),(.int .u8 0),(.int .u8 0),(.slice none 0 0),(.int .i64 0),(.slice none 0 0),(.int .i64 0)] [(44,32,.agg (bY m.obj).toArray)]=some (mv (sObj m) bE):=by
  have e1:cU [(.int .u8 0),(.int .i64 0),(.int .i64 0),(.int .u64 0),(.int .i64 0),(.int .i64 0),(.slice none 0 0),(.slice none 0 0),(.slice none 0 0),(.int .i64 0),(.int .u8 0),(.int .u8 0),(.int .u8 0),(.int .u8 0),(.int .u8 0),(.int .u8 0),(.int .u8 0),(.int .u8 0),(.int .u8 0),(.int .u8 0),(.int .u8 0),(.int .u8 0),(.int .u8 0),(.int .u8 0),(.int .u8 0),(.int .u8 0),(.int .u8 0),(.int .u8 0),(.int .u8 0),(.int .u8 0),(.int .u8 0),(.int .u8 0),(.int .u8 0),(.int .u8 0),(.int .u8 0),(.int .u8 0),(.int .u8 0),(.int .u8 0),(.int .u8 0),(.int .u8 0),(.int .u8 0),(.int .u8 0),(.slice none 0 0),(.bool false),(.int .u8 0),(.int .u8 0),(.int .u8 0),(.int .u8 0),(.int .u8 0),(.int .u8 0),(.int .u8 0),(.int .u8 0),(.int .u8 0),(.int .u8 0),(.int .u8 0),(.int .u8 0),(.int .u8 0),(.int .u8 0),(.int .u8 0),(.int .u8 0),(.int .u8 0),(.int .u8 0),(.int .u8 0),(.int .u8 0),(.int .u8 0),(.int .u8 0),(.int .u8 0),(.int .u8 0),(.int .u8 0),(.int .u8 0),(.int .u8 0),(.int .u8 0),(.int .u8 0),(.int .u8 0),(.int .u8 0),(.int .u8 0),(.int .i64 0),(.int .i64 0),(.int .i64 0),(.int .i64 0),(.int .u8 0),(.int .u8 0),(.int .u8 0),(.int .u8 0),(.int .u8 0),(.int .u8 0),(.int .u8 0),(.int .u8 0),(.int .u8 0),(.int .u8 0),(.int .u8 0),(.int .u8 0),(.int .u8 0),(.int .u8 0),(.int .u8 0),(.int .u8 0),(.int .u8 0),(.int .u8 0),(.int .u8 0),(.int .u8 0),(.int .u8 0),(.int .u8 0),(.int .u8 0),(.int .u8 0),(.int .u8 0),(.int .u8 0),(.int .u8 0),(.int .u8 0),(.int .u8 0),(.int .u8 0),(.int .u8 0),(.int .u8 0),(.slice none 0 0),(.int .i64 0),(.slice none 0 0),(.int .i64 0)] [(44,32,.agg (bY m.obj).toArray)]=cU ((aV.z.d.cells bE).take 44++(bY z32++(aV.z.d.cells bE).drop 76)) [(44,32,.agg (bY m.obj).toArray)]:=by
   rfl
  unfold cQ
  rw [e1,fG (A:=(aV.z.d.cells bE).take 44) (B:=bY z32) (o:=44) (n:=32) rfl rfl rfl (bS x.wf.obj)]
  rfl
 have X:Has h bE (sObj m):=⟨⟨.nil _ _,.nil _ _,.nil _ _,.nil _ _,.nil _ _,.nil _ _⟩,sObj_wf x.wf⟩
 obtain ⟨hz,h2,z1,oz,u1,u2,X2,o2,_⟩:=made o1 X
 have A:=c9 (x1.bG oz) (Old.get oz A.g)
 refine ⟨_,h2,az is103 hG rfl ((t103_eq _ _ _).trans ?_),X2,o2⟩
 unfold t103
 simp -implicitDefEqProofs only [b1, z1, A.bX, bl, u1, ah, ao, ar, Nat.zero_add]
 exact fK hr agg37 siz37 (show 2<6 by decide) _ u2
omit hG x in
theorem is107:bF Tryz.prog 107 Tryz.f107:=⟨by kernel_rfl,by kernel_rfl,by kernel_rfl,by kernel_rfl⟩
set_option maxRecDepth 100000 in
theorem r107 : ∃ s' h',CW 107 [mv m s] h=some (mv (sPiece m) s',h')∧Has h' s' (sPiece m)∧Old h h':=by
 obtain ⟨h1,b1,o1,x1,A,-⟩:=fk x
 have hr:Tryz.f107.results.toList = [.cell 2 37]:=by kernel_rfl
 have bl:cQ [(.int .u8 0),(.int .i64 0),(.int .i64 0),(.int .u64 0),(.int .i64 0),(.int .i64 0),(.slice none 0 0),(.slice none 0 0),(.slice none 0 0),(.int .i64 0),(.int .u8 0),(.int .u8 0),(.int .u8 0),(.int .u8 0),(.int .u8 0),(.int .u8 0),(.int .u8 0),(.int .u8 0),(.int .u8 0),(.int .u8 0),(.int .u8 0),(.int .u8 0),(.int .u8 0),(.int .u8 0),(.int .u8 0),(.int .u8 0),(.int .u8 0),(.int .u8 0),(.int .u8 0),(.int .u8 0),(.int .u8 0),(.int .u8 0),(.int .u8 0),(.int .u8 0),(.int .u8 0),(.int .u8 0),(.int .u8 0),(.int .u8 0),(.int .u8 0),(.int .u8 0),(.int .u8 0),(.int .u8 0),(.slice none 0 0),(.bool false),(.int .u8 0),(.int .u8 0),(.int .u8 0),(.int .u8 0),(.int .u8 0),(.int .u8 0),(.int .u8 0),(.int .u8 0),(.int .u8 0),(.int .u8 0),(.int .u8 0),(.int .u8 0),(.int .u8 0),(.int .u8 0),(.int .u8 0),(.int .u8 0),(.int .u8 0),(.int .u8 0),(.int .u8 0),(.int .u8 0),(.int .u8 0),(.int .u8 0),(.int .u8 0),(.int .u8 0),(.int .u8 0),(.int .u8 0),(.int .u8 0),(.int .u8 0),(.int .u8 0),(.int .u8 0),(.int .u8 0),(.int .u8 0),(.int .i64 0),(.int .i64 0),(.int .i64 0),(.int .i64 0),(.int .u8 0),(.int .u8 0),(.int .u8 0),(.int .u8 0),(.int .u8 0),(.int .u8 0),(.int .u8 0),(.int .u8 0),(.int .u8 0),(.int .u8 0),(.int .u8 0),(.int .u8 0),(.int .u8 0),(.int .u8 0),(.int .u8 0),(.int .u8 0),(.int .u8 0),(.int .u8 0),(.int .u8 0),(.int .u8 0),(.int .u8 0),(.int .u8 0),(.int .u8 0),(.int .u8 0),(.int .u8 0),(.int .u8 0),(.int .u8 0),(.int .u8 0),(.int .u8 0),(.int .u8 0),(.int .u8 0),(.int .u8 0),(.slice none 0 0),(.int .i64 0),(.slice none 0 0),(.int .i64 0)] [(44,32,.agg (bY m.obj).toArray),(76,37,gv m s),(113,2,.agg #[.int .i64 m.cY,s.f])]=some (mv (sPiece m) ⟨bE.a,bE.b,bE.c,bE.d,s.e,s.f⟩):=by
  have hm:(m.d.eE s).length=37:=man_len (aV.ok x.wf)
  have e1:cU [(.int .u8 0),(.int .i64 0),(.int .i64 0),(.int .u64 0),(.int .i64 0),(.int .i64 0),(.slice none 0 0),(.slice none 0 0),(.slice none 0 0),(.int .i64 0),(.int .u8 0),(.int .u8 0),(.int .u8 0),(.int .u8 0),(.int .u8 0),(.int .u8 0),(.int .u8 0),(.int .u8 0),(.int .u8 0),(.int .u8 0),(.int .u8 0),(.int .u8 0),(.int .u8 0),(.int .u8 0),(.int .u8 0),(.int .u8 0),(.int .u8 0),(.int .u8 0),(.int .u8 0),(.int .u8 0),(.int .u8 0),(.int .u8 0),(.int .u8 0),(.int .u8 0),(.int .u8 0),(.int .u8 0),(.int .u8 0),(.int .u8 0),(.int .u8 0),(.int .u8 0),(.int .u8 0),(.int .u8 0),(.slice none 0 0),(.bool false),(.int .u8 0),(.int .u8 0),(.int .u8 0),(.int .u8 0),(.int .u8 0),(.int .u8 0),(.int .u8 0),(.int .u8 0),(.int .u8 0),(.int .u8 0),(.int .u8 0),(.int .u8 0),(.int .u8 0),(.int .u8 0),(.int .u8 0),(.int .u8 0),(.int .u8 0),(.int .u8 0),(.int .u8 0),(.int .u8 0),(.int .u8 0),(.int .u8 0),(.int .u8 0),(.int .u8 0),(.int .u8 0),(.int .u8 0),(.int .u8 0),(.int .u8 0),(.int .u8 0),(.int .u8 0),(.int .u8 0),(.int .u8 0),(.int .i64 0),(.int .i64 0),(.int .i64 0),(.int .i64 0),(.int .u8 0),(.int .u8 0),(.int .u8 0),(.int .u8 0),(.int .u8 0),(.int .u8 0),(.int .u8 0),(.int .u8 0),(.int .u8 0),(.int .u8 0),(.int .u8 0),(.int .u8 0),(.int .u8 0),(.int .u8 0),(.int .u8 0),(.int .u8 0),(.int .u8 0),(.int .u8 0),(.int .u8 0),(.int .u8 0),(.int .u8 0),(.int .u8 0),(.int .u8 0),(.int .u8 0),(.int .u8 0),(.int .u8 0),(.int .u8 0),(.int .u8 0),(.int .u8 0),(.int .u8 0),(.int .u8 0),(.int .u8 0),(.slice none 0 0),(.int .i64 0),(.slice none 0 0),(.int .i64 0)] [(44,32,.agg (bY m.obj).toArray),(76,37,gv m s),(113,2,.agg #[.int .i64 m.cY,s.f])]=cU ((aV.z.d.cells bE).take 44++(bY z32++(aV.z.d.cells bE).drop 76)) [(44,32,.agg (bY m.obj).toArray),(76,37,gv m s),(113,2,.agg #[.int .i64 m.cY,s.f])]:=rfl
  unfold cQ
  rw [e1,fG (A:=(aV.z.d.cells bE).take 44) (B:=bY z32) (o:=44) (n:=32) rfl rfl rfl (bS x.wf.obj)]
  have e2 : ∀ r,cU ((aV.z.d.cells bE).take 44++(bY m.obj++(aV.z.d.cells bE).drop 76)) r=cU (((aV.z.d.cells bE).take 44++bY m.obj)++(aV.z.d.eE bE++(aV.z.d.cells bE).drop 113)) r:=fun r=>by
   rw [List.append_assoc];rfl
  rw [e2,fG (A:=(aV.z.d.cells bE).take 44++bY m.obj) (B:=aV.z.d.eE bE) (o:=76) (n:=37) rfl (by rw [List.length_append,bS x.wf.obj];rfl) rfl hm]
  have e3 : ∀ r,cU (((aV.z.d.cells bE).take 44++bY m.obj)++(m.d.eE s++(aV.z.d.cells bE).drop 113)) r=cU (((aV.z.d.cells bE).take 44++(bY m.obj++m.d.eE s))++([.int .i64 0,.slice none 0 0] ++ [.int .i64 0])) r:=fun r=>by
   rw [List.append_assoc,List.append_assoc,List.append_assoc];rfl
  rw [e3,fG (A:=(aV.z.d.cells bE).take 44++(bY m.obj++m.d.eE s)) (B := [.int .i64 0,.slice none 0 0]) (B' := [.int .i64 m.cY,s.f]) (o:=113) (n:=2) rfl (by rw [List.length_append,List.length_append,bS x.wf.obj,hm];rfl) rfl rfl]
  simp only [cU,Option.map_some,List.append_assoc]
  rfl
 have X:Has h ⟨bE.a,bE.b,bE.c,bE.d,s.e,s.f⟩ (sPiece m):=⟨⟨.nil _ _,.nil _ _,.nil _ _,.nil _ _,x.sl.e,x.sl.f⟩,sPiece_wf x.wf⟩
 obtain ⟨hz,h2,z1,oz,u1,u2,X2,o2,_⟩:=made o1 X
 have l113':cq 2 (ptr h.next 113) hz=some (.agg #[.int .i64 m.cY,s.f],hz):=by
  have hm:(m.d.eE s).length=37:=man_len (aV.ok x.wf)
  have hr:(bY m.root).length=32:=bS x.wf.root
  have ho:(bY m.obj).length=32:=bS x.wf.obj
  have hf:=(bx x.sl.f).1
  exact ldN_mid (Old.get oz A.g) (A:=m.d.front s++(bY m.root++([s.d,.bool m.want]++(bY m.obj++m.d.eE s)))) (B := [.int .i64 m.cY,s.f]) (C := [.int .i64 m.code]) (by unfold bI.cells;simp only [List.append_assoc];rfl) (by
   have hf:(m.d.front s).length=10:=rfl
   simp only [List.length_append,hr,ho,hm,hf]
   rfl) rfl (by unfold Abs.bw;simp only [List.all_cons,List.all_nil,hf];rfl)
 have A:=c9 (x1.bG oz) (Old.get oz A.g)
 refine ⟨_,h2,az is107 hG rfl ((t107_eq _ _ _).trans ?_),X2,o2⟩
 unfold t107
 simp -implicitDefEqProofs only [b1, z1, A.bX, A.bU, l113', bl, u1, ah, ao, ar, Nat.zero_add]
 exact fK hr agg37 siz37 (show 2<10 by decide) _ u2
omit hG x in
theorem is119:bF Tryz.prog 119 Tryz.f119:=⟨by kernel_rfl,by kernel_rfl,by kernel_rfl,by kernel_rfl⟩
set_option maxRecDepth 100000 in
theorem r119 : ∃ s' h',CW 119 [mv m s] h=some (mv (sStored m) s',h')∧Has h' s' (sStored m)∧Old h h':=by
 obtain ⟨h1,b1,o1,x1,A,-⟩:=fk x
 have hr:Tryz.f119.results.toList = [.cell 2 37]:=by kernel_rfl
 have bl:cQ [(.int .u8 0),(.int .i64 0),(.int .i64 0),(.int .u64 0),(.int .i64 0),(.int .i64 0),(.slice none 0 0),(.slice none 0 0),(.slice none 0 0),(.int .i64 0),(.int .u8 0),(.int .u8 0),(.int .u8 0),(.int .u8 0),(.int .u8 0),(.int .u8 0),(.int .u8 0),(.int .u8 0),(.int .u8 0),(.int .u8 0),(.int .u8 0),(.int .u8 0),(.int .u8 0),(.int .u8 0),(.int .u8 0),(.int .u8 0),(.int .u8 0),(.int .u8 0),(.int .u8 0),(.int .u8 0),(.int .u8 0),(.int .u8 0),(.int .u8 0),(.int .u8 0),(.int .u8 0),(.int .u8 0),(.int .u8 0),(.int .u8 0),(.int .u8 0),(.int .u8 0),(.int .u8 0),(.int .u8 0),(.slice none 0 0),(.bool false),(.int .u8 0),(.int .u8 0),(.int .u8 0),(.int .u8 0),(.int .u8 0),(.int .u8 0),(.int .u8 0),(.int .u8 0),(.int .u8 0),(.int .u8 0),(.int .u8 0),(.int .u8 0),(.int .u8 0),(.int .u8 0),(.int .u8 0),(.int .u8 0),(.int .u8 0),(.int .u8 0),(.int .u8 0),(.int .u8 0),(.int .u8 0),(.int .u8 0),(.int .u8 0),(.int .u8 0),(.int .u8 0),(.int .u8 0),(.int .u8 0),(.int .u8 0),(.int .u8 0),(.int .u8 0),(.int .u8 0),(.int .u8 0),(.int .i64 0),(.int .i64 0),(.int .i64 0),(.int .i64 0),(.int .u8 0),(.int .u8 0),(.int .u8 0),(.int .u8 0),(.int .u8 0),(.int .u8 0),(.int .u8 0),(.int .u8 0),(.int .u8 0),(.int .u8 0),(.int .u8 0),(.int .u8 0),(.int .u8 0),(.int .u8 0),(.int .u8 0),(.int .u8 0),(.int .u8 0),(.int .u8 0),(.int .u8 0),(.int .u8 0),(.int .u8 0),(.int .u8 0),(.int .u8 0),(.int .u8 0),(.int .u8 0),(.int .u8 0),(.int .u8 0),(.int .u8 0),(.int .u8 0),(.int .u8 0),(.int .u8 0),(.int .u8 0),(.slice none 0 0),(.int .i64 0),(.slice none 0 0),(.int .i64 0)] [(44,32,.agg (bY m.obj).toArray),(115,1,.int .i64 m.code)]=some (mv (sStored m) bE):=by
  have e1:cU [(.int .u8 0),(.int .i64 0),(.int .i64 0),(.int .u64 0),(.int .i64 0),(.int .i64 0),(.slice none 0 0),(.slice none 0 0),(.slice none 0 0),(.int .i64 0),(.int .u8 0),(.int .u8 0),(.int .u8 0),(.int .u8 0),(.int .u8 0),(.int .u8 0),(.int .u8 0),(.int .u8 0),(.int .u8 0),(.int .u8 0),(.int .u8 0),(.int .u8 0),(.int .u8 0),(.int .u8 0),(.int .u8 0),(.int .u8 0),(.int .u8 0),(.int .u8 0),(.int .u8 0),(.int .u8 0),(.int .u8 0),(.int .u8 0),(.int .u8 0),(.int .u8 0),(.int .u8 0),(.int .u8 0),(.int .u8 0),(.int .u8 0),(.int .u8 0),(.int .u8 0),(.int .u8 0),(.int .u8 0),(.slice none 0 0),(.bool false),(.int .u8 0),(.int .u8 0),(.int .u8 0),(.int .u8 0),(.int .u8 0),(.int .u8 0),(.int .u8 0),(.int .u8 0),(.int .u8 0),(.int .u8 0),(.int .u8 0),(.int .u8 0),(.int .u8 0),(.int .u8 0),(.int .u8 0),(.int .u8 0),(.int .u8 0),(.int .u8 0),(.int .u8 0),(.int .u8 0),(.int .u8 0),(.int .u8 0),(.int .u8 0),(.int .u8 0),(.int .u8 0),(.int .u8 0),(.int .u8 0),(.int .u8 0),(.int .u8 0),(.int .u8 0),(.int .u8 0),(.int .u8 0),(.int .i64 0),(.int .i64 0),(.int .i64 0),(.int .i64 0),(.int .u8 0),(.int .u8 0),(.int .u8 0),(.int .u8 0),(.int .u8 0),(.int .u8 0),(.int .u8 0),(.int .u8 0),(.int .u8 0),(.int .u8 0),(.int .u8 0),(.int .u8 0),(.int .u8 0),(.int .u8 0),(.int .u8 0),(.int .u8 0),(.int .u8 0),(.int .u8 0),(.int .u8 0),(.int .u8 0),(.int .u8 0),(.int .u8 0),(.int .u8 0),(.int .u8 0),(.int .u8 0),(.int .u8 0),(.int .u8 0),(.int .u8 0),(.int .u8 0),(.int .u8 0),(.int .u8 0),(.int .u8 0),(.slice none 0 0),(.int .i64 0),(.slice none 0 0),(.int .i64 0)] [(44,32,.agg (bY m.obj).toArray),(115,1,.int .i64 m.code)]=cU ((aV.z.d.cells bE).take 44++(bY z32++(aV.z.d.cells bE).drop 76)) [(44,32,.agg (bY m.obj).toArray),(115,1,.int .i64 m.code)]:=rfl
  unfold cQ
  rw [e1,fG (A:=(aV.z.d.cells bE).take 44) (B:=bY z32) (o:=44) (n:=32) rfl rfl rfl (bS x.wf.obj)]
  have e2 : ∀ r,cU ((aV.z.d.cells bE).take 44++(bY m.obj++(aV.z.d.cells bE).drop 76)) r=cU (((aV.z.d.cells bE).take 44++(bY m.obj++((aV.z.d.cells bE).drop 76).take 39))++([.int .i64 0] ++ [])) r:=fun r=>by
   rw [List.append_assoc,List.append_assoc];rfl
  have e3 : ∀ r,cU (((aV.z.d.cells bE).take 44++(bY m.obj++((aV.z.d.cells bE).drop 76).take 39))++([.int .i64 0] ++ [])) ((115,1,.int .i64 m.code)::r)=cU (((aV.z.d.cells bE).take 44++(bY m.obj++((aV.z.d.cells bE).drop 76).take 39))++([.int .i64 m.code] ++ [])) r:=fun r=>by
   have:=fG (z:=((aV.z.d.cells bE).take 44++(bY m.obj++((aV.z.d.cells bE).drop 76).take 39))++([.int .i64 0] ++ [])) (A:=(aV.z.d.cells bE).take 44++(bY m.obj++((aV.z.d.cells bE).drop 76).take 39)) (B := [.int .i64 0]) (B' := [.int .i64 m.code]) (o:=115) (n:=1) (rest:=r) rfl (by rw [List.length_append,List.length_append,bS x.wf.obj];rfl) rfl rfl
   exact this
  rw [e2,e3]
  simp only [cU,Option.map_some,List.append_assoc]
  rfl
 have X:Has h bE (sStored m):=⟨⟨.nil _ _,.nil _ _,.nil _ _,.nil _ _,.nil _ _,.nil _ _⟩,sStored_wf x.wf⟩
 obtain ⟨hz,h2,z1,oz,u1,u2,X2,o2,_⟩:=made o1 X
 have A:=c9 (x1.bG oz) (Old.get oz A.g)
 refine ⟨_,h2,az is119 hG rfl ((t119_eq _ _ _).trans ?_),X2,o2⟩
 unfold t119
 simp -implicitDefEqProofs only [b1, z1, A.bX, A.ba, bl, u1, ah, ao, ar, Nat.zero_add]
 exact fK hr agg37 siz37 (show 2<8 by decide) _ u2
end
end Go.Proofs.YtjghlcdidopcpaaGreatDoor

