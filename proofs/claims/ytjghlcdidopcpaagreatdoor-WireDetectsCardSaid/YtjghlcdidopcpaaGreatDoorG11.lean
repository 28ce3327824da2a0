/-
  A part of the proof, spaces and names shortened by a program (a claim may hold 1,500,000 bytes).
  Conditions: as each theorem states.
-/
import Derived.Test.YtjghlcdidopcpaaGreatDoorG10
import Derived.OpenShut
namespace Go.Proofs.YtjghlcdidopcpaaGreatDoor
open Go Go.Abs
open Go.ChangeShapes Go.WideShapes Go.ChangeAt Go.RowKit
theorem Typed.app {ks ls:List Kd} {a b:List Value} (x:Typed ks a) (y:Typed ls b):Typed (ks++ls) (a++b):=by
 refine ⟨by rw [List.length_append,List.length_append,x.1,y.1],fun j k hk => ?_⟩
 by_cases hj:j<ks.length
 ·rw [List.getElem?_append_left hj] at hk
  obtain ⟨v,h1,h2⟩:=x.2 j k hk
  exact ⟨v,by rw [List.getElem?_append_left (by rw [x.1];exact hj)];exact h1,h2⟩
 ·rw [List.getElem?_append_right (by omega)] at hk
  obtain ⟨v,h1,h2⟩:=y.2 _ k hk
  exact ⟨v,by rw [List.getElem?_append_right (by rw [x.1];omega),x.1];exact h1,h2⟩
theorem Typed.one {k:Kd} {v:Value} (h:k.has v):Typed [k] [v]:=⟨rfl,fun j t ht=>by
 cases j with
 |zero=>cases ht;exact ⟨v,rfl,h⟩
 |succ j=>cases ht⟩
def Pc (ks:List Kd) (o:Nat) (cs:List Value):Prop:=Typed ks ((cs.drop o).take ks.length)
theorem Pc.app {ks ls:List Kd} {o:Nat} {cs:List Value} (x:Pc ks o cs) (y:Pc ls (o+ks.length) cs):Pc (ks++ls) o cs:=by
 unfold Pc at *
 rw [List.length_append,List.take_add,List.drop_drop]
 exact x.app y
theorem Pc.whole {ks:List Kd} {cs:List Value} (x:Pc ks 0 cs) (h:cs.length=ks.length):Typed ks cs:=by
 unfold Pc at x
 rw [List.drop_zero,←h,List.take_length] at x
 exact x
theorem clean_nice {n:Nat} {v:Value} (h:nice n v=true):clean n v=v:=by unfold clean;rw [if_pos h]
theorem Kd.has.clean {k:Kd} {v:Value} (h:k.has v) (n:Nat):clean n v=v:=by
 cases k with
 |u8=>obtain ⟨m,rfl,_⟩:=h;rfl
 |i k=>obtain ⟨m,rfl,_⟩:=h;rfl
 |b=>obtain ⟨t,rfl⟩:=h;rfl
theorem Typed.clean {ks:List Kd} {cs:List Value} (h:Typed ks cs) (n:Nat):cs.map (clean n)=cs:=by
 refine List.ext_getElem? fun j => ?_
 rw [List.getElem?_map]
 by_cases hj:j<ks.length
 ·obtain ⟨v,h1,h2⟩:=h.2 j _ (List.getElem?_eq_getElem hj)
  rw [h1,Option.map_some,h2.clean]
 ·rw [List.getElem?_eq_none (by rw [h.1];omega)];rfl
theorem u8_lit {n:Int} (h:(Lit.int .u8 n).wf=true) : ∃ m:Nat,n=m∧m<256:=by
 simp [Lit.wf,IntKind.min,IntKind.max,IntKind.signed,IntKind.bits] at h
 exact ⟨n.toNat,by omega,by omega⟩
theorem clean_slice {W:World} {a:Addr} {len cap:Nat} (hlc:len≤cap) (hc:0<cap→a.spot=none∧a.block<W.heap.size) :
  isHole (clean W.heap.size (.slice (some a) len cap))=false ∧ ∃ a' ,clean W.heap.size (.slice (some a) len cap) = .slice (some a') len cap∧(0<cap→a'=a):=by
 obtain ⟨b,off,s⟩:=a
 by_cases h0:0<cap
 ·obtain ⟨h1,h2⟩:=hc h0
  have h1':s=none:=h1
  have h2':b<W.heap.size:=h2
  subst h1'
  have hn:nice W.heap.size (.slice (some ⟨b,off,none⟩) len cap)=true:=by simpa [nice] using h2'
  rw [clean_nice hn]
  exact ⟨rfl,_,rfl,fun _=>rfl⟩
 ·obtain rfl:cap=0:=by omega
  obtain rfl:len=0:=by omega
  by_cases hn:nice W.heap.size (.slice (some ⟨b,off,s⟩) 0 0)=true
  ·rw [clean_nice hn]
   exact ⟨rfl,_,rfl,fun h=>absurd h h0⟩
  ·have:clean W.heap.size (.slice (some ⟨b,off,s⟩) 0 0) = .slice (some ⟨0,0,some 0⟩) 0 0:=by unfold clean;rw [if_neg hn];rfl
   rw [this]
   exact ⟨rfl,_,rfl,fun h=>absurd h h0⟩
theorem add_block (a:Addr) (n:Nat):(a.add n).block=a.block:=by unfold Addr.add;split<;>rfl
theorem add_off (a:Addr) (n:Nat):(a.add n).off=a.off+n:=by
 unfold Addr.add
 split
 ·rename_i h;rw [h];rfl
 ·rfl
section
variable {H:Type} {enc:TypeId×Value→H} {W:World} {base:Nat} {held:Bool}
def Reads (enc:TypeId×Value→H) (W:World) (base:Nat) (held:Bool) (t:TypeId) (ks:List Kd):Prop:=
 ∀ fuel cs x,DataW.trod enc Tryz.prog W base (fun _=>true) held fuel t cs=some x→Typed ks cs
theorem reads_u8 {t:TypeId} (ht:Tryz.prog.underlying t=some (.int .u8)):Reads enc W base held t [.u8]:=fun fuel cs x h=>by
 obtain ⟨n,rfl,_,w⟩:=DataW.trod_int ht h
 obtain ⟨m,rfl,hm⟩:=u8_lit w
 exact .one ⟨m,rfl,hm⟩
theorem reads_i {t:TypeId} {k:IntKind} (ht:Tryz.prog.underlying t=some (.int k)):Reads enc W base held t [.i k]:=fun fuel cs x h=>by
 obtain ⟨n,rfl,_,w⟩:=DataW.trod_int ht h
 exact .one ⟨n,rfl,w⟩
theorem reads_b {t:TypeId} (ht:Tryz.prog.underlying t=some .bool):Reads enc W base held t [.b]:=fun fuel cs x h=>by
 obtain ⟨n,rfl,_⟩:=DataW.trod_bool ht h
 exact .one ⟨n,rfl⟩
theorem reads_arr {t e:TypeId} {n:Nat} {k:Kd} (ht:Tryz.prog.underlying t=some (.array n e)) (h1:Tryz.prog.cellsOf e=1) (hn:Tryz.prog.cellsOf t=n) (R:Reads enc W base held e [k]):Reads enc W base held t (List.replicate n k):=fun fuel cs x h=>by
 obtain ⟨xs,m,rfl,_,hl,hx,hf⟩:=DataW.trod_array ht h
 rw [hn] at hl
 refine ⟨by rw [hl,List.length_replicate],fun j t' hj => ?_⟩
 have hj':j<n:=by
  have:=(List.getElem?_eq_some_iff.1 hj).1
  rwa [List.length_replicate] at this
 rw [List.getElem?_replicate,if_pos hj'] at hj
 cases hj
 have:=hf j hj'
 rw [List.getElem?_eq_getElem (by omega),h1,Nat.mul_one] at this
 obtain ⟨v,g1,g2⟩:=(R _ _ _ this).2 0 k rfl
 rw [List.getElem?_take,if_pos (by omega),List.getElem?_drop,Nat.add_zero] at g1
 exact ⟨v,g1,g2⟩
theorem fld {fuel:Nat} {t:TypeId} {cs:List Value} {x:DataW H×List MemPlace} {fs:Array Field} (ht:Tryz.prog.underlying t=some (.struct fs)) (h:DataW.trod enc Tryz.prog W base (fun _=>true) held fuel t cs=some x) {i z:Nat} {f:Field} (hf:fs[i]? = some f) (hz:Tryz.prog.cellsOf f.type=z) :
  ∃ m y,DataW.trod enc Tryz.prog W base (fun _=>true) held m f.type ((cs.drop f.offset).take z)=some y:=by
 obtain ⟨xs,n,rfl,_,_,hl,h2⟩:=DataW.trod_struct ht h
 have:=h2 i f hf
 rw [List.getElem?_eq_getElem (by rw [hl];exact (Array.getElem?_eq_some_iff.1 hf).1),hz] at this
 exact ⟨_,_,this⟩
theorem piece {fuel:Nat} {t:TypeId} {cs:List Value} {x:DataW H×List MemPlace} {fs:Array Field} (ht:Tryz.prog.underlying t=some (.struct fs)) (h:DataW.trod enc Tryz.prog W base (fun _=>true) held fuel t cs=some x) {i:Nat} {f:Field} {ks:List Kd} (hf:fs[i]? = some f) (hz:Tryz.prog.cellsOf f.type=ks.length)
  (R:Reads enc W base held f.type ks):Pc ks f.offset cs:=by
 obtain ⟨m,y,e⟩:=fld ht h hf hz
 exact R _ _ _ e
theorem sl_of {t e:TypeId} {ks:List Kd} (ht:Tryz.prog.underlying t=some (.slice e)) (he:Tryz.prog.cellsOf e=ks.length) (hz:0<ks.length) (R:Reads enc W base held e ks) {fuel:Nat} {v:Value} {x:DataW H×List MemPlace}
  (h:DataW.trod enc Tryz.prog W base (fun _=>true) held fuel t [v]=some x):isHole (clean W.heap.size v)=false ∧ ∃ n cs,cH (dp W (view W)) ks (clean W.heap.size v) n cs:=by
 have nilT:dQ ks 0 []:=⟨by simp,fun i hi=>absurd hi (Nat.not_lt_zero i)⟩
 rcases DataW.trod_slice ht h with ⟨h1,_⟩|⟨a,len,cap,elems,rest,n,_,h1,_,_,hlc,hcm,hl,hel,hsp,_⟩
 ·cases h1
  exact ⟨rfl,0,[],none,0,rfl,fun _=>rfl,nilT,fun h=>absurd h (Nat.lt_irrefl 0)⟩
 ·cases h1
  rw [he] at hel hsp
  have hpos:0<cap→a.spot=none∧a.block<W.heap.size:=by
   intro h0
   have key : ∃ cs,W.cells? base (a.add (0*ks.length)) ks.length=some cs:=by
    by_cases hlen:0<len
    ·have:=hel 0 hlen
     rw [List.getElem?_eq_getElem (by omega),Option.bind_eq_some_iff] at this
     obtain ⟨cs,hc,_⟩:=this
     exact ⟨cs,hc⟩
    ·have:=(hsp rfl).2 0 (by omega)
     rw [List.getElem?_eq_getElem (by rw [(hsp rfl).1];omega),Option.bind_eq_some_iff] at this
     obtain ⟨cs,hc,_⟩:=this
     obtain rfl:len=0:=by omega
     exact ⟨cs,hc⟩
   obtain ⟨cs,hc⟩:=key
   obtain ⟨_,hlen,hcell⟩:=World.cells?_some hc
   have g:=hcell 0 hz
   obtain ⟨c0,hc0⟩ : ∃ c0,cs[0]? = some c0:=⟨cs[0],List.getElem?_eq_getElem (by omega)⟩
   rw [hc0,Nat.zero_mul] at g
   have g:W.cell? a=some c0:=g
   obtain ⟨e1,e2,_⟩:=view_cell g
   exact ⟨e1,e2⟩
  obtain ⟨g1,a',g2,g3⟩:=clean_slice (W:=W) hlc hpos
  refine ⟨g1,len,?_⟩
  by_cases h0:len=0
  ·subst h0
   exact ⟨[],_,_,g2,fun _=>rfl,nilT,fun h=>absurd h (Nat.lt_irrefl 0)⟩
  have ha:=g3 (by omega)
  subst ha
  have each : ∀ i,i<len → ∃ k es,view W a'.block=some k∧Typed ks es ∧ ∀ j,j<ks.length→k[a'.off+i*ks.length+j]? = es[j]? := by
   intro i hi
   have h2:=hel i hi
   rw [List.getElem?_eq_getElem (by omega),Option.bind_eq_some_iff] at h2
   obtain ⟨es,hc,ht⟩:=h2
   have ty:=R _ _ _ ht
   obtain ⟨_,hlen,hcell⟩:=World.cells?_some hc
   have vc : ∀ j,j<ks.length → ∃ k,view W a'.block=some k∧k[a'.off+i*ks.length+j]? = es[j]? := by
    intro j hj
    obtain ⟨u,h3,h4⟩:=ty.2 j _ (List.getElem?_eq_getElem hj)
    have g:=hcell j hj
    rw [h3] at g
    obtain ⟨_,_,k,hk,hc2⟩:=view_cell g
    rw [add_block,add_block] at hk
    rw [add_off,add_off,h4.clean] at hc2
    exact ⟨k,hk,by rw [hc2,h3]⟩
   obtain ⟨k,hk,_⟩:=vc 0 hz
   refine ⟨k,es,hk,ty,fun j hj => ?_⟩
   obtain ⟨k',hk',e⟩:=vc j hj
   rw [hk] at hk'
   cases hk'
   exact e
  obtain ⟨k,_,hk,_⟩:=each 0 (by omega)
  have each : ∀ i,i<len → ∃ es,Typed ks es ∧ ∀ j,j<ks.length→k[a'.off+i*ks.length+j]? = es[j]? := fun i hi=>by
   obtain ⟨k',es,hk',h1,h2⟩:=each i hi
   rw [hk] at hk'
   cases hk'
   exact ⟨es,h1,h2⟩
  have hlen:a'.off+len*ks.length≤k.length:=by
   obtain ⟨es,ty,e⟩:=each (len-1) (by omega)
   have:=e (ks.length-1) (by omega)
   obtain ⟨u,hu,_⟩:=ty.2 (ks.length-1) _ (List.getElem?_eq_getElem (by omega))
   rw [hu] at this
   have:=(List.getElem?_eq_some_iff.1 this).1
   have h9:len*ks.length=(len-1)*ks.length+ks.length:=by
    conv=>lhs;rw [show len=(len-1)+1 by omega,Nat.add_mul,Nat.one_mul]
   omega
  refine ⟨(k.drop a'.off).take (len*ks.length),_,_,g2,fun h=>(by cases h),⟨by rw [List.length_take,List.length_drop];omega,fun i hi => ?_⟩,fun _=>⟨a'.block,a'.off,a'.spot,k,rfl,by rw [view_get];exact hk,hlen,rfl⟩⟩
  obtain ⟨es,ty,e⟩:=each i hi
  have hm:=mul_le (z:=ks.length) hi
  have:(((k.drop a'.off).take (len*ks.length)).drop (i*ks.length)).take ks.length=es:=by
   refine List.ext_getElem? fun j => ?_
   rw [List.getElem?_take]
   by_cases hj:j<ks.length
   ·rw [if_pos hj,List.getElem?_drop,List.getElem?_take,if_pos (by omega),List.getElem?_drop,←e j hj,Nat.add_assoc]
   ·rw [if_neg hj,List.getElem?_eq_none (by rw [ty.1];omega)]
  rw [this]
  exact ty
end
end Go.Proofs.YtjghlcdidopcpaaGreatDoor

namespace Go.Proofs.YtjghlcdidopcpaaGreatDoor
open Go Go.Abs
open Go.ChangeShapes Go.WideShapes Go.ChangeAt Go.RowKit
theorem cut (l:List Value) (n:Nat) (h:n≤l.length) : ∃ a b,l=a++b∧a.length=n∧b.length=l.length-n:=
 ⟨l.take n,l.drop n,(List.take_append_drop n l).symm,by rw [List.length_take];omega,by rw [List.length_drop]⟩
theorem msg_cut {l:List Value} (h:l.length=116) : ∃ a0 a1 a2 a3 a4 a5 a6 a7 a8 a9 r d w o g0 g1 g2 g3 mo e i f c,l = [a0,a1,a2,a3,a4,a5,a6,a7,a8,a9]++(r++([d,w]++(o++(([g0,g1,g2,g3]++(mo ++ [e])) ++ [i,f,c]))))∧r.length=32∧o.length=32∧mo.length=32:=by
 obtain ⟨A,l1,rfl,hA,h1⟩:=cut l 10 (by omega)
 obtain ⟨r,l2,rfl,hr,h2⟩:=cut l1 32 (by omega)
 obtain ⟨D,l3,rfl,hD,h3⟩:=cut l2 2 (by omega)
 obtain ⟨o,l4,rfl,ho,h4⟩:=cut l3 32 (by omega)
 obtain ⟨G,l5,rfl,hG,h5⟩:=cut l4 4 (by omega)
 obtain ⟨mo,l6,rfl,hm,h6⟩:=cut l5 32 (by omega)
 have h7:l6.length=4:=by omega
 match A,hA,D,hD,G,hG,l6,h7 with
 | [a0,a1,a2,a3,a4,a5,a6,a7,a8,a9],_,[d,w],_,[g0,g1,g2,g3],_,[e,i,f,c],_=>
   exact ⟨a0,a1,a2,a3,a4,a5,a6,a7,a8,a9,r,d,w,o,g0,g1,g2,g3,mo,e,i,f,c,by simp,hr,ho,hm⟩
theorem take_one {l:List Value} {o:Nat} {v:Value} (e:l[o]? = some v):(l.drop o).take 1 = [v]:=by
 obtain ⟨ho,rfl⟩:=List.getElem?_eq_some_iff.1 e
 rw [List.drop_eq_getElem_cons ho]
 rfl
section
variable {H:Type} {enc:TypeId×Value→H} {W:World} {base:Nat} {held:Bool}
theorem rd5:Reads enc W base held 5 [.u8]:=reads_u8 Tryz.underlying5
theorem rd28:Reads enc W base held 28 eg:=reads_arr Tryz.underlying28 (by kernel_rfl) (by kernel_rfl) rd5
theorem rd58:Reads enc W base held 58 memK:=fun fuel cs x h=>by
 have p0:Pc [.i .u64] 0 cs:=piece Tryz.underlying58 h (i:=0) rfl (by kernel_rfl) (reads_i Tryz.underlying25)
 have p1:Pc [.u8] 1 cs:=piece Tryz.underlying58 h (i:=1) rfl (by kernel_rfl) (reads_u8 Tryz.underlying56)
 obtain ⟨_,_,_,_,hl,_⟩:=DataW.trod_struct Tryz.underlying58 h
 exact (p0.app p1).whole (hl.trans (by kernel_rfl))
theorem rd61:Reads enc W base held 61 recK:=fun fuel cs x h=>by
 have p0:Pc [.u8] 0 cs:=piece Tryz.underlying61 h (i:=0) rfl (by kernel_rfl) (reads_u8 Tryz.underlying59)
 have p1:Pc eg 1 cs:=piece Tryz.underlying61 h (i:=1) rfl (by kernel_rfl) rd28
 have p2:Pc [.i .i64] 33 cs:=piece Tryz.underlying61 h (i:=2) rfl (by kernel_rfl) (reads_i Tryz.underlying3)
 have p3:Pc [.i .u64] 34 cs:=piece Tryz.underlying61 h (i:=3) rfl (by kernel_rfl) (reads_i Tryz.underlying25)
 have p4:Pc [.i .u64] 35 cs:=piece Tryz.underlying61 h (i:=4) rfl (by kernel_rfl) (reads_i Tryz.underlying25)
 have p5:Pc [.b] 36 cs:=piece Tryz.underlying61 h (i:=5) rfl (by kernel_rfl) (reads_b Tryz.underlying4)
 have p6:Pc [.i .i64] 37 cs:=piece Tryz.underlying61 h (i:=6) rfl (by kernel_rfl) (reads_i Tryz.underlying3)
 have p7:Pc [.i .i64] 38 cs:=piece Tryz.underlying61 h (i:=7) rfl (by kernel_rfl) (reads_i Tryz.underlying3)
 obtain ⟨_,_,_,_,hl,_⟩:=DataW.trod_struct Tryz.underlying61 h
 exact (((((((p0.app p1).app p2).app p3).app p4).app p5).app p6).app p7).whole (hl.trans (by kernel_rfl))
theorem sl26 {fuel:Nat} {v:Value} {x:DataW H×List MemPlace} (h:DataW.trod enc Tryz.prog W base (fun _=>true) held fuel 26 [v]=some x):isHole (clean W.heap.size v)=false ∧ ∃ n cs,cH (dp W (view W)) memK (clean W.heap.size v) n cs:=sl_of Tryz.underlying26 (ks:=memK) (by kernel_rfl) (by decide) rd58 h
theorem sl22 {fuel:Nat} {v:Value} {x:DataW H×List MemPlace} (h:DataW.trod enc Tryz.prog W base (fun _=>true) held fuel 22 [v]=some x):isHole (clean W.heap.size v)=false ∧ ∃ n cs,cH (dp W (view W)) [.u8] (clean W.heap.size v) n cs:=sl_of Tryz.underlying22 (ks := [.u8]) (by kernel_rfl) (by decide) rd5 h
theorem sl29 {fuel:Nat} {v:Value} {x:DataW H×List MemPlace} (h:DataW.trod enc Tryz.prog W base (fun _=>true) held fuel 29 [v]=some x):isHole (clean W.heap.size v)=false ∧ ∃ n cs,cH (dp W (view W)) recK (clean W.heap.size v) n cs:=sl_of Tryz.underlying29 (ks:=recK) (by kernel_rfl) (by decide) rd61 h
theorem sl30 {fuel:Nat} {v:Value} {x:DataW H×List MemPlace} (h:DataW.trod enc Tryz.prog W base (fun _=>true) held fuel 30 [v]=some x):isHole (clean W.heap.size v)=false ∧ ∃ n cs,cH (dp W (view W)) eg (clean W.heap.size v) n cs:=sl_of Tryz.underlying30 (ks:=eg) (by kernel_rfl) (by decide) rd28 h
theorem fld1 {fuel:Nat} {t:TypeId} {cs:List Value} {x:DataW H×List MemPlace} {fs:Array Field} (ht:Tryz.prog.underlying t=some (.struct fs)) (h:DataW.trod enc Tryz.prog W base (fun _=>true) held fuel t cs=some x) {i:Nat} {f:Field} (hf:fs[i]? = some f) (hz:Tryz.prog.cellsOf f.type=1) {v:Value} (e:cs[f.offset]? = some v) :
  ∃ m y,DataW.trod enc Tryz.prog W base (fun _=>true) held m f.type [v]=some y:=by
 obtain ⟨m,y,q⟩:=fld ht h hf hz
 rw [take_one e] at q
 exact ⟨m,y,q⟩
theorem fldN {fuel:Nat} {t:TypeId} {cs A B C:List Value} {x:DataW H×List MemPlace} {fs:Array Field} (ht:Tryz.prog.underlying t=some (.struct fs)) (h:DataW.trod enc Tryz.prog W base (fun _=>true) held fuel t cs=some x) {i z:Nat} {f:Field} (hf:fs[i]? = some f) (hz:Tryz.prog.cellsOf f.type=z) (e:cs=A++(B++C)) (hA:A.length=f.offset) (hB:B.length=z) :
  ∃ m y,DataW.trod enc Tryz.prog W base (fun _=>true) held m f.type B=some y:=by
 obtain ⟨m,y,q⟩:=fld ht h hf hz
 rw [mid e hA hB] at q
 exact ⟨m,y,q⟩
structure bI.Rng (M:bI):Prop where
 kind:(Lit.int .u8 M.kind).wf=true
 from_:(Lit.int .i64 M.from_).wf=true
 to_:(Lit.int .i64 M.to_).wf=true
 seq:(Lit.int .u64 M.seq).wf=true
 origin:(Lit.int .i64 M.origin).wf=true
 target:(Lit.int .i64 M.target).wf=true
 count:(Lit.int .i64 M.count).wf=true
 gk:(Lit.int .i64 M.gk).wf=true
 gn:(Lit.int .i64 M.gn).wf=true
 gt:(Lit.int .i64 M.gt).wf=true
 gs:(Lit.int .i64 M.gs).wf=true
 de:(Lit.int .i64 M.de).wf=true
 code:(Lit.int .i64 M.code).wf=true
theorem trod_msg {fuel:Nat} {cs:List Value} {x:DataW H×List MemPlace} (h:DataW.trod enc Tryz.prog W base (fun _=>true) held fuel 37 cs=some x) :
  ∃ (M:bI) (s:dN) (n:N6),cs.map (clean W.heap.size)=M.cells s∧SlV (dp W (view W)) s n M∧M.Ok∧M.Rng:=by
 obtain ⟨_,_,_,_,hl,_⟩:=DataW.trod_struct Tryz.underlying37 h
 obtain ⟨a0,a1,a2,a3,a4,a5,a6,a7,a8,a9,r,d,w,o,g0,g1,g2,g3,mo,e,i,f,c,rfl,hr,ho,hm⟩:=msg_cut (hl.trans (show Tryz.prog.cellsOf 37=116 by kernel_rfl))
 have c1:Tryz.prog.cellsOf 3=1:=by kernel_rfl
 have c24:Tryz.prog.cellsOf 24=1:=by kernel_rfl
 have c25:Tryz.prog.cellsOf 25=1:=by kernel_rfl
 have c4:Tryz.prog.cellsOf 4=1:=by kernel_rfl
 have c22:Tryz.prog.cellsOf 22=1:=by kernel_rfl
 have c26:Tryz.prog.cellsOf 26=1:=by kernel_rfl
 have c29:Tryz.prog.cellsOf 29=1:=by kernel_rfl
 have c30:Tryz.prog.cellsOf 30=1:=by kernel_rfl
 have c35:Tryz.prog.cellsOf 35=1:=by kernel_rfl
 have c28:Tryz.prog.cellsOf 28=32:=by kernel_rfl
 have c32:Tryz.prog.cellsOf 32=37:=by kernel_rfl
 have c34:Tryz.prog.cellsOf 34=2:=by kernel_rfl
 obtain ⟨_,_,q0⟩:=fld1 Tryz.underlying37 h (i:=0) rfl c24 (v:=a0) rfl
 obtain ⟨n0,e0,_,we0⟩:=DataW.trod_int Tryz.underlying24 q0
 obtain ⟨_,_,q1⟩:=fld1 Tryz.underlying37 h (i:=1) rfl c1 (v:=a1) rfl
 obtain ⟨n1,e1,_,we1⟩:=DataW.trod_int Tryz.underlying3 q1
 obtain ⟨_,_,q2⟩:=fld1 Tryz.underlying37 h (i:=2) rfl c1 (v:=a2) rfl
 obtain ⟨n2,e2,_,we2⟩:=DataW.trod_int Tryz.underlying3 q2
 obtain ⟨_,_,q3⟩:=fld1 Tryz.underlying37 h (i:=3) rfl c25 (v:=a3) rfl
 obtain ⟨n3,e3,_,we3⟩:=DataW.trod_int Tryz.underlying25 q3
 obtain ⟨_,_,q4⟩:=fld1 Tryz.underlying37 h (i:=4) rfl c1 (v:=a4) rfl
 obtain ⟨n4,e4,_,we4⟩:=DataW.trod_int Tryz.underlying3 q4
 obtain ⟨_,_,q5⟩:=fld1 Tryz.underlying37 h (i:=5) rfl c1 (v:=a5) rfl
 obtain ⟨n5,e5,_,we5⟩:=DataW.trod_int Tryz.underlying3 q5
 obtain ⟨_,_,q6⟩:=fld1 Tryz.underlying37 h (i:=6) rfl c26 (v:=a6) rfl
 obtain ⟨_,n6,t6,s6⟩:=sl26 q6
 obtain ⟨_,_,q7⟩:=fld1 Tryz.underlying37 h (i:=7) rfl c22 (v:=a7) rfl
 obtain ⟨_,n7,t7,s7⟩:=sl22 q7
 obtain ⟨_,_,q8⟩:=fld1 Tryz.underlying37 h (i:=8) rfl c22 (v:=a8) rfl
 obtain ⟨_,n8,t8,s8⟩:=sl22 q8
 obtain ⟨_,_,q9⟩:=fld1 Tryz.underlying37 h (i:=9) rfl c1 (v:=a9) rfl
 obtain ⟨n9,e9,_,we9⟩:=DataW.trod_int Tryz.underlying3 q9
 obtain ⟨_,_,q10⟩:=fldN Tryz.underlying37 h (i:=10) rfl c28 rfl (A := [a0,a1,a2,a3,a4,a5,a6,a7,a8,a9]) (B:=r) rfl hr
 have t10:=rd28 _ _ _ q10
 obtain ⟨_,_,q11⟩:=fld1 Tryz.underlying37 h (i:=11) rfl c29 (v:=d) (by simp [hr])
 obtain ⟨_,n11,t11,s11⟩:=sl29 q11
 obtain ⟨_,_,q12⟩:=fld1 Tryz.underlying37 h (i:=12) rfl c4 (v:=w) (by simp [List.getElem?_append,hr])
 obtain ⟨n12,e12,_⟩:=DataW.trod_bool Tryz.underlying4 q12
 obtain ⟨_,_,dO⟩:=fldN Tryz.underlying37 h (i:=13) rfl c28 (A := [a0,a1,a2,a3,a4,a5,a6,a7,a8,a9]++(r ++ [d,w])) (B:=o) (C:=([g0,g1,g2,g3]++(mo ++ [e])) ++ [i,f,c]) (by simp only [List.append_assoc]) (by simp [hr]) ho
 have t13:=rd28 _ _ _ dO
 obtain ⟨_,_,q14⟩:=fldN Tryz.underlying37 h (i:=14) rfl c32 (A := [a0,a1,a2,a3,a4,a5,a6,a7,a8,a9]++(r++([d,w]++o))) (B := [g0,g1,g2,g3]++(mo ++ [e])) (C := [i,f,c]) (by simp only [List.append_assoc]) (by simp [hr,ho]) (by simp [hm])
 obtain ⟨_,_,q15⟩:=fldN Tryz.underlying37 h (i:=15) rfl c34 (A := [a0,a1,a2,a3,a4,a5,a6,a7,a8,a9]++(r++([d,w]++(o++([g0,g1,g2,g3]++(mo ++ [e])))))) (B := [i,f]) (C := [c]) (by simp only [List.append_assoc];rfl) (by simp [hr,ho,hm]) rfl
 obtain ⟨_,_,q16⟩:=fld1 Tryz.underlying37 h (i:=16) rfl c35 (v:=c) (by simp [hr, ho, hm])
 obtain ⟨n16,e16,_,we16⟩:=DataW.trod_int Tryz.underlying35 q16
 obtain ⟨_,_,u0⟩:=fld1 Tryz.underlying32 q14 (i:=0) rfl c1 (v:=g0) rfl
 obtain ⟨k0,f0,_,wf0⟩:=DataW.trod_int Tryz.underlying3 u0
 obtain ⟨_,_,u1⟩:=fld1 Tryz.underlying32 q14 (i:=1) rfl c1 (v:=g1) rfl
 obtain ⟨k1,f1,_,wf1⟩:=DataW.trod_int Tryz.underlying3 u1
 obtain ⟨_,_,u2⟩:=fld1 Tryz.underlying32 q14 (i:=2) rfl c1 (v:=g2) rfl
 obtain ⟨k2,f2,_,wf2⟩:=DataW.trod_int Tryz.underlying3 u2
 obtain ⟨_,_,u3⟩:=fld1 Tryz.underlying32 q14 (i:=3) rfl c1 (v:=g3) rfl
 obtain ⟨k3,f3,_,wf3⟩:=DataW.trod_int Tryz.underlying3 u3
 obtain ⟨_,_,u4⟩:=fldN Tryz.underlying32 q14 (i:=4) rfl c28 (A := [g0,g1,g2,g3]) (B:=mo) rfl rfl hm
 have t4:=rd28 _ _ _ u4
 obtain ⟨_,_,u5⟩:=fld1 Tryz.underlying32 q14 (i:=5) rfl c30 (v:=e) (by simp [hm])
 obtain ⟨_,n17,t17,s17⟩:=sl30 u5
 obtain ⟨_,_,v0⟩:=fld1 Tryz.underlying34 q15 (i:=0) rfl c1 (v:=i) rfl
 obtain ⟨n18,f18,_,wf18⟩:=DataW.trod_int Tryz.underlying3 v0
 obtain ⟨_,_,v1⟩:=fld1 Tryz.underlying34 q15 (i:=1) rfl c22 (v:=f) rfl
 obtain ⟨_,n19,t19,s19⟩:=sl22 v1
 cases e0;cases e1;cases e2;cases e3;cases e4;cases e5;cases e9;cases e12;cases e16;cases f0;cases f1;cases f2;cases f3;cases f18
 refine ⟨⟨n0,n1,n2,n3,n4,n5,n9,r,n12,o,k0,k1,k2,k3,mo,n18,n16,t6,t7,t8,t11,t17,t19⟩,⟨_,_,_,_,_,_⟩,⟨n6,n7,n8,n11,n17,n19⟩,?_,⟨s6,s7,s8,s11,s17,s19⟩,⟨t10,t13,t4⟩,⟨we0,we1,we2,we3,we4,we5,we9,wf0,wf1,wf2,wf3,wf18,we16⟩⟩
 simp only [List.map_append,List.map_cons,List.map_nil,t10.clean,t13.clean,t4.clean]
 rfl
end
end Go.Proofs.YtjghlcdidopcpaaGreatDoor

namespace Go.Proofs.YtjghlcdidopcpaaGreatDoor
open Go Go.Abs
open Go.ChangeShapes Go.WideShapes Go.ChangeAt Go.RowKit
@[ext] structure ee where
  inc:Nat
  st:Nat
@[ext] structure bT where
  kind:Nat
  obj:List Nat
  dg:Int
  inc:Nat
  num:Nat
  held:Bool
  k:Int
  n:Int
@[ext] structure bc where
  kind:Nat
  from_:Int
  to_:Int
  seq:Nat
  origin:Int
  target:Int
  count:Int
  root:List Nat
  want:Bool
  obj:List Nat
  gk:Int
  gn:Int
  gt:Int
  gs:Int
  cK:List Nat
  de:Int
  code:Int
  table:List ee
  low:List Nat
  high:List Nat
  cR:List bT
  pieces:List (List Nat)
  data:List Nat
abbrev bZ (l:List Nat):List Value:=l.map u8
def dm (m:ee):List Value := [.int .u64 (m.inc:Int),.int .u8 (m.st:Int)]
def recC (r:bT):List Value := .int .u8 (r.kind:Int)::(bZ r.obj ++ [.int .i64 r.dg,.int .u64 (r.inc:Int),.int .u64 (r.num:Int),.bool r.held,.int .i64 r.k,.int .i64 r.n])
def bc.d (m:bc):bI:=⟨m.kind,m.from_,m.to_,m.seq,m.origin,m.target,m.count,bZ m.root,m.want,bZ m.obj,m.gk,m.gn,m.gt,m.gs,bZ m.cK,m.de,m.code,m.table.flatMap dm,bZ m.low,bZ m.high,m.cR.flatMap recC,m.pieces.flatMap bZ,bZ m.data⟩
def bc.n (m:bc):N6:=⟨m.table.length,m.low.length,m.high.length,m.cR.length,m.pieces.length,m.data.length⟩
def I64 (n:Int):Prop := -9223372036854775808≤n∧n≤9223372036854775807
def dv (l:List Nat):Prop := ∀ x∈l,x<256
def D32 (l:List Nat):Prop:=l.length=32∧dv l
structure ee.Wf (m:ee):Prop where
 inc:m.inc<18446744073709551616
 st:m.st<256
structure bT.Wf (r:bT):Prop where
 kind:r.kind<256
 obj:D32 r.obj
 dg:I64 r.dg
 inc:r.inc<18446744073709551616
 num:r.num<18446744073709551616
 k:I64 r.k
 n:I64 r.n
structure bc.Wf (m:bc):Prop where
 kind:m.kind<256
 from_:I64 m.from_
 to_:I64 m.to_
 seq:m.seq<18446744073709551616
 origin:I64 m.origin
 target:I64 m.target
 count:I64 m.count
 root:D32 m.root
 obj:D32 m.obj
 gk:I64 m.gk
 gn:I64 m.gn
 gt:I64 m.gt
 gs:I64 m.gs
 cK:D32 m.cK
 de:I64 m.de
 code:I64 m.code
 table : ∀ x∈m.table,x.Wf
 low:dv m.low
 high:dv m.high
 cR : ∀ x∈m.cR,x.Wf
 pieces : ∀ x∈m.pieces,D32 x
 data:dv m.data
theorem wf_i64 {n:Int}:(Lit.int .i64 n).wf=true↔I64 n:=by
 unfold I64
 simp [Lit.wf,IntKind.min,IntKind.max,IntKind.signed,IntKind.bits]
theorem wf_u64 {n:Int} (h:(Lit.int .u64 n).wf=true) : ∃ m:Nat,n=m∧m<18446744073709551616:=by
 simp [Lit.wf,IntKind.min,IntKind.max,IntKind.signed,IntKind.bits] at h
 exact ⟨n.toNat,by omega,by omega⟩
theorem wf_u64' {m:Nat} (h:m<18446744073709551616):(Lit.int .u64 (m:Int)).wf=true:=by
 simp [Lit.wf,IntKind.min,IntKind.max,IntKind.signed,IntKind.bits]
 omega
theorem dig_of {xs:List Value} (h:Typed eg xs) : ∃ l,xs=bZ l∧D32 l:=by
 have hl:xs.length=32:=h.1
 have key : ∀ n,n≤32 → ∃ l:List Nat,xs.take n=bZ l∧l.length=n∧dv l:=by
  intro n
  induction n with
  |zero=>exact fun _=>⟨[],rfl,rfl,fun x hx=>by cases hx⟩
  |succ n ih=>
   intro hn
   obtain ⟨l,h1,h2,h3⟩:=ih (by omega)
   obtain ⟨m,h4,h5⟩:=dig_get h (i:=n) (by omega)
   refine ⟨l ++ [m],?_,by simp [h2],fun x hx => ?_⟩
   ·rw [List.take_add_one,h1,h4]
    simp [bZ]
   ·rcases List.mem_append.1 hx with hx|hx
    ·exact h3 x hx
    ·simp only [List.mem_cons,List.not_mem_nil,or_false] at hx
     subst hx;exact h5
 obtain ⟨l,h1,h2,h3⟩:=key 32 (Nat.le_refl _)
 rw [List.take_of_length_le (by omega)] at h1
 exact ⟨l,h1,h2,h3⟩
theorem dX {l:List Nat} (h:D32 l):Typed eg (bZ l):=by
 refine ⟨by rw [List.length_map];exact h.1,fun j k hk => ?_⟩
 have hj:j<32:=by
  have:=(List.getElem?_eq_some_iff.1 hk).1
  simpa [eg] using this
 unfold eg at hk
 rw [List.getElem?_replicate,if_pos hj] at hk
 cases hk
 have hj':j<l.length:=by rw [h.1];exact hj
 exact ⟨_,by rw [List.getElem?_map,List.getElem?_eq_getElem hj'];rfl,_,rfl,h.2 _ (List.getElem_mem hj')⟩
theorem mem_of {xs:List Value} (h:Typed memK xs) : ∃ m,xs=dm m∧m.Wf:=by
 have hl:xs.length=2:=h.1
 match xs,hl with
 | [v,w],_=>
   obtain ⟨_,h1,a,rfl,wa⟩:=h.2 0 (.i .u64) rfl
   obtain ⟨_,h2,b,rfl,hb⟩:=h.2 1 .u8 rfl
   cases h1;cases h2
   obtain ⟨m,rfl,hm⟩:=wf_u64 wa
   exact ⟨⟨m,b⟩,rfl,hm,hb⟩
theorem mem_typed {m:ee} (h:m.Wf):Typed memK (dm m):=
 (Typed.one (k := .i .u64) ⟨_,rfl,wf_u64' h.inc⟩).app (Typed.one (k := .u8) ⟨_,rfl,h.st⟩)
theorem rec_of {xs:List Value} (h:Typed recK xs) : ∃ r,xs=recC r∧r.Wf:=by
 obtain ⟨a,o,b,c,d,e,f,g,rfl,ho,ha,wb,wc,wd,wf,wg⟩:=rec_form h
 obtain ⟨l,rfl,hl⟩:=dig_of ho
 obtain ⟨c,rfl,hc⟩:=wf_u64 wc
 obtain ⟨d,rfl,hd⟩:=wf_u64 wd
 exact ⟨⟨a,l,b,c,d,e,f,g⟩,rfl,ha,hl,wf_i64.1 wb,hc,hd,wf_i64.1 wf,wf_i64.1 wg⟩
theorem rec_typed {r:bT} (h:r.Wf):Typed recK (recC r):=
 (Typed.one (k := .u8) ⟨_,rfl,h.kind⟩).app ((dX h.obj).app ((Typed.one (k := .i .i64) ⟨_,rfl,wf_i64.2 h.dg⟩).app ((Typed.one (k := .i .u64) ⟨_,rfl,wf_u64' h.inc⟩).app ((Typed.one (k := .i .u64) ⟨_,rfl,wf_u64' h.num⟩).app
  ((Typed.one (k := .b) ⟨_,rfl⟩).app ((Typed.one (k := .i .i64) ⟨_,rfl,wf_i64.2 h.k⟩).app (Typed.one (k := .i .i64) ⟨_,rfl,wf_i64.2 h.n⟩)))))))
theorem list_of {ks:List Kd} {α:Type} {f:α→List Value} {P:α→Prop} (hf : ∀ xs,Typed ks xs → ∃ a,xs=f a∧P a) : ∀ (n:Nat) (cs:List Value),dQ ks n cs → ∃ l:List α,l.length=n∧cs=l.flatMap f ∧ ∀ a∈l,P a
 | 0,cs,h=>⟨[],rfl,by
   have:cs.length=0:=by rw [h.1,Nat.zero_mul]
   exact List.length_eq_zero_iff.1 this,fun a ha=>by cases ha⟩
 |n+1,cs,h=>by
  have hl:cs.length=(n+1)*ks.length:=h.1
  have h0:=h.2 0 (by omega)
  rw [Nat.zero_mul,List.drop_zero] at h0
  obtain ⟨a,ha,pa⟩:=hf _ h0
  have hl2:(cs.drop ks.length).length=n*ks.length:=by rw [List.length_drop,hl,Nat.add_mul];omega
  obtain ⟨l,q1,q2,q3⟩:=list_of hf n (cs.drop ks.length) ⟨hl2,fun i hi=>by
   have:=h.2 (i+1) (by omega)
   rw [List.drop_drop,show ks.length+i*ks.length=(i+1)*ks.length by rw [Nat.add_mul];omega]
   exact this⟩
  refine ⟨a::l,by simp [q1],?_,fun b hb => ?_⟩
  ·rw [List.flatMap_cons,←ha,←q2,List.take_append_drop]
  ·rcases List.mem_cons.1 hb with rfl|hb
   ·exact pa
   ·exact q3 b hb
theorem ey {ks:List Kd} {α:Type} {f:α→List Value} {P:α→Prop} (hf : ∀ a,P a→Typed ks (f a)) : ∀ (l:List α),(∀ a∈l,P a)→dQ ks l.length (l.flatMap f)
 | [],_=>⟨by simp,fun i hi=>absurd hi (Nat.not_lt_zero i)⟩
 |a::l,h=>by
  have ih:=ey hf l (fun b hb=>h b (List.mem_cons_of_mem _ hb))
  have ha:=hf a (h a (List.mem_cons_self ..))
  have hl:(f a).length=ks.length:=ha.1
  refine ⟨by rw [List.flatMap_cons,List.length_append,ih.1,hl,List.length_cons,Nat.add_mul];omega,fun i hi => ?_⟩
  rw [List.flatMap_cons]
  cases i with
  |zero=>rw [Nat.zero_mul,List.drop_zero,←hl,List.take_left];exact ha
  |succ i=>
   have hi':i<l.length:=by simpa using hi
   rw [show (i+1)*ks.length=(f a).length+i*ks.length by rw [Nat.add_mul,hl];omega,List.drop_length_add_append]
   exact ih.2 i hi'
theorem byte_of {xs:List Value} (h:Typed [.u8] xs) : ∃ b:Nat,xs = [u8 b]∧b<256:=by
 have hl:xs.length=1:=h.1
 match xs,hl with
 | [v],_=>
   obtain ⟨_,h1,a,rfl,ha⟩:=h.2 0 .u8 rfl
   cases h1
   exact ⟨a,rfl,ha⟩
theorem flat_one (l:List Nat):l.flatMap (fun b => [u8 b])=bZ l:=by
 induction l with
 |nil=>rfl
 |cons x l ih=>rw [List.flatMap_cons,ih];rfl
theorem bytes_of_typed {n:Nat} {cs:List Value} (h:dQ [.u8] n cs) : ∃ l:List Nat,l.length=n∧cs=bZ l∧dv l:=by
 obtain ⟨l,h1,h2,h3⟩:=list_of (f:=fun b => [u8 b]) (P:=fun b=>b<256) (fun xs hx=>byte_of hx) n cs h
 exact ⟨l,h1,by rw [h2,flat_one],h3⟩
theorem bytes_typed {l:List Nat} (h:dv l):dQ [.u8] l.length (bZ l):=by
 have:=ey (ks := [.u8]) (f:=fun b => [u8 b]) (P:=fun b=>b<256) (fun b hb=>Typed.one (k := .u8) ⟨b,rfl,hb⟩) l h
 rwa [flat_one] at this
theorem bc.ok {m:bc} (h:m.Wf):m.d.Ok:=⟨dX h.root,dX h.obj,dX h.cK⟩
theorem msg_of {h:ai} {s:dN} {n:N6} {M:bI} (x:SlV h s n M) (ok:M.Ok) (rg:M.Rng) : ∃ m:bc,m.d=M∧m.n=n∧m.Wf:=by
 obtain ⟨kd,fr,to,sq,og,tg,ct,rt,wt,ob,gk,gn,gt,gs,mo,pi,co,tb,lo,hi,rc,pc,da⟩:=M
 obtain ⟨n1,n2,n3,n4,n5,n6⟩:=n
 obtain ⟨kd,rfl,hk⟩:=u8_lit rg.kind
 obtain ⟨sq,rfl,hs⟩:=wf_u64 rg.seq
 obtain ⟨rt,rfl,hrt⟩:=dig_of ok.root
 obtain ⟨ob,rfl,hob⟩:=dig_of ok.obj
 obtain ⟨mo,rfl,hmo⟩:=dig_of ok.cK
 obtain ⟨tb,rfl,rfl,htb⟩:=list_of (f:=dm) (P:=ee.Wf) (fun xs hx=>mem_of hx) _ _ x.a.typed
 obtain ⟨lo,rfl,rfl,hlo⟩:=bytes_of_typed x.b.typed
 obtain ⟨hi,rfl,rfl,hhi⟩:=bytes_of_typed x.c.typed
 obtain ⟨rc,rfl,rfl,hrc⟩:=list_of (f:=recC) (P:=bT.Wf) (fun xs hx=>rec_of hx) _ _ x.d.typed
 obtain ⟨pc,rfl,rfl,hpc⟩:=list_of (f:=bZ) (P:=D32) (fun xs hx=>dig_of hx) _ _ x.e.typed
 obtain ⟨da,rfl,rfl,hda⟩:=bytes_of_typed x.f.typed
 exact ⟨⟨kd,fr,to,sq,og,tg,ct,rt,wt,ob,gk,gn,gt,gs,mo,pi,co,tb,lo,hi,rc,pc,da⟩,rfl,rfl,hk,wf_i64.1 rg.from_,wf_i64.1 rg.to_,hs,wf_i64.1 rg.origin,wf_i64.1 rg.target,wf_i64.1 rg.count,hrt,hob,wf_i64.1 rg.gk,wf_i64.1 rg.gn,wf_i64.1 rg.gt,wf_i64.1 rg.gs,hmo,wf_i64.1 rg.de,wf_i64.1 rg.code,htb,hlo,hhi,hrc,hpc,hda⟩
theorem u8s_inj {a b:List Nat} (h:bZ a=bZ b):a=b:=List.map_inj_right (fun x y e=>by have e:(Value.int .u8 (x:Int)) = .int .u8 (y:Int):=e;simp only [Value.int.injEq,true_and] at e;omega) |>.1 h
theorem flat_inj {α:Type} {f:α→List Value} {P:α→Prop} {z:Nat} (hz:0<z) (hl : ∀ a,P a→(f a).length=z) (hi : ∀ a b,P a→P b→f a=f b→a=b) : ∀ (l l':List α),(∀ a∈l,P a)→(∀ a∈l',P a)→l.flatMap f=l'.flatMap f→l=l'
 | [],[],_,_,_=>rfl
 | [],b::l',_,h2,e=>by
   have:=congrArg List.length e
   rw [List.flatMap_cons,List.length_append,hl b (h2 b (List.mem_cons_self ..))] at this
   simp at this
   omega
 |a::l,[],h1,_,e=>by
  have:=congrArg List.length e
  rw [List.flatMap_cons,List.length_append,hl a (h1 a (List.mem_cons_self ..))] at this
  simp at this
  omega
 |a::l,b::l',h1,h2,e=>by
  rw [List.flatMap_cons,List.flatMap_cons] at e
  have pa:=h1 a (List.mem_cons_self ..)
  have pb:=h2 b (List.mem_cons_self ..)
  obtain ⟨e1,e2⟩:=List.append_inj e (by rw [hl a pa,hl b pb])
  rw [hi a b pa pb e1,flat_inj hz hl hi l l' (fun x hx=>h1 x (List.mem_cons_of_mem _ hx)) (fun x hx=>h2 x (List.mem_cons_of_mem _ hx)) e2]
theorem memC_inj {a b:ee} (h:dm a=dm b):a=b:=by
 unfold dm at h
 simp only [List.cons.injEq,Value.int.injEq,true_and,and_true] at h
 exact ee.ext (by omega) (by omega)
theorem recC_inj {a b:bT} (ha:a.obj.length=32) (hb:b.obj.length=32) (h:recC a=recC b):a=b:=by
 unfold recC at h
 rw [List.cons.injEq] at h
 obtain ⟨h1,h2⟩:=h
 obtain ⟨h3,h4⟩:=List.append_inj h2 (by simp [bZ,ha,hb])
 simp only [List.cons.injEq,Value.int.injEq,Value.bool.injEq,true_and,and_true] at h1 h4
 obtain ⟨q1,q2,q3,q4,q5,q6⟩:=h4
 exact bT.ext (by omega) (u8s_inj h3) q1 (by omega) (by omega) q4 q5 q6
theorem bc.d_inj {a b:bc} (wa:a.Wf) (wb:b.Wf) (h:a.d=b.d):a=b:=by
 unfold bc.d at h
 rw [bI.mk.injEq] at h
 obtain ⟨h1,h2,h3,h4,h5,h6,h7,h8,h9,h10,h11,h12,h13,h14,h15,h16,h17,h18,h19,h20,h21,h22,h23⟩:=h
 exact bc.ext (by omega) h2 h3 (by omega) h5 h6 h7 (u8s_inj h8) h9 (u8s_inj h10) h11 h12 h13 h14 (u8s_inj h15) h16 h17
  (flat_inj (P:=fun _=>True) (z:=2) (by decide) (fun _ _=>rfl) (fun _ _ _ _ e=>memC_inj e) _ _ (fun _ _=>trivial) (fun _ _=>trivial) h18) (u8s_inj h19) (u8s_inj h20)
  (flat_inj (P:=bT.Wf) (z:=39) (by decide) (fun r hr=>by unfold recC bZ;simp [hr.obj.1]) (fun _ _ ha hb e=>recC_inj ha.obj.1 hb.obj.1 e) _ _ wa.cR wb.cR h21)
  (flat_inj (P:=D32) (z:=32) (by decide) (fun l hl=>by simp [bZ,hl.1]) (fun _ _ _ _ e=>u8s_inj e) _ _ wa.pieces wb.pieces h22) (u8s_inj h23)
end Go.Proofs.YtjghlcdidopcpaaGreatDoor

namespace Go.Proofs.YtjghlcdidopcpaaGreatDoor
open Go Go.Abs
attribute [local congr] bo
theorem eql_bool (a b:Bool):bin Tryz.prog .eql 4 (.bool a) (.bool b)=some (.bool (a==b)):=by cases a<;>cases b<;>kernel_rfl
theorem aS (C:au) (f:Nat) (args:List Value) (h:ai):callA Tryz.prog C (.func (.func f) #[] #[]) args h=C f args h:=by
 simp [callA]
abbrev mv (m:bc) (s:dN):Value := .agg (m.d.cells s).toArray
abbrev gv (m:bc) (s:dN):Value := .agg (m.d.eu s).toArray
structure Has (h:ai) (s:dN) (m:bc):Prop where
 sl:SlV h s m.n m.d
 wf:m.Wf
theorem Has.bL {h h':ai} {s:dN} {m:bc} (x:Has h s m) (o:Old h h'):Has h' s m:=⟨x.sl.bL o,x.wf⟩
theorem Has.cG {h h':ai} {s:dN} {m:bc} (x:Has h s m) {B:Nat→Prop} (k:Kept h h' B) (hB:s.off B):Has h' s m:=⟨x.sl.cG k hB,x.wf⟩
structure MLd (h:ai) (b:Nat) (s:dN) (m:bc):Prop where
 l0:aP (ptr b 0) h=some (.int .u8 (m.kind:Int),h)
 l1:aP (ptr b 1) h=some (.int .i64 m.from_,h)
 l2:aP (ptr b 2) h=some (.int .i64 m.to_,h)
 l3:aP (ptr b 3) h=some (.int .u64 (m.seq:Int),h)
 l4:aP (ptr b 4) h=some (.int .i64 m.origin,h)
 l5:aP (ptr b 5) h=some (.int .i64 m.target,h)
 l6:aP (ptr b 6) h=some (s.a,h)
 l7:aP (ptr b 7) h=some (s.b,h)
 l8:aP (ptr b 8) h=some (s.c,h)
 l9:aP (ptr b 9) h=some (.int .i64 m.count,h)
 cg:cq 32 (ptr b 10) h=some (.agg (bZ m.root).toArray,h)
 bN:aP (ptr b 42) h=some (s.d,h)
 bX:aP (ptr b 43) h=some (.bool m.want,h)
 b9:cq 32 (ptr b 44) h=some (.agg (bZ m.obj).toArray,h)
 bY:cq 37 (ptr b 76) h=some (gv m s,h)
 l112:aP (ptr b 112) h=some (s.e,h)
 aV:aP (ptr b 113) h=some (.int .i64 m.de,h)
 aT:aP (ptr b 114) h=some (s.f,h)
 aW:aP (ptr b 115) h=some (.int .i64 m.code,h)
 all:cq 116 (ptr b 0) h=some (mv m s,h)
 g:h.get b=some (m.d.cells s)
theorem cS {h h0:ai} {b:Nat} {s:dN} {m:bc} (x:Has h0 s m) (g:h.get b=some (m.d.cells s)):MLd h b s m:=by
 have A:=msg_ld x.sl (bc.ok x.wf) g
 exact ⟨A.l0,A.l1,A.l2,A.l3,A.l4,A.l5,A.l6,A.l7,A.l8,A.l9,A.cg,A.bN,A.bX,A.b9,A.bY,A.l112,A.aV,A.aT,A.aW,A.all,g⟩
theorem eU {h:ai} {s:dN} {m:bc} (x:Has h s m) : ∃ h1,box (mv m s) h=some (ptr h.next 0,h1)∧Old h h1∧Has h1 s m∧MLd h1 h.next s m∧h1.next=h.next+1∧h1=h.alloc (m.d.cells s):=by
 have o1:Old h (h.alloc (m.d.cells s)):=Kept.alloc _ _ _
 have g1:(h.alloc (m.d.cells s)).get h.next=some (m.d.cells s):=by rw [ai.aN,if_pos rfl]
 exact ⟨_,dP h _ (dD x.sl (bc.ok x.wf)).2.1,o1,x.bL o1,cS (x.bL o1) g1,rfl,rfl⟩
theorem Has.len {h:ai} {s:dN} {m:bc} (x:Has h s m):bM s.a=some (aH m.table.length)∧bM s.b=some (aH m.low.length)∧bM s.c=some (aH m.high.length)∧bM s.d=some (aH m.cR.length)∧bM s.e=some (aH m.pieces.length)∧bM s.f=some (aH m.data.length):=
 ⟨x.sl.a.len,x.sl.b.len,x.sl.c.len,x.sl.d.len,x.sl.e.len,x.sl.f.len⟩
def peerB (i:Int):Bool:=decide (i≥0)&&decide (i<16)
def sizesB (k n t:Int):Bool:=decide (1≤k)&&decide (k≤n)&&decide (n≤t)&&decide (t≤255)
def memB (m:ee):Bool:=decide ((m.st:Int)≤4)&&(((m.inc:Int)==0)==((m.st:Int)==0))
def tableB (t:List ee):Bool:=decide ((t.length:Int)≥1)&&decide ((t.length:Int)≤16) && !(t.any fun m => !memB m)
def holderB (r:bT):Bool:=decide (r.dg≥0)&&decide (r.dg<16)&&decide ((r.inc:Int)≥1)
def z32:List Nat:=List.replicate 32 0
def bT.z:bT:=⟨0,z32,0,0,0,false,0,0⟩
deriving instance DecidableEq for bT
def bT.base (r:bT):bT:={ bT.z with kind:=r.kind,dg:=r.dg,inc:=r.inc }
def bT.grave (r:bT):bT:={ bT.z with kind:=r.kind,obj:=r.obj }
def pieceB (r:bT):Bool:=holderB r&&decide ((r.num:Int)≥1)&&decide (1≤r.k)&&decide (r.k≤r.n)&&decide (r.n≤255)
def recB (r:bT):Bool:=if (r.kind:Int)==1 then decide (r=r.base)&&holderB r else if (r.kind:Int)==2 then decide (r=r.grave) else if (r.kind:Int)==3 then pieceB r else false
def manBad (m:bc):Bool := !sizesB m.gk m.gn m.gt||decide (m.gs<0)||decide (m.gs>8192)||((m.pieces.length:Int) != m.gt)
theorem is46:bG Tryz.prog 46 Tryz.f46:=⟨by kernel_rfl,by kernel_rfl,by kernel_rfl,by kernel_rfl⟩
theorem r46 {h:ai} (hG:4≤h.n0) (i:Int):CW 46 [.int .i64 i] h=some (.bool (peerB i),h):=by
 refine ay is46 hG rfl ((t46_eq _ _ _).trans ?_)
 unfold t46 peerB
 cases q0:decide (i≥0) with
 |false=>simp -implicitDefEqProofs only [ah, ah, ao, ar, fs, aj, Bool.false_eq_true, if_false, aJ, q0, Bool.false_and]
 |true=>
 cases q1:decide (i<16) with
 |false=>simp -implicitDefEqProofs only [ah, ah, ao, ar, beq_self_eq_true, ak, if_true, aJ, aF, q0, q1, Bool.and_false]
 |true=>
 simp -implicitDefEqProofs only [ah, ah, ao, ar, beq_self_eq_true, ak, if_true, aJ, aF, q0, q1, Bool.and_true]
theorem is148:bG Tryz.prog 148 Tryz.f148:=⟨by kernel_rfl,by kernel_rfl,by kernel_rfl,by kernel_rfl⟩
theorem r148 {h:ai} (hG:4≤h.n0) (k n t:Int):CW 148 [.int .i64 k,.int .i64 n,.int .i64 t] h=some (.bool (sizesB k n t),h):=by
 refine ay is148 hG rfl ((t148_eq _ _ _ _ _).trans ?_)
 unfold t148 sizesB
 cases q0:decide (1≤k) with
 |false=>simp -implicitDefEqProofs only [ah, ah, ao, ar, fs, aj, Bool.false_eq_true, if_false, aK, q0, Bool.false_and]
 |true=>
 cases q1:decide (k≤n) with
 |false=>simp -implicitDefEqProofs only [ah, ah, ao, ar, fs, beq_self_eq_true, ak, aj, Bool.false_eq_true, if_false, if_true, aK, q0, q1, Bool.and_false, Bool.false_and]
 |true=>
 cases q2:decide (n≤t) with
 |false=>simp -implicitDefEqProofs only [ah, ah, ao, ar, fs, beq_self_eq_true, ak, aj, Bool.false_eq_true, if_false, if_true, aK, q0, q1, q2, Bool.and_true, Bool.and_false, Bool.false_and]
 |true=>
 cases q3:decide (t≤255) with
 |false=>simp -implicitDefEqProofs only [ah, ah, ao, ar, beq_self_eq_true, ak, if_true, aK, q0, q1, q2, q3, Bool.and_true, Bool.and_false]
 |true=>
 simp -implicitDefEqProofs only [ah, ah, ao, ar, beq_self_eq_true, ak, if_true, aK, q0, q1, q2, q3, Bool.and_true]
theorem is147:bG Tryz.prog 147 Tryz.f147:=⟨by kernel_rfl,by kernel_rfl,by kernel_rfl,by kernel_rfl⟩
theorem is146:bG Tryz.prog 146 Tryz.f146:=⟨by kernel_rfl,by kernel_rfl,by kernel_rfl,by kernel_rfl⟩
theorem mem_box (h:ai) (m:ee) : ∃ h1,box (.agg (dm m).toArray) h=some (ptr h.next 0,h1)∧Old h h1∧aP (ptr h.next 0) h1=some (.int .u64 (m.inc:Int),h1)∧aP (ptr h.next 1) h1=some (.int .u8 (m.st:Int),h1)∧cq 2 (ptr h.next 0) h1=some (.agg (dm m).toArray,h1):=by
 have g1:(h.alloc (dm m)).get h.next=some (dm m):=by rw [ai.aN,if_pos rfl]
 exact ⟨_,dP h _ rfl,Kept.alloc _ _ _,aU g1 rfl,aU g1 rfl,ldN_at g1 (show 0+2≤2 by omega) rfl⟩
theorem r147 {h:ai} (hG:4≤h.n0) (m:ee) : ∃ h',CW 147 [.agg (dm m).toArray] h=some (.bool (memB m),h')∧Old h h':=by
 obtain ⟨h1,b1,o1,l0,l1,-⟩:=mem_box h m
 refine ⟨h1,ay is147 hG rfl ((t147_eq _ _ _).trans ?_),o1⟩
 unfold t147 memB
 cases q0:decide ((m.st:Int)≤4) with
 |false=>simp -implicitDefEqProofs only [b1, l1, ah, ao, ar, fs, aj, Bool.false_eq_true, if_false, aq, Nat.zero_add, aK, q0, Bool.false_and]
 |true=>
 simp -implicitDefEqProofs only [b1, l0, l1, eql_bool, ah, ao, ar, beq_self_eq_true, ak, if_true, aq, Nat.zero_add, aK, aG, q0, Bool.true_and]
theorem r146 {h:ai} (hG:4≤h.n0) (m:ee) : ∃ h',CW 146 [.agg (dm m).toArray] h=some (.bool (!memB m),h')∧Old h h':=by
 obtain ⟨h1,b1,o1,-,-,l⟩:=mem_box h m
 obtain ⟨h2,e2,o2⟩:=r147 (h:=h1) (by rw [o1.n0];exact hG) m
 refine ⟨h2,ay is146 hG rfl ((t146_eq _ _ _).trans ?_),o1.trans o2⟩
 unfold t146
 simp -implicitDefEqProofs only [b1, l, e2, ah, ao, av]
theorem is157:bG Tryz.prog 157 Tryz.f157:=⟨by kernel_rfl,by kernel_rfl,by kernel_rfl,by kernel_rfl⟩
theorem is145:bG Tryz.prog 145 Tryz.f145:=⟨by kernel_rfl,by kernel_rfl,by kernel_rfl,by kernel_rfl⟩
theorem results157:Tryz.f157.results.toList = [.tmp 4]:=by kernel_rfl
theorem b157_exit (C:au) (e:Env) (h:ai):b157_3 C 0 e h=k157_1 C e h:=rfl
def ixInv157 (h0:ai) (v:Value) (l:List ee) (k:Nat) (y:Nat→Value) (g:ai):Prop:=
 ∃ i,i+k=l.length∧y 0=v∧y 1 = .func (.func 146) #[] #[]∧y 7=aH l.length∧y 8=aH i∧Old h0 g∧(l.take i).any (fun m => !memB m)=false
def ixFin157 (h0:ai) (l:List ee) (ex:Ex) (y:Nat→Value) (g:ai):Prop:=
 Old h0 g∧((ex = .ret∧(∃ i:Nat,y 4=aH i)∧l.any (fun m => !memB m)=true)∨(ex = .exit 0∧l.any (fun m => !memB m)=false))
theorem el_flat157 {l:List ee} {i:Nat} {m:ee} (hw : ∀ x∈l,x.Wf) (hm:l[i]? = some m):el 2 (l.flatMap dm) i=dm m:=by
 have hi:=(List.getElem?_eq_some_iff.1 hm).1
 have key : ∀ (l:List ee) (i:Nat),(∀ x∈l,x.Wf)→l[i]? = some m→el 2 (l.flatMap dm) i=dm m:=by
  intro l
  induction l with
  |nil=>intro i _ h;cases h
  |cons a l ih=>
   intro i hw h
   have ha:(dm a).length=2:=(mem_typed (hw a (List.mem_cons_self ..))).1
   cases i with
   |zero=>
    cases h
    unfold el
    rw [Nat.zero_mul,List.drop_zero,List.flatMap_cons,←ha,List.take_left]
   |succ i=>
    have h:l[i]? = some m:=h
    have:=ih i (fun x hx=>hw x (List.mem_cons_of_mem _ hx)) h
    unfold el at this ⊢
    rw [List.flatMap_cons,show (i+1)*2=(dm a).length+i*2 by rw [Nat.add_mul,ha];omega,List.drop_length_add_append]
    exact this
 exact key l i hw hm
theorem ixRound157 {h0:ai} {v:Value} {l:List ee} (hG:4≤h0.n0) (x:cH h0 memK v l.length (l.flatMap dm)) (hw : ∀ x∈l,x.Wf) (hl:l.length≤1000000) : ∀ k y g,ixInv157 h0 v l k y g→ei 19 (ixInv157 h0 v l) (ixFin157 h0 l) k (t157l157_1010 CW y g):=by
 rintro k y g ⟨i,hik,y0,y1,y7,y8,o,ha⟩
 unfold t157l157_1010
 by_cases hi:i<l.length
 ·obtain ⟨b,q,kb,_,a1,_,_,_,a2,_⟩:=(x.bL o).at hi
  obtain ⟨m,hm⟩ : ∃ m,l[i]? = some m:=⟨l[i],List.getElem?_eq_getElem hi⟩
  have a1:cn 2 v (aH i)=some (ptr b (q+i*2)):=a1
  have a2:cq 2 (ptr b (q+i*2)) g=some (.agg (el 2 (l.flatMap dm) i).toArray,g):=a2
  rw [el_flat157 hw hm] at a2
  obtain ⟨g',e,o'⟩:=r146 (h:=g) (by rw [o.n0];exact hG) m
  have hs:(l.take (i+1)).any (fun m => !memB m) = !memB m:=by
   rw [List.take_add_one,hm,List.any_append,ha]
   simp
  simp -implicitDefEqProofs only [y8,y7,eW,y0,y1,decide_eq_true hi,ah,ao,a1,a2,aS,e]
  cases hp:memB m with
  |true=>
   simp -implicitDefEqProofs only [Bool.not_true, ah, ao, add31 (show i+1≤9223372036854775807 by omega)]
   exact ei.next (k-1) (by omega) ⟨i+1,by omega,y0,y1,y7,rfl,o.trans o',by rw [hs,hp];rfl⟩
  |false=>
   simp -implicitDefEqProofs only [Bool.not_false]
   refine ei.ret ⟨o.trans o',.inl ⟨rfl,⟨i,rfl⟩,?_⟩⟩
   rw [List.any_eq_true]
   exact ⟨m,List.mem_of_getElem? hm,by rw [hp];rfl⟩
 ·simp -implicitDefEqProofs only [y8,y7,eW,decide_eq_false hi,ah,ao]
  refine ei.out 0 ⟨o,.inr ⟨rfl,?_⟩⟩
  rw [List.take_of_length_le (by omega)] at ha
  exact ha
theorem r145 {h:ai} {v:Value} {l:List ee} (hG:4≤h.n0) (x:cH h memK v l.length (l.flatMap dm)) (hw : ∀ x∈l,x.Wf) (hl:l.length≤1000000) : ∃ h',CW 145 [v,.func (.func 146) #[] #[]] h=some (.bool (l.any fun m => !memB m),h')∧Old h h':=by
 have key : ∃ j h',CW 157 [v,.func (.func 146) #[] #[]] h=some (.int .i64 j,h')∧decide (j≥0)=(l.any fun m => !memB m)∧Old h h':=by
  have k2 : ∃ j h',t157 CW v (.func (.func 146) #[] #[]) h=some (.int .i64 j,h')∧decide (j≥0)=(l.any fun m => !memB m)∧Old h h':=by
   unfold t157
   simp -implicitDefEqProofs only [ah,x.len,ao]
   refine cL (Q:=fun o:Out => ∃ j h',o=some (Value.int .i64 j,h')∧decide (j≥0)=(l.any fun m => !memB m)∧Old h h') (cD (t157l157_1010_eq CW) (ixRound157 hG x hw hl) l.length (by have:rounds=18446744073709551616:=rfl;omega)
    ⟨0,Nat.zero_add _,rfl,rfl,rfl,rfl,Kept.refl _ _,rfl⟩) ?_
   rintro ex z g ⟨o,⟨rfl,⟨i,z4⟩,ha⟩|⟨rfl,ha⟩⟩
   ·rw [fe,res_one (t:=4) results157 (by decide),z4]
    exact ⟨i,g,rfl,by rw [ha];exact decide_eq_true (by omega),o⟩
   ·simp -implicitDefEqProofs only [bR,b157_exit,t157k157_1_eq]
    unfold t157k157_1
    exact ⟨-1,g,rfl,by rw [ha];rfl,o⟩
  obtain ⟨j,h',e1,e2,e3⟩:=k2
  exact ⟨j,h',ay is157 hG rfl ((t157_eq _ _ _ _).trans e1),e2,e3⟩
 obtain ⟨j,h',e1,e2,e3⟩:=key
 refine ⟨h',ay is145 hG rfl ((t145_eq _ _ _ _).trans ?_),e3⟩
 unfold t145
 simp -implicitDefEqProofs only [ah,e1,aJ,ao,e2]
theorem is151:bG Tryz.prog 151 Tryz.f151:=⟨by kernel_rfl,by kernel_rfl,by kernel_rfl,by kernel_rfl⟩
theorem is138:bG Tryz.prog 138 Tryz.f138:=⟨by kernel_rfl,by kernel_rfl,by kernel_rfl,by kernel_rfl⟩
theorem is137:bG Tryz.prog 137 Tryz.f137:=⟨by kernel_rfl,by kernel_rfl,by kernel_rfl,by kernel_rfl⟩
theorem bA {r:bT} (w:r.Wf):(recC r).length=39∧Abs.bq (recC r)=true∧aR (recC r)=true:=by
 have t:=rec_typed w
 exact ⟨t.1,t.all.1,t.all.2.1⟩
structure RLd (h:ai) (b:Nat) (r:bT):Prop where
 l0:aP (ptr b 0) h=some (.int .u8 (r.kind:Int),h)
 l1:cq 32 (ptr b 1) h=some (.agg (bZ r.obj).toArray,h)
 l33:aP (ptr b 33) h=some (.int .i64 r.dg,h)
 l34:aP (ptr b 34) h=some (.int .u64 (r.inc:Int),h)
 l35:aP (ptr b 35) h=some (.int .u64 (r.num:Int),h)
 eT:aP (ptr b 36) h=some (.bool r.held,h)
 l37:aP (ptr b 37) h=some (.int .i64 r.k,h)
 l38:aP (ptr b 38) h=some (.int .i64 r.n,h)
 all:cq 39 (ptr b 0) h=some (.agg (recC r).toArray,h)
theorem r_ld {h:ai} {b:Nat} {r:bT} (w:r.Wf) (g:h.get b=some (recC r)):RLd h b r:=by
 have ho:(bZ r.obj).length=32:=by rw [List.length_map];exact w.obj.1
 have hd:=(dX w.obj).all.1
 have at_ : ∀ i v,[Value.int .i64 r.dg,.int .u64 (r.inc:Int),.int .u64 (r.num:Int),.bool r.held,.int .i64 r.k,.int .i64 r.n][i]? = some v→(recC r)[33+i]? = some v:=fun i v e=>by
  unfold recC
  rw [show 33+i=(32+i)+1 by omega,List.getElem?_cons_succ,List.getElem?_append_right (by omega),ho,Nat.add_sub_cancel_left]
  exact e
 exact ⟨aU g rfl rfl,ldN_mid g (A := [.int .u8 (r.kind:Int)]) (B:=bZ r.obj) rfl rfl ho hd,aU g (at_ 0 _ rfl) rfl,aU g (at_ 1 _ rfl) rfl,aU g (at_ 2 _ rfl) rfl,aU g (at_ 3 _ rfl) rfl,aU g (at_ 4 _ rfl) rfl,aU g (at_ 5 _ rfl) rfl,
  ldN_mid g (A := []) (B:=recC r) (C := []) (by simp) rfl (bA w).1 (bA w).2.1⟩
theorem rec_box (h:ai) {r:bT} (w:r.Wf) : ∃ h1,box (.agg (recC r).toArray) h=some (ptr h.next 0,h1)∧Old h h1∧RLd h1 h.next r:=by
 have g1:(h.alloc (recC r)).get h.next=some (recC r):=by rw [ai.aN,if_pos rfl]
 exact ⟨_,dP h _ (bA w).2.2,Kept.alloc _ _ _,r_ld w g1⟩
theorem r151 {h:ai} (hG:4≤h.n0) {r:bT} (w:r.Wf) : ∃ h',CW 151 [.agg (recC r).toArray] h=some (.bool (holderB r),h')∧Old h h':=by
 obtain ⟨h1,b1,o1,A⟩:=rec_box h w
 refine ⟨h1,ay is151 hG rfl ((t151_eq _ _ _).trans ?_),o1⟩
 unfold t151 holderB
 cases q0:decide (r.dg≥0) with
 |false=>simp -implicitDefEqProofs only [b1, A.l33, ah, ao, ar, fs, aj, Bool.false_eq_true, if_false, aq, Nat.zero_add, aJ, q0, Bool.false_and]
 |true=>
 cases q1:decide (r.dg<16) with
 |false=>simp -implicitDefEqProofs only [b1, A.l33, ah, ao, ar, fs, beq_self_eq_true, ak, aj, Bool.false_eq_true, if_false, if_true, aq, Nat.zero_add, aJ, aF, q0, q1, Bool.and_false, Bool.false_and]
 |true=>
 cases q2:decide ((r.inc:Int)≥1) with
 |false=>simp -implicitDefEqProofs only [b1, A.l33, A.l34, ah, ao, ar, beq_self_eq_true, ak, if_true, aq, Nat.zero_add, aJ, aF, q0, q1, q2, Bool.and_true, Bool.and_false]
 |true=>
 simp -implicitDefEqProofs only [b1, A.l33, A.l34, ah, ao, ar, beq_self_eq_true, ak, if_true, aq, Nat.zero_add, aJ, aF, q0, q1, q2, Bool.and_true]
theorem splice_app {A B C B':List Value} {o n:Nat} (hA:A.length=o) (hB:B.length=n) (hB':B'.length=n):bx (A++(B++C)) o B'=A++(B'++C):=by
 subst hA
 unfold bx
 rw [List.take_left,hB',List.append_assoc,←hB,←List.length_append,←List.append_assoc A B C,List.drop_left]
theorem fK {z A B C B':List Value} {o n:Nat} {rest:List (Nat×Nat×Value)} (e:z=A++(B++C)) (hA:A.length=o) (hB:B.length=n) (hB':B'.length=n):cP z ((o,n,.agg B'.toArray)::rest)=cP (A++(B'++C)) rest:=by
 subst e
 have hc:(Value.agg B'.toArray).cells=B'.toArray:=rfl
 simp only [cP,hc,List.size_toArray,hB']
 rw [if_pos (by
  have:o+n≤(A++(B++C)).length:=by rw [List.length_append,List.length_append,hA,hB];omega
  simp only [decide_eq_true this]
  simp),splice_app hA hB hB']
theorem eA:I64 0:=⟨by decide,by decide⟩
theorem base_wf {r:bT} (w:r.Wf):r.base.Wf:=⟨w.kind,⟨rfl,fun x hx=>by
 have:=List.eq_of_mem_replicate hx
 omega⟩,w.dg,w.inc,by show (0:Nat)<_;omega,eA,eA⟩
theorem grave_wf {r:bT} (w:r.Wf):r.grave.Wf:=⟨w.kind,w.obj,eA,by show (0:Nat)<_;omega,by show (0:Nat)<_;omega,eA,eA⟩
theorem bld_base (r:bT):cI [(.int .u8 0),(.int .u8 0),(.int .u8 0),(.int .u8 0),(.int .u8 0),(.int .u8 0),(.int .u8 0),(.int .u8 0),(.int .u8 0),(.int .u8 0),(.int .u8 0),(.int .u8 0),(.int .u8 0),(.int .u8 0),(.int .u8 0),(.int .u8 0),(.int .u8 0),(.int .u8 0),(.int .u8 0),(.int .u8 0),(.int .u8 0),(.int .u8 0),(.int .u8 0),(.int .u8 0),(.int .u8 0),(.int .u8 0),(.int .u8 0),(.int .u8 0),(.int .u8 0),(.int .u8 0),(.int .u8 0),(.int .u8 0),(.int .u8 0),(.int .i64 0),(.int .u64 0),(.int .u64 0),(.bool false),(.int .i64 0),(.int .i64 0)] [(0,1,.int .u8 (r.kind:Int)),(33,1,.int .i64 r.dg),(34,1,.int .u64 (r.inc:Int))]=some (.agg (recC r.base).toArray):=rfl
theorem bld_grave {r:bT} (w:r.Wf):cI [(.int .u8 0),(.int .u8 0),(.int .u8 0),(.int .u8 0),(.int .u8 0),(.int .u8 0),(.int .u8 0),(.int .u8 0),(.int .u8 0),(.int .u8 0),(.int .u8 0),(.int .u8 0),(.int .u8 0),(.int .u8 0),(.int .u8 0),(.int .u8 0),(.int .u8 0),(.int .u8 0),(.int .u8 0),(.int .u8 0),(.int .u8 0),(.int .u8 0),(.int .u8 0),(.int .u8 0),(.int .u8 0),(.int .u8 0),(.int .u8 0),(.int .u8 0),(.int .u8 0),(.int .u8 0),(.int .u8 0),(.int .u8 0),(.int .u8 0),(.int .i64 0),(.int .u64 0),(.int .u64 0),(.bool false),(.int .i64 0),(.int .i64 0)] [(0,1,.int .u8 (r.kind:Int)),(1,32,.agg (bZ r.obj).toArray)]=some (.agg (recC r.grave).toArray):=by
 have e:cP [(.int .u8 0),(.int .u8 0),(.int .u8 0),(.int .u8 0),(.int .u8 0),(.int .u8 0),(.int .u8 0),(.int .u8 0),(.int .u8 0),(.int .u8 0),(.int .u8 0),(.int .u8 0),(.int .u8 0),(.int .u8 0),(.int .u8 0),(.int .u8 0),(.int .u8 0),(.int .u8 0),(.int .u8 0),(.int .u8 0),(.int .u8 0),(.int .u8 0),(.int .u8 0),(.int .u8 0),(.int .u8 0),(.int .u8 0),(.int .u8 0),(.int .u8 0),(.int .u8 0),(.int .u8 0),(.int .u8 0),(.int .u8 0),(.int .u8 0),(.int .i64 0),(.int .u64 0),(.int .u64 0),(.bool false),(.int .i64 0),(.int .i64 0)] [(0,1,.int .u8 (r.kind:Int)),(1,32,.agg (bZ r.obj).toArray)]=cP ([.int .u8 (r.kind:Int)]++(bZ z32 ++ [.int .i64 0,.int .u64 0,.int .u64 0,.bool false,.int .i64 0,.int .i64 0])) [(1,32,.agg (bZ r.obj).toArray)]:=rfl
 unfold cI
 rw [e,fK (A := [.int .u8 (r.kind:Int)]) (B:=bZ z32) (o:=1) (n:=32) rfl rfl rfl (by rw [List.length_map];exact w.obj.1)]
 rfl
theorem eq_rec {a b:bT} (wa:a.Wf) (wb:b.Wf):bin Tryz.prog .eql 61 (.agg (recC a).toArray) (.agg (recC b).toArray)=some (.bool (decide (a=b))):=by
 obtain ⟨r,h1,h2,_⟩:=eq61 _ _ (rec_typed wa) (rec_typed wb)
 have hr:r=decide (a=b):=by
  by_cases e:a=b
  ·rw [decide_eq_true e,h1.2 (by rw [e])]
  ·rw [decide_eq_false e]
   cases r with
   |false=>rfl
   |true=>exact absurd (recC_inj wa.obj.1 wb.obj.1 (h1.1 rfl)) e
 rw [h2,hr]
theorem r138 {h:ai} (hG:4≤h.n0) {r:bT} (w:r.Wf) : ∃ h',CW 138 [.agg (recC r).toArray] h=some (.bool (recB r),h')∧Old h h':=by
 obtain ⟨h1,b1,o1,A⟩:=rec_box h w
 obtain ⟨h2,e2,o2⟩:=r151 (h:=h1) (by rw [o1.n0];exact hG) w
 have e3:=bld_base r
 have e4:=bld_grave w
 have e5:=eq_rec w (base_wf w)
 have e6:=eq_rec w (grave_wf w)
 unfold recB
 cases k1:(r.kind:Int)==1 with
 |true=>
  simp only [if_true]
  cases q0:decide (r=r.base) with
  |false=>
   refine ⟨h1,ay is138 hG rfl ((t138_eq _ _ _).trans ?_),o1⟩
   unfold t138
   simp -implicitDefEqProofs only [b1, A.l0, A.l33, A.l34, A.all, e3, e5, k1, q0, ah, ao, ar, fs, aj, Bool.false_eq_true, if_false, aq, Nat.zero_add, aG, Bool.false_and]
  |true=>
   refine ⟨h2,ay is138 hG rfl ((t138_eq _ _ _).trans ?_),o1.trans o2⟩
   unfold t138
   simp -implicitDefEqProofs only [b1, A.l0, A.l33, A.l34, A.all, e3, e5, e2, k1, q0, ah, ao, ar, beq_self_eq_true, ak, if_true, aq, Nat.zero_add, aG, Bool.true_and]
 |false=>
  simp only [Bool.false_eq_true,if_false]
  cases k2:(r.kind:Int)==2 with
  |true=>
   simp only [if_true]
   refine ⟨h1,ay is138 hG rfl ((t138_eq _ _ _).trans ?_),o1⟩
   unfold t138
   simp -implicitDefEqProofs only [b1, A.l0, A.l1, A.all, e4, e6, k1, k2, ah, ao, aq, Nat.zero_add, aG]
  |false=>
   simp only [Bool.false_eq_true,if_false]
   cases k3:(r.kind:Int)==3 with
   |true=>
    simp only [if_true]
    have A2:RLd h2 h.next r:=r_ld w (Old.get o2 (by
     obtain ⟨_,b1',_⟩:=rec_box h w
     have:=dP h (recC r) (bA w).2.2
     rw [b1] at this
     cases this
     rw [ai.aN,if_pos rfl]))
    refine ⟨h2,ay is138 hG rfl ((t138_eq _ _ _).trans ?_),o1.trans o2⟩
    unfold t138 pieceB
    cases q0:holderB r with
    |false=>simp -implicitDefEqProofs only [b1, A.l0, A.all, e2, k1, k2, k3, ah, ao, ar, fs, aj, Bool.false_eq_true, if_false, aq, Nat.zero_add, aG, q0, Bool.false_and]
    |true=>
    cases q1:decide ((r.num:Int)≥1) with
    |false=>simp -implicitDefEqProofs only [b1, A.l0, A.all, e2, k1, k2, k3, A2.l35, ah, ao, ar, fs, beq_self_eq_true, ak, aj, Bool.false_eq_true, if_false, if_true, aq, Nat.zero_add, aJ, aG, q0, q1, Bool.and_false, Bool.false_and]
    |true=>
    cases q2:decide (1≤r.k) with
    |false=>simp -implicitDefEqProofs only [b1, A.l0, A.all, e2, k1, k2, k3, A2.l35, A2.l37, ah, ao, ar, fs, beq_self_eq_true, ak, aj, Bool.false_eq_true, if_false, if_true, aq, Nat.zero_add, aJ, aK, aG, q0, q1, q2, Bool.and_true, Bool.and_false, Bool.false_and]
    |true=>
    cases q3:decide (r.k≤r.n) with
    |false=>simp -implicitDefEqProofs only [b1, A.l0, A.all, e2, k1, k2, k3, A2.l35, A2.l37, A2.l38, ah, ao, ar, fs, beq_self_eq_true, ak, aj, Bool.false_eq_true, if_false, if_true, aq, Nat.zero_add, aJ, aK, aG, q0, q1, q2, q3, Bool.and_true, Bool.and_false, Bool.false_and]
    |true=>
    cases q4:decide (r.n≤255) with
    |false=>simp -implicitDefEqProofs only [b1, A.l0, A.all, e2, k1, k2, k3, A2.l35, A2.l37, A2.l38, ah, ao, ar, beq_self_eq_true, ak, if_true, aq, Nat.zero_add, aJ, aK, aG, q0, q1, q2, q3, q4, Bool.and_true, Bool.and_false]
    |true=>
    simp -implicitDefEqProofs only [b1, A.l0, A.all, e2, k1, k2, k3, A2.l35, A2.l37, A2.l38, ah, ao, ar, beq_self_eq_true, ak, if_true, aq, Nat.zero_add, aJ, aK, aG, q0, q1, q2, q3, q4, Bool.and_true]
   |false=>
    refine ⟨h1,ay is138 hG rfl ((t138_eq _ _ _).trans ?_),o1⟩
    unfold t138
    simp -implicitDefEqProofs only [b1, A.l0, k1, k2, k3, ah, ao, Bool.false_eq_true, if_false, aq, Nat.zero_add, aG]
theorem r137 {h:ai} (hG:4≤h.n0) {r:bT} (w:r.Wf) : ∃ h',CW 137 [.agg (recC r).toArray] h=some (.bool (!recB r),h')∧Old h h':=by
 obtain ⟨h1,b1,o1,A⟩:=rec_box h w
 obtain ⟨h2,e2,o2⟩:=r138 (h:=h1) (by rw [o1.n0];exact hG) w
 refine ⟨h2,ay is137 hG rfl ((t137_eq _ _ _).trans ?_),o1.trans o2⟩
 unfold t137
 simp -implicitDefEqProofs only [b1, A.all, e2, ah, ao, av]
theorem is150:bG Tryz.prog 150 Tryz.f150:=⟨by kernel_rfl,by kernel_rfl,by kernel_rfl,by kernel_rfl⟩
theorem is136:bG Tryz.prog 136 Tryz.f136:=⟨by kernel_rfl,by kernel_rfl,by kernel_rfl,by kernel_rfl⟩
theorem results150:Tryz.f150.results.toList = [.tmp 4]:=by kernel_rfl
theorem b150_exit (C:au) (e:Env) (h:ai):b150_3 C 0 e h=k150_1 C e h:=rfl
def ixInv150 (h0:ai) (v:Value) (l:List bT) (k:Nat) (y:Nat→Value) (g:ai):Prop:=
 ∃ i,i+k=l.length∧y 0=v∧y 1 = .func (.func 137) #[] #[]∧y 7=aH l.length∧y 8=aH i∧Old h0 g∧(l.take i).any (fun m => !recB m)=false
def ixFin150 (h0:ai) (l:List bT) (ex:Ex) (y:Nat→Value) (g:ai):Prop:=
 Old h0 g∧((ex = .ret∧(∃ i:Nat,y 4=aH i)∧l.any (fun m => !recB m)=true)∨(ex = .exit 0∧l.any (fun m => !recB m)=false))
theorem el_flat150 {l:List bT} {i:Nat} {m:bT} (hw : ∀ x∈l,x.Wf) (hm:l[i]? = some m):el 39 (l.flatMap recC) i=recC m:=by
 have hi:=(List.getElem?_eq_some_iff.1 hm).1
 have key : ∀ (l:List bT) (i:Nat),(∀ x∈l,x.Wf)→l[i]? = some m→el 39 (l.flatMap recC) i=recC m:=by
  intro l
  induction l with
  |nil=>intro i _ h;cases h
  |cons a l ih=>
   intro i hw h
   have ha:(recC a).length=39:=(rec_typed (hw a (List.mem_cons_self ..))).1
   cases i with
   |zero=>
    cases h
    unfold el
    rw [Nat.zero_mul,List.drop_zero,List.flatMap_cons,←ha,List.take_left]
   |succ i=>
    have h:l[i]? = some m:=h
    have:=ih i (fun x hx=>hw x (List.mem_cons_of_mem _ hx)) h
    unfold el at this ⊢
    rw [List.flatMap_cons,show (i+1)*39=(recC a).length+i*39 by rw [Nat.add_mul,ha];omega,List.drop_length_add_append]
    exact this
 exact key l i hw hm
theorem ixRound150 {h0:ai} {v:Value} {l:List bT} (hG:4≤h0.n0) (x:cH h0 recK v l.length (l.flatMap recC)) (hw : ∀ x∈l,x.Wf) (hl:l.length≤1000000) : ∀ k y g,ixInv150 h0 v l k y g→ei 19 (ixInv150 h0 v l) (ixFin150 h0 l) k (t150l150_1010 CW y g):=by
 rintro k y g ⟨i,hik,y0,y1,y7,y8,o,ha⟩
 unfold t150l150_1010
 by_cases hi:i<l.length
 ·obtain ⟨b,q,kb,_,a1,_,_,_,a2,_⟩:=(x.bL o).at hi
  obtain ⟨m,hm⟩ : ∃ m,l[i]? = some m:=⟨l[i],List.getElem?_eq_getElem hi⟩
  have a1:cn 39 v (aH i)=some (ptr b (q+i*39)):=a1
  have a2:cq 39 (ptr b (q+i*39)) g=some (.agg (el 39 (l.flatMap recC) i).toArray,g):=a2
  rw [el_flat150 hw hm] at a2
  obtain ⟨g',e,o'⟩:=r137 (h:=g) (by rw [o.n0];exact hG) (hw m (List.mem_of_getElem? hm))
  have hs:(l.take (i+1)).any (fun m => !recB m) = !recB m:=by
   rw [List.take_add_one,hm,List.any_append,ha]
   simp
  simp -implicitDefEqProofs only [y8,y7,eW,y0,y1,decide_eq_true hi,ah,ao,a1,a2,aS,e]
  cases hp:recB m with
  |true=>
   simp -implicitDefEqProofs only [Bool.not_true, ah, ao, add31 (show i+1≤9223372036854775807 by omega)]
   exact ei.next (k-1) (by omega) ⟨i+1,by omega,y0,y1,y7,rfl,o.trans o',by rw [hs,hp];rfl⟩
  |false=>
   simp -implicitDefEqProofs only [Bool.not_false]
   refine ei.ret ⟨o.trans o',.inl ⟨rfl,⟨i,rfl⟩,?_⟩⟩
   rw [List.any_eq_true]
   exact ⟨m,List.mem_of_getElem? hm,by rw [hp];rfl⟩
 ·simp -implicitDefEqProofs only [y8,y7,eW,decide_eq_false hi,ah,ao]
  refine ei.out 0 ⟨o,.inr ⟨rfl,?_⟩⟩
  rw [List.take_of_length_le (by omega)] at ha
  exact ha
theorem r136 {h:ai} {v:Value} {l:List bT} (hG:4≤h.n0) (x:cH h recK v l.length (l.flatMap recC)) (hw : ∀ x∈l,x.Wf) (hl:l.length≤1000000) : ∃ h',CW 136 [v,.func (.func 137) #[] #[]] h=some (.bool (l.any fun m => !recB m),h')∧Old h h':=by
 have key : ∃ j h',CW 150 [v,.func (.func 137) #[] #[]] h=some (.int .i64 j,h')∧decide (j≥0)=(l.any fun m => !recB m)∧Old h h':=by
  have k2 : ∃ j h',t150 CW v (.func (.func 137) #[] #[]) h=some (.int .i64 j,h')∧decide (j≥0)=(l.any fun m => !recB m)∧Old h h':=by
   unfold t150
   simp -implicitDefEqProofs only [ah,x.len,ao]
   refine cL (Q:=fun o:Out => ∃ j h',o=some (Value.int .i64 j,h')∧decide (j≥0)=(l.any fun m => !recB m)∧Old h h') (cD (t150l150_1010_eq CW) (ixRound150 hG x hw hl) l.length (by have:rounds=18446744073709551616:=rfl;omega)
    ⟨0,Nat.zero_add _,rfl,rfl,rfl,rfl,Kept.refl _ _,rfl⟩) ?_
   rintro ex z g ⟨o,⟨rfl,⟨i,z4⟩,ha⟩|⟨rfl,ha⟩⟩
   ·rw [fe,res_one (t:=4) results150 (by decide),z4]
    exact ⟨i,g,rfl,by rw [ha];exact decide_eq_true (by omega),o⟩
   ·simp -implicitDefEqProofs only [bR,b150_exit,t150k150_1_eq]
    unfold t150k150_1
    exact ⟨-1,g,rfl,by rw [ha];rfl,o⟩
  obtain ⟨j,h',e1,e2,e3⟩:=k2
  exact ⟨j,h',ay is150 hG rfl ((t150_eq _ _ _ _).trans e1),e2,e3⟩
 obtain ⟨j,h',e1,e2,e3⟩:=key
 refine ⟨h',ay is136 hG rfl ((t136_eq _ _ _ _).trans ?_),e3⟩
 unfold t136
 simp -implicitDefEqProofs only [ah,e1,aJ,ao,e2]
theorem is125:bG Tryz.prog 125 Tryz.f125:=⟨by kernel_rfl,by kernel_rfl,by kernel_rfl,by kernel_rfl⟩
theorem r125 {h:ai} {v:Value} {l:List ee} (hG:4≤h.n0) (x:cH h memK v l.length (l.flatMap dm)) (hw : ∀ x∈l,x.Wf) : ∃ h',CW 125 [v] h=some (.bool (tableB l),h')∧Old h h':=by
 unfold tableB
 cases q0:decide ((l.length:Int)≥1) with
 |false=>
  refine ⟨h,ay is125 hG rfl ((t125_eq _ _ _).trans ?_),Kept.refl _ _⟩
  unfold t125
  simp -implicitDefEqProofs only [x.len, q0, ah, ao, ar, fs, aj, Bool.false_eq_true, if_false, aJ, Bool.false_and]
 |true=>
 cases q1:decide ((l.length:Int)≤16) with
 |false=>
  refine ⟨h,ay is125 hG rfl ((t125_eq _ _ _).trans ?_),Kept.refl _ _⟩
  unfold t125
  simp -implicitDefEqProofs only [x.len, q0, q1, ah, ao, ar, fs, beq_self_eq_true, ak, aj, Bool.false_eq_true, if_false, if_true, aJ, aK, Bool.and_false, Bool.false_and]
 |true=>
 have:=of_decide_eq_true q1
 obtain ⟨h1,e1,o1⟩:=r145 hG x hw (by omega)
 refine ⟨h1,ay is125 hG rfl ((t125_eq _ _ _).trans ?_),o1⟩
 unfold t125
 simp -implicitDefEqProofs only [x.len, q0, q1, e1, ah, ao, ar, beq_self_eq_true, ak, if_true, av, aJ, aK, Bool.and_true, Bool.true_and]
theorem is131:bG Tryz.prog 131 Tryz.f131:=⟨by kernel_rfl,by kernel_rfl,by kernel_rfl,by kernel_rfl⟩
section
variable {h:ai} {s:dN} {m:bc} (hG:4≤h.n0) (x:Has h s m)
include hG x
theorem r131 : ∃ h',CW 131 [gv m s] h=some (.int .i64 (if manBad m then 2 else 0),h')∧Old h h':=by
 have mo:=man_ok x.sl (bc.ok x.wf)
 have b1:=dP h (m.d.eu s) mo.2.1
 have o1:Old h (h.alloc (m.d.eu s)):=Kept.alloc _ _ _
 have g1:(h.alloc (m.d.eu s)).get h.next=some (m.d.eu s):=by rw [ai.aN,if_pos rfl]
 generalize h.alloc (m.d.eu s)=h1 at *
 have A:=man_ld (x.sl.bL o1) (bc.ok x.wf) g1
 have l0:aP (ptr h.next 0) h1=some (.int .i64 m.gk,h1):=A.l0
 have l1:aP (ptr h.next 1) h1=some (.int .i64 m.gn,h1):=A.l1
 have l2:aP (ptr h.next 2) h1=some (.int .i64 m.gt,h1):=A.l2
 have l3:aP (ptr h.next 3) h1=some (.int .i64 m.gs,h1):=A.l3
 have e1:=r148 (h:=h1) (by rw [o1.n0];exact hG) m.gk m.gn m.gt
 refine ⟨h1,ay is131 hG rfl ((t131_eq _ _ _).trans ?_),o1⟩
 unfold t131 manBad
 cases q0 : !sizesB m.gk m.gn m.gt with
 |true=>simp -implicitDefEqProofs only [b1, l0, l1, l2, e1, ah, ao, ar, sf, aj, if_true, aq, Nat.zero_add, av, q0, Bool.true_or]
 |false=>
 cases q1:decide (m.gs<0) with
 |true=>simp -implicitDefEqProofs only [b1, l0, l1, l2, l3, e1, ah, ao, ar, sf, beq_self_eq_true, ak, aj, Bool.false_eq_true, if_false, if_true, aq, Nat.zero_add, av, aF, q0, q1, Bool.or_true, Bool.true_or]
 |false=>
 cases q2:decide (m.gs>8192) with
 |true=>simp -implicitDefEqProofs only [b1, l0, l1, l2, l3, e1, ah, ao, ar, sf, beq_self_eq_true, ak, aj, Bool.false_eq_true, if_false, if_true, aq, Nat.zero_add, av, aF, aE, q0, q1, q2, Bool.or_true, Bool.true_or, Bool.or_false]
 |false=>
 cases q3:((m.pieces.length:Int) != m.gt) with
 |true=>simp -implicitDefEqProofs only [b1, l0, l1, l2, l3, A.eT, e1, x.len.2.2.2.2.1, ah, ao, ar, beq_self_eq_true, ak, Bool.false_eq_true, if_false, if_true, aq, Nat.zero_add, av, aF, aE, aB, q0, q1, q2, q3, Bool.or_true, Bool.or_false]
 |false=>
 simp -implicitDefEqProofs only [b1, l0, l1, l2, l3, A.eT, e1, x.len.2.2.2.2.1, ah, ao, ar, beq_self_eq_true, ak, Bool.false_eq_true, if_false, aq, Nat.zero_add, av, aF, aE, aB, q0, q1, q2, q3, Bool.or_false]
end
theorem is95:bG Tryz.prog 95 Tryz.f95:=⟨by kernel_rfl,by kernel_rfl,by kernel_rfl,by kernel_rfl⟩
theorem is111:bG Tryz.prog 111 Tryz.f111:=⟨by kernel_rfl,by kernel_rfl,by kernel_rfl,by kernel_rfl⟩
theorem is102:bG Tryz.prog 102 Tryz.f102:=⟨by kernel_rfl,by kernel_rfl,by kernel_rfl,by kernel_rfl⟩
theorem is106:bG Tryz.prog 106 Tryz.f106:=⟨by kernel_rfl,by kernel_rfl,by kernel_rfl,by kernel_rfl⟩
theorem is118:bG Tryz.prog 118 Tryz.f118:=⟨by kernel_rfl,by kernel_rfl,by kernel_rfl,by kernel_rfl⟩
def rangeB (m:bc):Bool:=decide ((m.low.length:Int)≤34)&&decide ((m.high.length:Int)≤34)&&decide (m.count≥0)&&decide (m.count≤1048576)&&decide ((m.cR.length:Int)≤64) && !(m.cR.any fun r => !recB r)
def tabB (m:bc):Bool:=peerB m.origin&&peerB m.target&&tableB m.table
def pceB (m:bc):Bool := !manBad m&&decide (m.de≥0)&&decide (m.de<m.gt)&&decide ((m.data.length:Int)≤8192)
def codeB (m:bc):Bool:=decide (m.code≥0)&&decide (m.code≤999)
section
variable {h:ai} {s:dN} {m:bc} (hG:4≤h.n0) (x:Has h s m)
include hG x
theorem r102 : ∃ h',CW 102 [mv m s] h=some (.bool true,h')∧Old h h':=by
 obtain ⟨h1,b1,o1,-⟩:=eU x
 refine ⟨h1,ay is102 hG rfl ((t102_eq _ _ _).trans ?_),o1⟩
 unfold t102
 simp -implicitDefEqProofs only [b1,ah]
theorem r118 : ∃ h',CW 118 [mv m s] h=some (.bool (codeB m),h')∧Old h h':=by
 obtain ⟨h1,b1,o1,x1,A,-⟩:=eU x
 refine ⟨h1,ay is118 hG rfl ((t118_eq _ _ _).trans ?_),o1⟩
 unfold t118 codeB
 cases q0:decide (m.code≥0) with
 |false=>simp -implicitDefEqProofs only [b1, A.aW, ah, ao, ar, fs, aj, Bool.false_eq_true, if_false, aq, Nat.zero_add, aJ, q0, Bool.false_and]
 |true=>
 cases q1:decide (m.code≤999) with
 |false=>simp -implicitDefEqProofs only [b1, A.aW, ah, ao, ar, beq_self_eq_true, ak, if_true, aq, Nat.zero_add, aJ, aK, q0, q1, Bool.and_false]
 |true=>
 simp -implicitDefEqProofs only [b1, A.aW, ah, ao, ar, beq_self_eq_true, ak, if_true, aq, Nat.zero_add, aJ, aK, q0, q1, Bool.and_true]
theorem r95 : ∃ h',CW 95 [mv m s] h=some (.bool (tabB m),h')∧Old h h':=by
 obtain ⟨h1,b1,o1,x1,A,-⟩:=eU x
 have hG1:4≤h1.n0:=by rw [o1.n0];exact hG
 have e1:=r46 hG1 m.origin
 have e2:=r46 hG1 m.target
 obtain ⟨h2,e3,o2⟩:=r125 hG1 x1.sl.a x.wf.table
 unfold tabB
 cases q0:peerB m.origin with
 |false=>
  refine ⟨h1,ay is95 hG rfl ((t95_eq _ _ _).trans ?_),o1⟩
  unfold t95
  simp -implicitDefEqProofs only [b1, A.l4, e1, q0, ah, ao, ar, fs, aj, Bool.false_eq_true, if_false, aq, Nat.zero_add, Bool.false_and]
 |true=>
 cases q1:peerB m.target with
 |false=>
  refine ⟨h1,ay is95 hG rfl ((t95_eq _ _ _).trans ?_),o1⟩
  unfold t95
  simp -implicitDefEqProofs only [b1, A.l4, A.l5, e1, e2, q0, q1, ah, ao, ar, fs, beq_self_eq_true, ak, aj, Bool.false_eq_true, if_false, if_true, aq, Nat.zero_add, Bool.and_false, Bool.false_and]
 |true=>
 refine ⟨h2,ay is95 hG rfl ((t95_eq _ _ _).trans ?_),o1.trans o2⟩
 unfold t95
 simp -implicitDefEqProofs only [b1, A.l4, A.l5, A.l6, e1, e2, e3, q0, q1, ah, ao, ar, beq_self_eq_true, ak, if_true, aq, Nat.zero_add, Bool.and_true, Bool.true_and]
theorem r106 : ∃ h',CW 106 [mv m s] h=some (.bool (pceB m),h')∧Old h h':=by
 obtain ⟨h1,b1,o1,x1,A,nx,hh⟩:=eU x
 have hG1:4≤h1.n0:=by rw [o1.n0];exact hG
 obtain ⟨h2,e1,o2⟩:=r131 hG1 x1
 have g2:=Old.get o2 A.g
 have A2:=cS (x1.bL o2) g2
 have l78:aP (ptr h.next 78) h2=some (.int .i64 m.gt,h2):=aU g2 (by
  have:=at42 (s:=s) (bc.ok x.wf)
  have hr:(bZ m.root).length=32:=by rw [List.length_map];exact x.wf.root.1
  have ho:(bZ m.obj).length=32:=by rw [List.length_map];exact x.wf.obj.1
  exact cT 68 rfl (cT 36 (by show (bZ m.root).length+36=68;omega) (cT 34 rfl (cT 2 (by show (bZ m.obj).length+2=34;omega) rfl)))) rfl
 refine ⟨h2,ay is106 hG rfl ((t106_eq _ _ _).trans ?_),o1.trans o2⟩
 have hz:((if manBad m then (2:Int) else 0)==0) = !manBad m:=by cases manBad m<;>rfl
 unfold t106 pceB
 cases q0 : !manBad m with
 |false=>simp -implicitDefEqProofs only [b1, A.bY, e1, hz, ah, ao, ar, fs, aj, Bool.false_eq_true, if_false, aq, Nat.zero_add, aG, q0, Bool.false_and]
 |true=>
 cases q1:decide (m.de≥0) with
 |false=>simp -implicitDefEqProofs only [b1, A.bY, e1, hz, A2.aV, ah, ao, ar, fs, beq_self_eq_true, ak, aj, Bool.false_eq_true, if_false, if_true, aq, Nat.zero_add, Nat.reduceAdd, aJ, aG, q0, q1, Bool.and_false, Bool.false_and]
 |true=>
 cases q2:decide (m.de<m.gt) with
 |false=>simp -implicitDefEqProofs only [b1, A.bY, e1, hz, A2.aV, l78, ah, ao, ar, fs, beq_self_eq_true, ak, aj, Bool.false_eq_true, if_false, if_true, aq, Nat.zero_add, Nat.reduceAdd, aJ, aF, aG, q0, q1, q2, Bool.and_true, Bool.and_false, Bool.false_and]
 |true=>
 cases q3:decide ((m.data.length:Int)≤8192) with
 |false=>simp -implicitDefEqProofs only [b1, A.bY, e1, hz, A2.aV, l78, A2.aT, x.len.2.2.2.2.2, ah, ao, ar, beq_self_eq_true, ak, if_true, aq, Nat.zero_add, Nat.reduceAdd, aJ, aK, aF, aG, q0, q1, q2, q3, Bool.and_true, Bool.and_false]
 |true=>
 simp -implicitDefEqProofs only [b1, A.bY, e1, hz, A2.aV, l78, A2.aT, x.len.2.2.2.2.2, ah, ao, ar, beq_self_eq_true, ak, if_true, aq, Nat.zero_add, Nat.reduceAdd, aJ, aK, aF, aG, q0, q1, q2, q3, Bool.and_true]
theorem r111 : ∃ h',CW 111 [mv m s] h=some (.bool (rangeB m),h')∧Old h h':=by
 obtain ⟨h1,b1,o1,x1,A,-⟩:=eU x
 have hG1:4≤h1.n0:=by rw [o1.n0];exact hG
 obtain ⟨n1,n2,n3,n4,n5,n6⟩:=x.len
 by_cases q4':(m.cR.length:Int)≤64
 ·obtain ⟨h2,e3,o2⟩:=r136 hG1 x1.sl.d x.wf.cR (by omega)
  unfold rangeB
  cases q0:decide ((m.low.length:Int)≤34) with
  |false=>
   refine ⟨h1,ay is111 hG rfl ((t111_eq _ _ _).trans ?_),o1⟩
   unfold t111
   simp -implicitDefEqProofs only [b1, A.l7, n2, ah, ao, ar, fs, aj, Bool.false_eq_true, if_false, aq, Nat.zero_add, aK, q0, Bool.false_and]
  |true=>
  cases q1:decide ((m.high.length:Int)≤34) with
  |false=>
   refine ⟨h1,ay is111 hG rfl ((t111_eq _ _ _).trans ?_),o1⟩
   unfold t111
   simp -implicitDefEqProofs only [b1, A.l7, A.l8, n2, n3, ah, ao, ar, fs, beq_self_eq_true, ak, aj, Bool.false_eq_true, if_false, if_true, aq, Nat.zero_add, aK, q0, q1, Bool.and_false, Bool.false_and]
  |true=>
  cases q2:decide (m.count≥0) with
  |false=>
   refine ⟨h1,ay is111 hG rfl ((t111_eq _ _ _).trans ?_),o1⟩
   unfold t111
   simp -implicitDefEqProofs only [b1, A.l7, A.l8, A.l9, n2, n3, ah, ao, ar, fs, beq_self_eq_true, ak, aj, Bool.false_eq_true, if_false, if_true, aq, Nat.zero_add, aJ, aK, q0, q1, q2, Bool.and_true, Bool.and_false, Bool.false_and]
  |true=>
  cases q3:decide (m.count≤1048576) with
  |false=>
   refine ⟨h1,ay is111 hG rfl ((t111_eq _ _ _).trans ?_),o1⟩
   unfold t111
   simp -implicitDefEqProofs only [b1, A.l7, A.l8, A.l9, n2, n3, ah, ao, ar, fs, beq_self_eq_true, ak, aj, Bool.false_eq_true, if_false, if_true, aq, Nat.zero_add, aJ, aK, q0, q1, q2, q3, Bool.and_true, Bool.and_false, Bool.false_and]
  |true=>
  have q4:decide ((m.cR.length:Int)≤64)=true:=decide_eq_true q4'
  refine ⟨h2,ay is111 hG rfl ((t111_eq _ _ _).trans ?_),o1.trans o2⟩
  unfold t111
  simp -implicitDefEqProofs only [b1, A.l7, A.l8, A.l9, A.bN, n2, n3, n4, e3, ah, ao, ar, beq_self_eq_true, ak, if_true, aq, Nat.zero_add, av, aJ, aK, q0, q1, q2, q3, q4, Bool.and_true, Bool.true_and]
 ·have q4:decide ((m.cR.length:Int)≤64)=false:=decide_eq_false q4'
  refine ⟨h1,ay is111 hG rfl ((t111_eq _ _ _).trans ?_),o1⟩
  unfold t111 rangeB
  cases q0:decide ((m.low.length:Int)≤34) with
  |false=>simp -implicitDefEqProofs only [b1, A.l7, n2, q4, ah, ao, ar, fs, aj, Bool.false_eq_true, if_false, aq, Nat.zero_add, aK, q0, Bool.and_false, Bool.false_and]
  |true=>
  cases q1:decide ((m.high.length:Int)≤34) with
  |false=>simp -implicitDefEqProofs only [b1, A.l7, A.l8, n2, n3, q4, ah, ao, ar, fs, beq_self_eq_true, ak, aj, Bool.false_eq_true, if_false, if_true, aq, Nat.zero_add, aK, q0, q1, Bool.and_false, Bool.false_and]
  |true=>
  cases q2:decide (m.count≥0) with
  |false=>simp -implicitDefEqProofs only [b1, A.l7, A.l8, A.l9, n2, n3, q4, ah, ao, ar, fs, beq_self_eq_true, ak, aj, Bool.false_eq_true, if_false, if_true, aq, Nat.zero_add, aJ, aK, q0, q1, q2, Bool.and_true, Bool.and_false, Bool.false_and]
  |true=>
  cases q3:decide (m.count≤1048576) with
  |false=>simp -implicitDefEqProofs only [b1, A.l7, A.l8, A.l9, n2, n3, q4, ah, ao, ar, fs, beq_self_eq_true, ak, aj, Bool.false_eq_true, if_false, if_true, aq, Nat.zero_add, aJ, aK, q0, q1, q2, q3, Bool.and_true, Bool.and_false, Bool.false_and]
  |true=>
  simp -implicitDefEqProofs only [b1, A.l7, A.l8, A.l9, A.bN, n2, n3, n4, q4, ah, ao, ar, fs, beq_self_eq_true, ak, aj, Bool.false_eq_true, if_false, if_true, aq, Nat.zero_add, aJ, aK, q0, q1, q2, q3, Bool.and_true, Bool.and_false, Bool.false_and]
end
end Go.Proofs.YtjghlcdidopcpaaGreatDoor

namespace Go.Proofs.YtjghlcdidopcpaaGreatDoor
open Go Go.Abs
attribute [local congr] bo
deriving instance DecidableEq for ee
deriving instance DecidableEq for bc
theorem ld_agg {t n:Nat} (h1:aggT Tryz.prog t=some true) (h2:cr Tryz.prog t=some n) (v:Value) (h:ai):ld Tryz.prog t v h=cq n v h:=by
 unfold ld
 rw [h1,h2]
theorem getD_mkF {n k:Nat} (hk:k<n) (x:Nat→Value):(bE n x).getD k undef=x k:=by
 unfold bE
 simp [hk]
theorem fA {rs:List ResultVar} {n k t z:Nat} (hr:rs = [.cell k t]) (h1:aggT Tryz.prog t=some true) (h2:cr Tryz.prog t=some z) (hk:k<n) (x:Nat→Value) {h:ai} {v:Value} (e:cq z (x k) h=some (v,h)):aw Tryz.prog rs (bE n x) h=some (v,h):=by
 subst hr
 simp only [aw,dM,getD_mkF hk,ld_agg h1 h2,e]
 rfl
theorem bj {rs:List ResultVar} {n k t z j:Nat} (hr:rs = [.cell k t,.tmp j]) (h1:aggT Tryz.prog t=some true) (h2:cr Tryz.prog t=some z) (hk:k<n) (hj:j<n) (x:Nat→Value) {h:ai} {v:Value} (e:cq z (x k) h=some (v,h)):aw Tryz.prog rs (bE n x) h=some (.tuple #[v,x j],h):=by
 subst hr
 simp only [aw,List.mapM_cons,List.mapM_nil,dM,getD_mkF hk,getD_mkF hj,ld_agg h1 h2,e]
 rfl
theorem cH.nil (h:ai) (ks:List Kd):cH h ks (.slice none 0 0) 0 []:=⟨none,0,rfl,fun _=>rfl,⟨by simp,fun i hi=>absurd hi (Nat.not_lt_zero i)⟩,fun h=>absurd h (Nat.lt_irrefl 0)⟩
def bF:dN:=⟨.slice none 0 0,.slice none 0 0,.slice none 0 0,.slice none 0 0,.slice none 0 0,.slice none 0 0⟩
def bc.z:bc:=⟨0,0,0,0,0,0,0,z32,false,z32,0,0,0,0,z32,0,0,[],[],[],[],[],[]⟩
theorem z32_ok:D32 z32:=⟨rfl,fun x hx=>by
 have:=List.eq_of_mem_replicate hx
 omega⟩
theorem bc.z_wf:bc.z.Wf:=⟨by decide,eA,eA,by decide,eA,eA,eA,z32_ok,z32_ok,eA,eA,eA,eA,z32_ok,eA,eA,fun x hx=>(by cases hx),fun x hx=>(by cases hx),fun x hx=>(by cases hx),fun x hx=>(by cases hx),fun x hx=>(by cases hx),fun x hx=>by cases hx⟩
def sPing (m:bc):bc:={ bc.z with seq:=m.seq,origin:=m.origin,table:=m.table }
def sReq (m:bc):bc:={ bc.z with seq:=m.seq,target:=m.target,table:=m.table }
def sSum (m:bc):bc:={ bc.z with low:=m.low,high:=m.high,count:=m.count,root:=m.root }
def sItems (m:bc):bc:={ bc.z with low:=m.low,high:=m.high,want:=m.want,cR:=m.cR }
def sObj (m:bc):bc:={ bc.z with obj:=m.obj }
def sPiece (m:bc):bc:={ bc.z with obj:=m.obj,gk:=m.gk,gn:=m.gn,gt:=m.gt,gs:=m.gs,cK:=m.cK,pieces:=m.pieces,de:=m.de,data:=m.data }
def sStored (m:bc):bc:={ bc.z with obj:=m.obj,code:=m.code }
theorem sPing_wf {m:bc} (w:m.Wf):(sPing m).Wf:={ bc.z_wf with seq:=w.seq,origin:=w.origin,table:=w.table }
theorem sReq_wf {m:bc} (w:m.Wf):(sReq m).Wf:={ bc.z_wf with seq:=w.seq,target:=w.target,table:=w.table }
theorem sSum_wf {m:bc} (w:m.Wf):(sSum m).Wf:={ bc.z_wf with low:=w.low,high:=w.high,count:=w.count,root:=w.root }
theorem sItems_wf {m:bc} (w:m.Wf):(sItems m).Wf:={ bc.z_wf with low:=w.low,high:=w.high,cR:=w.cR }
theorem sObj_wf {m:bc} (w:m.Wf):(sObj m).Wf:={ bc.z_wf with obj:=w.obj }
theorem sPiece_wf {m:bc} (w:m.Wf):(sPiece m).Wf:={ bc.z_wf with obj:=w.obj,gk:=w.gk,gn:=w.gn,gt:=w.gt,gs:=w.gs,cK:=w.cK,pieces:=w.pieces,de:=w.de,data:=w.data }
theorem sStored_wf {m:bc} (w:m.Wf):(sStored m).Wf:={ bc.z_wf with obj:=w.obj,code:=w.code }
theorem agg37:aggT Tryz.prog 37=some true:=by kernel_rfl
theorem siz37:cr Tryz.prog 37=some 116:=by kernel_rfl
theorem bU {l:List Nat} (h:D32 l):(bZ l).length=32:=by rw [List.length_map];exact h.1
theorem cH.form {h:ai} {ks:List Kd} {v:Value} {n:Nat} {cs:List Value} (x:cH h ks v n cs) : ∃ a c,v = .slice a n c:=by
 obtain ⟨a,c,e,_⟩:=x
 exact ⟨a,c,e⟩
theorem made {h h1:ai} {s':dN} {m':bc} (o:Old h h1) (x:Has h s' m') : ∃ hz h2,eQ [(.int .u8 0),(.int .i64 0),(.int .i64 0),(.int .u64 0),(.int .i64 0),(.int .i64 0),(.slice none 0 0),(.slice none 0 0),(.slice none 0 0),(.int .i64 0),(.int .u8 0),(.int .u8 0),(.int .u8 0),(.int .u8 0),(.int .u8 0),(.int .u8 0),(.int .u8 0),(.int .u8 0),(.int .u8 0),(.int .u8 0),(.int .u8 0),(.int .u8 0),(.int .u8 0),(.int .u8 0),(.int .u8 0),(.int .u8 0),(.int .u8 0),(.int .u8 0),(.int .u8 0),(.int .u8 0),(.int .u8 0),(.int .u8 0),(.int .u8 0),(.int .u8 0),(.int .u8 0),(.int .u8 0),(.int .u8 0),(.int .u8 0),(.int .u8 0),(.int .u8 0),(.int .u8 0),(.int .u8 0),(.slice none 0 0),(.bool false),(.int .u8 0),(.int .u8 0),(.int .u8 0),(.int .u8 0),(.int .u8 0),(.int .u8 0),(.int .u8 0),(.int .u8 0),(.int .u8 0),(.int .u8 0),(.int .u8 0),(.int .u8 0),(.int .u8 0),(.int .u8 0),(.int .u8 0),(.int .u8 0),(.int .u8 0),(.int .u8 0),(.int .u8 0),(.int .u8 0),(.int .u8 0),(.int .u8 0),(.int .u8 0),(.int .u8 0),(.int .u8 0),(.int .u8 0),(.int .u8 0),(.int .u8 0),(.int .u8 0),(.int .u8 0),(.int .u8 0),(.int .u8 0),(.int .i64 0),(.int .i64 0),(.int .i64 0),(.int .i64 0),(.int .u8 0),(.int .u8 0),(.int .u8 0),(.int .u8 0),(.int .u8 0),(.int .u8 0),(.int .u8 0),(.int .u8 0),(.int .u8 0),(.int .u8 0),(.int .u8 0),(.int .u8 0),(.int .u8 0),(.int .u8 0),(.int .u8 0),(.int .u8 0),(.int .u8 0),(.int .u8 0),(.int .u8 0),(.int .u8 0),(.int .u8 0),(.int .u8 0),(.int .u8 0),(.int .u8 0),(.int .u8 0),(.int .u8 0),(.int .u8 0),(.int .u8 0),(.int .u8 0),(.int .u8 0),(.int .u8 0),(.int .u8 0),(.slice none 0 0),(.int .i64 0),(.slice none 0 0),(.int .i64 0)] h1=some (ptr h1.next 0,hz)∧Old h1 hz∧cv 116 (ptr h1.next 0) (mv m' s') hz=some (undef,h2)∧cq 116 (ptr h1.next 0) h2=some (mv m' s',h2)∧Has h2 s' m'∧Old h h2∧h2.get h1.next=some (m'.d.cells s')∧Old h1 h2:=by
 have c:=dD x.sl (bc.ok x.wf)
 obtain ⟨h2,e1,e2,e3,_⟩:=one_new h1 (Z := [(.int .u8 0),(.int .i64 0),(.int .i64 0),(.int .u64 0),(.int .i64 0),(.int .i64 0),(.slice none 0 0),(.slice none 0 0),(.slice none 0 0),(.int .i64 0),(.int .u8 0),(.int .u8 0),(.int .u8 0),(.int .u8 0),(.int .u8 0),(.int .u8 0),(.int .u8 0),(.int .u8 0),(.int .u8 0),(.int .u8 0),(.int .u8 0),(.int .u8 0),(.int .u8 0),(.int .u8 0),(.int .u8 0),(.int .u8 0),(.int .u8 0),(.int .u8 0),(.int .u8 0),(.int .u8 0),(.int .u8 0),(.int .u8 0),(.int .u8 0),(.int .u8 0),(.int .u8 0),(.int .u8 0),(.int .u8 0),(.int .u8 0),(.int .u8 0),(.int .u8 0),(.int .u8 0),(.int .u8 0),(.slice none 0 0),(.bool false),(.int .u8 0),(.int .u8 0),(.int .u8 0),(.int .u8 0),(.int .u8 0),(.int .u8 0),(.int .u8 0),(.int .u8 0),(.int .u8 0),(.int .u8 0),(.int .u8 0),(.int .u8 0),(.int .u8 0),(.int .u8 0),(.int .u8 0),(.int .u8 0),(.int .u8 0),(.int .u8 0),(.int .u8 0),(.int .u8 0),(.int .u8 0),(.int .u8 0),(.int .u8 0),(.int .u8 0),(.int .u8 0),(.int .u8 0),(.int .u8 0),(.int .u8 0),(.int .u8 0),(.int .u8 0),(.int .u8 0),(.int .u8 0),(.int .i64 0),(.int .i64 0),(.int .i64 0),(.int .i64 0),(.int .u8 0),(.int .u8 0),(.int .u8 0),(.int .u8 0),(.int .u8 0),(.int .u8 0),(.int .u8 0),(.int .u8 0),(.int .u8 0),(.int .u8 0),(.int .u8 0),(.int .u8 0),(.int .u8 0),(.int .u8 0),(.int .u8 0),(.int .u8 0),(.int .u8 0),(.int .u8 0),(.int .u8 0),(.int .u8 0),(.int .u8 0),(.int .u8 0),(.int .u8 0),(.int .u8 0),(.int .u8 0),(.int .u8 0),(.int .u8 0),(.int .u8 0),(.int .u8 0),(.int .u8 0),(.int .u8 0),(.int .u8 0),(.slice none 0 0),(.int .i64 0),(.slice none 0 0),(.int .i64 0)]) rfl c.2.2 c.2.1
 have x2:=(x.bL o).bL e2
 exact ⟨_,h2,newC_eq _ _,Kept.alloc _ _ _,e1,(cS x2 e3).all,x2,o.trans e2,e3,e2⟩
section
variable {h:ai} {s:dN} {m:bc} (hG:4≤h.n0) (x:Has h s m)
include hG x
omit hG x in
theorem is96:bG Tryz.prog 96 Tryz.f96:=⟨by kernel_rfl,by kernel_rfl,by kernel_rfl,by kernel_rfl⟩
set_option maxRecDepth 100000 in
theorem r96 : ∃ s' h',CW 96 [mv m s] h=some (mv (sPing m) s',h')∧Has h' s' (sPing m)∧Old h h':=by
 obtain ⟨h1,b1,o1,x1,A,-⟩:=eU x
 have hr:Tryz.f96.results.toList = [.cell 2 37]:=by kernel_rfl
 have bl:cI [(.int .u8 0),(.int .i64 0),(.int .i64 0),(.int .u64 0),(.int .i64 0),(.int .i64 0),(.slice none 0 0),(.slice none 0 0),(.slice none 0 0),(.int .i64 0),(.int .u8 0),(.int .u8 0),(.int .u8 0),(.int .u8 0),(.int .u8 0),(.int .u8 0),(.int .u8 0),(.int .u8 0),(.int .u8 0),(.int .u8 0),(.int .u8 0),(.int .u8 0),(.int .u8 0),(.int .u8 0),(.int .u8 0),(.int .u8 0),(.int .u8 0),(.int .u8 0),(.int .u8 0),(.int .u8 0),(.int .u8 0),(.int .u8 0),(.int .u8 0),(.int .u8 0),(.int .u8 0),(.int .u8 0),(.int .u8 0),(.int .u8 0),(.int .u8 0),(.int .u8 0),(.int .u8 0),(.int .u8 0),(.slice none 0 0),(.bool false),(.int .u8 0),(.int .u8 0),(.int .u8 0),(.int .u8 0),(.int .u8 0),(.int .u8 0),(.int .u8 0),(.int .u8 0),(.int .u8 0),(.int .u8 0),(.int .u8 0),(.int .u8 0),(.int .u8 0),(.int .u8 0),(.int .u8 0),(.int .u8 0),(.int .u8 0),(.int .u8 0),(.int .u8 0),(.int .u8 0),(.int .u8 0),(.int .u8 0),(.int .u8 0),(.int .u8 0),(.int .u8 0),(.int .u8 0),(.int .u8 0),(.int .u8 0),(.int .u8 0),(.int .u8 0),(.int .u8 0),(.int .u8 0),(.int .i64 0),(.int .i64 0),(.int .i64 0),(.int .i64 0),(.int .u8 0),(.int .u8 0),(.int .u8 0),(.int .u8 0),(.int .u8 0),(.int .u8 0),(.int .u8 0),(.int .u8 0),(.int .u8 0),(.int .u8 0),(.int .u8 0),(.int .u8 0),(.int .u8 0),(.int .u8 0),(.int .u8 0),(.int .u8 0),(.int .u8 0),(.int .u8 0),(.int .u8 0),(.int .u8 0),(.int .u8 0),(.int .u8 0),(.int .u8 0),(.int .u8 0),(.int .u8 0),(.int .u8 0),(.int .u8 0),(.int .u8 0),(.int .u8 0),(.int .u8 0),(.int .u8 0),(.int .u8 0),(.slice none 0 0),(.int .i64 0),(.slice none 0 0),(.int .i64 0)] [(3,1,.int .u64 (m.seq:Int)),(4,1,.int .i64 m.origin),(6,1,s.a)]=some (mv (sPing m) ⟨s.a,bF.b,bF.c,bF.d,bF.e,bF.f⟩):=by
  obtain ⟨aa,ca,ea⟩:=x.sl.a.form
  rw [ea]
  rfl
 have X:Has h ⟨s.a,bF.b,bF.c,bF.d,bF.e,bF.f⟩ (sPing m):=⟨⟨x.sl.a,.nil _ _,.nil _ _,.nil _ _,.nil _ _,.nil _ _⟩,sPing_wf x.wf⟩
 obtain ⟨hz,h2,z1,oz,u1,u2,X2,o2,_⟩:=made o1 X
 have A:=cS (x1.bL oz) (Old.get oz A.g)
 refine ⟨_,h2,ay is96 hG rfl ((t96_eq _ _ _).trans ?_),X2,o2⟩
 unfold t96
 simp -implicitDefEqProofs only [b1, z1, A.l3, A.l4, A.l6, bl, u1, ah, ao, aq, Nat.zero_add]
 exact fA hr agg37 siz37 (show 2<10 by decide) _ u2
omit hG x in
theorem is99:bG Tryz.prog 99 Tryz.f99:=⟨by kernel_rfl,by kernel_rfl,by kernel_rfl,by kernel_rfl⟩
set_option maxRecDepth 100000 in
theorem r99 : ∃ s' h',CW 99 [mv m s] h=some (mv (sReq m) s',h')∧Has h' s' (sReq m)∧Old h h':=by
 obtain ⟨h1,b1,o1,x1,A,-⟩:=eU x
 have hr:Tryz.f99.results.toList = [.cell 2 37]:=by kernel_rfl
 have bl:cI [(.int .u8 0),(.int .i64 0),(.int .i64 0),(.int .u64 0),(.int .i64 0),(.int .i64 0),(.slice none 0 0),(.slice none 0 0),(.slice none 0 0),(.int .i64 0),(.int .u8 0),(.int .u8 0),(.int .u8 0),(.int .u8 0),(.int .u8 0),(.int .u8 0),(.int .u8 0),(.int .u8 0),(.int .u8 0),(.int .u8 0),(.int .u8 0),(.int .u8 0),(.int .u8 0),(.int .u8 0),(.int .u8 0),(.int .u8 0),(.int .u8 0),(.int .u8 0),(.int .u8 0),(.int .u8 0),(.int .u8 0),(.int .u8 0),(.int .u8 0),(.int .u8 0),(.int .u8 0),(.int .u8 0),(.int .u8 0),(.int .u8 0),(.int .u8 0),(.int .u8 0),(.int .u8 0),(.int .u8 0),(.slice none 0 0),(.bool false),(.int .u8 0),(.int .u8 0),(.int .u8 0),(.int .u8 0),(.int .u8 0),(.int .u8 0),(.int .u8 0),(.int .u8 0),(.int .u8 0),(.int .u8 0),(.int .u8 0),(.int .u8 0),(.int .u8 0),(.int .u8 0),(.int .u8 0),(.int .u8 0),(.int .u8 0),(.int .u8 0),(.int .u8 0),(.int .u8 0),(.int .u8 0),(.int .u8 0),(.int .u8 0),(.int .u8 0),(.int .u8 0),(.int .u8 0),(.int .u8 0),(.int .u8 0),(.int .u8 0),(.int .u8 0),(.int .u8 0),(.int .u8 0),(.int .i64 0),(.int .i64 0),(.int .i64 0),(.int .i64 0),(.int .u8 0),(.int .u8 0),(.int .u8 0),(.int .u8 0),(.int .u8 0),(.int .u8 0),(.int .u8 0),(.int .u8 0),(.int .u8 0),(.int .u8 0),(.int .u8 0),(.int .u8 0),(.int .u8 0),(.int .u8 0),(.int .u8 0),(.int .u8 0),(.int .u8 0),(.int .u8 0),(.int .u8 0),(.int .u8 0),(.int .u8 0),(.int .u8 0),(.int .u8 0),(.int .u8 0),(.int .u8 0),(.int .u8 0),(.int .u8 0),(.int .u8 0),(.int .u8 0),(.int .u8 0),(.int .u8 0),(.int .u8 0),(.slice none 0 0),(.int .i64 0),(.slice none 0 0),(.int .i64 0)] [(3,1,.int .u64 (m.seq:Int)),(5,1,.int .i64 m.target),(6,1,s.a)]=some (mv (sReq m) ⟨s.a,bF.b,bF.c,bF.d,bF.e,bF.f⟩):=by
  obtain ⟨aa,ca,ea⟩:=x.sl.a.form
  rw [ea]
  rfl
 have X:Has h ⟨s.a,bF.b,bF.c,bF.d,bF.e,bF.f⟩ (sReq m):=⟨⟨x.sl.a,.nil _ _,.nil _ _,.nil _ _,.nil _ _,.nil _ _⟩,sReq_wf x.wf⟩
 obtain ⟨hz,h2,z1,oz,u1,u2,X2,o2,_⟩:=made o1 X
 have A:=cS (x1.bL oz) (Old.get oz A.g)
 refine ⟨_,h2,ay is99 hG rfl ((t99_eq _ _ _).trans ?_),X2,o2⟩
 unfold t99
 simp -implicitDefEqProofs only [b1, z1, A.l3, A.l5, A.l6, bl, u1, ah, ao, aq, Nat.zero_add]
 exact fA hr agg37 siz37 (show 2<10 by decide) _ u2
omit hG x in
theorem is112:bG Tryz.prog 112 Tryz.f112:=⟨by kernel_rfl,by kernel_rfl,by kernel_rfl,by kernel_rfl⟩
set_option maxRecDepth 100000 in
theorem r112 : ∃ s' h',CW 112 [mv m s] h=some (mv (sSum m) s',h')∧Has h' s' (sSum m)∧Old h h':=by
 obtain ⟨h1,b1,o1,x1,A,-⟩:=eU x
 have hr:Tryz.f112.results.toList = [.cell 2 37]:=by kernel_rfl
 have bl:cI [(.int .u8 0),(.int .i64 0),(.int .i64 0),(.int .u64 0),(.int .i64 0),(.int .i64 0),(.slice none 0 0),(.slice none 0 0),(.slice none 0 0),(.int .i64 0),(.int .u8 0),(.int .u8 0),(.int .u8 0),(.int .u8 0),(.int .u8 0),(.int .u8 0),(.int .u8 0),(.int .u8 0),(.int .u8 0),(.int .u8 0),(.int .u8 0),(.int .u8 0),(.int .u8 0),(.int .u8 0),(.int .u8 0),(.int .u8 0),(.int .u8 0),(.int .u8 0),(.int .u8 0),(.int .u8 0),(.int .u8 0),(.int .u8 0),(.int .u8 0),(.int .u8 0),(.int .u8 0),(.int .u8 0),(.int .u8 0),(.int .u8 0),(.int .u8 0),(.int .u8 0),(.int .u8 0),(.int .u8 0),(.slice none 0 0),(.bool false),(.int .u8 0),(.int .u8 0),(.int .u8 0),(.int .u8 0),(.int .u8 0),(.int .u8 0),(.int .u8 0),(.int .u8 0),(.int .u8 0),(.int .u8 0),(.int .u8 0),(.int .u8 0),(.int .u8 0),(.int .u8 0),(.int .u8 0),(.int .u8 0),(.int .u8 0),(.int .u8 0),(.int .u8 0),(.int .u8 0),(.int .u8 0),(.int .u8 0),(.int .u8 0),(.int .u8 0),(.int .u8 0),(.int .u8 0),(.int .u8 0),(.int .u8 0),(.int .u8 0),(.int .u8 0),(.int .u8 0),(.int .u8 0),(.int .i64 0),(.int .i64 0),(.int .i64 0),(.int .i64 0),(.int .u8 0),(.int .u8 0),(.int .u8 0),(.int .u8 0),(.int .u8 0),(.int .u8 0),(.int .u8 0),(.int .u8 0),(.int .u8 0),(.int .u8 0),(.int .u8 0),(.int .u8 0),(.int .u8 0),(.int .u8 0),(.int .u8 0),(.int .u8 0),(.int .u8 0),(.int .u8 0),(.int .u8 0),(.int .u8 0),(.int .u8 0),(.int .u8 0),(.int .u8 0),(.int .u8 0),(.int .u8 0),(.int .u8 0),(.int .u8 0),(.int .u8 0),(.int .u8 0),(.int .u8 0),(.int .u8 0),(.int .u8 0),(.slice none 0 0),(.int .i64 0),(.slice none 0 0),(.int .i64 0)] [(7,1,s.b),(8,1,s.c),(9,1,.int .i64 m.count),(10,32,.agg (bZ m.root).toArray)]=some (mv (sSum m) ⟨bF.a,s.b,s.c,bF.d,bF.e,bF.f⟩):=by
  have e1:cP [(.int .u8 0),(.int .i64 0),(.int .i64 0),(.int .u64 0),(.int .i64 0),(.int .i64 0),(.slice none 0 0),(.slice none 0 0),(.slice none 0 0),(.int .i64 0),(.int .u8 0),(.int .u8 0),(.int .u8 0),(.int .u8 0),(.int .u8 0),(.int .u8 0),(.int .u8 0),(.int .u8 0),(.int .u8 0),(.int .u8 0),(.int .u8 0),(.int .u8 0),(.int .u8 0),(.int .u8 0),(.int .u8 0),(.int .u8 0),(.int .u8 0),(.int .u8 0),(.int .u8 0),(.int .u8 0),(.int .u8 0),(.int .u8 0),(.int .u8 0),(.int .u8 0),(.int .u8 0),(.int .u8 0),(.int .u8 0),(.int .u8 0),(.int .u8 0),(.int .u8 0),(.int .u8 0),(.int .u8 0),(.slice none 0 0),(.bool false),(.int .u8 0),(.int .u8 0),(.int .u8 0),(.int .u8 0),(.int .u8 0),(.int .u8 0),(.int .u8 0),(.int .u8 0),(.int .u8 0),(.int .u8 0),(.int .u8 0),(.int .u8 0),(.int .u8 0),(.int .u8 0),(.int .u8 0),(.int .u8 0),(.int .u8 0),(.int .u8 0),(.int .u8 0),(.int .u8 0),(.int .u8 0),(.int .u8 0),(.int .u8 0),(.int .u8 0),(.int .u8 0),(.int .u8 0),(.int .u8 0),(.int .u8 0),(.int .u8 0),(.int .u8 0),(.int .u8 0),(.int .u8 0),(.int .i64 0),(.int .i64 0),(.int .i64 0),(.int .i64 0),(.int .u8 0),(.int .u8 0),(.int .u8 0),(.int .u8 0),(.int .u8 0),(.int .u8 0),(.int .u8 0),(.int .u8 0),(.int .u8 0),(.int .u8 0),(.int .u8 0),(.int .u8 0),(.int .u8 0),(.int .u8 0),(.int .u8 0),(.int .u8 0),(.int .u8 0),(.int .u8 0),(.int .u8 0),(.int .u8 0),(.int .u8 0),(.int .u8 0),(.int .u8 0),(.int .u8 0),(.int .u8 0),(.int .u8 0),(.int .u8 0),(.int .u8 0),(.int .u8 0),(.int .u8 0),(.int .u8 0),(.int .u8 0),(.slice none 0 0),(.int .i64 0),(.slice none 0 0),(.int .i64 0)] [(7,1,s.b),(8,1,s.c),(9,1,.int .i64 m.count),(10,32,.agg (bZ m.root).toArray)]=cP ([.int .u8 0,.int .i64 0,.int .i64 0,.int .u64 0,.int .i64 0,.int .i64 0,.slice none 0 0,s.b,s.c,.int .i64 m.count]++(bZ z32++(bc.z.d.cells bF).drop 42)) [(10,32,.agg (bZ m.root).toArray)]:=by
   obtain ⟨ab,cb,eb⟩:=x.sl.b.form
   obtain ⟨ac,cc,ec⟩:=x.sl.c.form
   rw [eb,ec]
   rfl
  unfold cI
  rw [e1,fK (A := [.int .u8 0,.int .i64 0,.int .i64 0,.int .u64 0,.int .i64 0,.int .i64 0,.slice none 0 0,s.b,s.c,.int .i64 m.count]) (B:=bZ z32) (o:=10) (n:=32) rfl rfl rfl (bU x.wf.root)]
  rfl
 have X:Has h ⟨bF.a,s.b,s.c,bF.d,bF.e,bF.f⟩ (sSum m):=⟨⟨.nil _ _,x.sl.b,x.sl.c,.nil _ _,.nil _ _,.nil _ _⟩,sSum_wf x.wf⟩
 obtain ⟨hz,h2,z1,oz,u1,u2,X2,o2,_⟩:=made o1 X
 have A:=cS (x1.bL oz) (Old.get oz A.g)
 refine ⟨_,h2,ay is112 hG rfl ((t112_eq _ _ _).trans ?_),X2,o2⟩
 unfold t112
 simp -implicitDefEqProofs only [b1, z1, A.l7, A.l8, A.l9, A.cg, bl, u1, ah, ao, aq, Nat.zero_add]
 exact fA hr agg37 siz37 (show 2<12 by decide) _ u2
omit hG x in
theorem is115:bG Tryz.prog 115 Tryz.f115:=⟨by kernel_rfl,by kernel_rfl,by kernel_rfl,by kernel_rfl⟩
set_option maxRecDepth 100000 in
theorem r115 : ∃ s' h',CW 115 [mv m s] h=some (mv (sItems m) s',h')∧Has h' s' (sItems m)∧Old h h':=by
 obtain ⟨h1,b1,o1,x1,A,-⟩:=eU x
 have hr:Tryz.f115.results.toList = [.cell 2 37]:=by kernel_rfl
 have bl:cI [(.int .u8 0),(.int .i64 0),(.int .i64 0),(.int .u64 0),(.int .i64 0),(.int .i64 0),(.slice none 0 0),(.slice none 0 0),(.slice none 0 0),(.int .i64 0),(.int .u8 0),(.int .u8 0),(.int .u8 0),(.int .u8 0),(.int .u8 0),(.int .u8 0),(.int .u8 0),(.int .u8 0),(.int .u8 0),(.int .u8 0),(.int .u8 0),(.int .u8 0),(.int .u8 0),(.int .u8 0),(.int .u8 0),(.int .u8 0),(.int .u8 0),(.int .u8 0),(.int .u8 0),(.int .u8 0),(.int .u8 0),(.int .u8 0),(.int .u8 0),(.int .u8 0),(.int .u8 0),(.int .u8 0),(.int .u8 0),(.int .u8 0),(.int .u8 0),(.int .u8 0),(.int .u8 0),(.int .u8 0),(.slice none 0 0),(.bool false),(.int .u8 0),(.int .u8 0),(.int .u8 0),(.int .u8 0),(.int .u8 0),(.int .u8 0),(.int .u8 0),(.int .u8 0),(.int .u8 0),(.int .u8 0),(.int .u8 0),(.int .u8 0),(.int .u8 0),(.int .u8 0),(.int .u8 0),(.int .u8 0),(.int .u8 0),(.int .u8 0),(.int .u8 0),(.int .u8 0),(.int .u8 0),(.int .u8 0),(.int .u8 0),(.int .u8 0),(.int .u8 0),(.int .u8 0),(.int .u8 0),(.int .u8 0),(.int .u8 0),(.int .u8 0),(.int .u8 0),(.int .u8 0),(.int .i64 0),(.int .i64 0),(.int .i64 0),(.int .i64 0),(.int .u8 0),(.int .u8 0),(.int .u8 0),(.int .u8 0),(.int .u8 0),(.int .u8 0),(.int .u8 0),(.int .u8 0),(.int .u8 0),(.int .u8 0),(.int .u8 0),(.int .u8 0),(.int .u8 0),(.int .u8 0),(.int .u8 0),(.int .u8 0),(.int .u8 0),(.int .u8 0),(.int .u8 0),(.int .u8 0),(.int .u8 0),(.int .u8 0),(.int .u8 0),(.int .u8 0),(.int .u8 0),(.int .u8 0),(.int .u8 0),(.int .u8 0),(.int .u8 0),(.int .u8 0),(.int .u8 0),(.int .u8 0),(.slice none 0 0),(.int .i64 0),(.slice none 0 0),(.int .i64 0)] [(7,1,s.b),(8,1,s.c),(43,1,.bool m.want),(42,1,s.d)]=some (mv (sItems m) ⟨bF.a,s.b,s.c,s.d,bF.e,bF.f⟩):=by
  obtain ⟨ab,cb,eb⟩:=x.sl.b.form
  obtain ⟨ac,cc,ec⟩:=x.sl.c.form
  obtain ⟨ad,cd,ed⟩:=x.sl.d.form
  rw [eb,ec,ed]
  rfl
 have X:Has h ⟨bF.a,s.b,s.c,s.d,bF.e,bF.f⟩ (sItems m):=⟨⟨.nil _ _,x.sl.b,x.sl.c,x.sl.d,.nil _ _,.nil _ _⟩,sItems_wf x.wf⟩
 obtain ⟨hz,h2,z1,oz,u1,u2,X2,o2,_⟩:=made o1 X
 have A:=cS (x1.bL oz) (Old.get oz A.g)
 refine ⟨_,h2,ay is115 hG rfl ((t115_eq _ _ _).trans ?_),X2,o2⟩
 unfold t115
 simp -implicitDefEqProofs only [b1, z1, A.l7, A.l8, A.bN, A.bX, bl, u1, ah, ao, aq, Nat.zero_add]
 exact fA hr agg37 siz37 (show 2<12 by decide) _ u2
omit hG x in
theorem is103:bG Tryz.prog 103 Tryz.f103:=⟨by kernel_rfl,by kernel_rfl,by kernel_rfl,by kernel_rfl⟩
set_option maxRecDepth 100000 in
theorem r103 : ∃ s' h',CW 103 [mv m s] h=some (mv (sObj m) s',h')∧Has h' s' (sObj m)∧Old h h':=by
 obtain ⟨h1,b1,o1,x1,A,-⟩:=eU x
 have hr:Tryz.f103.results.toList = [.cell 2 37]:=by kernel_rfl
 have bl:cI [(.int .u8 0),(.int .i64 0),(.int .i64 0),(.int .u64 0),(.int .i64 0),(.int .i64 0),(.slice none 0 0),(.slice none 0 0),(.slice none 0 0),(.int .i64 0),(.int .u8 0),(.int .u8 0),(.int .u8 0),(.int .u8 0),(.int .u8 0),(.int .u8 0),(.int .u8 0),(.int .u8 0),(.int .u8 0),(.int .u8 0),(.int .u8 0),(.int .u8 0),(.int .u8 0),(.int .u8 0),(.int .u8 0),(.int .u8 0),(.int .u8 0),(.int .u8 0),(.int .u8 0),(.int .u8 0),(.int .u8 0),(.int .u8 0),(.int .u8 0),(.int .u8 0),(.int .u8 0),(.int .u8 0),(.int .u8 0),(.int .u8 0),(.int .u8 0),(.int .u8 0),(.int .u8 0),(.int .u8 0),(.slice none 0 0),(.bool false),(.int .u8 0),(.int .u8 0),(.int .u8 0),(.int .u8 0),(.int .u8 0),(.int .u8 0),(.int .u8 0),(.int .u8 0),(.int .u8 0),(.int .u8 0),(.int .u8 0),(.int .u8 0),(.int .u8 0),(.int .u8 0),(.int .u8 0),(.int .u8 0),(.int .u8 0),(.int .u8 0),(.int .u8 0),(.int .u8 0),(.int .u8 0),(.int .u8 0),(.int .u8 0),(.int .u8 0),(.int .u8 0),(.int .u8 0),(.int .u8 0),(.int .u8 0),(.int .u8 0),(.int .u8 0),(.int .u8 0),(.int .u8 0),(.int .i64 0),(.int .i64 0),(.int .i64 0),(.int .i64 0),(.int .u8 0),(.int .u8 0),(.int .u8 0),(.int .u8 0),(.int .u8 0),(.int .u8 0),(.int .u8 0),(.int .u8 0),(.int .u8 0),(.int .u8 0),(.int .u8 0),(.int .u8 0),(.int .u8 0),(.int .u8 0),(.int .u8 0),(.int .u8 0),(.int .u8 0),(.int .u8 0),(.int .u8 0),(.int .u8 0),(.int .u8 0),(.int .u8 0),(.int .u8 0),(.int .u8 0),(.int .u8 0),(.int .u8 0),(.int .u8 0),(.int .u8 0),(.int .u8 0),(.int .u8 0),(.int .u8 0),(.int .u8 0),(.slice none 0 0),(.int .i64 0),(.slice none 0 0),(.int .i64 0)] [(44,32,.agg (bZ m.obj).toArray)]=some (mv (sObj m) bF):=by
  have e1:cP [(.int .u8 0),(.int .i64 0),(.int .i64 0),(.int .u64 0),(.int .i64 0),(.int .i64 0),(.slice none 0 0),(.slice none 0 0),(.slice none 0 0),(.int .i64 0),(.int .u8 0),(.int .u8 0),(.int .u8 0),(.int .u8 0),(.int .u8 0),(.int .u8 0),(.int .u8 0),(.int .u8 0),(.int .u8 0),(.int .u8 0),(.int .u8 0),(.int .u8 0),(.int .u8 0),(.int .u8 0),(.int .u8 0),(.int .u8 0),(.int .u8 0),(.int .u8 0),(.int .u8 0),(.int .u8 0),(.int .u8 0),(.int .u8 0),(.int .u8 0),(.int .u8 0),(.int .u8 0),(.int .u8 0),(.int .u8 0),(.int .u8 0),(.int .u8 0),(.int .u8 0),(.int .u8 0),(.int .u8 0),(.slice none 0 0),(.bool false),(.int .u8 0),(.int .u8 0),(.int .u8 0),(.int .u8 0),(.int .u8 0),(.int .u8 0),(.int .u8 0),(.int .u8 0),(.int .u8 0),(.int .u8 0),(.int .u8 0),(.int .u8 0),(.int .u8 0),(.int .u8 0),(.int .u8 0),(.int .u8 0),(.int .u8 0),(.int .u8 0),(.int .u8 0),(.int .u8 0),(.int .u8 0),(.int .u8 0),(.int .u8 0),(.int .u8 0),(.int .u8 0),(.int .u8 0),(.int .u8 0),(.int .u8 0),(.int .u8 0),(.int .u8 0),(.int .u8 0),(.int .u8 0),(.int .i64 0),(.int .i64 0),(.int .i64 0),(.int .i64 0),(.int .u8 0),(.int .u8 0),(.int .u8 0),(.int .u8 0),(.int .u8 0),(.int .u8 0),(.int .u8 0),(.int .u8 0),(.int .u8 0),(.int .u8 0),(.int .u8 0),(.int .u8 0),(.int .u8 0),(.int .u8 0),(.int .u8 0),(.int .u8 0),(.int .u8 0),(.int .u8 0),(.int .u8 0),(.int .u8 0),(.int .u8 0),(.int .u8 0),(.int .u8 0),(.int .u8 0),(.int .u8 0),(.int .u8 0),(.int .u8 0),(.int .u8 0),(.int .u8 0),(.int .u8 0),(.int .u8 0),(.int .u8 0),(.slice none 0 0),(.int .i64 0),(.slice none 0 0),(.int .i64 0)] [(44,32,.agg (bZ m.obj).toArray)]=cP ((bc.z.d.cells bF).take 44++(bZ z32++(bc.z.d.cells bF).drop 76)) [(44,32,.agg (bZ m.obj).toArray)]:=by
   rfl
  unfold cI
  rw [e1,fK (A:=(bc.z.d.cells bF).take 44) (B:=bZ z32) (o:=44) (n:=32) rfl rfl rfl (bU x.wf.obj)]
  rfl
 have X:Has h bF (sObj m):=⟨⟨.nil _ _,.nil _ _,.nil _ _,.nil _ _,.nil _ _,.nil _ _⟩,sObj_wf x.wf⟩
 obtain ⟨hz,h2,z1,oz,u1,u2,X2,o2,_⟩:=made o1 X
 have A:=cS (x1.bL oz) (Old.get oz A.g)
 refine ⟨_,h2,ay is103 hG rfl ((t103_eq _ _ _).trans ?_),X2,o2⟩
 unfold t103
 simp -implicitDefEqProofs only [b1, z1, A.b9, bl, u1, ah, ao, aq, Nat.zero_add]
 exact fA hr agg37 siz37 (show 2<6 by decide) _ u2
omit hG x in
theorem is107:bG Tryz.prog 107 Tryz.f107:=⟨by kernel_rfl,by kernel_rfl,by kernel_rfl,by kernel_rfl⟩
set_option maxRecDepth 100000 in
theorem r107 : ∃ s' h',CW 107 [mv m s] h=some (mv (sPiece m) s',h')∧Has h' s' (sPiece m)∧Old h h':=by
 obtain ⟨h1,b1,o1,x1,A,-⟩:=eU x
 have hr:Tryz.f107.results.toList = [.cell 2 37]:=by kernel_rfl
 have bl:cI [(.int .u8 0),(.int .i64 0),(.int .i64 0),(.int .u64 0),(.int .i64 0),(.int .i64 0),(.slice none 0 0),(.slice none 0 0),(.slice none 0 0),(.int .i64 0),(.int .u8 0),(.int .u8 0),(.int .u8 0),(.int .u8 0),(.int .u8 0),(.int .u8 0),(.int .u8 0),(.int .u8 0),(.int .u8 0),(.int .u8 0),(.int .u8 0),(.int .u8 0),(.int .u8 0),(.int .u8 0),(.int .u8 0),(.int .u8 0),(.int .u8 0),(.int .u8 0),(.int .u8 0),(.int .u8 0),(.int .u8 0),(.int .u8 0),(.int .u8 0),(.int .u8 0),(.int .u8 0),(.int .u8 0),(.int .u8 0),(.int .u8 0),(.int .u8 0),(.int .u8 0),(.int .u8 0),(.int .u8 0),(.slice none 0 0),(.bool false),(.int .u8 0),(.int .u8 0),(.int .u8 0),(.int .u8 0),(.int .u8 0),(.int .u8 0),(.int .u8 0),(.int .u8 0),(.int .u8 0),(.int .u8 0),(.int .u8 0),(.int .u8 0),(.int .u8 0),(.int .u8 0),(.int .u8 0),(.int .u8 0),(.int .u8 0),(.int .u8 0),(.int .u8 0),(.int .u8 0),(.int .u8 0),(.int .u8 0),(.int .u8 0),(.int .u8 0),(.int .u8 0),(.int .u8 0),(.int .u8 0),(.int .u8 0),(.int .u8 0),(.int .u8 0),(.int .u8 0),(.int .u8 0),(.int .i64 0),(.int .i64 0),(.int .i64 0),(.int .i64 0),(.int .u8 0),(.int .u8 0),(.int .u8 0),(.int .u8 0),(.int .u8 0),(.int .u8 0),(.int .u8 0),(.int .u8 0),(.int .u8 0),(.int .u8 0),(.int .u8 0),(.int .u8 0),(.int .u8 0),(.int .u8 0),(.int .u8 0),(.int .u8 0),(.int .u8 0),(.int .u8 0),(.int .u8 0),(.int .u8 0),(.int .u8 0),(.int .u8 0),(.int .u8 0),(.int .u8 0),(.int .u8 0),(.int .u8 0),(.int .u8 0),(.int .u8 0),(.int .u8 0),(.int .u8 0),(.int .u8 0),(.int .u8 0),(.slice none 0 0),(.int .i64 0),(.slice none 0 0),(.int .i64 0)] [(44,32,.agg (bZ m.obj).toArray),(76,37,gv m s),(113,2,.agg #[.int .i64 m.de,s.f])]=some (mv (sPiece m) ⟨bF.a,bF.b,bF.c,bF.d,s.e,s.f⟩):=by
  have hm:(m.d.eu s).length=37:=man_len (bc.ok x.wf)
  have e1:cP [(.int .u8 0),(.int .i64 0),(.int .i64 0),(.int .u64 0),(.int .i64 0),(.int .i64 0),(.slice none 0 0),(.slice none 0 0),(.slice none 0 0),(.int .i64 0),(.int .u8 0),(.int .u8 0),(.int .u8 0),(.int .u8 0),(.int .u8 0),(.int .u8 0),(.int .u8 0),(.int .u8 0),(.int .u8 0),(.int .u8 0),(.int .u8 0),(.int .u8 0),(.int .u8 0),(.int .u8 0),(.int .u8 0),(.int .u8 0),(.int .u8 0),(.int .u8 0),(.int .u8 0),(.int .u8 0),(.int .u8 0),(.int .u8 0),(.int .u8 0),(.int .u8 0),(.int .u8 0),(.int .u8 0),(.int .u8 0),(.int .u8 0),(.int .u8 0),(.int .u8 0),(.int .u8 0),(.int .u8 0),(.slice none 0 0),(.bool false),(.int .u8 0),(.int .u8 0),(.int .u8 0),(.int .u8 0),(.int .u8 0),(.int .u8 0),(.int .u8 0),(.int .u8 0),(.int .u8 0),(.int .u8 0),(.int .u8 0),(.int .u8 0),(.int .u8 0),(.int .u8 0),(.int .u8 0),(.int .u8 0),(.int .u8 0),(.int .u8 0),(.int .u8 0),(.int .u8 0),(.int .u8 0),(.int .u8 0),(.int .u8 0),(.int .u8 0),(.int .u8 0),(.int .u8 0),(.int .u8 0),(.int .u8 0),(.int .u8 0),(.int .u8 0),(.int .u8 0),(.int .u8 0),(.int .i64 0),(.int .i64 0),(.int .i64 0),(.int .i64 0),(.int .u8 0),(.int .u8 0),(.int .u8 0),(.int .u8 0),(.int .u8 0),(.int .u8 0),(.int .u8 0),(.int .u8 0),(.int .u8 0),(.int .u8 0),(.int .u8 0),(.int .u8 0),(.int .u8 0),(.int .u8 0),(.int .u8 0),(.int .u8 0),(.int .u8 0),(.int .u8 0),(.int .u8 0),(.int .u8 0),(.int .u8 0),(.int .u8 0),(.int .u8 0),(.int .u8 0),(.int .u8 0),(.int .u8 0),(.int .u8 0),(.int .u8 0),(.int .u8 0),(.int .u8 0),(.int .u8 0),(.int .u8 0),(.slice none 0 0),(.int .i64 0),(.slice none 0 0),(.int .i64 0)] [(44,32,.agg (bZ m.obj).toArray),(76,37,gv m s),(113,2,.agg #[.int .i64 m.de,s.f])]=cP ((bc.z.d.cells bF).take 44++(bZ z32++(bc.z.d.cells bF).drop 76)) [(44,32,.agg (bZ m.obj).toArray),(76,37,gv m s),(113,2,.agg #[.int .i64 m.de,s.f])]:=rfl
  unfold cI
  rw [e1,fK (A:=(bc.z.d.cells bF).take 44) (B:=bZ z32) (o:=44) (n:=32) rfl rfl rfl (bU x.wf.obj)]
  have e2 : ∀ r,cP ((bc.z.d.cells bF).take 44++(bZ m.obj++(bc.z.d.cells bF).drop 76)) r=cP (((bc.z.d.cells bF).take 44++bZ m.obj)++(bc.z.d.eu bF++(bc.z.d.cells bF).drop 113)) r:=fun r=>by
   rw [List.append_assoc];rfl
  rw [e2,fK (A:=(bc.z.d.cells bF).take 44++bZ m.obj) (B:=bc.z.d.eu bF) (o:=76) (n:=37) rfl (by rw [List.length_append,bU x.wf.obj];rfl) rfl hm]
  have e3 : ∀ r,cP (((bc.z.d.cells bF).take 44++bZ m.obj)++(m.d.eu s++(bc.z.d.cells bF).drop 113)) r=cP (((bc.z.d.cells bF).take 44++(bZ m.obj++m.d.eu s))++([.int .i64 0,.slice none 0 0] ++ [.int .i64 0])) r:=fun r=>by
   rw [List.append_assoc,List.append_assoc,List.append_assoc];rfl
  rw [e3,fK (A:=(bc.z.d.cells bF).take 44++(bZ m.obj++m.d.eu s)) (B := [.int .i64 0,.slice none 0 0]) (B' := [.int .i64 m.de,s.f]) (o:=113) (n:=2) rfl (by rw [List.length_append,List.length_append,bU x.wf.obj,hm];rfl) rfl rfl]
  simp only [cP,Option.map_some,List.append_assoc]
  rfl
 have X:Has h ⟨bF.a,bF.b,bF.c,bF.d,s.e,s.f⟩ (sPiece m):=⟨⟨.nil _ _,.nil _ _,.nil _ _,.nil _ _,x.sl.e,x.sl.f⟩,sPiece_wf x.wf⟩
 obtain ⟨hz,h2,z1,oz,u1,u2,X2,o2,_⟩:=made o1 X
 have l113':cq 2 (ptr h.next 113) hz=some (.agg #[.int .i64 m.de,s.f],hz):=by
  have hm:(m.d.eu s).length=37:=man_len (bc.ok x.wf)
  have hr:(bZ m.root).length=32:=bU x.wf.root
  have ho:(bZ m.obj).length=32:=bU x.wf.obj
  have hf:=(bt x.sl.f).1
  exact ldN_mid (Old.get oz A.g) (A:=m.d.front s++(bZ m.root++([s.d,.bool m.want]++(bZ m.obj++m.d.eu s)))) (B := [.int .i64 m.de,s.f]) (C := [.int .i64 m.code]) (by unfold bI.cells;simp only [List.append_assoc];rfl) (by
   have hf:(m.d.front s).length=10:=rfl
   simp only [List.length_append,hr,ho,hm,hf]
   rfl) rfl (by unfold Abs.bq;simp only [List.all_cons,List.all_nil,hf];rfl)
 have A:=cS (x1.bL oz) (Old.get oz A.g)
 refine ⟨_,h2,ay is107 hG rfl ((t107_eq _ _ _).trans ?_),X2,o2⟩
 unfold t107
 simp -implicitDefEqProofs only [b1, z1, A.b9, A.bY, l113', bl, u1, ah, ao, aq, Nat.zero_add]
 exact fA hr agg37 siz37 (show 2<10 by decide) _ u2
omit hG x in
theorem is119:bG Tryz.prog 119 Tryz.f119:=⟨by kernel_rfl,by kernel_rfl,by kernel_rfl,by kernel_rfl⟩
set_option maxRecDepth 100000 in
theorem r119 : ∃ s' h',CW 119 [mv m s] h=some (mv (sStored m) s',h')∧Has h' s' (sStored m)∧Old h h':=by
 obtain ⟨h1,b1,o1,x1,A,-⟩:=eU x
 have hr:Tryz.f119.results.toList = [.cell 2 37]:=by kernel_rfl
 have bl:cI [(.int .u8 0),(.int .i64 0),(.int .i64 0),(.int .u64 0),(.int .i64 0),(.int .i64 0),(.slice none 0 0),(.slice none 0 0),(.slice none 0 0),(.int .i64 0),(.int .u8 0),(.int .u8 0),(.int .u8 0),(.int .u8 0),(.int .u8 0),(.int .u8 0),(.int .u8 0),(.int .u8 0),(.int .u8 0),(.int .u8 0),(.int .u8 0),(.int .u8 0),(.int .u8 0),(.int .u8 0),(.int .u8 0),(.int .u8 0),(.int .u8 0),(.int .u8 0),(.int .u8 0),(.int .u8 0),(.int .u8 0),(.int .u8 0),(.int .u8 0),(.int .u8 0),(.int .u8 0),(.int .u8 0),(.int .u8 0),(.int .u8 0),(.int .u8 0),(.int .u8 0),(.int .u8 0),(.int .u8 0),(.slice none 0 0),(.bool false),(.int .u8 0),(.int .u8 0),(.int .u8 0),(.int .u8 0),(.int .u8 0),(.int .u8 0),(.int .u8 0),(.int .u8 0),(.int .u8 0),(.int .u8 0),(.int .u8 0),(.int .u8 0),(.int .u8 0),(.int .u8 0),(.int .u8 0),(.int .u8 0),(.int .u8 0),(.int .u8 0),(.int .u8 0),(.int .u8 0),(.int .u8 0),(.int .u8 0),(.int .u8 0),(.int .u8 0),(.int .u8 0),(.int .u8 0),(.int .u8 0),(.int .u8 0),(.int .u8 0),(.int .u8 0),(.int .u8 0),(.int .u8 0),(.int .i64 0),(.int .i64 0),(.int .i64 0),(.int .i64 0),(.int .u8 0),(.int .u8 0),(.int .u8 0),(.int .u8 0),(.int .u8 0),(.int .u8 0),(.int .u8 0),(.int .u8 0),(.int .u8 0),(.int .u8 0),(.int .u8 0),(.int .u8 0),(.int .u8 0),(.int .u8 0),(.int .u8 0),(.int .u8 0),(.int .u8 0),(.int .u8 0),(.int .u8 0),(.int .u8 0),(.int .u8 0),(.int .u8 0),(.int .u8 0),(.int .u8 0),(.int .u8 0),(.int .u8 0),(.int .u8 0),(.int .u8 0),(.int .u8 0),(.int .u8 0),(.int .u8 0),(.int .u8 0),(.slice none 0 0),(.int .i64 0),(.slice none 0 0),(.int .i64 0)] [(44,32,.agg (bZ m.obj).toArray),(115,1,.int .i64 m.code)]=some (mv (sStored m) bF):=by
  have e1:cP [(.int .u8 0),(.int .i64 0),(.int .i64 0),(.int .u64 0),(.int .i64 0),(.int .i64 0),(.slice none 0 0),(.slice none 0 0),(.slice none 0 0),(.int .i64 0),(.int .u8 0),(.int .u8 0),(.int .u8 0),(.int .u8 0),(.int .u8 0),(.int .u8 0),(.int .u8 0),(.int .u8 0),(.int .u8 0),(.int .u8 0),(.int .u8 0),(.int .u8 0),(.int .u8 0),(.int .u8 0),(.int .u8 0),(.int .u8 0),(.int .u8 0),(.int .u8 0),(.int .u8 0),(.int .u8 0),(.int .u8 0),(.int .u8 0),(.int .u8 0),(.int .u8 0),(.int .u8 0),(.int .u8 0),(.int .u8 0),(.int .u8 0),(.int .u8 0),(.int .u8 0),(.int .u8 0),(.int .u8 0),(.slice none 0 0),(.bool false),(.int .u8 0),(.int .u8 0),(.int .u8 0),(.int .u8 0),(.int .u8 0),(.int .u8 0),(.int .u8 0),(.int .u8 0),(.int .u8 0),(.int .u8 0),(.int .u8 0),(.int .u8 0),(.int .u8 0),(.int .u8 0),(.int .u8 0),(.int .u8 0),(.int .u8 0),(.int .u8 0),(.int .u8 0),(.int .u8 0),(.int .u8 0),(.int .u8 0),(.int .u8 0),(.int .u8 0),(.int .u8 0),(.int .u8 0),(.int .u8 0),(.int .u8 0),(.int .u8 0),(.int .u8 0),(.int .u8 0),(.int .u8 0),(.int .i64 0),(.int .i64 0),(.int .i64 0),(.int .i64 0),(.int .u8 0),(.int .u8 0),(.int .u8 0),(.int .u8 0),(.int .u8 0),(.int .u8 0),(.int .u8 0),(.int .u8 0),(.int .u8 0),(.int .u8 0),(.int .u8 0),(.int .u8 0),(.int .u8 0),(.int .u8 0),(.int .u8 0),(.int .u8 0),(.int .u8 0),(.int .u8 0),(.int .u8 0),(.int .u8 0),(.int .u8 0),(.int .u8 0),(.int .u8 0),(.int .u8 0),(.int .u8 0),(.int .u8 0),(.int .u8 0),(.int .u8 0),(.int .u8 0),(.int .u8 0),(.int .u8 0),(.int .u8 0),(.slice none 0 0),(.int .i64 0),(.slice none 0 0),(.int .i64 0)] [(44,32,.agg (bZ m.obj).toArray),(115,1,.int .i64 m.code)]=cP ((bc.z.d.cells bF).take 44++(bZ z32++(bc.z.d.cells bF).drop 76)) [(44,32,.agg (bZ m.obj).toArray),(115,1,.int .i64 m.code)]:=rfl
  unfold cI
  rw [e1,fK (A:=(bc.z.d.cells bF).take 44) (B:=bZ z32) (o:=44) (n:=32) rfl rfl rfl (bU x.wf.obj)]
  have e2 : ∀ r,cP ((bc.z.d.cells bF).take 44++(bZ m.obj++(bc.z.d.cells bF).drop 76)) r=cP (((bc.z.d.cells bF).take 44++(bZ m.obj++((bc.z.d.cells bF).drop 76).take 39))++([.int .i64 0] ++ [])) r:=fun r=>by
   rw [List.append_assoc,List.append_assoc];rfl
  have e3 : ∀ r,cP (((bc.z.d.cells bF).take 44++(bZ m.obj++((bc.z.d.cells bF).drop 76).take 39))++([.int .i64 0] ++ [])) ((115,1,.int .i64 m.code)::r)=cP (((bc.z.d.cells bF).take 44++(bZ m.obj++((bc.z.d.cells bF).drop 76).take 39))++([.int .i64 m.code] ++ [])) r:=fun r=>by
   have:=fK (z:=((bc.z.d.cells bF).take 44++(bZ m.obj++((bc.z.d.cells bF).drop 76).take 39))++([.int .i64 0] ++ [])) (A:=(bc.z.d.cells bF).take 44++(bZ m.obj++((bc.z.d.cells bF).drop 76).take 39)) (B := [.int .i64 0]) (B' := [.int .i64 m.code]) (o:=115) (n:=1) (rest:=r) rfl (by rw [List.length_append,List.length_append,bU x.wf.obj];rfl) rfl rfl
   exact this
  rw [e2,e3]
  simp only [cP,Option.map_some,List.append_assoc]
  rfl
 have X:Has h bF (sStored m):=⟨⟨.nil _ _,.nil _ _,.nil _ _,.nil _ _,.nil _ _,.nil _ _⟩,sStored_wf x.wf⟩
 obtain ⟨hz,h2,z1,oz,u1,u2,X2,o2,_⟩:=made o1 X
 have A:=cS (x1.bL oz) (Old.get oz A.g)
 refine ⟨_,h2,ay is119 hG rfl ((t119_eq _ _ _).trans ?_),X2,o2⟩
 unfold t119
 simp -implicitDefEqProofs only [b1, z1, A.b9, A.aW, bl, u1, ah, ao, aq, Nat.zero_add]
 exact fA hr agg37 siz37 (show 2<8 by decide) _ u2
end
end Go.Proofs.YtjghlcdidopcpaaGreatDoor

