/-
  A part of the proof, spaces and names shortened by a program (a claim may hold 1,500,000 bytes).
  Conditions: as each theorem states.
-/
import Derived.Test.YtdnahgfgoajmcaaDoorG13
import Derived.OpenShut
namespace Go.Proofs.YtdnahgfgoajmcaaDoor
open Go Go.Abs
open Go.ChangeShapes Go.WideShapes Go.ChangeAt Go.RowKit
def Pc (ks:List Kd) (o:Nat) (cs:List Value):Prop:=Typed ks ((cs.drop o).take ks.length)
theorem Pc.app {ks ls:List Kd} {o:Nat} {cs:List Value} (x:Pc ks o cs) (y:Pc ls (o+ks.length) cs):Pc (ks++ls) o cs:=by
 unfold Pc at *
 rw [List.length_append,List.take_add,List.drop_drop]
 exact x.app y
theorem Pc.whole {ks:List Kd} {cs:List Value} (x:Pc ks 0 cs) (h:cs.length=ks.length):Typed ks cs:=by
 unfold Pc at x
 rw [List.drop_zero,←h,List.take_length] at x
 exact x
theorem clean_nice {n:Nat} {v:Value} (h:nice n v=true):clean n v=v:=by unfold clean;rw [if_pos h]
theorem Kd.has.clean {k:Kd} {v:Value} (h:k.has v) (n:Nat):clean n v=v:=by
 cases k with
 |u8=>obtain ⟨m,rfl,_⟩:=h;rfl
 |i k=>obtain ⟨m,rfl,_⟩:=h;rfl
 |b=>obtain ⟨t,rfl⟩:=h;rfl
theorem Typed.clean {ks:List Kd} {cs:List Value} (h:Typed ks cs) (n:Nat):cs.map (clean n)=cs:=by
 refine List.ext_getElem? fun j => ?_
 rw [List.getElem?_map]
 by_cases hj:j<ks.length
 ·obtain ⟨v,h1,h2⟩:=h.2 j _ (List.getElem?_eq_getElem hj)
  rw [h1,Option.map_some,h2.clean]
 ·rw [List.getElem?_eq_none (by rw [h.1];omega)];rfl
theorem u8_lit {n:Int} (h:(Lit.int .u8 n).wf=true) : ∃ m:Nat,n=m∧m<256:=by
 simp [Lit.wf,IntKind.min,IntKind.max,IntKind.signed,IntKind.bits] at h
 exact ⟨n.toNat,by omega,by omega⟩
theorem clean_slice {W:World} {a:Addr} {len cap:Nat} (hlc:len≤cap) (hc:0<cap→a.spot=none∧a.block<W.heap.size) :
  isHole (clean W.heap.size (.slice (some a) len cap))=false ∧ ∃ a' ,clean W.heap.size (.slice (some a) len cap) = .slice (some a') len cap∧(0<cap→a'=a):=by
 obtain ⟨b,off,s⟩:=a
 by_cases h0:0<cap
 ·obtain ⟨h1,h2⟩:=hc h0
  have h1':s=none:=h1
  have h2':b<W.heap.size:=h2
  subst h1'
  have hn:nice W.heap.size (.slice (some ⟨b,off,none⟩) len cap)=true:=by simpa [nice] using h2'
  rw [clean_nice hn]
  exact ⟨rfl,_,rfl,fun _=>rfl⟩
 ·obtain rfl:cap=0:=by omega
  obtain rfl:len=0:=by omega
  by_cases hn:nice W.heap.size (.slice (some ⟨b,off,s⟩) 0 0)=true
  ·rw [clean_nice hn]
   exact ⟨rfl,_,rfl,fun h=>absurd h h0⟩
  ·have:clean W.heap.size (.slice (some ⟨b,off,s⟩) 0 0) = .slice (some ⟨0,0,some 0⟩) 0 0:=by unfold clean;rw [if_neg hn];rfl
   rw [this]
   exact ⟨rfl,_,rfl,fun h=>absurd h h0⟩
theorem add_block (a:Addr) (n:Nat):(a.add n).block=a.block:=by unfold Addr.add;split<;>rfl
theorem add_off (a:Addr) (n:Nat):(a.add n).off=a.off+n:=by
 unfold Addr.add
 split
 ·rename_i h;rw [h];rfl
 ·rfl
section
variable {H:Type} {enc:TypeId×Value→H} {W:World} {base:Nat} {held:Bool}
def Reads (enc:TypeId×Value→H) (W:World) (base:Nat) (held:Bool) (t:TypeId) (ks:List Kd):Prop:=
 ∀ fuel cs x,DataW.trod enc Tryd.prog W base (fun _=>true) held fuel t cs=some x→Typed ks cs
theorem reads_u8 {t:TypeId} (ht:Tryd.prog.underlying t=some (.int .u8)):Reads enc W base held t [.u8]:=fun fuel cs x h=>by
 obtain ⟨n,rfl,_,w⟩:=DataW.trod_int ht h
 obtain ⟨m,rfl,hm⟩:=u8_lit w
 exact .one ⟨m,rfl,hm⟩
theorem reads_i {t:TypeId} {k:IntKind} (ht:Tryd.prog.underlying t=some (.int k)):Reads enc W base held t [.i k]:=fun fuel cs x h=>by
 obtain ⟨n,rfl,_,w⟩:=DataW.trod_int ht h
 exact .one ⟨n,rfl,w⟩
theorem reads_b {t:TypeId} (ht:Tryd.prog.underlying t=some .bool):Reads enc W base held t [.b]:=fun fuel cs x h=>by
 obtain ⟨n,rfl,_⟩:=DataW.trod_bool ht h
 exact .one ⟨n,rfl⟩
theorem reads_arr {t e:TypeId} {n:Nat} {k:Kd} (ht:Tryd.prog.underlying t=some (.array n e)) (h1:Tryd.prog.cellsOf e=1) (hn:Tryd.prog.cellsOf t=n) (R:Reads enc W base held e [k]):Reads enc W base held t (List.replicate n k):=fun fuel cs x h=>by
 obtain ⟨xs,m,rfl,_,hl,hx,hf⟩:=DataW.trod_array ht h
 rw [hn] at hl
 refine ⟨by rw [hl,List.length_replicate],fun j t' hj => ?_⟩
 have hj':j<n:=by
  have:=(List.getElem?_eq_some_iff.1 hj).1
  rwa [List.length_replicate] at this
 rw [List.getElem?_replicate,if_pos hj'] at hj
 cases hj
 have:=hf j hj'
 rw [List.getElem?_eq_getElem (by omega),h1,Nat.mul_one] at this
 obtain ⟨v,g1,g2⟩:=(R _ _ _ this).2 0 k rfl
 rw [List.getElem?_take,if_pos (by omega),List.getElem?_drop,Nat.add_zero] at g1
 exact ⟨v,g1,g2⟩
theorem fld {fuel:Nat} {t:TypeId} {cs:List Value} {x:DataW H×List MemPlace} {fs:Array Field} (ht:Tryd.prog.underlying t=some (.struct fs)) (h:DataW.trod enc Tryd.prog W base (fun _=>true) held fuel t cs=some x) {i z:Nat} {f:Field} (hf:fs[i]? = some f) (hz:Tryd.prog.cellsOf f.type=z) :
  ∃ m y,DataW.trod enc Tryd.prog W base (fun _=>true) held m f.type ((cs.drop f.offset).take z)=some y:=by
 obtain ⟨xs,n,rfl,_,_,hl,h2⟩:=DataW.trod_struct ht h
 have:=h2 i f hf
 rw [List.getElem?_eq_getElem (by rw [hl];exact (Array.getElem?_eq_some_iff.1 hf).1),hz] at this
 exact ⟨_,_,this⟩
theorem piece {fuel:Nat} {t:TypeId} {cs:List Value} {x:DataW H×List MemPlace} {fs:Array Field} (ht:Tryd.prog.underlying t=some (.struct fs)) (h:DataW.trod enc Tryd.prog W base (fun _=>true) held fuel t cs=some x) {i:Nat} {f:Field} {ks:List Kd} (hf:fs[i]? = some f) (hz:Tryd.prog.cellsOf f.type=ks.length)
  (R:Reads enc W base held f.type ks):Pc ks f.offset cs:=by
 obtain ⟨m,y,e⟩:=fld ht h hf hz
 exact R _ _ _ e
theorem sl_of {t e:TypeId} {ks:List Kd} (ht:Tryd.prog.underlying t=some (.slice e)) (he:Tryd.prog.cellsOf e=ks.length) (hz:0<ks.length) (R:Reads enc W base held e ks) {fuel:Nat} {v:Value} {x:DataW H×List MemPlace}
  (h:DataW.trod enc Tryd.prog W base (fun _=>true) held fuel t [v]=some x):isHole (clean W.heap.size v)=false ∧ ∃ n cs,SlN (topHeap W (view W)) ks (clean W.heap.size v) n cs:=by
 have nilT:TypedN ks 0 []:=⟨by simp,fun i hi=>absurd hi (Nat.not_lt_zero i)⟩
 rcases DataW.trod_slice ht h with ⟨h1,_⟩|⟨a,len,cap,elems,rest,n,_,h1,_,_,hlc,hcm,hl,hel,hsp,_⟩
 ·cases h1
  exact ⟨rfl,0,[],none,0,rfl,fun _=>rfl,nilT,fun h=>absurd h (Nat.lt_irrefl 0)⟩
 ·cases h1
  rw [he] at hel hsp
  have hpos:0<cap→a.spot=none∧a.block<W.heap.size:=by
   intro h0
   have key : ∃ cs,W.cells? base (a.add (0*ks.length)) ks.length=some cs:=by
    by_cases hlen:0<len
    ·have:=hel 0 hlen
     rw [List.getElem?_eq_getElem (by omega),Option.bind_eq_some_iff] at this
     obtain ⟨cs,hc,_⟩:=this
     exact ⟨cs,hc⟩
    ·have:=(hsp rfl).2 0 (by omega)
     rw [List.getElem?_eq_getElem (by rw [(hsp rfl).1];omega),Option.bind_eq_some_iff] at this
     obtain ⟨cs,hc,_⟩:=this
     obtain rfl:len=0:=by omega
     exact ⟨cs,hc⟩
   obtain ⟨cs,hc⟩:=key
   obtain ⟨_,hlen,hcell⟩:=World.cells?_some hc
   have g:=hcell 0 hz
   obtain ⟨c0,hc0⟩ : ∃ c0,cs[0]? = some c0:=⟨cs[0],List.getElem?_eq_getElem (by omega)⟩
   rw [hc0,Nat.zero_mul] at g
   have g:W.cell? a=some c0:=g
   obtain ⟨e1,e2,_⟩:=view_cell g
   exact ⟨e1,e2⟩
  obtain ⟨g1,a',g2,g3⟩:=clean_slice (W:=W) hlc hpos
  refine ⟨g1,len,?_⟩
  by_cases h0:len=0
  ·subst h0
   exact ⟨[],_,_,g2,fun _=>rfl,nilT,fun h=>absurd h (Nat.lt_irrefl 0)⟩
  have ha:=g3 (by omega)
  subst ha
  have each : ∀ i,i<len → ∃ k es,view W a'.block=some k∧Typed ks es ∧ ∀ j,j<ks.length→k[a'.off+i*ks.length+j]? = es[j]? := by
   intro i hi
   have h2:=hel i hi
   rw [List.getElem?_eq_getElem (by omega),Option.bind_eq_some_iff] at h2
   obtain ⟨es,hc,ht⟩:=h2
   have ty:=R _ _ _ ht
   obtain ⟨_,hlen,hcell⟩:=World.cells?_some hc
   have vc : ∀ j,j<ks.length → ∃ k,view W a'.block=some k∧k[a'.off+i*ks.length+j]? = es[j]? := by
    intro j hj
    obtain ⟨u,h3,h4⟩:=ty.2 j _ (List.getElem?_eq_getElem hj)
    have g:=hcell j hj
    rw [h3] at g
    obtain ⟨_,_,k,hk,hc2⟩:=view_cell g
    rw [add_block,add_block] at hk
    rw [add_off,add_off,h4.clean] at hc2
    exact ⟨k,hk,by rw [hc2,h3]⟩
   obtain ⟨k,hk,_⟩:=vc 0 hz
   refine ⟨k,es,hk,ty,fun j hj => ?_⟩
   obtain ⟨k',hk',e⟩:=vc j hj
   rw [hk] at hk'
   cases hk'
   exact e
  obtain ⟨k,_,hk,_⟩:=each 0 (by omega)
  have each : ∀ i,i<len → ∃ es,Typed ks es ∧ ∀ j,j<ks.length→k[a'.off+i*ks.length+j]? = es[j]? := fun i hi=>by
   obtain ⟨k',es,hk',h1,h2⟩:=each i hi
   rw [hk] at hk'
   cases hk'
   exact ⟨es,h1,h2⟩
  have hlen:a'.off+len*ks.length≤k.length:=by
   obtain ⟨es,ty,e⟩:=each (len-1) (by omega)
   have:=e (ks.length-1) (by omega)
   obtain ⟨u,hu,_⟩:=ty.2 (ks.length-1) _ (List.getElem?_eq_getElem (by omega))
   rw [hu] at this
   have:=(List.getElem?_eq_some_iff.1 this).1
   have h9:len*ks.length=(len-1)*ks.length+ks.length:=by
    conv=>lhs;rw [show len=(len-1)+1 by omega,Nat.add_mul,Nat.one_mul]
   omega
  refine ⟨(k.drop a'.off).take (len*ks.length),_,_,g2,fun h=>(by cases h),⟨by rw [List.length_take,List.length_drop];omega,fun i hi => ?_⟩,fun _=>⟨a'.block,a'.off,a'.spot,k,rfl,by rw [view_get];exact hk,hlen,rfl⟩⟩
  obtain ⟨es,ty,e⟩:=each i hi
  have hm:=mul_le (z:=ks.length) hi
  have:(((k.drop a'.off).take (len*ks.length)).drop (i*ks.length)).take ks.length=es:=by
   refine List.ext_getElem? fun j => ?_
   rw [List.getElem?_take]
   by_cases hj:j<ks.length
   ·rw [if_pos hj,List.getElem?_drop,List.getElem?_take,if_pos (by omega),List.getElem?_drop,←e j hj,Nat.add_assoc]
   ·rw [if_neg hj,List.getElem?_eq_none (by rw [ty.1];omega)]
  rw [this]
  exact ty
end
end Go.Proofs.YtdnahgfgoajmcaaDoor

namespace Go.Proofs.YtdnahgfgoajmcaaDoor
open Go Go.Abs
theorem wf_u64 {n:Int} (h:(Lit.int .u64 n).wf=true) : ∃ m:Nat,n=m∧m<18446744073709551616:=by
 simp [Lit.wf,IntKind.min,IntKind.max,IntKind.signed,IntKind.bits] at h
 exact ⟨n.toNat,by omega,by omega⟩
theorem dig_of {xs:List Value} (h:Typed digK xs) : ∃ l,xs=u8s l∧D32 l:=by
 have hl:xs.length=32:=h.1
 have key : ∀ n,n≤32 → ∃ l:List Nat,xs.take n=u8s l∧l.length=n∧Bys l:=by
  intro n
  induction n with
  |zero=>exact fun _=>⟨[],rfl,rfl,fun x hx=>by cases hx⟩
  |succ n ih=>
   intro hn
   obtain ⟨l,h1,h2,h3⟩:=ih (by omega)
   obtain ⟨m,h4,h5⟩:=dig_get h (i:=n) (by omega)
   refine ⟨l ++ [m],?_,by simp [h2],fun x hx => ?_⟩
   ·rw [List.take_add_one,h1,h4]
    simp [u8s]
   ·rcases List.mem_append.1 hx with hx|hx
    ·exact h3 x hx
    ·simp only [List.mem_cons,List.not_mem_nil,or_false] at hx
     subst hx;exact h5
 obtain ⟨l,h1,h2,h3⟩:=key 32 (Nat.le_refl _)
 rw [List.take_of_length_le (by omega)] at h1
 exact ⟨l,h1,h2,h3⟩
theorem rec_of {xs:List Value} (h:Typed recK xs) : ∃ r,xs=recC r∧r.Wf:=by
 obtain ⟨a,o,b,c,d,e,f,g,rfl,ho,ha,wb,wc,wd,wf,wg⟩:=rec_form h
 obtain ⟨l,rfl,hl⟩:=dig_of ho
 obtain ⟨c,rfl,hc⟩:=wf_u64 wc
 obtain ⟨d,rfl,hd⟩:=wf_u64 wd
 exact ⟨⟨a,l,b,c,d,e,f,g⟩,rfl,ha,hl,wf_i64.1 wb,hc,hd,wf_i64.1 wf,wf_i64.1 wg⟩
theorem list_of {ks:List Kd} {α:Type} {f:α→List Value} {P:α→Prop} (hf : ∀ xs,Typed ks xs → ∃ a,xs=f a∧P a) : ∀ (n:Nat) (cs:List Value),TypedN ks n cs → ∃ l:List α,l.length=n∧cs=l.flatMap f ∧ ∀ a∈l,P a
 | 0,cs,h=>⟨[],rfl,by
   have:cs.length=0:=by rw [h.1,Nat.zero_mul]
   exact List.length_eq_zero_iff.1 this,fun a ha=>by cases ha⟩
 |n+1,cs,h=>by
  have hl:cs.length=(n+1)*ks.length:=h.1
  have h0:=h.2 0 (by omega)
  rw [Nat.zero_mul,List.drop_zero] at h0
  obtain ⟨a,ha,pa⟩:=hf _ h0
  have hl2:(cs.drop ks.length).length=n*ks.length:=by rw [List.length_drop,hl,Nat.add_mul];omega
  obtain ⟨l,q1,q2,q3⟩:=list_of hf n (cs.drop ks.length) ⟨hl2,fun i hi=>by
   have:=h.2 (i+1) (by omega)
   rw [List.drop_drop,show ks.length+i*ks.length=(i+1)*ks.length by rw [Nat.add_mul];omega]
   exact this⟩
  refine ⟨a::l,by simp [q1],?_,fun b hb => ?_⟩
  ·rw [List.flatMap_cons,←ha,←q2,List.take_append_drop]
  ·rcases List.mem_cons.1 hb with rfl|hb
   ·exact pa
   ·exact q3 b hb
end Go.Proofs.YtdnahgfgoajmcaaDoor

namespace Go.Proofs.YtdnahgfgoajmcaaDoor
open Go Go.Abs
attribute [local congr] thenV_congr
end Go.Proofs.YtdnahgfgoajmcaaDoor

namespace Go.Proofs.YtdnahgfgoajmcaaDoor
open Go Go.Abs
open Go.ChangeShapes Go.WideShapes Go.ChangeAt Go.RowKit
theorem SlN.typed {h:Heap} {ks:List Kd} {v:Value} {n:Nat} {cs:List Value} (x:SlN h ks v n cs):TypedN ks n cs:=by
 obtain ⟨a,c,rfl,_,h2,_⟩:=x
 exact h2
section
variable {H:Type} {enc:TypeId×Value→H} {W:World} {base:Nat} {held:Bool}
theorem rd5:Reads enc W base held 5 [.u8]:=reads_u8 Tryd.underlying5
theorem rd35:Reads enc W base held 35 digK:=reads_arr Tryd.underlying35 (by kernel_rfl) (by kernel_rfl) rd5
theorem rd58:Reads enc W base held 58 recK:=fun fuel cs x h=>by
 have p0:Pc [.u8] 0 cs:=piece Tryd.underlying58 h (i:=0) rfl (by kernel_rfl) (reads_u8 Tryd.underlying56)
 have p1:Pc digK 1 cs:=piece Tryd.underlying58 h (i:=1) rfl (by kernel_rfl) rd35
 have p2:Pc [.i .i64] 33 cs:=piece Tryd.underlying58 h (i:=2) rfl (by kernel_rfl) (reads_i Tryd.underlying3)
 have p3:Pc [.i .u64] 34 cs:=piece Tryd.underlying58 h (i:=3) rfl (by kernel_rfl) (reads_i Tryd.underlying32)
 have p4:Pc [.i .u64] 35 cs:=piece Tryd.underlying58 h (i:=4) rfl (by kernel_rfl) (reads_i Tryd.underlying32)
 have p5:Pc [.b] 36 cs:=piece Tryd.underlying58 h (i:=5) rfl (by kernel_rfl) (reads_b Tryd.underlying4)
 have p6:Pc [.i .i64] 37 cs:=piece Tryd.underlying58 h (i:=6) rfl (by kernel_rfl) (reads_i Tryd.underlying3)
 have p7:Pc [.i .i64] 38 cs:=piece Tryd.underlying58 h (i:=7) rfl (by kernel_rfl) (reads_i Tryd.underlying3)
 obtain ⟨_,_,_,_,hl,_⟩:=DataW.trod_struct Tryd.underlying58 h
 exact (((((((p0.app p1).app p2).app p3).app p4).app p5).app p6).app p7).whole (hl.trans (by kernel_rfl))
end
def litOf {H:Type}:Value→DataW H
 | .int k n => .lit (.int k n)
 |_ => .agg []
theorem litOf_inj {H:Type} {v:Value} {k:IntKind} {n:Int} (h:(litOf v:DataW H) = .lit (.int k n)):v = .int k n:=by
 cases v with
 |int k' n'=>
  have h:(DataW.lit (Lit.int k' n'):DataW H) = .lit (.int k n):=h
  have q:=Lit.int.inj (DataW.lit.inj h)
  rw [q.1,q.2]
 |_=>cases h
theorem len_rounds:roundsL.length=64:=by kernel_rfl
theorem rounds_ints:(roundsL.all fun v=>match v with | .int _ _=>true|_=>false)=true:=by kernel_rfl
theorem nice_rounds (n:Nat) : ∀ v∈roundsL,clean n v=v:=by
 intro v hv
 have h:=rounds_ints
 rw [List.all_eq_true] at h
 have h:=h v hv
 cases v with
 |int k m=>exact clean_nice rfl
 |_=>cases h
theorem rounds_clean (n:Nat):roundsL.map (clean n)=roundsL:=by
 rw [List.map_congr_left (nice_rounds n),List.map_id']
theorem rounds_cells {W:World} {fuel:Nat} {cs:List Value} {p:List MemPlace} {d:DataW Unit} (hd:d = .agg (roundsL.map litOf)) (h:DataW.trod (fun _=>()) Tryd.prog W 0 (fun _=>true) false fuel 175 cs=some (d,p)):cs=roundsL:=by
 subst hd
 obtain ⟨xs,m,rfl,hx,hl,hxl,hf⟩:=DataW.trod_array Tryd.underlying175 h
 have h175:Tryd.prog.cellsOf 175=64:=by kernel_rfl
 have h174:Tryd.prog.cellsOf 174=1:=by kernel_rfl
 rw [h175] at hl
 have hx:=congrArg Prod.fst hx
 have hx:(DataW.agg (roundsL.map litOf):DataW Unit) = .agg (xs.map (·.1)):=hx
 have hx:=DataW.agg.inj hx
 refine List.ext_getElem? fun j => ?_
 by_cases hj:j<64
 ·have e:=hf j hj
  rw [List.getElem?_eq_getElem (by omega),h174,Nat.mul_one] at e
  obtain ⟨n,e1,e2,_⟩:=DataW.trod_int Tryd.underlying174 e
  have q:(roundsL.map (litOf (H:=Unit)))[j]? = (xs.map (·.1))[j]? := by rw [hx]
  rw [List.getElem?_map,List.getElem?_map,List.getElem?_eq_getElem (by rw [len_rounds];exact hj),List.getElem?_eq_getElem (by omega),e2] at q
  have q:=litOf_inj (Option.some.inj q)
  have e3:((cs.drop j).take 1)[0]? = some (.int .u32 n):=by rw [e1];rfl
  rw [List.getElem?_take,if_pos (by decide),List.getElem?_drop,Nat.add_zero] at e3
  rw [e3,List.getElem?_eq_getElem (by rw [len_rounds];exact hj),q]
 ·rw [List.getElem?_eq_none (by omega),List.getElem?_eq_none (by rw [len_rounds];omega)]
end Go.Proofs.YtdnahgfgoajmcaaDoor

namespace Go.Proofs.YtdnahgfgoajmcaaDoor
open Go Go.Abs
theorem eq35:EqT 35 digK:=by
 intro xs ys hx hy
 obtain ⟨r,h1,h2⟩:=dig_run (d:=9998) hx hy
 exact ⟨r,h1,bin_agg (by kernel_rfl) (ground_agg hx.all.2.2) (ground_agg hy.all.2.2) h2⟩
end Go.Proofs.YtdnahgfgoajmcaaDoor

namespace Go.Proofs.YtdnahgfgoajmcaaDoor
open Go Go.Abs
theorem add3 {a b:Nat} (h:a+b≤9223372036854775807):bin Tryd.prog .add 3 (i64n a) (.int .i64 (b:Int))=some (i64n (a+b)):=by
 unfold i64n;rw [bin_add,wrap_i64 (by omega) (by omega),Int.natCast_add]
theorem add31 {a:Nat} (h:a+1≤9223372036854775807):bin Tryd.prog .add 3 (i64n a) (.int .i64 1)=some (i64n (a+1)):=add3 h
theorem lss3 (a b:Nat):bin Tryd.prog .lss 3 (i64n a) (i64n b)=some (.bool (decide (a<b))):=by
 rw [bin_lss]
 congr 2
 by_cases e:a<b
 ·rw [decide_eq_true e,decide_eq_true (by omega)]
 ·rw [decide_eq_false e,decide_eq_false (by omega)]
end Go.Proofs.YtdnahgfgoajmcaaDoor

namespace Go.Proofs.YtdnahgfgoajmcaaDoor
open Go Go.Abs
section
end
section
end
section
end
section
end
end Go.Proofs.YtdnahgfgoajmcaaDoor

namespace Go.Proofs.YtdnahgfgoajmcaaDoor
open Go Go.Abs
attribute [local congr] thenV_congr
end Go.Proofs.YtdnahgfgoajmcaaDoor

namespace Go.Proofs.YtdnahgfgoajmcaaDoor
open Go Go.Abs
attribute [local congr] thenV_congr
end Go.Proofs.YtdnahgfgoajmcaaDoor

namespace Go.Proofs.YtdnahgfgoajmcaaDoor
open Go Go.Abs
end Go.Proofs.YtdnahgfgoajmcaaDoor

namespace Go.Proofs.YtdnahgfgoajmcaaDoor
open Go Go.Abs
attribute [local congr] thenV_congr
end Go.Proofs.YtdnahgfgoajmcaaDoor

namespace Go.Proofs.YtdnahgfgoajmcaaDoor
open Go Go.Abs
attribute [local congr] thenV_congr
def GZ (h:Heap):Prop:=h.get 0=some (u8s z32)
theorem GZ.old {h h':Heap} (x:GZ h) (o:Old h h'):GZ h':=Old.get o x
theorem GZ.ld {h:Heap} (x:GZ h):ldN 32 (ptr 0 0) h=some (.agg (u8s z32).toArray,h):=ldN_all x rfl (u8s_ok _).1
def personB (r:RecD):Bool:=decide (r.holder≥0)&&decide (r.holder≤15)&&decide ((r.inc:Int)≥1)
def bareB (r:RecD):Bool:=((r.num:Int)==0)&&(!r.held)&&(r.k==0)&&(r.n==0)
theorem person_seg {h:Heap} {b:Nat} {r:RecD} (A:RLd h b r) (K:Value→Heap→Out) :
 (
 thenV (pu (addP (ptr b 0) 33) h) fun y5 h=>
 thenV (ld1 y5 h) fun y6 h=>
 thenV (pu (bin Tryd.prog .geq 3 y6 (.int .i64 0)) h) fun y7 h=>
 thenV (some (y7,h)) fun y8 h=>
 thenV (guardK (bOf y8==some true) (pu (addP (ptr b 0) 33) h) h) fun y9 h=>
 thenV (guardK (bOf y8==some true) (ld1 y9 h) h) fun y10 h=>
 thenV (guardK (bOf y8==some true) (pu (bin Tryd.prog .leq 3 y10 (.int .i64 15)) h) h) fun y11 h=>
 thenV (match y8 with | .bool t=>some (if t then y11 else (.bool false),h)|_=>none) fun y12 h=>
 thenV (some (y12,h)) fun y13 h=>
 thenV (guardK (bOf y13==some true) (pu (addP (ptr b 0) 34) h) h) fun y14 h=>
 thenV (guardK (bOf y13==some true) (ld1 y14 h) h) fun y15 h=>
 thenV (guardK (bOf y13==some true) (pu (bin Tryd.prog .geq 32 y15 (.int .u64 1)) h) h) fun y16 h=>
 thenV (match y13 with | .bool t=>some (if t then y16 else (.bool false),h)|_=>none) fun y17 h=>
 thenV (some (y17,h)) fun y3 h=>
 K y3 h)=K (.bool (personB r)) h:=by
 unfold personB
 cases q0:decide (r.holder≥0) with
 |false=>simp -implicitDefEqProofs only [A.l33, thenV_some, pu_some, bOf_bool, fs, guardK_false, Bool.false_eq_true, if_false, addP_ptr, Nat.zero_add, bin_geq, q0, Bool.false_and]
 |true=>
 cases q1:decide (r.holder≤15) with
 |false=>simp -implicitDefEqProofs only [A.l33, thenV_some, pu_some, bOf_bool, fs, beq_self_eq_true, guardK_true, guardK_false, Bool.false_eq_true, if_false, if_true, addP_ptr, Nat.zero_add, bin_geq, bin_leq, q0, q1, Bool.and_false, Bool.false_and]
 |true=>
 cases q2:decide ((r.inc:Int)≥1) with
 |false=>simp -implicitDefEqProofs only [A.l33, A.l34, thenV_some, pu_some, bOf_bool, beq_self_eq_true, guardK_true, if_true, addP_ptr, Nat.zero_add, bin_geq, bin_leq, q0, q1, q2, Bool.and_true, Bool.and_false]
 |true=>
 simp -implicitDefEqProofs only [A.l33, A.l34, thenV_some, pu_some, bOf_bool, beq_self_eq_true, guardK_true, if_true, addP_ptr, Nat.zero_add, bin_geq, bin_leq, q0, q1, q2, Bool.and_true]
theorem bare_seg {h:Heap} {b:Nat} {r:RecD} (A:RLd h b r) (K:Value→Heap→Out) :
 (
 thenV (pu (addP (ptr b 0) 35) h) fun y18 h=>
 thenV (ld1 y18 h) fun y19 h=>
 thenV (pu (bin Tryd.prog .eql 32 y19 (.int .u64 0)) h) fun y20 h=>
 thenV (some (y20,h)) fun y21 h=>
 thenV (guardK (bOf y21==some true) (pu (addP (ptr b 0) 36) h) h) fun y22 h=>
 thenV (guardK (bOf y21==some true) (ld1 y22 h) h) fun y23 h=>
 thenV (guardK (bOf y21==some true) (pu (unA .not y23) h) h) fun y24 h=>
 thenV (match y21 with | .bool t=>some (if t then y24 else (.bool false),h)|_=>none) fun y25 h=>
 thenV (some (y25,h)) fun y26 h=>
 thenV (guardK (bOf y26==some true) (pu (addP (ptr b 0) 37) h) h) fun y27 h=>
 thenV (guardK (bOf y26==some true) (ld1 y27 h) h) fun y28 h=>
 thenV (guardK (bOf y26==some true) (pu (bin Tryd.prog .eql 3 y28 (.int .i64 0)) h) h) fun y29 h=>
 thenV (match y26 with | .bool t=>some (if t then y29 else (.bool false),h)|_=>none) fun y30 h=>
 thenV (some (y30,h)) fun y31 h=>
 thenV (guardK (bOf y31==some true) (pu (addP (ptr b 0) 38) h) h) fun y32 h=>
 thenV (guardK (bOf y31==some true) (ld1 y32 h) h) fun y33 h=>
 thenV (guardK (bOf y31==some true) (pu (bin Tryd.prog .eql 3 y33 (.int .i64 0)) h) h) fun y34 h=>
 thenV (match y31 with | .bool t=>some (if t then y34 else (.bool false),h)|_=>none) fun y35 h=>
 thenV (some (y35,h)) fun y4 h=>
 K y4 h)=K (.bool (bareB r)) h:=by
 unfold bareB
 cases q0:((r.num:Int)==0) with
 |false=>simp -implicitDefEqProofs only [A.l35, thenV_some, pu_some, bOf_bool, fs, guardK_false, Bool.false_eq_true, if_false, addP_ptr, Nat.zero_add, bin_eql, q0, Bool.false_and]
 |true=>
 cases q1:(!r.held) with
 |false=>simp -implicitDefEqProofs only [A.l35, A.l36, thenV_some, pu_some, bOf_bool, fs, beq_self_eq_true, guardK_true, guardK_false, Bool.false_eq_true, if_false, if_true, addP_ptr, Nat.zero_add, unA_not, bin_eql, q0, q1, Bool.and_false, Bool.false_and]
 |true=>
 cases q2:(r.k==0) with
 |false=>simp -implicitDefEqProofs only [A.l35, A.l36, A.l37, thenV_some, pu_some, bOf_bool, fs, beq_self_eq_true, guardK_true, guardK_false, Bool.false_eq_true, if_false, if_true, addP_ptr, Nat.zero_add, unA_not, bin_eql, q0, q1, q2, Bool.and_true, Bool.and_false, Bool.false_and]
 |true=>
 cases q3:(r.n==0) with
 |false=>simp -implicitDefEqProofs only [A.l35, A.l36, A.l37, A.l38, thenV_some, pu_some, bOf_bool, beq_self_eq_true, guardK_true, if_true, addP_ptr, Nat.zero_add, unA_not, bin_eql, q0, q1, q2, q3, Bool.and_true, Bool.and_false]
 |true=>
 simp -implicitDefEqProofs only [A.l35, A.l36, A.l37, A.l38, thenV_some, pu_some, bOf_bool, beq_self_eq_true, guardK_true, if_true, addP_ptr, Nat.zero_add, unA_not, bin_eql, q0, q1, q2, q3, Bool.and_true]
def recR (r:RecD):Bool:=if (r.kind:Int)==1 then personB r&&bareB r&&decide (r.obj=z32) else if (r.kind:Int)==2 then bareB r&&(r.holder==0)&&((r.inc:Int)==0) else if (r.kind:Int)==3 then personB r&&decide ((r.num:Int)≥1)&&decide (1≤r.k)&&decide (r.k≤r.n)&&decide (r.n≤255) else false
theorem person_holder (r:RecD):personB r=holderB r:=by
 unfold personB holderB
 congr 2
 exact decide_eq_decide.2 (by omega)
theorem bare_spec (r:RecD):bareB r=true↔r.num=0∧r.held=false∧r.k=0∧r.n=0:=by
 unfold bareB
 simp only [Bool.and_eq_true,beq_iff_eq,Bool.not_eq_true']
 constructor
 ·rintro ⟨⟨⟨h1,h2⟩,h3⟩,h4⟩
  exact ⟨by omega,h2,h3,h4⟩
 ·rintro ⟨h1,h2,h3,h4⟩
  exact ⟨⟨⟨by omega,h2⟩,h3⟩,h4⟩
theorem recR_eq (r:RecD):recR r=recB r:=by
 unfold recR recB pieceB
 rw [person_holder]
 split
 ·rw [Bool.eq_iff_iff]
  simp only [Bool.and_eq_true,decide_eq_true_eq,bare_spec]
  constructor
  ·rintro ⟨⟨h1,h2,h3,h4,h5⟩,h6⟩
   refine ⟨?_,h1⟩
   unfold RecD.base RecD.z
   exact RecD.ext rfl h6 rfl rfl h2 h3 h4 h5
  ·rintro ⟨h1,h2⟩
   refine ⟨⟨h2,?_⟩,?_⟩
   ·rw [h1];exact ⟨rfl,rfl,rfl,rfl⟩
   ·rw [h1];rfl
 split
 ·rw [Bool.eq_iff_iff]
  simp only [Bool.and_eq_true,decide_eq_true_eq,bare_spec,beq_iff_eq]
  constructor
  ·rintro ⟨⟨⟨h2,h3,h4,h5⟩,h6⟩,h7⟩
   unfold RecD.grave RecD.z
   exact RecD.ext rfl rfl h6 (by show r.inc=0;omega) h2 h3 h4 h5
  ·intro h1
   refine ⟨⟨?_,?_⟩,?_⟩
   ·rw [h1];exact ⟨rfl,rfl,rfl,rfl⟩
   ·rw [h1];rfl
   ·rw [h1];rfl
 ·rfl
theorem is48:IsFn Tryd.prog 48 Tryd.f48:=⟨by kernel_rfl,by kernel_rfl,by kernel_rfl,by kernel_rfl⟩
set_option maxRecDepth 100000 in
theorem r48 {h:Heap} (hG:4≤h.n0) (hz:GZ h) {r:RecD} (w:r.Wf) : ∃ h',CW 48 [.agg (recC r).toArray] h=some (.bool (recB r),h')∧Old h h':=by
 obtain ⟨h1,b1,o1,A⟩:=rec_box h w
 have z1:=(hz.old o1).ld
 obtain ⟨q,hq,e28,_⟩:=eq35 (u8s r.obj) (u8s z32) (dig_typed w.obj) (dig_typed z32_ok)
 have hq:q=decide (r.obj=z32):=by
  by_cases e:r.obj=z32
  ·rw [decide_eq_true e,hq.2 (by rw [e])]
  ·rw [decide_eq_false e]
   cases q with
   |false=>rfl
   |true=>exact absurd (u8s_inj (hq.1 rfl)) e
 rw [hq] at e28
 refine ⟨h1,CW_body is48 hG rfl ((t48_eq _ _ _).trans ?_),o1⟩
 rw [←recR_eq]
 unfold t48
 rw [b1,thenV_some,thenV_some]
 refine (person_seg A _).trans ?_
 refine (bare_seg A _).trans ?_
 unfold recR
 cases k1:(r.kind:Int)==1 with
 |true=>
  rw [if_pos rfl]
  cases q0:personB r with
  |false=>simp -implicitDefEqProofs only [A.l0, k1, thenV_some, pu_some, bOf_bool, fs, guardK_false, Bool.false_eq_true, if_false, addP_ptr, Nat.zero_add, bin_eql, Bool.false_and]
  |true=>
  cases q1:bareB r with
  |false=>simp -implicitDefEqProofs only [A.l0, k1, thenV_some, pu_some, bOf_bool, fs, beq_self_eq_true, guardK_true, guardK_false, Bool.false_eq_true, if_false, if_true, addP_ptr, Nat.zero_add, bin_eql, Bool.and_false, Bool.false_and]
  |true=>
  simp -implicitDefEqProofs only [A.l0, A.l1, k1, z1, e28, thenV_some, pu_some, bOf_bool, beq_self_eq_true, guardK_true, if_true, addP_ptr, Nat.zero_add, bin_eql, Bool.and_true, Bool.true_and]
 |false=>
 rw [if_neg (by decide)]
 cases k2:(r.kind:Int)==2 with
 |true=>
  rw [if_pos rfl]
  cases q0:bareB r with
  |false=>simp -implicitDefEqProofs only [A.l0, k1, k2, thenV_some, pu_some, bOf_bool, fs, guardK_false, Bool.false_eq_true, if_false, addP_ptr, Nat.zero_add, bin_eql, Bool.false_and]
  |true=>
  cases q1:(r.holder==0) with
  |false=>simp -implicitDefEqProofs only [A.l0, A.l33, k1, k2, thenV_some, pu_some, bOf_bool, fs, beq_self_eq_true, guardK_true, guardK_false, Bool.false_eq_true, if_false, if_true, addP_ptr, Nat.zero_add, bin_eql, q1, Bool.and_false, Bool.false_and]
  |true=>
  simp -implicitDefEqProofs only [A.l0, A.l33, A.l34, k1, k2, thenV_some, pu_some, bOf_bool, beq_self_eq_true, guardK_true, if_true, addP_ptr, Nat.zero_add, bin_eql, q1, Bool.and_true, Bool.true_and]
 |false=>
 rw [if_neg (by decide)]
 cases k3:(r.kind:Int)==3 with
 |true=>
  rw [if_pos rfl]
  cases q0:personB r with
  |false=>simp -implicitDefEqProofs only [A.l0, k1, k2, k3, thenV_some, pu_some, bOf_bool, fs, guardK_false, Bool.false_eq_true, if_false, addP_ptr, Nat.zero_add, bin_eql, Bool.false_and]
  |true=>
  cases q1:decide ((r.num:Int)≥1) with
  |false=>simp -implicitDefEqProofs only [A.l0, A.l35, k1, k2, k3, thenV_some, pu_some, bOf_bool, fs, beq_self_eq_true, guardK_true, guardK_false, Bool.false_eq_true, if_false, if_true, addP_ptr, Nat.zero_add, bin_geq, bin_eql, q1, Bool.and_false, Bool.false_and]
  |true=>
  cases q2:decide (1≤r.k) with
  |false=>simp -implicitDefEqProofs only [A.l0, A.l35, A.l37, k1, k2, k3, thenV_some, pu_some, bOf_bool, fs, beq_self_eq_true, guardK_true, guardK_false, Bool.false_eq_true, if_false, if_true, addP_ptr, Nat.zero_add, bin_geq, bin_leq, bin_eql, q1, q2, Bool.and_true, Bool.and_false, Bool.false_and]
  |true=>
  cases q3:decide (r.k≤r.n) with
  |false=>simp -implicitDefEqProofs only [A.l0, A.l35, A.l37, A.l38, k1, k2, k3, thenV_some, pu_some, bOf_bool, fs, beq_self_eq_true, guardK_true, guardK_false, Bool.false_eq_true, if_false, if_true, addP_ptr, Nat.zero_add, bin_geq, bin_leq, bin_eql, q1, q2, q3, Bool.and_true, Bool.and_false, Bool.false_and]
  |true=>
  cases q4:decide (r.n≤255) with
  |false=>simp -implicitDefEqProofs only [A.l0, A.l35, A.l37, A.l38, k1, k2, k3, thenV_some, pu_some, bOf_bool, beq_self_eq_true, guardK_true, if_true, addP_ptr, Nat.zero_add, bin_geq, bin_leq, bin_eql, q1, q2, q3, q4, Bool.and_true, Bool.and_false]
  |true=>
  simp -implicitDefEqProofs only [A.l0, A.l35, A.l37, A.l38, k1, k2, k3, thenV_some, pu_some, bOf_bool, beq_self_eq_true, guardK_true, if_true, addP_ptr, Nat.zero_add, bin_geq, bin_leq, bin_eql, q1, q2, q3, q4, Bool.and_true]
 |false=>
 rw [if_neg (by decide)]
 simp -implicitDefEqProofs only [A.l0, k1, k2, k3, thenV_some, pu_some, bOf_bool, addP_ptr, Nat.zero_add, bin_eql]
end Go.Proofs.YtdnahgfgoajmcaaDoor

namespace Go.Proofs.YtdnahgfgoajmcaaDoor
open Go Go.Abs
attribute [local congr] thenV_congr
theorem chkI (k:IntKind) (n:Int) (h:Heap):chkR true (some (.int k n,h)) (.int k n)=true:=by simp [chkR,same,veq]
section
variable {h h1:Heap} {a:Option Addr} {n c:Nat} {l:List Nat} {y:Nat→Value}
end
end Go.Proofs.YtdnahgfgoajmcaaDoor

namespace Go.Proofs.YtdnahgfgoajmcaaDoor
open Go Go.Abs
attribute [local congr] thenV_congr
theorem is97:IsFn Tryd.prog 97 Tryd.f97:=⟨by kernel_rfl,by kernel_rfl,by kernel_rfl,by kernel_rfl⟩
theorem r97 {h:Heap} (hG:4≤h.n0) (b:Bool):CW 97 [.bool b] h=some (.int .u64 ((bit b:Nat):Int),h):=by
 refine CW_body is97 hG rfl ((t97_eq _ _ _).trans ?_)
 unfold t97
 cases b<;>rfl
theorem cv8i (k:IntKind) (x:Int) (h:Heap):cvI .u8 (.int k x) h=some (u8 (i8 x),h):=by rw [cvI_int,wrap_i8]
end Go.Proofs.YtdnahgfgoajmcaaDoor

namespace Go.Proofs.YtdnahgfgoajmcaaDoor
open Go Go.Abs
attribute [local congr] thenV_congr
theorem strOf_size (l:List Nat):(strOf l).size=l.length:=by simp [strOf,ByteArray.size]
theorem strOf_add (l m:List Nat):strOf l++strOf m=strOf (l++m):=by
 apply ByteArray.ext
 rw [ByteArray.data_append]
 simp [strOf]
theorem str_add {a b:ByteArray} (h:a.size+b.size≤1000000):bin Tryd.prog .add 9 (.string a) (.string b)=some (.string (a++b)):=by
 unfold bin eqOk
 simp only [if_true]
 unfold binA
 simp only [ground,flat,Bool.and_self,if_true]
 have e : (binOp .add 9 (.string a) (.string b)) = (if ((a.size + b.size : Nat) : Int) > IntKind.i64.max then unsupported (Unsupported.resourceLimit "string concatenation: a sum of the lengths that is no int") else pure (.string (a ++ b))) := rfl
 rw [e,if_neg (by have:IntKind.i64.max=9223372036854775807:=rfl;omega)]
 rfl
theorem add_str (l m:List Nat) (h:l.length+m.length≤1000000):bin Tryd.prog .add 9 (.string (strOf l)) (.string (strOf m))=some (.string (strOf (l++m))):=by
 rw [str_add (by rw [strOf_size,strOf_size];exact h),strOf_add]
theorem chkS (s:ByteArray) (h:Heap):chkR true (some (.string s,h)) (.string s)=true:=by simp [chkR,same,veq]
theorem plus_get {h a b:Heap} {k:Blk} (hk:b.getB a.next=some (.cells k)) (hn:h.next≤a.next):(Heap.plus true h a b).get a.next=some k:=by
 unfold Heap.plus
 rw [if_pos rfl,hk]
 obtain ⟨_,_,p3,_⟩:=Heap.pad_spec h (a.next-h.next)
 simp only
 refine Heap.get_of_getB _ ?_
 show ((Heap.pad (a.next-h.next) h).allocB (.cells k)).getB a.next=_
 rw [Heap.getB_allocB,p3,if_pos (by omega)]
def keyB (r:RecD):List Nat := [r.kind]++r.obj ++ [i8 r.holder]
theorem keyB_len {r:RecD} (w:r.Wf):(keyB r).length=34:=by unfold keyB;simp [w.obj.1]
theorem keyB_bys {r:RecD} (w:r.Wf):Bys (keyB r):=by
 intro x hx
 unfold keyB at hx
 simp only [List.mem_append,List.mem_cons,List.not_mem_nil,or_false] at hx
 rcases hx with (rfl|hx)|rfl
 ·exact w.kind
 ·exact w.obj.2 x hx
 ·exact i8_lt _
theorem obj_sl {g:Heap} {b:Nat} {r:RecD} (w:r.Wf) (g1:g.get b=some (recC r)):sliceBytes (some ⟨b,1,none⟩) 32 g=some r.obj:=by
 have:=sliceBytes_mid (s:=none) g1 (show recC r = [.int .u8 (r.kind:Int)]++(u8s r.obj ++ [.int .i64 r.holder,.int .u64 (r.inc:Int),.int .u64 (r.num:Int),.bool r.held,.int .i64 r.k,.int .i64 r.n]) from rfl) rfl w.obj.2
 rw [w.obj.1] at this
 exact this
theorem is67:IsFn Tryd.prog 67 Tryd.f67:=⟨by kernel_rfl,by kernel_rfl,by kernel_rfl,by kernel_rfl⟩
theorem is59:IsFn Tryd.prog 59 Tryd.f59:=⟨by kernel_rfl,by kernel_rfl,by kernel_rfl,by kernel_rfl⟩
set_option maxRecDepth 100000 in
theorem r59 {h:Heap} (hG:4≤h.n0) {r:RecD} (w:r.Wf) : ∃ h',CW 59 [.agg (recC r).toArray] h=some (.string (strOf (keyB r)),h')∧Old h h':=by
 obtain ⟨h1,b1,o1,g1,n1⟩:=rec_box2 h w
 have A1:=r_ld w g1
 have ha:=arr32 h.next 1
 have c9:=cvBS_at (c:=32) (obj_sl w g1)
 have cv1:=cv8i .i64 r.holder h1
 have b5:=bsl1 h1 r.kind
 have ka:Old h1 (h1.alloc [u8 r.kind]):=Kept.alloc _ _ _
 have c6:=cvBS_at (c:=1) (bytes1 h1 w.kind)
 have s1:bin Tryd.prog .add 9 (.string (strOf [r.kind])) (.string (strOf r.obj))=some (.string (strOf ([r.kind]++r.obj))):=add_str _ _ (by simp [w.obj.1])
 have b14:=bsl1 (h1.alloc [u8 r.kind]) (i8 r.holder)
 have kb:Old (h1.alloc [u8 r.kind]) ((h1.alloc [u8 r.kind]).alloc [u8 (i8 r.holder)]):=Kept.alloc _ _ _
 have c15:=cvBS_at (c:=1) (bytes1 (h1.alloc [u8 r.kind]) (i8_lt r.holder))
 have s2:bin Tryd.prog .add 9 (.string (strOf ([r.kind]++r.obj))) (.string (strOf [i8 r.holder]))=some (.string (strOf (keyB r))):=add_str _ _ (by simp [w.obj.1])
 have nx:(h1.alloc [u8 r.kind]).next=h1.next+1:=Heap.next_alloc ..
 have gp:((h1.alloc [u8 r.kind]).alloc [u8 (i8 r.holder)]).getB (h1.alloc [u8 r.kind]).next=some (.cells [u8 (i8 r.holder)]):=by rw [Heap.getB_alloc,if_pos rfl]
 have pl:cvBS (.slice (some ⟨(h1.alloc [u8 r.kind]).next,0,none⟩) 1 1) (Heap.plus true h1 (h1.alloc [u8 r.kind]) ((h1.alloc [u8 r.kind]).alloc [u8 (i8 r.holder)]))=some (.string (strOf [i8 r.holder]),Heap.plus true h1 (h1.alloc [u8 r.kind]) ((h1.alloc [u8 r.kind]).alloc [u8 (i8 r.holder)])):=by
  have g:=plus_get (h:=h1) gp (by omega)
  have e:=sliceBytes_at (off:=0) (n:=1) (s:=none) (l := [i8 r.holder]) g (by simp) (fun x hx=>by
   simp only [List.mem_cons,List.not_mem_nil,or_false] at hx
   subst hx
   exact i8_lt _)
  exact cvBS_at e
 refine ⟨_,CW_body is59 hG rfl ((t59_eq _ _ _).trans ?_),(o1.trans ka).trans kb⟩
 unfold t59
 simp -implicitDefEqProofs only [b1, A1.l0, A1.l33, ha, c9, cv1, b5, c6, s1, b14, c15, s2, pl, chkS, thenV_some, pu_some, addP_ptr, Nat.zero_add, Bool.and_true]
end Go.Proofs.YtdnahgfgoajmcaaDoor

namespace Go.Proofs.YtdnahgfgoajmcaaDoor
open Go Go.Abs
attribute [local congr] thenV_congr
theorem app_cap {h:Heap} {b len cap n c:Nat} {s:Option Nat} {a:Option Addr} {A B C:List Value} {l:List Nat} (g:h.get b=some (A++(B++C))) (h0:h.n0≤b) (hA:A.length=len) (hB:B.length=n) (hs:sliceBytes a n h=some l) (hn:0<n) (hc:len+n≤cap) (hk:len+n≤1000000) :
  ∃ g',appendA 1 1 (.slice (some ⟨b,0,s⟩) len cap) (.slice a n c) h=some (.slice (some ⟨b,0,s⟩) (len+n) cap,g')∧Kept h g' (· = b)∧g'.get b=some (A++(u8s l++C))∧g'.next=h.next:=by
 obtain ⟨hl,hb,_⟩:=sliceBytes_spec hs
 have hf:=firstA_of hs (Nat.le_refl n) (c:=c)
 rw [List.take_of_length_le (by omega)] at hf
 have hsp:splice (A++(B++C)) len (u8s l)=A++(u8s l++C):=splice_app hA hB (by rw [List.length_map];exact hl)
 refine ⟨h.set b (A++(u8s l++C)),?_,Kept.set h0 g (.inr rfl),Heap.get_set_same h0 g _,rfl⟩
 unfold appendA
 simp only [lenA,hf]
 have c1:(!(oneCells (l.map u8)) || !(decide ((len+n)*1≤140737488355328)) || !(decide (len+n≤4611686018427387904))||decide ((l.map u8).length≠n*1))=false:=by
  rw [one_u8,decide_eq_true (by omega),decide_eq_true (by omega),decide_eq_false (by simp;omega)];rfl
 rw [if_neg (by rw [c1];decide),if_pos hc,if_neg (by omega)]
 unfold stL
 rw [Nat.zero_add,Nat.mul_one]
 simp only [g]
 rw [if_pos (by
  have h1:len+(u8s l).length≤(A++(B++C)).length:=by rw [List.length_append,List.length_append,List.length_map,hA,hB];omega
  simp only [decide_eq_true h0,decide_eq_true h1,(u8s_ok l).2,Bool.and_self]),hsp]
 rfl
set_option maxRecDepth 100000 in
theorem r67 {h:Heap} (hG:4≤h.n0) {r:RecD} (w:r.Wf) : ∃ a c h',CW 67 [.agg (recC r).toArray] h=some (.slice a 34 c,h')∧sliceBytes a 34 h'=some (keyB r)∧Old h h':=by
 obtain ⟨h1,b1,o1,g1,n1⟩:=rec_box2 h w
 have m4:mkR 1 1 (.int .u8 0) (.int .i64 0) (.int .i64 34) h1=some (.slice (some ⟨h1.next,0,none⟩) 0 34,h1.alloc (zeros [(.int .u8 0)] 34)):=rfl
 have o2:Old h1 (h1.alloc (zeros [(.int .u8 0)] 34)):=Kept.alloc _ _ _
 have g2:(h1.alloc (zeros [(.int .u8 0)] 34)).get h1.next=some ([]++([.int .u8 0]++(List.replicate 33 (.int .u8 0)))):=by rw [Heap.get_alloc,if_pos rfl];rfl
 have n2:(h1.alloc (zeros [(.int .u8 0)] 34)).next=h1.next+1:=Heap.next_alloc ..
 generalize h1.alloc (zeros [(.int .u8 0)] 34)=h2 at *
 have G2:=Old.get o2 g1
 have A2:=r_ld w G2
 have b3:=bsl1 h2 r.kind
 have o3:Old h2 (h2.alloc [u8 r.kind]):=Kept.alloc _ _ _
 have s3:=bytes1 h2 w.kind
 have n3:(h2.alloc [u8 r.kind]).next=h2.next+1:=Heap.next_alloc ..
 generalize h2.alloc [u8 r.kind]=h3 at *
 have p1:h2.n0≤h1.next:=by rw [o2.n0];exact h1.n0_le_next
 have p3:h3.n0≤h1.next:=by rw [o3.n0];exact p1
 obtain ⟨h4,e4,k4,g4,n4⟩:=app_cap (cap:=34) (s:=none) (c:=1) (len:=0) (Old.get o3 g2) p3 rfl rfl s3 (by decide) (by decide) (by decide)
 have hne : ¬(h.next=h1.next):=by omega
 have G4:h4.get h.next=some (recC r):=Kept.getE k4 (Old.get o3 G2) hne
 have A4:=r_ld w G4
 have ha:=arr32 h.next 1
 have p4:h4.n0≤h1.next:=by rw [k4.n0];exact p3
 have g4:h4.get h1.next=some (u8s [r.kind]++(List.replicate 32 (.int .u8 0) ++ [.int .u8 0])):=g4.trans rfl
 obtain ⟨h5,e5,k5,g5,n5⟩:=app_cap (cap:=34) (s:=none) (c:=32) (len:=1) g4 p4 rfl rfl (obj_sl w G4) (by decide) (by decide) (by decide)
 have G5:h5.get h.next=some (recC r):=Kept.getE k5 G4 hne
 have A5:=r_ld w G5
 have cv1:=cv8i .i64 r.holder h5
 have b6:=bsl1 h5 (i8 r.holder)
 have o6:Old h5 (h5.alloc [u8 (i8 r.holder)]):=Kept.alloc _ _ _
 have s6:=bytes1 h5 (i8_lt r.holder)
 generalize h5.alloc [u8 (i8 r.holder)]=h6 at *
 have p6:h6.n0≤h1.next:=by rw [o6.n0,k5.n0];exact p4
 have g5:h5.get h1.next=some ((u8s [r.kind]++u8s r.obj)++([.int .u8 0] ++ [])):=by rw [g5];simp
 obtain ⟨h7,e7,k7,g7,n7⟩:=app_cap (cap:=34) (s:=none) (c:=1) (len:=33) (Old.get o6 g5) p6 (by simp [w.obj.1]) rfl s6 (by decide) (by decide) (by decide)
 have O3:Old h h3:=(o1.trans o2).trans o3
 have hd:h.next≤h1.next:=by omega
 have O4:Old h h4:=Old.of_new O3 k4 hd
 have O5:Old h h5:=Old.of_new O4 k5 hd
 have O7:Old h h7:=Old.of_new (O5.trans o6) k7 hd
 have g7:h7.get h1.next=some (u8s (keyB r)):=by rw [g7];simp [keyB]
 refine ⟨some ⟨h1.next,0,none⟩,34,h7,CW_body is67 hG rfl ((t67_eq _ _ _).trans ?_),?_,O7⟩
 ·unfold t67
  have e4:appendA 1 1 (.slice (some ⟨h1.next,0,none⟩) 0 34) (.slice (some ⟨h2.next,0,none⟩) 1 1) h3=some (.slice (some ⟨h1.next,0,none⟩) 1 34,h4):=e4
  have e5:appendA 1 1 (.slice (some ⟨h1.next,0,none⟩) 1 34) (.slice (some ⟨h.next,1,none⟩) 32 32) h4=some (.slice (some ⟨h1.next,0,none⟩) 33 34,h5):=e5
  have e7:appendA 1 1 (.slice (some ⟨h1.next,0,none⟩) 33 34) (.slice (some ⟨h5.next,0,none⟩) 1 1) h6=some (.slice (some ⟨h1.next,0,none⟩) 34 34,h7):=e7
  simp -implicitDefEqProofs only [b1, m4, A2.l0, b3, e4, ha, e5, A5.l33, cv1, b6, e7, thenV_some, pu_some, addP_ptr, Nat.zero_add]
 ·have:=sliceBytes_at (off:=0) (n:=34) (s:=none) g7 (by rw [keyB_len w];decide) (keyB_bys w)
  rw [this,List.drop_zero,List.take_of_length_le (by rw [keyB_len w];decide)]
end Go.Proofs.YtdnahgfgoajmcaaDoor

namespace Go.Proofs.YtdnahgfgoajmcaaDoor
open Go Go.Abs
attribute [local congr] thenV_congr
def cmpI (a b:Int):Int:=if a<b then -1 else if b<a then 1 else 0
def orL:List Int→Int
 | []=>0
 |x::l=>if x=0 then orL l else x
theorem is137:IsFn Tryd.prog 137 Tryd.f137:=⟨by kernel_rfl,by kernel_rfl,by kernel_rfl,by kernel_rfl⟩
theorem is138:IsFn Tryd.prog 138 Tryd.f138:=⟨by kernel_rfl,by kernel_rfl,by kernel_rfl,by kernel_rfl⟩
theorem is115:IsFn Tryd.prog 115 Tryd.f115:=⟨by kernel_rfl,by kernel_rfl,by kernel_rfl,by kernel_rfl⟩
theorem is116:IsFn Tryd.prog 116 Tryd.f116:=⟨by kernel_rfl,by kernel_rfl,by kernel_rfl,by kernel_rfl⟩
theorem is114:IsFn Tryd.prog 114 Tryd.f114:=⟨by kernel_rfl,by kernel_rfl,by kernel_rfl,by kernel_rfl⟩
theorem is63:IsFn Tryd.prog 63 Tryd.f63:=⟨by kernel_rfl,by kernel_rfl,by kernel_rfl,by kernel_rfl⟩
theorem is62:IsFn Tryd.prog 62 Tryd.f62:=⟨by kernel_rfl,by kernel_rfl,by kernel_rfl,by kernel_rfl⟩
theorem r137 {h:Heap} (hG:4≤h.n0) (a:Int):CW 137 [.int .u64 a] h=some (.bool false,h):=by
 refine CW_body is137 hG rfl ((t137_eq _ _ _).trans ?_)
 unfold t137
 simp -implicitDefEqProofs only [bin_neq,bne_self_eq_false,thenV_some,pu_some]
theorem r138 {h:Heap} (hG:4≤h.n0) (a:Int):CW 138 [.int .i64 a] h=some (.bool false,h):=by
 refine CW_body is138 hG rfl ((t138_eq _ _ _).trans ?_)
 unfold t138
 simp -implicitDefEqProofs only [bin_neq,bne_self_eq_false,thenV_some,pu_some]
theorem r115 {h:Heap} (hG:4≤h.n0) (a b:Int):CW 115 [.int .u64 a,.int .u64 b] h=some (.int .i64 (cmpI a b),h):=by
 refine CW_body is115 hG rfl ((t115_eq _ _ _ _).trans ?_)
 unfold t115 cmpI
 simp -implicitDefEqProofs only [r137 hG,bin_lss,bin_gtr,thenV_some,pu_some]
 by_cases h1:a<b
 ·simp -implicitDefEqProofs only [decide_eq_true h1, if_pos h1]
 ·simp -implicitDefEqProofs only [decide_eq_false h1, if_neg h1]
  by_cases h2:b<a
  ·have h2':a>b:=h2
   simp -implicitDefEqProofs only [decide_eq_true h2', if_pos h2]
  ·have h2' : ¬a>b:=h2
   simp -implicitDefEqProofs only [decide_eq_false h2', if_neg h2]
theorem r116 {h:Heap} (hG:4≤h.n0) (a b:Int):CW 116 [.int .i64 a,.int .i64 b] h=some (.int .i64 (cmpI a b),h):=by
 refine CW_body is116 hG rfl ((t116_eq _ _ _ _).trans ?_)
 unfold t116 cmpI
 simp -implicitDefEqProofs only [r138 hG,bin_lss,bin_gtr,thenV_some,pu_some]
 by_cases h1:a<b
 ·simp -implicitDefEqProofs only [decide_eq_true h1, if_pos h1]
 ·simp -implicitDefEqProofs only [decide_eq_false h1, if_neg h1]
  by_cases h2:b<a
  ·have h2':a>b:=h2
   simp -implicitDefEqProofs only [decide_eq_true h2', if_pos h2]
  ·have h2' : ¬a>b:=h2
   simp -implicitDefEqProofs only [decide_eq_false h2', if_neg h2]
theorem results114:Tryd.f114.results.toList = [.tmp 2]:=by kernel_rfl
theorem r114 {h:Heap} (hG:4≤h.n0) {b:Nat} {vs:List Int} (hl:vs.length=5) (g:h.get b=some (vs.map (.int .i64))):CW 114 [.slice (some ⟨b,0,none⟩) 5 5] h=some (.int .i64 (orL vs),h):=by
 have hll:lenL (.slice (some ⟨b,0,none⟩) 5 5)=some (i64n 5):=rfl
 refine CW_body is114 hG rfl ((t114_eq _ _ _).trans ?_)
 unfold t114
 simp -implicitDefEqProofs only [hll,thenV_some,pu_some]
 refine endL_fin (n:=18) (fin:=fun ex y g=>g=h∧((ex = .ret∧y 2 = .int .i64 (orL vs))∨(ex = .exit 0∧y 3 = .int .i64 0∧orL vs=0))) (Q:=fun o:Out=>o=some (Value.int .i64 (orL vs),h))
  (loop_fin (t114l114_11010_eq CW) (Inv:=fun k y g => ∃ i,i+k=5∧y 3 = .int .i64 0∧y 6 = .slice (some ⟨b,0,none⟩) 5 5∧y 7=i64n 5∧y 8=i64n i∧g=h∧orL vs=orL (vs.drop i)) ?_ 5 (by have:rounds=18446744073709551616:=rfl;omega) ⟨0,Nat.zero_add _,rfl,rfl,rfl,rfl,rfl,rfl⟩) ?_
 ·rintro k y g' ⟨i,hik,y3,y6,y7,y8,rfl,ho⟩
  unfold t114l114_11010
  simp -implicitDefEqProofs only [y3,y6,y7,y8,lss3]
  by_cases hi:i<5
  ·have hx:idxS 1 (.slice (some ⟨b,0,none⟩) 5 5) (i64n i)=some (ptr b i):=by
    unfold idxS
    simp only []
    rw [if_pos (by omega),Int.toNat_natCast,Nat.mul_one,Nat.zero_add]
   have hv:vs[i]? = some vs[i]:=List.getElem?_eq_getElem (by omega)
   have hd:ld1 (ptr b i) g'=some (.int .i64 vs[i],g'):=ld1_at g (by rw [List.getElem?_map,hv];rfl) rfl
   have hdr:vs.drop i=vs[i]::vs.drop (i+1):=List.drop_eq_getElem_cons (by omega)
   by_cases hz:vs[i]=0
   ·have hb:(vs[i] != 0)=false:=by rw [hz];rfl
    simp -implicitDefEqProofs only [decide_eq_true hi, hx, hd, bin_neq, hb, add31 (show i+1≤9223372036854775807 by omega), thenV_some, pu_some]
    refine Rnd.next (k-1) (by omega) ⟨i+1,by omega,y3,y6,y7,rfl,rfl,?_⟩
    rw [ho,hdr,orL,if_pos hz]
   ·have hb:(vs[i] != 0)=true:=by simpa using hz
    simp -implicitDefEqProofs only [decide_eq_true hi, hx, hd, bin_neq, hb, thenV_some, pu_some]
    refine Rnd.ret ⟨rfl,.inl ⟨rfl,?_⟩⟩
    rw [ho,hdr,orL,if_neg hz]
    rfl
  ·simp -implicitDefEqProofs only [decide_eq_false hi,thenV_some,pu_some]
   refine Rnd.out 0 ⟨rfl,.inr ⟨rfl,y3,?_⟩⟩
   rw [ho,List.drop_eq_nil_of_le (by omega)]
   rfl
 ·rintro ex z g' ⟨rfl,⟨rfl,z2⟩|⟨rfl,z3,hz⟩⟩
  ·rw [endL_ret,res_one results114 (by decide),z2]
  ·simp -implicitDefEqProofs only [endL_exit,b114_4,if_true,t114k114_2_eq]
   unfold t114k114_2
   rw [z3,hz]
   rfl
theorem fill_int {A C:List Value} {o:Nat} {x:Value} {k:IntKind} {n:Int} {rest:List (Nat×Nat×Value)} (hA:A.length=o):fillL (A++([x]++C)) ((o,1,.int k n)::rest)=fillL (A++([.int k n]++C)) rest:=by
 have hc:(Value.int k n).cells = #[.int k n]:=rfl
 simp only [fillL,hc]
 rw [if_pos (by
  have:o+1≤(A++([x]++C)).length:=by rw [List.length_append,List.length_append,hA];simp
  simp only [decide_eq_true this]
  rfl),splice_app (B := [x]) (B' := [.int k n]) (C:=C) hA rfl rfl]
theorem chkF (r:Out) (v:Value):chkR false r v=true:=rfl
theorem veqL_self : ∀ {l:List Value},(∀ v∈l,∃ k:Kd,k.has v)→veqL l l=true
 | [],_=>rfl
 |v::l,h=>by
  simp only [veqL,Bool.and_eq_true]
  refine ⟨?_,veqL_self fun w hw=>h w (List.mem_cons_of_mem _ hw)⟩
  obtain ⟨k,hk⟩:=h v List.mem_cons_self
  cases k with
  |u8=>obtain ⟨n,rfl,_⟩:=hk;simp [veq]
  |i k=>obtain ⟨n,rfl,_⟩:=hk;simp [veq]
  |b=>obtain ⟨t,rfl⟩:=hk;simp [veq]
theorem Typed.kinds {ks:List Kd} {cs:List Value} (h:Typed ks cs) : ∀ v∈cs,∃ k:Kd,k.has v:=by
 intro v hv
 obtain ⟨j,hj⟩:=List.mem_iff_getElem?.1 hv
 have hlt:=(List.getElem?_eq_some_iff.1 hj).1
 rw [h.1] at hlt
 obtain ⟨w,hw,hk⟩:=h.2 j _ (List.getElem?_eq_getElem hlt)
 rw [hj] at hw
 cases hw
 exact ⟨_,hk⟩
theorem chk_agg (l:List Value) (g:Heap) (h : ∀ v∈l,∃ k:Kd,k.has v):chkR true (some (.agg l.toArray,g)) (.agg l.toArray)=true:=by
 show (!true||veq (.agg ⟨l⟩) (.agg ⟨l⟩))=true
 simp only [Bool.not_true,Bool.false_or,veq]
 exact veqL_self h
def cmpR (a b:RecD):Int:=orL [cmpI a.inc b.inc,cmpI a.num b.num,(if a.held=b.held then 0 else if a.held then 1 else -1),cmpI a.k b.k,cmpI a.n b.n]
theorem bsl5 (h:Heap) (a b c d e:Int):bslR 1 (.int .i64 0) 5 [(0,.int .i64 a),(1,.int .i64 b),(2,.int .i64 c),(3,.int .i64 d),(4,.int .i64 e)] h=some (.slice (some ⟨h.next,0,none⟩) 5 5,h.alloc ([a,b,c,d,e].map (.int .i64))):=rfl
theorem neq_bool (a b:Bool):bin Tryd.prog .neq 4 (.bool a) (.bool b)=some (.bool (a != b)):=by cases a<;>cases b<;>kernel_rfl
set_option maxRecDepth 100000 in
theorem r63 {h:Heap} (hG:4≤h.n0) {a b:RecD} (wa:a.Wf) (wb:b.Wf) : ∃ h',CW 63 [.agg (recC a).toArray,.agg (recC b).toArray] h=some (.int .i64 (cmpR a b),h')∧Old h h':=by
 obtain ⟨h1,b1,o1,g1,n1⟩:=rec_box2 h wa
 obtain ⟨h2,b2,o2,g2,n2⟩:=rec_box2 h1 wb
 have A:=r_ld wa (o2.get g1)
 have B:=r_ld wb g2
 have G2:4≤h2.n0:=by rw [o2.n0,o1.n0];exact hG
 have G3 : ∀ k:Blk,4≤(h2.alloc k).n0:=fun k=>G2
 have e14:=fun c:Int=>r114 (h:=h2.alloc ([cmpI a.inc b.inc,cmpI a.num b.num,c,cmpI a.k b.k,cmpI a.n b.n].map (.int .i64))) (G3 _) (b:=h2.next) (vs := [cmpI a.inc b.inc,cmpI a.num b.num,c,cmpI a.k b.k,cmpI a.n b.n]) rfl (by rw [Heap.get_alloc,if_pos rfl])
 have o3:=fun c:Int=>(show Old h2 (h2.alloc ([cmpI a.inc b.inc,cmpI a.num b.num,c,cmpI a.k b.k,cmpI a.n b.n].map (.int .i64))) from Kept.alloc _ _ _)
 unfold cmpR
 cases qa:a.held<;>cases qb:b.held
 ·refine ⟨_,CW_body is63 hG rfl ((t63_eq _ _ _ _).trans ?_),(o1.trans o2).trans (o3 0)⟩
  unfold t63
  simp -implicitDefEqProofs only [b1,b2,addP_ptr,Nat.zero_add,A.l36,B.l36,A.l34,B.l34,A.l35,B.l35,A.l37,B.l37,A.l38,B.l38,qa,qb,neq_bool,bne_self_eq_false,r115 G2,r116 G2,bsl5,e14,chkI,Bool.and_self,Bool.and_true,thenV_some,pu_some,if_true]
 ·refine ⟨_,CW_body is63 hG rfl ((t63_eq _ _ _ _).trans ?_),(o1.trans o2).trans (o3 (-1))⟩
  unfold t63
  simp -implicitDefEqProofs only [b1, b2, addP_ptr, Nat.zero_add, A.l36, B.l36, A.l34, B.l34, A.l35, B.l35, A.l37, B.l37, A.l38, B.l38, qa, qb, neq_bool, show (false != true)=true from rfl, r115 G2, r116 G2, bsl5, e14, chkI, Bool.and_self, Bool.and_true, thenV_some, pu_some]
  rfl
 ·refine ⟨_,CW_body is63 hG rfl ((t63_eq _ _ _ _).trans ?_),(o1.trans o2).trans (o3 1)⟩
  unfold t63
  simp -implicitDefEqProofs only [b1,b2,addP_ptr,Nat.zero_add,A.l36,B.l36,A.l34,B.l34,A.l35,B.l35,A.l37,B.l37,A.l38,B.l38,qa,qb,neq_bool,show (true != false)=true from rfl,r115 G2,r116 G2,bsl5,e14,chkI,Bool.and_self,Bool.and_true,thenV_some,pu_some,if_true]
  rfl
 ·refine ⟨_,CW_body is63 hG rfl ((t63_eq _ _ _ _).trans ?_),(o1.trans o2).trans (o3 0)⟩
  unfold t63
  simp -implicitDefEqProofs only [b1,b2,addP_ptr,Nat.zero_add,A.l36,B.l36,A.l34,B.l34,A.l35,B.l35,A.l37,B.l37,A.l38,B.l38,qa,qb,neq_bool,bne_self_eq_false,r115 G2,r116 G2,bsl5,e14,chkI,Bool.and_self,Bool.and_true,thenV_some,pu_some,if_true]
def atC (r:RecD):List Value := .int .u8 (r.kind:Int)::(u8s r.obj ++ [.int .i64 r.holder])
def atK:List Kd := .u8::(List.replicate 32 .u8 ++ [.i .i64])
theorem at_typed {r:RecD} (h:r.Wf):Typed atK (atC r):=(Typed.one (k := .u8) ⟨_,rfl,h.kind⟩).app ((dig_typed h.obj).app (Typed.one (k := .i .i64) ⟨_,rfl,wf_i64.2 h.holder⟩))
abbrev zat:List Value := [(.int .u8 0),(.int .u8 0),(.int .u8 0),(.int .u8 0),(.int .u8 0),(.int .u8 0),(.int .u8 0),(.int .u8 0),(.int .u8 0),(.int .u8 0),(.int .u8 0),(.int .u8 0),(.int .u8 0),(.int .u8 0),(.int .u8 0),(.int .u8 0),(.int .u8 0),(.int .u8 0),(.int .u8 0),(.int .u8 0),(.int .u8 0),(.int .u8 0),(.int .u8 0),(.int .u8 0),(.int .u8 0),(.int .u8 0),(.int .u8 0),(.int .u8 0),(.int .u8 0),(.int .u8 0),(.int .u8 0),(.int .u8 0),(.int .u8 0),(.int .i64 0)]
theorem bld_at {r:RecD} (w:r.Wf):bldR zat [(0,1,.int .u8 (r.kind:Int)),(1,32,.agg (u8s r.obj).toArray),(33,1,.int .i64 r.holder)]=some (.agg (atC r).toArray):=by
 have e:fillL zat [(0,1,.int .u8 (r.kind:Int)),(1,32,.agg (u8s r.obj).toArray),(33,1,.int .i64 r.holder)]=fillL ([.int .u8 (r.kind:Int)]++(u8s z32 ++ [.int .i64 0])) [(1,32,.agg (u8s r.obj).toArray),(33,1,.int .i64 r.holder)]:=rfl
 unfold bldR
 rw [e,fill_mid (A := [.int .u8 (r.kind:Int)]) (B:=u8s z32) (o:=1) (n:=32) rfl rfl rfl (by rw [List.length_map];exact w.obj.1)]
 have e2:fillL ([.int .u8 (r.kind:Int)]++(u8s r.obj ++ [.int .i64 0])) [(33,1,.int .i64 r.holder)]=some (atC r):=by
  have e3:([.int .u8 (r.kind:Int)]++(u8s r.obj ++ [Value.int .i64 0]))=(([.int .u8 (r.kind:Int)]++u8s r.obj)++([Value.int .i64 0] ++ [])):=by simp
  rw [e3,fill_int (by simp [w.obj.1])]
  show some _=some _
  simp [atC]
 rw [e2]
 rfl
theorem atC_len {r:RecD} (w:r.Wf):(atC r).length=34:=(at_typed w).1
theorem agg101:aggT Tryd.prog 101=some true:=by kernel_rfl
theorem siz101:sizeT Tryd.prog 101=some 34:=by kernel_rfl
theorem results62:Tryd.f62.results.toList = [.cell 2 101]:=by kernel_rfl
theorem res_cell {rs:List ResultVar} {n k t z:Nat} (hr:rs = [.cell k t]) (h1:aggT Tryd.prog t=some true) (h2:sizeT Tryd.prog t=some z) (hk:k<n) (x:Nat→Value) {h:Heap} {v:Value} (e:ldN z (x k) h=some (v,h)):resultsA Tryd.prog rs (mkF n x) h=some (v,h):=by
 subst hr
 simp only [resultsA,resultA,getD_mkF hk,ld_agg h1 h2,e]
 rfl
set_option maxRecDepth 100000 in
theorem r62 {h:Heap} (hG:4≤h.n0) {r:RecD} (w:r.Wf) : ∃ h',CW 62 [.agg (recC r).toArray] h=some (.agg (atC r).toArray,h')∧Old h h':=by
 obtain ⟨h1,b1,o1,g1,n1⟩:=rec_box2 h w
 obtain ⟨h2,z2,o2,g2,n2⟩:=fresh zat h1
 have A:=r_ld w (o2.get g1)
 have ta:=at_typed w
 obtain ⟨h3,e3,k3,g3,_,_⟩:=stored_all (n:=34) (k':=atC r) g2 (by rw [o2.n0];exact h1.n0_le_next) rfl (atC_len w) ta.all.2.1
 have o3:Old h1 h3:=Old.of_new o2 k3 (Nat.le_refl _)
 have l3:=ldN_all g3 (atC_len w) ta.all.1
 refine ⟨h3,CW_body is62 hG rfl ((t62_eq _ _ _).trans ?_),o1.trans o3⟩
 unfold t62
 simp -implicitDefEqProofs only [b1,z2,addP_ptr,Nat.zero_add,A.l0,A.l1,A.l33,bld_at w,e3,thenV_some,pu_some]
 exact res_cell results62 agg101 siz101 (show 2<10 by decide) _ l3
theorem at_at {x y:Value} {o:List Value} (ho:o.length=32):(x::(o ++ [y])).toArray[33]? = some y:=by
 rw [List.getElem?_toArray,show 33=32+1 from rfl,List.getElem?_cons_succ,List.getElem?_append_right (by omega),ho]
 rfl
def atB (a b:RecD):Bool:=decide (a.kind=b.kind)&&(decide (a.obj=b.obj)&&decide (a.holder=b.holder))
theorem eq101 {a b:RecD} (wa:a.Wf) (wb:b.Wf):bin Tryd.prog .eql 101 (.agg (atC a).toArray) (.agg (atC b).toArray)=some (.bool (atB a b)):=by
 obtain ⟨r,hr,hrun⟩:=dig_run (d:=9997) (dig_typed wa.obj) (dig_typed wb.obj)
 have l1:(u8s a.obj).length=32:=by rw [List.length_map];exact wa.obj.1
 have l2:(u8s b.obj).length=32:=by rw [List.length_map];exact wb.obj.1
 have hr':r=decide (a.obj=b.obj):=by
  by_cases e:a.obj=b.obj
  ·rw [decide_eq_true e,hr.2 (by rw [e])]
  ·rw [decide_eq_false e]
   cases r with
   |false=>rfl
   |true=>exact absurd (u8s_inj (hr.1 rfl)) e
 have hp:pureRun Tryd.prog (Op.equalIn 10000 101 (.agg (atC a).toArray) (.agg (atC b).toArray))=some (atB a b):=by
  unfold atC
  rw [pr_eq_struct (P:=Tryd.prog) (d:=9999) Tryd.underlying101 (by kernel_rfl)]
  simp only [eqF]
  rw [if_pos (by decide),if_pos (by decide),if_pos (by decide)]
  rw [pr_part_int (v := .int .u8 (a.kind:Int)) Tryd.underlying56 rfl,pr_part_int (v := .int .u8 (b.kind:Int)) Tryd.underlying56 rfl,pr_part_arr Tryd.underlying35 size32,pr_part_arr Tryd.underlying35 size32,rec_obj l1,rec_obj l2]
  rw [pr_part_int (v := .int .i64 a.holder) Tryd.underlying3 (at_at l1),pr_part_int (v := .int .i64 b.holder) Tryd.underlying3 (at_at l2)]
  simp only [Option.bind_some,pr_eq_int (d:=9998) Tryd.underlying56,pr_eq_int (d:=9998) Tryd.underlying3,hrun,hr']
  unfold atB
  by_cases e1:a.kind=b.kind<;>by_cases e2:a.obj=b.obj<;>by_cases e3:a.holder=b.holder<;>simp [e1,e2,e3]
  all_goals omega
 exact (bin_agg (by kernel_rfl) (ground_agg (at_typed wa).all.2.2) (ground_agg (at_typed wb).all.2.2) hp).1
def newerB (a b:RecD):Bool:=recB a&&(recB b&&(atB a b&&decide (cmpR a b>0)))
end Go.Proofs.YtdnahgfgoajmcaaDoor

namespace Go.Proofs.YtdnahgfgoajmcaaDoor
open Go Go.Abs
attribute [local congr] thenV_congr
theorem agg35:aggT Tryd.prog 35=some true:=by kernel_rfl
theorem dig_cells {l:List Nat} (h:D32 l):(u8s l).length=32∧Abs.noHoles (u8s l)=true∧oneCells (u8s l)=true:=by
 have t:=dig_typed h
 exact ⟨t.1,t.all.1,t.all.2.1⟩
theorem eqD35 {a b:List Nat} (wa:D32 a) (wb:D32 b):bin Tryd.prog .eql 35 (.agg (u8s a).toArray) (.agg (u8s b).toArray)=some (.bool (decide (a=b))):=by
 obtain ⟨r,hr,hrun⟩:=dig_run (d:=9998) (dig_typed wa) (dig_typed wb)
 have hr':r=decide (a=b):=by
  by_cases e:a=b
  ·rw [decide_eq_true e,hr.2 (by rw [e])]
  ·rw [decide_eq_false e]
   cases r with
   |false=>rfl
   |true=>exact absurd (u8s_inj (hr.1 rfl)) e
 rw [←hr']
 exact (bin_agg (by kernel_rfl) (ground_agg (dig_typed wa).all.2.2) (ground_agg (dig_typed wb).all.2.2) hrun).1
theorem fs_size:Nat.ble 120 Tryd.prog.funcs.size=true:=by kernel_rfl
theorem XX_yid (L:Nat) (args:List Value) (h:Heap):XX (yid Tryd.prog L) args h=none:=by
 have e:=Nat.le_of_ble_eq_true fs_size
 show callL XL (Tryd.prog.funcs.size+L) args h=none
 generalize Tryd.prog.funcs.size=n at e
 unfold callL
 rw [if_neg (show ¬n+L=(14:Nat) by omega)]
 unfold callL
 rw [if_neg (show ¬n+L=(119:Nat) by omega)]
 rfl
theorem CW_yield {L:Nat} {args:List Value} {h:Heap} {r:Value×Heap} (hG:4≤h.n0) (e:roundA Tryd.prog CW L args h=some r):CW (yid Tryd.prog L) args h=some r:=
 CC_round (by rw [globals4];exact hG) (XX_yid L args h) e
def RSl (h:Heap) (v:Value) (L:List RecD):Prop:=
 (∃ a c,v = .slice a L.length c)∧(∀ r∈L,r.Wf) ∧ ∀ j,j<L.length → ∃ b o,idxS 39 v (i64n j)=some (ptr b o)∧b<h.next ∧ ∀ g:Heap,g.get b=h.get b→ldN 39 (ptr b o) g=some (.agg (recC (L.getD j RecD.z)).toArray,g)
def gR (v:Value):Prop := ∃ a n c,v = .slice a n c∧n≤c∧(0<n → ∀ b o s,a=some ⟨b,o,some s⟩→s=39)
theorem RSl.mono {h h':Heap} {v:Value} {L:List RecD} (x:RSl h v L) (o:Old h h'):RSl h' v L:=by
 refine ⟨x.1,x.2.1,fun j hj => ?_⟩
 obtain ⟨b,q,h1,h2,h3⟩:=x.2.2 j hj
 have hb:h'.get b=h.get b:=Kept.get o b h2 (fun h=>h)
 exact ⟨b,q,h1,Nat.lt_of_lt_of_le h2 o.next,fun g e=>h3 g (e.trans hb)⟩
theorem RSl.len {h:Heap} {v:Value} {L:List RecD} (x:RSl h v L):lenL v=some (i64n L.length):=by
 obtain ⟨⟨a,c,rfl⟩,_,_⟩:=x
 rfl
theorem RSl.at {h:Heap} {v:Value} {L:List RecD} (x:RSl h v L) {j:Nat} (hj:j<L.length) : ∃ b o,idxS 39 v (i64n j)=some (ptr b o)∧(L.getD j RecD.z).Wf∧L.getD j RecD.z∈L ∧ ∀ g:Heap,Old h g→ldN 39 (ptr b o) g=some (.agg (recC (L.getD j RecD.z)).toArray,g):=by
 obtain ⟨b,q,h1,h2,h3⟩:=x.2.2 j hj
 have hm:L.getD j RecD.z∈L:=by
  rw [List.getD_eq_getElem?_getD,List.getElem?_eq_getElem hj]
  exact List.getElem_mem hj
 exact ⟨b,q,h1,x.2.1 _ hm,hm,fun g og=>h3 g (Kept.get og b h2 (fun h=>h))⟩
theorem bnd_hi {n c k:Nat} (h:k≤n) (hc:n≤c):boundsA n c none (some (i64n k)) none=some (0,k,c):=by
 have a1:boundA c c none=some c:=rfl
 have a2:boundA n c (some (i64n k))=some k:=by
  unfold boundA i64n
  simp only
  rw [if_pos (by omega)]
  rfl
 unfold boundsA
 rw [a1]
 simp only [a2]
 rfl
def recsC (P:List RecD):List Value:=P.flatMap recC
theorem recsC_len : ∀ {P:List RecD},(∀ p∈P,RecD.Wf p)→(recsC P).length=P.length*39
 | [],_=>rfl
 |p::P,h=>by
  have ih:=recsC_len (P:=P) fun q hq=>h q (List.mem_cons_of_mem _ hq)
  have hp:=(rec_cells (h p List.mem_cons_self)).1
  unfold recsC at ih ⊢
  rw [List.flatMap_cons,List.length_append,ih,hp,List.length_cons]
  omega
theorem recsC_get : ∀ {P:List RecD},(∀ p∈P,RecD.Wf p) → ∀ {j:Nat},j<P.length→((recsC P).drop (j*39)).take 39=recC (P.getD j RecD.z)
 | [],_,j,hj=>absurd hj (Nat.not_lt_zero j)
 |p::P,h,j,hj=>by
  have hp:=(rec_cells (h p List.mem_cons_self)).1
  cases j with
  |zero=>
   unfold recsC
   rw [List.flatMap_cons,Nat.zero_mul,List.drop_zero,←hp,List.take_left]
   rfl
  |succ j=>
   have ih:=recsC_get (P:=P) (fun q hq=>h q (List.mem_cons_of_mem _ hq)) (j:=j) (by rw [List.length_cons] at hj;omega)
   unfold recsC at ih ⊢
   rw [List.flatMap_cons,show (j+1)*39=39+j*39 by omega,←List.drop_drop,List.drop_left' hp,List.getD_cons_succ,ih]
theorem recsC_ok : ∀ {P:List RecD},(∀ p∈P,RecD.Wf p)→Abs.noHoles (recsC P)=true∧oneCells (recsC P)=true
 | [],_=>⟨rfl,rfl⟩
 |p::P,h=>by
  have ih:=recsC_ok (P:=P) fun q hq=>h q (List.mem_cons_of_mem _ hq)
  have hp:=rec_cells (h p List.mem_cons_self)
  unfold recsC at ih ⊢
  unfold Abs.noHoles oneCells at *
  rw [List.flatMap_cons,List.all_append,List.all_append,ih.1,ih.2,hp.2.1,hp.2.2]
  exact ⟨rfl,rfl⟩
def RcS (h:Heap) (v:Value) (P:List RecD):Prop:=(∀ p∈P,RecD.Wf p)∧SlN h recK v P.length (recsC P)
theorem RcS.rsl {h:Heap} {v:Value} {P:List RecD} (x:RcS h v P):RSl h v P:=by
 obtain ⟨hd,a,c,rfl,_,_,h0⟩:=x
 refine ⟨⟨_,_,rfl⟩,hd,fun j hj => ?_⟩
 obtain ⟨b,off,s,k,rfl,hk,hlen,hcs⟩:=h0 (by omega)
 rw [show recK.length=39 from rfl] at hlen hcs
 have hm:=mul_le (z:=39) hj
 have e:(k.drop (off+j*39)).take 39=recC (P.getD j RecD.z):=by
  rw [←recsC_get hd hj,←hcs]
  rw [List.drop_take,List.take_take,List.drop_drop,Nat.min_eq_left (by omega)]
 refine ⟨b,off+j*39,?_,h.lt_of_get hk,fun g hg => ?_⟩
 ·unfold idxS i64n
  simp only
  rw [if_pos (by omega),Int.toNat_natCast]
 ·have dp:RecD.Wf (P.getD j RecD.z):=hd _ (by
   rw [List.getD_eq_getElem?_getD,List.getElem?_eq_getElem hj]
   exact List.getElem_mem hj)
  have:=ldN_at (o:=off+j*39) (n:=39) (hg.trans hk) (by omega) (by rw [e];exact (rec_cells dp).2.1)
  rw [e] at this
  exact this
theorem RcS.mono {h h':Heap} {v:Value} {P:List RecD} (x:RcS h v P) (o:Old h h'):RcS h' v P:=by
 obtain ⟨hd,a,c,rfl,hn,ht,h0⟩:=x
 refine ⟨hd,a,c,rfl,hn,ht,fun hp => ?_⟩
 obtain ⟨b,off,s,k,rfl,hk,hlen,hcs⟩:=h0 hp
 exact ⟨b,off,s,k,rfl,Old.get o hk,hlen,hcs⟩
theorem app_recs {g:Heap} {v:Value} {P:List RecD} (x:RcS g v P) (hl:P.length≤1000000) :
  ∃ v' g',appendA 39 88 (.slice (some ⟨g.next,0,none⟩) 0 0) v (g.alloc [])=some (v',g')∧Old g g'∧RSl g' v' P∧gR v':=by
 have o1:Old g (g.alloc []):=Kept.alloc _ _ _
 obtain ⟨hd,a,c,rfl,hn,ht,h0⟩:=x
 by_cases hz:P.length=0
 ·have hP:P = []:=List.length_eq_zero_iff.1 hz
  subst hP
  refine ⟨.slice (some ⟨g.next,0,none⟩) 0 0,g.alloc [],?_,o1,⟨⟨_,_,rfl⟩,hd,fun j hj=>absurd hj (Nat.not_lt_zero j)⟩,⟨_,_,_,rfl,Nat.le_refl _,fun h=>absurd h (Nat.lt_irrefl 0)⟩⟩
  cases a with
  |none=>rfl
  |some a=>obtain ⟨b,off,s⟩:=a;rfl
 ·obtain ⟨b,off,s,k,rfl,hk,hlen,hcs⟩:=h0 (by omega)
  rw [show recK.length=39 from rfl] at hlen hcs
  have hl':=recsC_len hd
  have hk1:(g.alloc []).get b=some k:=Old.get o1 hk
  have hf:firstA 39 P.length (.slice (some ⟨b,off,s⟩) P.length c) (g.alloc [])=some (recsC P):=by
   unfold firstA
   simp only
   rw [if_neg (by omega),hk1]
   simp only
   rw [hcs,if_pos ⟨hlen,(recsC_ok hd).1⟩]
  have o2:Old (g.alloc []) ((g.alloc []).alloc (recsC P)):=Kept.alloc _ _ _
  have D2:RcS ((g.alloc []).alloc (recsC P)) (.slice (some ⟨(g.alloc []).next,0,some 39⟩) P.length P.length) P:=by
   refine ⟨hd,_,_,rfl,fun h=>(by cases h),ht,fun _=>⟨_,_,_,recsC P,rfl,by rw [Heap.get_alloc,if_pos rfl],?_,?_⟩⟩
   ·rw [show recK.length=39 from rfl,hl',Nat.zero_add]
    exact Nat.le_refl _
   ·rw [show recK.length=39 from rfl,List.drop_zero,←hl',List.take_length]
  refine ⟨.slice (some ⟨(g.alloc []).next,0,some 39⟩) P.length P.length,(g.alloc []).alloc (recsC P),?_,o1.trans o2,D2.rsl,⟨_,_,_,rfl,Nat.le_refl _,fun _ b o s e=>by cases e;rfl⟩⟩
  have hf0:firstA 39 0 (.slice (some ⟨g.next,0,none⟩) 0 0) (g.alloc [])=some []:=rfl
  unfold appendA
  simp only [lenA,hf,hf0]
  rw [if_neg (by
   simp only [(recsC_ok hd).2,hl',Bool.not_true,Bool.false_or,Bool.or_eq_true,Bool.not_eq_true',decide_eq_false_iff_not,decide_eq_true_eq,Nat.zero_add]
   omega),if_neg (by omega)]
  simp only [List.nil_append,Nat.zero_add,List.length_nil,Nat.zero_mul]
  rw [if_neg (by simp)]
theorem is26:IsFn Tryd.prog 26 Tryd.f26:=⟨by kernel_rfl,by kernel_rfl,by kernel_rfl,by kernel_rfl⟩
theorem is60:IsFn Tryd.prog 60 Tryd.f60:=⟨by kernel_rfl,by kernel_rfl,by kernel_rfl,by kernel_rfl⟩
theorem is113:IsFn Tryd.prog 113 Tryd.f113:=⟨by kernel_rfl,by kernel_rfl,by kernel_rfl,by kernel_rfl⟩
theorem results113:Tryd.f113.results.toList = [.tmp 4]:=by kernel_rfl
set_option maxRecDepth 100000 in
theorem r113 {h:Heap} (hG:4≤h.n0) {v fv:Value} {L:List RecD} (hv:RSl h v L) (hl:L.length≤1000000) (p:RecD→Bool) (hp : ∀ r∈L,r.Wf → ∀ g,Old h g → ∃ g',callA Tryd.prog CW fv [.agg (recC r).toArray] g=some (.bool (p r),g')∧Old g g') :
  ∃ (k:Int) (h':Heap),CW 113 [v,fv] h=some (.int .i64 k,h')∧Old h h'∧decide (k≥0)=L.any p:=by
 have hll:=hv.len
 have key : ∃ o:Out,t113 CW v fv h=o ∧ ∃ (k:Int) (h':Heap),o=some (.int .i64 k,h')∧Old h h'∧decide (k≥0)=L.any p:=by
  refine ⟨_,rfl,?_⟩
  unfold t113
  simp -implicitDefEqProofs only [hll,thenV_some,pu_some]
  refine endL_fin (n:=19) (fin:=fun ex y g=>Old h g∧((ex = .exit 0∧L.any p=false)∨(ex = .ret∧L.any p=true ∧ ∃ i:Nat,y 4=i64n i))) (Q:=fun o:Out => ∃ (k:Int) (h':Heap),o=some (.int .i64 k,h')∧Old h h'∧decide (k≥0)=L.any p)
   (loop_fin (t113l113_1010_eq CW) (Inv:=fun k y g => ∃ i,i+k=L.length∧y 0=v∧y 1=fv∧y 7=i64n L.length∧y 8=i64n i∧Old h g∧L.any p=(L.drop i).any p) ?_ L.length (by have:rounds=18446744073709551616:=rfl;omega) ⟨0,by omega,rfl,rfl,rfl,rfl,Kept.refl _ _,by rw [List.drop_zero]⟩) ?_
  ·rintro k y g ⟨i,hik,y0,y1,y7,y8,O,ha⟩
   unfold t113l113_1010
   simp -implicitDefEqProofs only [y7,y8,lss3,thenV_some,pu_some]
   by_cases hi:i<L.length
   ·obtain ⟨b,o,ix,wr,mr,lp⟩:=hv.at hi
    have hd:L.drop i=L.getD i RecD.z::L.drop (i+1):=by
     rw [List.drop_eq_getElem_cons hi,List.getD_eq_getElem?_getD,List.getElem?_eq_getElem hi]
     rfl
    rw [hd,List.any_cons] at ha
    generalize L.getD i RecD.z=r at *
    have L1:=lp g O
    obtain ⟨g',e',o'⟩:=hp r mr wr g O
    cases hpr:p r with
    |true=>
     rw [hpr] at e'
     rw [hpr,Bool.true_or] at ha
     simp -implicitDefEqProofs only [decide_eq_true hi,y0,y1,ix,L1,e',thenV_some,pu_some]
     exact Rnd.ret ⟨O.trans o',.inr ⟨rfl,ha,i,rfl⟩⟩
    |false=>
     rw [hpr] at e'
     rw [hpr,Bool.false_or] at ha
     have a8:bin Tryd.prog .add 3 (i64n i) (.int .i64 1)=some (i64n (i+1)):=add31 (by omega)
     simp -implicitDefEqProofs only [decide_eq_true hi, y0, y1, ix, L1, e', a8, thenV_some, pu_some]
     exact Rnd.next (k-1) (by omega) ⟨i+1,by omega,y0,y1,y7,rfl,O.trans o',ha⟩
   ·have hiE:i=L.length:=by omega
    rw [hiE,List.drop_length] at ha
    simp -implicitDefEqProofs only [decide_eq_false hi]
    exact Rnd.out 0 ⟨O,.inl ⟨rfl,ha⟩⟩
  ·rintro ex z g ⟨O,⟨rfl,ha⟩|⟨rfl,ha,i,z4⟩⟩
   ·simp -implicitDefEqProofs only [endL_exit,b113_3,if_true,t113k113_1_eq]
    unfold t113k113_1
    exact ⟨-1,g,rfl,O,by rw [ha];rfl⟩
   ·rw [endL_ret,res_one results113 (by decide),z4]
    refine ⟨i,g,rfl,O,?_⟩
    rw [ha,decide_eq_true (by omega)]
 obtain ⟨o9,e,k,h',e',q⟩:=key
 exact ⟨k,h',CW_body is113 hG rfl ((t113_eq _ _ _ _).trans (e.trans e')),q⟩
theorem r60 {h:Heap} (hG:4≤h.n0) {v fv:Value} {L:List RecD} (hv:RSl h v L) (hl:L.length≤1000000) (p:RecD→Bool) (hp : ∀ r∈L,r.Wf → ∀ g,Old h g → ∃ g',callA Tryd.prog CW fv [.agg (recC r).toArray] g=some (.bool (p r),g')∧Old g g') :
  ∃ h',CW 60 [v,fv] h=some (.bool (L.any p),h')∧Old h h':=by
 obtain ⟨k,h',e,o,q⟩:=r113 hG hv hl p hp
 have ge:bin Tryd.prog .geq 3 (.int .i64 k) (.int .i64 0)=some (.bool (L.any p)):=by rw [bin_geq,q]
 refine ⟨h',CW_body is60 hG rfl ((t60_eq _ _ _ _).trans ?_),o⟩
 unfold t60
 simp -implicitDefEqProofs only [e,ge,thenV_some,pu_some]
theorem fs_124:Nat.ble 125 Tryd.prog.funcs.size=true:=by kernel_rfl
def invB (L:List RecD):Bool:=L.any fun r => !(recB r)
theorem invB_false {L:List RecD} (h:invB L=false) : ∀ r∈L,recB r=true:=by
 intro r hr
 unfold invB at h
 rw [List.any_eq_false] at h
 have:=h r hr
 simpa using this
section
open Go.ChangeShapes Go.WideShapes Go.ChangeAt Go.RowKit
variable {H:Type} {enc:TypeId×Value→H} {W:World} {base:Nat} {held:Bool}
theorem gs_of {t e:TypeId} {z:Nat} (ht:Tryd.prog.underlying t=some (.slice e)) (he:Tryd.prog.cellsOf e=z) (hz:0<z) {fuel:Nat} {v:Value} {x:DataW H×List MemPlace} (h:DataW.trod enc Tryd.prog W base (fun _=>true) held fuel t [v]=some x) :
  ∃ a n c,clean W.heap.size v = .slice a n c∧n≤c∧(0<n → ∀ b o s,a=some ⟨b,o,some s⟩→False):=by
 rcases DataW.trod_slice ht h with ⟨h1,_⟩|⟨a,len,cap,elems,rest,n,_,h1,_,_,hlc,hcm,hl,hel,hsp,_⟩
 ·cases h1
  exact ⟨none,0,0,rfl,Nat.le_refl _,fun h=>absurd h (Nat.lt_irrefl 0)⟩
 ·cases h1
  rw [he] at hel hsp
  have hpos:0<cap→a.spot=none∧a.block<W.heap.size:=by
   intro h0
   have key : ∃ cs,W.cells? base (a.add (0*z)) z=some cs:=by
    by_cases hlen:0<len
    ·have:=hel 0 hlen
     rw [List.getElem?_eq_getElem (by omega),Option.bind_eq_some_iff] at this
     obtain ⟨cs,hc,_⟩:=this
     exact ⟨cs,hc⟩
    ·have:=(hsp rfl).2 0 (by omega)
     rw [List.getElem?_eq_getElem (by rw [(hsp rfl).1];omega),Option.bind_eq_some_iff] at this
     obtain ⟨cs,hc,_⟩:=this
     obtain rfl:len=0:=by omega
     exact ⟨cs,hc⟩
   obtain ⟨cs,hc⟩:=key
   obtain ⟨_,hlen,hcell⟩:=World.cells?_some hc
   have g:=hcell 0 hz
   obtain ⟨c0,hc0⟩ : ∃ c0,cs[0]? = some c0:=⟨cs[0],List.getElem?_eq_getElem (by omega)⟩
   rw [hc0,Nat.zero_mul] at g
   have g:W.cell? a=some c0:=g
   obtain ⟨e1,e2,_⟩:=view_cell g
   exact ⟨e1,e2⟩
  obtain ⟨g1,a',g2,g3⟩:=clean_slice (W:=W) hlc hpos
  refine ⟨_,_,_,g2,hlc,fun h0 b o s e => ?_⟩
  have:=g3 (by omega)
  subst this
  have hs:=(hpos (by omega)).1
  rw [Option.some.inj e] at hs
  cases hs
theorem sl22 {fuel:Nat} {v:Value} {x:DataW H×List MemPlace} (h:DataW.trod enc Tryd.prog W base (fun _=>true) held fuel 22 [v]=some x) :
  isHole (clean W.heap.size v)=false∧Value.oneCell' (clean W.heap.size v)=true∧gR (clean W.heap.size v) ∧ ∃ L,RcS (topHeap W (view W)) (clean W.heap.size v) L:=by
 obtain ⟨h1,n,cs,S⟩:=sl_of Tryd.underlying22 (ks:=recK) (by kernel_rfl) (by decide) rd58 h
 obtain ⟨a,m,c,e,h2,h3⟩:=gs_of Tryd.underlying22 (z:=39) (by kernel_rfl) (by decide) h
 obtain ⟨P,hP,hcs,hd⟩:=list_of (f:=recC) (P:=RecD.Wf) (fun xs hx=>rec_of hx) n cs S.typed
 subst hP
 subst hcs
 refine ⟨h1,by rw [e];rfl,⟨a,m,c,e,h2,fun h0 b o s q=>(h3 h0 b o s q).elim⟩,P,hd,S⟩
end
end Go.Proofs.YtdnahgfgoajmcaaDoor

namespace Go.Proofs.YtdnahgfgoajmcaaDoor
open Go Go.Abs
attribute [local congr] thenV_congr
def rkL (r:RecD):List Int := [(r.inc:Int),(r.num:Int),((bit r.held:Nat):Int),IntKind.wrap .u64 r.k,IntKind.wrap .u64 r.n]
def lexG:List Int→List Int→Bool
 |x::l,y::m=>if x=y then lexG l m else decide (x>y)
 |_,_=>false
theorem is99:IsFn Tryd.prog 99 Tryd.f99:=⟨by kernel_rfl,by kernel_rfl,by kernel_rfl,by kernel_rfl⟩
theorem is49:IsFn Tryd.prog 49 Tryd.f49:=⟨by kernel_rfl,by kernel_rfl,by kernel_rfl,by kernel_rfl⟩
theorem agg140:aggT Tryd.prog 140=some true:=by kernel_rfl
theorem siz140:sizeT Tryd.prog 140=some 5:=by kernel_rfl
theorem results99:Tryd.f99.results.toList = [.cell 2 140]:=by kernel_rfl
theorem results49:Tryd.f49.results.toList = [.tmp 4]:=by kernel_rfl
abbrev i64s (l:List Int):List Value:=l.map (.int .u64)
theorem u64s_ok (l:List Int):Abs.noHoles (i64s l)=true∧oneCells (i64s l)=true:=by
 induction l with
 |nil=>exact ⟨rfl,rfl⟩
 |cons x l ih=>exact ⟨ih.1,ih.2⟩
theorem bld_rank (a b c d e:Int):bldR (List.replicate 5 (.int .u64 0)) [(0,1,.int .u64 a),(1,1,.int .u64 b),(2,1,.int .u64 c),(3,1,.int .u64 d),(4,1,.int .u64 e)]=some (.agg (i64s [a,b,c,d,e]).toArray):=rfl
set_option maxRecDepth 100000 in
theorem r99 {h:Heap} (hG:4≤h.n0) {r:RecD} (w:r.Wf) : ∃ h',CW 99 [.agg (recC r).toArray] h=some (.agg (i64s (rkL r)).toArray,h')∧Old h h':=by
 obtain ⟨h1,b1,o1,g1,n1⟩:=rec_box2 h w
 obtain ⟨h2,z2,o2,g2,n2⟩:=fresh (List.replicate 5 (.int .u64 0)) h1
 have A:=r_ld w (o2.get g1)
 have G2:4≤h2.n0:=by rw [o2.n0,o1.n0];exact hG
 have u:=u64s_ok (rkL r)
 obtain ⟨h3,e3,k3,g3,_,_⟩:=stored_all (n:=5) (k':=i64s (rkL r)) g2 (by rw [o2.n0];exact h1.n0_le_next) rfl rfl u.2
 have o3:Old h1 h3:=Old.of_new o2 k3 (Nat.le_refl _)
 have l3:=ldN_all (n:=5) g3 rfl u.1
 have bl:=bld_rank (r.inc:Int) (r.num:Int) ((bit r.held:Nat):Int) (IntKind.wrap .u64 r.k) (IntKind.wrap .u64 r.n)
 have e3:stN 5 (ptr h1.next 0) (.agg (i64s [(r.inc:Int),(r.num:Int),((bit r.held:Nat):Int),IntKind.wrap .u64 r.k,IntKind.wrap .u64 r.n]).toArray) h2=some (undef,h3):=e3
 refine ⟨h3,CW_body is99 hG rfl ((t99_eq _ _ _).trans ?_),o1.trans o3⟩
 unfold t99
 simp -implicitDefEqProofs only [b1, z2, addP_ptr, Nat.zero_add, A.l34, A.l35, A.l36, A.l37, A.l38, r97 G2, cvI_int, bl, e3, chkI, Bool.and_self, thenV_some, pu_some]
 exact res_cell results99 agg140 siz140 (show 2<17 by decide) _ l3
theorem idx5 {b i:Nat} (hi:i<5):idxA 5 1 (ptr b 0) (i64n i)=some (ptr b i):=by
 unfold idxA
 simp only []
 rw [if_pos (by omega),Int.toNat_natCast,Nat.mul_one,addP_ptr,Nat.zero_add]
def newerR (a b:RecD):Bool:=recB a&&(recB b&&(decide (keyB a=keyB b)&&lexG (rkL a) (rkL b)))
set_option maxRecDepth 100000 in
theorem r49 {h:Heap} (hG:4≤h.n0) (hz:GZ h) {a b:RecD} (wa:a.Wf) (wb:b.Wf) : ∃ h',CW 49 [.agg (recC a).toArray,.agg (recC b).toArray] h=some (.bool (newerR a b),h')∧Old h h':=by
 obtain ⟨h1,b1,o1,g1,n1⟩:=rec_box2 h wa
 obtain ⟨h2,b2,o2,g2,n2⟩:=rec_box2 h1 wb
 have ca:=rec_cells wa
 have cb:=rec_cells wb
 have LA : ∀ g,Old h2 g→ldN 39 (ptr h.next 0) g=some (.agg (recC a).toArray,g):=fun g o=>ldN_all (Old.get o (o2.get g1)) ca.1 ca.2.1
 have LB : ∀ g,Old h2 g→ldN 39 (ptr h1.next 0) g=some (.agg (recC b).toArray,g):=fun g o=>ldN_all (Old.get o g2) cb.1 cb.2.1
 have O2:=o1.trans o2
 have G2 : ∀ g,Old h2 g→4≤g.n0:=fun g o=>by rw [o.n0,O2.n0];exact hG
 have Z2 : ∀ g,Old h2 g→GZ g:=fun g o=>hz.old (O2.trans o)
 have R2:Old h2 h2:=Kept.refl _ _
 have chkA : ∀ (r:RecD) (g:Heap),r.Wf→chkR true (some (.agg (recC r).toArray,g)) (.agg (recC r).toArray)=true:=fun r g w=>chk_agg _ _ (rec_typed w).kinds
 obtain ⟨h3,e3,o3⟩:=r48 (h:=h2) (G2 _ R2) (Z2 _ R2) wa
 unfold newerR
 cases va:recB a with
 |false=>
  rw [va] at e3
  refine ⟨h3,CW_body is49 hG rfl ((t49_eq _ _ _ _).trans ?_),O2.trans o3⟩
  unfold t49
  simp -implicitDefEqProofs only [b1, b2, LA h2 R2, e3, unA_not, bOf_bool, guardK_false, chkF, if_true, Bool.not_false, Bool.and_true, Bool.false_and, thenV_some, pu_some, show (some true==some false)=false from rfl]
 |true=>
  rw [va] at e3
  obtain ⟨h4,e4,o4⟩:=r48 (h:=h3) (G2 _ o3) (Z2 _ o3) wb
  have O4:=o3.trans o4
  cases vb:recB b with
  |false=>
   rw [vb] at e4
   refine ⟨h4,CW_body is49 hG rfl ((t49_eq _ _ _ _).trans ?_),O2.trans O4⟩
   unfold t49
   simp -implicitDefEqProofs only [b1, b2, LA h2 R2, e3, LB h3 o3, e4, unA_not, bOf_bool, beq_self_eq_true, guardK_true, guardK_false, chkF, Bool.false_eq_true, if_false, if_true, Bool.not_true, Bool.not_false, Bool.and_true, Bool.false_and, Bool.true_and, thenV_some, pu_some, show (some true==some false)=false from rfl]
  |true=>
   rw [vb] at e4
   obtain ⟨h5,e5,o5⟩:=r59 (h:=h4) (G2 _ O4) wa
   have O5:=O4.trans o5
   obtain ⟨h6,e6,o6⟩:=r59 (h:=h5) (G2 _ O5) wb
   have O6:=O5.trans o6
   have q6:=(str_dec (keyB_bys wa) (keyB_bys wb)).2
   by_cases vc:keyB a=keyB b
   ·rw [decide_eq_true vc] at q6 ⊢
    obtain ⟨h7,e7,o7⟩:=r99 (h:=h6) (G2 _ O6) wa
    have O7:=O6.trans o7
    obtain ⟨h8,e8,o8⟩:=r99 (h:=h7) (G2 _ O7) wb
    have O8:=O7.trans o8
    obtain ⟨h9,z9,o9,g9,n9⟩:=fresh (List.replicate 5 (.int .u64 0)) h8
    obtain ⟨h10,z10,o10,g10,n10⟩:=fresh (List.replicate 5 (.int .u64 0)) h9
    have p9:h9.n0≤h8.next:=by rw [o9.n0];exact h8.n0_le_next
    have p10:h10.n0≤h9.next:=by rw [o10.n0];exact h9.n0_le_next
    have ua:=u64s_ok (rkL a)
    have ub:=u64s_ok (rkL b)
    obtain ⟨h11,e11,k11,g11,_,m11⟩:=stored_all (n:=5) (k':=i64s (rkL a)) (o10.get g9) (by rw [o10.n0];exact p9) rfl rfl ua.2
    have g10':h11.get h9.next=some (List.replicate 5 (.int .u64 0)):=Kept.getE k11 g10 (by omega)
    obtain ⟨h12,e12,k12,g12,_,m12⟩:=stored_all (n:=5) (k':=i64s (rkL b)) g10' (by rw [k11.n0];exact p10) rfl rfl ub.2
    have g11':h12.get h8.next=some (i64s (rkL a)):=Kept.getE k12 g11 (by omega)
    have O9:Old h8 h11:=Old.of_new (o9.trans o10) k11 (Nat.le_refl _)
    have O12:Old h8 h12:=Old.of_new O9 k12 (by omega)
    refine ⟨h12,CW_body is49 hG rfl ((t49_eq _ _ _ _).trans ?_),(O2.trans O8).trans O12⟩
    unfold t49
    simp -implicitDefEqProofs only [b1, b2, LA h2 R2, e3, LB h3 o3, e4, LA h4 O4, e5, LB h4 O4, LB h5 O5, e6, q6, LA h6 O6, e7, LB h6 O6, LB h7 O7, e8, z9, z10, e11, e12, chkA b _ wb, unA_not, bOf_bool, beq_self_eq_true, guardK_true, Bool.false_eq_true, if_false, Bool.not_true, Bool.and_true, Bool.true_and, thenV_some, pu_some]
    refine endL_fin (n:=45) (fin:=fun ex y g=>g=h12∧((ex = .ret∧y 4 = .bool (lexG (rkL a) (rkL b)))∨(ex = .exit 0∧lexG (rkL a) (rkL b)=false))) (Q:=fun o:Out=>o=some (Value.bool (lexG (rkL a) (rkL b)),h12))
     (loop_fin (t49l49_111010_eq CW) (Inv:=fun k y g => ∃ i,i+k=5∧y 5=ptr h8.next 0∧y 6=ptr h9.next 0∧y 7=i64n i∧g=h12∧lexG (rkL a) (rkL b)=lexG ((rkL a).drop i) ((rkL b).drop i)) ?_ 5 (by have:rounds=18446744073709551616:=rfl;omega) ⟨0,Nat.zero_add _,rfl,rfl,rfl,rfl,rfl⟩) ?_
    ·rintro k y g' ⟨i,hik,y5,y6,y7,rfl,ho⟩
     unfold t49l49_111010
     have lss5:bin Tryd.prog .lss 3 (i64n i) (.int .i64 5)=some (.bool (decide (i<5))):=lss3 i 5
     simp -implicitDefEqProofs only [y5,y6,y7,lss5,thenV_some,pu_some]
     by_cases hi:i<5
     ·have hla:(rkL a).length=5:=rfl
      have hlb:(rkL b).length=5:=rfl
      have ea:(rkL a)[i]? = some (rkL a)[i]:=List.getElem?_eq_getElem (by omega)
      have eb:(rkL b)[i]? = some (rkL b)[i]:=List.getElem?_eq_getElem (by omega)
      have da:ld1 (ptr h8.next i) g'=some (.int .u64 (rkL a)[i],g'):=ld1_at g11' (by rw [List.getElem?_map,ea];rfl) rfl
      have db:ld1 (ptr h9.next i) g'=some (.int .u64 (rkL b)[i],g'):=ld1_at g12 (by rw [List.getElem?_map,eb];rfl) rfl
      have dra:(rkL a).drop i=(rkL a)[i]::(rkL a).drop (i+1):=List.drop_eq_getElem_cons (by omega)
      have drb:(rkL b).drop i=(rkL b)[i]::(rkL b).drop (i+1):=List.drop_eq_getElem_cons (by omega)
      by_cases he:(rkL a)[i]=(rkL b)[i]
      ·have hb:((rkL a)[i] != (rkL b)[i])=false:=by rw [he];simp
       simp -implicitDefEqProofs only [decide_eq_true hi, idx5 hi, da, db, bin_neq, hb, add31 (show i+1≤9223372036854775807 by omega), thenV_some, pu_some]
       refine Rnd.next (k-1) (by omega) ⟨i+1,by omega,y5,y6,rfl,rfl,?_⟩
       rw [ho,dra,drb,lexG,if_pos he]
      ·have hb:((rkL a)[i] != (rkL b)[i])=true:=by simpa using he
       simp -implicitDefEqProofs only [decide_eq_true hi,idx5 hi,da,db,bin_neq,bin_gtr,hb,thenV_some,pu_some]
       refine Rnd.ret ⟨rfl,.inl ⟨rfl,?_⟩⟩
       rw [ho,dra,drb,lexG,if_neg he]
       rfl
     ·simp -implicitDefEqProofs only [decide_eq_false hi]
      refine Rnd.out 0 ⟨rfl,.inr ⟨rfl,?_⟩⟩
      rw [ho,List.drop_eq_nil_of_le (by show 5≤i;omega)]
      rfl
    ·rintro ex z g' ⟨rfl,⟨rfl,z2⟩|⟨rfl,hz⟩⟩
     ·rw [endL_ret,res_one results49 (by decide),z2]
     ·simp -implicitDefEqProofs only [endL_exit,b49_9,if_true,t49k49_7_eq]
      unfold t49k49_7
      rw [hz]
      rfl
   ·rw [decide_eq_false vc] at q6 ⊢
    refine ⟨h6,CW_body is49 hG rfl ((t49_eq _ _ _ _).trans ?_),O2.trans O6⟩
    unfold t49
    simp -implicitDefEqProofs only [b1, b2, LA h2 R2, e3, LB h3 o3, e4, LA h4 O4, e5, LB h4 O4, LB h5 O5, e6, q6, chkA b _ wb, unA_not, bOf_bool, beq_self_eq_true, guardK_true, Bool.false_eq_true, if_false, Bool.not_true, Bool.not_false, Bool.and_true, Bool.false_and, Bool.true_and, thenV_some, pu_some]
end Go.Proofs.YtdnahgfgoajmcaaDoor

namespace Go.Proofs.YtdnahgfgoajmcaaDoor
open Go Go.Abs
theorem lex_or : ∀ (xs ys:List Int),xs.length=ys.length→decide (orL (List.zipWith cmpI xs ys)>0)=lexG xs ys
 | [],[],_=>rfl
 |x::xs,y::ys,h=>by
  have ih:=lex_or xs ys (by simpa using h)
  rw [List.zipWith_cons_cons,orL,lexG]
  by_cases e:x=y
  ·subst e
   rw [if_pos rfl,if_pos (by unfold cmpI;simp),ih]
  ·have hc:cmpI x y≠0:=by
    unfold cmpI
    split
    ·decide
    ·split
     ·decide
     ·omega
   rw [if_neg e,if_neg hc]
   congr 1
   unfold cmpI
   split
   ·simp;omega
   ·split
    ·simp;omega
    ·simp;omega
 | [],_::_,h=>by simp at h
 |_::_,[],h=>by simp at h
theorem newer_same {a b:RecD} (wa:a.Wf) (wb:b.Wf):newerB a b=newerR a b:=by
 unfold newerB newerR
 cases va:recB a with
 |false=>rfl
 |true=>
  cases vb:recB b with
  |false=>rfl
  |true=>
   obtain ⟨a1,a2,a3,a4,a5,a6⟩:=rec_small va
   obtain ⟨b1,b2,b3,b4,b5,b6⟩:=rec_small vb
   have hk:atB a b=decide (keyB a=keyB b):=by
    have ia:=i8_of a1 (by omega)
    have ib:=i8_of b1 (by omega)
    rw [Bool.eq_iff_iff,decide_eq_true_eq]
    unfold atB keyB
    simp only [Bool.and_eq_true,decide_eq_true_eq]
    constructor
    ·rintro ⟨h1,h2,h3⟩
     rw [h1,h2,h3]
    ·intro h
     obtain ⟨h1,h2⟩:=List.append_inj h (by simp [wa.obj.1,wb.obj.1])
     obtain ⟨h3,h4⟩:=List.append_inj h1 rfl
     simp only [List.cons.injEq,and_true] at h2 h3
     exact ⟨h3,h4,by omega⟩
   have hr:decide (cmpR a b>0)=lexG (rkL a) (rkL b):=by
    rw [←lex_or (rkL a) (rkL b) rfl]
    have w1:IntKind.wrap .u64 a.k=a.k:=wrap_u64 (by omega) (by omega)
    have w2:IntKind.wrap .u64 a.n=a.n:=wrap_u64 (by omega) (by omega)
    have w3:IntKind.wrap .u64 b.k=b.k:=wrap_u64 (by omega) (by omega)
    have w4:IntKind.wrap .u64 b.n=b.n:=wrap_u64 (by omega) (by omega)
    have hb:(if a.held=b.held then (0:Int) else if a.held then 1 else -1)=cmpI ((bit a.held:Nat):Int) ((bit b.held:Nat):Int):=by
     cases a.held<;>cases b.held<;>rfl
    unfold cmpR rkL
    rw [hb,w1,w2,w3,w4]
    rfl
   rw [hk,hr]
end Go.Proofs.YtdnahgfgoajmcaaDoor

