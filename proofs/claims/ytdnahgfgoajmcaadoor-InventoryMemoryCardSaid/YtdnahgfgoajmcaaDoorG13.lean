/-
  A part of the proof, spaces and names shortened by a program (a claim may hold 1,500,000 bytes).
  Conditions: as each theorem states.
-/
import Derived.Test.YtdnahgfgoajmcaaDoorG12
import Derived.OpenShut
namespace Go.Proofs.YtdnahgfgoajmcaaDoor
open Go Go.Abs
open Go.ChangeShapes Go.WideShapes Go.ChangeAt Go.RowKit
def Pc (ks:List Kd) (o:Nat) (cs:List Value):Prop:=Typed ks ((cs.drop o).take ks.length)
theorem Pc.app {ks ls:List Kd} {o:Nat} {cs:List Value} (x:Pc ks o cs) (y:Pc ls (o+ks.length) cs):Pc (ks++ls) o cs:=by
 unfold Pc at *
 rw [List.length_append,List.take_add,List.drop_drop]
 exact x.app y
theorem Pc.whole {ks:List Kd} {cs:List Value} (x:Pc ks 0 cs) (h:cs.length=ks.length):Typed ks cs:=by
 unfold Pc at x
 rw [List.drop_zero,←h,List.take_length] at x
 exact x
theorem clean_nice {n:Nat} {v:Value} (h:nice n v=true):clean n v=v:=by unfold clean;rw [if_pos h]
theorem Kd.has.clean {k:Kd} {v:Value} (h:k.has v) (n:Nat):clean n v=v:=by
 cases k with
 |u8=>obtain ⟨m,rfl,_⟩:=h;rfl
 |i k=>obtain ⟨m,rfl,_⟩:=h;rfl
 |b=>obtain ⟨t,rfl⟩:=h;rfl
theorem u8_lit {n:Int} (h:(Lit.int .u8 n).wf=true) : ∃ m:Nat,n=m∧m<256:=by
 simp [Lit.wf,IntKind.min,IntKind.max,IntKind.signed,IntKind.bits] at h
 exact ⟨n.toNat,by omega,by omega⟩
theorem clean_slice {W:World} {a:Addr} {len cap:Nat} (hlc:len≤cap) (hc:0<cap→a.spot=none∧a.block<W.heap.size) :
  isHole (clean W.heap.size (.slice (some a) len cap))=false ∧ ∃ a' ,clean W.heap.size (.slice (some a) len cap) = .slice (some a') len cap∧(0<cap→a'=a):=by
 obtain ⟨b,off,s⟩:=a
 by_cases h0:0<cap
 ·obtain ⟨h1,h2⟩:=hc h0
  have h1':s=none:=h1
  have h2':b<W.heap.size:=h2
  subst h1'
  have hn:nice W.heap.size (.slice (some ⟨b,off,none⟩) len cap)=true:=by simpa [nice] using h2'
  rw [clean_nice hn]
  exact ⟨rfl,_,rfl,fun _=>rfl⟩
 ·obtain rfl:cap=0:=by omega
  obtain rfl:len=0:=by omega
  by_cases hn:nice W.heap.size (.slice (some ⟨b,off,s⟩) 0 0)=true
  ·rw [clean_nice hn]
   exact ⟨rfl,_,rfl,fun h=>absurd h h0⟩
  ·have:clean W.heap.size (.slice (some ⟨b,off,s⟩) 0 0) = .slice (some ⟨0,0,some 0⟩) 0 0:=by unfold clean;rw [if_neg hn];rfl
   rw [this]
   exact ⟨rfl,_,rfl,fun h=>absurd h h0⟩
theorem add_block (a:Addr) (n:Nat):(a.add n).block=a.block:=by unfold Addr.add;split<;>rfl
theorem add_off (a:Addr) (n:Nat):(a.add n).off=a.off+n:=by
 unfold Addr.add
 split
 ·rename_i h;rw [h];rfl
 ·rfl
section
variable {H:Type} {enc:TypeId×Value→H} {W:World} {base:Nat} {held:Bool}
def Reads (enc:TypeId×Value→H) (W:World) (base:Nat) (held:Bool) (t:TypeId) (ks:List Kd):Prop:=
 ∀ fuel cs x,DataW.trod enc Tryd.prog W base (fun _=>true) held fuel t cs=some x→Typed ks cs
theorem reads_u8 {t:TypeId} (ht:Tryd.prog.underlying t=some (.int .u8)):Reads enc W base held t [.u8]:=fun fuel cs x h=>by
 obtain ⟨n,rfl,_,w⟩:=DataW.trod_int ht h
 obtain ⟨m,rfl,hm⟩:=u8_lit w
 exact .one ⟨m,rfl,hm⟩
theorem reads_i {t:TypeId} {k:IntKind} (ht:Tryd.prog.underlying t=some (.int k)):Reads enc W base held t [.i k]:=fun fuel cs x h=>by
 obtain ⟨n,rfl,_,w⟩:=DataW.trod_int ht h
 exact .one ⟨n,rfl,w⟩
theorem reads_b {t:TypeId} (ht:Tryd.prog.underlying t=some .bool):Reads enc W base held t [.b]:=fun fuel cs x h=>by
 obtain ⟨n,rfl,_⟩:=DataW.trod_bool ht h
 exact .one ⟨n,rfl⟩
theorem reads_arr {t e:TypeId} {n:Nat} {k:Kd} (ht:Tryd.prog.underlying t=some (.array n e)) (h1:Tryd.prog.cellsOf e=1) (hn:Tryd.prog.cellsOf t=n) (R:Reads enc W base held e [k]):Reads enc W base held t (List.replicate n k):=fun fuel cs x h=>by
 obtain ⟨xs,m,rfl,_,hl,hx,hf⟩:=DataW.trod_array ht h
 rw [hn] at hl
 refine ⟨by rw [hl,List.length_replicate],fun j t' hj => ?_⟩
 have hj':j<n:=by
  have:=(List.getElem?_eq_some_iff.1 hj).1
  rwa [List.length_replicate] at this
 rw [List.getElem?_replicate,if_pos hj'] at hj
 cases hj
 have:=hf j hj'
 rw [List.getElem?_eq_getElem (by omega),h1,Nat.mul_one] at this
 obtain ⟨v,g1,g2⟩:=(R _ _ _ this).2 0 k rfl
 rw [List.getElem?_take,if_pos (by omega),List.getElem?_drop,Nat.add_zero] at g1
 exact ⟨v,g1,g2⟩
theorem fld {fuel:Nat} {t:TypeId} {cs:List Value} {x:DataW H×List MemPlace} {fs:Array Field} (ht:Tryd.prog.underlying t=some (.struct fs)) (h:DataW.trod enc Tryd.prog W base (fun _=>true) held fuel t cs=some x) {i z:Nat} {f:Field} (hf:fs[i]? = some f) (hz:Tryd.prog.cellsOf f.type=z) :
  ∃ m y,DataW.trod enc Tryd.prog W base (fun _=>true) held m f.type ((cs.drop f.offset).take z)=some y:=by
 obtain ⟨xs,n,rfl,_,_,hl,h2⟩:=DataW.trod_struct ht h
 have:=h2 i f hf
 rw [List.getElem?_eq_getElem (by rw [hl];exact (Array.getElem?_eq_some_iff.1 hf).1),hz] at this
 exact ⟨_,_,this⟩
theorem piece {fuel:Nat} {t:TypeId} {cs:List Value} {x:DataW H×List MemPlace} {fs:Array Field} (ht:Tryd.prog.underlying t=some (.struct fs)) (h:DataW.trod enc Tryd.prog W base (fun _=>true) held fuel t cs=some x) {i:Nat} {f:Field} {ks:List Kd} (hf:fs[i]? = some f) (hz:Tryd.prog.cellsOf f.type=ks.length)
  (R:Reads enc W base held f.type ks):Pc ks f.offset cs:=by
 obtain ⟨m,y,e⟩:=fld ht h hf hz
 exact R _ _ _ e
theorem sl_of {t e:TypeId} {ks:List Kd} (ht:Tryd.prog.underlying t=some (.slice e)) (he:Tryd.prog.cellsOf e=ks.length) (hz:0<ks.length) (R:Reads enc W base held e ks) {fuel:Nat} {v:Value} {x:DataW H×List MemPlace}
  (h:DataW.trod enc Tryd.prog W base (fun _=>true) held fuel t [v]=some x):isHole (clean W.heap.size v)=false ∧ ∃ n cs,SlN (cQ W (view W)) ks (clean W.heap.size v) n cs:=by
 have nilT:TypedN ks 0 []:=⟨by simp,fun i hi=>absurd hi (Nat.not_lt_zero i)⟩
 rcases DataW.trod_slice ht h with ⟨h1,_⟩|⟨a,len,cap,elems,rest,n,_,h1,_,_,hlc,hcm,hl,hel,hsp,_⟩
 ·cases h1
  exact ⟨rfl,0,[],none,0,rfl,fun _=>rfl,nilT,fun h=>absurd h (Nat.lt_irrefl 0)⟩
 ·cases h1
  rw [he] at hel hsp
  have hpos:0<cap→a.spot=none∧a.block<W.heap.size:=by
   intro h0
   have key : ∃ cs,W.cells? base (a.add (0*ks.length)) ks.length=some cs:=by
    by_cases hlen:0<len
    ·have:=hel 0 hlen
     rw [List.getElem?_eq_getElem (by omega),Option.bind_eq_some_iff] at this
     obtain ⟨cs,hc,_⟩:=this
     exact ⟨cs,hc⟩
    ·have:=(hsp rfl).2 0 (by omega)
     rw [List.getElem?_eq_getElem (by rw [(hsp rfl).1];omega),Option.bind_eq_some_iff] at this
     obtain ⟨cs,hc,_⟩:=this
     obtain rfl:len=0:=by omega
     exact ⟨cs,hc⟩
   obtain ⟨cs,hc⟩:=key
   obtain ⟨_,hlen,hcell⟩:=World.cells?_some hc
   have g:=hcell 0 hz
   obtain ⟨c0,hc0⟩ : ∃ c0,cs[0]? = some c0:=⟨cs[0],List.getElem?_eq_getElem (by omega)⟩
   rw [hc0,Nat.zero_mul] at g
   have g:W.cell? a=some c0:=g
   obtain ⟨e1,e2,_⟩:=view_cell g
   exact ⟨e1,e2⟩
  obtain ⟨g1,a',g2,g3⟩:=clean_slice (W:=W) hlc hpos
  refine ⟨g1,len,?_⟩
  by_cases h0:len=0
  ·subst h0
   exact ⟨[],_,_,g2,fun _=>rfl,nilT,fun h=>absurd h (Nat.lt_irrefl 0)⟩
  have ha:=g3 (by omega)
  subst ha
  have each : ∀ i,i<len → ∃ k es,view W a'.block=some k∧Typed ks es ∧ ∀ j,j<ks.length→k[a'.off+i*ks.length+j]? = es[j]? := by
   intro i hi
   have h2:=hel i hi
   rw [List.getElem?_eq_getElem (by omega),Option.bind_eq_some_iff] at h2
   obtain ⟨es,hc,ht⟩:=h2
   have ty:=R _ _ _ ht
   obtain ⟨_,hlen,hcell⟩:=World.cells?_some hc
   have vc : ∀ j,j<ks.length → ∃ k,view W a'.block=some k∧k[a'.off+i*ks.length+j]? = es[j]? := by
    intro j hj
    obtain ⟨u,h3,h4⟩:=ty.2 j _ (List.getElem?_eq_getElem hj)
    have g:=hcell j hj
    rw [h3] at g
    obtain ⟨_,_,k,hk,hc2⟩:=view_cell g
    rw [add_block,add_block] at hk
    rw [add_off,add_off,h4.clean] at hc2
    exact ⟨k,hk,by rw [hc2,h3]⟩
   obtain ⟨k,hk,_⟩:=vc 0 hz
   refine ⟨k,es,hk,ty,fun j hj => ?_⟩
   obtain ⟨k',hk',e⟩:=vc j hj
   rw [hk] at hk'
   cases hk'
   exact e
  obtain ⟨k,_,hk,_⟩:=each 0 (by omega)
  have each : ∀ i,i<len → ∃ es,Typed ks es ∧ ∀ j,j<ks.length→k[a'.off+i*ks.length+j]? = es[j]? := fun i hi=>by
   obtain ⟨k',es,hk',h1,h2⟩:=each i hi
   rw [hk] at hk'
   cases hk'
   exact ⟨es,h1,h2⟩
  have hlen:a'.off+len*ks.length≤k.length:=by
   obtain ⟨es,ty,e⟩:=each (len-1) (by omega)
   have:=e (ks.length-1) (by omega)
   obtain ⟨u,hu,_⟩:=ty.2 (ks.length-1) _ (List.getElem?_eq_getElem (by omega))
   rw [hu] at this
   have:=(List.getElem?_eq_some_iff.1 this).1
   have h9:len*ks.length=(len-1)*ks.length+ks.length:=by
    conv=>lhs;rw [show len=(len-1)+1 by omega,Nat.add_mul,Nat.one_mul]
   omega
  refine ⟨(k.drop a'.off).take (len*ks.length),_,_,g2,fun h=>(by cases h),⟨by rw [List.length_take,List.length_drop];omega,fun i hi => ?_⟩,fun _=>⟨a'.block,a'.off,a'.spot,k,rfl,by rw [view_get];exact hk,hlen,rfl⟩⟩
  obtain ⟨es,ty,e⟩:=each i hi
  have hm:=mul_le (z:=ks.length) hi
  have:(((k.drop a'.off).take (len*ks.length)).drop (i*ks.length)).take ks.length=es:=by
   refine List.ext_getElem? fun j => ?_
   rw [List.getElem?_take]
   by_cases hj:j<ks.length
   ·rw [if_pos hj,List.getElem?_drop,List.getElem?_take,if_pos (by omega),List.getElem?_drop,←e j hj,Nat.add_assoc]
   ·rw [if_neg hj,List.getElem?_eq_none (by rw [ty.1];omega)]
  rw [this]
  exact ty
end
end Go.Proofs.YtdnahgfgoajmcaaDoor

namespace Go.Proofs.YtdnahgfgoajmcaaDoor
open Go Go.Abs
theorem wf_u64 {n:Int} (h:(Lit.int .u64 n).wf=true) : ∃ m:Nat,n=m∧m<18446744073709551616:=by
 simp [Lit.wf,IntKind.min,IntKind.max,IntKind.signed,IntKind.bits] at h
 exact ⟨n.toNat,by omega,by omega⟩
theorem dig_of {xs:List Value} (h:Typed digK xs) : ∃ l,xs=aZ l∧fo l:=by
 have hl:xs.length=32:=h.1
 have key : ∀ n,n≤32 → ∃ l:List Nat,xs.take n=aZ l∧l.length=n∧Bys l:=by
  intro n
  induction n with
  |zero=>exact fun _=>⟨[],rfl,rfl,fun x hx=>by cases hx⟩
  |succ n ih=>
   intro hn
   obtain ⟨l,h1,h2,h3⟩:=ih (by omega)
   obtain ⟨m,h4,h5⟩:=dig_get h (i:=n) (by omega)
   refine ⟨l ++ [m],?_,by simp [h2],fun x hx => ?_⟩
   ·rw [List.take_add_one,h1,h4]
    simp [aZ]
   ·rcases List.mem_append.1 hx with hx|hx
    ·exact h3 x hx
    ·simp only [List.mem_cons,List.not_mem_nil,or_false] at hx
     subst hx;exact h5
 obtain ⟨l,h1,h2,h3⟩:=key 32 (Nat.le_refl _)
 rw [List.take_of_length_le (by omega)] at h1
 exact ⟨l,h1,h2,h3⟩
theorem rec_of {xs:List Value} (h:Typed recK xs) : ∃ r,xs=recC r∧r.Wf:=by
 obtain ⟨a,o,b,c,d,e,f,g,rfl,ho,ha,wb,wc,wd,wf,wg⟩:=rec_form h
 obtain ⟨l,rfl,hl⟩:=dig_of ho
 obtain ⟨c,rfl,hc⟩:=wf_u64 wc
 obtain ⟨d,rfl,hd⟩:=wf_u64 wd
 exact ⟨⟨a,l,b,c,d,e,f,g⟩,rfl,ha,hl,wf_i64.1 wb,hc,hd,wf_i64.1 wf,wf_i64.1 wg⟩
theorem list_of {ks:List Kd} {α:Type} {f:α→List Value} {P:α→Prop} (hf : ∀ xs,Typed ks xs → ∃ a,xs=f a∧P a) : ∀ (n:Nat) (cs:List Value),TypedN ks n cs → ∃ l:List α,l.length=n∧cs=l.flatMap f ∧ ∀ a∈l,P a
 | 0,cs,h=>⟨[],rfl,by
   have:cs.length=0:=by rw [h.1,Nat.zero_mul]
   exact List.length_eq_zero_iff.1 this,fun a ha=>by cases ha⟩
 |n+1,cs,h=>by
  have hl:cs.length=(n+1)*ks.length:=h.1
  have h0:=h.2 0 (by omega)
  rw [Nat.zero_mul,List.drop_zero] at h0
  obtain ⟨a,ha,pa⟩:=hf _ h0
  have hl2:(cs.drop ks.length).length=n*ks.length:=by rw [List.length_drop,hl,Nat.add_mul];omega
  obtain ⟨l,q1,q2,q3⟩:=list_of hf n (cs.drop ks.length) ⟨hl2,fun i hi=>by
   have:=h.2 (i+1) (by omega)
   rw [List.drop_drop,show ks.length+i*ks.length=(i+1)*ks.length by rw [Nat.add_mul];omega]
   exact this⟩
  refine ⟨a::l,by simp [q1],?_,fun b hb => ?_⟩
  ·rw [List.flatMap_cons,←ha,←q2,List.take_append_drop]
  ·rcases List.mem_cons.1 hb with rfl|hb
   ·exact pa
   ·exact q3 b hb
end Go.Proofs.YtdnahgfgoajmcaaDoor

namespace Go.Proofs.YtdnahgfgoajmcaaDoor
open Go Go.Abs
attribute [local congr] aj
end Go.Proofs.YtdnahgfgoajmcaaDoor

namespace Go.Proofs.YtdnahgfgoajmcaaDoor
open Go Go.Abs
open Go.ChangeShapes Go.WideShapes Go.ChangeAt Go.RowKit
theorem SlN.typed {h:ab} {ks:List Kd} {v:Value} {n:Nat} {cs:List Value} (x:SlN h ks v n cs):TypedN ks n cs:=by
 obtain ⟨a,c,rfl,_,h2,_⟩:=x
 exact h2
section
variable {H:Type} {enc:TypeId×Value→H} {W:World} {base:Nat} {held:Bool}
theorem rd5:Reads enc W base held 5 [.u8]:=reads_u8 Tryd.underlying5
theorem rd35:Reads enc W base held 35 digK:=reads_arr Tryd.underlying35 (by kernel_rfl) (by kernel_rfl) rd5
theorem rd58:Reads enc W base held 58 recK:=fun fuel cs x h=>by
 have p0:Pc [.u8] 0 cs:=piece Tryd.underlying58 h (i:=0) rfl (by kernel_rfl) (reads_u8 Tryd.underlying56)
 have p1:Pc digK 1 cs:=piece Tryd.underlying58 h (i:=1) rfl (by kernel_rfl) rd35
 have p2:Pc [.i .i64] 33 cs:=piece Tryd.underlying58 h (i:=2) rfl (by kernel_rfl) (reads_i Tryd.underlying3)
 have p3:Pc [.i .u64] 34 cs:=piece Tryd.underlying58 h (i:=3) rfl (by kernel_rfl) (reads_i Tryd.underlying32)
 have p4:Pc [.i .u64] 35 cs:=piece Tryd.underlying58 h (i:=4) rfl (by kernel_rfl) (reads_i Tryd.underlying32)
 have p5:Pc [.b] 36 cs:=piece Tryd.underlying58 h (i:=5) rfl (by kernel_rfl) (reads_b Tryd.underlying4)
 have p6:Pc [.i .i64] 37 cs:=piece Tryd.underlying58 h (i:=6) rfl (by kernel_rfl) (reads_i Tryd.underlying3)
 have p7:Pc [.i .i64] 38 cs:=piece Tryd.underlying58 h (i:=7) rfl (by kernel_rfl) (reads_i Tryd.underlying3)
 obtain ⟨_,_,_,_,hl,_⟩:=DataW.trod_struct Tryd.underlying58 h
 exact (((((((p0.app p1).app p2).app p3).app p4).app p5).app p6).app p7).whole (hl.trans (by kernel_rfl))
end
def litOf {H:Type}:Value→DataW H
 | .int k n => .lit (.int k n)
 |_ => .agg []
theorem litOf_inj {H:Type} {v:Value} {k:IntKind} {n:Int} (h:(litOf v:DataW H) = .lit (.int k n)):v = .int k n:=by
 cases v with
 |int k' n'=>
  have h:(DataW.lit (Lit.int k' n'):DataW H) = .lit (.int k n):=h
  have q:=Lit.int.inj (DataW.lit.inj h)
  rw [q.1,q.2]
 |_=>cases h
theorem len_rounds:bB.length=64:=by kernel_rfl
theorem rounds_ints:(bB.all fun v=>match v with | .int _ _=>true|_=>false)=true:=by kernel_rfl
theorem nice_rounds (n:Nat) : ∀ v∈bB,clean n v=v:=by
 intro v hv
 have h:=rounds_ints
 rw [List.all_eq_true] at h
 have h:=h v hv
 cases v with
 |int k m=>exact clean_nice rfl
 |_=>cases h
theorem rounds_clean (n:Nat):bB.map (clean n)=bB:=by
 rw [List.map_congr_left (nice_rounds n),List.map_id']
theorem rounds_cells {W:World} {fuel:Nat} {cs:List Value} {p:List MemPlace} {d:DataW Unit} (hd:d = .agg (bB.map litOf)) (h:DataW.trod (fun _=>()) Tryd.prog W 0 (fun _=>true) false fuel 175 cs=some (d,p)):cs=bB:=by
 subst hd
 obtain ⟨xs,m,rfl,hx,hl,hxl,hf⟩:=DataW.trod_array Tryd.underlying175 h
 have h175:Tryd.prog.cellsOf 175=64:=by kernel_rfl
 have h174:Tryd.prog.cellsOf 174=1:=by kernel_rfl
 rw [h175] at hl
 have hx:=congrArg Prod.fst hx
 have hx:(DataW.agg (bB.map litOf):DataW Unit) = .agg (xs.map (·.1)):=hx
 have hx:=DataW.agg.inj hx
 refine List.ext_getElem? fun j => ?_
 by_cases hj:j<64
 ·have e:=hf j hj
  rw [List.getElem?_eq_getElem (by omega),h174,Nat.mul_one] at e
  obtain ⟨n,e1,e2,_⟩:=DataW.trod_int Tryd.underlying174 e
  have q:(bB.map (litOf (H:=Unit)))[j]? = (xs.map (·.1))[j]? := by rw [hx]
  rw [List.getElem?_map,List.getElem?_map,List.getElem?_eq_getElem (by rw [len_rounds];exact hj),List.getElem?_eq_getElem (by omega),e2] at q
  have q:=litOf_inj (Option.some.inj q)
  have e3:((cs.drop j).take 1)[0]? = some (.int .u32 n):=by rw [e1];rfl
  rw [List.getElem?_take,if_pos (by decide),List.getElem?_drop,Nat.add_zero] at e3
  rw [e3,List.getElem?_eq_getElem (by rw [len_rounds];exact hj),q]
 ·rw [List.getElem?_eq_none (by omega),List.getElem?_eq_none (by rw [len_rounds];omega)]
end Go.Proofs.YtdnahgfgoajmcaaDoor

namespace Go.Proofs.YtdnahgfgoajmcaaDoor
open Go Go.Abs
end Go.Proofs.YtdnahgfgoajmcaaDoor

namespace Go.Proofs.YtdnahgfgoajmcaaDoor
open Go Go.Abs
theorem add3 {a b:Nat} (h:a+b≤9223372036854775807):bin Tryd.prog .add 3 (ai a) (.int .i64 (b:Int))=some (ai (a+b)):=by
 unfold ai;rw [bin_add,wrap_i64 (by omega) (by omega),Int.natCast_add]
theorem ff {a:Nat} (h:a+1≤9223372036854775807):bin Tryd.prog .add 3 (ai a) (.int .i64 1)=some (ai (a+1)):=add3 h
theorem lss3 (a b:Nat):bin Tryd.prog .lss 3 (ai a) (ai b)=some (.bool (decide (a<b))):=by
 rw [cK]
 congr 2
 by_cases e:a<b
 ·rw [decide_eq_true e,decide_eq_true (by omega)]
 ·rw [decide_eq_false e,decide_eq_false (by omega)]
end Go.Proofs.YtdnahgfgoajmcaaDoor

namespace Go.Proofs.YtdnahgfgoajmcaaDoor
open Go Go.Abs
section
end
section
end
section
end
section
end
end Go.Proofs.YtdnahgfgoajmcaaDoor

namespace Go.Proofs.YtdnahgfgoajmcaaDoor
open Go Go.Abs
attribute [local congr] aj
end Go.Proofs.YtdnahgfgoajmcaaDoor

namespace Go.Proofs.YtdnahgfgoajmcaaDoor
open Go Go.Abs
attribute [local congr] aj
end Go.Proofs.YtdnahgfgoajmcaaDoor

namespace Go.Proofs.YtdnahgfgoajmcaaDoor
open Go Go.Abs
end Go.Proofs.YtdnahgfgoajmcaaDoor

namespace Go.Proofs.YtdnahgfgoajmcaaDoor
open Go Go.Abs
attribute [local congr] aj
end Go.Proofs.YtdnahgfgoajmcaaDoor

namespace Go.Proofs.YtdnahgfgoajmcaaDoor
open Go Go.Abs
attribute [local congr] aj
end Go.Proofs.YtdnahgfgoajmcaaDoor

namespace Go.Proofs.YtdnahgfgoajmcaaDoor
open Go Go.Abs
attribute [local congr] aj
theorem chkI (k:IntKind) (n:Int) (h:ab):cm true (some (.int k n,h)) (.int k n)=true:=by simp [cm,same,veq]
section
variable {h h1:ab} {a:Option Addr} {n c:Nat} {l:List Nat} {y:Nat→Value}
end
end Go.Proofs.YtdnahgfgoajmcaaDoor

namespace Go.Proofs.YtdnahgfgoajmcaaDoor
open Go Go.Abs
attribute [local congr] aj
theorem cv8i (k:IntKind) (x:Int) (h:ab):cvI .u8 (.int k x) h=some (u8 (i8 x),h):=by rw [fz,wrap_i8]
end Go.Proofs.YtdnahgfgoajmcaaDoor

namespace Go.Proofs.YtdnahgfgoajmcaaDoor
open Go Go.Abs
attribute [local congr] aj
def keyB (r:ak):List Nat := [r.kind]++r.obj ++ [i8 r.aQ]
theorem keyB_len {r:ak} (w:r.Wf):(keyB r).length=34:=by unfold keyB;simp [w.obj.1]
theorem keyB_bys {r:ak} (w:r.Wf):Bys (keyB r):=by
 intro x hx
 unfold keyB at hx
 simp only [List.mem_append,List.mem_cons,List.not_mem_nil,or_false] at hx
 rcases hx with (rfl|hx)|rfl
 ·exact w.kind
 ·exact w.obj.2 x hx
 ·exact i8_lt _
theorem obj_sl {g:ab} {b:Nat} {r:ak} (w:r.Wf) (g1:g.get b=some (recC r)):aq (some ⟨b,1,none⟩) 32 g=some r.obj:=by
 have:=sliceBytes_mid (s:=none) g1 (show recC r = [.int .u8 (r.kind:Int)]++(aZ r.obj ++ [.int .i64 r.aQ,.int .u64 (r.inc:Int),.int .u64 (r.num:Int),.bool r.held,.int .i64 r.k,.int .i64 r.n]) from rfl) rfl w.obj.2
 rw [w.obj.1] at this
 exact this
theorem is67:cj Tryd.prog 67 Tryd.f67:=⟨by kernel_rfl,by kernel_rfl,by kernel_rfl,by kernel_rfl⟩
end Go.Proofs.YtdnahgfgoajmcaaDoor

namespace Go.Proofs.YtdnahgfgoajmcaaDoor
open Go Go.Abs
attribute [local congr] aj
theorem app_cap {h:ab} {b len cap n c:Nat} {s:Option Nat} {a:Option Addr} {A B C:List Value} {l:List Nat} (g:h.get b=some (A++(B++C))) (h0:h.n0≤b) (hA:A.length=len) (hB:B.length=n) (hs:aq a n h=some l) (hn:0<n) (hc:len+n≤cap) (hk:len+n≤1000000) :
  ∃ g',aO 1 1 (.slice (some ⟨b,0,s⟩) len cap) (.slice a n c) h=some (.slice (some ⟨b,0,s⟩) (len+n) cap,g')∧Kept h g' (· = b)∧g'.get b=some (A++(aZ l++C))∧g'.next=h.next:=by
 obtain ⟨hl,hb,_⟩:=aD hs
 have hf:=firstA_of hs (Nat.le_refl n) (c:=c)
 rw [List.take_of_length_le (by omega)] at hf
 have hsp:a6 (A++(B++C)) len (aZ l)=A++(aZ l++C):=splice_app hA hB (by rw [List.length_map];exact hl)
 refine ⟨h.set b (A++(aZ l++C)),?_,Kept.set h0 g (.inr rfl),ab.dm h0 g _,rfl⟩
 unfold aO
 simp only [lenA,hf]
 have c1:(!(az (l.map u8)) || !(decide ((len+n)*1≤140737488355328)) || !(decide (len+n≤4611686018427387904))||decide ((l.map u8).length≠n*1))=false:=by
  rw [one_u8,decide_eq_true (by omega),decide_eq_true (by omega),decide_eq_false (by simp;omega)];rfl
 rw [if_neg (by rw [c1];decide),if_pos hc,if_neg (by omega)]
 unfold stL
 rw [Nat.zero_add,Nat.mul_one]
 simp only [g]
 rw [if_pos (by
  have h1:len+(aZ l).length≤(A++(B++C)).length:=by rw [List.length_append,List.length_append,List.length_map,hA,hB];omega
  simp only [decide_eq_true h0,decide_eq_true h1,(u8s_ok l).2,Bool.and_self]),hsp]
 rfl
set_option maxRecDepth 100000 in
theorem r67 {h:ab} (hG:4≤h.n0) {r:ak} (w:r.Wf) : ∃ a c h',CW 67 [.agg (recC r).toArray] h=some (.slice a 34 c,h')∧aq a 34 h'=some (keyB r)∧Old h h':=by
 obtain ⟨h1,b1,o1,g1,n1⟩:=fY h w
 have m4:mkR 1 1 (.int .u8 0) (.int .i64 0) (.int .i64 34) h1=some (.slice (some ⟨h1.next,0,none⟩) 0 34,h1.alloc (db [(.int .u8 0)] 34)):=rfl
 have o2:Old h1 (h1.alloc (db [(.int .u8 0)] 34)):=Kept.alloc _ _ _
 have g2:(h1.alloc (db [(.int .u8 0)] 34)).get h1.next=some ([]++([.int .u8 0]++(List.replicate 33 (.int .u8 0)))):=by rw [ab.aH,if_pos rfl];rfl
 have n2:(h1.alloc (db [(.int .u8 0)] 34)).next=h1.next+1:=ab.dU ..
 generalize h1.alloc (db [(.int .u8 0)] 34)=h2 at *
 have G2:=Old.get o2 g1
 have A2:=r_ld w G2
 have b3:=bsl1 h2 r.kind
 have o3:Old h2 (h2.alloc [u8 r.kind]):=Kept.alloc _ _ _
 have s3:=bytes1 h2 w.kind
 have n3:(h2.alloc [u8 r.kind]).next=h2.next+1:=ab.dU ..
 generalize h2.alloc [u8 r.kind]=h3 at *
 have p1:h2.n0≤h1.next:=by rw [o2.n0];exact h1.ax
 have p3:h3.n0≤h1.next:=by rw [o3.n0];exact p1
 obtain ⟨h4,e4,k4,g4,n4⟩:=app_cap (cap:=34) (s:=none) (c:=1) (len:=0) (Old.get o3 g2) p3 rfl rfl s3 (by decide) (by decide) (by decide)
 have hne : ¬(h.next=h1.next):=by omega
 have G4:h4.get h.next=some (recC r):=Kept.dv k4 (Old.get o3 G2) hne
 have A4:=r_ld w G4
 have ha:=arr32 h.next 1
 have p4:h4.n0≤h1.next:=by rw [k4.n0];exact p3
 have g4:h4.get h1.next=some (aZ [r.kind]++(List.replicate 32 (.int .u8 0) ++ [.int .u8 0])):=g4.trans rfl
 obtain ⟨h5,e5,k5,g5,n5⟩:=app_cap (cap:=34) (s:=none) (c:=32) (len:=1) g4 p4 rfl rfl (obj_sl w G4) (by decide) (by decide) (by decide)
 have G5:h5.get h.next=some (recC r):=Kept.dv k5 G4 hne
 have A5:=r_ld w G5
 have cv1:=cv8i .i64 r.aQ h5
 have b6:=bsl1 h5 (i8 r.aQ)
 have o6:Old h5 (h5.alloc [u8 (i8 r.aQ)]):=Kept.alloc _ _ _
 have s6:=bytes1 h5 (i8_lt r.aQ)
 generalize h5.alloc [u8 (i8 r.aQ)]=h6 at *
 have p6:h6.n0≤h1.next:=by rw [o6.n0,k5.n0];exact p4
 have g5:h5.get h1.next=some ((aZ [r.kind]++aZ r.obj)++([.int .u8 0] ++ [])):=by rw [g5];simp
 obtain ⟨h7,e7,k7,g7,n7⟩:=app_cap (cap:=34) (s:=none) (c:=1) (len:=33) (Old.get o6 g5) p6 (by simp [w.obj.1]) rfl s6 (by decide) (by decide) (by decide)
 have O3:Old h h3:=(o1.trans o2).trans o3
 have hd:h.next≤h1.next:=by omega
 have O4:Old h h4:=Old.bN O3 k4 hd
 have O5:Old h h5:=Old.bN O4 k5 hd
 have O7:Old h h7:=Old.bN (O5.trans o6) k7 hd
 have g7:h7.get h1.next=some (aZ (keyB r)):=by rw [g7];simp [keyB]
 refine ⟨some ⟨h1.next,0,none⟩,34,h7,aG is67 hG rfl ((t67_eq _ _ _).trans ?_),?_,O7⟩
 ·unfold t67
  have e4:aO 1 1 (.slice (some ⟨h1.next,0,none⟩) 0 34) (.slice (some ⟨h2.next,0,none⟩) 1 1) h3=some (.slice (some ⟨h1.next,0,none⟩) 1 34,h4):=e4
  have e5:aO 1 1 (.slice (some ⟨h1.next,0,none⟩) 1 34) (.slice (some ⟨h.next,1,none⟩) 32 32) h4=some (.slice (some ⟨h1.next,0,none⟩) 33 34,h5):=e5
  have e7:aO 1 1 (.slice (some ⟨h1.next,0,none⟩) 33 34) (.slice (some ⟨h5.next,0,none⟩) 1 1) h6=some (.slice (some ⟨h1.next,0,none⟩) 34 34,h7):=e7
  simp -implicitDefEqProofs only [b1,m4,A2.l0,b3,e4,ha,e5,A5.l33,cv1,b6,e7,ad,af,aA,Nat.zero_add,Nat.reduceAdd]
 ·have:=dw (off:=0) (n:=34) (s:=none) g7 (by rw [keyB_len w];decide) (keyB_bys w)
  rw [this,List.drop_zero,List.take_of_length_le (by rw [keyB_len w];decide)]
end Go.Proofs.YtdnahgfgoajmcaaDoor

namespace Go.Proofs.YtdnahgfgoajmcaaDoor
open Go Go.Abs
attribute [local congr] aj
def cmpI (a b:Int):Int:=if a<b then -1 else if b<a then 1 else 0
def orL:List Int→Int
 | []=>0
 |x::l=>if x=0 then orL l else x
theorem is137:cj Tryd.prog 137 Tryd.f137:=⟨by kernel_rfl,by kernel_rfl,by kernel_rfl,by kernel_rfl⟩
theorem is138:cj Tryd.prog 138 Tryd.f138:=⟨by kernel_rfl,by kernel_rfl,by kernel_rfl,by kernel_rfl⟩
theorem is115:cj Tryd.prog 115 Tryd.f115:=⟨by kernel_rfl,by kernel_rfl,by kernel_rfl,by kernel_rfl⟩
theorem is116:cj Tryd.prog 116 Tryd.f116:=⟨by kernel_rfl,by kernel_rfl,by kernel_rfl,by kernel_rfl⟩
theorem is114:cj Tryd.prog 114 Tryd.f114:=⟨by kernel_rfl,by kernel_rfl,by kernel_rfl,by kernel_rfl⟩
theorem is63:cj Tryd.prog 63 Tryd.f63:=⟨by kernel_rfl,by kernel_rfl,by kernel_rfl,by kernel_rfl⟩
theorem is62:cj Tryd.prog 62 Tryd.f62:=⟨by kernel_rfl,by kernel_rfl,by kernel_rfl,by kernel_rfl⟩
theorem r137 {h:ab} (hG:4≤h.n0) (a:Int):CW 137 [.int .u64 a] h=some (.bool false,h):=by
 refine aG is137 hG rfl ((t137_eq _ _ _).trans ?_)
 unfold t137
 simp -implicitDefEqProofs only [cz,bne_self_eq_false,ad,af]
theorem r138 {h:ab} (hG:4≤h.n0) (a:Int):CW 138 [.int .i64 a] h=some (.bool false,h):=by
 refine aG is138 hG rfl ((t138_eq _ _ _).trans ?_)
 unfold t138
 simp -implicitDefEqProofs only [cz,bne_self_eq_false,ad,af]
theorem r115 {h:ab} (hG:4≤h.n0) (a b:Int):CW 115 [.int .u64 a,.int .u64 b] h=some (.int .i64 (cmpI a b),h):=by
 refine aG is115 hG rfl ((t115_eq _ _ _ _).trans ?_)
 unfold t115 cmpI
 simp -implicitDefEqProofs only [r137 hG,cK,cA,ad,af]
 by_cases h1:a<b
 ·simp -implicitDefEqProofs only [decide_eq_true h1,if_pos h1,ad,af]
 ·simp -implicitDefEqProofs only [decide_eq_false h1,if_neg h1,ad,af]
  by_cases h2:b<a
  ·have h2':a>b:=h2
   simp -implicitDefEqProofs only [decide_eq_true h2',if_pos h2,ad,af]
  ·have h2' : ¬a>b:=h2
   simp -implicitDefEqProofs only [decide_eq_false h2',if_neg h2,ad,af]
theorem r116 {h:ab} (hG:4≤h.n0) (a b:Int):CW 116 [.int .i64 a,.int .i64 b] h=some (.int .i64 (cmpI a b),h):=by
 refine aG is116 hG rfl ((t116_eq _ _ _ _).trans ?_)
 unfold t116 cmpI
 simp -implicitDefEqProofs only [r138 hG,cK,cA,ad,af]
 by_cases h1:a<b
 ·simp -implicitDefEqProofs only [decide_eq_true h1,if_pos h1,ad,af]
 ·simp -implicitDefEqProofs only [decide_eq_false h1,if_neg h1,ad,af]
  by_cases h2:b<a
  ·have h2':a>b:=h2
   simp -implicitDefEqProofs only [decide_eq_true h2',if_pos h2,ad,af]
  ·have h2' : ¬a>b:=h2
   simp -implicitDefEqProofs only [decide_eq_false h2',if_neg h2,ad,af]
theorem results114:Tryd.f114.results.toList = [.tmp 2]:=by kernel_rfl
theorem r114 {h:ab} (hG:4≤h.n0) {b:Nat} {vs:List Int} (hl:vs.length=5) (g:h.get b=some (vs.map (.int .i64))):CW 114 [.slice (some ⟨b,0,none⟩) 5 5] h=some (.int .i64 (orL vs),h):=by
 have hll:cx (.slice (some ⟨b,0,none⟩) 5 5)=some (ai 5):=rfl
 refine aG is114 hG rfl ((t114_eq _ _ _).trans ?_)
 unfold t114
 simp -implicitDefEqProofs only [hll,ad,af]
 refine bJ (n:=18) (fin:=fun ex y g=>g=h∧((ex = .ret∧y 2 = .int .i64 (orL vs))∨(ex = .exit 0∧y 3 = .int .i64 0∧orL vs=0))) (Q:=fun o:Out=>o=some (Value.int .i64 (orL vs),h))
  (bH (t114l114_11010_eq CW) (Inv:=fun k y g => ∃ i,i+k=5∧y 3 = .int .i64 0∧y 6 = .slice (some ⟨b,0,none⟩) 5 5∧y 7=ai 5∧y 8=ai i∧g=h∧orL vs=orL (vs.drop i)) ?_ 5 (by have:rounds=18446744073709551616:=rfl;omega) ⟨0,Nat.zero_add _,rfl,rfl,rfl,rfl,rfl,rfl⟩) ?_
 ·rintro k y g' ⟨i,hik,y3,y6,y7,y8,rfl,ho⟩
  unfold t114l114_11010
  simp -implicitDefEqProofs only [y3,y6,y7,y8,lss3]
  by_cases hi:i<5
  ·have hx:cd 1 (.slice (some ⟨b,0,none⟩) 5 5) (ai i)=some (ptr b i):=by
    unfold cd
    simp only [ai]
    rw [if_pos (by omega),Int.toNat_natCast,Nat.mul_one,Nat.zero_add]
   have hv:vs[i]? = some vs[i]:=List.getElem?_eq_getElem (by omega)
   have hd:ld1 (ptr b i) g'=some (.int .i64 vs[i],g'):=ba g (by rw [List.getElem?_map,hv];rfl) rfl
   have hdr:vs.drop i=vs[i]::vs.drop (i+1):=List.drop_eq_getElem_cons (by omega)
   by_cases hz:vs[i]=0
   ·have hb:(vs[i] != 0)=false:=by rw [hz];rfl
    simp -implicitDefEqProofs only [decide_eq_true hi,hx,hd,cz,hb,y3,y8,ff (show i+1≤9223372036854775807 by omega),ad,af]
    refine eS.next (k-1) (by omega) ⟨i+1,by omega,y3,y6,y7,rfl,rfl,?_⟩
    rw [ho,hdr,orL,if_pos hz]
   ·have hb:(vs[i] != 0)=true:=by simpa using hz
    simp -implicitDefEqProofs only [decide_eq_true hi,hx,hd,cz,hb,y3,ad,af]
    refine eS.ret ⟨rfl,.inl ⟨rfl,?_⟩⟩
    rw [ho,hdr,orL,if_neg hz]
    rfl
  ·simp -implicitDefEqProofs only [decide_eq_false hi,ad,af]
   refine eS.out 0 ⟨rfl,.inr ⟨rfl,y3,?_⟩⟩
   rw [ho,List.drop_eq_nil_of_le (by omega)]
   rfl
 ·rintro ex z g' ⟨rfl,⟨rfl,z2⟩|⟨rfl,z3,hz⟩⟩
  ·rw [endL_ret,res_one results114 (by decide),z2]
  ·simp -implicitDefEqProofs only [bn,b114_4,if_true,t114k114_2_eq]
   unfold t114k114_2
   rw [z3,hz]
   rfl
theorem fill_int {A C:List Value} {o:Nat} {x:Value} {k:IntKind} {n:Int} {rest:List (Nat×Nat×Value)} (hA:A.length=o):cG (A++([x]++C)) ((o,1,.int k n)::rest)=cG (A++([.int k n]++C)) rest:=by
 have hc:(Value.int k n).cells = #[.int k n]:=rfl
 simp only [cG,hc]
 rw [if_pos (by
  have:o+1≤(A++([x]++C)).length:=by rw [List.length_append,List.length_append,hA];simp
  simp only [decide_eq_true this]
  rfl),splice_app (B := [x]) (B' := [.int k n]) (C:=C) hA rfl rfl]
theorem veqL_self : ∀ {l:List Value},(∀ v∈l,∃ k:Kd,k.has v)→veqL l l=true
 | [],_=>rfl
 |v::l,h=>by
  simp only [veqL,Bool.and_eq_true]
  refine ⟨?_,veqL_self fun w hw=>h w (List.mem_cons_of_mem _ hw)⟩
  obtain ⟨k,hk⟩:=h v List.mem_cons_self
  cases k with
  |u8=>obtain ⟨n,rfl,_⟩:=hk;simp [veq]
  |i k=>obtain ⟨n,rfl,_⟩:=hk;simp [veq]
  |b=>obtain ⟨t,rfl⟩:=hk;simp [veq]
theorem Typed.kinds {ks:List Kd} {cs:List Value} (h:Typed ks cs) : ∀ v∈cs,∃ k:Kd,k.has v:=by
 intro v hv
 obtain ⟨j,hj⟩:=List.mem_iff_getElem?.1 hv
 have hlt:=(List.getElem?_eq_some_iff.1 hj).1
 rw [h.1] at hlt
 obtain ⟨w,hw,hk⟩:=h.2 j _ (List.getElem?_eq_getElem hlt)
 rw [hj] at hw
 cases hw
 exact ⟨_,hk⟩
theorem chk_agg (l:List Value) (g:ab) (h : ∀ v∈l,∃ k:Kd,k.has v):cm true (some (.agg l.toArray,g)) (.agg l.toArray)=true:=by
 show (!true||veq (.agg ⟨l⟩) (.agg ⟨l⟩))=true
 simp only [Bool.not_true,Bool.false_or,veq]
 exact veqL_self h
def cmpR (a b:ak):Int:=orL [cmpI a.inc b.inc,cmpI a.num b.num,(if a.held=b.held then 0 else if a.held then 1 else -1),cmpI a.k b.k,cmpI a.n b.n]
theorem bsl5 (h:ab) (a b c d e:Int):du 1 (.int .i64 0) 5 [(0,.int .i64 a),(1,.int .i64 b),(2,.int .i64 c),(3,.int .i64 d),(4,.int .i64 e)] h=some (.slice (some ⟨h.next,0,none⟩) 5 5,h.alloc ([a,b,c,d,e].map (.int .i64))):=rfl
theorem neq_bool (a b:Bool):bin Tryd.prog .neq 4 (.bool a) (.bool b)=some (.bool (a != b)):=by cases a<;>cases b<;>kernel_rfl
set_option maxRecDepth 100000 in
theorem r63 {h:ab} (hG:4≤h.n0) {a b:ak} (wa:a.Wf) (wb:b.Wf) : ∃ h',CW 63 [.agg (recC a).toArray,.agg (recC b).toArray] h=some (.int .i64 (cmpR a b),h')∧Old h h':=by
 obtain ⟨h1,b1,o1,g1,n1⟩:=fY h wa
 obtain ⟨h2,b2,o2,g2,n2⟩:=fY h1 wb
 have A:=r_ld wa (o2.get g1)
 have B:=r_ld wb g2
 have G2:4≤h2.n0:=by rw [o2.n0,o1.n0];exact hG
 have G3 : ∀ k:fX,4≤(h2.alloc k).n0:=fun k=>G2
 have e14:=fun c:Int=>r114 (h:=h2.alloc ([cmpI a.inc b.inc,cmpI a.num b.num,c,cmpI a.k b.k,cmpI a.n b.n].map (.int .i64))) (G3 _) (b:=h2.next) (vs := [cmpI a.inc b.inc,cmpI a.num b.num,c,cmpI a.k b.k,cmpI a.n b.n]) rfl (by rw [ab.aH,if_pos rfl])
 have o3:=fun c:Int=>(show Old h2 (h2.alloc ([cmpI a.inc b.inc,cmpI a.num b.num,c,cmpI a.k b.k,cmpI a.n b.n].map (.int .i64))) from Kept.alloc _ _ _)
 unfold cmpR
 cases qa:a.held<;>cases qb:b.held
 ·refine ⟨_,aG is63 hG rfl ((t63_eq _ _ _ _).trans ?_),(o1.trans o2).trans (o3 0)⟩
  unfold t63
  simp -implicitDefEqProofs only [b1,b2,aA,Nat.zero_add,A.l36,B.l36,A.l34,B.l34,A.l35,B.l35,A.l37,B.l37,A.l38,B.l38,qa,qb,neq_bool,bne_self_eq_false,r115 G2,r116 G2,bsl5,e14,chkI,Bool.and_self,Bool.and_true,ad,af,if_true]
 ·refine ⟨_,aG is63 hG rfl ((t63_eq _ _ _ _).trans ?_),(o1.trans o2).trans (o3 (-1))⟩
  unfold t63
  simp -implicitDefEqProofs only [b1,b2,aA,Nat.zero_add,A.l36,B.l36,A.l34,B.l34,A.l35,B.l35,A.l37,B.l37,A.l38,B.l38,qa,qb,neq_bool,show (false != true)=true from rfl,r115 G2,r116 G2,bsl5,e14,chkI,Bool.and_self,Bool.and_true,ad,af,if_true]
  rfl
 ·refine ⟨_,aG is63 hG rfl ((t63_eq _ _ _ _).trans ?_),(o1.trans o2).trans (o3 1)⟩
  unfold t63
  simp -implicitDefEqProofs only [b1,b2,aA,Nat.zero_add,A.l36,B.l36,A.l34,B.l34,A.l35,B.l35,A.l37,B.l37,A.l38,B.l38,qa,qb,neq_bool,show (true != false)=true from rfl,r115 G2,r116 G2,bsl5,e14,chkI,Bool.and_self,Bool.and_true,ad,af,if_true]
  rfl
 ·refine ⟨_,aG is63 hG rfl ((t63_eq _ _ _ _).trans ?_),(o1.trans o2).trans (o3 0)⟩
  unfold t63
  simp -implicitDefEqProofs only [b1,b2,aA,Nat.zero_add,A.l36,B.l36,A.l34,B.l34,A.l35,B.l35,A.l37,B.l37,A.l38,B.l38,qa,qb,neq_bool,bne_self_eq_false,r115 G2,r116 G2,bsl5,e14,chkI,Bool.and_self,Bool.and_true,ad,af,if_true]
def atC (r:ak):List Value := .int .u8 (r.kind:Int)::(aZ r.obj ++ [.int .i64 r.aQ])
def atK:List Kd := .u8::(List.replicate 32 .u8 ++ [.i .i64])
theorem at_typed {r:ak} (h:r.Wf):Typed atK (atC r):=(Typed.one (k := .u8) ⟨_,rfl,h.kind⟩).app ((dE h.obj).app (Typed.one (k := .i .i64) ⟨_,rfl,wf_i64.2 h.aQ⟩))
abbrev zat:List Value := [(.int .u8 0),(.int .u8 0),(.int .u8 0),(.int .u8 0),(.int .u8 0),(.int .u8 0),(.int .u8 0),(.int .u8 0),(.int .u8 0),(.int .u8 0),(.int .u8 0),(.int .u8 0),(.int .u8 0),(.int .u8 0),(.int .u8 0),(.int .u8 0),(.int .u8 0),(.int .u8 0),(.int .u8 0),(.int .u8 0),(.int .u8 0),(.int .u8 0),(.int .u8 0),(.int .u8 0),(.int .u8 0),(.int .u8 0),(.int .u8 0),(.int .u8 0),(.int .u8 0),(.int .u8 0),(.int .u8 0),(.int .u8 0),(.int .u8 0),(.int .i64 0)]
theorem bld_at {r:ak} (w:r.Wf):ep zat [(0,1,.int .u8 (r.kind:Int)),(1,32,.agg (aZ r.obj).toArray),(33,1,.int .i64 r.aQ)]=some (.agg (atC r).toArray):=by
 have e:cG zat [(0,1,.int .u8 (r.kind:Int)),(1,32,.agg (aZ r.obj).toArray),(33,1,.int .i64 r.aQ)]=cG ([.int .u8 (r.kind:Int)]++(aZ z32 ++ [.int .i64 0])) [(1,32,.agg (aZ r.obj).toArray),(33,1,.int .i64 r.aQ)]:=rfl
 unfold ep
 rw [e,fill_mid (A := [.int .u8 (r.kind:Int)]) (B:=aZ z32) (o:=1) (n:=32) rfl rfl rfl (by rw [List.length_map];exact w.obj.1)]
 have e2:cG ([.int .u8 (r.kind:Int)]++(aZ r.obj ++ [.int .i64 0])) [(33,1,.int .i64 r.aQ)]=some (atC r):=by
  have e3:([.int .u8 (r.kind:Int)]++(aZ r.obj ++ [Value.int .i64 0]))=(([.int .u8 (r.kind:Int)]++aZ r.obj)++([Value.int .i64 0] ++ [])):=by simp
  rw [e3,fill_int (by simp [w.obj.1])]
  show some _=some _
  simp [atC]
 rw [e2]
 rfl
theorem atC_len {r:ak} (w:r.Wf):(atC r).length=34:=(at_typed w).1
theorem agg101:aggT Tryd.prog 101=some true:=by kernel_rfl
theorem siz101:bV Tryd.prog 101=some 34:=by kernel_rfl
theorem results62:Tryd.f62.results.toList = [.cell 2 101]:=by kernel_rfl
theorem gf {rs:List ResultVar} {n k t z:Nat} (hr:rs = [.cell k t]) (h1:aggT Tryd.prog t=some true) (h2:bV Tryd.prog t=some z) (hk:k<n) (x:Nat→Value) {h:ab} {v:Value} (e:dZ z (x k) h=some (v,h)):ao Tryd.prog rs (aN n x) h=some (v,h):=by
 subst hr
 simp only [ao,eT,getD_mkF hk,ld_agg h1 h2,e]
 rfl
set_option maxRecDepth 100000 in
theorem r62 {h:ab} (hG:4≤h.n0) {r:ak} (w:r.Wf) : ∃ h',CW 62 [.agg (recC r).toArray] h=some (.agg (atC r).toArray,h')∧Old h h':=by
 obtain ⟨h1,b1,o1,g1,n1⟩:=fY h w
 obtain ⟨h2,z2,o2,g2,n2⟩:=fresh zat h1
 have A:=r_ld w (o2.get g1)
 have ta:=at_typed w
 obtain ⟨h3,e3,k3,g3,_,_⟩:=bG (n:=34) (k':=atC r) g2 (by rw [o2.n0];exact h1.ax) rfl (atC_len w) ta.all.2.1
 have o3:Old h1 h3:=Old.bN o2 k3 (Nat.le_refl _)
 have l3:=bZ g3 (atC_len w) ta.all.1
 refine ⟨h3,aG is62 hG rfl ((t62_eq _ _ _).trans ?_),o1.trans o3⟩
 unfold t62
 simp -implicitDefEqProofs only [b1,z2,aA,Nat.zero_add,A.l0,A.l1,A.l33,bld_at w,e3,ad,af]
 exact gf results62 agg101 siz101 (show 2<10 by decide) _ l3
theorem at_at {x y:Value} {o:List Value} (ho:o.length=32):(x::(o ++ [y])).toArray[33]? = some y:=by
 rw [List.getElem?_toArray,show 33=32+1 from rfl,List.getElem?_cons_succ,List.getElem?_append_right (by omega),ho]
 rfl
def atB (a b:ak):Bool:=decide (a.kind=b.kind)&&(decide (a.obj=b.obj)&&decide (a.aQ=b.aQ))
end Go.Proofs.YtdnahgfgoajmcaaDoor

namespace Go.Proofs.YtdnahgfgoajmcaaDoor
open Go Go.Abs
attribute [local congr] aj
theorem agg35:aggT Tryd.prog 35=some true:=by kernel_rfl
theorem bg {l:List Nat} (h:fo l):(aZ l).length=32∧Abs.bj (aZ l)=true∧az (aZ l)=true:=by
 have t:=dE h
 exact ⟨t.1,t.all.1,t.all.2.1⟩
theorem eqD35 {a b:List Nat} (wa:fo a) (wb:fo b):bin Tryd.prog .eql 35 (.agg (aZ a).toArray) (.agg (aZ b).toArray)=some (.bool (decide (a=b))):=by
 obtain ⟨r,hr,hrun⟩:=dig_run (d:=9998) (dE wa) (dE wb)
 have hr':r=decide (a=b):=by
  by_cases e:a=b
  ·rw [decide_eq_true e,hr.2 (by rw [e])]
  ·rw [decide_eq_false e]
   cases r with
   |false=>rfl
   |true=>exact absurd (u8s_inj (hr.1 rfl)) e
 rw [←hr']
 exact (bin_agg (by kernel_rfl) (eK (dE wa).all.2.2) (eK (dE wb).all.2.2) hrun).1
theorem fs_size:Nat.ble 120 Tryd.prog.funcs.size=true:=by kernel_rfl
theorem XX_yid (L:Nat) (args:List Value) (h:ab):XX (yid Tryd.prog L) args h=none:=by
 have e:=Nat.le_of_ble_eq_true fs_size
 show callL XL (Tryd.prog.funcs.size+L) args h=none
 generalize Tryd.prog.funcs.size=n at e
 unfold callL
 rw [if_neg (show ¬n+L=(14:Nat) by omega)]
 unfold callL
 rw [if_neg (show ¬n+L=(119:Nat) by omega)]
 rfl
theorem CW_yield {L:Nat} {args:List Value} {h:ab} {r:Value×ab} (hG:4≤h.n0) (e:eQ Tryd.prog CW L args h=some r):CW (yid Tryd.prog L) args h=some r:=
 CC_round (by rw [globals4];exact hG) (XX_yid L args h) e
def RSl (h:ab) (v:Value) (L:List ak):Prop:=
 (∃ a c,v = .slice a L.length c)∧(∀ r∈L,r.Wf) ∧ ∀ j,j<L.length → ∃ b o,cd 39 v (ai j)=some (ptr b o)∧b<h.next ∧ ∀ g:ab,g.get b=h.get b→dZ 39 (ptr b o) g=some (.agg (recC (L.getD j ak.z)).toArray,g)
def gR (v:Value):Prop := ∃ a n c,v = .slice a n c∧n≤c∧(0<n → ∀ b o s,a=some ⟨b,o,some s⟩→s=39)
theorem RSl.mono {h h':ab} {v:Value} {L:List ak} (x:RSl h v L) (o:Old h h'):RSl h' v L:=by
 refine ⟨x.1,x.2.1,fun j hj => ?_⟩
 obtain ⟨b,q,h1,h2,h3⟩:=x.2.2 j hj
 have hb:h'.get b=h.get b:=Kept.get o b h2 (fun h=>h)
 exact ⟨b,q,h1,Nat.lt_of_lt_of_le h2 o.next,fun g e=>h3 g (e.trans hb)⟩
theorem RSl.len {h:ab} {v:Value} {L:List ak} (x:RSl h v L):cx v=some (ai L.length):=by
 obtain ⟨⟨a,c,rfl⟩,_,_⟩:=x
 rfl
theorem RSl.at {h:ab} {v:Value} {L:List ak} (x:RSl h v L) {j:Nat} (hj:j<L.length) : ∃ b o,cd 39 v (ai j)=some (ptr b o)∧(L.getD j ak.z).Wf∧L.getD j ak.z∈L ∧ ∀ g:ab,Old h g→dZ 39 (ptr b o) g=some (.agg (recC (L.getD j ak.z)).toArray,g):=by
 obtain ⟨b,q,h1,h2,h3⟩:=x.2.2 j hj
 have hm:L.getD j ak.z∈L:=by
  rw [List.getD_eq_getElem?_getD,List.getElem?_eq_getElem hj]
  exact List.getElem_mem hj
 exact ⟨b,q,h1,x.2.1 _ hm,hm,fun g og=>h3 g (Kept.get og b h2 (fun h=>h))⟩
def aY (P:List ak):List Value:=P.flatMap recC
theorem cZ : ∀ {P:List ak},(∀ p∈P,ak.Wf p)→(aY P).length=P.length*39
 | [],_=>rfl
 |p::P,h=>by
  have ih:=cZ (P:=P) fun q hq=>h q (List.mem_cons_of_mem _ hq)
  have hp:=(bm (h p List.mem_cons_self)).1
  unfold aY at ih ⊢
  rw [List.flatMap_cons,List.length_append,ih,hp,List.length_cons]
  omega
theorem recsC_get : ∀ {P:List ak},(∀ p∈P,ak.Wf p) → ∀ {j:Nat},j<P.length→((aY P).drop (j*39)).take 39=recC (P.getD j ak.z)
 | [],_,j,hj=>absurd hj (Nat.not_lt_zero j)
 |p::P,h,j,hj=>by
  have hp:=(bm (h p List.mem_cons_self)).1
  cases j with
  |zero=>
   unfold aY
   rw [List.flatMap_cons,Nat.zero_mul,List.drop_zero,←hp,List.take_left]
   rfl
  |succ j=>
   have ih:=recsC_get (P:=P) (fun q hq=>h q (List.mem_cons_of_mem _ hq)) (j:=j) (by rw [List.length_cons] at hj;omega)
   unfold aY at ih ⊢
   rw [List.flatMap_cons,show (j+1)*39=39+j*39 by omega,←List.drop_drop,List.drop_left' hp,List.getD_cons_succ,ih]
theorem recsC_ok : ∀ {P:List ak},(∀ p∈P,ak.Wf p)→Abs.bj (aY P)=true∧az (aY P)=true
 | [],_=>⟨rfl,rfl⟩
 |p::P,h=>by
  have ih:=recsC_ok (P:=P) fun q hq=>h q (List.mem_cons_of_mem _ hq)
  have hp:=bm (h p List.mem_cons_self)
  unfold aY at ih ⊢
  unfold Abs.bj az at *
  rw [List.flatMap_cons,List.all_append,List.all_append,ih.1,ih.2,hp.2.1,hp.2.2]
  exact ⟨rfl,rfl⟩
def RcS (h:ab) (v:Value) (P:List ak):Prop:=(∀ p∈P,ak.Wf p)∧SlN h recK v P.length (aY P)
theorem RcS.rsl {h:ab} {v:Value} {P:List ak} (x:RcS h v P):RSl h v P:=by
 obtain ⟨hd,a,c,rfl,_,_,h0⟩:=x
 refine ⟨⟨_,_,rfl⟩,hd,fun j hj => ?_⟩
 obtain ⟨b,off,s,k,rfl,hk,hlen,hcs⟩:=h0 (by omega)
 rw [show recK.length=39 from rfl] at hlen hcs
 have hm:=mul_le (z:=39) hj
 have e:(k.drop (off+j*39)).take 39=recC (P.getD j ak.z):=by
  rw [←recsC_get hd hj,←hcs]
  rw [List.drop_take,List.take_take,List.drop_drop,Nat.min_eq_left (by omega)]
 refine ⟨b,off+j*39,?_,h.aF hk,fun g hg => ?_⟩
 ·unfold cd ai
  simp only
  rw [if_pos (by omega),Int.toNat_natCast]
 ·have dp:ak.Wf (P.getD j ak.z):=hd _ (by
   rw [List.getD_eq_getElem?_getD,List.getElem?_eq_getElem hj]
   exact List.getElem_mem hj)
  have:=ldN_at (o:=off+j*39) (n:=39) (hg.trans hk) (by omega) (by rw [e];exact (bm dp).2.1)
  rw [e] at this
  exact this
theorem RcS.mono {h h':ab} {v:Value} {P:List ak} (x:RcS h v P) (o:Old h h'):RcS h' v P:=by
 obtain ⟨hd,a,c,rfl,hn,ht,h0⟩:=x
 refine ⟨hd,a,c,rfl,hn,ht,fun hp => ?_⟩
 obtain ⟨b,off,s,k,rfl,hk,hlen,hcs⟩:=h0 hp
 exact ⟨b,off,s,k,rfl,Old.get o hk,hlen,hcs⟩
theorem app_recs {g:ab} {v:Value} {P:List ak} (x:RcS g v P) (hl:P.length≤1000000) :
  ∃ v' g',aO 39 88 (.slice (some ⟨g.next,0,none⟩) 0 0) v (g.alloc [])=some (v',g')∧Old g g'∧RSl g' v' P∧gR v':=by
 have o1:Old g (g.alloc []):=Kept.alloc _ _ _
 obtain ⟨hd,a,c,rfl,hn,ht,h0⟩:=x
 by_cases hz:P.length=0
 ·have hP:P = []:=List.length_eq_zero_iff.1 hz
  subst hP
  refine ⟨.slice (some ⟨g.next,0,none⟩) 0 0,g.alloc [],?_,o1,⟨⟨_,_,rfl⟩,hd,fun j hj=>absurd hj (Nat.not_lt_zero j)⟩,⟨_,_,_,rfl,Nat.le_refl _,fun h=>absurd h (Nat.lt_irrefl 0)⟩⟩
  cases a with
  |none=>rfl
  |some a=>obtain ⟨b,off,s⟩:=a;rfl
 ·obtain ⟨b,off,s,k,rfl,hk,hlen,hcs⟩:=h0 (by omega)
  rw [show recK.length=39 from rfl] at hlen hcs
  have hl':=cZ hd
  have hk1:(g.alloc []).get b=some k:=Old.get o1 hk
  have hf:aS 39 P.length (.slice (some ⟨b,off,s⟩) P.length c) (g.alloc [])=some (aY P):=by
   unfold aS
   simp only
   rw [if_neg (by omega),hk1]
   simp only
   rw [hcs,if_pos ⟨hlen,(recsC_ok hd).1⟩]
  have o2:Old (g.alloc []) ((g.alloc []).alloc (aY P)):=Kept.alloc _ _ _
  have D2:RcS ((g.alloc []).alloc (aY P)) (.slice (some ⟨(g.alloc []).next,0,some 39⟩) P.length P.length) P:=by
   refine ⟨hd,_,_,rfl,fun h=>(by cases h),ht,fun _=>⟨_,_,_,aY P,rfl,by rw [ab.aH,if_pos rfl],?_,?_⟩⟩
   ·rw [show recK.length=39 from rfl,hl',Nat.zero_add]
    exact Nat.le_refl _
   ·rw [show recK.length=39 from rfl,List.drop_zero,←hl',List.take_length]
  refine ⟨.slice (some ⟨(g.alloc []).next,0,some 39⟩) P.length P.length,(g.alloc []).alloc (aY P),?_,o1.trans o2,D2.rsl,⟨_,_,_,rfl,Nat.le_refl _,fun _ b o s e=>by cases e;rfl⟩⟩
  have hf0:aS 39 0 (.slice (some ⟨g.next,0,none⟩) 0 0) (g.alloc [])=some []:=rfl
  unfold aO
  simp only [lenA,hf,hf0]
  rw [if_neg (by
   simp only [(recsC_ok hd).2,hl',Bool.not_true,Bool.false_or,Bool.or_eq_true,Bool.not_eq_true',decide_eq_false_iff_not,decide_eq_true_eq,Nat.zero_add]
   omega),if_neg (by omega)]
  simp only [List.nil_append,Nat.zero_add,List.length_nil,Nat.zero_mul]
  rw [if_neg (by simp)]
theorem is26:cj Tryd.prog 26 Tryd.f26:=⟨by kernel_rfl,by kernel_rfl,by kernel_rfl,by kernel_rfl⟩
theorem is60:cj Tryd.prog 60 Tryd.f60:=⟨by kernel_rfl,by kernel_rfl,by kernel_rfl,by kernel_rfl⟩
theorem is113:cj Tryd.prog 113 Tryd.f113:=⟨by kernel_rfl,by kernel_rfl,by kernel_rfl,by kernel_rfl⟩
theorem results113:Tryd.f113.results.toList = [.tmp 4]:=by kernel_rfl
set_option maxRecDepth 100000 in
theorem r113 {h:ab} (hG:4≤h.n0) {v fv:Value} {L:List ak} (hv:RSl h v L) (hl:L.length≤1000000) (p:ak→Bool) (hp : ∀ r∈L,r.Wf → ∀ g,Old h g → ∃ g',callA Tryd.prog CW fv [.agg (recC r).toArray] g=some (.bool (p r),g')∧Old g g') :
  ∃ (k:Int) (h':ab),CW 113 [v,fv] h=some (.int .i64 k,h')∧Old h h'∧decide (k≥0)=L.any p:=by
 have hll:=hv.len
 have key : ∃ o:Out,t113 CW v fv h=o ∧ ∃ (k:Int) (h':ab),o=some (.int .i64 k,h')∧Old h h'∧decide (k≥0)=L.any p:=by
  refine ⟨_,rfl,?_⟩
  unfold t113
  simp -implicitDefEqProofs only [hll,ad,af]
  refine bJ (n:=19) (fin:=fun ex y g=>Old h g∧((ex = .exit 0∧L.any p=false)∨(ex = .ret∧L.any p=true ∧ ∃ i:Nat,y 4=ai i))) (Q:=fun o:Out => ∃ (k:Int) (h':ab),o=some (.int .i64 k,h')∧Old h h'∧decide (k≥0)=L.any p)
   (bH (t113l113_1010_eq CW) (Inv:=fun k y g => ∃ i,i+k=L.length∧y 0=v∧y 1=fv∧y 7=ai L.length∧y 8=ai i∧Old h g∧L.any p=(L.drop i).any p) ?_ L.length (by have:rounds=18446744073709551616:=rfl;omega) ⟨0,by omega,rfl,rfl,rfl,rfl,Kept.refl _ _,by rw [List.drop_zero]⟩) ?_
  ·rintro k y g ⟨i,hik,y0,y1,y7,y8,O,ha⟩
   unfold t113l113_1010
   simp -implicitDefEqProofs only [y7,y8,lss3,ad,af]
   by_cases hi:i<L.length
   ·obtain ⟨b,o,ix,wr,mr,lp⟩:=hv.at hi
    have hd:L.drop i=L.getD i ak.z::L.drop (i+1):=by
     rw [List.drop_eq_getElem_cons hi,List.getD_eq_getElem?_getD,List.getElem?_eq_getElem hi]
     rfl
    rw [hd,List.any_cons] at ha
    generalize L.getD i ak.z=r at *
    have L1:=lp g O
    obtain ⟨g',e',o'⟩:=hp r mr wr g O
    cases hpr:p r with
    |true=>
     rw [hpr] at e'
     rw [hpr,Bool.true_or] at ha
     simp -implicitDefEqProofs only [decide_eq_true hi,y0,y1,ix,L1,e',ad,af]
     exact eS.ret ⟨O.trans o',.inr ⟨rfl,ha,i,rfl⟩⟩
    |false=>
     rw [hpr] at e'
     rw [hpr,Bool.false_or] at ha
     have a8:bin Tryd.prog .add 3 (ai i) (.int .i64 1)=some (ai (i+1)):=ff (by omega)
     simp -implicitDefEqProofs only [decide_eq_true hi,y0,y1,y8,ix,L1,e',a8,ad,af]
     exact eS.next (k-1) (by omega) ⟨i+1,by omega,y0,y1,y7,rfl,O.trans o',ha⟩
   ·have hiE:i=L.length:=by omega
    rw [hiE,List.drop_length] at ha
    simp -implicitDefEqProofs only [decide_eq_false hi,ad,af]
    exact eS.out 0 ⟨O,.inl ⟨rfl,ha⟩⟩
  ·rintro ex z g ⟨O,⟨rfl,ha⟩|⟨rfl,ha,i,z4⟩⟩
   ·simp -implicitDefEqProofs only [bn,b113_3,if_true,t113k113_1_eq]
    unfold t113k113_1
    exact ⟨-1,g,rfl,O,by rw [ha];rfl⟩
   ·rw [endL_ret,res_one results113 (by decide),z4]
    refine ⟨i,g,rfl,O,?_⟩
    rw [ha,decide_eq_true (by omega)]
 obtain ⟨o9,e,k,h',e',q⟩:=key
 exact ⟨k,h',aG is113 hG rfl ((t113_eq _ _ _ _).trans (e.trans e')),q⟩
theorem r60 {h:ab} (hG:4≤h.n0) {v fv:Value} {L:List ak} (hv:RSl h v L) (hl:L.length≤1000000) (p:ak→Bool) (hp : ∀ r∈L,r.Wf → ∀ g,Old h g → ∃ g',callA Tryd.prog CW fv [.agg (recC r).toArray] g=some (.bool (p r),g')∧Old g g') :
  ∃ h',CW 60 [v,fv] h=some (.bool (L.any p),h')∧Old h h':=by
 obtain ⟨k,h',e,o,q⟩:=r113 hG hv hl p hp
 have ge:bin Tryd.prog .geq 3 (.int .i64 k) (.int .i64 0)=some (.bool (L.any p)):=by rw [cJ,q]
 refine ⟨h',aG is60 hG rfl ((t60_eq _ _ _ _).trans ?_),o⟩
 unfold t60
 simp -implicitDefEqProofs only [e,ge,ad,af]
theorem fs_124:Nat.ble 125 Tryd.prog.funcs.size=true:=by kernel_rfl
def invB (L:List ak):Bool:=L.any fun r => !(fA r)
theorem invB_false {L:List ak} (h:invB L=false) : ∀ r∈L,fA r=true:=by
 intro r hr
 unfold invB at h
 rw [List.any_eq_false] at h
 have:=h r hr
 simpa using this
section
open Go.ChangeShapes Go.WideShapes Go.ChangeAt Go.RowKit
variable {H:Type} {enc:TypeId×Value→H} {W:World} {base:Nat} {held:Bool}
theorem gs_of {t e:TypeId} {z:Nat} (ht:Tryd.prog.underlying t=some (.slice e)) (he:Tryd.prog.cellsOf e=z) (hz:0<z) {fuel:Nat} {v:Value} {x:DataW H×List MemPlace} (h:DataW.trod enc Tryd.prog W base (fun _=>true) held fuel t [v]=some x) :
  ∃ a n c,clean W.heap.size v = .slice a n c∧n≤c∧(0<n → ∀ b o s,a=some ⟨b,o,some s⟩→False):=by
 rcases DataW.trod_slice ht h with ⟨h1,_⟩|⟨a,len,cap,elems,rest,n,_,h1,_,_,hlc,hcm,hl,hel,hsp,_⟩
 ·cases h1
  exact ⟨none,0,0,rfl,Nat.le_refl _,fun h=>absurd h (Nat.lt_irrefl 0)⟩
 ·cases h1
  rw [he] at hel hsp
  have hpos:0<cap→a.spot=none∧a.block<W.heap.size:=by
   intro h0
   have key : ∃ cs,W.cells? base (a.add (0*z)) z=some cs:=by
    by_cases hlen:0<len
    ·have:=hel 0 hlen
     rw [List.getElem?_eq_getElem (by omega),Option.bind_eq_some_iff] at this
     obtain ⟨cs,hc,_⟩:=this
     exact ⟨cs,hc⟩
    ·have:=(hsp rfl).2 0 (by omega)
     rw [List.getElem?_eq_getElem (by rw [(hsp rfl).1];omega),Option.bind_eq_some_iff] at this
     obtain ⟨cs,hc,_⟩:=this
     obtain rfl:len=0:=by omega
     exact ⟨cs,hc⟩
   obtain ⟨cs,hc⟩:=key
   obtain ⟨_,hlen,hcell⟩:=World.cells?_some hc
   have g:=hcell 0 hz
   obtain ⟨c0,hc0⟩ : ∃ c0,cs[0]? = some c0:=⟨cs[0],List.getElem?_eq_getElem (by omega)⟩
   rw [hc0,Nat.zero_mul] at g
   have g:W.cell? a=some c0:=g
   obtain ⟨e1,e2,_⟩:=view_cell g
   exact ⟨e1,e2⟩
  obtain ⟨g1,a',g2,g3⟩:=clean_slice (W:=W) hlc hpos
  refine ⟨_,_,_,g2,hlc,fun h0 b o s e => ?_⟩
  have:=g3 (by omega)
  subst this
  have hs:=(hpos (by omega)).1
  rw [Option.some.inj e] at hs
  cases hs
theorem sl22 {fuel:Nat} {v:Value} {x:DataW H×List MemPlace} (h:DataW.trod enc Tryd.prog W base (fun _=>true) held fuel 22 [v]=some x) :
  isHole (clean W.heap.size v)=false∧Value.oneCell' (clean W.heap.size v)=true∧gR (clean W.heap.size v) ∧ ∃ L,RcS (cQ W (view W)) (clean W.heap.size v) L:=by
 obtain ⟨h1,n,cs,S⟩:=sl_of Tryd.underlying22 (ks:=recK) (by kernel_rfl) (by decide) rd58 h
 obtain ⟨a,m,c,e,h2,h3⟩:=gs_of Tryd.underlying22 (z:=39) (by kernel_rfl) (by decide) h
 obtain ⟨P,hP,hcs,hd⟩:=list_of (f:=recC) (P:=ak.Wf) (fun xs hx=>rec_of hx) n cs S.typed
 subst hP
 subst hcs
 refine ⟨h1,by rw [e];rfl,⟨a,m,c,e,h2,fun h0 b o s q=>(h3 h0 b o s q).elim⟩,P,hd,S⟩
end
end Go.Proofs.YtdnahgfgoajmcaaDoor

namespace Go.Proofs.YtdnahgfgoajmcaaDoor
open Go Go.Abs
def wv (x:BitVec 32):Value := .int .u32 (x.toNat:Int)
section
variable {P:Program} {t:TypeId}
theorem w_add (x y:BitVec 32):bin P .add t (wv x) (wv y)=some (wv (x+y)):=by
 unfold wv
 rw [bin_add,wrap_u32_mod,BitVec.toNat_add]
 congr 3
theorem w_xor (x y:BitVec 32):bin P .xor t (wv x) (wv y)=some (wv (x ^^^ y)):=by
 unfold wv
 rw [bin_xor_nat P t rfl x.isLt y.isLt,BitVec.toNat_xor]
theorem w_and (x y:BitVec 32):bin P .and t (wv x) (wv y)=some (wv (x &&& y)):=by
 unfold wv
 rw [bin_and_nat P t rfl x.isLt y.isLt,BitVec.toNat_and]
theorem w_or (x y:BitVec 32):bin P .or t (wv x) (wv y)=some (wv (x ||| y)):=by
 unfold wv
 rw [bin_or_nat P t rfl x.isLt y.isLt,BitVec.toNat_or]
theorem w_shr (x:BitVec 32) {k:Nat} (hk:k≤32):bin P .shr t (wv x) (.int .u64 (k:Int))=some (wv (x >>> k)):=by
 unfold wv
 rw [fN P t (by show k≤32;exact hk),BitVec.toNat_ushiftRight,Nat.shiftRight_eq_div_pow]
theorem w_shl (x:BitVec 32) {k:Nat} (hk:k≤32):bin P .shl t (wv x) (.int .u64 (k:Int))=some (wv (x <<< k)):=by
 unfold wv
 rw [dg]
 unfold binI
 simp only
 have hm:min ((k:Int)).toNat (IntKind.bits .u32)=k:=by
  rw [Int.toNat_natCast]
  exact Nat.min_eq_left hk
 rw [if_neg (by omega),hm,wrap_u32_mod,BitVec.toNat_shiftLeft,Nat.shiftLeft_eq]
 congr 2
theorem w_byte (n:Nat) (hn:n<256) (h:ab):cvI .u32 (u8 n) h=some (wv (BitVec.ofNat 32 n),h):=by
 unfold wv
 rw [fz,wrap_u32 (by omega) (by omega),BitVec.toNat_ofNat,Nat.mod_eq_of_lt (by omega)]
end
def rotR (x:BitVec 32) (n:Nat):BitVec 32:=(x <<< (32-n)) ||| (x >>> n)
end Go.Proofs.YtdnahgfgoajmcaaDoor

namespace Go.Proofs.YtdnahgfgoajmcaaDoor
open Go Go.Abs
attribute [local congr] aj
theorem is159:cj Tryd.prog 159 Tryd.f159:=⟨by kernel_rfl,by kernel_rfl,by kernel_rfl,by kernel_rfl⟩
theorem r159 {h:ab} (hG:4≤h.n0) (x:BitVec 32) {k:Nat} (hk:k≤32) {z:Int} (e:bin Tryd.prog .and 111 (.int .u64 (IntKind.wrap .u64 z)) (.int .u64 31)=some (.int .u64 ((32-k:Nat):Int))):CW 159 [wv x,.int .i64 z] h=some (wv (rotR x k),h):=by
 refine aG is159 hG rfl ((t159_eq _ _ _ _).trans ?_)
 unfold t159
 have e2:bin Tryd.prog .sub 111 (.int .u64 32) (.int .u64 ((32-k:Nat):Int))=some (.int .u64 ((k:Nat):Int)):=by
  rw [bin_sub,show (32:Int)-((32-k:Nat):Int)=(k:Int) by omega,wrap_u64 (by omega) (by omega)]
 simp -implicitDefEqProofs only [fz,e,e2,w_shl x (show 32-k≤32 by omega),w_shr x hk,w_or,ad,af]
 rfl
def w4 (a b c d:Nat):BitVec 32:=(BitVec.ofNat 32 a <<< 24) ||| (BitVec.ofNat 32 b <<< 16) ||| (BitVec.ofNat 32 c <<< 8) ||| BitVec.ofNat 32 d
def wAt (B:List Nat) (i:Nat):BitVec 32:=w4 (B.getD (4*i) 0) (B.getD (4*i+1) 0) (B.getD (4*i+2) 0) (B.getD (4*i+3) 0)
def sch0 (B:List Nat):List (BitVec 32):=(List.range 16).map (wAt B)
def s0w (x:BitVec 32):BitVec 32:=rotR x 7 ^^^ rotR x 18 ^^^ (x >>> 3)
def s1w (y:BitVec 32):BitVec 32:=rotR y 17 ^^^ rotR y 19 ^^^ (y >>> 10)
def nextW (l:List (BitVec 32)):BitVec 32:=l.getD (l.length-16) 0+s0w (l.getD (l.length-15) 0)+l.getD (l.length-7) 0+s1w (l.getD (l.length-2) 0)
def extW:Nat→List (BitVec 32)→List (BitVec 32)
 | 0,l=>l
 |n+1,l=>extW n (l ++ [nextW l])
abbrev wvs (l:List (BitVec 32)):List Value:=l.map wv
def wTab (l:List (BitVec 32)):List Value:=wvs l++List.replicate (64-l.length) (.int .u32 0)
theorem wTab_len {l:List (BitVec 32)} (h:l.length≤64):(wTab l).length=64:=by unfold wTab;simp;omega
theorem wTab_set {l:List (BitVec 32)} {i:Nat} (hl:l.length=i) (hi:i<64) (x:BitVec 32):(wTab l).set i (wv x)=wTab (l ++ [x]):=by
 subst hl
 unfold wTab
 have e:64-l.length=(64-(l.length+1))+1:=by omega
 rw [e,List.replicate_succ]
 rw [set_app (A:=wvs l) (B':=wv x::List.replicate (64-(l.length+1)) (.int .u32 0)) 0 (by simp) rfl]
 simp
theorem wTab_at {l:List (BitVec 32)} {i:Nat} (hi:i<l.length):(wTab l)[i]? = some (wv (l.getD i 0)):=by
 unfold wTab
 rw [List.getElem?_append_left (by simpa using hi),List.getElem?_map,List.getD_eq_getElem?_getD,List.getElem?_eq_getElem hi]
 rfl
def cU (S:List (BitVec 32)) (B:List Nat) (n:Nat):List Value:=wvs S++(aZ B ++ [ai n])
theorem hash_byte {S:List (BitVec 32)} {B:List Nat} {n:Nat} (hS:S.length=8) {j:Nat} (hj:j<B.length):(cU S B n)[8+j]? = some (u8 (B.getD j 0)):=by
 unfold cU
 rw [List.getElem?_append_right (by simp [hS]),List.length_map,hS,Nat.add_sub_cancel_left,List.getElem?_append_left (by simpa using hj),List.getElem?_map,List.getD_eq_getElem?_getD,List.getElem?_eq_getElem hj]
 rfl
theorem idxN {N b o i:Nat} (hi:i<N):cP N 1 (ptr b o) (ai i)=some (ptr b (o+i)):=by
 unfold cP
 simp only [ai]
 rw [if_pos (by omega),Int.toNat_natCast,Nat.mul_one,aA]
theorem mul4 {i:Nat} (hi:i<1000):bin Tryd.prog .mul 3 (.int .i64 4) (ai i)=some (ai (4*i)):=by
 unfold ai
 rw [bin_mul,show (4:Int)*(i:Int)=((4*i:Nat):Int) by omega,wrap_i64 (by omega) (by omega)]
theorem addc {i c:Nat} (hi:i+c<100000):bin Tryd.prog .add 3 (ai i) (.int .i64 (c:Int))=some (ai (i+c)):=by
 unfold ai
 rw [bin_add,show (i:Int)+(c:Int)=((i+c:Nat):Int) by omega,wrap_i64 (by omega) (by omega)]
theorem subc {i c:Nat} (hi:i<100000) (hc:c≤i):bin Tryd.prog .sub 3 (ai i) (.int .i64 (c:Int))=some (ai (i-c)):=by
 unfold ai
 rw [bin_sub,show (i:Int)-(c:Int)=((i-c:Nat):Int) by omega,wrap_i64 (by omega) (by omega)]
theorem bys_getD {B:List Nat} (hB:Bys B) {j:Nat} (hj:j<B.length):B.getD j 0<256:=by
 rw [List.getD_eq_getElem?_getD,List.getElem?_eq_getElem hj]
 exact hB _ (List.getElem_mem hj)
theorem cmp1 {h:ab} {p b:Nat} {S:List (BitVec 32)} {B:List Nat} {n:Nat} (hS:S.length=8) (hBl:B.length=64) (hB:Bys B) (hp:h.get p=some (cU S B n)) (hb:h.n0≤b) (hpb:p≠b) (hw:h.get b=some (wTab []))
  {x:Nat→Value} (x0:x 0=ptr p 0) (x2:x 2=ptr b 0) (x24:x 24=ai 0) :
  Fin 241 (fun ex y g=>ex = .exit 0∧y 0=ptr p 0∧y 2=ptr b 0∧Kept h g (· = b)∧g.get b=some (wTab (sch0 B))∧g.next=h.next) (iter (au Tryd.prog CW (partOf Tryd.f149 [1,0,1,0,0])) rounds (aN 241 x) h):=by
 refine bH (t149l149_1010_eq CW) (Inv:=fun k y g => ∃ i,i+k=16∧y 0=ptr p 0∧y 2=ptr b 0∧y 24=ai i∧Kept h g (· = b)∧g.get b=some (wTab ((List.range i).map (wAt B)))∧g.next=h.next) ?_ 16 (by have:rounds=18446744073709551616:=rfl;omega) ⟨0,Nat.zero_add _,x0,x2,x24,Kept.refl _ _,hw,rfl⟩
 rintro k y g ⟨i,hik,y0,y2,y24,K,gw,gn⟩
 unfold t149l149_1010
 have l16:bin Tryd.prog .lss 3 (ai i) (.int .i64 16)=some (.bool (decide (i<16))):=lss3 i 16
 simp -implicitDefEqProofs only [y24,l16,ad,af]
 by_cases hi:i<16
 ·have gp:g.get p=some (cU S B n):=Kept.dv K hp hpb
  have lb : ∀ j,j<64→ld1 (ptr p (8+j)) g=some (u8 (B.getD j 0),g):=fun j hj=>ba gp (hash_byte hS (by omega)) rfl
  have c0:=w_byte _ (bys_getD hB (j:=4*i) (by omega)) g
  have c1:=w_byte _ (bys_getD hB (j:=4*i+1) (by omega)) g
  have c2:=w_byte _ (bys_getD hB (j:=4*i+2) (by omega)) g
  have c3:=w_byte _ (bys_getD hB (j:=4*i+3) (by omega)) g
  have a1:bin Tryd.prog .add 3 (ai (4*i)) (.int .i64 1)=some (ai (4*i+1)):=addc (c:=1) (by omega)
  have a2:bin Tryd.prog .add 3 (ai (4*i)) (.int .i64 2)=some (ai (4*i+2)):=addc (c:=2) (by omega)
  have a3:bin Tryd.prog .add 3 (ai (4*i)) (.int .i64 3)=some (ai (4*i+3)):=addc (c:=3) (by omega)
  have sh24 : ∀ x:BitVec 32,bin Tryd.prog .shl 174 (wv x) (.int .u64 24)=some (wv (x <<< 24)):=fun x=>w_shl x (k:=24) (by decide)
  have sh16 : ∀ x:BitVec 32,bin Tryd.prog .shl 174 (wv x) (.int .u64 16)=some (wv (x <<< 16)):=fun x=>w_shl x (k:=16) (by decide)
  have sh8 : ∀ x:BitVec 32,bin Tryd.prog .shl 174 (wv x) (.int .u64 8)=some (wv (x <<< 8)):=fun x=>w_shl x (k:=8) (by decide)
  have ll:((List.range i).map (wAt B)).length=i:=by simp
  obtain ⟨g2,e2,k2,s2,_,m2⟩:=stored (o:=i) (v:=wv (wAt B i)) gw (by rw [K.n0];exact hb) (by rw [wTab_len (by omega)];omega) rfl rfl
  have hw4:wv (BitVec.ofNat 32 (B.getD (4*i) 0) <<< 24 ||| BitVec.ofNat 32 (B.getD (4*i+1) 0) <<< 16 ||| BitVec.ofNat 32 (B.getD (4*i+2) 0) <<< 8 ||| BitVec.ofNat 32 (B.getD (4*i+3) 0))=wv (wAt B i):=rfl
  have ix:cP 64 1 (ptr b 0) (ai i)=some (ptr b i):=by rw [idxN (by omega),Nat.zero_add]
  simp -implicitDefEqProofs only [decide_eq_true hi,y0,y2,y24,mul4 (show i<1000 by omega),bh,aA,Nat.zero_add,idxN (show 4*i<64 by omega),idxN (show 4*i+1<64 by omega),idxN (show 4*i+2<64 by omega),idxN (show 4*i+3<64 by omega),lb (4*i) (by omega),lb (4*i+1) (by omega),lb (4*i+2) (by omega),lb (4*i+3) (by omega),c0,c1,c2,c3,a1,a2,a3,sh24,sh16,sh8,w_or,hw4,ix,e2,ff (show i+1≤9223372036854775807 by omega),ad,af]
  refine eS.next (k-1) (by omega) ⟨i+1,by omega,y0,y2,rfl,K.trans k2,?_,m2.trans gn⟩
  rw [s2,wTab_set ll (by omega),List.range_succ,List.map_append]
  rfl
 ·have:i=16:=by omega
  subst this
  simp -implicitDefEqProofs only [decide_eq_false hi,ad,af]
  exact eS.out 0 ⟨rfl,y0,y2,K,gw,gn⟩
end Go.Proofs.YtdnahgfgoajmcaaDoor

namespace Go.Proofs.YtdnahgfgoajmcaaDoor
open Go Go.Abs
attribute [local congr] aj
theorem and25:bin Tryd.prog .and 111 (.int .u64 (IntKind.wrap .u64 (-7))) (.int .u64 31)=some (.int .u64 ((32-7:Nat):Int)):=by kernel_rfl
theorem rots {h:ab} (hG:4≤h.n0) (x:BitVec 32):CW 159 [wv x,.int .i64 (-7)] h=some (wv (rotR x 7),h)∧CW 159 [wv x,.int .i64 (-18)] h=some (wv (rotR x 18),h)∧CW 159 [wv x,.int .i64 (-17)] h=some (wv (rotR x 17),h)∧CW 159 [wv x,.int .i64 (-19)] h=some (wv (rotR x 19),h) ∧
  CW 159 [wv x,.int .i64 (-6)] h=some (wv (rotR x 6),h)∧CW 159 [wv x,.int .i64 (-11)] h=some (wv (rotR x 11),h)∧CW 159 [wv x,.int .i64 (-25)] h=some (wv (rotR x 25),h)∧CW 159 [wv x,.int .i64 (-2)] h=some (wv (rotR x 2),h)∧CW 159 [wv x,.int .i64 (-13)] h=some (wv (rotR x 13),h)∧CW 159 [wv x,.int .i64 (-22)] h=some (wv (rotR x 22),h):=
 ⟨r159 hG x (by decide) and25,r159 hG x (k:=18) (by decide) (by kernel_rfl),r159 hG x (k:=17) (by decide) (by kernel_rfl),r159 hG x (k:=19) (by decide) (by kernel_rfl),r159 hG x (k:=6) (by decide) (by kernel_rfl),r159 hG x (k:=11) (by decide) (by kernel_rfl),r159 hG x (k:=25) (by decide) (by kernel_rfl),r159 hG x (k:=2) (by decide) (by kernel_rfl),r159 hG x (k:=13) (by decide) (by kernel_rfl),r159 hG x (k:=22) (by decide) (by kernel_rfl)⟩
theorem extW_len : ∀ (n:Nat) (l:List (BitVec 32)),(extW n l).length=l.length+n
 | 0,l=>rfl
 |n+1,l=>by rw [extW,extW_len n,List.length_append];simp;omega
theorem extW_snoc : ∀ (n:Nat) (l:List (BitVec 32)),extW n l ++ [nextW (extW n l)]=extW (n+1) l
 | 0,l=>rfl
 |n+1,l=>by rw [extW,extW_snoc n];rfl
theorem cmp2 {h:ab} (hG:4≤h.n0) {p b:Nat} {l:List (BitVec 32)} (hl:l.length=16) (hb:h.n0≤b) (hw:h.get b=some (wTab l))
  {x:Nat→Value} (x0:x 0=ptr p 0) (x2:x 2=ptr b 0) (x4:x 4=ai 16) :
  Fin 241 (fun ex y g=>ex = .exit 2∧y 0=ptr p 0∧y 2=ptr b 0∧Kept h g (· = b)∧g.get b=some (wTab (extW 48 l))∧g.next=h.next) (iter (au Tryd.prog CW (partOf Tryd.f149 [1,1,0,1,0,0])) rounds (aN 241 x) h):=by
 refine bH (t149l149_11010_eq CW) (Inv:=fun k y g => ∃ i,i+k=48∧y 0=ptr p 0∧y 2=ptr b 0∧y 4=ai (16+i)∧Kept h g (· = b)∧g.get b=some (wTab (extW i l))∧g.next=h.next) ?_ 48 (by have:rounds=18446744073709551616:=rfl;omega) ⟨0,Nat.zero_add _,x0,x2,x4,Kept.refl _ _,hw,rfl⟩
 rintro k y g ⟨i,hik,y0,y2,y4,K,gw,gn⟩
 unfold t149l149_11010
 have l64:bin Tryd.prog .lss 3 (ai (16+i)) (.int .i64 64)=some (.bool (decide (16+i<64))):=lss3 (16+i) 64
 simp -implicitDefEqProofs only [y4,l64,ad,af]
 by_cases hi:16+i<64
 ·have len:(extW i l).length=16+i:=by rw [extW_len,hl]
  have hg:4≤g.n0:=by rw [K.n0];exact hG
  have s15:bin Tryd.prog .sub 3 (ai (16+i)) (.int .i64 15)=some (ai (16+i-15)):=subc (c:=15) (by omega) (by omega)
  have s2:bin Tryd.prog .sub 3 (ai (16+i)) (.int .i64 2)=some (ai (16+i-2)):=subc (c:=2) (by omega) (by omega)
  have s16:bin Tryd.prog .sub 3 (ai (16+i)) (.int .i64 16)=some (ai (16+i-16)):=subc (c:=16) (by omega) (by omega)
  have s7:bin Tryd.prog .sub 3 (ai (16+i)) (.int .i64 7)=some (ai (16+i-7)):=subc (c:=7) (by omega) (by omega)
  have ix : ∀ j,j<64→cP 64 1 (ptr b 0) (ai j)=some (ptr b j):=fun j hj=>by rw [idxN hj,Nat.zero_add]
  have lw : ∀ j,j<16+i→ld1 (ptr b j) g=some (wv ((extW i l).getD j 0),g):=fun j hj=>ba gw (wTab_at (by omega)) rfl
  generalize hX:(extW i l).getD (16+i-15) 0=X at *
  generalize hY:(extW i l).getD (16+i-2) 0=Y at *
  have lX:=lw (16+i-15) (by omega)
  have lY:=lw (16+i-2) (by omega)
  rw [hX] at lX
  rw [hY] at lY
  obtain ⟨rx7,rx18,_⟩:=rots hg X
  obtain ⟨_,_,ry17,ry19,_⟩:=rots hg Y
  have sh3 : ∀ x:BitVec 32,bin Tryd.prog .shr 174 (wv x) (.int .u64 3)=some (wv (x >>> 3)):=fun x=>w_shr x (k:=3) (by decide)
  have sh10 : ∀ x:BitVec 32,bin Tryd.prog .shr 174 (wv x) (.int .u64 10)=some (wv (x >>> 10)):=fun x=>w_shr x (k:=10) (by decide)
  have hN:wv ((extW i l).getD (16+i-16) 0+(rotR X 7 ^^^ rotR X 18 ^^^ X >>> 3)+(extW i l).getD (16+i-7) 0+(rotR Y 17 ^^^ rotR Y 19 ^^^ Y >>> 10))=wv (nextW (extW i l)):=by
   unfold nextW s0w s1w
   rw [len,hX,hY]
  obtain ⟨g2,e2,k2,t2,_,m2⟩:=stored (o:=16+i) (v:=wv (nextW (extW i l))) gw (by rw [K.n0];exact hb) (by rw [wTab_len (by omega)];omega) rfl rfl
  simp -implicitDefEqProofs only [decide_eq_true hi,y2,y4,s15,s2,s16,s7,ix (16+i-15) (by omega),ix (16+i-2) (by omega),ix (16+i-16) (by omega),ix (16+i-7) (by omega),ix (16+i) (by omega),lX,lY,lw (16+i-16) (by omega),lw (16+i-7) (by omega),rx7,rx18,ry17,ry19,w_xor,sh3,sh10,w_add,hN,e2,ff (show 16+i+1≤9223372036854775807 by omega),ad,af]
  refine eS.next (k-1) (by omega) ⟨i+1,by omega,y0,y2,rfl,K.trans k2,?_,m2.trans gn⟩
  rw [t2,wTab_set len (by omega),extW_snoc]
 ·have:i=48:=by omega
  subst this
  simp -implicitDefEqProofs only [decide_eq_false hi,ad,af]
  exact eS.out 2 ⟨rfl,y0,y2,K,gw,gn⟩
end Go.Proofs.YtdnahgfgoajmcaaDoor

namespace Go.Proofs.YtdnahgfgoajmcaaDoor
open Go Go.Abs
attribute [local congr] aj
def rkW:List (BitVec 32):=bB.map fun v=>match v with | .int _ n=>BitVec.ofInt 32 n|_=>0
theorem rkW_eq:wvs rkW=bB:=by kernel_rfl
theorem rkW_len:rkW.length=64:=by unfold rkW;rw [List.length_map];kernel_rfl
structure St where
 a:BitVec 32
 b:BitVec 32
 c:BitVec 32
 d:BitVec 32
 e:BitVec 32
 f:BitVec 32
 g:BitVec 32
 i:BitVec 32
def St.l (s:St):List (BitVec 32) := [s.a,s.b,s.c,s.d,s.e,s.f,s.g,s.i]
def t1S (s:St) (k w:BitVec 32):BitVec 32:=s.i+(rotR s.e 6 ^^^ rotR s.e 11 ^^^ rotR s.e 25)+(s.g ^^^ (s.e &&& (s.f ^^^ s.g)))+k+w
def t2S (s:St):BitVec 32:=(rotR s.a 2 ^^^ rotR s.a 13 ^^^ rotR s.a 22)+((s.a &&& s.b) ||| (s.c &&& (s.a ||| s.b)))
def stepS (s:St) (k w:BitVec 32):St:=⟨t1S s k w+t2S s,s.a,s.b,s.c,s.d+t1S s k w,s.e,s.f,s.g⟩
def runS (W:List (BitVec 32)):Nat→St→St
 | 0,s=>s
 |n+1,s=>stepS (runS W n s) (rkW.getD n 0) (W.getD n 0)
structure StE (s:St) (y:Nat→Value):Prop where
 a:y 9=wv s.a
 b:y 10=wv s.b
 c:y 11=wv s.c
 d:y 12=wv s.d
 e:y 13=wv s.e
 f:y 14=wv s.f
 g:y 15=wv s.g
 i:y 16=wv s.i
set_option maxRecDepth 100000 in
theorem cmp3 {h:ab} (hG:4≤h.n0) (hz:h.get 3=some bB) {p b:Nat} {W:List (BitVec 32)} (hl:W.length=64) (hw:h.get b=some (wTab W)) {s:St}
  {x:Nat→Value} (x0:x 0=ptr p 0) (x2:x 2=ptr b 0) (x154:x 154=ai 0) (xs:StE s x) :
  Fin 241 (fun ex y g=>ex = .exit 4∧y 0=ptr p 0∧StE (runS W 64 s) y∧g=h) (iter (au Tryd.prog CW (partOf Tryd.f149 [1,1,1,1,1,0,1,0,0])) rounds (aN 241 x) h):=by
 refine bH (t149l149_11111010_eq CW) (Inv:=fun k y g => ∃ i,i+k=64∧y 0=ptr p 0∧y 2=ptr b 0∧y 154=ai i∧StE (runS W i s) y∧g=h) ?_ 64 (by have:rounds=18446744073709551616:=rfl;omega) ⟨0,Nat.zero_add _,x0,x2,x154,xs,rfl⟩
 rintro k y g ⟨i,hik,y0,y2,y154,Y,rfl⟩
 unfold gq
 have l64:bin Tryd.prog .lss 3 (ai i) (.int .i64 64)=some (.bool (decide (i<64))):=lss3 i 64
 simp -implicitDefEqProofs only [y154,l64,ad,af]
 by_cases hi:i<64
 ·have ix:cP 64 1 (ptr b 0) (ai i)=some (ptr b i):=by rw [idxN hi,Nat.zero_add]
  have ix3:cP 64 1 (ptr 3 0) (ai i)=some (ptr 3 i):=by rw [idxN hi,Nat.zero_add]
  have lw:ld1 (ptr b i) g=some (wv (W.getD i 0),g):=ba hw (wTab_at (by omega)) rfl
  have lk:ld1 (ptr 3 i) g=some (wv (rkW.getD i 0),g):=ba hz (by
   rw [←rkW_eq,List.getElem?_map,List.getD_eq_getElem?_getD,List.getElem?_eq_getElem (by rw [rkW_len];exact hi)]
   rfl) rfl
  generalize hs:runS W i s=q at *
  obtain ⟨_,_,_,_,re6,re11,re25,_⟩:=rots hG q.e
  obtain ⟨_,_,_,_,_,_,_,ra2,ra13,ra22⟩:=rots hG q.a
  simp -implicitDefEqProofs only [decide_eq_true hi,y2,y154,Y.a,Y.b,Y.c,Y.d,Y.e,Y.f,Y.g,Y.i,ix,ix3,lw,lk,re6,re11,re25,ra2,ra13,ra22,w_xor,w_and,w_or,w_add,ff (show i+1≤9223372036854775807 by omega),ad,af]
  refine eS.next (k-1) (by omega) ⟨i+1,by omega,y0,y2,rfl,?_,rfl⟩
  rw [runS,hs]
  exact ⟨rfl,rfl,rfl,rfl,rfl,rfl,rfl,rfl⟩
 ·have:i=64:=by omega
  subst this
  simp -implicitDefEqProofs only [decide_eq_false hi,ad,af]
  exact eS.out 4 ⟨rfl,y0,⟨Y.a,Y.b,Y.c,Y.d,Y.e,Y.f,Y.g,Y.i⟩,rfl⟩
def addS (l m:List (BitVec 32)):List (BitVec 32):=List.zipWith (· + ·) l m
def compS (S:List (BitVec 32)) (B:List Nat):List (BitVec 32):=addS S (runS (extW 48 (sch0 B)) 64 ⟨S.getD 0 0,S.getD 1 0,S.getD 2 0,S.getD 3 0,S.getD 4 0,S.getD 5 0,S.getD 6 0,S.getD 7 0⟩).l
theorem compS_len {S:List (BitVec 32)} {B:List Nat} (h:S.length=8):(compS S B).length=8:=by unfold compS addS;rw [List.length_zipWith,h];rfl
end Go.Proofs.YtdnahgfgoajmcaaDoor

namespace Go.Proofs.YtdnahgfgoajmcaaDoor
open Go Go.Abs
attribute [local congr] aj
theorem eight {S:List (BitVec 32)} (h:S.length=8) : ∃ a b c d e f g i,S = [a,b,c,d,e,f,g,i]:=by
 match S,h with
 | [a,b,c,d,e,f,g,i],_=>exact ⟨a,b,c,d,e,f,g,i,rfl⟩
def mixS (S L:List (BitVec 32)) (i:Nat):List (BitVec 32):=(addS S L).take i++S.drop i
theorem mix_step {S L:List (BitVec 32)} (hS:S.length=8) (hL:L.length=8) {i:Nat} (hi:i<8):(mixS S L i).getD i 0=S.getD i 0∧(mixS S L i).set i (S.getD i 0+L.getD i 0)=mixS S L (i+1)∧(mixS S L i).length=8:=by
 obtain ⟨a,b,c,d,e,f,g,j,rfl⟩:=eight hS
 obtain ⟨a',b',c',d',e',f',g',j',rfl⟩:=eight hL
 match i,hi with
 | 0,_=>exact ⟨rfl,rfl,rfl⟩
 | 1,_=>exact ⟨rfl,rfl,rfl⟩
 | 2,_=>exact ⟨rfl,rfl,rfl⟩
 | 3,_=>exact ⟨rfl,rfl,rfl⟩
 | 4,_=>exact ⟨rfl,rfl,rfl⟩
 | 5,_=>exact ⟨rfl,rfl,rfl⟩
 | 6,_=>exact ⟨rfl,rfl,rfl⟩
 | 7,_=>exact ⟨rfl,rfl,rfl⟩
theorem hash_word {S:List (BitVec 32)} {B:List Nat} {n j:Nat} (hj:j<S.length):(cU S B n)[j]? = some (wv (S.getD j 0)):=by
 unfold cU
 rw [List.getElem?_append_left (by simpa using hj),List.getElem?_map,List.getD_eq_getElem?_getD,List.getElem?_eq_getElem hj]
 rfl
theorem hash_set {S:List (BitVec 32)} {B:List Nat} {n j:Nat} (hj:j<S.length) (x:BitVec 32):(cU S B n).set j (wv x)=cU (S.set j x) B n:=by
 unfold cU
 rw [List.set_append_left _ _ (by simpa using hj)]
 show (S.map wv).set j (wv x)++_=(S.set j x).map wv++_
 rw [List.map_set]
theorem hash_len {S:List (BitVec 32)} {B:List Nat} {n:Nat}:(cU S B n).length=S.length+B.length+1:=by
 unfold cU
 simp
 omega
theorem cmp4 {h:ab} {p:Nat} {S L:List (BitVec 32)} {B:List Nat} {n:Nat} (hS:S.length=8) (hL:L.length=8) (hp:h.get p=some (cU S B n)) (hp0:h.n0≤p)
  {x:Nat→Value} (x0:x 0=ptr p 0) (x224:x 224 = .agg (wvs L).toArray) (x225:x 225=ai 0) :
  Fin 241 (fun ex _ g=>ex = .exit 6∧Kept h g (· = p)∧g.get p=some (cU (addS S L) B n)∧g.next=h.next) (iter (au Tryd.prog CW (partOf Tryd.f149 [1,1,1,1,1,1,1,0,0])) rounds (aN 241 x) h):=by
 have hm0:mixS S L 0=S:=rfl
 have hm8:mixS S L 8=addS S L:=by
  obtain ⟨a,b,c,d,e,f,g,j,rfl⟩:=eight hS
  obtain ⟨a',b',c',d',e',f',g',j',rfl⟩:=eight hL
  rfl
 refine bH (t149l149_11111110_eq CW) (Inv:=fun k y g => ∃ i,i+k=8∧y 0=ptr p 0∧y 224 = .agg (wvs L).toArray∧y 225=ai i∧Kept h g (· = p)∧g.get p=some (cU (mixS S L i) B n)∧g.next=h.next) ?_ 8 (by have:rounds=18446744073709551616:=rfl;omega) ⟨0,Nat.zero_add _,x0,x224,x225,Kept.refl _ _,by rw [hm0];exact hp,rfl⟩
 rintro k y g ⟨i,hik,y0,y224,y225,K,gp,gn⟩
 unfold gj
 have l8:bin Tryd.prog .lss 3 (ai i) (.int .i64 8)=some (.bool (decide (i<8))):=lss3 i 8
 simp -implicitDefEqProofs only [y225,l8,ad,af]
 by_cases hi:i<8
 ·obtain ⟨m1,m2,m3⟩:=mix_step hS hL hi
  have ix:cP 8 1 (ptr p 0) (ai i)=some (ptr p i):=by rw [idxN hi,Nat.zero_add]
  have ia:ixA1 8 1 (.agg (wvs L).toArray) (ai i)=some (wv (L.getD i 0)):=by
   unfold ixA1
   simp only [ai]
   rw [if_pos (by omega),Int.toNat_natCast,Nat.mul_one,List.getElem?_toArray,List.getElem?_map,List.getD_eq_getElem?_getD,List.getElem?_eq_getElem (by omega)]
   rfl
  have lp:ld1 (ptr p i) g=some (wv (S.getD i 0),g):=by
   rw [←m1]
   exact ba gp (hash_word (by omega)) rfl
  obtain ⟨g2,e2,k2,t2,_,n2⟩:=stored (o:=i) (v:=wv (S.getD i 0+L.getD i 0)) gp (by rw [K.n0];exact hp0) (by rw [hash_len,m3];omega) rfl rfl
  simp -implicitDefEqProofs only [decide_eq_true hi,y0,y224,y225,ia,bh,aA,Nat.zero_add,ix,lp,w_add,e2,ff (show i+1≤9223372036854775807 by omega),ad,af]
  refine eS.next (k-1) (by omega) ⟨i+1,by omega,y0,y224,rfl,K.trans k2,?_,n2.trans gn⟩
  rw [t2,hash_set (by omega),m2]
 ·have:i=8:=by omega
  subst this
  simp -implicitDefEqProofs only [decide_eq_false hi,ad,af]
  rw [hm8] at gp
  exact eS.out 6 ⟨rfl,K,gp,gn⟩
theorem is149:cj Tryd.prog 149 Tryd.f149:=⟨by kernel_rfl,by kernel_rfl,by kernel_rfl,by kernel_rfl⟩
theorem results149:Tryd.f149.results.toList = []:=by kernel_rfl
theorem bld8v (a b c d e f g i:Int):ep (List.replicate 8 (.int .u32 0)) [(0,1,.int .u32 a),(1,1,.int .u32 b),(2,1,.int .u32 c),(3,1,.int .u32 d),(4,1,.int .u32 e),(5,1,.int .u32 f),(6,1,.int .u32 g),(7,1,.int .u32 i)]=some (.agg ([Value.int .u32 a,.int .u32 b,.int .u32 c,.int .u32 d,.int .u32 e,.int .u32 f,.int .u32 g,.int .u32 i]).toArray):=by kernel_rfl
theorem bld8 (a b c d e f g i:BitVec 32):ep (List.replicate 8 (.int .u32 0)) [(0,1,wv a),(1,1,wv b),(2,1,wv c),(3,1,wv d),(4,1,wv e),(5,1,wv f),(6,1,wv g),(7,1,wv i)]=some (.agg (wvs [a,b,c,d,e,f,g,i]).toArray):=bld8v _ _ _ _ _ _ _ _
set_option maxRecDepth 100000 in
theorem r149 {h:ab} (hG:4≤h.n0) (hz:h.get 3=some bB) {p:Nat} {S:List (BitVec 32)} {B:List Nat} {n:Nat} (hS:S.length=8) (hBl:B.length=64) (hB:Bys B) (hp:h.get p=some (cU S B n)) (hp0:h.n0≤p) :
  ∃ h',CW 149 [ptr p 0] h=some (.tuple #[],h')∧Kept h h' (· = p)∧h'.get p=some (cU (compS S B) B n):=by
 have hlt:=h.aF hp
 obtain ⟨h1,z1,o1,g1,n1⟩:=fresh (List.replicate 64 (.int .u32 0)) h
 have hb1:h1.n0≤h.next:=by rw [o1.n0];exact h.ax
 have hne:p≠h.next:=by omega
 have key : ∃ o:Out,t149 CW (ptr p 0) h=o ∧ ∃ h',o=some (.tuple #[],h')∧Kept h h' (· = p)∧h'.get p=some (cU (compS S B) B n):=by
  refine ⟨_,rfl,?_⟩
  unfold t149
  simp -implicitDefEqProofs only [z1,ad,af]
  refine bJ (Q:=fun o:Out => ∃ h',o=some (.tuple #[],h')∧Kept h h' (· = p)∧h'.get p=some (cU (compS S B) B n)) (cmp1 (p:=p) (b:=h.next) hS hBl hB (Old.get o1 hp) hb1 hne g1 rfl rfl rfl) ?_
  rintro _ y g ⟨rfl,y0,y2,K2,G2,N2⟩
  simp -implicitDefEqProofs only [bn,b149_3,if_true,t149k149_1_eq]
  unfold t149k149_1
  simp -implicitDefEqProofs only [ad]
  have hg2:4≤g.n0:=by rw [K2.n0,o1.n0];exact hG
  refine bJ (Q:=fun o:Out => ∃ h',o=some (.tuple #[],h')∧Kept h h' (· = p)∧h'.get p=some (cU (compS S B) B n)) (cmp2 (p:=p) (b:=h.next) hg2 (l:=sch0 B) (by simp [sch0]) (by rw [K2.n0];exact hb1) G2 y0 y2 rfl) ?_
  rintro _ y' g3 ⟨rfl,y0',y2',K3,G3,N3⟩
  simp -implicitDefEqProofs only [bn,b149_6,if_true,t149k149_4_eq]
  unfold t149k149_4
  have O3:Old h g3:=(Old.bN o1 K2 (Nat.le_refl _)).also K3 (fun d hd e=>by omega)
  have hp3:=Old.get O3 hp
  have lp : ∀ j,j<8→ld1 (ptr p j) g3=some (wv (S.getD j 0),g3):=fun j hj=>ba hp3 (hash_word (by omega)) rfl
  have ix : ∀ j,j<8→cP 8 1 (ptr p 0) (ai j)=some (ptr p j):=fun j hj=>by rw [idxN hj,Nat.zero_add]
  have i0:cP 8 1 (ptr p 0) (.int .i64 0)=some (ptr p 0):=ix 0 (by decide)
  have i1:cP 8 1 (ptr p 0) (.int .i64 1)=some (ptr p 1):=ix 1 (by decide)
  have i2:cP 8 1 (ptr p 0) (.int .i64 2)=some (ptr p 2):=ix 2 (by decide)
  have i3:cP 8 1 (ptr p 0) (.int .i64 3)=some (ptr p 3):=ix 3 (by decide)
  have i4:cP 8 1 (ptr p 0) (.int .i64 4)=some (ptr p 4):=ix 4 (by decide)
  have i5:cP 8 1 (ptr p 0) (.int .i64 5)=some (ptr p 5):=ix 5 (by decide)
  have i6:cP 8 1 (ptr p 0) (.int .i64 6)=some (ptr p 6):=ix 6 (by decide)
  have i7:cP 8 1 (ptr p 0) (.int .i64 7)=some (ptr p 7):=ix 7 (by decide)
  simp -implicitDefEqProofs only [y0',bh,aA,Nat.zero_add,i0,i1,i2,i3,i4,i5,i6,i7,lp 0 (by decide),lp 1 (by decide),lp 2 (by decide),lp 3 (by decide),lp 4 (by decide),lp 5 (by decide),lp 6 (by decide),lp 7 (by decide),ad,af]
  have hg3:4≤g3.n0:=by rw [O3.n0];exact hG
  refine bJ (Q:=fun o:Out => ∃ h',o=some (.tuple #[],h')∧Kept h h' (· = p)∧h'.get p=some (cU (compS S B) B n)) (cmp3 (p:=p) (b:=h.next) hg3 (Old.get O3 hz) (W:=extW 48 (sch0 B)) (by rw [extW_len];simp [sch0]) G3 (s:=⟨S.getD 0 0,S.getD 1 0,S.getD 2 0,S.getD 3 0,S.getD 4 0,S.getD 5 0,S.getD 6 0,S.getD 7 0⟩) y0' y2' rfl ⟨rfl,rfl,rfl,rfl,rfl,rfl,rfl,rfl⟩) ?_
  rintro _ y4 g4 ⟨rfl,y40,Y,rfl⟩
  simp -implicitDefEqProofs only [bn,b149_16,if_true,t149k149_14_eq]
  unfold t149k149_14
  simp -implicitDefEqProofs only [Y.a,Y.b,Y.c,Y.d,Y.e,Y.f,Y.g,Y.i,bld8,ad,af]
  refine bJ (Q:=fun o:Out => ∃ h',o=some (.tuple #[],h')∧Kept h h' (· = p)∧h'.get p=some (cU (compS S B) B n)) (cmp4 (p:=p) (S:=S) (L:=(runS (extW 48 (sch0 B)) 64 ⟨S.getD 0 0,S.getD 1 0,S.getD 2 0,S.getD 3 0,S.getD 4 0,S.getD 5 0,S.getD 6 0,S.getD 7 0⟩).l) hS rfl hp3 (by rw [O3.n0];exact hp0) y40 rfl rfl) ?_
  rintro _ y5 g5 ⟨rfl,K5,G5,N5⟩
  simp -implicitDefEqProofs only [bn,b149_25,if_true]
  refine ⟨g5,?_,(O3.mono (fun _ _ h=>h.elim)).trans K5,G5⟩
  rw [results149]
  rfl
 obtain ⟨o,e,h',e',k,g⟩:=key
 exact ⟨h',aG is149 hG rfl ((t149_eq _ _ _).trans (e.trans e')),k,g⟩
end Go.Proofs.YtdnahgfgoajmcaaDoor

namespace Go.Proofs.YtdnahgfgoajmcaaDoor
open Go Go.Abs
attribute [local congr] aj
structure HD where
 S:List (BitVec 32)
 B:List Nat
 n:Nat
structure HD.Ok (s:HD):Prop where
 S:s.S.length=8
 B:s.B.length=64
 by_:Bys s.B
abbrev HD.cells (s:HD):List Value:=cU s.S s.B s.n
def HD.put (s:HD) (l:List Nat):HD:=
 let at_:=s.n%64
 let k:=min l.length (64-at_)
 let B:=s.B.take at_++(l.take k++s.B.drop (at_+k))
 ⟨if at_+k=64 then compS s.S B else s.S,B,s.n+k⟩
def HD.wrN:Nat→HD→List Nat→HD
 | 0,s,_=>s
 |f+1,s,l=>if l = [] then s else HD.wrN f (s.put l) (l.drop (min l.length (64-s.n%64)))
def HD.wr (s:HD) (l:List Nat):HD:=HD.wrN l.length s l
theorem HD.wrN_le : ∀ (f g:Nat) (s:HD) (l:List Nat),l.length≤f→l.length≤g→HD.wrN f s l=HD.wrN g s l
 | 0,0,_,_,_,_=>rfl
 | 0,g+1,s,l,h,_=>by
   have:l = []:=List.length_eq_zero_iff.1 (by omega)
   rw [HD.wrN,HD.wrN,if_pos this]
 |f+1,0,s,l,_,h=>by
  have:l = []:=List.length_eq_zero_iff.1 (by omega)
  rw [HD.wrN,HD.wrN,if_pos this]
 |f+1,g+1,s,l,h1,h2=>by
  rw [HD.wrN,HD.wrN]
  by_cases e:l = []
  ·rw [if_pos e,if_pos e]
  ·rw [if_neg e,if_neg e]
   have hp:0<l.length:=List.length_pos_iff.2 e
   have hm:s.n%64<64:=Nat.mod_lt _ (by decide)
   exact HD.wrN_le f g _ _ (by rw [List.length_drop];omega) (by rw [List.length_drop];omega)
theorem HD.wr_nil (s:HD):s.wr []=s:=rfl
theorem HD.wr_put (s:HD) {l:List Nat} (h:l ≠ []):s.wr l=(s.put l).wr (l.drop (min l.length (64-s.n%64))):=by
 unfold HD.wr
 have hp:0<l.length:=List.length_pos_iff.2 h
 obtain ⟨f,hf⟩ : ∃ f,l.length=f+1:=⟨l.length-1,by omega⟩
 rw [hf,HD.wrN,if_neg h,hf]
 have hm:s.n%64<64:=Nat.mod_lt _ (by decide)
 exact HD.wrN_le _ _ _ _ (by rw [List.length_drop];omega) (Nat.le_refl _)
theorem HD.put_ok {s:HD} (o:s.Ok) {l:List Nat} (hl:Bys l):(s.put l).Ok:=by
 have hm:s.n%64<64:=Nat.mod_lt _ (by decide)
 unfold HD.put
 refine ⟨?_,?_,?_⟩
 ·simp only
  split
  ·exact compS_len o.S
  ·exact o.S
 ·simp only [List.length_append,List.length_take,List.length_drop,o.B]
  omega
 ·intro x hx
  simp only [List.mem_append] at hx
  rcases hx with hx|hx|hx
  ·exact o.by_ x (List.mem_of_mem_take hx)
  ·exact hl x (List.mem_of_mem_take hx)
  ·exact o.by_ x (List.mem_of_mem_drop hx)
theorem arr64 {p i:Nat} (h:i<64):cC 64 1 (ptr p 8) (some (ai i)) none none=some (.slice (some ⟨p,8+i,none⟩) (64-i) (64-i)):=by
 have b1:bD 64 64 (none:Option Value)=some 64:=rfl
 have b2:bD 0 64 (some (ai i))=some i:=by
  unfold bD ai
  simp only
  rw [if_pos (by omega),Int.toNat_natCast]
 unfold cC
 simp only [cg,b1,b2]
 show some (Value.slice (some ⟨p,if 64=i then 8 else 8+i*1,none⟩) (64-i) (64-i))=_
 rw [if_neg (by omega),Nat.mul_one]
theorem copy_min {h:ab} {b off dn dc c n k:Nat} {s:Option Nat} {a:Option Addr} {A B C:List Value} {l:List Nat} (g:h.get b=some (A++(B++C))) (h0:h.n0≤b) (hA:A.length=off) (hB:B.length=k) (hs:aq a n h=some l) (hk:k=min n dn) (hk0:0<k) :
  ∃ g',copyA 1 (.slice (some ⟨b,off,s⟩) dn dc) (.slice a n c) h=some (ai k,g')∧Kept h g' (· = b)∧g'.get b=some (A++(aZ (l.take k)++C))∧g'.next=h.next:=by
 obtain ⟨hl,hb,_⟩:=aD hs
 have hf:=firstA_of hs (show k≤n by omega) (c:=c)
 have hlk:(l.take k).length=k:=by rw [List.length_take];omega
 have hsp:a6 (A++(B++C)) off (aZ (l.take k))=A++(aZ (l.take k)++C):=splice_app hA hB (by rw [List.length_map];exact hlk)
 refine ⟨h.set b (A++(aZ (l.take k)++C)),?_,Kept.set h0 g (.inr rfl),ab.dm h0 g _,rfl⟩
 unfold copyA
 simp only [lenA]
 rw [←hk,hf]
 simp only
 rw [if_neg (by omega)]
 unfold stL
 simp only [g]
 rw [if_pos (by
  have h1:off+(aZ (l.take k)).length≤(A++(B++C)).length:=by rw [List.length_append,List.length_append,List.length_map,hA,hB];omega
  simp only [decide_eq_true h0,decide_eq_true h1,(u8s_ok (l.take k)).2,Bool.and_self]),hsp]
 rfl
theorem is122:cj Tryd.prog 122 Tryd.f122:=⟨by kernel_rfl,by kernel_rfl,by kernel_rfl,by kernel_rfl⟩
theorem results122:Tryd.f122.results.toList = []:=by kernel_rfl
theorem eql158 (b o:Nat):bin Tryd.prog .eql 158 (ptr b o) (.pointer none)=some (.bool false):=by kernel_rfl
end Go.Proofs.YtdnahgfgoajmcaaDoor

namespace Go.Proofs.YtdnahgfgoajmcaaDoor
open Go Go.Abs
attribute [local congr] aj
theorem u8s_split {B:List Nat} {i k:Nat}:aZ B=aZ (B.take i)++(aZ ((B.drop i).take k)++aZ (B.drop (i+k))):=by
 show B.map u8=(B.take i).map u8++(((B.drop i).take k).map u8++(B.drop (i+k)).map u8)
 rw [←List.map_append,←List.map_append,←List.drop_drop,List.take_append_drop,List.take_append_drop]
set_option maxRecDepth 100000 in
theorem r122 {h:ab} (hG:4≤h.n0) (hz:h.get 3=some bB) {p:Nat} {s:HD} (o:s.Ok) (hp:h.get p=some s.cells) (hp0:h.n0≤p) {a:Option Addr} {n c:Nat} {l:List Nat} (hl:aq a n h=some l) (hg:0<n→fT a n c=true) (ha : ∀ y,a=some y→0<n → ¬y.block=p) (hfit:s.n+n≤1000000) :
  ∃ h',CW 122 [ptr p 0,.slice a n c] h=some (.tuple #[],h')∧Kept h h' (· = p)∧h'.get p=some (s.wr l).cells∧(s.wr l).Ok∧(s.wr l).n=s.n+n:=by
 have hlen0:l.length=n:=(aD hl).1
 have h3p : ¬3=p:=by
  have:=h.aF hp
  intro e
  omega
 have key : ∃ o:Out,t122 CW (ptr p 0) (.slice a n c) h=o ∧ ∃ h',o=some (.tuple #[],h')∧Kept h h' (· = p)∧h'.get p=some (s.wr l).cells∧(s.wr l).Ok∧(s.wr l).n=s.n+n:=by
  refine ⟨_,rfl,?_⟩
  unfold t122
  simp -implicitDefEqProofs only [eql158,ad,af]
  refine bJ (n:=40) (fin:=fun ex _ g=>ex = .exit 0∧Kept h g (· = p)∧g.get p=some (s.wr l).cells∧(s.wr l).Ok∧(s.wr l).n=s.n+n) (Q:=fun o:Out => ∃ h',o=some (.tuple #[],h')∧Kept h h' (· = p)∧h'.get p=some (s.wr l).cells∧(s.wr l).Ok∧(s.wr l).n=s.n+n)
   (bH (t122l122_10_eq CW) (Inv:=fun k y g => ∃ (s':HD) (a':Option Addr) (n' c':Nat) (l':List Nat),n'=k∧y 0=ptr p 0∧y 1 = .slice a' n' c'∧aq a' n' g=some l'∧(0<n'→fT a' n' c'=true)∧(∀ y,a'=some y→0<n' → ¬y.block=p)∧s'.Ok∧g.get p=some s'.cells∧Kept h g (· = p)∧s'.wr l'=s.wr l∧s'.n+n'=s.n+n) ?_ n (by have:rounds=18446744073709551616:=rfl;omega) ⟨s,a,n,c,l,rfl,rfl,rfl,hl,hg,ha,o,hp,Kept.refl _ _,rfl,rfl⟩) ?_
  ·rintro k y g ⟨s',a',n',c',l',rfl,y0,y1,sl',hg',ha',o',gp,K,hw,hn⟩
   unfold t122l122_10
   have hll:cx (.slice a' n' c')=some (ai n'):=rfl
   have hgt:bin Tryd.prog .gtr 3 (ai n') (.int .i64 0)=some (.bool (decide (0<n'))):=by
    unfold ai
    rw [cA]
    congr 2
    rw [decide_eq_decide]
    omega
   have hlen:l'.length=n':=(aD sl').1
   have hby:Bys l':=(aD sl').2.1
   simp -implicitDefEqProofs only [y1,hll,hgt,ad,af]
   by_cases hpos:0<n'
   ·have hm:s'.n%64<64:=Nat.mod_lt _ (by decide)
    generalize hat:s'.n%64=at_ at *
    generalize hk:min n' (64-at_)=k
    have hkp:0<k:=by omega
    have hp0g:g.n0≤p:=by rw [K.n0];exact hp0
    have l72:ld1 (ptr p 72) g=some (ai s'.n,g):=ba gp (by
     unfold HD.cells cU
     rw [List.getElem?_append_right (by simp [o'.S]),List.getElem?_append_right (by simp [o'.S,o'.B])]
     simp [o'.S,o'.B]) rfl
    have hrem:bin Tryd.prog .rem 3 (ai s'.n) (.int .i64 64)=some (ai at_):=by
     unfold ai
     rw [bin_rem Tryd.prog 3 .i64 _ 64 (by decide),←hat]
     rfl
    have gp1:g.get p=some ((wvs s'.S++aZ (s'.B.take at_))++(aZ ((s'.B.drop at_).take k)++(aZ (s'.B.drop (at_+k)) ++ [ai s'.n]))):=by
     rw [gp]
     unfold HD.cells cU
     rw [u8s_split (B:=s'.B) (i:=at_) (k:=k)]
     simp only [List.append_assoc]
    obtain ⟨g2,e2,k2,G2,n2⟩:=copy_min (s:=none) (dn:=64-at_) (dc:=64-at_) (c:=c') (k:=k) (off:=8+at_) gp1 hp0g (by simp [o'.S,o'.B];omega) (by simp [o'.B];omega) sl' hk.symm hkp
    have ll72:ld1 (ptr p 72) g2=some (ai s'.n,g2):=ba G2 (by
     rw [List.getElem?_append_right (by simp [o'.S,o'.B];omega),List.getElem?_append_right (by simp [o'.S,o'.B];omega),List.getElem?_append_right (by simp [o'.S,o'.B];omega)]
     have:72-(wvs s'.S++aZ (List.take at_ s'.B)).length-(aZ (List.take k l')).length-(aZ (List.drop (at_+k) s'.B)).length=0:=by simp [o'.S,o'.B];omega
     rw [this]
     rfl) rfl
    have hadd:bin Tryd.prog .add 3 (ai s'.n) (ai k)=some (ai (s'.n+k)):=by
     unfold ai
     rw [bin_add,show (s'.n:Int)+(k:Int)=((s'.n+k:Nat):Int) by omega,wrap_i64 (by omega) (by omega)]
    have hadd2:bin Tryd.prog .add 3 (ai at_) (ai k)=some (ai (at_+k)):=by
     unfold ai
     rw [bin_add,show (at_:Int)+(k:Int)=((at_+k:Nat):Int) by omega,wrap_i64 (by omega) (by omega)]
    have hp2:g2.n0≤p:=by rw [k2.n0];exact hp0g
    obtain ⟨g3,e3,k3,G3,_,n3⟩:=stored (o:=72) (v:=ai (s'.n+k)) G2 hp2 (by simp [o'.S,o'.B];omega) rfl rfl
    have hBn:((s'.put l').B)=s'.B.take at_++(l'.take k++s'.B.drop (at_+k)):=by
     unfold HD.put
     simp only [hat,hlen,hk]
    have hnn:(s'.put l').n=s'.n+k:=by
     unfold HD.put
     simp only [hat,hlen,hk]
    have G3':g3.get p=some (cU s'.S (s'.put l').B (s'.put l').n):=by
     rw [G3,hBn,hnn]
     unfold cU
     have e1:((wvs s'.S++aZ (s'.B.take at_))++(aZ (l'.take k)++(aZ (s'.B.drop (at_+k)) ++ [ai s'.n])))=((wvs s'.S++aZ (s'.B.take at_))++(aZ (l'.take k)++aZ (s'.B.drop (at_+k)))) ++ [ai s'.n]:=by simp only [List.append_assoc]
     rw [e1,set_app (A:=(wvs s'.S++aZ (s'.B.take at_))++(aZ (l'.take k)++aZ (s'.B.drop (at_+k)))) (B' := [ai (s'.n+k)]) 0 (by simp [o'.S,o'.B];omega) rfl]
     simp only [List.map_append,List.append_assoc]
    have sl3:aq a' n' g3=some l':=(k2.trans k3).bytes sl' ha'
    obtain ⟨a2,c2,es,ss,gs,bs⟩:=slR_bytes (vl:=some (ai k)) (vh:=none) (lo:=k) (hi:=n') (hg' hpos) sl3 (by omega) (Nat.le_refl _) rfl (by
     unfold bD ai
     simp only
     rw [if_pos (by omega),Int.toNat_natCast])
    have hss:((l'.drop k).take (n'-k))=l'.drop k:=List.take_of_length_le (by rw [List.length_drop];omega)
    rw [hss] at ss
    have hwr:(s'.put l').wr (l'.drop k)=s.wr l:=by
     rw [←hw,HD.wr_put s' (l:=l') (fun e=>by rw [e] at hlen;simp at hlen;omega),hat,hlen,hk]
    have ok2:=HD.put_ok o' hby
    have ha2 : ∀ y,a2=some y→0<n'-k → ¬y.block=p:=fun y hy _ e=>by
     obtain ⟨y0,h1,h2⟩:=bs y hy
     exact ha' y0 h1 hpos (h2.trans e)
    have K3:Kept h g3 (· = p):=(K.trans k2).trans k3
    by_cases hc:at_+k=64
    ·have hceq:bin Tryd.prog .eql 3 (ai (at_+k)) (.int .i64 64)=some (.bool true):=by
      unfold ai
      rw [cB,hc]
      rfl
     have hg3:4≤g3.n0:=by rw [K3.n0];exact hG
     obtain ⟨g4,e4,k4,G4⟩:=r149 hg3 (Kept.dv K3 hz h3p) (p:=p) o'.S ok2.B ok2.by_ G3' (by rw [K3.n0];exact hp0)
     have hS:(s'.put l').S=compS s'.S (s'.put l').B:=by
      unfold HD.put
      simp only [hat,hlen,hk]
      rw [if_pos hc]
     rw [←hS] at G4
     simp -implicitDefEqProofs only [decide_eq_true hpos,y0,bh,aA,Nat.zero_add,l72,hrem,arr64 hm,e2,ll72,hadd,e3,es,hadd2,hceq,e4,ad,af]
     exact eS.next (n'-k) (by omega) ⟨s'.put l',a2,n'-k,c2,l'.drop k,rfl,y0,rfl,k4.bytes ss ha2,fun _=>gs,ha2,ok2,G4,K3.trans k4,hwr,by rw [hnn];omega⟩
    ·have hceq:bin Tryd.prog .eql 3 (ai (at_+k)) (.int .i64 64)=some (.bool false):=by
      unfold ai
      rw [cB]
      congr 2
      simp only [beq_eq_false_iff_ne,ne_eq]
      omega
     have hS:(s'.put l').S=s'.S:=by
      unfold HD.put
      simp only [hat,hlen,hk]
      rw [if_neg hc]
     rw [←hS] at G3'
     simp -implicitDefEqProofs only [decide_eq_true hpos,y0,bh,aA,Nat.zero_add,l72,hrem,arr64 hm,e2,ll72,hadd,e3,es,hadd2,hceq,ad,af]
     exact eS.next (n'-k) (by omega) ⟨s'.put l',a2,n'-k,c2,l'.drop k,rfl,y0,rfl,ss,fun _=>gs,ha2,ok2,G3',K3,hwr,by rw [hnn];omega⟩
   ·have h0:n'=0:=by omega
    subst h0
    have:l' = []:=List.length_eq_zero_iff.1 hlen
    subst this
    simp -implicitDefEqProofs only [decide_eq_false hpos,ad,af]
    rw [HD.wr_nil] at hw
    refine eS.out 0 ⟨rfl,K,by rw [←hw];exact gp,by rw [←hw];exact o',by rw [←hw];omega⟩
  ·rintro _ y g ⟨rfl,K,G,O,N⟩
   simp -implicitDefEqProofs only [bn,b122_2,if_true]
   rw [results122]
   exact ⟨g,rfl,K,G,O,N⟩
 obtain ⟨o1,e,h',e',r⟩:=key
 exact ⟨h',aG is122 hG rfl ((t122_eq _ _ _ _).trans (e.trans e')),r⟩
end Go.Proofs.YtdnahgfgoajmcaaDoor

namespace Go.Proofs.YtdnahgfgoajmcaaDoor
open Go Go.Abs
attribute [local congr] aj
def padT (N v:Nat):Nat→List Nat
 | 0=>128::List.replicate 71 0
 |j+1=>(padT N v j).set (N+j) (v/2^(56-8*j)%256)
def padOf (n:Nat):List Nat:=(padT (64-(n+8)%64) (n*8) 8).take (64-(n+8)%64+8)
def digT (S:List (BitVec 32)):Nat→List Nat
 | 0=>List.replicate 32 0
 |j+1=>(digT S j).set j ((S.getD (j/4) 0).toNat/2^(24-8*(j%4))%256)
def HD.sum (s:HD):List Nat:=digT (s.wr (padOf s.n)).S 32
theorem padT_len (N v:Nat) : ∀ j,(padT N v j).length=72
 | 0=>rfl
 |j+1=>by rw [padT,List.length_set,padT_len N v j]
theorem digT_len (S:List (BitVec 32)) : ∀ j,(digT S j).length=32
 | 0=>rfl
 |j+1=>by rw [digT,List.length_set,digT_len S j]
theorem bys_set {l:List Nat} (h:Bys l) (i:Nat) {x:Nat} (hx:x<256):Bys (l.set i x):=fun y hy=>by
 rcases List.mem_or_eq_of_mem_set hy with h1|h1
 ·exact h y h1
 ·omega
theorem padT_bys (N v:Nat) : ∀ j,Bys (padT N v j)
 | 0=>fun x hx=>by
   have hx:x∈128::List.replicate 71 0:=hx
   rcases List.mem_cons.1 hx with h|h
   ·omega
   ·have:=List.eq_of_mem_replicate h;omega
 |j+1=>bys_set (padT_bys N v j) _ (Nat.mod_lt _ (by decide))
theorem digT_bys (S:List (BitVec 32)) : ∀ j,Bys (digT S j)
 | 0=>fun x hx=>by have:=List.eq_of_mem_replicate (show x∈List.replicate 32 0 from hx);omega
 |j+1=>bys_set (digT_bys S j) _ (Nat.mod_lt _ (by decide))
theorem sum_d32 (s:HD):fo s.sum:=⟨digT_len _ 32,digT_bys _ 32⟩
theorem words_ok (l:List (BitVec 32)):Abs.bj (wvs l)=true∧az (wvs l)=true:=by
 induction l with
 |nil=>exact ⟨rfl,rfl⟩
 |cons x l ih=>exact ⟨ih.1,ih.2⟩
theorem hash_ok (s:HD):Abs.bj s.cells=true∧az s.cells=true:=by
 have a:=words_ok s.S
 unfold HD.cells cU
 exact ⟨noHoles_append _ _ a.1 (noHoles_append _ _ (noHoles_u8 _) rfl),oneCells_append _ _ a.2 (oneCells_append _ _ (one_u8 _) rfl)⟩
theorem sum1 {h:ab} {b N v:Nat} (hN:N≤64) (hv:v<18446744073709551616) (hb:h.n0≤b) (hw:h.get b=some (aZ (padT N v 0))) {p2 p3:Value}
  {x:Nat→Value} (x2:x 2=p2) (x3:x 3=p3) (x4:x 4=ptr b 0) (x5:x 5=ai N) (x6:x 6 = .int .u64 (v:Int)) (x30:x 30=ai 0) :
  Fin 66 (fun ex y g=>ex = .exit 0∧y 2=p2∧y 3=p3∧y 4=ptr b 0∧y 5=ai N∧Kept h g (· = b)∧g.get b=some (aZ (padT N v 8))∧g.next=h.next) (iter (au Tryd.prog CW (partOf Tryd.f123 [1,1,1,1,1,1,1,0,1,0,0])) rounds (aN 66 x) h):=by
 refine bH (t123l123_1111111010_eq CW) (Inv:=fun k y g => ∃ j,j+k=8∧y 2=p2∧y 3=p3∧y 4=ptr b 0∧y 5=ai N∧y 6 = .int .u64 (v:Int)∧y 30=ai j∧Kept h g (· = b)∧g.get b=some (aZ (padT N v j))∧g.next=h.next) ?_ 8 (by have:rounds=18446744073709551616:=rfl;omega) ⟨0,Nat.zero_add _,x2,x3,x4,x5,x6,x30,Kept.refl _ _,hw,rfl⟩
 rintro k y g ⟨j,hjk,y2,y3,y4,y5,y6,y30,K,gw,gn⟩
 unfold fl
 have l8:bin Tryd.prog .lss 3 (ai j) (.int .i64 8)=some (.bool (decide (j<8))):=lss3 j 8
 simp -implicitDefEqProofs only [y30,l8,ad,af]
 by_cases hj:j<8
 ·have a1:bin Tryd.prog .add 3 (ai N) (ai j)=some (ai (N+j)):=addc (c:=j) (by omega)
  have m1:bin Tryd.prog .mul 3 (.int .i64 8) (ai j)=some (ai (8*j)):=by
   unfold ai
   rw [bin_mul,show (8:Int)*(j:Int)=((8*j:Nat):Int) by omega,wrap_i64 (by omega) (by omega)]
  have s1:bin Tryd.prog .sub 3 (.int .i64 56) (ai (8*j))=some (ai (56-8*j)):=by
   unfold ai
   rw [bin_sub,show (56:Int)-((8*j:Nat):Int)=((56-8*j:Nat):Int) by omega,wrap_i64 (by omega) (by omega)]
  have r1:bin Tryd.prog .shr 32 (.int .u64 (v:Int)) (ai (56-8*j))=some (.int .u64 ((v/2^(56-8*j):Nat):Int)):=fN Tryd.prog 32 (by show 56-8*j≤64;omega)
  have c1:cvI .u8 (.int .u64 ((v/2^(56-8*j):Nat):Int)) g=some (u8 (v/2^(56-8*j)%256),g):=by
   rw [fz,wrap_u8_mod]
   rfl
  have ix:cP 72 1 (ptr b 0) (ai (N+j))=some (ptr b (N+j)):=by rw [idxN (by omega),Nat.zero_add]
  obtain ⟨g2,e2,k2,t2,_,n2⟩:=stored (o:=N+j) (v:=u8 (v/2^(56-8*j)%256)) gw (by rw [K.n0];exact hb) (by rw [List.length_map,padT_len];omega) rfl rfl
  simp -implicitDefEqProofs only [decide_eq_true hj,y4,y5,y6,y30,a1,m1,s1,r1,c1,ix,e2,ff (show j+1≤9223372036854775807 by omega),ad,af]
  refine eS.next (k-1) (by omega) ⟨j+1,by omega,y2,y3,y4,y5,y6,rfl,K.trans k2,?_,n2.trans gn⟩
  rw [t2,padT]
  show some ((List.map u8 (padT N v j)).set (N+j) (u8 (v/2^(56-8*j)%256)))=some (List.map u8 ((padT N v j).set (N+j) (v/2^(56-8*j)%256)))
  rw [List.map_set]
 ·have:j=8:=by omega
  subst this
  simp -implicitDefEqProofs only [decide_eq_false hj,ad,af]
  exact eS.out 0 ⟨rfl,y2,y3,y4,y5,K,gw,gn⟩
theorem sum2 {h:ab} {b p:Nat} {S:List (BitVec 32)} {B:List Nat} {n:Nat} (hS:S.length=8) (hp:h.get p=some (cU S B n)) (hpb:p≠b) (hb:h.n0≤b) (hw:h.get b=some (aZ (digT S 0))) {p2:Value}
  {x:Nat→Value} (x2:x 2=p2) (x3:x 3=ptr p 0) (x8:x 8=ptr b 0) (x48:x 48=ai 0) :
  Fin 66 (fun ex y g=>ex = .exit 2∧y 2=p2∧y 8=ptr b 0∧Kept h g (· = b)∧g.get b=some (aZ (digT S 32))∧g.next=h.next) (iter (au Tryd.prog CW (partOf Tryd.f123 [1,1,1,1,1,1,1,1,1,1,0,1,0,0])) rounds (aN 66 x) h):=by
 refine bH (t123l123_1111111111010_eq CW) (Inv:=fun k y g => ∃ j,j+k=32∧y 2=p2∧y 3=ptr p 0∧y 8=ptr b 0∧y 48=ai j∧Kept h g (· = b)∧g.get b=some (aZ (digT S j))∧g.next=h.next) ?_ 32 (by have:rounds=18446744073709551616:=rfl;omega) ⟨0,Nat.zero_add _,x2,x3,x8,x48,Kept.refl _ _,hw,rfl⟩
 rintro k y g ⟨j,hjk,y2,y3,y8,y48,K,gw,gn⟩
 unfold dK
 have l32:bin Tryd.prog .lss 3 (ai j) (.int .i64 32)=some (.bool (decide (j<32))):=lss3 j 32
 simp -implicitDefEqProofs only [y48,l32,ad,af]
 by_cases hj:j<32
 ·have q1:bin Tryd.prog .quo 3 (ai j) (.int .i64 4)=some (ai (j/4)):=by
   unfold ai
   rw [bin_quo Tryd.prog 3 .i64 _ 4 (by decide),show Int.tdiv (j:Int) 4=((j/4:Nat):Int) from rfl,wrap_i64 (by omega) (by omega)]
  have r1:bin Tryd.prog .rem 3 (ai j) (.int .i64 4)=some (ai (j%4)):=by
   unfold ai
   rw [bin_rem Tryd.prog 3 .i64 _ 4 (by decide)]
   rfl
  have m1:bin Tryd.prog .mul 3 (.int .i64 8) (ai (j%4))=some (ai (8*(j%4))):=by
   unfold ai
   rw [bin_mul,show (8:Int)*((j%4:Nat):Int)=((8*(j%4):Nat):Int) by omega,wrap_i64 (by omega) (by omega)]
  have s1:bin Tryd.prog .sub 3 (.int .i64 24) (ai (8*(j%4)))=some (ai (24-8*(j%4))):=by
   unfold ai
   rw [bin_sub,show (24:Int)-((8*(j%4):Nat):Int)=((24-8*(j%4):Nat):Int) by omega,wrap_i64 (by omega) (by omega)]
  have gp:g.get p=some (cU S B n):=Kept.dv K hp hpb
  have lp:ld1 (ptr p (j/4)) g=some (wv (S.getD (j/4) 0),g):=ba gp (hash_word (by omega)) rfl
  have ixp:cP 8 1 (ptr p 0) (ai (j/4))=some (ptr p (j/4)):=by rw [idxN (by omega),Nat.zero_add]
  have ixb:cP 32 1 (ptr b 0) (ai j)=some (ptr b j):=by rw [idxN hj,Nat.zero_add]
  have sh:bin Tryd.prog .shr 174 (wv (S.getD (j/4) 0)) (ai (24-8*(j%4)))=some (.int .u32 (((S.getD (j/4) 0).toNat/2^(24-8*(j%4)):Nat):Int)):=fN Tryd.prog 174 (by show 24-8*(j%4)≤32;omega)
  have c1:cvI .u8 (.int .u32 (((S.getD (j/4) 0).toNat/2^(24-8*(j%4)):Nat):Int)) g=some (u8 ((S.getD (j/4) 0).toNat/2^(24-8*(j%4))%256),g):=by
   rw [fz,wrap_u8_mod]
   rfl
  obtain ⟨g2,e2,k2,t2,_,n2⟩:=stored (o:=j) (v:=u8 ((S.getD (j/4) 0).toNat/2^(24-8*(j%4))%256)) gw (by rw [K.n0];exact hb) (by rw [List.length_map,digT_len];omega) rfl rfl
  simp -implicitDefEqProofs only [decide_eq_true hj,y3,y8,y48,q1,r1,m1,s1,aA,Nat.zero_add,ixp,lp,sh,c1,ixb,e2,ff (show j+1≤9223372036854775807 by omega),ad,af]
  refine eS.next (k-1) (by omega) ⟨j+1,by omega,y2,y3,y8,rfl,K.trans k2,?_,n2.trans gn⟩
  rw [t2,digT]
  show some ((List.map u8 (digT S j)).set j (u8 ((S.getD (j/4) 0).toNat/2^(24-8*(j%4))%256)))=some (List.map u8 ((digT S j).set j ((S.getD (j/4) 0).toNat/2^(24-8*(j%4))%256)))
  rw [List.map_set]
 ·have:j=32:=by omega
  subst this
  simp -implicitDefEqProofs only [decide_eq_false hj,ad,af]
  exact eS.out 2 ⟨rfl,y2,y8,K,gw,gn⟩
abbrev zHash:List Value := [(.int .u32 0),(.int .u32 0),(.int .u32 0),(.int .u32 0),(.int .u32 0),(.int .u32 0),(.int .u32 0),(.int .u32 0),(.int .u8 0),(.int .u8 0),(.int .u8 0),(.int .u8 0),(.int .u8 0),(.int .u8 0),(.int .u8 0),(.int .u8 0),(.int .u8 0),(.int .u8 0),(.int .u8 0),(.int .u8 0),(.int .u8 0),(.int .u8 0),(.int .u8 0),(.int .u8 0),(.int .u8 0),(.int .u8 0),(.int .u8 0),(.int .u8 0),(.int .u8 0),(.int .u8 0),(.int .u8 0),(.int .u8 0),(.int .u8 0),(.int .u8 0),(.int .u8 0),(.int .u8 0),(.int .u8 0),(.int .u8 0),(.int .u8 0),(.int .u8 0),(.int .u8 0),(.int .u8 0),(.int .u8 0),(.int .u8 0),(.int .u8 0),(.int .u8 0),(.int .u8 0),(.int .u8 0),(.int .u8 0),(.int .u8 0),(.int .u8 0),(.int .u8 0),(.int .u8 0),(.int .u8 0),(.int .u8 0),(.int .u8 0),(.int .u8 0),(.int .u8 0),(.int .u8 0),(.int .u8 0),(.int .u8 0),(.int .u8 0),(.int .u8 0),(.int .u8 0),(.int .u8 0),(.int .u8 0),(.int .u8 0),(.int .u8 0),(.int .u8 0),(.int .u8 0),(.int .u8 0),(.int .u8 0),(.int .i64 0)]
end Go.Proofs.YtdnahgfgoajmcaaDoor

namespace Go.Proofs.YtdnahgfgoajmcaaDoor
open Go Go.Abs
attribute [local congr] aj
theorem is123:cj Tryd.prog 123 Tryd.f123:=⟨by kernel_rfl,by kernel_rfl,by kernel_rfl,by kernel_rfl⟩
theorem is121:cj Tryd.prog 121 Tryd.f121:=⟨by kernel_rfl,by kernel_rfl,by kernel_rfl,by kernel_rfl⟩
theorem results123:Tryd.f123.results.toList = [.cell 2 35]:=by kernel_rfl
set_option maxRecDepth 100000 in
theorem r123 {h:ab} (hG:4≤h.n0) (hz:h.get 3=some bB) {p:Nat} {s:HD} (o:s.Ok) (hp:h.get p=some s.cells) (hn:s.n≤100000) :
  ∃ h',CW 123 [ptr p 0] h=some (.agg (aZ s.sum).toArray,h')∧Old h h':=by
 have hplt:=h.aF hp
 have clen:s.cells.length=73:=by
  show (cU s.S s.B s.n).length=73
  rw [hash_len,o.S,o.B]
 have hok:=hash_ok s
 obtain ⟨h1,z1,o1,g1,n1⟩:=fresh (List.replicate 32 (.int .u8 0)) h
 have L1:=bZ (n:=73) (Old.get o1 hp) clen hok.1
 obtain ⟨h2,z2,o2,g2,n2⟩:=fresh zHash h1
 obtain ⟨h3,e3,k3,g3,_,n3⟩:=bG (n:=73) (k':=s.cells) g2 (by rw [o2.n0];exact h1.ax) rfl clen hok.2
 have o3:Old h1 h3:=Old.bN o2 k3 (Nat.le_refl _)
 obtain ⟨h4,z4,o4,g4,n4⟩:=fresh (List.replicate 72 (.int .u8 0)) h3
 have hp4:h4.n0≤h3.next:=by rw [o4.n0];exact h3.ax
 have ix0:cP 72 1 (ptr h3.next 0) (.int .i64 0)=some (ptr h3.next 0):=by
  have:=idxN (N:=72) (b:=h3.next) (o:=0) (i:=0) (by decide)
  exact this
 obtain ⟨h5,e5,k5,g5,_,n5⟩:=stored (o:=0) (v := .int .u8 128) g4 hp4 (by decide) rfl rfl
 have o5:Old h3 h5:=Old.bN o4 k5 (Nat.le_refl _)
 have O5:Old h h5:=(o1.trans o3).trans o5
 have l72:ld1 (ptr p 72) h5=some (ai s.n,h5):=ba (Old.get O5 hp) (by
  show (cU s.S s.B s.n)[72]? = _
  unfold cU
  rw [List.getElem?_append_right (by simp [o.S]),List.getElem?_append_right (by simp [o.S,o.B])]
  simp [o.S,o.B]) rfl
 have a8:bin Tryd.prog .add 3 (ai s.n) (.int .i64 8)=some (ai (s.n+8)):=by
  unfold ai
  rw [bin_add,show (s.n:Int)+8=((s.n+8:Nat):Int) by omega,wrap_i64 (by omega) (by omega)]
 have rm:bin Tryd.prog .rem 3 (ai (s.n+8)) (.int .i64 64)=some (ai ((s.n+8)%64)):=by
  unfold ai
  rw [bin_rem Tryd.prog 3 .i64 _ 64 (by decide)]
  rfl
 have hm:(s.n+8)%64<64:=Nat.mod_lt _ (by decide)
 have sb:bin Tryd.prog .sub 3 (.int .i64 64) (ai ((s.n+8)%64))=some (ai (64-(s.n+8)%64)):=by
  unfold ai
  rw [bin_sub,show (64:Int)-(((s.n+8)%64:Nat):Int)=((64-(s.n+8)%64:Nat):Int) by omega,wrap_i64 (by omega) (by omega)]
 have cu:cvI .u64 (ai s.n) h5=some (.int .u64 (s.n:Int),h5):=by
  unfold ai
  rw [fz,wrap_u64 (by omega) (by omega)]
 have ml:bin Tryd.prog .mul 32 (.int .u64 (s.n:Int)) (.int .u64 8)=some (.int .u64 ((s.n*8:Nat):Int)):=by
  rw [bin_mul,show (s.n:Int)*8=((s.n*8:Nat):Int) by omega,wrap_u64 (by omega) (by omega)]
 have hpad:padOf s.n=(padT (64-(s.n+8)%64) (s.n*8) 8).take (64-(s.n+8)%64+8):=rfl
 have hplen:(padOf s.n).length=64-(s.n+8)%64+8:=by rw [hpad,List.length_take,padT_len];omega
 have hsum:s.sum=digT (s.wr (padOf s.n)).S 32:=rfl
 generalize hNN:64-(s.n+8)%64=N at *
 have hN:N≤64:=by omega
 have hp5:h5.n0≤h3.next:=by rw [k5.n0];exact hp4
 have key : ∃ o:Out,t123 CW (ptr p 0) h=o ∧ ∃ h',o=some (.agg (aZ s.sum).toArray,h')∧Old h h':=by
  refine ⟨_,rfl,?_⟩
  unfold t123
  simp -implicitDefEqProofs only [z1,eql158,bh,L1,z2,e3,z4,ix0,e5,aA,Nat.zero_add,l72,a8,rm,sb,cu,ml,ad,af]
  refine bJ (Q:=fun o:Out => ∃ h',o=some (.agg (aZ s.sum).toArray,h')∧Old h h') (sum1 (N:=N) (v:=s.n*8) hN (by omega) hp5 g5 (p2:=ptr h.next 0) (p3:=ptr h1.next 0) rfl rfl rfl rfl rfl rfl) ?_
  rintro _ y g6 ⟨rfl,y2,y3,y4,y5,K6,G6,N6⟩
  simp -implicitDefEqProofs only [bn,b123_11,if_true,t123k123_9_eq]
  unfold t123k123_9
  have O6:Old h3 g6:=o5.also K6 (fun d hd e=>by omega)
  have OO6:Old h g6:=(o1.trans o3).trans O6
  have b8:bin Tryd.prog .add 3 (ai N) (.int .i64 8)=some (ai (N+8)):=addc (c:=8) (by omega)
  have sa:cC 72 1 (ptr h3.next 0) none (some (ai (N+8))) none=some (.slice (some ⟨h3.next,0,none⟩) (N+8) 72):=by
   have b1:bD 72 72 (some (ai (N+8)))=some (N+8):=by
    unfold bD ai
    simp only
    rw [if_pos (by omega),Int.toNat_natCast]
   unfold cC
   have b2:bD 72 72 (none:Option Value)=some 72:=rfl
   have b3:bD 0 (N+8) (none:Option Value)=some 0:=rfl
   simp only [cg,b1,b2,b3]
   show some (Value.slice (some ⟨h3.next,if 72=0 then 0 else 0+0*1,none⟩) (N+8-0) (72-0))=_
   rw [if_neg (by decide)]
   rfl
  have sl:=dw (off:=0) (n:=N+8) (s:=none) G6 (by rw [padT_len];omega) (padT_bys _ _ _)
  rw [List.drop_zero,←hpad] at sl
  have hg6:4≤g6.n0:=by rw [OO6.n0];exact hG
  have G3:g6.get h1.next=some s.cells:=Old.get O6 g3
  obtain ⟨h7,e7,k7,g7,w7,m7⟩:=r122 (h:=g6) hg6 (Old.get OO6 hz) (p:=h1.next) (s:=s) o G3 (by rw [OO6.n0];have:=h.ax;omega) (c:=72) sl (fun _=>by
   unfold fT
   rw [Nat.ble_eq_true_of_le (show N+8≤72 by omega)]
   rfl) (fun y hy _ e=>by cases hy;have:h3.next=h1.next:=e;omega) (by omega)
  obtain ⟨h8,z8,o8,g8,n8⟩:=fresh (List.replicate 32 (.int .u8 0)) h7
  have m6:=O6.next
  have q7:=k7.next
  simp -implicitDefEqProofs only [y5,b8,y4,sa,y3,e7,z8,ad,af]
  refine bJ (Q:=fun o:Out => ∃ h',o=some (.agg (aZ s.sum).toArray,h')∧Old h h') (sum2 (p:=h1.next) (b:=h7.next) w7.S (Old.get o8 g7) (by have:=h7.aF g7;omega) (by rw [o8.n0];exact h7.ax) g8 (p2:=ptr h.next 0) y2 y3 rfl rfl) ?_
  rintro _ y' g9 ⟨rfl,y2',y8',K9,G9,N9⟩
  simp -implicitDefEqProofs only [bn,b123_16,if_true,t123k123_14_eq]
  unfold t123k123_14
  have dc:=bg (sum_d32 s)
  rw [←hsum] at G9
  have L9:=bZ G9 dc.1 dc.2.1
  have O7:Old h h7:=Old.bN OO6 k7 (by omega)
  have O9:Old h g9:=(O7.trans o8).also K9 (fun d hd e=>by have:=O7.next;omega)
  have g1':g9.get h.next=some (List.replicate 32 (.int .u8 0)):=by
   have e1:h3.get h.next=some (List.replicate 32 (.int .u8 0)):=Old.get o3 g1
   have e6:g6.get h.next=some (List.replicate 32 (.int .u8 0)):=Old.get O6 e1
   have e7':h7.get h.next=some (List.replicate 32 (.int .u8 0)):=Kept.dv k7 e6 (by omega)
   exact Kept.dv K9 (Old.get o8 e7') (by omega)
  obtain ⟨h10,e10,k10,g10,_,_⟩:=bG (n:=32) (k':=aZ s.sum) g1' (by rw [O9.n0];exact h.ax) rfl dc.1 dc.2.2
  have L10:=bZ g10 dc.1 dc.2.1
  simp -implicitDefEqProofs only [y8',L9,y2',e10,ad]
  refine ⟨h10,?_,Old.bN O9 k10 (Nat.le_refl _)⟩
  exact gf results123 agg35 size32 (show 2<66 by decide) _ (by
   show dZ 32 (y' 2) h10=_
   rw [y2']
   exact L10)
 obtain ⟨o1,e,h',e',r⟩:=key
 exact ⟨h',aG is123 hG rfl ((t123_eq _ _ _).trans (e.trans e')),r⟩
end Go.Proofs.YtdnahgfgoajmcaaDoor

namespace Go.Proofs.YtdnahgfgoajmcaaDoor
open Go Go.Abs
attribute [local congr] aj
def H0:List (BitVec 32) := [1779033703,3144134277,1013904242,2773480762,1359893119,2600822924,528734635,1541459225].map (BitVec.ofNat 32)
def HD0:HD:=⟨H0,List.replicate 64 0,0⟩
theorem HD0_ok:HD0.Ok:=⟨rfl,rfl,fun x hx=>by have:=List.eq_of_mem_replicate (show x∈List.replicate 64 0 from hx);omega⟩
theorem bldH:ep (List.replicate 8 (.int .u32 0)) [(0,1,(.int .u32 1779033703)),(1,1,(.int .u32 3144134277)),(2,1,(.int .u32 1013904242)),(3,1,(.int .u32 2773480762)),(4,1,(.int .u32 1359893119)),(5,1,(.int .u32 2600822924)),(6,1,(.int .u32 528734635)),(7,1,(.int .u32 1541459225))]=some (.agg (wvs H0).toArray):=by kernel_rfl
theorem bldH2:ep zHash [(0,8,.agg (wvs H0).toArray)]=some (.agg HD0.cells.toArray):=by kernel_rfl
theorem r121 {h:ab} (hG:4≤h.n0) : ∃ h',CW 121 [] h=some (ptr h.next 0,h')∧Old h h'∧h'.get h.next=some HD0.cells∧h'.next=h.next+1:=by
 have b:=box_at h HD0.cells (hash_ok HD0).2
 refine ⟨h.alloc HD0.cells,aG is121 hG rfl ((t121_eq _ _).trans ?_),Kept.alloc _ _ _,by rw [ab.aH,if_pos rfl],ab.dU ..⟩
 unfold t121
 simp -implicitDefEqProofs only [bldH,bldH2,b,ad,af]
theorem is69:cj Tryd.prog 69 Tryd.f69:=⟨by kernel_rfl,by kernel_rfl,by kernel_rfl,by kernel_rfl⟩
theorem is70:cj Tryd.prog 70 Tryd.f70:=⟨by kernel_rfl,by kernel_rfl,by kernel_rfl,by kernel_rfl⟩
theorem results69:Tryd.f69.results.toList = [.cell 2 35]:=by kernel_rfl
theorem results70:Tryd.f70.results.toList = [.cell 4 35]:=by kernel_rfl
def leafD (r:ak):List Nat:=((HD0.wr [0]).wr (encRec r)).sum
def cM (a b:List Nat):List Nat:=(((HD0.wr [1]).wr a).wr b).sum
theorem leafD_ok (r:ak):fo (leafD r):=sum_d32 _
theorem nodeD_ok (a b:List Nat):fo (cM a b):=sum_d32 _
set_option maxRecDepth 100000 in
theorem r69 {h:ab} (hG:4≤h.n0) (hz:h.get 3=some bB) {r:ak} (w:r.Wf) (v:fA r=true) : ∃ h',CW 69 [.agg (recC r).toArray] h=some (.agg (aZ (leafD r)).toArray,h')∧Old h h':=by
 obtain ⟨h1,b1,o1,g1,n1⟩:=fY h w
 obtain ⟨h2,z2,o2,g2,n2⟩:=fresh (List.replicate 32 (.int .u8 0)) h1
 have L2:=bZ (o2.get g1) (bm w).1 (bm w).2.1
 have O2:=o1.trans o2
 obtain ⟨a,c,h3,e3,s3,o3,ha,gd⟩:=r43 (h:=h2) (by rw [O2.n0];exact hG) w v
 have O3:=O2.trans o3
 obtain ⟨h4,e4,o4,g4,n4⟩:=r121 (h:=h3) (by rw [O3.n0];exact hG)
 have O4:=O3.trans o4
 have b5:du 1 (.int .u8 0) 1 [(0,.int .u8 0)] h4=some (.slice (some ⟨h4.next,0,none⟩) 1 1,h4.alloc [u8 0]):=bsl1 h4 0
 have o5:Old h4 (h4.alloc [u8 0]):=Kept.alloc _ _ _
 have s5:=bytes1 h4 (x:=0) (by decide)
 have O5:=O4.trans o5
 obtain ⟨h6,e6,k6,g6,w6,m6⟩:=r122 (h:=h4.alloc [u8 0]) (by rw [O5.n0];exact hG) (Old.get O5 hz) (p:=h3.next) HD0_ok (Old.get o5 g4) (by rw [O5.n0];have:=h.ax;have:=O3.next;omega) (c:=1) s5 (fun _=>rfl) (fun y hy _ e=>by cases hy;have:h4.next=h3.next:=e;omega) (by show 0+1≤1000000;omega)
 have O6:Old h h6:=Old.bN O5 k6 (by have:=O3.next;omega)
 have s6:aq a 53 h6=some (encRec r):=k6.bytes (Old.bytes (o4.trans o5) s3) (fun y hy _ e=>by
  have q:=ha y hy
  have:y.block<h3.next:=by
   obtain ⟨b',off',s',k',hx,hk',_⟩:=(aD s3).2.2 (by decide)
   rw [hy] at hx
   cases hx
   exact h3.aF hk'
  omega)
 obtain ⟨h7,e7,k7,g7,w7,m7⟩:=r122 (h:=h6) (by rw [O6.n0];exact hG) (Old.get O6 hz) (p:=h3.next) w6 g6 (by rw [O6.n0];have:=h.ax;have:=O3.next;omega) (c:=c) s6 (fun _=>gd) (fun y hy _ e=>by
  have q:=ha y hy
  have:y.block<h3.next:=by
   obtain ⟨b',off',s',k',hx,hk',_⟩:=(aD s3).2.2 (by decide)
   rw [hy] at hx
   cases hx
   exact h3.aF hk'
  omega) (by rw [m6];show 0+1+53≤1000000;omega)
 have O7:Old h h7:=Old.bN O6 k7 (by have:=O3.next;omega)
 obtain ⟨h8,e8,o8⟩:=r123 (h:=h7) (by rw [O7.n0];exact hG) (Old.get O7 hz) (p:=h3.next) w7 g7 (by rw [m7,m6];show 0+1+53≤100000;omega)
 have O8:=O7.trans o8
 have e8:CW 123 [ptr h3.next 0] h7=some (.agg (aZ (leafD r)).toArray,h8):=e8
 have dc:=bg (leafD_ok r)
 have hne : ¬h1.next=h3.next:=by have:=o3.next;omega
 have q2:h8.get h1.next=some (List.replicate 32 (.int .u8 0)):=Old.get o8 (Kept.dv k7 (Kept.dv k6 (Old.get (o4.trans o5) (o3.get g2)) hne) hne)
 obtain ⟨h9,e9,k9,g9,_,_⟩:=bG (n:=32) (k':=aZ (leafD r)) q2 (by rw [O8.n0];have:=h.ax;have:=o1.next;omega) rfl dc.1 dc.2.2
 have L9:=bZ g9 dc.1 dc.2.1
 refine ⟨h9,aG is69 hG rfl ((t69_eq _ _ _).trans ?_),Old.bN O8 k9 (by have:=o1.next;omega)⟩
 unfold t69
 simp -implicitDefEqProofs only [b1,z2,L2,e3,ext0,ext1,e4,b5,e6,e7,e8,e9,ad,af]
 exact gf results69 agg35 size32 (show 2<20 by decide) _ L9
set_option maxRecDepth 100000 in
theorem r70 {h:ab} (hG:4≤h.n0) (hz:h.get 3=some bB) {a b:List Nat} (wa:fo a) (wb:fo b) : ∃ h',CW 70 [.agg (aZ a).toArray,.agg (aZ b).toArray] h=some (.agg (aZ (cM a b)).toArray,h')∧Old h h':=by
 have ca:=bg wa
 have cb:=bg wb
 have b1:=box_at h _ ca.2.2
 have o1:Old h (h.alloc (aZ a)):=Kept.alloc _ _ _
 have g1:(h.alloc (aZ a)).get h.next=some (aZ a):=by rw [ab.aH,if_pos rfl]
 have n1:(h.alloc (aZ a)).next=h.next+1:=ab.dU ..
 generalize h.alloc (aZ a)=h1 at *
 have b2:=box_at h1 _ cb.2.2
 have o2:Old h1 (h1.alloc (aZ b)):=Kept.alloc _ _ _
 have g2:(h1.alloc (aZ b)).get h1.next=some (aZ b):=by rw [ab.aH,if_pos rfl]
 have n2:(h1.alloc (aZ b)).next=h1.next+1:=ab.dU ..
 generalize h1.alloc (aZ b)=h2 at *
 obtain ⟨h3,z3,o3,g3,n3⟩:=fresh (List.replicate 32 (.int .u8 0)) h2
 have O3:=(o1.trans o2).trans o3
 obtain ⟨h4,e4,o4,g4,n4⟩:=r121 (h:=h3) (by rw [O3.n0];exact hG)
 have O4:=O3.trans o4
 have b5:du 1 (.int .u8 0) 1 [(0,.int .u8 1)] h4=some (.slice (some ⟨h4.next,0,none⟩) 1 1,h4.alloc [u8 1]):=bsl1 h4 1
 have o5:Old h4 (h4.alloc [u8 1]):=Kept.alloc _ _ _
 have s5:=bytes1 h4 (x:=1) (by decide)
 have O5:=O4.trans o5
 have hpl:h.n0≤h3.next:=by have:=h.ax;have:=O3.next;omega
 obtain ⟨h6,e6,k6,g6,w6,m6⟩:=r122 (h:=h4.alloc [u8 1]) (by rw [O5.n0];exact hG) (Old.get O5 hz) (p:=h3.next) HD0_ok (Old.get o5 g4) (by rw [O5.n0];exact hpl) (c:=1) s5 (fun _=>rfl) (fun y hy _ e=>by cases hy;have:h4.next=h3.next:=e;omega) (by show 0+1≤1000000;omega)
 have O6:Old h h6:=Old.bN O5 k6 (by have:=O3.next;omega)
 have q1:h6.get h.next=some (aZ a):=Kept.dv k6 (Old.get (((o2.trans o3).trans o4).trans o5) g1) (by omega)
 have q2:h6.get h1.next=some (aZ b):=Kept.dv k6 (Old.get ((o3.trans o4).trans o5) g2) (by omega)
 have t1:=dw (off:=0) (n:=32) (s:=none) q1 (by rw [wa.1];decide) wa.2
 rw [List.drop_zero,List.take_of_length_le (by rw [wa.1];decide)] at t1
 obtain ⟨h7,e7,k7,g7,w7,m7⟩:=r122 (h:=h6) (by rw [O6.n0];exact hG) (Old.get O6 hz) (p:=h3.next) w6 g6 (by rw [O6.n0];exact hpl) (c:=32) t1 (fun _=>rfl) (fun y hy _ e=>by cases hy;have:h.next=h3.next:=e;omega) (by rw [m6];show 0+1+32≤1000000;omega)
 have O7:Old h h7:=Old.bN O6 k7 (by have:=O3.next;omega)
 have t2:=dw (off:=0) (n:=32) (s:=none) (Kept.dv k7 q2 (by omega)) (by rw [wb.1];decide) wb.2
 rw [List.drop_zero,List.take_of_length_le (by rw [wb.1];decide)] at t2
 obtain ⟨h8,e8,k8,g8,w8,m8⟩:=r122 (h:=h7) (by rw [O7.n0];exact hG) (Old.get O7 hz) (p:=h3.next) w7 g7 (by rw [O7.n0];exact hpl) (c:=32) t2 (fun _=>rfl) (fun y hy _ e=>by cases hy;have:h1.next=h3.next:=e;omega) (by rw [m7,m6];show 0+1+32+32≤1000000;omega)
 have O8:Old h h8:=Old.bN O7 k8 (by have:=O3.next;omega)
 obtain ⟨h9,e9,o9⟩:=r123 (h:=h8) (by rw [O8.n0];exact hG) (Old.get O8 hz) (p:=h3.next) w8 g8 (by rw [m8,m7,m6];show 0+1+32+32≤100000;omega)
 have O9:=O8.trans o9
 have e9:CW 123 [ptr h3.next 0] h8=some (.agg (aZ (cM a b)).toArray,h9):=e9
 have dc:=bg (nodeD_ok a b)
 have hne : ¬h2.next=h3.next:=by omega
 have q3:h9.get h2.next=some (List.replicate 32 (.int .u8 0)):=Old.get o9 (Kept.dv k8 (Kept.dv k7 (Kept.dv k6 (Old.get (o4.trans o5) g3) hne) hne) hne)
 obtain ⟨h10,e10,k10,g10,_,_⟩:=bG (n:=32) (k':=aZ (cM a b)) q3 (by rw [O9.n0];have:=h.ax;omega) rfl dc.1 dc.2.2
 have L10:=bZ g10 dc.1 dc.2.1
 refine ⟨h10,aG is70 hG rfl ((t70_eq _ _ _ _).trans ?_),Old.bN O9 k10 (by omega)⟩
 unfold t70
 simp -implicitDefEqProofs only [b1,b2,z3,e4,b5,e6,arr32,e7,e8,e9,e10,ad,af]
 exact gf results70 agg35 size32 (show 4<18 by decide) _ L10
end Go.Proofs.YtdnahgfgoajmcaaDoor

namespace Go.Proofs.YtdnahgfgoajmcaaDoor
open Go Go.Abs
attribute [local congr] aj
end Go.Proofs.YtdnahgfgoajmcaaDoor

namespace Go.Proofs.YtdnahgfgoajmcaaDoor
open Go Go.Abs
attribute [local congr] aj
end Go.Proofs.YtdnahgfgoajmcaaDoor

namespace Go.Proofs.YtdnahgfgoajmcaaDoor
open Go Go.Abs
attribute [local congr] aj
end Go.Proofs.YtdnahgfgoajmcaaDoor

namespace Go.Proofs.YtdnahgfgoajmcaaDoor
open Go Go.Abs
attribute [local congr] aj
end Go.Proofs.YtdnahgfgoajmcaaDoor

namespace Go.Proofs.YtdnahgfgoajmcaaDoor
open Go Go.Abs
attribute [local congr] aj
def foldB:Nat→List Nat→List (BitVec 32)→List (BitVec 32)
 | 0,_,S=>S
 |t+1,m,S=>foldB t (m.drop 64) (compS S (m.take 64))
end Go.Proofs.YtdnahgfgoajmcaaDoor

namespace Go.Proofs.YtdnahgfgoajmcaaDoor
open Go Go.Abs
attribute [local congr] aj
def zerosN (n:Nat):Nat:=(119-n%64)%64
def padM (l:List Nat):List Nat:=((l ++ [128])++List.replicate (zerosN l.length) 0)++beB 8 (l.length*8)
def blocksN (l:List Nat):Nat:=(l.length+zerosN l.length+9)/64
def sumR (S:List (BitVec 32)) (l:List Nat):List Nat:=digT (foldB (blocksN l) (padM l) S) 32
end Go.Proofs.YtdnahgfgoajmcaaDoor

namespace Go.Proofs.YtdnahgfgoajmcaaDoor
open Go Go.Abs
attribute [local congr] aj
def nodeR (a b:List Nat):List Nat:=sumR H0 (([1]++a)++b)
end Go.Proofs.YtdnahgfgoajmcaaDoor

namespace Go.Proofs.YtdnahgfgoajmcaaDoor
open Go Go.Abs
attribute [local congr] aj
end Go.Proofs.YtdnahgfgoajmcaaDoor

namespace Go.Proofs.YtdnahgfgoajmcaaDoor
open Go Go.Abs
end Go.Proofs.YtdnahgfgoajmcaaDoor

namespace Go.Proofs.YtdnahgfgoajmcaaDoor
open Go Go.Abs
end Go.Proofs.YtdnahgfgoajmcaaDoor

namespace Go.Proofs.YtdnahgfgoajmcaaDoor
open Go Go.Abs
end Go.Proofs.YtdnahgfgoajmcaaDoor

namespace Go.Proofs.YtdnahgfgoajmcaaDoor
open Go Go.Abs
attribute [local congr] aj
def halfG:Nat→Nat→Nat→Nat
 | 0,m,_=>m
 |f+1,m,n=>if 2*m<n then halfG f (2*m) n else m
def halfN (n:Nat):Nat:=halfG 30 1 n
end Go.Proofs.YtdnahgfgoajmcaaDoor

namespace Go.Proofs.YtdnahgfgoajmcaaDoor
open Go Go.Abs
attribute [local congr] aj
def lvl:Nat→Nat→Nat→Nat×Nat
 | 0,i,b=>(i,b)
 |f+1,i,b=>if i%2=0∧i≠0 then lvl f (i/2) (b/2) else (i,b)
theorem and1 {i:Nat} (hi:i≤1048576):bin Tryd.prog .and 3 (ai i) (.int .i64 1)=some (ai (i%2)):=by
 unfold ai
 rw [dg]
 unfold binI bitsA
 simp only
 have e1:BitVec.ofInt (IntKind.bits .i64) ((i:Nat):Int)=BitVec.ofNat 64 i:=by
  show BitVec.ofInt 64 _=_
  rw [BitVec.ofInt_natCast]
 have e2:BitVec.ofInt (IntKind.bits .i64) 1=BitVec.ofNat 64 1:=rfl
 rw [e1,e2]
 have e3:(BitVec.ofNat 64 i &&& BitVec.ofNat 64 1).toNat=i%2:=by
  rw [BitVec.toNat_and,BitVec.toNat_ofNat,BitVec.toNat_ofNat,Nat.mod_eq_of_lt (by omega),show 1%2^64=1 from rfl,Nat.and_one_is_mod]
 show some (Value.int .i64 (IntKind.wrap .i64 (((BitVec.ofNat 64 i &&& BitVec.ofNat 64 1).toNat:Nat):Int)))=_
 rw [e3,wrap_i64 (by omega) (by omega)]
theorem shr1 {i:Nat}:bin Tryd.prog .shr 3 (ai i) (.int .u64 1)=some (ai (i/2)):=fN Tryd.prog 3 (k := .i64) (k' := .u64) (b:=1) (by decide)
end Go.Proofs.YtdnahgfgoajmcaaDoor

namespace Go.Proofs.YtdnahgfgoajmcaaDoor
open Go Go.Abs
attribute [local congr] aj
def PR (h:ab) (v:Value) (P:List (List Nat)):Prop:=
 (∃ a c,v = .slice a P.length c)∧(∀ p∈P,fo p) ∧ ∀ j,j<P.length → ∃ b o,cd 32 v (ai j)=some (ptr b o)∧b<h.next ∧ ∀ g:ab,g.get b=h.get b→dZ 32 (ptr b o) g=some (.agg (aZ (P.getD j [])).toArray,g)
def vr:List (List Nat)→Nat→Nat→List Nat→Option (Nat×List Nat)
 | [],_,b,D=>some (b,D)
 |p::P,i,b,D=>if b=0 then none else if i%2=1∨i=b then vr P ((lvl i i b).1/2) ((lvl i i b).2/2) (cM p D) else vr P (i/2) (b/2) (cM D p)
end Go.Proofs.YtdnahgfgoajmcaaDoor

namespace Go.Proofs.YtdnahgfgoajmcaaDoor
open Go Go.Abs
attribute [local congr] aj
theorem eql0 (b:Nat):bin Tryd.prog .eql 3 (ai b) (.int .i64 0)=some (.bool (decide (b=0))):=by
 unfold ai
 rw [cB]
 congr 2
 rw [Bool.eq_iff_iff]
 simp only [beq_iff_eq,decide_eq_true_eq]
 omega
theorem PR.mono {h h':ab} {v:Value} {P:List (List Nat)} (x:PR h v P) (o:Old h h'):PR h' v P:=by
 refine ⟨x.1,x.2.1,fun j hj => ?_⟩
 obtain ⟨b,q,h1,h2,h3⟩:=x.2.2 j hj
 have hb:h'.get b=h.get b:=Kept.get o b h2 (fun h=>h)
 exact ⟨b,q,h1,Nat.lt_of_lt_of_le h2 o.next,fun g e=>h3 g (e.trans hb)⟩
end Go.Proofs.YtdnahgfgoajmcaaDoor

namespace Go.Proofs.YtdnahgfgoajmcaaDoor
open Go Go.Abs
attribute [local congr] aj
theorem halfG_ge : ∀ (f m n:Nat),m≤halfG f m n
 | 0,m,n=>Nat.le_refl _
 |f+1,m,n=>by
  rw [halfG]
  split
  ·exact Nat.le_trans (by omega) (halfG_ge f (2*m) n)
  ·exact Nat.le_refl _
theorem halfG_lt : ∀ (f m n:Nat),m<n→halfG f m n<n
 | 0,m,n,h=>h
 |f+1,m,n,h=>by
  rw [halfG]
  split
  ·exact halfG_lt f (2*m) n (by assumption)
  ·exact h
theorem half_pos (n:Nat):1≤halfN n:=halfG_ge _ _ _
theorem half_lt {n:Nat} (h:2≤n):halfN n<n:=halfG_lt _ _ _ h
theorem eql1 (n:Nat):bin Tryd.prog .eql 3 (ai n) (.int .i64 1)=some (.bool (decide (n=1))):=by
 unfold ai
 rw [cB]
 congr 2
 rw [Bool.eq_iff_iff]
 simp only [beq_iff_eq,decide_eq_true_eq]
 omega
theorem sub_nn {a b:Nat} (h:b≤a) (ha:a<9223372036854775808):bin Tryd.prog .sub 3 (ai a) (ai b)=some (ai (a-b)):=by
 unfold ai
 rw [bin_sub,show (a:Int)-(b:Int)=((a-b:Nat):Int) by omega,wrap_i64 (by omega) (by omega)]
theorem sub_n1 {a:Nat} (h:1≤a) (ha:a<9223372036854775808):bin Tryd.prog .sub 3 (ai a) (.int .i64 1)=some (ai (a-1)):=sub_nn (b:=1) h ha
def gS (v:Value):Prop := ∃ a n c,v = .slice a n c∧n≤c∧(0<n → ∀ b o s,a=some ⟨b,o,some s⟩→s=32)
theorem PR.last {h:ab} {v:Value} {P:List (List Nat)} {p:List Nat} (x:PR h v (P ++ [p])) : ∃ b o,cd 32 v (ai P.length)=some (ptr b o)∧fo p ∧ ∀ g:ab,Old h g→dZ 32 (ptr b o) g=some (.agg (aZ p).toArray,g):=by
 obtain ⟨b,o,e1,e2,e3⟩:=x.2.2 P.length (by rw [List.length_append,List.length_singleton];omega)
 have e4:(P ++ [p]).getD P.length []=p:=by
  rw [List.getD_eq_getElem?_getD,List.getElem?_append_right (Nat.le_refl _),Nat.sub_self]
  rfl
 rw [e4] at e3
 exact ⟨b,o,e1,x.2.1 p (List.mem_append_right _ List.mem_cons_self),fun g og=>e3 g (Kept.get og b e2 (fun h=>h))⟩
theorem PR.len {h:ab} {v:Value} {P:List (List Nat)} (x:PR h v P):cx v=some (ai P.length):=by
 obtain ⟨⟨a,c,rfl⟩,_,_⟩:=x
 rfl
end Go.Proofs.YtdnahgfgoajmcaaDoor

namespace Go.Proofs.YtdnahgfgoajmcaaDoor
open Go Go.Abs
theorem halfG_s (f m n:Nat):halfG (f+1) m n=if 2*m<n then halfG f (2*m) n else m:=rfl
theorem halfG_fuel : ∀ (f m n:Nat),n≤m*2^(f+1)→halfG (f+1) m n=halfG f m n
 | 0,m,n,h=>by
   rw [halfG_s,if_neg (by omega)]
   rfl
 |f+1,m,n,h=>by
  rw [halfG_s (f+1) m n,halfG_s f m n]
  split
  ·exact halfG_fuel f (2*m) n (by
    calc n≤m*2^(f+1+1):=h
     _=2*m*2^(f+1):=by rw [Nat.pow_succ 2 (f+1),Nat.mul_comm (2^(f+1)) 2,←Nat.mul_assoc,Nat.mul_comm m 2])
  ·rfl
theorem halfG_two : ∀ (f m n:Nat),halfG f (2*m) n=2*halfG f m ((n+1)/2)
 | 0,m,n=>rfl
 |f+1,m,n=>by
  rw [halfG_s,halfG_s]
  by_cases c:2*(2*m)<n
  ·rw [if_pos c,if_pos (by omega),halfG_two f (2*m) n]
  ·rw [if_neg c,if_neg (by omega)]
theorem half_two {n:Nat} (h:3≤n) (hn:n≤1048576):halfN n=2*halfN ((n+1)/2):=by
 unfold halfN
 rw [show halfG 30 1 n=halfG 29 (2*1) n by rw [halfG_s,if_pos (by omega)],halfG_two 29 1 n,halfG_fuel 29 1 _ (by omega)]
def stp (i:Nat) (p D:List Nat):List Nat:=if i%2=1 then nodeR p D else nodeR D p
end Go.Proofs.YtdnahgfgoajmcaaDoor

namespace Go.Proofs.YtdnahgfgoajmcaaDoor
open Go Go.Abs
attribute [local congr] aj
def eC (P:List (List Nat)):List Value:=P.flatMap aZ
theorem digsC_len : ∀ {P:List (List Nat)},(∀ p∈P,fo p)→(eC P).length=P.length*32
 | [],_=>rfl
 |p::P,h=>by
  have ih:=digsC_len (P:=P) fun q hq=>h q (List.mem_cons_of_mem _ hq)
  have hp:=(bg (h p List.mem_cons_self)).1
  unfold eC at ih ⊢
  rw [List.flatMap_cons,List.length_append,ih,hp,List.length_cons]
  omega
theorem digsC_get : ∀ {P:List (List Nat)},(∀ p∈P,fo p) → ∀ {j:Nat},j<P.length→((eC P).drop (j*32)).take 32=aZ (P.getD j [])
 | [],_,j,hj=>absurd hj (Nat.not_lt_zero j)
 |p::P,h,j,hj=>by
  have hp:=(bg (h p List.mem_cons_self)).1
  cases j with
  |zero=>
   unfold eC
   rw [List.flatMap_cons,Nat.zero_mul,List.drop_zero,←hp,List.take_left]
   rfl
  |succ j=>
   have ih:=digsC_get (P:=P) (fun q hq=>h q (List.mem_cons_of_mem _ hq)) (j:=j) (by rw [List.length_cons] at hj;omega)
   unfold eC at ih ⊢
   rw [List.flatMap_cons,show (j+1)*32=32+j*32 by omega,←List.drop_drop,List.drop_left' hp,List.getD_cons_succ,ih]
theorem digsC_ok : ∀ {P:List (List Nat)},(∀ p∈P,fo p)→Abs.bj (eC P)=true∧az (eC P)=true
 | [],_=>⟨rfl,rfl⟩
 |p::P,h=>by
  have ih:=digsC_ok (P:=P) fun q hq=>h q (List.mem_cons_of_mem _ hq)
  have hp:=bg (h p List.mem_cons_self)
  unfold eC at ih ⊢
  unfold Abs.bj az at *
  rw [List.flatMap_cons,List.all_append,List.all_append,ih.1,ih.2,hp.2.1,hp.2.2]
  exact ⟨rfl,rfl⟩
end Go.Proofs.YtdnahgfgoajmcaaDoor

